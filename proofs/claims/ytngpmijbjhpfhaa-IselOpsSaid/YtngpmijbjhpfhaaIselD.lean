/- isel.Address and the reference's. -/
import Derived.Test.YtngpmijbjhpfhaaIselR
import Derived.Test.YtngpmijbjhpfhaaIselA
namespace Go.Proofs.Ytngpmijbjhpfhaa.Isel
open Go.RowKit Go.Proofs.YtngpmijbjhpfhaaW.PrintWords Go.Proofs.YtngpmijbjhpfhaaW.PrintLast Go.Proofs.Ytngpmijbjhpfhaa.Mem
open PIselOps (S42 S40 k42 k40 k42_open k42_mkM k42_mk)
set_option linter.unusedVariables false
set_option linter.unusedSimpArgs false

def memOf (m0 m1 k : Int) : Int := if k = 0 then m0 else m1
def addrOk (m0 m1 k off n : Int) : Bool := decide ((k = 0 ∨ k = 1) ∧ 3 ≤ memOf m0 m1 k ∧ memOf m0 m1 k ≤ 12 ∧ 0 ≤ off ∧ off ≤ 4294967295 ∧ (n = 4 ∨ n = 8))
def addrS (mk off n : Int) : List S42 := [⟨⟨1, false, 0, 0, 0, 0, 0⟩, 0, 0⟩, ⟨⟨2, true, 1, 0, 0, 0, off⟩, 0, 0⟩, ⟨⟨3, true, 1, 0, 0, 0, 0⟩, 0, 0⟩, ⟨⟨2, true, 1, 0, 0, 0, wrap64 (wrap64 (2 ^ mk.toNat) - n)⟩, 0, 0⟩, ⟨⟨3, true, 1, 0, 0, 7, 0⟩, 0, 0⟩, ⟨⟨18, false, 0, 0, 0, 7, 0⟩, 0, 3⟩, ⟨⟨2, true, 1, 0, 0, 0, wrap64 (wrap64 (2 ^ mk.toNat) - 1)⟩, 0, 0⟩, ⟨⟨3, true, 1, 0, 0, 4, 0⟩, 0, 0⟩]
def addrF (m0 m1 k off n : Int) : List S42 := if addrOk m0 m1 k off n = true then addrS (memOf m0 m1 k) off n else []
def AddrOut (w : World) (l : List S42) (ok : Bool) (e : Ending) (w' : World) : Prop := ∃ v, e = .returned (.tuple #[v, .bool ok]) ∧ k42.R 42 w' w.heap.size (fun _ => True) v l ∧ Below w.heap.size w w'
set_option maxHeartbeats 4000000 in
set_option maxRecDepth 100000 in
theorem addr_calls {A1 A2 A3 A4 A5 : Option Addr} {n1 n2 n3 n4 n5 c1 c2 c3 c4 c5 : Nat} (m0 m1 k off n : Int) (w : World) : Calls Try.prog 8 #[.agg #[.slice A1 n1 c1, .slice A2 n2 c2, .slice A3 n3 c3, .int .i64 m0, .int .i64 m1, .slice A4 n4 c4, .slice A5 n5 c5], .int .i64 k, .int .i64 off, .int .i64 n] w (AddrOut w (addrF m0 m1 k off n) (addrOk m0 m1 k off n)) := by
  have HB := Aside0.mk ((Below.refl w.heap.size w).alloc (Nat.le_refl _) (.cells #[.slice A1 n1 c1, .slice A2 n2 c2, .slice A3 n3 c3, .int .i64 m0, .int .i64 m1, .slice A4 n4 c4, .slice A5 n5 c5] 29))
  by_cases h1 : k < 0
  · have b1 : decide (k < 0) = true := decide_eq_true h1
    have hno := decide_eq_false (p := _) (show ¬ (((k : Int) = 0 ∨ (k : Int) = 1) ∧ 3 ≤ memOf m0 m1 k ∧ memOf m0 m1 k ≤ 12 ∧ 0 ≤ off ∧ off ≤ 4294967295 ∧ (n = 4 ∨ n = 8)) by unfold memOf; split <;> omega)
    have hno2 : addrOk m0 m1 k off n = false := hno
    unfold addrF
    rw [hno2, if_neg (by simp)]
    clear hno hno2
    go_enter Try.func8, Try.ntmps8
    go_wp2_with fail
    go_ret2
    exact ⟨_, rfl, Kd.R_nil _ _ _ _ _, HB.out⟩
  have b1 : decide (k < 0) = false := decide_eq_false h1
  by_cases h2 : 1 < k
  · have b2 : decide (1 < k) = true := decide_eq_true h2
    have hno := decide_eq_false (p := _) (show ¬ (((k : Int) = 0 ∨ (k : Int) = 1) ∧ 3 ≤ memOf m0 m1 k ∧ memOf m0 m1 k ≤ 12 ∧ 0 ≤ off ∧ off ≤ 4294967295 ∧ (n = 4 ∨ n = 8)) by unfold memOf; split <;> omega)
    have hno2 : addrOk m0 m1 k off n = false := hno
    unfold addrF
    rw [hno2, if_neg (by simp)]
    clear hno hno2
    clear h2
    go_enter Try.func8, Try.ntmps8
    go_wp2_with fail
    go_ret2
    exact ⟨_, rfl, Kd.R_nil _ _ _ _ _, HB.out⟩
  have hk : k = 0 ∨ k = 1 := by omega
  clear b1 h1 h2
  rcases hk with rfl | rfl
  · by_cases h3 : m0 < 3
    · have b3 : decide (m0 < 3) = true := decide_eq_true h3
      have hno := decide_eq_false (p := _) (show ¬ (((0 : Int) = 0 ∨ (0 : Int) = 1) ∧ 3 ≤ memOf m0 m1 0 ∧ memOf m0 m1 0 ≤ 12 ∧ 0 ≤ off ∧ off ≤ 4294967295 ∧ (n = 4 ∨ n = 8)) by unfold memOf; split <;> omega)
      have hno2 : addrOk m0 m1 0 off n = false := hno
      unfold addrF
      rw [hno2, if_neg (by simp)]
      clear hno hno2
      go_enter Try.func8, Try.ntmps8
      go_wp2_with fail
      go_ret2
      exact ⟨_, rfl, Kd.R_nil _ _ _ _ _, HB.out⟩
    have b3 : decide (m0 < 3) = false := decide_eq_false h3
    by_cases h4 : 12 < m0
    · have b4 : decide (12 < m0) = true := decide_eq_true h4
      have hno := decide_eq_false (p := _) (show ¬ (((0 : Int) = 0 ∨ (0 : Int) = 1) ∧ 3 ≤ memOf m0 m1 0 ∧ memOf m0 m1 0 ≤ 12 ∧ 0 ≤ off ∧ off ≤ 4294967295 ∧ (n = 4 ∨ n = 8)) by unfold memOf; split <;> omega)
      have hno2 : addrOk m0 m1 0 off n = false := hno
      unfold addrF
      rw [hno2, if_neg (by simp)]
      clear hno hno2
      go_enter Try.func8, Try.ntmps8
      go_wp2_with fail
      go_ret2
      exact ⟨_, rfl, Kd.R_nil _ _ _ _ _, HB.out⟩
    have b4 : decide (12 < m0) = false := decide_eq_false h4
    by_cases h5 : off < 0
    · have b5 : decide (off < 0) = true := decide_eq_true h5
      have hno := decide_eq_false (p := _) (show ¬ (((0 : Int) = 0 ∨ (0 : Int) = 1) ∧ 3 ≤ memOf m0 m1 0 ∧ memOf m0 m1 0 ≤ 12 ∧ 0 ≤ off ∧ off ≤ 4294967295 ∧ (n = 4 ∨ n = 8)) by unfold memOf; split <;> omega)
      have hno2 : addrOk m0 m1 0 off n = false := hno
      unfold addrF
      rw [hno2, if_neg (by simp)]
      clear hno hno2
      go_enter Try.func8, Try.ntmps8
      go_wp2_with fail
      go_ret2
      exact ⟨_, rfl, Kd.R_nil _ _ _ _ _, HB.out⟩
    have b5 : decide (off < 0) = false := decide_eq_false h5
    by_cases h6 : 4294967295 < off
    · have b6 : decide (4294967295 < off) = true := decide_eq_true h6
      have hno := decide_eq_false (p := _) (show ¬ (((0 : Int) = 0 ∨ (0 : Int) = 1) ∧ 3 ≤ memOf m0 m1 0 ∧ memOf m0 m1 0 ≤ 12 ∧ 0 ≤ off ∧ off ≤ 4294967295 ∧ (n = 4 ∨ n = 8)) by unfold memOf; split <;> omega)
      have hno2 : addrOk m0 m1 0 off n = false := hno
      unfold addrF
      rw [hno2, if_neg (by simp)]
      clear hno hno2
      go_enter Try.func8, Try.ntmps8
      go_wp2_with fail
      go_ret2
      exact ⟨_, rfl, Kd.R_nil _ _ _ _ _, HB.out⟩
    have b6 : decide (4294967295 < off) = false := decide_eq_false h6
    by_cases h7 : n = 4 ∨ n = 8
    · have hyes : addrOk m0 m1 0 off n = true := decide_eq_true (by unfold memOf; split <;> omega)
      unfold addrF
      rw [hyes, if_pos rfl, show memOf m0 m1 0 = m0 from rfl]
      have hm0 : 0 ≤ m0 := by omega
      have hm60 : m0 < 60 := by omega
      clear hyes h3 h4 h5 h6
      rcases h7 with rfl | rfl
      all_goals
        have hC := Cd.init HB.out
        rw [World.size_alloc] at hC
        have HC := Aside0.mk hC
        clear hC HB
        go_enter Try.func8, Try.ntmps8
        go_wp2_with (first
      | (go_at_call 19; refine (alu_calls _ _ _ _  _).mono ?_; rintro e w' ⟨rfl, hb⟩; replace HC := Aside0.mk (HC.out.below hb); clear hb)
      | (go_at_call 18; refine (num_calls _ _  _).mono ?_; rintro e w' ⟨rfl, hb⟩; replace HC := Aside0.mk (HC.out.below hb); clear hb))
        refine (x_calls (HC.out.alloc _) _ [⟨1, false, 0, 0, 0, 0, 0⟩, ⟨2, true, 1, 0, 0, 0, off⟩, ⟨3, true, 1, 0, 0, 0, 0⟩, ⟨2, true, 1, 0, 0, 0, _⟩, ⟨3, true, 1, 0, 0, 7, 0⟩] 5 (blk_new _ _) (by simp)).mono ?_
        rintro e W1 ⟨rfl, v1, hC, hK⟩
        clear HC hK
        have HC := Aside0.mk hC
        clear hC
        simp only [List.nil_append, List.cons_append, List.map_cons, List.map_nil, List.append_nil, is, zX] at HC
        go_wp2_with fail
        refine (when_calls HC.out 7 3 (by simp)).mono ?_
        rintro e W2 ⟨rfl, v2, hC, hK⟩
        clear HC hK
        have HC := Aside0.mk hC
        clear hC
        simp only [List.nil_append, List.cons_append, List.map_cons, List.map_nil, List.append_nil, is, zX] at HC
        go_wp2_with (first
      | (go_at_call 19; refine (alu_calls _ _ _ _  _).mono ?_; rintro e w' ⟨rfl, hb⟩; replace HC := Aside0.mk (HC.out.below hb); clear hb)
      | (go_at_call 18; refine (num_calls _ _  _).mono ?_; rintro e w' ⟨rfl, hb⟩; replace HC := Aside0.mk (HC.out.below hb); clear hb))
        refine (x_calls (HC.out.alloc _) _ [⟨2, true, 1, 0, 0, 0, _⟩, ⟨3, true, 1, 0, 0, 4, 0⟩] 2 (blk_new _ _) (by simp)).mono ?_
        rintro e W3 ⟨rfl, v3, hC, hK⟩
        clear HC hK
        have HC := Aside0.mk hC
        clear hC
        simp only [List.nil_append, List.cons_append, List.map_cons, List.map_nil, List.append_nil, is, zX] at HC
        have hc := blk_cell HC.out.box 0
        go_wp2_with fail
        go_ret2
        exact ⟨_, rfl, toS_R (Kd.R_mono HC.out.row (fun _ _ => trivial)), HC.out.bel⟩
    · have h81 : (n != 4) = true := by simp; omega
      have h82 : (n != 8) = true := by simp; omega
      have hno := decide_eq_false (p := _) (show ¬ (((0 : Int) = 0 ∨ (0 : Int) = 1) ∧ 3 ≤ memOf m0 m1 0 ∧ memOf m0 m1 0 ≤ 12 ∧ 0 ≤ off ∧ off ≤ 4294967295 ∧ (n = 4 ∨ n = 8)) by unfold memOf; split <;> omega)
      have hno2 : addrOk m0 m1 0 off n = false := hno
      unfold addrF
      rw [hno2, if_neg (by simp)]
      clear hno hno2
      go_enter Try.func8, Try.ntmps8
      go_wp2_with fail
      go_ret2
      exact ⟨_, rfl, Kd.R_nil _ _ _ _ _, HB.out⟩
  · by_cases h3 : m1 < 3
    · have b3 : decide (m1 < 3) = true := decide_eq_true h3
      have hno := decide_eq_false (p := _) (show ¬ (((1 : Int) = 0 ∨ (1 : Int) = 1) ∧ 3 ≤ memOf m0 m1 1 ∧ memOf m0 m1 1 ≤ 12 ∧ 0 ≤ off ∧ off ≤ 4294967295 ∧ (n = 4 ∨ n = 8)) by unfold memOf; split <;> omega)
      have hno2 : addrOk m0 m1 1 off n = false := hno
      unfold addrF
      rw [hno2, if_neg (by simp)]
      clear hno hno2
      go_enter Try.func8, Try.ntmps8
      go_wp2_with fail
      go_ret2
      exact ⟨_, rfl, Kd.R_nil _ _ _ _ _, HB.out⟩
    have b3 : decide (m1 < 3) = false := decide_eq_false h3
    by_cases h4 : 12 < m1
    · have b4 : decide (12 < m1) = true := decide_eq_true h4
      have hno := decide_eq_false (p := _) (show ¬ (((1 : Int) = 0 ∨ (1 : Int) = 1) ∧ 3 ≤ memOf m0 m1 1 ∧ memOf m0 m1 1 ≤ 12 ∧ 0 ≤ off ∧ off ≤ 4294967295 ∧ (n = 4 ∨ n = 8)) by unfold memOf; split <;> omega)
      have hno2 : addrOk m0 m1 1 off n = false := hno
      unfold addrF
      rw [hno2, if_neg (by simp)]
      clear hno hno2
      go_enter Try.func8, Try.ntmps8
      go_wp2_with fail
      go_ret2
      exact ⟨_, rfl, Kd.R_nil _ _ _ _ _, HB.out⟩
    have b4 : decide (12 < m1) = false := decide_eq_false h4
    by_cases h5 : off < 0
    · have b5 : decide (off < 0) = true := decide_eq_true h5
      have hno := decide_eq_false (p := _) (show ¬ (((1 : Int) = 0 ∨ (1 : Int) = 1) ∧ 3 ≤ memOf m0 m1 1 ∧ memOf m0 m1 1 ≤ 12 ∧ 0 ≤ off ∧ off ≤ 4294967295 ∧ (n = 4 ∨ n = 8)) by unfold memOf; split <;> omega)
      have hno2 : addrOk m0 m1 1 off n = false := hno
      unfold addrF
      rw [hno2, if_neg (by simp)]
      clear hno hno2
      go_enter Try.func8, Try.ntmps8
      go_wp2_with fail
      go_ret2
      exact ⟨_, rfl, Kd.R_nil _ _ _ _ _, HB.out⟩
    have b5 : decide (off < 0) = false := decide_eq_false h5
    by_cases h6 : 4294967295 < off
    · have b6 : decide (4294967295 < off) = true := decide_eq_true h6
      have hno := decide_eq_false (p := _) (show ¬ (((1 : Int) = 0 ∨ (1 : Int) = 1) ∧ 3 ≤ memOf m0 m1 1 ∧ memOf m0 m1 1 ≤ 12 ∧ 0 ≤ off ∧ off ≤ 4294967295 ∧ (n = 4 ∨ n = 8)) by unfold memOf; split <;> omega)
      have hno2 : addrOk m0 m1 1 off n = false := hno
      unfold addrF
      rw [hno2, if_neg (by simp)]
      clear hno hno2
      go_enter Try.func8, Try.ntmps8
      go_wp2_with fail
      go_ret2
      exact ⟨_, rfl, Kd.R_nil _ _ _ _ _, HB.out⟩
    have b6 : decide (4294967295 < off) = false := decide_eq_false h6
    by_cases h7 : n = 4 ∨ n = 8
    · have hyes : addrOk m0 m1 1 off n = true := decide_eq_true (by unfold memOf; split <;> omega)
      unfold addrF
      rw [hyes, if_pos rfl, show memOf m0 m1 1 = m1 from rfl]
      have hm0 : 0 ≤ m1 := by omega
      have hm60 : m1 < 60 := by omega
      clear hyes h3 h4 h5 h6
      rcases h7 with rfl | rfl
      all_goals
        have hC := Cd.init HB.out
        rw [World.size_alloc] at hC
        have HC := Aside0.mk hC
        clear hC HB
        go_enter Try.func8, Try.ntmps8
        go_wp2_with (first
      | (go_at_call 19; refine (alu_calls _ _ _ _  _).mono ?_; rintro e w' ⟨rfl, hb⟩; replace HC := Aside0.mk (HC.out.below hb); clear hb)
      | (go_at_call 18; refine (num_calls _ _  _).mono ?_; rintro e w' ⟨rfl, hb⟩; replace HC := Aside0.mk (HC.out.below hb); clear hb))
        refine (x_calls (HC.out.alloc _) _ [⟨1, false, 0, 0, 0, 0, 0⟩, ⟨2, true, 1, 0, 0, 0, off⟩, ⟨3, true, 1, 0, 0, 0, 0⟩, ⟨2, true, 1, 0, 0, 0, _⟩, ⟨3, true, 1, 0, 0, 7, 0⟩] 5 (blk_new _ _) (by simp)).mono ?_
        rintro e W1 ⟨rfl, v1, hC, hK⟩
        clear HC hK
        have HC := Aside0.mk hC
        clear hC
        simp only [List.nil_append, List.cons_append, List.map_cons, List.map_nil, List.append_nil, is, zX] at HC
        go_wp2_with fail
        refine (when_calls HC.out 7 3 (by simp)).mono ?_
        rintro e W2 ⟨rfl, v2, hC, hK⟩
        clear HC hK
        have HC := Aside0.mk hC
        clear hC
        simp only [List.nil_append, List.cons_append, List.map_cons, List.map_nil, List.append_nil, is, zX] at HC
        go_wp2_with (first
      | (go_at_call 19; refine (alu_calls _ _ _ _  _).mono ?_; rintro e w' ⟨rfl, hb⟩; replace HC := Aside0.mk (HC.out.below hb); clear hb)
      | (go_at_call 18; refine (num_calls _ _  _).mono ?_; rintro e w' ⟨rfl, hb⟩; replace HC := Aside0.mk (HC.out.below hb); clear hb))
        refine (x_calls (HC.out.alloc _) _ [⟨2, true, 1, 0, 0, 0, _⟩, ⟨3, true, 1, 0, 0, 4, 0⟩] 2 (blk_new _ _) (by simp)).mono ?_
        rintro e W3 ⟨rfl, v3, hC, hK⟩
        clear HC hK
        have HC := Aside0.mk hC
        clear hC
        simp only [List.nil_append, List.cons_append, List.map_cons, List.map_nil, List.append_nil, is, zX] at HC
        have hc := blk_cell HC.out.box 0
        go_wp2_with fail
        go_ret2
        exact ⟨_, rfl, toS_R (Kd.R_mono HC.out.row (fun _ _ => trivial)), HC.out.bel⟩
    · have h81 : (n != 4) = true := by simp; omega
      have h82 : (n != 8) = true := by simp; omega
      have hno := decide_eq_false (p := _) (show ¬ (((1 : Int) = 0 ∨ (1 : Int) = 1) ∧ 3 ≤ memOf m0 m1 1 ∧ memOf m0 m1 1 ≤ 12 ∧ 0 ≤ off ∧ off ≤ 4294967295 ∧ (n = 4 ∨ n = 8)) by unfold memOf; split <;> omega)
      have hno2 : addrOk m0 m1 1 off n = false := hno
      unfold addrF
      rw [hno2, if_neg (by simp)]
      clear hno hno2
      go_enter Try.func8, Try.ntmps8
      go_wp2_with fail
      go_ret2
      exact ⟨_, rfl, Kd.R_nil _ _ _ _ _, HB.out⟩
end Go.Proofs.Ytngpmijbjhpfhaa.Isel
