/- The reference's Address. -/
import Derived.Test.YtngpmijbjhpfhaaIselD
namespace Go.Proofs.Ytngpmijbjhpfhaa.Isel
open Go.RowKit Go.Proofs.YtngpmijbjhpfhaaW.PrintWords Go.Proofs.YtngpmijbjhpfhaaW.PrintLast Go.Proofs.Ytngpmijbjhpfhaa.Mem
open PIselOps (S42 S40 k42 k40 k42_open k42_mkM k42_mk)
set_option linter.unusedVariables false
set_option linter.unusedSimpArgs false

set_option maxHeartbeats 4000000 in
set_option maxRecDepth 100000 in
theorem raddr_calls {A1 A2 A3 A4 A5 : Option Addr} {n1 n2 n3 n4 n5 c1 c2 c3 c4 c5 : Nat} (m0 m1 k off n : Int) (w : World) : Calls Try.prog 9 #[.agg #[.slice A1 n1 c1, .slice A2 n2 c2, .slice A3 n3 c3, .int .i64 m0, .int .i64 m1, .slice A4 n4 c4, .slice A5 n5 c5], .int .i64 k, .int .i64 off, .int .i64 n] w (AddrOut w (addrF m0 m1 k off n) (addrOk m0 m1 k off n)) := by
  have HB := Aside0.mk ((Below.refl w.heap.size w).alloc (Nat.le_refl _) (.cells #[.slice A1 n1 c1, .slice A2 n2 c2, .slice A3 n3 c3, .int .i64 m0, .int .i64 m1, .slice A4 n4 c4, .slice A5 n5 c5] 29))
  by_cases h1 : k < 0
  · have b1 : decide (k < 0) = true := decide_eq_true h1
    have hno := decide_eq_false (p := _) (show ¬ (((k : Int) = 0 ∨ (k : Int) = 1) ∧ 3 ≤ memOf m0 m1 k ∧ memOf m0 m1 k ≤ 12 ∧ 0 ≤ off ∧ off ≤ 4294967295 ∧ (n = 4 ∨ n = 8)) by unfold memOf; split <;> omega)
    have hno2 : addrOk m0 m1 k off n = false := hno
    unfold addrF
    rw [hno2, if_neg (by simp)]
    clear hno hno2
    go_enter Try.func9, Try.ntmps9
    go_wp2_with fail
    go_ret2
    exact ⟨_, rfl, Kd.R_nil _ _ _ _ _, HB.out⟩
  have b1 : decide (k < 0) = false := decide_eq_false h1
  by_cases h2 : 1 < k
  · have b2 : decide (1 < k) = true := decide_eq_true h2
    have hno := decide_eq_false (p := _) (show ¬ (((k : Int) = 0 ∨ (k : Int) = 1) ∧ 3 ≤ memOf m0 m1 k ∧ memOf m0 m1 k ≤ 12 ∧ 0 ≤ off ∧ off ≤ 4294967295 ∧ (n = 4 ∨ n = 8)) by unfold memOf; split <;> omega)
    have hno2 : addrOk m0 m1 k off n = false := hno
    unfold addrF
    rw [hno2, if_neg (by simp)]
    clear hno hno2
    clear h2
    go_enter Try.func9, Try.ntmps9
    go_wp2_with fail
    go_ret2
    exact ⟨_, rfl, Kd.R_nil _ _ _ _ _, HB.out⟩
  have hk : k = 0 ∨ k = 1 := by omega
  clear b1 h1 h2
  rcases hk with rfl | rfl
  · by_cases h3 : m0 < 3
    · have b3 : decide (m0 < 3) = true := decide_eq_true h3
      have hno := decide_eq_false (p := _) (show ¬ (((0 : Int) = 0 ∨ (0 : Int) = 1) ∧ 3 ≤ memOf m0 m1 0 ∧ memOf m0 m1 0 ≤ 12 ∧ 0 ≤ off ∧ off ≤ 4294967295 ∧ (n = 4 ∨ n = 8)) by unfold memOf; split <;> omega)
      have hno2 : addrOk m0 m1 0 off n = false := hno
      unfold addrF
      rw [hno2, if_neg (by simp)]
      clear hno hno2
      go_enter Try.func9, Try.ntmps9
      go_wp2_with fail
      go_ret2
      exact ⟨_, rfl, Kd.R_nil _ _ _ _ _, HB.out⟩
    have b3 : decide (m0 < 3) = false := decide_eq_false h3
    by_cases h4 : 12 < m0
    · have b4 : decide (12 < m0) = true := decide_eq_true h4
      have hno := decide_eq_false (p := _) (show ¬ (((0 : Int) = 0 ∨ (0 : Int) = 1) ∧ 3 ≤ memOf m0 m1 0 ∧ memOf m0 m1 0 ≤ 12 ∧ 0 ≤ off ∧ off ≤ 4294967295 ∧ (n = 4 ∨ n = 8)) by unfold memOf; split <;> omega)
      have hno2 : addrOk m0 m1 0 off n = false := hno
      unfold addrF
      rw [hno2, if_neg (by simp)]
      clear hno hno2
      go_enter Try.func9, Try.ntmps9
      go_wp2_with fail
      go_ret2
      exact ⟨_, rfl, Kd.R_nil _ _ _ _ _, HB.out⟩
    have b4 : decide (12 < m0) = false := decide_eq_false h4
    by_cases h5 : off < 0
    · have b5 : decide (off < 0) = true := decide_eq_true h5
      have hno := decide_eq_false (p := _) (show ¬ (((0 : Int) = 0 ∨ (0 : Int) = 1) ∧ 3 ≤ memOf m0 m1 0 ∧ memOf m0 m1 0 ≤ 12 ∧ 0 ≤ off ∧ off ≤ 4294967295 ∧ (n = 4 ∨ n = 8)) by unfold memOf; split <;> omega)
      have hno2 : addrOk m0 m1 0 off n = false := hno
      unfold addrF
      rw [hno2, if_neg (by simp)]
      clear hno hno2
      go_enter Try.func9, Try.ntmps9
      go_wp2_with fail
      go_ret2
      exact ⟨_, rfl, Kd.R_nil _ _ _ _ _, HB.out⟩
    have b5 : decide (off < 0) = false := decide_eq_false h5
    by_cases h6 : 4294967296 ≤ off
    · have b6 : decide (4294967296 ≤ off) = true := decide_eq_true h6
      have hno := decide_eq_false (p := _) (show ¬ (((0 : Int) = 0 ∨ (0 : Int) = 1) ∧ 3 ≤ memOf m0 m1 0 ∧ memOf m0 m1 0 ≤ 12 ∧ 0 ≤ off ∧ off ≤ 4294967295 ∧ (n = 4 ∨ n = 8)) by unfold memOf; split <;> omega)
      have hno2 : addrOk m0 m1 0 off n = false := hno
      unfold addrF
      rw [hno2, if_neg (by simp)]
      clear hno hno2
      go_enter Try.func9, Try.ntmps9
      go_wp2_with fail
      go_ret2
      exact ⟨_, rfl, Kd.R_nil _ _ _ _ _, HB.out⟩
    have b6 : decide (4294967296 ≤ off) = false := decide_eq_false h6
    by_cases h7 : n = 4 ∨ n = 8
    · have hyes : addrOk m0 m1 0 off n = true := decide_eq_true (by unfold memOf; split <;> omega)
      unfold addrF
      rw [hyes, if_pos rfl, show memOf m0 m1 0 = m0 from rfl]
      have hm0 : 0 ≤ m0 := by omega
      have hm60 : m0 < 60 := by omega
      clear hyes h3 h4 h5 h6
      rcases h7 with rfl | rfl
      · go_enter Try.func9, Try.ntmps9
        go_wp2_with (first
      | (go_at_call 21; refine (PIselOps.oublietteref20_is.calls _ _ _ _ _ _ _ _ _ _ _ _ _ _ _ _ _ rfl).mono ?_; rintro e w' ⟨rfl, hb⟩; replace HB := Aside0.mk (HB.out.trans (hb.mono HB.out.size)); clear hb)
      | (go_at_call 28; refine (PIselOps.oublietteref20_movi.calls _ _ _ _ _ _ _ _ _ _ _ _ rfl).mono ?_; rintro e w' ⟨rfl, hb⟩; replace HB := Aside0.mk (HB.out.trans (hb.mono HB.out.size)); clear hb)
      | (go_at_call 24; refine (PIselOps.oublietteref20_alu.calls _ _ _ _ _ _ _ _ _ _ _ _ _ _ rfl).mono ?_; rintro e w' ⟨rfl, hb⟩; replace HB := Aside0.mk (HB.out.trans (hb.mono HB.out.size)); clear hb)
      | (go_at_call 29; refine (PIselOps.oublietteref20_jcc.calls _ _ _ _ _ _ _ _ _ _ _ _ rfl).mono ?_; rintro e w' ⟨rfl, hb⟩; replace HB := Aside0.mk (HB.out.trans (hb.mono HB.out.size)); clear hb))
        have HL := Aside0.mk (Rr.lit HB.out (addrS m0 off 4) (by simp [addrS]))
        go_ret2
        exact ⟨_, rfl, HL.out.row, HL.out.bel⟩
      · go_enter Try.func9, Try.ntmps9
        go_wp2_with (first
      | (go_at_call 21; refine (PIselOps.oublietteref20_is.calls _ _ _ _ _ _ _ _ _ _ _ _ _ _ _ _ _ rfl).mono ?_; rintro e w' ⟨rfl, hb⟩; replace HB := Aside0.mk (HB.out.trans (hb.mono HB.out.size)); clear hb)
      | (go_at_call 28; refine (PIselOps.oublietteref20_movi.calls _ _ _ _ _ _ _ _ _ _ _ _ rfl).mono ?_; rintro e w' ⟨rfl, hb⟩; replace HB := Aside0.mk (HB.out.trans (hb.mono HB.out.size)); clear hb)
      | (go_at_call 24; refine (PIselOps.oublietteref20_alu.calls _ _ _ _ _ _ _ _ _ _ _ _ _ _ rfl).mono ?_; rintro e w' ⟨rfl, hb⟩; replace HB := Aside0.mk (HB.out.trans (hb.mono HB.out.size)); clear hb)
      | (go_at_call 29; refine (PIselOps.oublietteref20_jcc.calls _ _ _ _ _ _ _ _ _ _ _ _ rfl).mono ?_; rintro e w' ⟨rfl, hb⟩; replace HB := Aside0.mk (HB.out.trans (hb.mono HB.out.size)); clear hb))
        have HL := Aside0.mk (Rr.lit HB.out (addrS m0 off 8) (by simp [addrS]))
        go_ret2
        exact ⟨_, rfl, HL.out.row, HL.out.bel⟩
    · have h81 : (n != 4) = true := by simp; omega
      have h82 : (n != 8) = true := by simp; omega
      have hno := decide_eq_false (p := _) (show ¬ (((0 : Int) = 0 ∨ (0 : Int) = 1) ∧ 3 ≤ memOf m0 m1 0 ∧ memOf m0 m1 0 ≤ 12 ∧ 0 ≤ off ∧ off ≤ 4294967295 ∧ (n = 4 ∨ n = 8)) by unfold memOf; split <;> omega)
      have hno2 : addrOk m0 m1 0 off n = false := hno
      unfold addrF
      rw [hno2, if_neg (by simp)]
      clear hno hno2
      go_enter Try.func9, Try.ntmps9
      go_wp2_with fail
      go_ret2
      exact ⟨_, rfl, Kd.R_nil _ _ _ _ _, HB.out⟩
  · by_cases h3 : m1 < 3
    · have b3 : decide (m1 < 3) = true := decide_eq_true h3
      have hno := decide_eq_false (p := _) (show ¬ (((1 : Int) = 0 ∨ (1 : Int) = 1) ∧ 3 ≤ memOf m0 m1 1 ∧ memOf m0 m1 1 ≤ 12 ∧ 0 ≤ off ∧ off ≤ 4294967295 ∧ (n = 4 ∨ n = 8)) by unfold memOf; split <;> omega)
      have hno2 : addrOk m0 m1 1 off n = false := hno
      unfold addrF
      rw [hno2, if_neg (by simp)]
      clear hno hno2
      go_enter Try.func9, Try.ntmps9
      go_wp2_with fail
      go_ret2
      exact ⟨_, rfl, Kd.R_nil _ _ _ _ _, HB.out⟩
    have b3 : decide (m1 < 3) = false := decide_eq_false h3
    by_cases h4 : 12 < m1
    · have b4 : decide (12 < m1) = true := decide_eq_true h4
      have hno := decide_eq_false (p := _) (show ¬ (((1 : Int) = 0 ∨ (1 : Int) = 1) ∧ 3 ≤ memOf m0 m1 1 ∧ memOf m0 m1 1 ≤ 12 ∧ 0 ≤ off ∧ off ≤ 4294967295 ∧ (n = 4 ∨ n = 8)) by unfold memOf; split <;> omega)
      have hno2 : addrOk m0 m1 1 off n = false := hno
      unfold addrF
      rw [hno2, if_neg (by simp)]
      clear hno hno2
      go_enter Try.func9, Try.ntmps9
      go_wp2_with fail
      go_ret2
      exact ⟨_, rfl, Kd.R_nil _ _ _ _ _, HB.out⟩
    have b4 : decide (12 < m1) = false := decide_eq_false h4
    by_cases h5 : off < 0
    · have b5 : decide (off < 0) = true := decide_eq_true h5
      have hno := decide_eq_false (p := _) (show ¬ (((1 : Int) = 0 ∨ (1 : Int) = 1) ∧ 3 ≤ memOf m0 m1 1 ∧ memOf m0 m1 1 ≤ 12 ∧ 0 ≤ off ∧ off ≤ 4294967295 ∧ (n = 4 ∨ n = 8)) by unfold memOf; split <;> omega)
      have hno2 : addrOk m0 m1 1 off n = false := hno
      unfold addrF
      rw [hno2, if_neg (by simp)]
      clear hno hno2
      go_enter Try.func9, Try.ntmps9
      go_wp2_with fail
      go_ret2
      exact ⟨_, rfl, Kd.R_nil _ _ _ _ _, HB.out⟩
    have b5 : decide (off < 0) = false := decide_eq_false h5
    by_cases h6 : 4294967296 ≤ off
    · have b6 : decide (4294967296 ≤ off) = true := decide_eq_true h6
      have hno := decide_eq_false (p := _) (show ¬ (((1 : Int) = 0 ∨ (1 : Int) = 1) ∧ 3 ≤ memOf m0 m1 1 ∧ memOf m0 m1 1 ≤ 12 ∧ 0 ≤ off ∧ off ≤ 4294967295 ∧ (n = 4 ∨ n = 8)) by unfold memOf; split <;> omega)
      have hno2 : addrOk m0 m1 1 off n = false := hno
      unfold addrF
      rw [hno2, if_neg (by simp)]
      clear hno hno2
      go_enter Try.func9, Try.ntmps9
      go_wp2_with fail
      go_ret2
      exact ⟨_, rfl, Kd.R_nil _ _ _ _ _, HB.out⟩
    have b6 : decide (4294967296 ≤ off) = false := decide_eq_false h6
    by_cases h7 : n = 4 ∨ n = 8
    · have hyes : addrOk m0 m1 1 off n = true := decide_eq_true (by unfold memOf; split <;> omega)
      unfold addrF
      rw [hyes, if_pos rfl, show memOf m0 m1 1 = m1 from rfl]
      have hm0 : 0 ≤ m1 := by omega
      have hm60 : m1 < 60 := by omega
      clear hyes h3 h4 h5 h6
      rcases h7 with rfl | rfl
      · go_enter Try.func9, Try.ntmps9
        go_wp2_with (first
      | (go_at_call 21; refine (PIselOps.oublietteref20_is.calls _ _ _ _ _ _ _ _ _ _ _ _ _ _ _ _ _ rfl).mono ?_; rintro e w' ⟨rfl, hb⟩; replace HB := Aside0.mk (HB.out.trans (hb.mono HB.out.size)); clear hb)
      | (go_at_call 28; refine (PIselOps.oublietteref20_movi.calls _ _ _ _ _ _ _ _ _ _ _ _ rfl).mono ?_; rintro e w' ⟨rfl, hb⟩; replace HB := Aside0.mk (HB.out.trans (hb.mono HB.out.size)); clear hb)
      | (go_at_call 24; refine (PIselOps.oublietteref20_alu.calls _ _ _ _ _ _ _ _ _ _ _ _ _ _ rfl).mono ?_; rintro e w' ⟨rfl, hb⟩; replace HB := Aside0.mk (HB.out.trans (hb.mono HB.out.size)); clear hb)
      | (go_at_call 29; refine (PIselOps.oublietteref20_jcc.calls _ _ _ _ _ _ _ _ _ _ _ _ rfl).mono ?_; rintro e w' ⟨rfl, hb⟩; replace HB := Aside0.mk (HB.out.trans (hb.mono HB.out.size)); clear hb))
        have HL := Aside0.mk (Rr.lit HB.out (addrS m1 off 4) (by simp [addrS]))
        go_ret2
        exact ⟨_, rfl, HL.out.row, HL.out.bel⟩
      · go_enter Try.func9, Try.ntmps9
        go_wp2_with (first
      | (go_at_call 21; refine (PIselOps.oublietteref20_is.calls _ _ _ _ _ _ _ _ _ _ _ _ _ _ _ _ _ rfl).mono ?_; rintro e w' ⟨rfl, hb⟩; replace HB := Aside0.mk (HB.out.trans (hb.mono HB.out.size)); clear hb)
      | (go_at_call 28; refine (PIselOps.oublietteref20_movi.calls _ _ _ _ _ _ _ _ _ _ _ _ rfl).mono ?_; rintro e w' ⟨rfl, hb⟩; replace HB := Aside0.mk (HB.out.trans (hb.mono HB.out.size)); clear hb)
      | (go_at_call 24; refine (PIselOps.oublietteref20_alu.calls _ _ _ _ _ _ _ _ _ _ _ _ _ _ rfl).mono ?_; rintro e w' ⟨rfl, hb⟩; replace HB := Aside0.mk (HB.out.trans (hb.mono HB.out.size)); clear hb)
      | (go_at_call 29; refine (PIselOps.oublietteref20_jcc.calls _ _ _ _ _ _ _ _ _ _ _ _ rfl).mono ?_; rintro e w' ⟨rfl, hb⟩; replace HB := Aside0.mk (HB.out.trans (hb.mono HB.out.size)); clear hb))
        have HL := Aside0.mk (Rr.lit HB.out (addrS m1 off 8) (by simp [addrS]))
        go_ret2
        exact ⟨_, rfl, HL.out.row, HL.out.bel⟩
    · have h81 : (n != 4) = true := by simp; omega
      have h82 : (n != 8) = true := by simp; omega
      have hno := decide_eq_false (p := _) (show ¬ (((1 : Int) = 0 ∨ (1 : Int) = 1) ∧ 3 ≤ memOf m0 m1 1 ∧ memOf m0 m1 1 ≤ 12 ∧ 0 ≤ off ∧ off ≤ 4294967295 ∧ (n = 4 ∨ n = 8)) by unfold memOf; split <;> omega)
      have hno2 : addrOk m0 m1 1 off n = false := hno
      unfold addrF
      rw [hno2, if_neg (by simp)]
      clear hno hno2
      go_enter Try.func9, Try.ntmps9
      go_wp2_with fail
      go_ret2
      exact ⟨_, rfl, Kd.R_nil _ _ _ _ _, HB.out⟩
end Go.Proofs.Ytngpmijbjhpfhaa.Isel
