/- The reference's small functions: what an instruction writes, a set of cells, where a label stands. -/
import Derived.Test.YtdcmeefeinppnaaLiveEnd
import Derived.Test.YtdcmeefeinppnaaInsPure
namespace Go.Proofs.Ytdcmeefeinppnaa.Live
open Go.RowKit Go.Proofs.YtdcmeefeinppnaaW.PrintWords Go.Proofs.YtdcmeefeinppnaaW.PrintLast Go.Proofs.Ytdcmeefeinppnaa.Mem Go.Proofs.Ytdcmeefeinppnaa.Ir
open MapOf (get put)
open Uses (uses)
set_option linter.unusedVariables false
set_option linter.unusedSimpArgs false

theorem rdefs_calls (x : Ir) (w : World) : Calls Try.prog 42 #[.agg x.vals] w fun e w' => e = .returned (.int .i64 (defs x)) ∧ Below w.heap.size w w' := by
  have HB := Aside0.mk ((Below.refl w.heap.size w).alloc (Nat.le_refl _) (.cells x.vals 38))
  obtain ⟨op, dst, a, b, c, n, m⟩ := x
  by_cases h : op = 1 ∨ op = 2 ∨ op = 3 ∨ op = 4 ∨ op = 5 ∨ op = 7 ∨ op = 14
  · have hd : defs ⟨op, dst, a, b, c, n, m⟩ = dst := by unfold defs; rw [if_pos h]
    rw [hd]
    clear hd
    rcases h with h | h | h | h | h | h | h <;> subst h
    all_goals
      go_enter Try.func42, Try.ntmps42
      go_wp2_with fail
      go_ret
      exact ⟨rfl, HB.out⟩
  · have hd : defs ⟨op, dst, a, b, c, n, m⟩ = -1 := by unfold defs; rw [if_neg h]
    rw [hd]
    clear hd
    have h1 : (op == 1) = false := by simp; omega
    have h2 : (op == 2) = false := by simp; omega
    have h3 : (op == 3) = false := by simp; omega
    have h4 : (op == 4) = false := by simp; omega
    have h5 : (op == 5) = false := by simp; omega
    have h7 : (op == 7) = false := by simp; omega
    have h14 : (op == 14) = false := by simp; omega
    clear h
    go_enter Try.func42, Try.ntmps42
    go_wp2_with fail
    go_ret
    exact ⟨rfl, HB.out⟩
theorem rdefs_calls' {x : Ir} {d : Int} (h : defs x = d) (w : World) : Calls Try.prog 42 #[.agg x.vals] w fun e w' => e = .returned (.int .i64 d) ∧ Below w.heap.size w w' := h ▸ rdefs_calls x w

theorem set_calls (A : Option Addr) (cap : Nat) (l : List Int) (w : World) (hC : (Kd.int .i64).C w A l.length l) (hl : l.length ≤ 100) (h : ∀ k ∈ l, 0 ≤ k ∧ k < 60) :
    Calls Try.prog 43 #[.slice A l.length cap] w fun e w' => e = .returned (.int .i64 (bitL l 0)) ∧ w = w' := by
  have HC := Aside0.mk hC
  have HU := Aside0.mk h
  clear hC h
  go_enter Try.func43, Try.ntmps43
  go_wp2_with fail
  go_loop [3, 4] (fun sv iv => ∃ q : Nat, q ≤ l.length ∧ iv = .int .i64 q ∧ sv = .int .i64 (bitL (l.take q) 0)) (fun _ iv => l.length - (intOf iv).toNat)
  case atStart => exact ⟨0, Nat.zero_le _, rfl, rfl⟩
  case round =>
    obtain ⟨q, hq, rfl, rfl⟩ := hrel
    by_cases hql : q < l.length
    · obtain ⟨adw, e, hqc⟩ := Kd.at_int HC.out (q : Int) (by omega) (by omega)
      subst e
      rw [Int.toNat_natCast] at hqc
      obtain ⟨h0, h1⟩ := HU.out _ (rd_mem hql)
      have HSN := Aside0.mk (show bitL (l.take (q + 1)) 0 = Go.bits .or .i64 (bitL (l.take q) 0) (wrap64 (2 ^ (rd l (q : Int)).toNat)) by rw [take_snoc hql, bitL_snoc, shl_bit (by omega)])
      go_wp2_with fail
      go_round
      case rel => exact ⟨q + 1, by omega, by go_num, by rw [HSN.out]⟩
      case measure => simp [intOf]; omega
    · have hse : bitL (l.take q) 0 = bitL l 0 := by rw [show q = l.length by omega, List.take_length]
      rw [hse]
      clear hse
      go_wp2_with fail
      go_ret
      exact ⟨rfl, rfl⟩

/-- where the label n stands first, among the first k -/
def fa (L : List Ir) (n : Int) : Nat → Int
  | 0 => -1
  | k + 1 => if (atIr L k).op = 9 ∧ (atIr L k).n = n ∧ fa L n k < 0 then k else fa L n k
theorem fa_yes {L : List Ir} {n : Int} {k : Nat} (h : (atIr L k).op = 9 ∧ (atIr L k).n = n ∧ fa L n k < 0) : fa L n (k + 1) = k := if_pos h
theorem fa_no {L : List Ir} {n : Int} {k : Nat} (h : ¬ ((atIr L k).op = 9 ∧ (atIr L k).n = n ∧ fa L n k < 0)) : fa L n (k + 1) = fa L n k := if_neg h
theorem cnt_yes {L : List Ir} {n : Int} {k : Nat} (h : (atIr L k).op = 9 ∧ (atIr L k).n = n) : cnt L n (k + 1) = cnt L n k + 1 := by show _ + (if _ then _ else _) = _; rw [if_pos h]
theorem cnt_no {L : List Ir} {n : Int} {k : Nat} (h : ¬ ((atIr L k).op = 9 ∧ (atIr L k).n = n)) : cnt L n (k + 1) = cnt L n k := by show _ + (if _ then _ else _) = _; rw [if_neg h]; rfl
theorem fa_labs (L : List Ir) (n : Int) (k : Nat) : fa L n k = (get (labs L k).1 n).getD (-1) ∧ (cnt L n k = 0 ↔ fa L n k < 0) := by
  induction k with
  | zero => exact ⟨rfl, by simp [cnt, fa]⟩
  | succ k ih =>
    obtain ⟨h1, h2⟩ := ih
    by_cases h : (atIr L k).op = 9
    · by_cases hn : (atIr L k).n = n
      · have hl : labs L (k + 1) = (if (get (labs L k).2 (atIr L k).n).getD 0 + 1 = 1 then put (labs L k).1 (atIr L k).n k else (labs L k).1, put (labs L k).2 (atIr L k).n ((get (labs L k).2 (atIr L k).n).getD 0 + 1)) := if_pos h
        rw [hl, cnt_yes ⟨h, hn⟩]
        simp only []
        rw [hn, labs_many]
        by_cases h0 : fa L n k < 0
        · have hc := h2.2 h0
          rw [fa_yes ⟨h, hn, h0⟩, if_pos (by omega), MapOf.get_put, if_pos rfl]
          refine ⟨rfl, ?_⟩
          omega
        · have hc : cnt L n k ≠ 0 := fun e => h0 (h2.1 e)
          rw [fa_no (fun e => h0 e.2.2), if_neg (by omega)]
          refine ⟨h1, ?_⟩
          omega
      · have hl : labs L (k + 1) = (if (get (labs L k).2 (atIr L k).n).getD 0 + 1 = 1 then put (labs L k).1 (atIr L k).n k else (labs L k).1, put (labs L k).2 (atIr L k).n ((get (labs L k).2 (atIr L k).n).getD 0 + 1)) := if_pos h
        rw [hl, cnt_no (fun e => hn e.2), fa_no (fun e => hn e.2.1)]
        simp only []
        refine ⟨?_, h2⟩
        split
        · rw [MapOf.get_put, if_neg hn]; exact h1
        · exact h1
    · have hl : labs L (k + 1) = labs L k := if_neg h
      rw [hl, cnt_no (fun e => h e.1), fa_no (fun e => h e.1)]
      exact ⟨h1, h2⟩
theorem fa_lo (L : List Ir) (n : Int) (k : Nat) : -1 ≤ fa L n k ∧ fa L n k < k := by
  induction k with
  | zero => simp [fa]
  | succ k ih => unfold fa; split <;> omega

set_option maxHeartbeats 4000000 in
theorem find_calls (c : Cod) (A : Option Addr) (cap : Nat) (n : Int) (w : World) (hC : CodeAt w c A cap) :
    Calls Try.prog 47 #[.agg (c.vals A cap), .int .i64 n] w fun e w' => e = .returned (.tuple #[.int .i64 (fa c.body n c.body.length), .int .i64 (cnt c.body n c.body.length)]) ∧ Below w.heap.size w w' := by
  have HC := Aside0.mk hC
  have hs := hC.small
  have HB := Aside0.mk ((Below.refl w.heap.size w).alloc (Nat.le_refl _) (.cells (c.vals A cap) 24))
  clear hC
  go_enter Try.func47, Try.ntmps47
  go_wp2_with fail
  go_loop [6, 7, 8] (fun av mv iv => ∃ k : Nat, k ≤ c.body.length ∧ iv = .int .i64 k ∧ av = .int .i64 (fa c.body n k) ∧ mv = .int .i64 (cnt c.body n k)) (fun _ _ iv => c.body.length - (intOf iv).toNat)
  case atStart => exact ⟨0, Nat.zero_le _, rfl, rfl, rfl⟩
  case round =>
    obtain ⟨k, hk, rfl, rfl, rfl⟩ := hrel
    by_cases hlt : k < c.body.length
    · obtain ⟨ad, e, hx0, hx1, hx2, hx3, hx4, hx5, hx6⟩ := at_ir (Kd.C_below HC.out.row HB.out) k hlt
      subst e
      have hcn := cnt_le c.body n k
      by_cases h9 : (atIr c.body k).op = 9
      · rw [h9] at hx0
        by_cases hn : (atIr c.body k).n = n
        · rw [hn] at hx5
          have HK := Aside0.mk (cnt_yes (L := c.body) ⟨h9, hn⟩)
          by_cases h0 : fa c.body n k < 0
          · have hb := decide_eq_true h0
            have HF := Aside0.mk (show fa c.body n (k + 1) = k from if_pos ⟨h9, hn, h0⟩)
            clear h9 hn
            go_wp2_with fail
            go_round
            case rel => exact ⟨k + 1, by omega, by go_num, by rw [HF.out], by rw [HK.out]; go_num⟩
            case measure => simp [intOf]; omega
          · have hb := decide_eq_false h0
            have HF := Aside0.mk (show fa c.body n (k + 1) = fa c.body n k from if_neg (fun e => h0 e.2.2))
            clear h9 hn
            go_wp2_with fail
            go_round
            case rel => exact ⟨k + 1, by omega, by go_num, by rw [HF.out], by rw [HK.out]; go_num⟩
            case measure => simp [intOf]; omega
        · have hnb : ((atIr c.body k).n == n) = false := by simpa using hn
          have HF := Aside0.mk (show fa c.body n (k + 1) = fa c.body n k from if_neg (fun e => hn e.2.1))
          have HK := Aside0.mk (show cnt c.body n (k + 1) = cnt c.body n k from by show _ + (if _ then _ else _) = _; rw [if_neg (fun e => hn e.2)]; rfl)
          clear h9 hn
          go_wp2_with fail
          go_round
          case rel => exact ⟨k + 1, by omega, by go_num, by rw [HF.out], by rw [HK.out]⟩
          case measure => simp [intOf]; omega
      · have hnb : ((atIr c.body k).op == 9) = false := by simpa using h9
        have HF := Aside0.mk (show fa c.body n (k + 1) = fa c.body n k from if_neg (fun e => h9 e.1))
        have HK := Aside0.mk (show cnt c.body n (k + 1) = cnt c.body n k from by show _ + (if _ then _ else _) = _; rw [if_neg (fun e => h9 e.1)]; rfl)
        clear h9
        go_wp2_with fail
        go_round
        case rel => exact ⟨k + 1, by omega, by go_num, by rw [HF.out], by rw [HK.out]⟩
        case measure => simp [intOf]; omega
    · have hkk : k = c.body.length := by omega
      have HK := Aside0.mk hkk
      clear hkk
      go_wp2_with fail
      go_ret2
      exact ⟨by rw [HK.out]; rfl, HB.out⟩
end Go.Proofs.Ytdcmeefeinppnaa.Live
