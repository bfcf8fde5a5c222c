/- Which cells are named; two that clash are. -/
import Derived.Test.YtdcmeefeinppnaaNamed
import Derived.Test.YtdcmeefeinppnaaBits
namespace Go.Proofs.Ytdcmeefeinppnaa.Live
open Go.RowKit Go.Proofs.YtdcmeefeinppnaaW.PrintWords Go.Proofs.YtdcmeefeinppnaaW.PrintLast Go.Proofs.YtdcmeefeinppnaaW.PrintMore Go.Proofs.Ytdcmeefeinppnaa.Mem Go.Proofs.Ytdcmeefeinppnaa.Ir
open Uses (uses)
open MapOf (get put)
set_option linter.unusedVariables false
set_option linter.unusedSimpArgs false

theorem orD_ge (s d : Int) : Sub s (orD s d) := by
  unfold orD
  split
  · exact Sub.orl
  · exact Sub.refl _
theorem named_up (c : Cod) {i j : Nat} (h : i ≤ j) : Sub (namedN c i) (namedN c j) := by
  induction j with
  | zero => obtain rfl : i = 0 := by omega
            exact Sub.refl _
  | succ j ih =>
    rcases Nat.lt_or_ge i (j + 1) with h1 | h1
    · exact (ih (by omega)).trans ((Sub.bitL_ge _ _).trans (orD_ge _ _))
    · obtain rfl : i = j + 1 := by omega
      exact Sub.refl _
theorem named_use (c : Cod) {j : Nat} (hj : j < c.body.length) (k : Int) (hk : k ∈ uses (atIr c.body j).op (atIr c.body j).a (atIr c.body j).b (atIr c.body j).c) : Sub (shl .i64 1 k) (namedN c c.body.length) :=
  ((Sub.bitL_mem _ _ k hk).trans (orD_ge _ _)).trans (named_up c (show j + 1 ≤ c.body.length from hj))
theorem named_def (c : Cod) {j : Nat} (hj : j < c.body.length) (h0 : 0 ≤ defs (atIr c.body j)) : Sub (shl .i64 1 (defs (atIr c.body j))) (namedN c c.body.length) := by
  refine Sub.trans ?_ (named_up c (show j + 1 ≤ c.body.length from hj))
  show Sub _ (orD _ _)
  unfold orD
  rw [if_pos h0]
  exact Sub.orr
/-- all that is ever live is named -/
theorem step_named {c : Cod} {ws : List (List Int)} {ah : List Int} (h : ∀ k, Sub (rd ah k) (namedN c c.body.length)) : ∀ j, Sub (stepS ws ah j) (namedN c c.body.length) := fun j => Sub.orL_le h _ (Sub.zero _)
theorem stepT_named {c : Cod} {ws : List (List Int)} {ah : List Int} (h : ∀ k, Sub (rd ah k) (namedN c c.body.length)) {j : Nat} (hj : j < c.body.length) : Sub (stepT c ws ah j) (namedN c c.body.length) :=
  Sub.bitL_le _ ((Sub.clr_le _ _).trans (step_named h j)) (fun k hk => named_use c hj k hk)
theorem pass_named {c : Cod} {ws : List (List Int)} : ∀ (j : Nat) (ah af : List Int) (ch : Bool), j ≤ c.body.length → ah.length = c.body.length → (∀ k, Sub (rd ah k) (namedN c c.body.length)) →
    (passN c ws j ah af ch).1.length = c.body.length ∧ ∀ k, Sub (rd (passN c ws j ah af ch).1 k) (namedN c c.body.length) := by
  intro j
  induction j with
  | zero => intro ah af ch _ hl h; exact ⟨hl, h⟩
  | succ j ih =>
    intro ah af ch hj hl h
    refine ih _ _ _ (by omega) (by rw [List.length_set]; exact hl) (fun k => ?_)
    rw [rd_set _ _ _ _ (by omega)]
    split
    · exact stepT_named h (by omega)
    · exact h k
theorem iter_named {c : Cod} {ws : List (List Int)} : ∀ (k : Nat) (ah af rh rf : List Int), iterS c ws k ah af = some (rh, rf) → ah.length = c.body.length → (∀ k, Sub (rd ah k) (namedN c c.body.length)) → ∀ k, Sub (rd rh k) (namedN c c.body.length) := by
  intro k
  induction k with
  | zero => intro ah af rh rf h; cases h
  | succ k ih =>
    intro ah af rh rf h hl hh
    have hp := pass_named (ws := ws) c.body.length ah af false (Nat.le_refl _) hl hh
    unfold iterS at h
    split at h
    · exact ih _ _ _ _ h hp.1 hp.2
    · cases h
      exact hp.2
theorem ahead_named {c : Cod} {ah af : List Int} (hS : SetsIs c ah af 0) (hf : fits c = true) : ∀ k, Sub (rd ah k) (namedN c c.body.length) := by
  obtain ⟨_, k, hk⟩ := hS.yes hf
  exact iter_named k _ _ _ _ hk (by simp) (fun k => by rw [rd_zeros]; exact Sub.zero _)
theorem after_named {c : Cod} {ah af : List Int} (hS : SetsIs c ah af 0) (hf : fits c = true) (hl : LiveIs c ah af) (i : Nat) (hi : i < c.body.length) : Sub (rd af (i : Int)) (namedN c c.body.length) := by
  rw [hl.ff i hi]
  exact step_named (ahead_named hS hf) i
theorem cross_named {c : Cod} {ah af : List Int} (hS : SetsIs c ah af 0) (hf : fits c = true) (hl : LiveIs c ah af) : ∀ k, k ≤ c.body.length → Sub (crossS c af k) (namedN c c.body.length) := by
  intro k
  induction k with
  | zero => intro _; exact Sub.zero _
  | succ k ih =>
    intro hk
    unfold crossS
    split
    · exact Sub.or2 (ih (by omega)) ((Sub.clr_le _ _).trans (after_named hS hf hl k (by omega)))
    · exact ih (by omega)
theorem clash_named {c : Cod} {ah af : List Int} (hS : SetsIs c ah af 0) (hf : fits c = true) (hl : LiveIs c ah af) {x y : Nat} (hx : x < 60) (hy : y < 60) (h : clashB c ah af (x : Int) (y : Int) = true) :
    inB (namedN c c.body.length) (x : Int) = true ∧ inB (namedN c c.body.length) (y : Int) = true := by
  unfold clashB at h
  rw [Bool.or_eq_true] at h
  rcases h with h | h
  · obtain ⟨i, hi, hc⟩ := List.any_eq_true.1 h
    have hi := List.mem_range.1 hi
    unfold cl at hc
    have hd : ∀ z : Nat, z < 60 → defs (atIr c.body i) = (z : Int) → inB (namedN c c.body.length) (z : Int) = true := fun z hz e => by
      have h1 := named_def c hi (by omega)
      rw [e] at h1
      exact inB_sub h1 (by omega) (inB_shl (by omega))
    split at hc
    · rename_i h1
      exact ⟨hd x hx h1, inB_sub (after_named hS hf hl i hi) (by omega) hc⟩
    · split at hc
      · rename_i h1
        exact ⟨inB_sub (after_named hS hf hl i hi) (by omega) hc, hd y hy h1⟩
      · cases hc
  · simp only [Bool.and_eq_true, decide_eq_true_eq] at h
    have hh := fits_head hf
    have hm : ∀ z : Nat, (z : Int) < c.params → inB (namedN c c.body.length) (z : Int) = true := fun z hz => by
      refine inB_sub (named_up c (Nat.zero_le _)) (by omega) ?_
      show inB (wrap64 (wrap64 (2 ^ c.params.toNat) - 1)) (z : Int) = true
      rw [inB_mask _ _ (by omega) (by omega)]
      simp; omega
    have h1 := h.1.2
    exact ⟨hm x (by split at h1 <;> omega), hm y (by split at h1 <;> omega)⟩
theorem clash_sym {c : Cod} {ah af : List Int} {a b : Int} (hab : a ≠ b) : clashB c ah af a b = clashB c ah af b a := by
  have h1 : cl c af a b = cl c af b a := by
    funext i
    unfold cl
    by_cases h : defs (atIr c.body i) = a
    · rw [if_pos h, if_neg (fun e => hab (h.symm.trans e)), if_pos h]
    · rw [if_neg h]
      by_cases h2 : defs (atIr c.body i) = b
      · rw [if_pos h2, if_pos h2]
      · rw [if_neg h2, if_neg h2, if_neg h]
  have h2 : (if a < b then b else a) = (if b < a then a else b) := by
    by_cases h : a < b
    · rw [if_pos h, if_neg (by omega)]
    · rw [if_neg h]; split <;> omega
  have h3 : (inB (rd ah 0) a || inB (rd ah 0) b) = (inB (rd ah 0) b || inB (rd ah 0) a) := Bool.or_comm _ _
  unfold clashB
  rw [h1, h2, h3]
end Go.Proofs.Ytdcmeefeinppnaa.Live
