/- alloc.Alloc: no two cells that clash have one place; what is live behind a call is in no register; each that is named has a place. -/
import Derived.Test.YtdcmeefeinppnaaMeet
import Derived.Test.YtdcmeefeinppnaaEx17
namespace Go.Proofs.Ytdcmeefeinppnaa.Live
open Go.RowKit Go.Proofs.YtdcmeefeinppnaaW.PrintWords Go.Proofs.YtdcmeefeinppnaaW.PrintLast Go.Proofs.YtdcmeefeinppnaaW.PrintMore Go.Proofs.Ytdcmeefeinppnaa.Mem Go.Proofs.Ytdcmeefeinppnaa.Ir
open Uses (uses)
open MapOf (get put)
set_option linter.unusedVariables false
set_option linter.unusedSimpArgs false

theorem orD_ge (s d : Int) : Sub s (orD s d) := by
  unfold orD
  split
  · exact Sub.orl
  · exact Sub.refl _
theorem named_up (c : Cod) {i j : Nat} (h : i ≤ j) : Sub (namedN c i) (namedN c j) := by
  induction j with
  | zero => obtain rfl : i = 0 := by omega
            exact Sub.refl _
  | succ j ih =>
    rcases Nat.lt_or_ge i (j + 1) with h1 | h1
    · exact (ih (by omega)).trans ((Sub.bitL_ge _ _).trans (orD_ge _ _))
    · obtain rfl : i = j + 1 := by omega
      exact Sub.refl _
theorem named_use (c : Cod) {j : Nat} (hj : j < c.body.length) (k : Int) (hk : k ∈ uses (atIr c.body j).op (atIr c.body j).a (atIr c.body j).b (atIr c.body j).c) : Sub (shl .i64 1 k) (namedN c c.body.length) :=
  ((Sub.bitL_mem _ _ k hk).trans (orD_ge _ _)).trans (named_up c (show j + 1 ≤ c.body.length from hj))
theorem named_def (c : Cod) {j : Nat} (hj : j < c.body.length) (h0 : 0 ≤ defs (atIr c.body j)) : Sub (shl .i64 1 (defs (atIr c.body j))) (namedN c c.body.length) := by
  refine Sub.trans ?_ (named_up c (show j + 1 ≤ c.body.length from hj))
  show Sub _ (orD _ _)
  unfold orD
  rw [if_pos h0]
  exact Sub.orr
/-- all that is ever live is named -/
theorem step_named {c : Cod} {ws : List (List Int)} {ah : List Int} (h : ∀ k, Sub (rd ah k) (namedN c c.body.length)) : ∀ j, Sub (stepS ws ah j) (namedN c c.body.length) := fun j => Sub.orL_le h _ (Sub.zero _)
theorem stepT_named {c : Cod} {ws : List (List Int)} {ah : List Int} (h : ∀ k, Sub (rd ah k) (namedN c c.body.length)) {j : Nat} (hj : j < c.body.length) : Sub (stepT c ws ah j) (namedN c c.body.length) :=
  Sub.bitL_le _ ((Sub.clr_le _ _).trans (step_named h j)) (fun k hk => named_use c hj k hk)
theorem pass_named {c : Cod} {ws : List (List Int)} : ∀ (j : Nat) (ah af : List Int) (ch : Bool), j ≤ c.body.length → ah.length = c.body.length → (∀ k, Sub (rd ah k) (namedN c c.body.length)) →
    (passN c ws j ah af ch).1.length = c.body.length ∧ ∀ k, Sub (rd (passN c ws j ah af ch).1 k) (namedN c c.body.length) := by
  intro j
  induction j with
  | zero => intro ah af ch _ hl h; exact ⟨hl, h⟩
  | succ j ih =>
    intro ah af ch hj hl h
    refine ih _ _ _ (by omega) (by rw [List.length_set]; exact hl) (fun k => ?_)
    rw [rd_set _ _ _ _ (by omega)]
    split
    · exact stepT_named h (by omega)
    · exact h k
theorem iter_named {c : Cod} {ws : List (List Int)} : ∀ (k : Nat) (ah af rh rf : List Int), iterS c ws k ah af = some (rh, rf) → ah.length = c.body.length → (∀ k, Sub (rd ah k) (namedN c c.body.length)) → ∀ k, Sub (rd rh k) (namedN c c.body.length) := by
  intro k
  induction k with
  | zero => intro ah af rh rf h; cases h
  | succ k ih =>
    intro ah af rh rf h hl hh
    have hp := pass_named (ws := ws) c.body.length ah af false (Nat.le_refl _) hl hh
    unfold iterS at h
    split at h
    · exact ih _ _ _ _ h hp.1 hp.2
    · cases h
      exact hp.2
theorem ahead_named {c : Cod} {ah af : List Int} (hS : SetsIs c ah af 0) (hf : fits c = true) : ∀ k, Sub (rd ah k) (namedN c c.body.length) := by
  obtain ⟨_, k, hk⟩ := hS.yes hf
  exact iter_named k _ _ _ _ hk (by simp) (fun k => by rw [rd_zeros]; exact Sub.zero _)
theorem after_named {c : Cod} {ah af : List Int} (hS : SetsIs c ah af 0) (hf : fits c = true) (hl : LiveIs c ah af) (i : Nat) (hi : i < c.body.length) : Sub (rd af (i : Int)) (namedN c c.body.length) := by
  rw [hl.ff i hi]
  exact step_named (ahead_named hS hf) i
theorem cross_named {c : Cod} {ah af : List Int} (hS : SetsIs c ah af 0) (hf : fits c = true) (hl : LiveIs c ah af) : ∀ k, k ≤ c.body.length → Sub (crossS c af k) (namedN c c.body.length) := by
  intro k
  induction k with
  | zero => intro _; exact Sub.zero _
  | succ k ih =>
    intro hk
    unfold crossS
    split
    · exact Sub.or2 (ih (by omega)) ((Sub.clr_le _ _).trans (after_named hS hf hl k (by omega)))
    · exact ih (by omega)
theorem clash_named {c : Cod} {ah af : List Int} (hS : SetsIs c ah af 0) (hf : fits c = true) (hl : LiveIs c ah af) {x y : Nat} (hx : x < 60) (hy : y < 60) (h : clashB c ah af (x : Int) (y : Int) = true) :
    inB (namedN c c.body.length) (x : Int) = true ∧ inB (namedN c c.body.length) (y : Int) = true := by
  unfold clashB at h
  rw [Bool.or_eq_true] at h
  rcases h with h | h
  · obtain ⟨i, hi, hc⟩ := List.any_eq_true.1 h
    have hi := List.mem_range.1 hi
    unfold cl at hc
    have hd : ∀ z : Nat, z < 60 → defs (atIr c.body i) = (z : Int) → inB (namedN c c.body.length) (z : Int) = true := fun z hz e => by
      have h1 := named_def c hi (by omega)
      rw [e] at h1
      exact inB_sub h1 (by omega) (inB_shl (by omega))
    split at hc
    · rename_i h1
      exact ⟨hd x hx h1, inB_sub (after_named hS hf hl i hi) (by omega) hc⟩
    · split at hc
      · rename_i h1
        exact ⟨inB_sub (after_named hS hf hl i hi) (by omega) hc, hd y hy h1⟩
      · cases hc
  · simp only [Bool.and_eq_true, decide_eq_true_eq] at h
    have hh := fits_head hf
    have hm : ∀ z : Nat, (z : Int) < c.params → inB (namedN c c.body.length) (z : Int) = true := fun z hz => by
      refine inB_sub (named_up c (Nat.zero_le _)) (by omega) ?_
      show inB (wrap64 (wrap64 (2 ^ c.params.toNat) - 1)) (z : Int) = true
      rw [inB_mask _ _ (by omega) (by omega)]
      simp; omega
    have h1 := h.1.2
    exact ⟨hm x (by split at h1 <;> omega), hm y (by split at h1 <;> omega)⟩
theorem freeF_free {M : List (Int × Bool)} {B : Int} (hM : ∀ q, (get M q).getD false = true → q ≤ B) : ∀ (f : Nat) (p : Int), B < f + p → (get M (freeF M f p)).getD false = false := by
  intro f
  induction f with
  | zero =>
    intro p h
    cases hq : (get M p).getD false with
    | true => have := hM p hq; omega
    | false => exact hq
  | succ f ih =>
    intro p h
    unfold freeF
    split
    · exact ih (p + 1) (by omega)
    · rename_i hq; simpa using hq
theorem placeOf_free {ms out : List Int} {cr : Int} {k : Nat} (hB : Bd out) (hk : k ≤ out.length) (hk60 : k ≤ 60) : (get (tkM ms out (k : Int) k) (placeOf ms out cr k)).getD false = false := by
  unfold placeOf
  refine freeF_free (B := 5 + (k : Int)) (fun q hq => ?_) 100 _ (by split <;> omega)
  obtain ⟨i, h1, _, h3⟩ := (tkM_get k).1 hq
  have := hB i (by omega)
  omega
theorem clash_sym {c : Cod} {ah af : List Int} {a b : Int} (hab : a ≠ b) : clashB c ah af a b = clashB c ah af b a := by
  have h1 : cl c af a b = cl c af b a := by
    funext i
    unfold cl
    by_cases h : defs (atIr c.body i) = a
    · rw [if_pos h, if_neg (fun e => hab (h.symm.trans e)), if_pos h]
    · rw [if_neg h]
      by_cases h2 : defs (atIr c.body i) = b
      · rw [if_pos h2, if_pos h2]
      · rw [if_neg h2, if_neg h2, if_neg h]
  have h2 : (if a < b then b else a) = (if b < a then a else b) := by
    by_cases h : a < b
    · rw [if_pos h, if_neg (by omega)]
    · rw [if_neg h]; split <;> omega
  have h3 : (inB (rd ah 0) a || inB (rd ah 0) b) = (inB (rd ah 0) b || inB (rd ah 0) a) := Bool.or_comm _ _
  unfold clashB
  rw [h1, h2, h3]
/-- what the statement asks -/
structure Apart (c : Cod) (ah af P : List Int) : Prop where
  len : (P.length : Int) = c.cells
  nm : ∀ a : Nat, a < P.length → inB (namedN c c.body.length) (a : Int) = decide (0 ≤ rd P (a : Int))
  cr : ∀ a : Nat, a < P.length → inB (crossS c af c.body.length) (a : Int) = true → 6 ≤ rd P (a : Int)
  le : ∀ a : Nat, a < P.length → rd P (a : Int) ≤ 5 + c.cells + 6
  cl : ∀ a b : Nat, a < P.length → b < a → clashB c ah af (a : Int) (b : Int) = true → rd P (a : Int) ≠ rd P (b : Int)
theorem apart {c : Cod} {ah af : List Int} (hS : SetsIs c ah af 0) (hf : fits c = true) (hl : LiveIs c ah af) : Apart c ah af (placesOf c ah af) := by
  have hh := fits_head hf
  obtain ⟨nn, hnn⟩ : ∃ nn : Nat, c.cells = (nn : Int) := ⟨c.cells.toNat, by omega⟩
  have hP : placesOf c ah af = allocL c ah af nn := by unfold placesOf; rw [if_pos hf, hnn, Int.toNat_natCast]
  rw [hP]
  have hlen := allocL_len c ah af nn
  have hat := fun (k : Nat) (hk : k < nn) => allocL_at (c := c) (ah := ah) (af := af) (nn := nn) hk
  have hbd : Bd (allocL c ah af nn) := alL_bd _ _ _
  have hnm : ∀ k : Nat, k < nn → inB (namedN c c.body.length) (k : Int) = decide (0 ≤ rd (allocL c ah af nn) (k : Int)) := fun k hk => by
    have h := hat k hk
    cases hb : inB (namedN c c.body.length) (k : Int) with
    | true =>
      rw [hb, if_pos rfl] at h
      have h2 := placeOf_le (ms := meetM c ah af nn) (cr := crossS c af c.body.length) hbd (show k ≤ (allocL c ah af nn).length by omega)
      rw [h]; exact (decide_eq_true h2.1).symm
    | false =>
      rw [hb, if_neg (by simp)] at h
      rw [h]; rfl
  refine ⟨by omega, fun a ha => hnm a (by omega), fun a ha hc => ?_, fun a ha => ?_, fun a b ha hb hc => ?_⟩
  · have hn := inB_sub (cross_named hS hf hl _ (Nat.le_refl _)) (show a < 64 by omega) hc
    have h := hat a (by omega)
    rw [hn, if_pos rfl] at h
    rw [h]
    unfold placeOf
    rw [hc, if_pos rfl]
    exact freeF_ge _ _
  · have h := hbd a ha
    omega
  · obtain ⟨na, nb⟩ := clash_named hS hf hl (show a < 60 by omega) (show b < 60 by omega) hc
    have h := hat a (by omega)
    rw [na, if_pos rfl] at h
    have hfr := placeOf_free (ms := meetM c ah af nn) (cr := crossS c af c.body.length) hbd (show a ≤ (allocL c ah af nn).length by omega) (by omega)
    rw [← h] at hfr
    intro e
    have ht : (get (tkM (meetM c ah af nn) (allocL c ah af nn) (a : Int) a) (rd (allocL c ah af nn) (a : Int))).getD false = true := by
      refine (tkM_get a).2 ⟨b, hb, ?_, e.symm⟩
      rw [clM_clash hf hnn (by omega) (by omega) (by omega)]
      rw [clash_sym (by omega)] at hc
      exact hc
    rw [hfr] at ht
    cases ht
end Go.Proofs.Ytdcmeefeinppnaa.Live
