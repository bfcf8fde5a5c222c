/- A list sorted by laying in, each once, is the list sorted, each once: plain facts. -/
import Derived.Test.YtdcmeefeinppnaaUses
namespace Go.Proofs.Ytdcmeefeinppnaa.Ins
open Go.Proofs.Ytdcmeefeinppnaa.Uses Go.Proofs.YtdcmeefeinppnaaW.PrintWords
set_option linter.unusedVariables false
set_option linter.unusedSimpArgs false

/-- two lists that go up strictly, with the same members, are one -/
theorem same_of_up : ∀ (l m : List Int), l.Pairwise (· < ·) → m.Pairwise (· < ·) → (∀ x, x ∈ l ↔ x ∈ m) → l = m
  | [], [], _, _, _ => rfl
  | [], b :: m, _, _, h => absurd ((h b).2 (List.mem_cons_self ..)) (by simp)
  | a :: l, [], _, _, h => absurd ((h a).1 (List.mem_cons_self ..)) (by simp)
  | a :: l, b :: m, hl, hm, h => by
    obtain ⟨ha, hl'⟩ := List.pairwise_cons.1 hl
    obtain ⟨hb, hm'⟩ := List.pairwise_cons.1 hm
    have hab : a = b := by
      rcases List.mem_cons.1 ((h a).1 (List.mem_cons_self ..)) with e | e
      · exact e
      · rcases List.mem_cons.1 ((h b).2 (List.mem_cons_self ..)) with e2 | e2
        · exact e2.symm
        · have := hb a e; have := ha b e2; omega
    subst hab
    refine congrArg (a :: ·) (same_of_up l m hl' hm' fun x => ⟨fun hx => ?_, fun hx => ?_⟩)
    · rcases List.mem_cons.1 ((h x).1 (List.mem_cons_of_mem _ hx)) with e | e
      · have := ha x hx; omega
      · exact e
    · rcases List.mem_cons.1 ((h x).2 (List.mem_cons_of_mem _ hx)) with e | e
      · have := hb x hx; omega
      · exact e

theorem arr_get (l : List Int) (i : Nat) (h : i < l.length) : l.toArray[i]! = l[i] := by simp [h]
theorem compact_mem (l : List Int) (x : Int) : x ∈ Lib.compact l ↔ x ∈ l := by
  unfold Lib.compact Lib.compactUpTo
  constructor
  · intro h
    obtain ⟨i, hi, rfl⟩ := List.mem_map.1 h
    have hi2 := List.mem_range.1 (List.mem_filter.1 hi).1
    rw [arr_get l i hi2]
    exact List.getElem_mem hi2
  · intro h
    obtain ⟨i, hi, rfl⟩ := List.mem_iff_getElem.1 h
    suffices hs : ∀ i (hi : i < l.length), l[i] ∈ ((List.range l.length).filter (Lib.keeps l.toArray)).map (l.toArray[·]!) from hs i hi
    intro i
    induction i with
    | zero => intro hi; exact List.mem_map.2 ⟨0, List.mem_filter.2 ⟨List.mem_range.2 hi, by simp [Lib.keeps]⟩, arr_get l 0 hi⟩
    | succ i ih =>
      intro hi
      by_cases hk : Lib.keeps l.toArray (i + 1) = true
      · exact List.mem_map.2 ⟨i + 1, List.mem_filter.2 ⟨List.mem_range.2 hi, hk⟩, arr_get l (i + 1) hi⟩
      · have he : l[i + 1] = l[i] := by
          have h2 := hk
          unfold Lib.keeps at h2
          rw [decide_eq_true_iff, Nat.add_sub_cancel, arr_get l (i + 1) hi, arr_get l i (by omega)] at h2
          exact Decidable.byContradiction fun h3 => h2 (.inr h3)
        rw [he]
        exact ih (by omega)
theorem compact_up (l : List Int) (h : l.Pairwise (· ≤ ·)) : (Lib.compact l).Pairwise (· < ·) := by
  unfold Lib.compact Lib.compactUpTo
  rw [List.pairwise_map, List.pairwise_filter]
  rw [List.pairwise_iff_getElem] at h ⊢
  intro i j hi hj hij hki hkj
  simp only [List.length_range] at hi hj
  simp only [List.getElem_range] at hki hkj ⊢
  rw [arr_get l i hi, arr_get l j hj]
  unfold Lib.keeps at hkj
  rw [decide_eq_true_iff, arr_get l j hj, arr_get l (j - 1) (by omega)] at hkj
  have h1 : l[j] ≠ l[j - 1] := by rcases hkj with e | e; omega; exact e
  have h2 := h (j - 1) j (by omega) hj (by omega)
  have h3 : l[i] ≤ l[j - 1] := by
    by_cases e : i = j - 1
    · subst e; exact Int.le_refl _
    · exact h i (j - 1) hi (by omega) (by omega)
  omega
theorem sorted_up (l : List Int) : (sorted l).Pairwise (· ≤ ·) := by
  unfold sorted
  have := List.pairwise_mergeSort (le := fun x y : Int => decide (x ≤ y)) (fun a b c h1 h2 => by simp at *; omega) (fun a b => by simp; omega) l
  exact this.imp (fun h => by simpa using h)

/-- where x is laid in, seen from the end -/
def pos (out : List Int) (x : Int) : Nat → Nat
  | 0 => 0
  | k + 1 => if rd out (k : Int) > x then pos out x k else k + 1
def ins (out : List Int) (x : Int) : List Int :=
  let k := pos out x out.length
  if 0 < k ∧ rd out ((k : Int) - 1) = x then out else out.take k ++ [x] ++ out.drop k
def insAll (l : List Int) : List Int := l.foldl ins []
theorem insAll_snoc (l : List Int) (x : Int) : insAll (l ++ [x]) = ins (insAll l) x := by unfold insAll; rw [List.foldl_append]; rfl
theorem pos_le (out : List Int) (x : Int) : ∀ k, pos out x k ≤ k
  | 0 => Nat.le_refl _
  | k + 1 => by unfold pos; split; exact Nat.le_trans (pos_le out x k) (Nat.le_succ k); exact Nat.le_refl _
theorem pos_gt (out : List Int) (x : Int) : ∀ k j, pos out x k ≤ j → j < k → rd out (j : Int) > x
  | 0, j, _, h => by omega
  | k + 1, j, h1, h2 => by
    unfold pos at h1
    split at h1
    · by_cases e : j = k
      · subst e; assumption
      · exact pos_gt out x k j h1 (by omega)
    · omega
theorem pos_le_at (out : List Int) (x : Int) : ∀ k, 0 < pos out x k → rd out ((pos out x k : Nat) - 1 : Int) ≤ x
  | 0, h => by unfold pos at h; omega
  | k + 1, h => by
    unfold pos at h ⊢
    split
    · rename_i hg
      rw [if_pos hg] at h
      exact pos_le_at out x k h
    · rename_i hg
      rw [show ((k + 1 : Nat) - 1 : Int) = (k : Int) by omega]
      omega
theorem rd_get (l : List Int) (i : Nat) (h : i < l.length) : rd l (i : Int) = l[i] := by
  unfold rd; rw [Int.toNat_natCast]; simp [List.getD_eq_getElem?_getD, h]
theorem ins_spec (out : List Int) (x : Int) (h : out.Pairwise (· < ·)) : (ins out x).Pairwise (· < ·) ∧ ∀ y, y ∈ ins out x ↔ y ∈ out ∨ y = x := by
  obtain ⟨k, hk⟩ : ∃ k, pos out x out.length = k := ⟨_, rfl⟩
  have h1 := pos_le out x out.length
  have h2 := pos_gt out x out.length
  have h3 := pos_le_at out x out.length
  unfold ins
  simp only []
  rw [hk] at h1 h2 h3 ⊢
  by_cases hc : 0 < k ∧ rd out ((k : Int) - 1) = x
  · rw [if_pos hc]
    obtain ⟨j, rfl⟩ : ∃ j, k = j + 1 := ⟨k - 1, by omega⟩
    have hx : x = out[j] := by rw [← hc.2, show ((j + 1 : Nat) : Int) - 1 = (j : Int) by omega, rd_get out j (by omega)]
    exact ⟨h, fun y => ⟨.inl, fun e => e.elim id (fun e => by rw [e, hx]; exact List.getElem_mem _)⟩⟩
  · rw [if_neg hc]
    have hlt : ∀ y ∈ out.take k, y < x := by
      intro y hy
      obtain ⟨i, hi, rfl⟩ := List.mem_iff_getElem.1 hy
      rw [List.length_take] at hi
      rw [List.getElem_take]
      obtain ⟨j, rfl⟩ : ∃ j, k = j + 1 := ⟨k - 1, by omega⟩
      have h4 := h3 (by omega)
      rw [show ((j + 1 : Nat) : Int) - 1 = (j : Int) by omega, rd_get out j (by omega)] at h4 hc
      have h5 : out[j] ≠ x := fun e => hc ⟨by omega, e⟩
      have h6 : out[i] ≤ out[j] := by
        by_cases e : i = j
        · subst e; exact Int.le_refl _
        · exact Int.le_of_lt (List.pairwise_iff_getElem.1 h i j (by omega) (by omega) (by omega))
      omega
    have hgt : ∀ y ∈ out.drop k, x < y := by
      intro y hy
      obtain ⟨i, hi, rfl⟩ := List.mem_iff_getElem.1 hy
      rw [List.length_drop] at hi
      rw [List.getElem_drop]
      have := h2 (k + i) (by omega) (by omega)
      rw [rd_get out (k + i) (by omega)] at this
      omega
    have hp : (out.take k ++ out.drop k).Pairwise (· < ·) := by rw [List.take_append_drop]; exact h
    obtain ⟨p1, p2, p3⟩ := List.pairwise_append.1 hp
    refine ⟨?_, fun y => ?_⟩
    · rw [List.append_assoc]
      refine List.pairwise_append.2 ⟨p1, List.pairwise_cons.2 ⟨hgt, p2⟩, fun a ha b hb => ?_⟩
      rcases List.mem_cons.1 hb with e | e
      · rw [e]; exact hlt a ha
      · exact p3 a ha b e
    · have : y ∈ out ↔ y ∈ out.take k ∨ y ∈ out.drop k := by rw [← List.mem_append, List.take_append_drop]
      rw [this]
      simp only [List.mem_append, List.mem_singleton]
      constructor
      · rintro ((h | h) | h)
        · exact .inl (.inl h)
        · exact .inr h
        · exact .inl (.inr h)
      · rintro ((h | h) | h)
        · exact .inl (.inl h)
        · exact .inr h
        · exact .inl (.inr h)
theorem fold_spec (l : List Int) : ∀ out : List Int, out.Pairwise (· < ·) → (l.foldl ins out).Pairwise (· < ·) ∧ ∀ y, y ∈ l.foldl ins out ↔ y ∈ out ∨ y ∈ l := by
  induction l with
  | nil => intro out h; exact ⟨h, fun y => by simp⟩
  | cons x l ih =>
    intro out h
    obtain ⟨i1, i2⟩ := ins_spec out x h
    obtain ⟨f1, f2⟩ := ih (ins out x) i1
    exact ⟨f1, fun y => by rw [List.foldl_cons, f2 y, i2 y, List.mem_cons]; exact or_assoc⟩
/-- the reference's uses are the program's -/
theorem insAll_eq (l m : List Int) (h : ∀ x, x ∈ l ↔ x ∈ m) : insAll l = Lib.compact (sorted m) := by
  obtain ⟨f1, f2⟩ := fold_spec l [] List.Pairwise.nil
  refine same_of_up _ _ f1 (compact_up _ (sorted_up m)) fun x => ?_
  rw [compact_mem]
  unfold sorted
  rw [List.mem_mergeSort, ← h x]
  exact (f2 x).trans (by simp)
theorem ins_length (out : List Int) (x : Int) : (ins out x).length ≤ out.length + 1 := by
  unfold ins
  simp only []
  split
  · omega
  · simp; omega
theorem insAll_length (l : List Int) : (insAll l).length ≤ l.length := by
  suffices h : ∀ out : List Int, (l.foldl ins out).length ≤ out.length + l.length by have := h []; simpa [insAll] using this
  induction l with
  | nil => intro out; simp
  | cons x l ih => intro out; have h1 := ih (ins out x); have h2 := ins_length out x; simp only [List.foldl_cons, List.length_cons]; omega
end Go.Proofs.Ytdcmeefeinppnaa.Ins
