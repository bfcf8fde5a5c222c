/- What a code that fits is good for: nothing panics in live.sets; plain facts. -/
import Derived.Test.YtdcmeefeinppnaaSets
namespace Go.Proofs.Ytdcmeefeinppnaa.Live
open Go.RowKit Go.Proofs.YtdcmeefeinppnaaW.PrintWords Go.Proofs.YtdcmeefeinppnaaW.PrintLast Go.Proofs.YtdcmeefeinppnaaW.PrintMore Go.Proofs.Ytdcmeefeinppnaa.Ir
open MapOf (get put)
open Uses (uses sorted raw)
set_option linter.unusedVariables false
set_option linter.unusedSimpArgs false

theorem mem_compact {l : List Int} {x : Int} (h : x ∈ Lib.compact l) : x ∈ l := by
  unfold Lib.compact Lib.compactUpTo at h
  obtain ⟨j, hj, rfl⟩ := List.mem_map.1 h
  have hj2 := List.mem_range.1 (List.mem_filter.1 hj).1
  simp [hj2]
theorem mem_sorted {l : List Int} {x : Int} (h : x ∈ sorted l) : x ∈ l := by unfold sorted at h; exact List.mem_mergeSort.1 h
theorem labs_places (L : List Ir) (n : Int) (k : Nat) : ∀ v, get (labs L k).1 n = some v → 0 ≤ v ∧ v < k := by
  induction k with
  | zero => intro v h; cases h
  | succ k ih =>
    intro v h
    unfold labs at h
    by_cases h9 : (atIr L k).op = 9
    · rw [if_pos h9] at h
      simp only at h
      split at h
      · rw [MapOf.get_put] at h
        split at h
        · injection h with h; omega
        · have := ih v h; omega
      · have := ih v h; omega
    · rw [if_neg h9] at h
      have := ih v h; omega
theorem addTo_mem {c : Cod} {xs : List Int} {k : Int} {ok : Bool} (hx : ∀ x ∈ xs, 0 ≤ x ∧ x < c.body.length) (hk : ok = true → 0 ≤ k) : ∀ x ∈ addTo c xs k ok, 0 ≤ x ∧ x < c.body.length := by
  unfold addTo
  split
  · rename_i h
    intro x hxm
    rcases List.mem_append.1 hxm with hxm | hxm
    · exact hx x hxm
    · rw [List.mem_singleton.1 hxm]; exact ⟨hk h.1, h.2⟩
  · exact hx
theorem next_mem (c : Cod) (at_ : Nat) : ∀ x ∈ nextOf c (labs c.body c.body.length).1 at_, 0 ≤ x ∧ x < c.body.length := by
  intro x hx
  have h := mem_sorted (mem_compact hx)
  have hp : ∀ n, (get (labs c.body c.body.length).1 n).isSome = true → 0 ≤ (get (labs c.body c.body.length).1 n).getD 0 := by
    intro n hs
    obtain ⟨v, hv⟩ := Option.isSome_iff_exists.1 hs
    have := labs_places _ _ _ v hv
    rw [hv]; exact this.1
  have h0 : ∀ x ∈ ([] : List Int), 0 ≤ x ∧ x < (c.body.length : Int) := by simp
  unfold rawNext at h
  simp only at h
  split at h
  · simp at h
  · split at h
    · exact addTo_mem h0 (hp _) x h
    · split at h
      · exact addTo_mem (addTo_mem h0 (hp _)) (fun _ => by omega) x h
      · exact addTo_mem h0 (fun _ => by omega) x h
theorem next_len (c : Cod) (p : List (Int × Int)) (at_ : Nat) : (nextOf c p at_).length ≤ 2 := by
  unfold nextOf
  refine Nat.le_trans (Lib.compact_length_le _) ?_
  rw [Uses.sorted_length]
  unfold rawNext
  simp only
  split
  · simp
  · split
    · exact Nat.le_trans (addTo_len _ _ _ _) (by simp)
    · split
      · exact Nat.le_trans (addTo_len _ _ _ _) (Nat.succ_le_succ (addTo_len _ _ _ _))
      · exact Nat.le_trans (addTo_len _ _ _ _) (by simp)
theorem fits_head {c : Cod} (h : fits c = true) : 0 ≤ c.cells ∧ c.cells ≤ 60 ∧ 0 ≤ c.params ∧ c.params ≤ c.cells ∧ c.body.length ≤ 1000 := by
  have h2 : headOk c = true := by unfold fits at h; exact (Bool.and_eq_true _ _ ▸ h).1
  simp [headOk] at h2; omega
theorem fits_ir {c : Cod} (h : fits c = true) (j : Nat) (hj : j < c.body.length) : okIr c (atIr c.body j) = true := by
  unfold fits at h
  have h2 := List.all_eq_true.1 (Bool.and_eq_true _ _ ▸ h).2
  apply h2
  unfold atIr
  rw [List.getD_eq_getElem?_getD, List.getElem?_eq_getElem hj]
  exact List.getElem_mem hj
theorem ways_at {c : Cod} {j : Nat} (hj : j < c.body.length) : (waysOf c).getD j [] = nextOf c (labs c.body c.body.length).1 j := by
  unfold waysOf
  rw [List.getD_eq_getElem?_getD, List.getElem?_map, List.getElem?_range hj]
  rfl
theorem okIr_use {c : Cod} {x : Ir} (h : okIr c x = true) : ∀ k ∈ uses x.op x.a x.b x.c, 0 ≤ k ∧ k < c.cells := by
  intro k hk
  have h2 : ((uses x.op x.a x.b x.c).any (oddB c.cells)) = false := by
    unfold okIr at h
    rw [Bool.and_eq_true] at h
    simpa using h.2
  have h3 := List.any_eq_false.1 h2 k hk
  simp [oddB] at h3
  omega
theorem okIr_def {c : Cod} {x : Ir} (h : okIr c x = true) : -1 ≤ defs x ∧ defs x < c.cells := by
  unfold okIr at h
  simp only [Bool.and_eq_true] at h
  have := h.1.2
  simp at this
  omega
theorem fine_of_fits {c : Cod} (h : fits c = true) : Fine c (waysOf c) where
  way := fun j hj k hk => by rw [ways_at hj] at hk; exact next_mem c j k hk
  len := fun j hj => by rw [ways_at hj]; exact Nat.le_trans (next_len _ _ _) (by omega)
  use := fun j hj k hk => by have := okIr_use (fits_ir h j hj) k hk; have := fits_head h; omega
  dfs := fun j hj => by have := okIr_def (fits_ir h j hj); have := fits_head h; omega
theorem iterS_mono (c : Cod) (ws : List (List Int)) (k : Nat) : ∀ ah af r, iterS c ws k ah af = some r → iterS c ws (k + 1) ah af = some r := by
  induction k with
  | zero => intro ah af r h; simp [iterS] at h
  | succ k ih =>
    intro ah af r h
    unfold iterS at h ⊢
    split at h
    · rename_i hc; rw [if_pos hc]; exact ih _ _ _ h
    · rename_i hc; rw [if_neg hc]; exact h
theorem sets_calls (c : Cod) (A : Option Addr) (cap : Nat) (w : World) (hC : CodeAt w c A cap) (hf : fits c = true) (k : Nat) (rh rf : List Int) (hk : iterS c (waysOf c) k (List.replicate c.body.length 0) (List.replicate c.body.length 0) = some (rh, rf)) :
    Calls Try.prog 41 #[.agg (c.vals A cap)] w (SetsOut w rh rf 0) := sets_yes c A cap w hC hf (fine_of_fits hf) k rh rf hk
end Go.Proofs.Ytdcmeefeinppnaa.Live
