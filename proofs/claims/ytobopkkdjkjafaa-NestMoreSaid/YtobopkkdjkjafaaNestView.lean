/- What is open at each place, as a list; where a span ends an End stands. -/
import Derived.Test.YtobopkkdjkjafaaNestPure
namespace Go.Proofs.Ytobopkkdjkjafaa.NestV
open Go.RowKit Go.Proofs.YtobopkkdjkjafaaW.PrintWords Go.Proofs.Ytobopkkdjkjafaa.Nest
set_option linter.unusedVariables false
set_option linter.unusedSimpArgs false

theorem len_S (l S : List T3) (hA : Agr l.length [] [] 0 S) : S.length ≤ l.length := by
  have : ∀ n : Nat, n ≤ S.length → ∀ k : Nat, k < n → (k : Int) ≤ (nth S k).1 := by
    intro n
    induction n with
    | zero => intro _ k hk; omega
    | succ n ih =>
      intro hn k hk
      by_cases e : k < n
      · exact ih (by omega) k e
      · have e2 : k = n := by omega
        subst e2
        cases k with
        | zero => have := (hA.new 0 (by simp) (by omega)).1; omega
        | succ k => have h1 := ih (by omega) k (by omega); have h2 := (hA.nn k (k + 1) (by simp) (by omega) (by omega)).1; push_cast; omega
  by_cases h : S.length ≤ l.length
  · exact h
  · exfalso
    have h1 := this (l.length + 1) (by omega) l.length (by omega)
    have h2 := hA.new l.length (by simp) (by omega)
    omega
theorem sorted_eq : ∀ (u v : List Int), u.Pairwise (· < ·) → v.Pairwise (· < ·) → (∀ x, x ∈ u ↔ x ∈ v) → u = v := by
  intro u
  induction u with
  | nil =>
    intro v _ _ h
    cases v with
    | nil => rfl
    | cons y v => exact absurd ((h y).2 (by simp)) (by simp)
  | cons x u ih =>
    intro v hu hv h
    cases v with
    | nil => exact absurd ((h x).1 (by simp)) (by simp)
    | cons y v =>
      rw [List.pairwise_cons] at hu hv
      have e : x = y := by
        have h1 := (h x).1 (by simp)
        have h2 := (h y).2 (by simp)
        rw [List.mem_cons] at h1 h2
        rcases h1 with h1 | h1
        · exact h1
        · rcases h2 with h2 | h2
          · exact h2.symm
          · have := hv.1 _ h1; have := hu.1 _ h2; omega
      subst e
      congr 1
      apply ih v hu.2 hv.2
      intro z
      have := h z
      rw [List.mem_cons, List.mem_cons] at this
      constructor
      · intro hz
        rcases this.1 (.inr hz) with e | e
        · have := hu.1 _ hz; omega
        · exact e
      · intro hz
        rcases this.2 (.inr hz) with e | e
        · have := hv.1 _ hz; omega
        · exact e
instance (s : T3) (i : Int) : Decidable (arnd s i) := by unfold arnd; infer_instance
def vw (S : List T3) (i : Int) : Nat → List Int
  | 0 => []
  | m + 1 => if arnd (nth S m) i then vw S i m ++ [(m : Int)] else vw S i m
theorem vw_mem (S : List T3) (i : Int) : ∀ m (x : Int), x ∈ vw S i m ↔ ∃ k : Nat, k < m ∧ x = (k : Int) ∧ arnd (nth S k) i := by
  intro m
  induction m with
  | zero => intro x; simp [vw]
  | succ m ih =>
    intro x
    unfold vw
    by_cases h : arnd (nth S m) i
    · rw [if_pos h, List.mem_append, ih, List.mem_singleton]
      constructor
      · rintro (⟨k, h1, h2, h3⟩ | rfl)
        · exact ⟨k, by omega, h2, h3⟩
        · exact ⟨m, by omega, rfl, h⟩
      · rintro ⟨k, h1, h2, h3⟩
        by_cases e : k = m
        · subst e; exact .inr h2
        · exact .inl ⟨k, by omega, h2, h3⟩
    · rw [if_neg h, ih]
      constructor
      · rintro ⟨k, h1, h2, h3⟩; exact ⟨k, by omega, h2, h3⟩
      · rintro ⟨k, h1, h2, h3⟩
        have e : k ≠ m := fun e => h (e ▸ h3)
        exact ⟨k, by omega, h2, h3⟩
theorem vw_sorted (S : List T3) (i : Int) : ∀ m, (vw S i m).Pairwise (· < ·) := by
  intro m
  induction m with
  | zero => simp [vw]
  | succ m ih =>
    unfold vw
    by_cases h : arnd (nth S m) i
    · rw [if_pos h, List.pairwise_append]
      refine ⟨ih, by simp, fun x hx y hy => ?_⟩
      obtain ⟨k, h1, h2, _⟩ := (vw_mem S i m x).1 hx
      simp at hy; omega
    · rw [if_neg h]; exact ih
theorem vw_len (S : List T3) (i : Int) : ∀ m, (vw S i m).length ≤ m := by
  intro m
  induction m with
  | zero => simp [vw]
  | succ m ih =>
    unfold vw
    by_cases h : arnd (nth S m) i
    · rw [if_pos h, List.length_append, List.length_cons, List.length_nil]; omega
    · rw [if_neg h]; omega
theorem view_vw {S : List T3} {i : Int} {v : List Int} (h : View S i v) : v = vw S i S.length := by
  apply sorted_eq _ _ h.sorted (vw_sorted S i _)
  intro x
  rw [vw_mem]
  constructor
  · intro hx
    obtain ⟨h0, h1⟩ := h.inn x hx
    obtain ⟨k, rfl⟩ := Int.eq_ofNat_of_zero_le h0
    exact ⟨k, by omega, rfl, (h.mem k (by omega)).1 hx⟩
  · rintro ⟨k, h1, rfl, h3⟩
    exact (h.mem k h1).2 h3
def cnts (S : List T3) : Nat → List Int
  | 0 => []
  | m + 1 => cnts S m ++ [((vw S (m : Int) S.length).length : Int)]
theorem cnts_len (S : List T3) : ∀ m, (cnts S m).length = m := by
  intro m
  induction m with
  | zero => rfl
  | succ m ih => unfold cnts; rw [List.length_append, ih]; rfl
theorem cnts_get (S : List T3) : ∀ m i : Nat, i < m → (cnts S m)[i]? = some ((vw S (i : Int) S.length).length : Int) := by
  intro m
  induction m with
  | zero => intro i h; omega
  | succ m ih =>
    intro i h
    unfold cnts
    by_cases e : i < m
    · rw [List.getElem?_append_left (by rw [cnts_len]; exact e)]; exact ih i e
    · have e2 : i = m := by omega
      subst e2
      rw [List.getElem?_append_right (by rw [cnts_len]; exact Nat.le_refl _), cnts_len]; simp
theorem depths_cnts (L S : List T3) (h0 : (wkAll L).2.1 = 0) (hlen : (wkAll L).2.2.length = L.length) (hv : ∀ i (h : i < (wkAll L).2.2.length), ((wkAll L).2.2[i]).1 = (i : Int) ∧ View S (i : Int) ((wkAll L).2.2[i]).2) : depths L = cnts S L.length := by
  unfold depths
  rw [if_pos h0]
  apply List.ext_getElem?
  intro i
  by_cases hi : i < L.length
  · rw [cnts_get _ _ _ hi, List.getElem?_map, List.getElem?_eq_getElem (by omega)]
    have := view_vw (hv i (by omega)).2
    simp only [Option.map_some]
    rw [this]
  · rw [List.getElem?_eq_none (by rw [List.length_map]; omega), List.getElem?_eq_none (by rw [cnts_len]; omega)]
theorem wk_ends (L : List T3) : ∀ (r a : Nat) (sp : List T3) (op : List Int) (deep : Bool) (R : List T3) (lg : List (Int × List Int)), wk L r a sp op deep = (R, 0, lg) →
    op.Pairwise (· < ·) → (∀ j ∈ op, 0 ≤ j ∧ j < (sp.length : Int)) → (∀ k, k < sp.length → 0 ≤ (nth sp k).1) → (∀ k : Nat, k < sp.length → (k : Int) ∉ op → (at3 L (nth sp k).2.2).1 = 11) → ∀ k, k < R.length → (at3 L (nth R k).2.2).1 = 11 := by
  intro r
  induction r with
  | zero => intro a sp op deep R lg h; simp [wk] at h
  | succ r ih =>
    intro a sp op deep R lg h hs hin hb he
    by_cases ho : opens (at3 L a).1 = true
    · obtain ⟨lg1, rfl, h1⟩ := wk_opens h ho
      refine ih _ _ _ _ _ _ h1 ?_ ?_ ?_ ?_
      · rw [List.pairwise_append]
        refine ⟨hs, by simp, fun x hx y hy => ?_⟩
        simp at hy; subst hy; exact (hin x hx).2
      · intro j hj
        rcases List.mem_append.1 hj with hj | hj
        · have := hin j hj; simp; omega
        · simp at hj; simp; omega
      · intro k hk
        by_cases e : k < sp.length
        · rw [nth_left e]; exact hb k e
        · have e2 : k = sp.length := by simp at hk; omega
          subst e2; rw [nth_last]; simp only; omega
      · intro k hk hm
        by_cases e : k < sp.length
        · rw [nth_left e]; exact he k e (fun h => hm (List.mem_append.2 (.inl h)))
        · exact absurd (List.mem_append.2 (.inr (by simp at hk; simp; omega))) hm
    · by_cases h5 : (at3 L a).1 = 5
      · by_cases hop : op = []
        · have := (wk_else_no h h5 (.inl hop)).2.1; cases this
        · obtain ⟨hj0, hj1⟩ := hin _ (last_mem hop)
          obtain ⟨jn, hjn⟩ := Int.eq_ofNat_of_zero_le hj0
          have hjm : (jn : Int) ∈ op := by rw [← hjn]; exact last_mem hop
          rw [hjn] at hj1
          have hjl : jn < sp.length := by omega
          obtain ⟨bn, hbn⟩ := Int.eq_ofNat_of_zero_le (hb jn hjl)
          have hxx : at3 sp (jn : Int) = ((bn : Int), (nth sp jn).2.1, (nth sp jn).2.2) := by rw [at3_nat, ← hbn]
          by_cases hc : (at3 L (bn : Int)).1 = 4 ∧ (nth sp jn).2.1 < 0
          · obtain ⟨lg1, rfl, h1⟩ := wk_else h h5 hop hjn hxx hc.1 hc.2
            refine ih _ _ _ _ _ _ h1 hs (fun j hj => by rw [List.length_set]; exact hin j hj) ?_ ?_
            · intro k hk
              rw [List.length_set] at hk
              rw [nth_set _ _ hjl]
              by_cases e : k = jn
              · rw [if_pos e]; simp only; omega
              · rw [if_neg e]; exact hb k hk
            · intro k hk hm
              rw [List.length_set] at hk
              rw [nth_set _ _ hjl, if_neg (fun e => hm (by rw [e]; exact hjm))]
              exact he k hk hm
          · have := (wk_else_no h h5 (.inr ⟨hop, jn, bn, _, _, hjn, hxx, by omega⟩)).2.1; cases this
      · by_cases h11 : (at3 L a).1 = 11
        · by_cases hop : op = []
          · subst hop
            obtain ⟨rl, r1, r2, r3⟩ := wk_last h h11
            by_cases hl : a + 1 = L.length
            · cases deep
              · obtain ⟨rR, _⟩ := r3 hl rfl
                subst rR
                intro k hk
                by_cases e : k < sp.length
                · rw [nth_left e]; exact he k e (by simp)
                · have e2 : k = sp.length := by simp at hk; omega
                  subst e2; rw [nth_last]; exact h11
              · have := (r2 hl rfl).2; cases this
            · have := (r1 hl).2; cases this
          · obtain ⟨hj0, hj1⟩ := hin _ (last_mem hop)
            obtain ⟨jn, hjn⟩ := Int.eq_ofNat_of_zero_le hj0
            have hdl := fun j => dropLast_mem hs hop j
            rw [hjn] at hj1 hdl
            have hjl : jn < sp.length := by omega
            obtain ⟨bn, hbn⟩ := Int.eq_ofNat_of_zero_le (hb jn hjl)
            have hxx : at3 sp (jn : Int) = ((bn : Int), (nth sp jn).2.1, (nth sp jn).2.2) := by rw [at3_nat, ← hbn]
            obtain ⟨lg1, rfl, h1⟩ := wk_end h h11 hop hjn hxx
            refine ih _ _ _ _ _ _ h1 (hs.sublist (List.dropLast_sublist op)) (fun j hj => by rw [List.length_set]; exact hin j (List.dropLast_subset _ hj)) ?_ ?_
            · intro k hk
              rw [List.length_set] at hk
              rw [nth_set _ _ hjl]
              by_cases e : k = jn
              · rw [if_pos e]; simp only; omega
              · rw [if_neg e]; exact hb k hk
            · intro k hk hm
              rw [List.length_set] at hk
              rw [nth_set _ _ hjl]
              by_cases e : k = jn
              · rw [if_pos e]; exact h11
              · rw [if_neg e]; exact he k hk (fun h => hm ((hdl _).2 ⟨h, fun e' => e (by omega)⟩))
        · obtain ⟨lg1, rfl, h1⟩ := wk_other h ho h5 h11
          exact ih _ _ _ _ _ _ h1 hs hin hb he
theorem wkAll_ends (L : List T3) (h : (wkAll L).2.1 = 0) : ∀ k, k < (wkAll L).1.length → (at3 L (nth (wkAll L).1 k).2.2).1 = 11 :=
  wk_ends L L.length 0 [] [] false (wkAll L).1 (wkAll L).2.2 (by rw [← h]; rfl) (by simp) (by simp) (by simp) (by simp)
theorem rd_cnts (L S : List T3) (a : Nat) (ha : a < L.length) : rd (cnts S L.length) (a : Int) = ((vw S (a : Int) S.length).length : Int) := by
  unfold rd
  rw [Int.toNat_natCast, List.getD_eq_getElem?_getD, cnts_get _ _ _ ha]; rfl
end Go.Proofs.Ytobopkkdjkjafaa.NestV
