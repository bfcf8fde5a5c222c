/- The spans and the depths are the reference's. -/
import Derived.Test.YtobopkkdjkjafaaPureNestRef
import Derived.Test.YtobopkkdjkjafaaPnx14
namespace Go.Proofs.Ytobopkkdjkjafaa.NestEq
open Go.RowKit Go.Proofs.YtobopkkdjkjafaaW.PrintWords Go.Proofs.YtobopkkdjkjafaaW.PrintLast Go.Proofs.YtobopkkdjkjafaaW.PrintMore Go.Proofs.Ytobopkkdjkjafaa.Nest Go.Proofs.Ytobopkkdjkjafaa.NestRow Go.Proofs.Ytobopkkdjkjafaa.Pn
set_option linter.unusedVariables false
set_option linter.unusedSimpArgs false

theorem sorted_eq : ∀ (u v : List Int), u.Pairwise (· < ·) → v.Pairwise (· < ·) → (∀ x, x ∈ u ↔ x ∈ v) → u = v := by
  intro u
  induction u with
  | nil =>
    intro v _ _ h
    cases v with
    | nil => rfl
    | cons y v => exact absurd ((h y).2 (by simp)) (by simp)
  | cons x u ih =>
    intro v hu hv h
    cases v with
    | nil => exact absurd ((h x).1 (by simp)) (by simp)
    | cons y v =>
      rw [List.pairwise_cons] at hu hv
      have e : x = y := by
        have h1 := (h x).1 (by simp)
        have h2 := (h y).2 (by simp)
        rw [List.mem_cons] at h1 h2
        rcases h1 with h1 | h1
        · exact h1
        · rcases h2 with h2 | h2
          · exact h2.symm
          · have := hv.1 _ h1; have := hu.1 _ h2; omega
      subst e
      congr 1
      apply ih v hu.2 hv.2
      intro z
      have := h z
      rw [List.mem_cons, List.mem_cons] at this
      constructor
      · intro hz
        rcases this.1 (.inr hz) with e | e
        · have := hu.1 _ hz; omega
        · exact e
      · intro hz
        rcases this.2 (.inr hz) with e | e
        · have := hv.1 _ hz; omega
        · exact e

instance (s : T3) (i : Int) : Decidable (arnd s i) := by unfold arnd; infer_instance
def vw (S : List T3) (i : Int) : Nat → List Int
  | 0 => []
  | m + 1 => if arnd (nth S m) i then vw S i m ++ [(m : Int)] else vw S i m
theorem vw_mem (S : List T3) (i : Int) : ∀ m (x : Int), x ∈ vw S i m ↔ ∃ k : Nat, k < m ∧ x = (k : Int) ∧ arnd (nth S k) i := by
  intro m
  induction m with
  | zero => intro x; simp [vw]
  | succ m ih =>
    intro x
    unfold vw
    by_cases h : arnd (nth S m) i
    · rw [if_pos h, List.mem_append, ih, List.mem_singleton]
      constructor
      · rintro (⟨k, h1, h2, h3⟩ | rfl)
        · exact ⟨k, by omega, h2, h3⟩
        · exact ⟨m, by omega, rfl, h⟩
      · rintro ⟨k, h1, h2, h3⟩
        by_cases e : k = m
        · subst e; exact .inr h2
        · exact .inl ⟨k, by omega, h2, h3⟩
    · rw [if_neg h, ih]
      constructor
      · rintro ⟨k, h1, h2, h3⟩; exact ⟨k, by omega, h2, h3⟩
      · rintro ⟨k, h1, h2, h3⟩
        have e : k ≠ m := fun e => h (e ▸ h3)
        exact ⟨k, by omega, h2, h3⟩
theorem vw_sorted (S : List T3) (i : Int) : ∀ m, (vw S i m).Pairwise (· < ·) := by
  intro m
  induction m with
  | zero => simp [vw]
  | succ m ih =>
    unfold vw
    by_cases h : arnd (nth S m) i
    · rw [if_pos h, List.pairwise_append]
      refine ⟨ih, by simp, fun x hx y hy => ?_⟩
      obtain ⟨k, h1, h2, _⟩ := (vw_mem S i m x).1 hx
      simp at hy; omega
    · rw [if_neg h]; exact ih
theorem vw_len (S : List T3) (i : Int) : ∀ m, (vw S i m).length ≤ m := by
  intro m
  induction m with
  | zero => simp [vw]
  | succ m ih =>
    unfold vw
    by_cases h : arnd (nth S m) i
    · rw [if_pos h, List.length_append, List.length_cons, List.length_nil]; omega
    · rw [if_neg h]; omega
theorem view_vw {S : List T3} {i : Int} {v : List Int} (h : View S i v) : v = vw S i S.length := by
  apply sorted_eq _ _ h.sorted (vw_sorted S i _)
  intro x
  rw [vw_mem]
  constructor
  · intro hx
    obtain ⟨h0, h1⟩ := h.inn x hx
    obtain ⟨k, rfl⟩ := Int.eq_ofNat_of_zero_le h0
    exact ⟨k, by omega, rfl, (h.mem k (by omega)).1 hx⟩
  · rintro ⟨k, h1, rfl, h3⟩
    exact (h.mem k h1).2 h3

theorem spansEq (R : List T3) : ∀ m i : Nat, i + m = R.length → R.length ≤ 100000 → ∃ k, oubliettelaw06_spans.l0 k (R.map nest_sp) (R.map s61) (i : Int) = some true := by
  intro m
  induction m with
  | zero =>
    intro i hi hR
    refine ⟨1, ?_⟩
    rw [oubliettelaw06_spans.l0, if_neg (by rw [List.length_map]; omega)]
  | succ m ih =>
    intro i hi hR
    obtain ⟨k, hk⟩ := ih (i + 1) (by omega) hR
    refine ⟨k + 1, ?_⟩
    rw [oubliettelaw06_spans.l0, if_pos (by rw [List.length_map]; omega), if_pos (by omega), if_pos (by rw [List.length_map]; omega), rd34 _ _ (by omega), rd61 _ _ (by omega), if_pos (show (nest_sp (nth R i)).f0 = (s61 (nth R i)).f0 from rfl), if_pos (show (nest_sp (nth R i)).f1 = (s61 (nth R i)).f1 from rfl), if_pos (show (nest_sp (nth R i)).f2 = (s61 (nth R i)).f2 from rfl), show wrap64 ((i : Int) + 1) = ((i + 1 : Nat) : Int) from by unfold wrap64; omega]
    exact hk
theorem spansEq_f (R : List T3) (hR : R.length ≤ 100000) : ∃ k, oubliettelaw06_spans.f k (R.map nest_sp) (R.map s61) = some true := by
  obtain ⟨k, hk⟩ := spansEq R R.length 0 (by omega) hR
  refine ⟨k, ?_⟩
  unfold oubliettelaw06_spans.f
  rw [if_pos (by rw [List.length_map, List.length_map])]; exact hk
theorem numEq (R : List Int) : ∀ m i : Nat, i + m = R.length → R.length ≤ 100000 → ∃ k, oubliettelaw06_numbers.l0 k R R (i : Int) = some true := by
  intro m
  induction m with
  | zero =>
    intro i hi hR
    refine ⟨1, ?_⟩
    rw [oubliettelaw06_numbers.l0, if_neg (by omega)]
  | succ m ih =>
    intro i hi hR
    obtain ⟨k, hk⟩ := ih (i + 1) (by omega) hR
    refine ⟨k + 1, ?_⟩
    rw [oubliettelaw06_numbers.l0, if_pos (by omega), if_pos (by omega), if_pos (by omega), if_pos rfl, show wrap64 ((i : Int) + 1) = ((i + 1 : Nat) : Int) from by unfold wrap64; omega]
    exact hk
theorem numEq_f (R : List Int) (hR : R.length ≤ 100000) : ∃ k, oubliettelaw06_numbers.f k R R = some true := by
  obtain ⟨k, hk⟩ := numEq R R.length 0 (by omega) hR
  refine ⟨k, ?_⟩
  unfold oubliettelaw06_numbers.f
  rw [if_pos rfl]; exact hk

theorem around_f (s : T3) (a : Int) : oublietteref06_around.f s.1 s.2.1 s.2.2 a = some (decide (arnd s a)) := by
  unfold oublietteref06_around.f
  by_cases h : arnd s a
  · rw [decide_eq_true h]
    unfold arnd at h
    rw [if_pos h.1, if_pos h.2.1, bne_iff_ne.mpr h.2.2]
  · rw [decide_eq_false h]
    by_cases h1 : s.1 < a
    · rw [if_pos h1]
      by_cases h2 : a < s.2.2
      · rw [if_pos h2]
        have h3 : a = s.2.1 := by
          unfold arnd at h; omega
        rw [bne_eq_false_iff_eq.mpr h3]
      · rw [if_neg h2]
    · rw [if_neg h1]

/-- the depths, as the reference counts them -/
def cnts (S : List T3) : Nat → List Int
  | 0 => []
  | m + 1 => cnts S m ++ [((vw S (m : Int) S.length).length : Int)]
theorem cnts_len (S : List T3) : ∀ m, (cnts S m).length = m := by
  intro m
  induction m with
  | zero => rfl
  | succ m ih => unfold cnts; rw [List.length_append, ih]; rfl
theorem cnts_get (S : List T3) : ∀ m i : Nat, i < m → (cnts S m)[i]? = some ((vw S (i : Int) S.length).length : Int) := by
  intro m
  induction m with
  | zero => intro i h; omega
  | succ m ih =>
    intro i h
    unfold cnts
    by_cases e : i < m
    · rw [List.getElem?_append_left (by rw [cnts_len]; exact e)]; exact ih i e
    · have e2 : i = m := by omega
      subst e2
      rw [List.getElem?_append_right (by rw [cnts_len]; exact Nat.le_refl _), cnts_len]; simp

section
variable (L S : List T3) (z : T3) (hL : L.length ≤ 90000) (hS : S.length ≤ L.length)
include hL hS
theorem depth_l1 (acc : List Int) (a : Nat) (ha : a < L.length) (hacc : acc.length = a) (k0 : Nat) (r : Option (List Int × Int)) (hk : oublietteref06_Depth.l0 k0 (L.map to37) ((S ++ [z]).map s61) (acc ++ [((vw S (a : Int) S.length).length : Int)]) ((a + 1 : Nat) : Int) = r) :
    ∀ m j : Nat, j + m = S.length → ∃ k, oublietteref06_Depth.l1 k (L.map to37) ((S ++ [z]).map s61) acc (a : Int) ((vw S (a : Int) j).length : Int) (j : Int) = r := by
  have ew : wrap64 (((((S ++ [z]).map s61).length : Nat) : Int) - 1) = (S.length : Int) := by rw [List.length_map, List.length_append, List.length_cons, List.length_nil]; unfold wrap64; omega
  intro m
  induction m with
  | zero =>
    intro j hj
    have e : j = S.length := by omega
    subst e
    refine ⟨k0 + 1, ?_⟩
    rw [oublietteref06_Depth.l1, ew, if_neg (by omega), if_pos (by omega), w1 (a := a) (by omega)]
    exact hk
  | succ m ih =>
    intro j hj
    obtain ⟨k, hk⟩ := ih (j + 1) (by omega)
    refine ⟨k + 1, ?_⟩
    have hv := vw_len S (a : Int) j
    rw [oublietteref06_Depth.l1, ew, if_pos (by omega), if_pos (by omega), if_pos (by rw [List.length_map, List.length_append]; omega), rd61 _ _ (by rw [List.length_append]; omega), nth_left (by omega), w1 (a := j) (by omega), w1 (a := (vw S (a : Int) j).length) (by omega)]
    unfold vw at hk
    by_cases h : arnd (nth S j) (a : Int)
    · rw [if_pos h, List.length_append, List.length_cons, List.length_nil] at hk
      have e := around_f (nth S j) (a : Int)
      rw [decide_eq_true h] at e
      have e' : oublietteref06_around.f (s61 (nth S j)).f0 (s61 (nth S j)).f1 (s61 (nth S j)).f2 (a : Int) = some true := e
      rw [e']
      exact hk
    · rw [if_neg h] at hk
      have e := around_f (nth S j) (a : Int)
      rw [decide_eq_false h] at e
      have e' : oublietteref06_around.f (s61 (nth S j)).f0 (s61 (nth S j)).f1 (s61 (nth S j)).f2 (a : Int) = some false := e
      rw [e']
      exact hk
theorem depth_l0 : ∀ m a : Nat, a + m = L.length → ∃ k, oublietteref06_Depth.l0 k (L.map to37) ((S ++ [z]).map s61) (cnts S a) (a : Int) = some (cnts S L.length, 0) := by
  intro m
  induction m with
  | zero =>
    intro a ha
    refine ⟨1, ?_⟩
    have e : a = L.length := by omega
    subst e
    rw [oublietteref06_Depth.l0, if_neg (by rw [List.length_map]; omega)]
  | succ m ih =>
    intro a ha
    obtain ⟨k, hk⟩ := ih (a + 1) (by omega)
    obtain ⟨k1, hk1⟩ := depth_l1 L S z hL hS (cnts S a) a (by omega) (cnts_len S a) k _ hk S.length 0 (by omega)
    refine ⟨k1 + 1, ?_⟩
    rw [oublietteref06_Depth.l0, if_pos (by rw [List.length_map]; omega)]
    exact hk1
end

theorem depths_cnts (L S : List T3) (h0 : (wkAll L).2.1 = 0) (hlen : (wkAll L).2.2.length = L.length) (hv : ∀ i (h : i < (wkAll L).2.2.length), ((wkAll L).2.2[i]).1 = (i : Int) ∧ View S (i : Int) ((wkAll L).2.2[i]).2) : depths L = cnts S L.length := by
  unfold depths
  rw [if_pos h0]
  apply List.ext_getElem?
  intro i
  by_cases hi : i < L.length
  · rw [cnts_get _ _ _ hi, List.getElem?_map, List.getElem?_eq_getElem (by omega)]
    have := view_vw (hv i (by omega)).2
    simp only [Option.map_some]
    rw [this]
  · rw [List.getElem?_eq_none (by rw [List.length_map]; omega), List.getElem?_eq_none (by rw [cnts_len]; omega)]

theorem refDepth_f (L : List T3) (hL : L.length ≤ 90000) : ∃ k, oublietteref06_Depth.f k (L.map to37) = some (depths L, (wkAll L).2.1) := by
  obtain ⟨k1, hk1⟩ := refSpans_f L hL
  by_cases h0 : (wkAll L).2.1 = 0
  · obtain ⟨S, eR, hA, hlen, hv⟩ := wkAll_all L h0
    obtain ⟨k2, hk2⟩ := depth_l0 L S (-1, -1, (L.length : Int) - 1) hL (len_S L S hA) L.length 0 (by omega)
    refine ⟨k1 + k2, ?_⟩
    unfold oublietteref06_Depth.f
    rw [at_rounds (oublietteref06_Spans.mono _) (by omega : k1 ≤ k1 + k2) hk1]
    simp only [Option.bind_some]
    rw [if_pos h0, eR, h0, depths_cnts L S h0 hlen hv]
    exact at_rounds (g := fun k => oublietteref06_Depth.l0 k (L.map to37) ((S ++ [((-1 : Int), (-1 : Int), (L.length : Int) - 1)]).map s61) [] 0) (fun k => (oublietteref06_Depth.mono_l k).1 _ _ _ _) (by omega) hk2
  · refine ⟨k1, ?_⟩
    unfold oublietteref06_Depth.f
    rw [hk1]
    simp only [Option.bind_some]
    rw [if_neg h0]
    unfold depths
    rw [if_neg h0]

theorem wkAll_len (L : List T3) (hL : L.length ≤ 90000) : (wkAll L).1.length ≤ 100000 ∧ (depths L).length ≤ 100000 := by
  by_cases h0 : (wkAll L).2.1 = 0
  · obtain ⟨S, eR, hA, hlen, hv⟩ := wkAll_all L h0
    have := len_S L S hA
    rw [eR]
    unfold depths
    rw [if_pos h0]
    rw [List.length_append, List.length_cons, List.length_nil, List.length_map]; omega
  · unfold depths
    rw [wkAll_bad L h0, if_neg h0]; simp

theorem PureSpans (l : List T3) : ∃ k, oubliettelaw06_NestSpans.f k (l.map to37) = some true := by
  have hc : (l.take (min 300 l.length)).length ≤ 90000 := by rw [List.length_take]; omega
  have go : ∀ k, 60 ≤ k → oubliettelaw06_NestSpans.f k (l.map to37) = (nest_Spans.f ((l.take (min 300 l.length)).map to37)).bind fun bt218 => ((oublietteref06_Spans.f k ((l.take (min 300 l.length)).map to37)).bind fun bt222 => ((oubliettelaw06_spans.f k bt218.1 bt222.1).bind fun t226 => ((nest_Depth.f ((l.take (min 300 l.length)).map to37)).bind fun bt227 => ((oublietteref06_Depth.f k ((l.take (min 300 l.length)).map to37)).bind fun bt231 => ((oubliettelaw06_numbers.f k bt227.1 bt231.1).bind fun t235 => (if t226 = true then (if bt218.2 = bt222.2 then (if t235 = true then (some (bt227.2 == bt231.2)) else (some false)) else (some false)) else (some false))))))) := by
    intro k hk
    unfold oubliettelaw06_NestSpans.f
    rw [at_rounds oubliettelaw06_examples.mono hk examples_f]
    exact cut_f l 300 _
  generalize hL : l.take (min 300 l.length) = L at *
  obtain ⟨k1, hk1⟩ := refSpans_f L hc
  obtain ⟨k2, hk2⟩ := spansEq_f (wkAll L).1 (wkAll_len L hc).1
  obtain ⟨k3, hk3⟩ := refDepth_f L hc
  obtain ⟨k4, hk4⟩ := numEq_f (depths L) (wkAll_len L hc).2
  have hdp : nest_Depth.f (L.map to37) = some (depths L, (wkAll L).2.1) := by
    unfold nest_Depth.f
    rw [if_pos (by rw [List.length_map]; exact hc), in37, all37]
  refine ⟨60 + k1 + k2 + k3 + k4, ?_⟩
  rw [go _ (by omega), spans_f L hc, at_rounds (oublietteref06_Spans.mono _) (by omega : k1 ≤ 60 + k1 + k2 + k3 + k4) hk1]
  simp only [Option.bind_some]
  rw [at_rounds (oubliettelaw06_spans.mono _ _) (by omega : k2 ≤ 60 + k1 + k2 + k3 + k4) hk2, hdp]
  simp only [Option.bind_some]
  rw [at_rounds (oublietteref06_Depth.mono _) (by omega : k3 ≤ 60 + k1 + k2 + k3 + k4) hk3]
  simp only [Option.bind_some]
  rw [at_rounds (oubliettelaw06_numbers.mono _ _) (by omega : k4 ≤ 60 + k1 + k2 + k3 + k4) hk4]
  simp only [Option.bind_some]
  rw [if_pos trivial, if_pos trivial, if_pos trivial, beq_self_eq_true]
end Go.Proofs.Ytobopkkdjkjafaa.NestEq
