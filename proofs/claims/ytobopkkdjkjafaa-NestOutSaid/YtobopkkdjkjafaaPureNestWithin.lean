/- The spans lie one within another, or apart. -/
import Derived.Test.YtobopkkdjkjafaaNestPure
import Derived.Test.YtobopkkdjkjafaaNestRow
import Derived.Test.YtobopkkdjkjafaaPnx10
namespace Go.Proofs.Ytobopkkdjkjafaa.NestEq
open Go.RowKit Go.Proofs.YtobopkkdjkjafaaW.PrintWords Go.Proofs.YtobopkkdjkjafaaW.PrintLast Go.Proofs.YtobopkkdjkjafaaW.PrintMore Go.Proofs.Ytobopkkdjkjafaa.Nest Go.Proofs.Ytobopkkdjkjafaa.NestRow Go.Proofs.Ytobopkkdjkjafaa.Pn
set_option linter.unusedVariables false
set_option linter.unusedSimpArgs false

theorem examples_f : oubliettelaw06_examples.f 60 = some true := by decide +kernel
theorem in37 (l : List T3) : (l.map to37).map nest_in = l := by
  rw [List.map_map]
  exact (List.map_congr_left (fun x _ => rfl)).trans (List.map_id l)
theorem cut37 (l : List T3) (n : Nat) : (l.map to37).take n = (l.take n).map to37 := by rw [List.map_take]
theorem all37 (l : List T3) : nest_all (l.map to37) = wkAll l := by unfold nest_all; rw [in37]
theorem spans_f (l : List T3) (h : l.length ≤ 90000) : nest_Spans.f (l.map to37) = some ((wkAll l).1.map nest_sp, (wkAll l).2.1) := by
  unfold nest_Spans.f; rw [List.length_map, if_pos h, all37]
theorem rd34 (R : List T3) (k : Nat) (h : k < R.length) : rd_T34 (R.map nest_sp) (k : Int) = nest_sp (nth R k) := by
  unfold rd_T34 nth
  rw [Int.toNat_natCast, List.getD_eq_getElem?_getD, List.getElem?_map, List.getD_eq_getElem?_getD, List.getElem?_eq_getElem h]; rfl
theorem rd37 (l : List T3) (k : Nat) (h : k < l.length) : rd_T37 (l.map to37) (k : Int) = to37 (nth l k) := by
  unfold rd_T37 nth
  rw [Int.toNat_natCast, List.getD_eq_getElem?_getD, List.getElem?_map, List.getD_eq_getElem?_getD, List.getElem?_eq_getElem h]; rfl
/-- the law's own cut -/
theorem cut_f {α : Type} (l : List T3) (n : Nat) (g : List S37 → Option α) :
    (if 0 ≤ (mn ((l.map to37).length : Int) n) then (if (mn ((l.map to37).length : Int) n) ≤ ((l.map to37).length : Int) then ((some ((l.map to37).take ((mn ((l.map to37).length : Int) n) : Int).toNat : List (S37))).bind g) else none) else none) = g ((l.take (min n l.length)).map to37) := by
  rw [List.length_map]
  have e : (mn (l.length : Int) n) = ((min n l.length : Nat) : Int) := by unfold mn; split <;> omega
  rw [e, if_pos (by omega), if_pos (by omega), Int.toNat_natCast, cut37]
  rfl

section
variable (l : List T3) (S : List T3) (hl : l.length ≤ 90000) (hp : 1 ≤ l.length) (hA : Agr l.length [] [] 0 S)
include hl hp hA

omit hl hp in
theorem len_S : S.length ≤ l.length := by
  have : ∀ n : Nat, n ≤ S.length → ∀ k : Nat, k < n → (k : Int) ≤ (nth S k).1 := by
    intro n
    induction n with
    | zero => intro _ k hk; omega
    | succ n ih =>
      intro hn k hk
      by_cases e : k < n
      · exact ih (by omega) k e
      · have e2 : k = n := by omega
        subst e2
        cases k with
        | zero => have := (hA.new 0 (by simp) (by omega)).1; omega
        | succ k => have h1 := ih (by omega) k (by omega); have h2 := (hA.nn k (k + 1) (by simp) (by omega) (by omega)).1; push_cast; omega
  by_cases h : S.length ≤ l.length
  · exact h
  · exfalso
    have h1 := this (l.length + 1) (by omega) l.length (by omega)
    have h2 := hA.new l.length (by simp) (by omega)
    omega

theorem l1_next (t : Bool) (x6 : Nat) (h6 : x6 < (S ++ [((-1 : Int), (-1 : Int), (l.length : Int) - 1)]).length) (k0 : Nat) (r : Option Bool)
    (hk : oubliettelaw06_NestWithin.l0 k0 (l.map to37) t ((S ++ [((-1 : Int), (-1 : Int), (l.length : Int) - 1)]).map nest_sp) ((x6 : Int) + 1) = r) :
    ∀ m x8 : Nat, x8 + m = x6 → ∃ k, oubliettelaw06_NestWithin.l1 k (l.map to37) t ((S ++ [((-1 : Int), (-1 : Int), (l.length : Int) - 1)]).map nest_sp) (x6 : Int) (x8 : Int) (nth (S ++ [((-1 : Int), (-1 : Int), (l.length : Int) - 1)]) x6).1 (nth (S ++ [((-1 : Int), (-1 : Int), (l.length : Int) - 1)]) x6).2.1 (nth (S ++ [((-1 : Int), (-1 : Int), (l.length : Int) - 1)]) x6).2.2 = r := by
  have hS := len_S l S hA
  rw [List.length_append, List.length_cons, List.length_nil] at h6
  intro m
  induction m with
  | zero =>
    intro x8 hx
    have e : x8 = x6 := by omega
    subst e
    refine ⟨k0 + 1, ?_⟩
    unfold oubliettelaw06_NestWithin.l1
    rw [if_neg (by omega)]
    rw [show wrap64 ((x8 : Int) + 1) = (x8 : Int) + 1 from by unfold wrap64; omega]
    exact hk
  | succ m ih =>
    intro x8 hx
    obtain ⟨k, hk⟩ := ih (x8 + 1) (by omega)
    refine ⟨k + 1, ?_⟩
    unfold oubliettelaw06_NestWithin.l1
    have hk' : oubliettelaw06_NestWithin.l1 k (l.map to37) t ((S ++ [((-1 : Int), (-1 : Int), (l.length : Int) - 1)]).map nest_sp) (x6 : Int) (wrap64 ((x8 : Int) + 1)) (nth (S ++ [((-1 : Int), (-1 : Int), (l.length : Int) - 1)]) x6).1 (nth (S ++ [((-1 : Int), (-1 : Int), (l.length : Int) - 1)]) x6).2.1 (nth (S ++ [((-1 : Int), (-1 : Int), (l.length : Int) - 1)]) x6).2.2 = r := by
      rw [show wrap64 ((x8 : Int) + 1) = ((x8 + 1 : Nat) : Int) from by unfold wrap64; omega]
      exact hk
    have h8 : x8 < S.length := by omega
    rw [if_pos (by omega), if_pos (by omega), if_pos (by simp; omega), rd34 _ _ (by simp; omega), nth_left h8]
    have hn := hA.new x8 (by simp) h8
    unfold nest_sp
    simp only
    by_cases e : x6 = S.length
    · subst e
      rw [nth_last] at hk' ⊢
      simp only at hk' ⊢
      rw [if_pos (by omega), if_pos (by omega)]
      exact hk'
    · have h6' : x6 < S.length := by omega
      rw [nth_left h6'] at hk' ⊢
      have hnn := hA.nn x8 x6 (by simp) (by omega) h6'
      rw [if_neg (by omega), if_pos (by omega)]
      rcases hnn.2 with h | h
      · rw [if_pos h]; exact hk'
      · by_cases h2 : (nth S x6).2.2 < (nth S x8).2.2
        · rw [if_pos h2]; exact hk'
        · rw [if_neg h2]
          have := hA.new x6 (by simp) h6'
          rw [if_pos (by omega), if_neg (by omega)]; exact hk'

theorem l0_next (t : Bool) : ∀ m x6 : Nat, x6 + m = (S ++ [((-1 : Int), (-1 : Int), (l.length : Int) - 1)]).length →
    ∃ k, oubliettelaw06_NestWithin.l0 k (l.map to37) t ((S ++ [((-1 : Int), (-1 : Int), (l.length : Int) - 1)]).map nest_sp) (x6 : Int) = some t := by
  have hS := len_S l S hA
  intro m
  induction m with
  | zero =>
    intro x6 hx
    refine ⟨1, ?_⟩
    unfold oubliettelaw06_NestWithin.l0
    rw [if_neg (by rw [List.length_map]; omega)]
  | succ m ih =>
    intro x6 hx
    obtain ⟨k0, hk0⟩ := ih (x6 + 1) (by omega)
    have hle : x6 < (S ++ [((-1 : Int), (-1 : Int), (l.length : Int) - 1)]).length := by omega
    obtain ⟨k1, hk1⟩ := l1_next l S hl hp hA t x6 hle k0 _ (by push_cast at hk0; exact hk0) x6 0 (by omega)
    have hj : oubliettelaw06_NestWithin.j1 (k1 + 1) (l.map to37) t ((S ++ [((-1 : Int), (-1 : Int), (l.length : Int) - 1)]).map nest_sp) (x6 : Int) false (nth (S ++ [((-1 : Int), (-1 : Int), (l.length : Int) - 1)]) x6).1 (nth (S ++ [((-1 : Int), (-1 : Int), (l.length : Int) - 1)]) x6).2.1 (nth (S ++ [((-1 : Int), (-1 : Int), (l.length : Int) - 1)]) x6).2.2 = some t := by
      unfold oubliettelaw06_NestWithin.j1
      rw [if_neg (by decide)]; exact hk1
    refine ⟨k1 + 1 + 1, ?_⟩
    unfold oubliettelaw06_NestWithin.l0
    rw [List.length_append, List.length_cons, List.length_nil] at hle hx
    rw [if_pos (by rw [List.length_map, List.length_append, List.length_cons, List.length_nil]; omega), if_pos (by omega), rd34 _ _ (by rw [List.length_append, List.length_cons, List.length_nil]; omega)]
    rw [show wrap64 (((((S ++ [((-1 : Int), (-1 : Int), (l.length : Int) - 1)]).map nest_sp).length : Nat) : Int) - 1) = (S.length : Int) from by rw [List.length_map, List.length_append, List.length_cons, List.length_nil]; unfold wrap64; omega]
    rw [show wrap64 ((((l.map to37).length : Nat) : Int) - 1) = (l.length : Int) - 1 from by rw [List.length_map]; unfold wrap64; omega]
    unfold nest_sp at hj ⊢
    simp only
    by_cases e : x6 = S.length
    · subst e
      rw [nth_last] at hj ⊢
      simp only at hj ⊢
      rw [if_neg (by omega), if_pos trivial, if_pos trivial, show (((l.length : Int) - 1) != ((l.length : Int) - 1)) = false from by simp]
      exact hj
    · have h6' : x6 < S.length := by omega
      rw [nth_left h6'] at hj ⊢
      have hn := hA.new x6 (by simp) h6'
      by_cases h1 : (nth S x6).2.1 ≥ 0
      · rw [if_pos h1, if_neg (by omega), if_neg (by omega), if_neg (by omega)]; exact hj
      · rw [if_neg h1, if_neg (by omega)]; exact hj
end

theorem PureWithin (l : List T3) : ∃ k, oubliettelaw06_NestWithin.f k (l.map to37) = some true := by
  have hc : (l.take (min 200 l.length)).length ≤ 90000 := by rw [List.length_take]; omega
  have go : ∀ k, 60 ≤ k → oubliettelaw06_NestWithin.f k (l.map to37) = (nest_Spans.f ((l.take (min 200 l.length)).map to37)).bind fun bt188 => (if bt188.2 = 0 then (oubliettelaw06_NestWithin.l0 k ((l.take (min 200 l.length)).map to37) true bt188.1 0) else (some ((bt188.1.length : Int) == 0))) := by
    intro k hk
    unfold oubliettelaw06_NestWithin.f
    rw [at_rounds oubliettelaw06_examples.mono hk examples_f]
    exact cut_f l 200 _
  generalize hL : l.take (min 200 l.length) = L at *
  rw [spans_f L hc] at go
  by_cases h0 : (wkAll L).2.1 = 0
  · obtain ⟨S, eR, hA, _, _⟩ := wkAll_all L h0
    have hp : 1 ≤ L.length := by
      cases L with
      | nil => exact absurd h0 (by decide)
      | cons _ _ => simp
    obtain ⟨k, hk⟩ := l0_next L S hc hp hA true (S ++ [((-1 : Int), (-1 : Int), (L.length : Int) - 1)]).length 0 (by omega)
    refine ⟨60 + k, ?_⟩
    rw [go _ (by omega)]
    simp only [Option.bind_some]
    rw [if_pos h0, eR]
    exact at_rounds (g := fun k => oubliettelaw06_NestWithin.l0 k (L.map to37) true ((S ++ [((-1 : Int), (-1 : Int), (L.length : Int) - 1)]).map nest_sp) 0) (fun k => (oubliettelaw06_NestWithin.mono_l k).1 _ _ _ _) (by omega) hk
  · refine ⟨60, ?_⟩
    rw [go 60 (by omega)]
    simp only [Option.bind_some]
    rw [if_neg h0, wkAll_bad L h0]; rfl
end Go.Proofs.Ytobopkkdjkjafaa.NestEq
