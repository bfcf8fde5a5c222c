/- The reference finds the targets that the walk sees. -/
import Derived.Test.YtobopkkdjkjafaaPureNestSpans
import Derived.Test.YtobopkkdjkjafaaPnx9
namespace Go.Proofs.Ytobopkkdjkjafaa.NestEq
open Go.RowKit Go.Proofs.YtobopkkdjkjafaaW.PrintWords Go.Proofs.YtobopkkdjkjafaaW.PrintLast Go.Proofs.YtobopkkdjkjafaaW.PrintMore Go.Proofs.Ytobopkkdjkjafaa.Nest Go.Proofs.Ytobopkkdjkjafaa.NestRow Go.Proofs.Ytobopkkdjkjafaa.Pn
set_option linter.unusedVariables false
set_option linter.unusedSimpArgs false

theorem fold_at (a d : Int) : ∀ (lg : List (Int × List Int)) (b : Nat) (s : Bool × Int), (∀ i (h : i < lg.length), (lg[i]).1 = ((b + i : Nat) : Int)) →
    (∀ i (h : i < lg.length), ((b + i : Nat) : Int) = a → lg.foldl (fun s p => tsee a d p.1 p.2 s) s = tsee a d a (lg[i]).2 s) ∧ ((a < (b : Int) ∨ ((b + lg.length : Nat) : Int) ≤ a) → lg.foldl (fun s p => tsee a d p.1 p.2 s) s = s) := by
  intro lg
  induction lg with
  | nil => intro b s _; exact ⟨fun i h => absurd h (by simp), fun _ => rfl⟩
  | cons p lg ih =>
    intro b s hf
    have hp : p.1 = (b : Int) := hf 0 (by simp)
    have hr : ∀ i (h : i < lg.length), (lg[i]).1 = ((b + 1 + i : Nat) : Int) := fun i h => by
      have := hf (i + 1) (by simp; omega)
      rw [show b + 1 + i = b + (i + 1) from by omega]; exact this
    refine ⟨fun i h ha => ?_, fun ha => ?_⟩
    · cases i with
      | zero =>
        have hb : (b : Int) = a := by simpa using ha
        rw [List.foldl_cons, (ih (b + 1) _ hr).2 (.inl (by omega)), hp, hb]; rfl
      | succ i =>
        have hn : p.1 ≠ a := by omega
        rw [List.foldl_cons, show tsee a d p.1 p.2 s = s from by unfold tsee; rw [if_pos (.inl hn)]]
        exact (ih (b + 1) s hr).1 i (by simpa using h) (by omega)
    · have hn : p.1 ≠ a := by simp at ha; omega
      rw [List.foldl_cons, show tsee a d p.1 p.2 s = s from by unfold tsee; rw [if_pos (.inl hn)]]
      exact (ih (b + 1) s hr).2 (by simp at ha; omega)

section
variable (L S : List T3) (hlen : (wkAll L).2.2.length = L.length) (hv : ∀ i (h : i < (wkAll L).2.2.length), ((wkAll L).2.2[i]).1 = (i : Int) ∧ View S (i : Int) ((wkAll L).2.2[i]).2)
include hlen hv
theorem found_out (a d : Int) (h : a < 0 ∨ (L.length : Int) ≤ a) : found L a d = (false, -1) :=
  (fold_at a d (wkAll L).2.2 0 (false, -1) (fun i h => by rw [(hv i h).1]; simp)).2 (by rw [hlen]; simpa using h)
theorem found_in (a : Nat) (d : Int) (h : a < L.length) : found L a d = tsee a d a (vw S (a : Int) S.length) (false, -1) := by
  have := (fold_at a d (wkAll L).2.2 0 (false, -1) (fun i h => by rw [(hv i h).1]; simp)).1 a (by omega) (by simp)
  unfold found
  rw [this, view_vw (hv a (by omega)).2]
end

/-- what a leap comes to, by what is open where it stands -/
def leap (L S : List T3) (v : List Int) (e : Int) : Int × Bool × Int :=
  if e > (v.length : Int) then (0, false, 3)
  else if e = (v.length : Int) then ((L.length : Int) - 1, false, 0)
  else if (at3 L (nth S (rd v ((v.length : Int) - 1 - e)).toNat).1).1 = 3 then ((nth S (rd v ((v.length : Int) - 1 - e)).toNat).1, true, 0)
  else ((nth S (rd v ((v.length : Int) - 1 - e)).toNat).2.2, false, 0)

theorem tsee_no {a d : Int} {v : List Int} (s : Bool × Int) (h : d < 0 ∨ d > (v.length : Int)) : tsee a d a v s = s := by
  unfold tsee; rw [if_pos (.inr h)]
theorem tsee_eq {a d : Int} {v : List Int} (s : Bool × Int) (h : d = (v.length : Int)) (h0 : ¬ d < 0) : tsee a d a v s = (true, s.2) := by
  unfold tsee; rw [if_neg (by omega), if_neg (by omega)]
theorem tsee_lt {a d : Int} {v : List Int} (s : Bool × Int) (h : d < (v.length : Int)) (h0 : ¬ d < 0) : tsee a d a v s = (true, rd v ((v.length : Int) - 1 - d)) := by
  unfold tsee; rw [if_neg (by omega), if_pos h]
theorem rd_in {v : List Int} {e : Int} (h0 : 0 ≤ e) (h1 : e < (v.length : Int)) : rd v ((v.length : Int) - 1 - e) ∈ v := by
  unfold rd
  rw [List.getD_eq_getElem?_getD, List.getElem?_eq_getElem (by omega)]
  exact List.getElem_mem _

theorem target_leap (L : List T3) (S : List T3) (h0 : (wkAll L).2.1 = 0) (eR : (wkAll L).1 = S ++ [(-1, -1, (L.length : Int) - 1)]) (hlen : (wkAll L).2.2.length = L.length) (hv : ∀ i (h : i < (wkAll L).2.2.length), ((wkAll L).2.2[i]).1 = (i : Int) ∧ View S (i : Int) ((wkAll L).2.2[i]).2) (a d : Int) :
    target L a d = if a < 0 ∨ (L.length : Int) ≤ a ∨ d < 0 then (0, false, 3) else leap L S (vw S a S.length) d := by
  unfold target
  rw [if_neg (by omega)]
  by_cases hout : a < 0 ∨ (L.length : Int) ≤ a
  · rw [found_out L S hlen hv a d hout, if_pos rfl, if_pos (by omega)]
  · obtain ⟨n, rfl⟩ := Int.eq_ofNat_of_zero_le (show 0 ≤ a by omega)
    rw [found_in L S hlen hv n d (by omega)]
    by_cases hd : d < 0
    · rw [tsee_no _ (.inl hd), if_pos rfl, if_pos (.inr (.inr hd))]
    · rw [if_neg (show ¬ ((n : Int) < 0 ∨ (L.length : Int) ≤ (n : Int) ∨ d < 0) by omega)]
      unfold leap
      by_cases hg : d > ((vw S (n : Int) S.length).length : Int)
      · rw [tsee_no _ (.inr hg), if_pos rfl, if_pos hg]
      · rw [if_neg hg]
        by_cases he : d = ((vw S (n : Int) S.length).length : Int)
        · rw [tsee_eq _ he (by omega), if_pos he, if_neg (show ¬ (true = false) by decide), if_pos (show ((-1 : Int)) < 0 by decide)]
        · have hlt : d < ((vw S (n : Int) S.length).length : Int) := by omega
          rw [tsee_lt _ hlt (by omega), if_neg he, if_neg (show ¬ (true = false) by decide)]
          obtain ⟨k, hk, e, _⟩ := (vw_mem S n S.length _).1 (rd_in (by omega) hlt)
          simp only
          rw [e, if_neg (by omega), at3_nat, eR, nth_left hk, Int.toNat_natCast]

section
variable (L S : List T3) (z : T3) (hL : L.length ≤ 90000) (hS : S.length ≤ L.length) (hb : ∀ k, k < S.length → 0 ≤ (nth S k).1 ∧ (nth S k).1 < (L.length : Int))
include hL hS hb
theorem target_l0 (a : Int) : ∀ (j : Nat) (e : Int), j ≤ S.length → 0 ≤ e → e ≤ 9223372036854775807 → ∃ k, oublietteref06_Target.l0 k (L.map to37) a e ((S ++ [z]).map s61) ((j : Int) - 1) = some (leap L S (vw S a j) e) := by
  intro j
  induction j with
  | zero =>
    intro e hj h0 h9
    refine ⟨1, ?_⟩
    rw [oublietteref06_Target.l0, if_neg (by omega), List.length_map, wm (a := L.length) hL]
    unfold leap vw
    by_cases he : e > 0
    · rw [if_pos he, if_pos (by simpa using he)]
    · rw [if_neg he, if_neg (by simpa using he), if_pos (by simp; omega)]
  | succ j ih =>
    intro e hj h0 h9
    have hd : ∀ k, oublietteref06_Target.l0 (k + 1) (L.map to37) a e ((S ++ [z]).map s61) (((j + 1 : Nat) : Int) - 1) = (if decide (arnd (nth S j) a) = true then (if e > 0 then (oublietteref06_Target.l0 k (L.map to37) a (wrap64 (e - 1)) ((S ++ [z]).map s61) ((j : Int) - 1)) else (if (at3 L (nth S j).1).1 = 3 then (some ((nth S j).1, true, 0)) else (some ((nth S j).2.2, false, 0)))) else (oublietteref06_Target.l0 k (L.map to37) a e ((S ++ [z]).map s61) ((j : Int) - 1))) := by
      intro k
      obtain ⟨hb0, hb1⟩ := hb j (by omega)
      obtain ⟨bn, hbn⟩ := Int.eq_ofNat_of_zero_le hb0
      have e1 : (((j + 1 : Nat) : Int) - 1) = (j : Int) := by omega
      rw [e1, oublietteref06_Target.l0, if_pos (by omega), if_pos (by omega), if_pos (by rw [List.length_map, List.length_append]; omega), rd61 _ _ (by rw [List.length_append]; omega), nth_left (by omega), wm (a := j) (by omega)]
      have e' : oublietteref06_around.f (s61 (nth S j)).f0 (s61 (nth S j)).f1 (s61 (nth S j)).f2 a = some (decide (arnd (nth S j) a)) := around_f (nth S j) a
      have e2 : (s61 (nth S j)).f0 = (nth S j).1 := rfl
      have e3 : (s61 (nth S j)).f2 = (nth S j).2.2 := rfl
      rw [e']
      simp only [Option.bind_some]
      rw [e2, e3, if_pos (show 0 ≤ (nth S j).1 from hb0), if_pos (show (nth S j).1 < ((L.map to37).length : Int) by rw [List.length_map]; exact hb1), hbn, rd37 _ _ (by omega), at3_nat]
      rfl
    unfold vw
    by_cases h : arnd (nth S j) a
    · rw [if_pos h]
      by_cases he : e > 0
      · obtain ⟨k, hk⟩ := ih (e - 1) (by omega) (by omega) (by omega)
        refine ⟨k + 1, ?_⟩
        rw [hd, if_pos (decide_eq_true h), if_pos he, show wrap64 (e - 1) = e - 1 from by unfold wrap64; omega, hk]
        congr 1
        unfold leap
        have el : (((vw S a j ++ [(j : Int)]).length : Nat) : Int) = ((vw S a j).length : Int) + 1 := by simp
        rw [el]
        by_cases g1 : e - 1 > ((vw S a j).length : Int)
        · rw [if_pos g1, if_pos (show e > ((vw S a j).length : Int) + 1 by omega)]
        · rw [if_neg g1, if_neg (show ¬ e > ((vw S a j).length : Int) + 1 by omega)]
          by_cases g2 : e - 1 = ((vw S a j).length : Int)
          · rw [if_pos g2, if_pos (show e = ((vw S a j).length : Int) + 1 by omega)]
          · rw [if_neg g2, if_neg (show ¬ e = ((vw S a j).length : Int) + 1 by omega)]
            have er : rd (vw S a j ++ [(j : Int)]) (((vw S a j).length : Int) + 1 - 1 - e) = rd (vw S a j) (((vw S a j).length : Int) - 1 - (e - 1)) := by
              unfold rd
              rw [show (((vw S a j).length : Int) + 1 - 1 - e) = (((vw S a j).length : Int) - 1 - (e - 1)) from by omega]
              rw [List.getD_eq_getElem?_getD, List.getElem?_append_left (by omega), ← List.getD_eq_getElem?_getD]
            rw [er]
      · refine ⟨1, ?_⟩
        have e0 : e = 0 := by omega
        subst e0
        rw [hd, if_pos (decide_eq_true h), if_neg he]
        unfold leap
        have el : (((vw S a j ++ [(j : Int)]).length : Nat) : Int) = ((vw S a j).length : Int) + 1 := by simp
        rw [el, if_neg (show ¬ (0 : Int) > ((vw S a j).length : Int) + 1 by omega), if_neg (show ¬ (0 : Int) = ((vw S a j).length : Int) + 1 by omega)]
        have er : rd (vw S a j ++ [(j : Int)]) (((vw S a j).length : Int) + 1 - 1 - 0) = (j : Int) := by
          unfold rd
          rw [show (((vw S a j).length : Int) + 1 - 1 - 0).toNat = (vw S a j).length from by omega]
          rw [List.getD_eq_getElem?_getD, List.getElem?_append_right (Nat.le_refl _)]; simp
        rw [er, Int.toNat_natCast]
        by_cases h3 : (at3 L (nth S j).1).1 = 3
        · rw [if_pos h3, if_pos h3]
        · rw [if_neg h3, if_neg h3]
    · rw [if_neg h]
      obtain ⟨k, hk⟩ := ih e (by omega) h0 h9
      refine ⟨k + 1, ?_⟩
      rw [hd, if_neg (by rw [decide_eq_false h]; decide)]
      exact hk
end

theorem S_bounds {L S : List T3} (hA : Agr L.length [] [] 0 S) : ∀ k, k < S.length → 0 ≤ (nth S k).1 ∧ (nth S k).1 < (L.length : Int) := by
  intro k hk
  have := hA.new k (by simp) hk
  omega

theorem refTarget_f (L : List T3) (hL : L.length ≤ 90000) (a d : Int) (hd : d ≤ 9223372036854775807) : ∃ k, oublietteref06_Target.f k (L.map to37) a d = some (target L a d) := by
  obtain ⟨k1, hk1⟩ := refSpans_f L hL
  by_cases h0 : (wkAll L).2.1 = 0
  · obtain ⟨S, eR, hA, hlen, hv⟩ := wkAll_all L h0
    have hS := len_S L S hA
    have ht := target_leap L S h0 eR hlen hv a d
    have hj : ∃ k, oublietteref06_Target.j0 k (L.map to37) a d ((wkAll L).1.map s61) (decide (a < 0 ∨ (L.length : Int) ≤ a ∨ d < 0)) = some (target L a d) := by
      rw [ht]
      by_cases ho : a < 0 ∨ (L.length : Int) ≤ a ∨ d < 0
      · refine ⟨1, ?_⟩
        rw [oublietteref06_Target.j0, if_pos (decide_eq_true ho), if_pos ho]
      · obtain ⟨k, hk⟩ := target_l0 L S (-1, -1, (L.length : Int) - 1) hL hS (S_bounds hA) a S.length d (Nat.le_refl _) (by omega) hd
        refine ⟨k + 1, ?_⟩
        rw [oublietteref06_Target.j0, if_neg (by rw [decide_eq_false ho]; decide), if_neg ho, eR]
        rw [show wrap64 (((((S ++ [((-1 : Int), (-1 : Int), (L.length : Int) - 1)]).map s61).length : Nat) : Int) - 2) = (S.length : Int) - 1 from by rw [List.length_map, List.length_append, List.length_cons, List.length_nil]; unfold wrap64; omega]
        exact hk
    obtain ⟨k2, hk2⟩ := hj
    refine ⟨k1 + k2, ?_⟩
    unfold oublietteref06_Target.f
    rw [at_rounds (oublietteref06_Spans.mono _) (by omega : k1 ≤ k1 + k2) hk1]
    simp only [Option.bind_some]
    rw [if_pos h0]
    have hk3 := at_rounds (g := fun k => oublietteref06_Target.j0 k (L.map to37) a d ((wkAll L).1.map s61) (decide (a < 0 ∨ (L.length : Int) ≤ a ∨ d < 0))) (fun k => (oublietteref06_Target.mono_l k).1 _ _ _ _ _) (by omega : k2 ≤ k1 + k2) hk2
    rw [List.length_map]
    by_cases c1 : a < 0
    · rw [if_pos c1]
      rw [decide_eq_true (by omega)] at hk3; exact hk3
    · rw [if_neg c1]
      by_cases c2 : a ≥ (L.length : Int)
      · rw [if_pos c2]
        rw [decide_eq_true (by omega)] at hk3; exact hk3
      · rw [if_neg c2]
        rw [show (decide (a < 0 ∨ (L.length : Int) ≤ a ∨ d < 0)) = decide (d < 0) from by
          by_cases c3 : d < 0
          · rw [decide_eq_true c3, decide_eq_true (by omega)]
          · rw [decide_eq_false c3, decide_eq_false (by omega)]] at hk3
        exact hk3
  · refine ⟨k1, ?_⟩
    unfold oublietteref06_Target.f
    rw [hk1]
    simp only [Option.bind_some]
    rw [if_neg h0]
    unfold target
    rw [if_pos h0]

theorem PureTargets (l : List T3) (a1 a2 : Int) (w2 : (Lit.int .i64 a2).wf = true) : ∃ k, oubliettelaw06_NestTargets.f k (l.map to37) a1 a2 = some true := by
  have hw : a2 ≤ 9223372036854775807 := by
    have h := w2
    simp [Lit.wf, IntKind.has, IntKind.min, IntKind.max, IntKind.bits, IntKind.signed] at h
    omega
  have hc : (l.take (min 300 l.length)).length ≤ 90000 := by rw [List.length_take]; omega
  have go : ∀ k, 60 ≤ k → oubliettelaw06_NestTargets.f k (l.map to37) a1 a2 = (nest_Target.f ((l.take (min 300 l.length)).map to37) a1 a2).bind fun bt177 => ((oublietteref06_Target.f k ((l.take (min 300 l.length)).map to37) a1 a2).bind fun bt180 => (if bt177.1 = bt180.1 then (if (bt177.2.1 == bt180.2.1) = true then (some (bt177.2.2 == bt180.2.2)) else (some false)) else (some false))) := by
    intro k hk
    unfold oubliettelaw06_NestTargets.f
    rw [at_rounds oubliettelaw06_examples.mono hk examples_f]
    exact cut_f l 300 _
  generalize hL : l.take (min 300 l.length) = L at *
  obtain ⟨k1, hk1⟩ := refTarget_f L hc a1 a2 hw
  refine ⟨60 + k1, ?_⟩
  rw [go _ (by omega), at_rounds (oublietteref06_Target.mono _ _ _) (by omega : k1 ≤ 60 + k1) hk1]
  unfold nest_Target.f
  rw [if_pos (by rw [List.length_map]; exact hc), in37]
  simp only [Option.bind_some]
  rw [if_pos trivial, if_pos (beq_self_eq_true _), beq_self_eq_true]
end Go.Proofs.Ytobopkkdjkjafaa.NestEq
