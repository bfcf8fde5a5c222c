/- The reference's spans are the walk's spans. -/
import Derived.Test.YtobopkkdjkjafaaPureNestWithin
import Derived.Test.YtobopkkdjkjafaaPnx6
namespace Go.Proofs.Ytobopkkdjkjafaa.NestEq
open Go.RowKit Go.Proofs.YtobopkkdjkjafaaW.PrintWords Go.Proofs.YtobopkkdjkjafaaW.PrintLast Go.Proofs.YtobopkkdjkjafaaW.PrintMore Go.Proofs.Ytobopkkdjkjafaa.Nest Go.Proofs.Ytobopkkdjkjafaa.NestRow Go.Proofs.Ytobopkkdjkjafaa.Pn
set_option linter.unusedVariables false
set_option linter.unusedSimpArgs false

def s61 (x : T3) : S61 := ⟨x.1, x.2.1, x.2.2⟩
theorem rd61 (R : List T3) (k : Nat) (h : k < R.length) : rd_T61 (R.map s61) (k : Int) = s61 (nth R k) := by
  unfold rd_T61 nth
  rw [Int.toNat_natCast, List.getD_eq_getElem?_getD, List.getElem?_map, List.getD_eq_getElem?_getD, List.getElem?_eq_getElem h]; rfl
theorem opens_f (x : Int) : oublietteref06_opens.f x = some (opens x) := by
  unfold oublietteref06_opens.f opens
  by_cases h2 : x = 2
  · rw [if_pos h2]; subst h2; rfl
  · rw [if_neg h2]
    by_cases h3 : x = 3
    · rw [if_pos h3]; subst h3; rfl
    · rw [if_neg h3, show (x == 2) = false from by simpa using h2, show (x == 3) = false from by simpa using h3]; rfl
theorem add3 (sp : List T3) (x : T3) : sp.map s61 ++ [s61 x] = (sp ++ [x]).map s61 := by simp
theorem set3 (sp : List T3) (j : Nat) (x : T3) : (sp.map s61).set j (s61 x) = (sp.set j x).map s61 := by rw [List.map_set]
theorem w1 {a : Nat} (h : a ≤ 90000) : wrap64 ((a : Int) + 1) = ((a + 1 : Nat) : Int) := by unfold wrap64; omega
theorem wm {a : Nat} (h : a ≤ 90000) : wrap64 ((a : Int) - 1) = (a : Int) - 1 := by unfold wrap64; omega
theorem mx8 (d : Int) (n : Nat) : decide (mx d (n : Int) > 8) = (decide (d > 8) || decide (n > 8)) := by
  unfold mx
  by_cases h : d < (n : Int)
  · rw [if_pos h]
    by_cases h8 : n > 8
    · rw [decide_eq_true (by omega : (n : Int) > 8), decide_eq_true h8]; simp
    · rw [decide_eq_false (by omega : ¬ (n : Int) > 8), decide_eq_false h8, decide_eq_false (by omega)]; rfl
  · rw [if_neg h]
    by_cases h8 : n > 8
    · rw [decide_eq_true (by omega : d > 8)]; rfl
    · rw [decide_eq_false h8]; simp

theorem ref_spans (L : List T3) (hL : L.length ≤ 90000) : ∀ (r a : Nat) (sp : List T3) (op : List Int) (d : Int) (R : List T3) (E : Int) (lg : List (Int × List Int)), wk L r a sp op (decide (d > 8)) = (R, E, lg) → a + r = L.length → sp.length ≤ a → op.length ≤ a →
    (∀ j ∈ op, 0 ≤ j ∧ j < (sp.length : Int)) → (∀ k, k < sp.length → 0 ≤ (nth sp k).1 ∧ (nth sp k).1 < (L.length : Int)) →
    ∃ k, oublietteref06_Spans.l0 k (L.map to37) (sp.map s61) op d (a : Int) = some (R.map s61, E) := by
  intro r
  induction r with
  | zero =>
    intro a sp op d R E lg h ha hs ho hin hb
    refine ⟨1, ?_⟩
    unfold oublietteref06_Spans.l0
    rw [if_neg (by rw [List.length_map]; omega)]
    simp only [wk] at h
    cases h
    rfl
  | succ r ih =>
    intro a sp op d R E lg h ha hs hol hin hb
    have hal : a < L.length := by omega
    have head : ∀ k, oublietteref06_Spans.l0 (k + 1) (L.map to37) (sp.map s61) op d (a : Int) = (if opens (at3 L a).1 = true then (if op.length < 17592186044416 then ((some (op ++ [((sp.map s61).length : Int)] : List Int)).bind fun y139 => (if (sp.map s61).length < 5864062014805 then (oublietteref06_Spans.l0 k (L.map to37) ((sp.map s61) ++ [(⟨(a : Int), (-1), (-1)⟩ : S61)]) y139 (mx d (y139.length : Int)) (wrap64 ((a : Int) + 1))) else (none))) else (none)) else (if (at3 L a).1 = 5 then (if (op.length : Int) = 0 then (some (([] : List (S61)), 3)) else (if 0 ≤ (wrap64 ((op.length : Int) - 1)) then (if (wrap64 ((op.length : Int) - 1)) < (op.length : Int) then (if 0 ≤ (rd op (wrap64 ((op.length : Int) - 1))) then (if (rd op (wrap64 ((op.length : Int) - 1))) < ((sp.map s61).length : Int) then (if 0 ≤ ((rd_T61 (sp.map s61) (rd op (wrap64 ((op.length : Int) - 1)))).f0) then (if ((rd_T61 (sp.map s61) (rd op (wrap64 ((op.length : Int) - 1)))).f0) < ((L.map to37).length : Int) then (if ((rd_T37 (L.map to37) ((rd_T61 (sp.map s61) (rd op (wrap64 ((op.length : Int) - 1)))).f0)).f0) = 4 then (if ((rd_T61 (sp.map s61) (rd op (wrap64 ((op.length : Int) - 1)))).f1) ≥ 0 then (some (([] : List (S61)), 3)) else (oublietteref06_Spans.l0 k (L.map to37) ((sp.map s61).set ((rd op (wrap64 ((op.length : Int) - 1))) : Int).toNat (⟨(rd_T61 (sp.map s61) (rd op (wrap64 ((op.length : Int) - 1)))).f0, (a : Int), (rd_T61 (sp.map s61) (rd op (wrap64 ((op.length : Int) - 1)))).f2⟩ : S61)) op d (wrap64 ((a : Int) + 1)))) else (some (([] : List (S61)), 3))) else (none)) else (none)) else (none)) else (none)) else (none)) else (none))) else (if (at3 L a).1 = 11 then (oublietteref06_Spans.j1 k (L.map to37) (sp.map s61) op d (a : Int) (decide ((op.length : Int) > 0))) else (oublietteref06_Spans.j1 k (L.map to37) (sp.map s61) op d (a : Int) false)))) := by
      intro k
      rw [oublietteref06_Spans.l0, if_pos (by rw [List.length_map]; omega), if_pos (by omega), rd37 _ _ hal, opens_f, at3_nat]
      rfl
    have jhead : ∀ k b, b = true → oublietteref06_Spans.j1 (k + 1) (L.map to37) (sp.map s61) op d (a : Int) b = (if 0 ≤ (wrap64 ((op.length : Int) - 1)) then (if (wrap64 ((op.length : Int) - 1)) < (op.length : Int) then (if 0 ≤ (rd op (wrap64 ((op.length : Int) - 1))) then (if (rd op (wrap64 ((op.length : Int) - 1))) < ((sp.map s61).length : Int) then (if (wrap64 ((op.length : Int) - 1)) ≤ (op.length : Int) then (oublietteref06_Spans.l0 k (L.map to37) ((sp.map s61).set ((rd op (wrap64 ((op.length : Int) - 1))) : Int).toNat (⟨(rd_T61 (sp.map s61) (rd op (wrap64 ((op.length : Int) - 1)))).f0, (rd_T61 (sp.map s61) (rd op (wrap64 ((op.length : Int) - 1)))).f1, (a : Int)⟩ : S61)) (op.take ((wrap64 ((op.length : Int) - 1)) : Int).toNat) d (wrap64 ((a : Int) + 1))) else (none)) else (none)) else (none)) else (none)) else (none)) := by
      intro k b hb
      rw [oublietteref06_Spans.j1, if_pos hb]
    have jtail : ∀ k, oublietteref06_Spans.j1 (k + 1) (L.map to37) (sp.map s61) op d (a : Int) false = (if (at3 L a).1 = 11 then (if (a : Int) = (L.length : Int) - 1 then (if d > 8 then (some (([] : List (S61)), 1)) else (if (sp.map s61).length < 5864062014805 then (some (((sp.map s61) ++ [(⟨(-1), (-1), (a : Int)⟩ : S61)]), 0)) else (none))) else (some (([] : List (S61)), 3))) else (oublietteref06_Spans.l0 k (L.map to37) (sp.map s61) op d (wrap64 ((a : Int) + 1)))) := by
      intro k
      rw [oublietteref06_Spans.j1, if_neg (by decide), if_pos (by omega), if_pos (by rw [List.length_map]; omega), rd37 _ _ hal, at3_nat, List.length_map, wm (a := L.length) hL]
      rfl
    have hwa : wrap64 ((a : Int) + 1) = ((a + 1 : Nat) : Int) := w1 (by omega)
    by_cases hop : opens (at3 L a).1 = true
    · obtain ⟨lg1, rfl, h1⟩ := wk_opens h hop
      have hmx := mx8 d (op.length + 1)
      rw [← hmx] at h1
      obtain ⟨k, hk⟩ := ih (a + 1) _ _ _ _ _ _ h1 (by omega) (by simp; omega) (by simp; omega)
        (fun j hj => by
          rcases List.mem_append.1 hj with hj | hj
          · have := hin j hj; simp; omega
          · simp at hj; simp; omega)
        (fun k hk => by
          by_cases e : k < sp.length
          · rw [nth_left e]; exact hb k e
          · have e2 : k = sp.length := by simp at hk; omega
            subst e2; rw [nth_last]; simp only; omega)
      refine ⟨k + 1, ?_⟩
      rw [head, if_pos hop, if_pos (by omega)]
      simp only [Option.bind_some]
      rw [if_pos (by rw [List.length_map]; omega), hwa, List.length_map, List.length_append, List.length_cons, List.length_nil]
      rw [← hk, ← add3]; rfl
    · by_cases h5 : (at3 L a).1 = 5
      · by_cases he : op = []
        · obtain ⟨rfl, rfl, rfl⟩ := wk_else_no h h5 (.inl he)
          refine ⟨1, ?_⟩
          rw [head, if_neg hop, if_pos h5, if_pos (by rw [he]; rfl)]; rfl
        · have hl1 : 1 ≤ op.length := by cases op with | nil => exact absurd rfl he | cons _ _ => simp
          obtain ⟨hj0, hj1⟩ := hin _ (last_mem he)
          obtain ⟨jn, hjn⟩ := Int.eq_ofNat_of_zero_le hj0
          rw [hjn] at hj1
          have hjl : jn < sp.length := by omega
          obtain ⟨hb0, hb1⟩ := hb jn hjl
          obtain ⟨bn, hbn⟩ := Int.eq_ofNat_of_zero_le hb0
          have hxx : at3 sp (jn : Int) = ((bn : Int), (nth sp jn).2.1, (nth sp jn).2.2) := by rw [at3_nat, ← hbn]
          have hbl : bn < L.length := by omega
          have e1 : ((rd_T61 (sp.map s61) (jn : Int)).f0) = (bn : Int) := by rw [rd61 _ _ hjl]; exact hbn
          have e2 : ((rd_T61 (sp.map s61) (jn : Int)).f1) = (nth sp jn).2.1 := by rw [rd61 _ _ hjl]; rfl
          have e3 : ((rd_T61 (sp.map s61) (jn : Int)).f2) = (nth sp jn).2.2 := by rw [rd61 _ _ hjl]; rfl
          have e4 : (rd_T37 (L.map to37) (bn : Int)).f0 = (at3 L (bn : Int)).1 := by rw [rd37 _ _ hbl, at3_nat]; rfl
          have hd : ∀ k, oublietteref06_Spans.l0 (k + 1) (L.map to37) (sp.map s61) op d (a : Int) = (if (at3 L (bn : Int)).1 = 4 then (if (nth sp jn).2.1 ≥ 0 then (some (([] : List (S61)), 3)) else (oublietteref06_Spans.l0 k (L.map to37) ((sp.map s61).set jn (⟨(bn : Int), (a : Int), (nth sp jn).2.2⟩ : S61)) op d ((a + 1 : Nat) : Int))) else (some (([] : List (S61)), 3))) := by
            intro k
            rw [head, if_neg hop, if_pos h5, if_neg (by omega), wm (a := op.length) (by omega), if_pos (by omega), if_pos (by omega), hjn, if_pos (by omega), if_pos (by rw [List.length_map]; omega), e1, if_pos (by omega), if_pos (by rw [List.length_map]; omega), e2, e3, e4, hwa, Int.toNat_natCast]
          by_cases hc : (at3 L (bn : Int)).1 = 4
          · by_cases hn : (nth sp jn).2.1 ≥ 0
            · obtain ⟨rfl, rfl, rfl⟩ := wk_else_no h h5 (.inr ⟨he, jn, bn, _, _, hjn, hxx, .inr hn⟩)
              refine ⟨1, ?_⟩
              rw [hd, if_pos hc, if_pos hn]; rfl
            · obtain ⟨lg1, rfl, h1⟩ := wk_else h h5 he hjn hxx hc (by omega)
              obtain ⟨k, hk⟩ := ih (a + 1) _ _ _ _ _ _ h1 (by omega) (by rw [List.length_set]; omega) (by omega) (fun j hj => by rw [List.length_set]; exact hin j hj)
                (fun k hk => by
                  rw [List.length_set] at hk
                  rw [nth_set _ _ hjl]
                  by_cases e : k = jn
                  · rw [if_pos e]; simp only; omega
                  · rw [if_neg e]; exact hb k hk)
              refine ⟨k + 1, ?_⟩
              rw [hd, if_pos hc, if_neg hn, ← hk, ← set3]; rfl
          · obtain ⟨rfl, rfl, rfl⟩ := wk_else_no h h5 (.inr ⟨he, jn, bn, _, _, hjn, hxx, .inl hc⟩)
            refine ⟨1, ?_⟩
            rw [hd, if_neg hc]; rfl
      · by_cases h11 : (at3 L a).1 = 11
        · by_cases he : op = []
          · subst he
            obtain ⟨rl, r1, r2, r3⟩ := wk_last h h11
            refine ⟨2, ?_⟩
            rw [head, if_neg hop, if_neg h5, if_pos h11, show decide ((([] : List Int).length : Int) > 0) = false from rfl, jtail, if_pos h11]
            by_cases hl : a + 1 = L.length
            · rw [if_pos (by omega)]
              by_cases h8 : d > 8
              · obtain ⟨rfl, rfl⟩ := r2 hl (decide_eq_true h8)
                rw [if_pos h8]; rfl
              · obtain ⟨rfl, rfl⟩ := r3 hl (decide_eq_false h8)
                rw [if_neg h8, if_pos (by rw [List.length_map]; omega), ← add3]; rfl
            · obtain ⟨rfl, rfl⟩ := r1 hl
              rw [if_neg (by omega)]; rfl
          · have hl1 : 1 ≤ op.length := by cases op with | nil => exact absurd rfl he | cons _ _ => simp
            obtain ⟨hj0, hj1⟩ := hin _ (last_mem he)
            obtain ⟨jn, hjn⟩ := Int.eq_ofNat_of_zero_le hj0
            rw [hjn] at hj1
            have hjl : jn < sp.length := by omega
            obtain ⟨hb0, hb1⟩ := hb jn hjl
            obtain ⟨bn, hbn⟩ := Int.eq_ofNat_of_zero_le hb0
            have hxx : at3 sp (jn : Int) = ((bn : Int), (nth sp jn).2.1, (nth sp jn).2.2) := by rw [at3_nat, ← hbn]
            have e1 : ((rd_T61 (sp.map s61) (jn : Int)).f0) = (bn : Int) := by rw [rd61 _ _ hjl]; exact hbn
            have e2 : ((rd_T61 (sp.map s61) (jn : Int)).f1) = (nth sp jn).2.1 := by rw [rd61 _ _ hjl]; rfl
            obtain ⟨lg1, rfl, h1⟩ := wk_end h h11 he hjn hxx
            obtain ⟨k, hk⟩ := ih (a + 1) _ _ _ _ _ _ h1 (by omega) (by rw [List.length_set]; omega) (by rw [List.length_dropLast]; omega) (fun j hj => by rw [List.length_set]; exact hin j (List.dropLast_subset _ hj))
              (fun k hk => by
                rw [List.length_set] at hk
                rw [nth_set _ _ hjl]
                by_cases e : k = jn
                · rw [if_pos e]; simp only; omega
                · rw [if_neg e]; exact hb k hk)
            refine ⟨k + 1 + 1, ?_⟩
            rw [head, if_neg hop, if_neg h5, if_pos h11, jhead _ _ (decide_eq_true (by omega)), wm (a := op.length) (by omega), if_pos (by omega), if_pos (by omega), hjn, if_pos (by omega), if_pos (by rw [List.length_map]; omega), if_pos (by omega), e1, e2, hwa, Int.toNat_natCast, ← hk, ← set3, List.dropLast_eq_take, show ((op.length : Int) - 1).toNat = op.length - 1 from by omega]
            rfl
        · obtain ⟨lg1, rfl, h1⟩ := wk_other h hop h5 h11
          obtain ⟨k, hk⟩ := ih (a + 1) _ _ _ _ _ _ h1 (by omega) (by omega) (by omega) hin hb
          refine ⟨k + 1 + 1, ?_⟩
          rw [head, if_neg hop, if_neg h5, if_neg h11, jtail, if_neg h11, hwa]; exact hk

theorem refSpans_f (L : List T3) (hL : L.length ≤ 90000) : ∃ k, oublietteref06_Spans.f k (L.map to37) = some ((wkAll L).1.map s61, (wkAll L).2.1) := by
  obtain ⟨k, hk⟩ := ref_spans L hL L.length 0 [] [] 0 (wkAll L).1 (wkAll L).2.1 (wkAll L).2.2 rfl (by omega) (by simp) (by simp) (by simp) (by simp)
  exact ⟨k, hk⟩
end Go.Proofs.Ytobopkkdjkjafaa.NestEq
