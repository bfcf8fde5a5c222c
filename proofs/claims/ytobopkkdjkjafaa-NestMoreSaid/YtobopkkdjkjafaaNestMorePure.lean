/- The walk of a body that lies, as it is or one place on, within another one. -/
import Derived.Test.YtobopkkdjkjafaaNestPure
namespace Go.Proofs.Ytobopkkdjkjafaa.Nest
open Go.RowKit Go.Proofs.YtobopkkdjkjafaaW.PrintWords
set_option linter.unusedVariables false
set_option linter.unusedSimpArgs false

/-- a span, c places on -/
def sh (c : Nat) (x : T3) : T3 := (x.1 + c, if x.2.1 < 0 then x.2.1 else x.2.1 + c, if x.2.2 < 0 then x.2.2 else x.2.2 + c)
def up (c : Nat) (op : List Int) : List Int := op.map (· + (c : Int))

theorem nth_right {S T : List T3} {k : Nat} : nth (S ++ T) (S.length + k) = nth T k := by
  unfold nth; rw [List.getD_eq_getElem?_getD, List.getElem?_append_right (by omega), ← List.getD_eq_getElem?_getD, Nat.add_sub_cancel_left]
theorem nth_map {S : List T3} {k : Nat} (f : T3 → T3) (h : k < S.length) : nth (S.map f) k = f (nth S k) := by
  unfold nth; rw [List.getD_eq_getElem?_getD, List.getElem?_map, List.getD_eq_getElem?_getD, List.getElem?_eq_getElem h]; rfl
theorem rd_last {op q : List Int} (h : op ≠ []) : rd (q ++ op) (((q ++ op).length : Int) - 1) = rd op ((op.length : Int) - 1) := by
  have hl : 1 ≤ op.length := by cases op with | nil => exact absurd rfl h | cons _ _ => simp
  unfold rd
  rw [List.length_append, show (((q.length + op.length : Nat) : Int) - 1).toNat = q.length + (op.length - 1) from by omega, show ((op.length : Int) - 1).toNat = op.length - 1 from by omega]
  rw [List.getD_eq_getElem?_getD, List.getElem?_append_right (by omega), Nat.add_sub_cancel_left, ← List.getD_eq_getElem?_getD]
theorem rd_up {op : List Int} {c : Nat} (h : op ≠ []) : rd (up c op) (((up c op).length : Int) - 1) = rd op ((op.length : Int) - 1) + c := by
  have hl : 1 ≤ op.length := by cases op with | nil => exact absurd rfl h | cons _ _ => simp
  unfold rd up
  rw [List.length_map, show ((op.length : Int) - 1).toNat = op.length - 1 from by omega]
  rw [List.getD_eq_getElem?_getD, List.getElem?_map, List.getD_eq_getElem?_getD, List.getElem?_eq_getElem (by omega)]; rfl
theorem drop_up {op q : List Int} {c : Nat} (h : op ≠ []) : (q ++ up c op).dropLast = q ++ up c op.dropLast := by
  have h2 : up c op ≠ [] := by unfold up; simpa using h
  rw [List.dropLast_append_of_ne_nil h2]
  unfold up
  rw [List.map_dropLast]

theorem sim {L M : List T3} {n c : Nat} {P : List T3} {q : List Int} (hP : P.length = c) (hq : q.length = c) (hn : n = L.length) (hM : ∀ i : Nat, i + 1 < n → (at3 M ((i + c : Nat) : Int)).1 = (at3 L (i : Int)).1) :
    ∀ (r a : Nat) (sp : List T3) (op : List Int) (deep : Bool) (R : List T3) (lg : List (Int × List Int)), wk L (r + 1) a sp op deep = (R, 0, lg) → a + r + 1 = n →
    (∀ j ∈ op, 0 ≤ j ∧ j < (sp.length : Int)) → (∀ k, k < sp.length → 0 ≤ (nth sp k).1 ∧ (nth sp k).1 < (a : Int)) → ∀ (deep' : Bool) (k : Nat),
    ∃ (sp' : List T3) (deep2 : Bool) (pre : List (Int × List Int)), wk M (r + k) (a + c) (P ++ sp.map (sh c)) (q ++ up c op) deep' = ((wk M k (n - 1 + c) (P ++ sp') q deep2).1, (wk M k (n - 1 + c) (P ++ sp') q deep2).2.1, pre ++ (wk M k (n - 1 + c) (P ++ sp') q deep2).2.2) ∧
      pre.length = r ∧ ∀ i, i < r → ∃ x y, pre[i]? = some x ∧ lg[i]? = some y ∧ x.2.length = y.2.length + c := by
  intro r
  induction r with
  | zero =>
    intro a sp op deep R lg h ha hin hb deep' k
    have hop : op = [] := by
      by_cases hop : op = []
      · exact hop
      · exfalso
        by_cases ho : opens (at3 L a).1 = true
        · obtain ⟨lg1, _, h1⟩ := wk_opens h ho
          simp [wk] at h1
        · by_cases h5 : (at3 L a).1 = 5
          · obtain ⟨hj0, hj1⟩ := hin _ (last_mem hop)
            obtain ⟨jn, hjn⟩ := Int.eq_ofNat_of_zero_le hj0
            rw [hjn] at hj1
            obtain ⟨hb0, hb1⟩ := hb jn (by omega)
            obtain ⟨bn, hbn⟩ := Int.eq_ofNat_of_zero_le hb0
            have hxx : at3 sp (jn : Int) = ((bn : Int), (nth sp jn).2.1, (nth sp jn).2.2) := by rw [at3_nat, ← hbn]
            by_cases hc : (at3 L (bn : Int)).1 = 4 ∧ (nth sp jn).2.1 < 0
            · obtain ⟨lg1, _, h1⟩ := wk_else h h5 hop hjn hxx hc.1 hc.2
              simp [wk] at h1
            · have := (wk_else_no h h5 (.inr ⟨hop, jn, bn, _, _, hjn, hxx, by omega⟩)).2.1; cases this
          · by_cases h11 : (at3 L a).1 = 11
            · obtain ⟨hj0, hj1⟩ := hin _ (last_mem hop)
              obtain ⟨jn, hjn⟩ := Int.eq_ofNat_of_zero_le hj0
              obtain ⟨hb0, hb1⟩ := hb jn (by omega)
              obtain ⟨bn, hbn⟩ := Int.eq_ofNat_of_zero_le hb0
              have hxx : at3 sp (jn : Int) = ((bn : Int), (nth sp jn).2.1, (nth sp jn).2.2) := by rw [at3_nat, ← hbn]
              obtain ⟨lg1, _, h1⟩ := wk_end h h11 hop hjn hxx
              simp [wk] at h1
            · obtain ⟨lg1, _, h1⟩ := wk_other h ho h5 h11
              simp [wk] at h1
    subst hop
    refine ⟨sp.map (sh c), deep', [], ?_, rfl, fun i hi => absurd hi (by omega)⟩
    have e : n - 1 = a := by omega
    rw [e, Nat.zero_add]
    simp [up]
  | succ r ih =>
    intro a sp op deep R lg h ha hin hb deep' k
    have hMa := hM a (by omega)
    have join : ∀ {sp1 : List T3} {op1 op2 : List Int} {deep1 : Bool} {lg1 : List (Int × List Int)} {R' : List T3} {E' : Int} {lg' lg2 : List (Int × List Int)} {x : Int},
        (∃ (sp' : List T3) (deep2 : Bool) (pre : List (Int × List Int)), wk M (r + k) (a + 1 + c) (P ++ sp1.map (sh c)) (q ++ up c op1) deep1 = ((wk M k (n - 1 + c) (P ++ sp') q deep2).1, (wk M k (n - 1 + c) (P ++ sp') q deep2).2.1, pre ++ (wk M k (n - 1 + c) (P ++ sp') q deep2).2.2) ∧
          pre.length = r ∧ ∀ i, i < r → ∃ x y, pre[i]? = some x ∧ lg1[i]? = some y ∧ x.2.length = y.2.length + c) →
        wk M (r + k) (a + c + 1) (P ++ sp1.map (sh c)) (q ++ up c op1) deep1 = (R', E', lg2) → lg' = (((a + c : Nat) : Int), q ++ up c op2) :: lg2 → lg = (x, op2) :: lg1 →
        wk M (r + 1 + k) (a + c) (P ++ sp.map (sh c)) (q ++ up c op) deep' = (R', E', lg') →
        ∃ (sp' : List T3) (deep2 : Bool) (pre : List (Int × List Int)), wk M (r + 1 + k) (a + c) (P ++ sp.map (sh c)) (q ++ up c op) deep' = ((wk M k (n - 1 + c) (P ++ sp') q deep2).1, (wk M k (n - 1 + c) (P ++ sp') q deep2).2.1, pre ++ (wk M k (n - 1 + c) (P ++ sp') q deep2).2.2) ∧
          pre.length = r + 1 ∧ ∀ i, i < r + 1 → ∃ x y, pre[i]? = some x ∧ lg[i]? = some y ∧ x.2.length = y.2.length + c := by
      intro sp1 op1 op2 deep1 lg1 R' E' lg' lg2 x hih h2 hl' hl hw
      obtain ⟨sp', deep2, pre, e, hp, hi⟩ := hih
      rw [show a + 1 + c = a + c + 1 from by omega, h2] at e
      obtain ⟨e1, e⟩ := Prod.mk.inj e
      obtain ⟨e2, e3⟩ := Prod.mk.inj e
      refine ⟨sp', deep2, (((a + c : Nat) : Int), q ++ up c op2) :: pre, by rw [hw, hl', e1, e2, e3]; rfl, by simp [hp], fun i hi2 => ?_⟩
      subst hl
      cases i with
      | zero => exact ⟨_, _, rfl, rfl, by simp [up, hq]; omega⟩
      | succ i =>
        obtain ⟨x1, y1, g1, g2, g3⟩ := hi i (by omega)
        exact ⟨x1, y1, by simpa using g1, by simpa using g2, g3⟩
    obtain ⟨R', E', lg', hw⟩ : ∃ R' E' lg', wk M (r + k + 1) (a + c) (P ++ sp.map (sh c)) (q ++ up c op) deep' = (R', E', lg') := ⟨_, _, _, rfl⟩
    have hw2 : wk M (r + 1 + k) (a + c) (P ++ sp.map (sh c)) (q ++ up c op) deep' = (R', E', lg') := by rw [show r + 1 + k = r + k + 1 from by omega]; exact hw
    by_cases ho : opens (at3 L a).1 = true
    · obtain ⟨lg1, el, h1⟩ := wk_opens h ho
      have ho' : opens (at3 M ((a + c : Nat) : Int)).1 = true := by rw [hMa]; exact ho
      obtain ⟨lg2, el2, h2⟩ := wk_opens hw ho'
      have e1 : P ++ sp.map (sh c) ++ [(((a + c : Nat) : Int), -1, -1)] = P ++ (sp ++ [((a : Int), -1, -1)]).map (sh c) := by
        rw [List.map_append, List.append_assoc]; simp [sh]
      have e2 : q ++ up c op ++ [((P ++ sp.map (sh c)).length : Int)] = q ++ up c (op ++ [(sp.length : Int)]) := by
        unfold up
        rw [List.map_append, List.append_assoc, List.length_append, List.length_map, hP]; simp; omega
      rw [e1, e2] at h2
      exact join (ih (a + 1) _ _ _ _ _ h1 (by omega)
        (fun j hj => by
          rcases List.mem_append.1 hj with hj | hj
          · have := hin j hj; simp; omega
          · simp at hj; simp; omega)
        (fun k hk => by
          by_cases e : k < sp.length
          · rw [nth_left e]; have := hb k e; push_cast; omega
          · have e2 : k = sp.length := by simp at hk; omega
            subst e2; rw [nth_last]; push_cast; (try simp only); omega) _ k) h2 el2 el hw2
    · have ho' : ¬ opens (at3 M ((a + c : Nat) : Int)).1 = true := by rw [hMa]; exact ho
      by_cases h5 : (at3 L a).1 = 5
      · have h5' : (at3 M ((a + c : Nat) : Int)).1 = 5 := by rw [hMa]; exact h5
        by_cases hop : op = []
        · have := (wk_else_no h h5 (.inl hop)).2.1; cases this
        · obtain ⟨hj0, hj1⟩ := hin _ (last_mem hop)
          obtain ⟨jn, hjn⟩ := Int.eq_ofNat_of_zero_le hj0
          rw [hjn] at hj1
          have hjl : jn < sp.length := by omega
          obtain ⟨hb0, hb1⟩ := hb jn hjl
          obtain ⟨bn, hbn⟩ := Int.eq_ofNat_of_zero_le hb0
          have hxx : at3 sp (jn : Int) = ((bn : Int), (nth sp jn).2.1, (nth sp jn).2.2) := by rw [at3_nat, ← hbn]
          have hop' : q ++ up c op ≠ [] := by unfold up; simp [hop]
          have hup : up c op ≠ [] := by unfold up; simpa using hop
          have hj' : rd (q ++ up c op) (((q ++ up c op).length : Int) - 1) = ((P.length + jn : Nat) : Int) := by rw [rd_last hup, rd_up hop, hjn, hP]; push_cast; omega
          have hx' : at3 (P ++ sp.map (sh c)) ((P.length + jn : Nat) : Int) = (((bn + c : Nat) : Int), (sh c (nth sp jn)).2.1, (sh c (nth sp jn)).2.2) := by
            rw [at3_nat, nth_right, nth_map _ hjl]
            have : (sh c (nth sp jn)).1 = ((bn + c : Nat) : Int) := by unfold sh; simp only; rw [hbn]; push_cast; rfl
            rw [← this]
          have hMb := hM bn (by omega)
          by_cases hc : (at3 L (bn : Int)).1 = 4 ∧ (nth sp jn).2.1 < 0
          · obtain ⟨lg1, el, h1⟩ := wk_else h h5 hop hjn hxx hc.1 hc.2
            have hs1 : (sh c (nth sp jn)).2.1 = (nth sp jn).2.1 := by unfold sh; simp only; rw [if_pos hc.2]
            obtain ⟨lg2, el2, h2⟩ := wk_else hw h5' hop' hj' hx' (by rw [hMb]; exact hc.1) (by rw [hs1]; exact hc.2)
            have e1 : (P ++ sp.map (sh c)).set (P.length + jn) (((bn + c : Nat) : Int), ((a + c : Nat) : Int), (sh c (nth sp jn)).2.2) = P ++ (sp.set jn ((bn : Int), (a : Int), (nth sp jn).2.2)).map (sh c) := by
              rw [List.set_append_right _ _ (by omega), Nat.add_sub_cancel_left, List.map_set]
              have : sh c ((bn : Int), (a : Int), (nth sp jn).2.2) = (((bn + c : Nat) : Int), ((a + c : Nat) : Int), (sh c (nth sp jn)).2.2) := by
                unfold sh; simp only; rw [if_neg (show ¬ (a : Int) < 0 by omega)]; push_cast; rfl
              rw [this]
            rw [e1] at h2
            rw [drop_up hop] at el2
            exact join (ih (a + 1) _ _ _ _ _ h1 (by omega) (fun j hj => by rw [List.length_set]; exact hin j hj)
              (fun k hk => by
                rw [List.length_set] at hk
                rw [nth_set _ _ hjl]
                have := hb k hk
                by_cases e : k = jn
                · rw [if_pos e]; push_cast; (try simp only); omega
                · rw [if_neg e]; push_cast; omega) _ k) h2 el2 el hw2
          · have := (wk_else_no h h5 (.inr ⟨hop, jn, bn, _, _, hjn, hxx, by omega⟩)).2.1; cases this
      · have h5' : ¬ (at3 M ((a + c : Nat) : Int)).1 = 5 := by rw [hMa]; exact h5
        by_cases h11 : (at3 L a).1 = 11
        · have h11' : (at3 M ((a + c : Nat) : Int)).1 = 11 := by rw [hMa]; exact h11
          by_cases hop : op = []
          · subst hop
            obtain ⟨rl, r1, r2, r3⟩ := wk_last h h11
            have := (r1 (by omega)).2; cases this
          · obtain ⟨hj0, hj1⟩ := hin _ (last_mem hop)
            obtain ⟨jn, hjn⟩ := Int.eq_ofNat_of_zero_le hj0
            rw [hjn] at hj1
            have hjl : jn < sp.length := by omega
            obtain ⟨hb0, hb1⟩ := hb jn hjl
            obtain ⟨bn, hbn⟩ := Int.eq_ofNat_of_zero_le hb0
            have hxx : at3 sp (jn : Int) = ((bn : Int), (nth sp jn).2.1, (nth sp jn).2.2) := by rw [at3_nat, ← hbn]
            have hop' : q ++ up c op ≠ [] := by unfold up; simp [hop]
            have hup : up c op ≠ [] := by unfold up; simpa using hop
            have hj' : rd (q ++ up c op) (((q ++ up c op).length : Int) - 1) = ((P.length + jn : Nat) : Int) := by rw [rd_last hup, rd_up hop, hjn, hP]; push_cast; omega
            have hx' : at3 (P ++ sp.map (sh c)) ((P.length + jn : Nat) : Int) = (((bn + c : Nat) : Int), (sh c (nth sp jn)).2.1, (sh c (nth sp jn)).2.2) := by
              rw [at3_nat, nth_right, nth_map _ hjl]
              have : (sh c (nth sp jn)).1 = ((bn + c : Nat) : Int) := by unfold sh; simp only; rw [hbn]; push_cast; rfl
              rw [← this]
            obtain ⟨lg1, el, h1⟩ := wk_end h h11 hop hjn hxx
            obtain ⟨lg2, el2, h2⟩ := wk_end hw h11' hop' hj' hx'
            have e1 : (P ++ sp.map (sh c)).set (P.length + jn) (((bn + c : Nat) : Int), (sh c (nth sp jn)).2.1, ((a + c : Nat) : Int)) = P ++ (sp.set jn ((bn : Int), (nth sp jn).2.1, (a : Int))).map (sh c) := by
              rw [List.set_append_right _ _ (by omega), Nat.add_sub_cancel_left, List.map_set]
              have : sh c ((bn : Int), (nth sp jn).2.1, (a : Int)) = (((bn + c : Nat) : Int), (sh c (nth sp jn)).2.1, ((a + c : Nat) : Int)) := by
                unfold sh; simp only; rw [if_neg (show ¬ (a : Int) < 0 by omega)]; push_cast; rfl
              rw [this]
            rw [e1, drop_up hop] at h2
            rw [drop_up hop] at el2
            exact join (ih (a + 1) _ _ _ _ _ h1 (by omega) (fun j hj => by rw [List.length_set]; exact hin j (List.dropLast_subset _ hj))
              (fun k hk => by
                rw [List.length_set] at hk
                rw [nth_set _ _ hjl]
                have := hb k hk
                by_cases e : k = jn
                · rw [if_pos e]; push_cast; (try simp only); omega
                · rw [if_neg e]; push_cast; omega) _ k) h2 el2 el hw2
        · have h11' : ¬ (at3 M ((a + c : Nat) : Int)).1 = 11 := by rw [hMa]; exact h11
          obtain ⟨lg1, el, h1⟩ := wk_other h ho h5 h11
          obtain ⟨lg2, el2, h2⟩ := wk_other hw ho' h5' h11'
          exact join (ih (a + 1) _ _ _ _ _ h1 (by omega) hin (fun k hk => by have := hb k hk; push_cast; omega) _ k) h2 el2 el hw2

end Go.Proofs.Ytobopkkdjkjafaa.Nest
