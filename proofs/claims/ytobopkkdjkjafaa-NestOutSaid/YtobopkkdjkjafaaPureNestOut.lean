/- Each depth has its target, and one more. -/
import Derived.Test.YtobopkkdjkjafaaPureNestTargets
import Derived.Test.YtobopkkdjkjafaaPnx15
namespace Go.Proofs.Ytobopkkdjkjafaa.NestEq
open Go.RowKit Go.Proofs.YtobopkkdjkjafaaW.PrintWords Go.Proofs.YtobopkkdjkjafaaW.PrintLast Go.Proofs.YtobopkkdjkjafaaW.PrintMore Go.Proofs.Ytobopkkdjkjafaa.Nest Go.Proofs.Ytobopkkdjkjafaa.NestRow Go.Proofs.Ytobopkkdjkjafaa.Pn
set_option linter.unusedVariables false
set_option linter.unusedSimpArgs false

/-- where a span ends an End stands -/
theorem wk_ends (L : List T3) : ∀ (r a : Nat) (sp : List T3) (op : List Int) (deep : Bool) (R : List T3) (lg : List (Int × List Int)), wk L r a sp op deep = (R, 0, lg) →
    op.Pairwise (· < ·) → (∀ j ∈ op, 0 ≤ j ∧ j < (sp.length : Int)) → (∀ k, k < sp.length → 0 ≤ (nth sp k).1) → (∀ k : Nat, k < sp.length → (k : Int) ∉ op → (at3 L (nth sp k).2.2).1 = 11) → ∀ k, k < R.length → (at3 L (nth R k).2.2).1 = 11 := by
  intro r
  induction r with
  | zero => intro a sp op deep R lg h; simp [wk] at h
  | succ r ih =>
    intro a sp op deep R lg h hs hin hb he
    by_cases ho : opens (at3 L a).1 = true
    · obtain ⟨lg1, rfl, h1⟩ := wk_opens h ho
      refine ih _ _ _ _ _ _ h1 ?_ ?_ ?_ ?_
      · rw [List.pairwise_append]
        refine ⟨hs, by simp, fun x hx y hy => ?_⟩
        simp at hy; subst hy; exact (hin x hx).2
      · intro j hj
        rcases List.mem_append.1 hj with hj | hj
        · have := hin j hj; simp; omega
        · simp at hj; simp; omega
      · intro k hk
        by_cases e : k < sp.length
        · rw [nth_left e]; exact hb k e
        · have e2 : k = sp.length := by simp at hk; omega
          subst e2; rw [nth_last]; simp only; omega
      · intro k hk hm
        by_cases e : k < sp.length
        · rw [nth_left e]; exact he k e (fun h => hm (List.mem_append.2 (.inl h)))
        · exact absurd (List.mem_append.2 (.inr (by simp at hk; simp; omega))) hm
    · by_cases h5 : (at3 L a).1 = 5
      · by_cases hop : op = []
        · have := (wk_else_no h h5 (.inl hop)).2.1; cases this
        · obtain ⟨hj0, hj1⟩ := hin _ (last_mem hop)
          obtain ⟨jn, hjn⟩ := Int.eq_ofNat_of_zero_le hj0
          have hjm : (jn : Int) ∈ op := by rw [← hjn]; exact last_mem hop
          rw [hjn] at hj1
          have hjl : jn < sp.length := by omega
          obtain ⟨bn, hbn⟩ := Int.eq_ofNat_of_zero_le (hb jn hjl)
          have hxx : at3 sp (jn : Int) = ((bn : Int), (nth sp jn).2.1, (nth sp jn).2.2) := by rw [at3_nat, ← hbn]
          by_cases hc : (at3 L (bn : Int)).1 = 4 ∧ (nth sp jn).2.1 < 0
          · obtain ⟨lg1, rfl, h1⟩ := wk_else h h5 hop hjn hxx hc.1 hc.2
            refine ih _ _ _ _ _ _ h1 hs (fun j hj => by rw [List.length_set]; exact hin j hj) ?_ ?_
            · intro k hk
              rw [List.length_set] at hk
              rw [nth_set _ _ hjl]
              by_cases e : k = jn
              · rw [if_pos e]; simp only; omega
              · rw [if_neg e]; exact hb k hk
            · intro k hk hm
              rw [List.length_set] at hk
              rw [nth_set _ _ hjl, if_neg (fun e => hm (by rw [e]; exact hjm))]
              exact he k hk hm
          · have := (wk_else_no h h5 (.inr ⟨hop, jn, bn, _, _, hjn, hxx, by omega⟩)).2.1; cases this
      · by_cases h11 : (at3 L a).1 = 11
        · by_cases hop : op = []
          · subst hop
            obtain ⟨rl, r1, r2, r3⟩ := wk_last h h11
            by_cases hl : a + 1 = L.length
            · cases deep
              · obtain ⟨rR, _⟩ := r3 hl rfl
                subst rR
                intro k hk
                by_cases e : k < sp.length
                · rw [nth_left e]; exact he k e (by simp)
                · have e2 : k = sp.length := by simp at hk; omega
                  subst e2; rw [nth_last]; exact h11
              · have := (r2 hl rfl).2; cases this
            · have := (r1 hl).2; cases this
          · obtain ⟨hj0, hj1⟩ := hin _ (last_mem hop)
            obtain ⟨jn, hjn⟩ := Int.eq_ofNat_of_zero_le hj0
            have hdl := fun j => dropLast_mem hs hop j
            rw [hjn] at hj1 hdl
            have hjl : jn < sp.length := by omega
            obtain ⟨bn, hbn⟩ := Int.eq_ofNat_of_zero_le (hb jn hjl)
            have hxx : at3 sp (jn : Int) = ((bn : Int), (nth sp jn).2.1, (nth sp jn).2.2) := by rw [at3_nat, ← hbn]
            obtain ⟨lg1, rfl, h1⟩ := wk_end h h11 hop hjn hxx
            refine ih _ _ _ _ _ _ h1 (hs.sublist (List.dropLast_sublist op)) (fun j hj => by rw [List.length_set]; exact hin j (List.dropLast_subset _ hj)) ?_ ?_
            · intro k hk
              rw [List.length_set] at hk
              rw [nth_set _ _ hjl]
              by_cases e : k = jn
              · rw [if_pos e]; simp only; omega
              · rw [if_neg e]; exact hb k hk
            · intro k hk hm
              rw [List.length_set] at hk
              rw [nth_set _ _ hjl]
              by_cases e : k = jn
              · rw [if_pos e]; exact h11
              · rw [if_neg e]; exact he k hk (fun h => hm ((hdl _).2 ⟨h, fun e' => e (by omega)⟩))
        · obtain ⟨lg1, rfl, h1⟩ := wk_other h ho h5 h11
          exact ih _ _ _ _ _ _ h1 hs hin hb he
theorem wkAll_ends (L : List T3) (h : (wkAll L).2.1 = 0) : ∀ k, k < (wkAll L).1.length → (at3 L (nth (wkAll L).1 k).2.2).1 = 11 :=
  wk_ends L L.length 0 [] [] false (wkAll L).1 (wkAll L).2.2 (by rw [← h]; rfl) (by simp) (by simp) (by simp) (by simp)

section
variable (L S : List T3) (hL : L.length ≤ 90000) (h0 : (wkAll L).2.1 = 0) (eR : (wkAll L).1 = S ++ [(-1, -1, (L.length : Int) - 1)]) (hA : Agr L.length [] [] 0 S) (hlen : (wkAll L).2.2.length = L.length)
  (hv : ∀ i (h : i < (wkAll L).2.2.length), ((wkAll L).2.2[i]).1 = (i : Int) ∧ View S (i : Int) ((wkAll L).2.2[i]).2)
include hL h0 eR hA hlen hv

theorem out_fact (a : Nat) (ha : a < L.length) (k : Int) (hk : 0 ≤ k) :
    (((target L a k).2.2 == 0) != (decide (k ≤ ((vw S (a : Int) S.length).length : Int)))) = false ∧
    ((target L a k).2.2 = 0 → 0 ≤ (target L a k).1 ∧ (target L a k).1 < L.length ∧ ((target L a k).2.1 = true → (target L a k).1 < a ∧ (at3 L (target L a k).1).1 = 3) ∧ ((target L a k).2.1 ≠ true → (a : Int) ≤ (target L a k).1 ∧ (at3 L (target L a k).1).1 = 11)) := by
  have hE := wkAll_ends L h0
  rw [eR] at hE
  rw [target_leap L S h0 eR hlen hv a k, if_neg (by omega)]
  unfold leap
  by_cases c1 : k > ((vw S (a : Int) S.length).length : Int)
  · rw [if_pos c1, decide_eq_false (by omega)]
    exact ⟨rfl, fun h => absurd h (by decide)⟩
  · rw [if_neg c1, decide_eq_true (by omega)]
    by_cases c2 : k = ((vw S (a : Int) S.length).length : Int)
    · rw [if_pos c2]
      have := hE S.length (by simp)
      rw [nth_last] at this
      exact ⟨rfl, fun _ => ⟨by simp only; omega, by simp only; omega, fun h => absurd h Bool.false_ne_true, fun _ => ⟨by simp only; omega, this⟩⟩⟩
    · rw [if_neg c2]
      obtain ⟨kk, hkk, e, har⟩ := (vw_mem S a S.length _).1 (rd_in hk (by omega : k < ((vw S (a : Int) S.length).length : Int)))
      rw [e, Int.toNat_natCast]
      have hn := hA.new kk (by simp) hkk
      unfold arnd at har
      by_cases c3 : (at3 L (nth S kk).1).1 = 3
      · rw [if_pos c3]
        exact ⟨rfl, fun _ => ⟨by simp only; omega, by simp only; omega, fun _ => ⟨har.1, c3⟩, fun h => absurd rfl h⟩⟩
      · rw [if_neg c3]
        have := hE kk (by simp; omega)
        rw [nth_left hkk] at this
        exact ⟨rfl, fun _ => ⟨by simp only; omega, by simp only; omega, fun h => absurd h Bool.false_ne_true, fun _ => ⟨by simp only; omega, this⟩⟩⟩

omit hL h0 eR hA hlen hv in
theorem rd_cnts (a : Nat) (ha : a < L.length) : rd (cnts S L.length) (a : Int) = ((vw S (a : Int) S.length).length : Int) := by
  unfold rd
  rw [Int.toNat_natCast, List.getD_eq_getElem?_getD, cnts_get _ _ _ ha]; rfl

theorem out_l1 (t : Bool) (a : Nat) (ha : a < L.length) (k0 : Nat) (r : Option Bool) (hk : oubliettelaw06_NestOut.l0 k0 (L.map to37) t (cnts S L.length) ((a + 1 : Nat) : Int) = r) :
    ∀ m j : Nat, j + m = (vw S (a : Int) S.length).length + 2 → ∃ k, oubliettelaw06_NestOut.l1 k (L.map to37) t (cnts S L.length) (a : Int) (j : Int) = r := by
  have hS := len_S L S hA
  have hvl := vw_len S (a : Int) S.length
  have hrd := rd_cnts L S a ha
  intro m
  induction m with
  | zero =>
    intro j hj
    refine ⟨k0 + 1, ?_⟩
    rw [oubliettelaw06_NestOut.l1, if_pos (by omega), if_pos (by rw [cnts_len]; omega), hrd, w1 (by omega), if_neg (by omega), w1 (a := a) (by omega)]
    exact hk
  | succ m ih =>
    intro j hj
    obtain ⟨k, hk⟩ := ih (j + 1) (by omega)
    refine ⟨k + 1, ?_⟩
    obtain ⟨f1, f2⟩ := out_fact L S hL h0 eR hA hlen hv a ha (j : Int) (by omega)
    have ht : nest_Target.f (L.map to37) (a : Int) (j : Int) = some (target L a j) := by
      unfold nest_Target.f
      rw [if_pos (by rw [List.length_map]; exact hL), in37]
    rw [oubliettelaw06_NestOut.l1, if_pos (by omega), if_pos (by rw [cnts_len]; omega), hrd, w1 (by omega), if_pos (by omega), ht, show wrap64 ((j : Int) + 1) = ((j + 1 : Nat) : Int) from by unfold wrap64; omega]
    simp only [Option.bind_some]
    rw [if_neg (by rw [f1]; decide)]
    by_cases c : (target L a j).2.2 = 0
    · obtain ⟨g0, g1, g2, g3⟩ := f2 c
      rw [if_pos c]
      have e37 : (rd_T37 (L.map to37) (target L a j).1).f0 = (at3 L (target L a j).1).1 := by
        obtain ⟨b, hb⟩ := Int.eq_ofNat_of_zero_le g0
        rw [hb, rd37 _ _ (by omega), at3_nat]; rfl
      by_cases cb : (target L a j).2.1 = true
      · rw [if_pos cb, if_neg (by have := (g2 cb).1; omega), if_pos g0, if_pos (by rw [List.length_map]; exact g1), e37, if_pos (g2 cb).2]; exact hk
      · rw [if_neg cb, if_neg (by have := (g3 cb).1; omega), if_pos g0, if_pos (by rw [List.length_map]; exact g1), e37, if_pos (g3 cb).2]; exact hk
    · rw [if_neg c]; exact hk

theorem out_l0 (t : Bool) : ∀ m a : Nat, a + m = L.length → ∃ k, oubliettelaw06_NestOut.l0 k (L.map to37) t (cnts S L.length) (a : Int) = some t := by
  intro m
  induction m with
  | zero =>
    intro a ha
    refine ⟨1, ?_⟩
    rw [oubliettelaw06_NestOut.l0, if_neg (by rw [List.length_map]; omega)]
  | succ m ih =>
    intro a ha
    obtain ⟨k, hk⟩ := ih (a + 1) (by omega)
    obtain ⟨k1, hk1⟩ := out_l1 L S hL h0 eR hA hlen hv t a (by omega) k _ hk ((vw S (a : Int) S.length).length + 2) 0 (by omega)
    refine ⟨k1 + 1, ?_⟩
    rw [oubliettelaw06_NestOut.l0, if_pos (by rw [List.length_map]; omega)]
    exact hk1
end

theorem PureOut (l : List T3) : ∃ k, oubliettelaw06_NestOut.f k (l.map to37) = some true := by
  have hc : (l.take (min 100 l.length)).length ≤ 90000 := by rw [List.length_take]; omega
  have go : ∀ k, 60 ≤ k → oubliettelaw06_NestOut.f k (l.map to37) = (nest_Depth.f ((l.take (min 100 l.length)).map to37)).bind fun bt241 => (if bt241.2 = 0 then (if (bt241.1.length : Int) = (((l.take (min 100 l.length)).map to37).length : Int) then (oubliettelaw06_NestOut.l0 k ((l.take (min 100 l.length)).map to37) true bt241.1 0) else (some false)) else (some ((bt241.1.length : Int) == 0))) := by
    intro k hk
    unfold oubliettelaw06_NestOut.f
    rw [at_rounds oubliettelaw06_examples.mono hk examples_f]
    exact cut_f l 100 _
  generalize hL : l.take (min 100 l.length) = L at *
  have hdp : nest_Depth.f (L.map to37) = some (depths L, (wkAll L).2.1) := by
    unfold nest_Depth.f
    rw [if_pos (by rw [List.length_map]; exact hc), in37, all37]
  rw [hdp] at go
  by_cases h0 : (wkAll L).2.1 = 0
  · obtain ⟨S, eR, hA, hlen, hv⟩ := wkAll_all L h0
    obtain ⟨k, hk⟩ := out_l0 L S hc h0 eR hA hlen hv true L.length 0 (by omega)
    refine ⟨60 + k, ?_⟩
    rw [go _ (by omega)]
    simp only [Option.bind_some]
    rw [if_pos h0, depths_cnts L S h0 hlen hv, if_pos (by rw [cnts_len, List.length_map])]
    exact at_rounds (g := fun k => oubliettelaw06_NestOut.l0 k (L.map to37) true (cnts S L.length) 0) (fun k => (oubliettelaw06_NestOut.mono_l k).1 _ _ _ _) (by omega) hk
  · refine ⟨60, ?_⟩
    rw [go 60 (by omega)]
    simp only [Option.bind_some]
    rw [if_neg h0]
    unfold depths
    rw [if_neg h0]; rfl
end Go.Proofs.Ytobopkkdjkjafaa.NestEq
