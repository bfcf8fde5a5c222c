/- A nested body within a Block is nested, one deeper; with one End more, or one less, it is not. -/
import Derived.Test.YtobopkkdjkjafaaNestView
import Derived.Test.YtobopkkdjkjafaaNestMorePure
import Derived.Test.YtobopkkdjkjafaaPmx6
namespace Go.Proofs.Ytobopkkdjkjafaa.NestEqM
open Go.RowKit Go.Proofs.YtobopkkdjkjafaaW.PrintWords Go.Proofs.YtobopkkdjkjafaaW.PrintLast Go.Proofs.YtobopkkdjkjafaaW.PrintMore Go.Proofs.Ytobopkkdjkjafaa.Nest Go.Proofs.Ytobopkkdjkjafaa.Pm
set_option linter.unusedVariables false
set_option linter.unusedSimpArgs false

def to37 (x : T3) : S37 := ⟨x.1, x.2.1, x.2.2⟩
theorem to37_C {w : World} {A : Option Addr} {l : List T3} (h : Kd.C k3 w A l.length l) : Kd.C k37 w A (l.map to37).length (l.map to37) := by
  rw [List.length_map]
  refine ⟨by simp, h.2.1, fun h0 => ?_⟩
  obtain ⟨ad, e, hh⟩ := h.2.2 h0
  refine ⟨ad, e, fun j p hj => ?_⟩
  rw [List.getElem?_map] at hj
  cases hx : l[j]? with
  | none => rw [hx] at hj; simp at hj
  | some q =>
    rw [hx] at hj
    simp only [Option.map_some, Option.some.injEq] at hj
    subst hj
    exact hh j q hx
theorem examples_f : oubliettelaw06_examples.f 60 = some true := by decide +kernel
theorem in37 (l : List T3) : (l.map to37).map nest_in = l := by
  rw [List.map_map]
  exact (List.map_congr_left (fun x _ => rfl)).trans (List.map_id l)
theorem cut37 (l : List T3) (n : Nat) : (l.map to37).take n = (l.take n).map to37 := by rw [List.map_take]
theorem all37 (l : List T3) : nest_all (l.map to37) = wkAll l := by unfold nest_all; rw [in37]
theorem cut_f {α : Type} (l : List T3) (n : Nat) (g : List S37 → Option α) :
    (if 0 ≤ (mn ((l.map to37).length : Int) n) then (if (mn ((l.map to37).length : Int) n) ≤ ((l.map to37).length : Int) then ((some ((l.map to37).take ((mn ((l.map to37).length : Int) n) : Int).toNat : List (S37))).bind g) else none) else none) = g ((l.take (min n l.length)).map to37) := by
  rw [List.length_map]
  have e : (mn (l.length : Int) n) = ((min n l.length : Nat) : Int) := by unfold mn; split <;> omega
  rw [e, if_pos (by omega), if_pos (by omega), Int.toNat_natCast, cut37]
  rfl
theorem depth_f (l : List T3) (h : l.length ≤ 90000) : nest_Depth.f (l.map to37) = some (depths l, (wkAll l).2.1) := by
  unfold nest_Depth.f
  rw [if_pos (by rw [List.length_map]; exact h), in37, all37]

theorem at3_cat {L : List T3} {x : T3} {i : Nat} (h : i < L.length) : at3 (L ++ [x]) (i : Int) = at3 L (i : Int) := by
  rw [at3_nat, at3_nat, nth_left h]
theorem at3_take {L : List T3} {m i : Nat} (h : i < m) : at3 (L.take m) (i : Int) = at3 L (i : Int) := by
  rw [at3_nat, at3_nat]
  unfold nth
  rw [List.getD_eq_getElem?_getD, List.getElem?_take_of_lt h, ← List.getD_eq_getElem?_getD]
theorem at3_cons {L : List T3} {x : T3} {i : Nat} : at3 (x :: L) ((i + 1 : Nat) : Int) = at3 L (i : Int) := by
  rw [at3_nat, at3_nat]; rfl

theorem ends_last {L : List T3} (h0 : (wkAll L).2.1 = 0) (hp : 1 ≤ L.length) : (at3 L ((L.length - 1 : Nat) : Int)).1 = 11 := by
  obtain ⟨S, eR, _⟩ := wkAll_all L h0
  have hE := NestV.wkAll_ends L h0
  rw [eR] at hE
  have := hE S.length (by simp)
  rw [nth_last] at this
  rw [show ((L.length - 1 : Nat) : Int) = (L.length : Int) - 1 from by omega]
  exact this

section
variable {L : List T3} (h0 : (wkAll L).2.1 = 0) (hp : 1 ≤ L.length)
include h0 hp
theorem wk0 : wk L (L.length - 1 + 1) 0 [] [] false = ((wkAll L).1, 0, (wkAll L).2.2) := by
  rw [show L.length - 1 + 1 = L.length from by omega, ← h0]; rfl
theorem one_less : (wkAll (L.take (L.length - 1))).2.1 = 3 := by
  obtain ⟨sp', deep2, pre, e, _, _⟩ := sim (M := L.take (L.length - 1)) (P := []) (q := []) (c := 0) rfl rfl rfl (fun i hi => by rw [Nat.add_zero, at3_take (by omega)]) (L.length - 1) 0 [] [] false _ _ (wk0 h0 hp) (by omega) (by simp) (by simp) false 0
  have e2 : wkAll (L.take (L.length - 1)) = wk (L.take (L.length - 1)) (L.length - 1 + 0) (0 + 0) ([] ++ ([] : List T3).map (sh 0)) ([] ++ up 0 []) false := by
    unfold wkAll
    rw [List.length_take, show min (L.length - 1) L.length = L.length - 1 + 0 from by omega]; rfl
  rw [e2, e]; rfl
theorem one_more (x : T3) : (wkAll (L ++ [x])).2.1 = 3 := by
  obtain ⟨sp', deep2, pre, e, _, _⟩ := sim (M := L ++ [x]) (P := []) (q := []) (c := 0) rfl rfl rfl (fun i hi => by rw [Nat.add_zero, at3_cat (by omega)]) (L.length - 1) 0 [] [] false _ _ (wk0 h0 hp) (by omega) (by simp) (by simp) false 2
  have e2 : wkAll (L ++ [x]) = wk (L ++ [x]) (L.length - 1 + 2) (0 + 0) ([] ++ ([] : List T3).map (sh 0)) ([] ++ up 0 []) false := by
    unfold wkAll
    rw [List.length_append, List.length_cons, List.length_nil, show L.length + (0 + 1) = L.length - 1 + 2 from by omega]; rfl
  rw [e2, e]
  have h11 : (at3 (L ++ [x]) ((L.length - 1 + 0 : Nat) : Int)).1 = 11 := by rw [Nat.add_zero, at3_cat (by omega)]; exact ends_last h0 hp
  obtain ⟨R', E', lg', hw⟩ : ∃ R' E' lg', wk (L ++ [x]) (1 + 1) (L.length - 1 + 0) ([] ++ sp') [] deep2 = (R', E', lg') := ⟨_, _, _, rfl⟩
  obtain ⟨_, r1, _⟩ := wk_last hw h11
  have := (r1 (by simp; omega)).2
  rw [show (2 : Nat) = 1 + 1 from rfl, hw]
  exact this.symm
theorem within (y : T3) (hy : y.1 = 11) (z : T3) (hz : z.1 = 2) : ((wkAll (z :: (L ++ [y]))).2.1 = 0 ∨ (wkAll (z :: (L ++ [y]))).2.1 = 1) ∧ ∃ (pre rest : List (Int × List Int)) (x0 : Int × List Int), (wkAll (z :: (L ++ [y]))).2.2 = x0 :: (pre ++ rest) ∧ pre.length = L.length - 1 ∧
    ∀ i, i < L.length - 1 → ∃ x y, pre[i]? = some x ∧ (wkAll L).2.2[i]? = some y ∧ x.2.length = y.2.length + 1 := by
  have hMl : (z :: (L ++ [y])).length = L.length + 2 := by simp
  obtain ⟨R, E, lg, hw⟩ : ∃ R E lg, wk (z :: (L ++ [y])) (L.length + 1 + 1) 0 [] [] false = (R, E, lg) := ⟨_, _, _, rfl⟩
  have hall : wkAll (z :: (L ++ [y])) = (R, E, lg) := by rw [← hw]; unfold wkAll; rw [hMl]
  have ho : opens (at3 (z :: (L ++ [y])) ((0 : Nat) : Int)).1 = true := by rw [at3_nat]; show opens z.1 = true; rw [hz]; rfl
  obtain ⟨lg1, el, h1⟩ := wk_opens hw ho
  obtain ⟨sp', deep2, pre, e, hpl, hpi⟩ := sim (M := z :: (L ++ [y])) (P := [(0, -1, -1)]) (q := [0]) (c := 1) rfl rfl rfl (fun i hi => by rw [at3_cons, at3_cat (by omega)]) (L.length - 1) 0 [] [] false _ _ (wk0 h0 hp) (by omega) (by simp) (by simp) (false || decide (0 + 1 > 8)) 2
  have h1' : wk (z :: (L ++ [y])) (L.length - 1 + 2) (0 + 1) ([(0, -1, -1)] ++ ([] : List T3).map (sh 1)) ([0] ++ up 1 []) (false || decide (0 + 1 > 8)) = (R, E, lg1) := by
    rw [show L.length - 1 + 2 = L.length + 1 from by omega]; exact h1
  rw [e] at h1'
  obtain ⟨e1, e'⟩ := Prod.mk.inj h1'
  obtain ⟨e2, e3⟩ := Prod.mk.inj e'
  rw [hall]
  refine ⟨?_, pre, _, _, by rw [el, ← e3], hpl, hpi⟩
  show E = 0 ∨ E = 1
  rw [← e2]
  have h11 : (at3 (z :: (L ++ [y])) ((L.length - 1 + 1 : Nat) : Int)).1 = 11 := by rw [at3_cons, at3_cat (by omega)]; exact ends_last h0 hp
  obtain ⟨R2, E2, lg2, hw2⟩ : ∃ R' E' lg', wk (z :: (L ++ [y])) (1 + 1) (L.length - 1 + 1) ([(0, -1, -1)] ++ sp') [0] deep2 = (R', E', lg') := ⟨_, _, _, rfl⟩
  obtain ⟨lg3, el3, h3⟩ := wk_end (jn := 0) (bn := 0) (e := -1) (n := -1) hw2 h11 (by simp) rfl rfl
  rw [show (2 : Nat) = 1 + 1 from rfl, hw2]
  show E2 = 0 ∨ E2 = 1
  have h11' : (at3 (z :: (L ++ [y])) ((L.length - 1 + 1 + 1 : Nat) : Int)).1 = 11 := by
    rw [at3_cons, show L.length - 1 + 1 = L.length from by omega, at3_nat, nth_last]; exact hy
  obtain ⟨_, _, r2, r3⟩ := wk_last (r := 0) h3 h11'
  have hl : L.length - 1 + 1 + 1 + 1 = (z :: (L ++ [y])).length := by rw [hMl]; omega
  cases deep2
  · exact .inl (r3 hl rfl).2.symm
  · exact .inr (r2 hl rfl).2.symm
end

theorem more_l0 (x : List S37) (t : Bool) (d f : List Int) (n : Nat) (hx : x.length = n) (hn : n ≤ 90000) (hp : 1 ≤ n) (hd : d.length = n) (hf : ∀ k : Nat, k + 1 < n → k + 1 < f.length ∧ rd f ((k + 1 : Nat) : Int) = rd d (k : Int) + 1 ∧ 0 ≤ rd d (k : Int) ∧ rd d (k : Int) ≤ 100000) :
    ∀ m i : Nat, i + m = n - 1 → ∃ k, oubliettelaw06_NestMore.l0 k x t d f 0 (i : Int) = some t := by
  intro m
  induction m with
  | zero =>
    intro i hi
    refine ⟨2, ?_⟩
    rw [oubliettelaw06_NestMore.l0, if_neg (by rw [hx]; unfold wrap64; omega), oubliettelaw06_NestMore.j2, if_neg (by decide)]
  | succ m ih =>
    intro i hi
    obtain ⟨k, hk⟩ := ih (i + 1) (by omega)
    obtain ⟨f1, f2, f3, f4⟩ := hf i (by omega)
    refine ⟨k + 1 + 1, ?_⟩
    have ew : wrap64 ((i : Int) + 1) = ((i + 1 : Nat) : Int) := by unfold wrap64; omega
    rw [oubliettelaw06_NestMore.l0, if_pos (by rw [hx]; unfold wrap64; omega), oubliettelaw06_NestMore.j2, if_pos (by rfl), ew, if_pos (by omega), if_pos (by omega), if_pos (by omega), if_pos (by omega), f2, show wrap64 (rd d (i : Int) + 1) = rd d (i : Int) + 1 from by unfold wrap64; omega]
    rw [if_pos rfl]
    exact hk

theorem more_j0 (x : List S37) (t : Bool) (d f : List Int) (n : Nat) (E : Int) (hE : E = 0 ∨ E = 1) (hx : x.length = n) (hn : n ≤ 90000) (hp : 1 ≤ n) (hd : d.length = n) (hf : E = 0 → ∀ k : Nat, k + 1 < n → k + 1 < f.length ∧ rd f ((k + 1 : Nat) : Int) = rd d (k : Int) + 1 ∧ 0 ≤ rd d (k : Int) ∧ rd d (k : Int) ≤ 100000) :
    ∃ k, oubliettelaw06_NestMore.j0 k x t d f E false = some t := by
  rcases hE with rfl | rfl
  · obtain ⟨k, hk⟩ := more_l0 x t d f n hx hn hp hd (hf rfl) (n - 1) 0 (by omega)
    refine ⟨k + 1, ?_⟩
    rw [oubliettelaw06_NestMore.j0, if_neg (by decide)]
    exact hk
  · refine ⟨3, ?_⟩
    rw [oubliettelaw06_NestMore.j0, if_neg (by decide), oubliettelaw06_NestMore.l0]
    by_cases h : (0 : Int) < (wrap64 ((x.length : Int) - 1))
    · rw [if_pos h, oubliettelaw06_NestMore.j2, if_neg (by decide)]
    · rw [if_neg h, oubliettelaw06_NestMore.j2, if_neg (by decide)]

theorem PureMore (l : List T3) : ∃ k, oubliettelaw06_NestMore.f k (l.map to37) = some true := by
  have hc : (l.take (min 150 l.length)).length ≤ 150 := by rw [List.length_take]; omega
  generalize hL : l.take (min 150 l.length) = L at *
  have go : ∀ k, 60 ≤ k → oubliettelaw06_NestMore.f k (l.map to37) = ((nest_Depth.f (L.map to37)).bind fun bt142 => (if bt142.2 = 0 then (if ([] : List (S37)).length < 5864062014805 then ((some (([] : List (S37)) ++ [(⟨2, 0, 0⟩ : S37)] : List (S37))).bind fun y146 => (if y146.length + (L.map to37).length < 5864062014805 then ((some (y146 ++ (L.map to37) : List (S37))).bind fun y149 => (if y149.length < 5864062014805 then ((nest_Depth.f (y149 ++ [(⟨11, 0, 0⟩ : S37)])).bind fun bt155 => (if ([] : List (S37)).length + (L.map to37).length < 5864062014805 then ((some (([] : List (S37)) ++ (L.map to37) : List (S37))).bind fun y159 => (if y159.length < 5864062014805 then ((nest_Depth.f (y159 ++ [(⟨11, 0, 0⟩ : S37)])).bind fun bt165 => (if 0 ≤ (wrap64 (((L.map to37).length : Int) - 1)) then (if (wrap64 (((L.map to37).length : Int) - 1)) ≤ ((L.map to37).length : Int) then ((nest_Depth.f ((L.map to37).take ((wrap64 (((L.map to37).length : Int) - 1)) : Int).toNat)).bind fun bt173 => (if bt165.2 = 3 then (if bt173.2 = 3 then (if bt155.2 = 0 then (oubliettelaw06_NestMore.j0 k (L.map to37) true bt142.1 bt155.1 bt155.2 false) else (oubliettelaw06_NestMore.j0 k (L.map to37) true bt142.1 bt155.1 bt155.2 (bt155.2 != 1))) else (oubliettelaw06_NestMore.j0 k (L.map to37) true bt142.1 bt155.1 bt155.2 true)) else (oubliettelaw06_NestMore.j0 k (L.map to37) true bt142.1 bt155.1 bt155.2 true))) else (none)) else (none))) else (none))) else (none))) else (none))) else (none))) else (none)) else (some true))) := by
    intro k hk
    unfold oubliettelaw06_NestMore.f
    rw [at_rounds oubliettelaw06_examples.mono hk examples_f]
    subst hL
    exact cut_f l 150 _
  rw [depth_f L (by omega)] at go
  by_cases h0 : (wkAll L).2.1 = 0
  · have hp : 1 ≤ L.length := by
      cases L with
      | nil => exact absurd h0 (by decide)
      | cons _ _ => simp
    obtain ⟨S, eR, hA, hlen, hv⟩ := wkAll_all L h0
    have hS := NestV.len_S L S hA
    obtain ⟨hE, pre, rest, x0, elg, hpl, hpi⟩ := within h0 hp (11, 0, 0) rfl (2, 0, 0) rfl
    have e1 : (([] : List (S37)) ++ [(⟨2, 0, 0⟩ : S37)]) ++ L.map to37 ++ [(⟨11, 0, 0⟩ : S37)] = (((2, 0, 0) : T3) :: (L ++ [((11, 0, 0) : T3)])).map to37 := by simp [to37]
    have e2 : (([] : List (S37)) ++ L.map to37) ++ [(⟨11, 0, 0⟩ : S37)] = (L ++ [((11, 0, 0) : T3)]).map to37 := by simp [to37]
    have e3 : (wrap64 (((L.map to37).length : Int) - 1)) = ((L.length - 1 : Nat) : Int) := by rw [List.length_map]; unfold wrap64; omega
    have hdl : (depths L).length = L.length := by rw [NestV.depths_cnts L S h0 hlen hv, NestV.cnts_len]
    obtain ⟨k, hk⟩ := more_j0 (L.map to37) true (depths L) (depths (((2, 0, 0) : T3) :: (L ++ [((11, 0, 0) : T3)]))) L.length (wkAll (((2, 0, 0) : T3) :: (L ++ [((11, 0, 0) : T3)]))).2.1 hE (by rw [List.length_map]) (by omega) hp hdl (fun hE0 i hi => by
      obtain ⟨x, y, g1, g2, g3⟩ := hpi i (by omega)
      have hil : i < pre.length := by omega
      have ed : rd (depths L) (i : Int) = (y.2.length : Int) := by
        unfold depths rd
        rw [if_pos h0, Int.toNat_natCast, List.getD_eq_getElem?_getD, List.getElem?_map, g2]; rfl
      have ec : rd (depths L) (i : Int) = ((NestV.vw S (i : Int) S.length).length : Int) := by
        rw [NestV.depths_cnts L S h0 hlen hv]; exact NestV.rd_cnts L S i (by omega)
      have hvl := NestV.vw_len S (i : Int) S.length
      have ef : rd (depths (((2, 0, 0) : T3) :: (L ++ [((11, 0, 0) : T3)]))) ((i + 1 : Nat) : Int) = (x.2.length : Int) := by
        unfold depths rd
        rw [if_pos hE0, Int.toNat_natCast, List.getD_eq_getElem?_getD, List.getElem?_map, elg, List.getElem?_cons_succ, List.getElem?_append_left hil, g1]; rfl
      refine ⟨?_, ?_, by omega, by omega⟩
      · unfold depths
        rw [if_pos hE0, elg]; simp; omega
      · rw [ef, ed, g3]; push_cast; rfl)
    refine ⟨60 + k, ?_⟩
    have hk2 := at_rounds (g := fun k => oubliettelaw06_NestMore.j0 k (L.map to37) true (depths L) (depths (((2, 0, 0) : T3) :: (L ++ [((11, 0, 0) : T3)]))) (wkAll (((2, 0, 0) : T3) :: (L ++ [((11, 0, 0) : T3)]))).2.1 false) (fun k => (oubliettelaw06_NestMore.mono_l k).1 _ _ _ _ _ _) (by omega : k ≤ 60 + k) hk
    rw [go _ (by omega)]
    simp only [Option.bind_some]
    rw [if_pos h0, if_pos (by simp), if_pos (by simp; omega), if_pos (by simp; omega), e1, depth_f _ (by simp; omega)]
    simp only [Option.bind_some]
    rw [if_pos (by simp; omega), if_pos (by simp; omega), e2, depth_f _ (by simp; omega)]
    simp only [Option.bind_some]
    rw [e3, if_pos (by omega), if_pos (by rw [List.length_map]; omega), Int.toNat_natCast, cut37, depth_f _ (by rw [List.length_take]; omega)]
    simp only [Option.bind_some]
    rw [if_pos (one_more h0 hp _), if_pos (one_less h0 hp)]
    by_cases hE0 : (wkAll (((2, 0, 0) : T3) :: (L ++ [((11, 0, 0) : T3)]))).2.1 = 0
    · rw [if_pos hE0]; exact hk2
    · rw [if_neg hE0]
      have hE1 : (wkAll (((2, 0, 0) : T3) :: (L ++ [((11, 0, 0) : T3)]))).2.1 = 1 := by rcases hE with h | h; exact absurd h hE0; exact h
      rw [show ((wkAll (((2, 0, 0) : T3) :: (L ++ [((11, 0, 0) : T3)]))).2.1 != 1) = false from by rw [hE1]; rfl]
      exact hk2
  · refine ⟨60, ?_⟩
    rw [go 60 (by omega)]
    simp only [Option.bind_some]
    rw [if_neg h0]
end Go.Proofs.Ytobopkkdjkjafaa.NestEqM
