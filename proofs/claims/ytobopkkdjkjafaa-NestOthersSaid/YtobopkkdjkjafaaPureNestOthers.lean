/- What is no Block, Loop, If, Else or End plays no part. -/
import Derived.Test.YtobopkkdjkjafaaNestPure
import Derived.Test.YtobopkkdjkjafaaPox7
namespace Go.Proofs.Ytobopkkdjkjafaa.NestEqO
open Go.RowKit Go.Proofs.YtobopkkdjkjafaaW.PrintWords Go.Proofs.YtobopkkdjkjafaaW.PrintLast Go.Proofs.YtobopkkdjkjafaaW.PrintMore Go.Proofs.Ytobopkkdjkjafaa.Nest Go.Proofs.Ytobopkkdjkjafaa.Po
set_option linter.unusedVariables false
set_option linter.unusedSimpArgs false

def to37 (x : T3) : S37 := ⟨x.1, x.2.1, x.2.2⟩
theorem to37_C {w : World} {A : Option Addr} {l : List T3} (h : Kd.C k3 w A l.length l) : Kd.C k37 w A (l.map to37).length (l.map to37) := by
  rw [List.length_map]
  refine ⟨by simp, h.2.1, fun h0 => ?_⟩
  obtain ⟨ad, e, hh⟩ := h.2.2 h0
  refine ⟨ad, e, fun j p hj => ?_⟩
  rw [List.getElem?_map] at hj
  cases hx : l[j]? with
  | none => rw [hx] at hj; simp at hj
  | some q =>
    rw [hx] at hj
    simp only [Option.map_some, Option.some.injEq] at hj
    subst hj
    exact hh j q hx
theorem examples_f : oubliettelaw06_examples.f 60 = some true := by decide +kernel
theorem in37 (l : List T3) : (l.map to37).map nest_in = l := by
  rw [List.map_map]
  exact (List.map_congr_left (fun x _ => rfl)).trans (List.map_id l)
theorem cut37 (l : List T3) (n : Nat) : (l.map to37).take n = (l.take n).map to37 := by rw [List.map_take]
theorem all37 (l : List T3) : nest_all (l.map to37) = wkAll l := by unfold nest_all; rw [in37]
theorem cut_f {α : Type} (l : List T3) (n : Nat) (g : List S37 → Option α) :
    (if 0 ≤ (mn ((l.map to37).length : Int) n) then (if (mn ((l.map to37).length : Int) n) ≤ ((l.map to37).length : Int) then ((some ((l.map to37).take ((mn ((l.map to37).length : Int) n) : Int).toNat : List (S37))).bind g) else none) else none) = g ((l.take (min n l.length)).map to37) := by
  rw [List.length_map]
  have e : (mn (l.length : Int) n) = ((min n l.length : Nat) : Int) := by unfold mn; split <;> omega
  rw [e, if_pos (by omega), if_pos (by omega), Int.toNat_natCast, cut37]
  rfl
theorem spans_f (l : List T3) (h : l.length ≤ 90000) : nest_Spans.f (l.map to37) = some ((wkAll l).1.map nest_sp, (wkAll l).2.1) := by
  unfold nest_Spans.f; rw [List.length_map, if_pos h, all37]
theorem rd37 (l : List T3) (k : Nat) (h : k < l.length) : rd_T37 (l.map to37) (k : Int) = to37 (nth l k) := by
  unfold rd_T37 nth
  rw [Int.toNat_natCast, List.getD_eq_getElem?_getD, List.getElem?_map, List.getD_eq_getElem?_getD, List.getElem?_eq_getElem h]; rfl

def prt (a : Int) : Bool := opens a || a == 5 || a == 11
theorem part_f (a : Int) : oubliettelaw06_NestOthers_1.f a = some (prt a) := by
  unfold oubliettelaw06_NestOthers_1.f prt opens
  by_cases h2 : a = 2
  · rw [if_pos h2]; subst h2; rfl
  · rw [if_neg h2]
    by_cases h3 : a = 3
    · rw [if_pos h3]; subst h3; rfl
    · rw [if_neg h3]
      by_cases h4 : a = 4
      · rw [if_pos h4]; subst h4; rfl
      · rw [if_neg h4]
        by_cases h5 : a = 5
        · rw [if_pos h5]; subst h5; rfl
        · rw [if_neg h5, show (a == 2) = false from by simpa using h2, show (a == 3) = false from by simpa using h3, show (a == 4) = false from by simpa using h4, show (a == 5) = false from by simpa using h5]; rfl

/-- alike to the walk -/
def like (u v : Int) : Prop := opens u = opens v ∧ (u = 5 ↔ v = 5) ∧ (u = 11 ↔ v = 11) ∧ (u = 4 ↔ v = 4)
theorem like_rfl (u : Int) : like u u := ⟨rfl, Iff.rfl, Iff.rfl, Iff.rfl⟩
theorem like_no {u v : Int} (h : prt u = false) (k : prt v = false) : like u v := by
  unfold prt opens at h k
  simp only [Bool.or_eq_false_iff, beq_eq_false_iff_ne] at h k
  refine ⟨?_, by omega, by omega, by omega⟩
  unfold opens
  rw [show (u == 2) = false from by simpa using h.1.1.1.1, show (u == 3) = false from by simpa using h.1.1.1.2, show (u == 4) = false from by simpa using h.1.1.2, show (v == 2) = false from by simpa using k.1.1.1.1, show (v == 3) = false from by simpa using k.1.1.1.2, show (v == 4) = false from by simpa using k.1.1.2]
theorem like_prt {u v : Int} (h : like u v) : prt u = prt v := by
  unfold prt
  rw [h.1]
  have h5 : (u == 5) = (v == 5) := by
    by_cases e : v = 5
    · rw [beq_iff_eq.2 e, beq_iff_eq.2 (h.2.1.2 e)]
    · rw [beq_eq_false_iff_ne.2 e, beq_eq_false_iff_ne.2 (fun e' => e (h.2.1.1 e'))]
  have h11 : (u == 11) = (v == 11) := by
    by_cases e : v = 11
    · rw [beq_iff_eq.2 e, beq_iff_eq.2 (h.2.2.1.2 e)]
    · rw [beq_eq_false_iff_ne.2 e, beq_eq_false_iff_ne.2 (fun e' => e (h.2.2.1.1 e'))]
  rw [h5, h11]

theorem wk_like {X L : List T3} (h : ∀ i : Int, like (at3 X i).1 (at3 L i).1) (hl : X.length = L.length) : ∀ (r a : Nat) (sp : List T3) (op : List Int) (deep : Bool), wk X r a sp op deep = wk L r a sp op deep := by
  have h1 : ∀ i : Int, opens (at3 X i).1 = opens (at3 L i).1 := fun i => (h i).1
  have h5 : ∀ i : Int, ((at3 X i).1 = 5) = ((at3 L i).1 = 5) := fun i => propext (h i).2.1
  have h11 : ∀ i : Int, ((at3 X i).1 = 11) = ((at3 L i).1 = 11) := fun i => propext (h i).2.2.1
  have h4 : ∀ i : Int, ((at3 X i).1 = 4) = ((at3 L i).1 = 4) := fun i => propext (h i).2.2.2
  intro r
  induction r with
  | zero => intro a sp op deep; rfl
  | succ r ih =>
    intro a sp op deep
    simp only [wk, ne_eq, h1, h5, h11, h4, hl, ih]
theorem wkAll_like {X L : List T3} (h : ∀ k : Nat, k < L.length → like (nth X k).1 (nth L k).1) (hl : X.length = L.length) : wkAll X = wkAll L := by
  unfold wkAll
  rw [hl]
  refine wk_like (fun i => ?_) hl _ _ _ _ _
  by_cases hi : i.toNat < L.length
  · exact h i.toNat hi
  · unfold at3
    rw [List.getD_eq_getElem?_getD, List.getElem?_eq_none (by omega), List.getD_eq_getElem?_getD, List.getElem?_eq_none (by omega)]
    exact like_rfl _

theorem same_l1 (t : Bool) (R : List S34) (hR : R.length ≤ 100000) : ∀ m i : Nat, i + m = R.length → ∃ k, oubliettelaw06_NestOthers.l1 k t R R (i : Int) = some t := by
  intro m
  induction m with
  | zero =>
    intro i hi
    refine ⟨1, ?_⟩
    rw [oubliettelaw06_NestOthers.l1, if_neg (by omega)]
  | succ m ih =>
    intro i hi
    obtain ⟨k, hk⟩ := ih (i + 1) (by omega)
    refine ⟨k + 1, ?_⟩
    rw [oubliettelaw06_NestOthers.l1, if_pos (by omega), if_pos (by omega), if_pos (by omega), if_neg (by simp), show wrap64 ((i : Int) + 1) = ((i + 1 : Nat) : Int) from by unfold wrap64; omega]
    exact hk

theorem wk_len (L : List T3) : ∀ (r a : Nat) (sp : List T3) (op : List Int) (deep : Bool), (wk L r a sp op deep).1.length ≤ sp.length + r := by
  intro r
  induction r with
  | zero => intro a sp op deep; simp [wk]
  | succ r ih =>
    intro a sp op deep
    unfold wk
    by_cases ho : opens (at3 L a).1 = true
    · rw [if_pos ho]
      have := ih (a + 1) (sp ++ [((a : Int), -1, -1)]) (op ++ [(sp.length : Int)]) (deep || decide (op.length + 1 > 8))
      simp only [List.length_append, List.length_cons, List.length_nil] at this
      simp only; omega
    · rw [if_neg ho]
      by_cases h5 : (at3 L a).1 = 5
      · rw [if_pos h5]
        by_cases hop : op = []
        · rw [if_pos hop]; simp
        · rw [if_neg hop]
          simp only
          split
          · simp
          · have := ih (a + 1) (sp.set (rd op ((op.length : Int) - 1)).toNat ((at3 sp (rd op ((op.length : Int) - 1))).1, (a : Int), (at3 sp (rd op ((op.length : Int) - 1))).2.2)) op deep
            rw [List.length_set] at this
            simp only; omega
      · rw [if_neg h5]
        by_cases h11 : (at3 L a).1 = 11
        · rw [if_pos h11]
          by_cases hop : op = []
          · rw [if_pos hop]
            by_cases hl : a + 1 ≠ L.length
            · rw [if_pos hl]; simp
            · rw [if_neg hl]
              cases deep
              · simp
              · simp
          · rw [if_neg hop]
            have := ih (a + 1) (sp.set (rd op ((op.length : Int) - 1)).toNat ((at3 sp (rd op ((op.length : Int) - 1))).1, (at3 sp (rd op ((op.length : Int) - 1))).2.1, (a : Int))) op.dropLast deep
            rw [List.length_set] at this
            simp only; omega
        · rw [if_neg h11]
          have := ih (a + 1) sp op deep
          simp only; omega

theorem put_l0 (L : List T3) (t : Bool) (x : T3) (hx : prt x.1 = false) (hL : L.length ≤ 90000) : ∀ (m i : Nat) (X : List T3), i + m = L.length → X.length = L.length → (∀ k : Nat, k < L.length → like (nth X k).1 (nth L k).1) →
    ∃ k, oubliettelaw06_NestOthers.l0 k (L.map to37) t (X.map to37) (i : Int) x.1 x.2.1 x.2.2 = some t := by
  intro m
  induction m with
  | zero =>
    intro i X hi hl hX
    have hr : ((wkAll L).1.map nest_sp).length ≤ 100000 := by
      rw [List.length_map]
      have := wk_len L L.length 0 [] [] false
      unfold wkAll
      simp only [List.length_nil] at this
      omega
    obtain ⟨k, hk⟩ := same_l1 t ((wkAll L).1.map nest_sp) hr ((wkAll L).1.map nest_sp).length 0 (by omega)
    refine ⟨k + 1 + 1, ?_⟩
    rw [oubliettelaw06_NestOthers.l0, if_neg (by rw [List.length_map]; omega), spans_f L hL, spans_f X (by omega), wkAll_like hX hl]
    simp only [Option.bind_some]
    rw [if_pos trivial, show ((wkAll L).2.1 != (wkAll L).2.1) = false from by simp, oubliettelaw06_NestOthers.j2, if_neg (by decide)]
    exact hk
  | succ m ih =>
    intro i X hi hl hX
    have ew : wrap64 ((i : Int) + 1) = ((i + 1 : Nat) : Int) := by unfold wrap64; omega
    by_cases hp : prt (nth X i).1 = true
    · obtain ⟨k, hk⟩ := ih (i + 1) X (by omega) hl hX
      refine ⟨k + 1, ?_⟩
      rw [oubliettelaw06_NestOthers.l0, if_pos (by rw [List.length_map]; omega), if_pos (by omega), rd37 _ _ (by omega), part_f, show (to37 (nth X i)).f0 = (nth X i).1 from rfl, ew]
      simp only [Option.bind_some]
      rw [if_pos hp]; exact hk
    · have hp' : prt (nth X i).1 = false := by simpa using hp
      obtain ⟨k, hk⟩ := ih (i + 1) (X.set i x) (by omega) (by rw [List.length_set]; exact hl) (fun k hk => by
        rw [nth_set _ _ (by omega)]
        by_cases e : k = i
        · rw [if_pos e]
          subst e
          exact like_no hx (by rw [← like_prt (hX k hk)]; exact hp')
        · rw [if_neg e]; exact hX k hk)
      refine ⟨k + 1, ?_⟩
      rw [oubliettelaw06_NestOthers.l0, if_pos (by rw [List.length_map]; omega), if_pos (by omega), rd37 _ _ (by omega), part_f, show (to37 (nth X i)).f0 = (nth X i).1 from rfl, ew]
      simp only [Option.bind_some]
      rw [if_neg hp, Int.toNat_natCast, ← hk, List.map_set]
      rfl

theorem put_j0 (L : List T3) (t : Bool) (x : T3) (hx : prt x.1 = false) (hL : L.length ≤ 90000) : ∃ k, oubliettelaw06_NestOthers.j0 k (L.map to37) t x.1 x.2.1 x.2.2 = some t := by
  obtain ⟨k, hk⟩ := put_l0 L t x hx hL L.length 0 L (by omega) rfl (fun k _ => like_rfl _)
  refine ⟨k + 1, ?_⟩
  rw [oubliettelaw06_NestOthers.j0, if_pos (by simp; omega), List.nil_append]
  exact hk

theorem PureOthers (l : List T3) (a0 a1 a2 : Int) : ∃ k, oubliettelaw06_NestOthers.f k (l.map to37) a0 a1 a2 = some true := by
  have hc : (l.take (min 150 l.length)).length ≤ 90000 := by rw [List.length_take]; omega
  have go : ∀ k, 60 ≤ k → oubliettelaw06_NestOthers.f k (l.map to37) a0 a1 a2 = if prt a0 = true then (oubliettelaw06_NestOthers.j0 k ((l.take (min 150 l.length)).map to37) true 1 a1 a2) else (oubliettelaw06_NestOthers.j0 k ((l.take (min 150 l.length)).map to37) true a0 a1 a2) := by
    intro k hk
    unfold oubliettelaw06_NestOthers.f
    rw [at_rounds oubliettelaw06_examples.mono hk examples_f, part_f]
    exact cut_f l 150 _
  generalize hL : l.take (min 150 l.length) = L at *
  by_cases hp : prt a0 = true
  · obtain ⟨k, hk⟩ := put_j0 L true (1, a1, a2) rfl hc
    refine ⟨60 + k, ?_⟩
    rw [go _ (by omega), if_pos hp]
    exact at_rounds (g := fun k => oubliettelaw06_NestOthers.j0 k (L.map to37) true 1 a1 a2) (fun k => (oubliettelaw06_NestOthers.mono_l k).1 _ _ _ _ _) (by omega) hk
  · obtain ⟨k, hk⟩ := put_j0 L true (a0, a1, a2) (by simpa using hp) hc
    refine ⟨60 + k, ?_⟩
    rw [go _ (by omega), if_neg hp]
    exact at_rounds (g := fun k => oubliettelaw06_NestOthers.j0 k (L.map to37) true a0 a1 a2) (fun k => (oubliettelaw06_NestOthers.mono_l k).1 _ _ _ _ _) (by omega) hk
end Go.Proofs.Ytobopkkdjkjafaa.NestEqO
