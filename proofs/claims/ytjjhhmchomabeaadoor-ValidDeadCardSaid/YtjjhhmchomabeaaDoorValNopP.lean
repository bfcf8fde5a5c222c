/- A Nop laid into a body: the heights of all others stay: plain. -/
import Derived.Test.YtjjhhmchomabeaaDoorValGo
namespace Go.Proofs.YtjjhhmchomabeaaDoor.Valid
open Go.RowKit Go.Proofs.YtjjhhmchomabeaaDoorW.PrintWords Go.Proofs.YtjjhhmchomabeaaDoorW.PrintLast Go.Proofs.YtjjhhmchomabeaaDoor.Mem Go.Proofs.YtjjhhmchomabeaaDoor.Nest
set_option linter.unusedVariables false
set_option linter.unusedSimpArgs false

/-- a body with x laid in at the place a -/
def insL (L : List T3) (a : Nat) (x : T3) : List T3 := L.take a ++ x :: L.drop a
section
variable {L : List T3} {a : Nat} {x : T3} {M : Md} {k : Nat}
theorem insL_len (ha : a ≤ L.length) : (insL L a x).length = L.length + 1 := by
  unfold insL
  rw [List.length_append, List.length_cons, List.length_take, List.length_drop]
  omega
theorem insL_ok (ha : a < L.length) (hx : Plain x) (hr : rightX x = true) (h2 : L.all rightX = true) (h3 : closedB L = true) (h4 : errN L [] false = 0) : (insL L a x).all rightX = true ∧ closedB (insL L a x) = true ∧ errN (insL L a x) [] false = 0 := by
  have hb : L.drop a ≠ [] := by
    intro e
    have := congrArg List.length e
    rw [List.length_drop] at this
    simp at this
    omega
  have he : L.take a ++ L.drop a = L := List.take_append_drop a L
  refine ⟨?_, ?_, ?_⟩
  · unfold insL
    rw [List.all_append, List.all_cons, hr, Bool.true_and, ← List.all_append, he]
    exact h2
  · unfold insL
    rw [closedB_ins hx _ hb, he]
    exact h3
  · unfold insL
    rw [errN_ins hx _ hb, he]
    exact h4
theorem insL_can (C : MCan M) (hk : k < M.funcs.length) (hx : Can x.2.1) : MCan (withL M k (insL (M.funcs.getD k zF).2.2.2 a x)) := by
  have hm := C.funcs _ (getD_mem zF M.funcs k hk)
  refine ⟨C.sigs, fun f hf => ?_, C.globals⟩
  rcases withL_mem hk hf with hf | rfl
  · exact C.funcs f hf
  · refine ⟨hm.1, fun y hy => ?_⟩
    rcases List.mem_append.1 hy with hy | hy
    · exact hm.2 y (List.mem_of_mem_take hy)
    · rcases List.mem_cons.1 hy with rfl | hy
      · exact hx
      · exact hm.2 y (List.mem_of_mem_drop hy)
end
theorem plain_nop : Plain (1, 0, 0) := ⟨rfl, by decide, by decide⟩
theorem plain_dead : Plain (0, 0, 0) := ⟨rfl, by decide, by decide⟩
theorem nop_valid {M : Md} {k a : Nat} (hk : k < M.funcs.length) (hv : validT M = none) (h1 : (M.funcs.getD k zF).2.2.2.length < 200) (ha : a < (M.funcs.getD k zF).2.2.2.length) :
    ∃ o1 t o2, o1.length = a ∧ heightsT M k = .ok (o1 ++ t :: o2) ∧ heightsT (withL M k (insL (M.funcs.getD k zF).2.2.2 a (1, 0, 0))) k = .ok (o1 ++ t :: t :: o2) ∧ validT (withL M k (insL (M.funcs.getD k zF).2.2.2 a (1, 0, 0))) = none := by
  obtain ⟨_, hr, hc, he, hne, g, s, hg, hgo⟩ := valid_body hv hk
  obtain ⟨L, hL⟩ : ∃ L, (M.funcs.getD k zF).2.2.2 = L := ⟨_, rfl⟩
  obtain ⟨E, hE⟩ : ∃ E, envOf M (M.funcs.getD k zF) = E := ⟨_, rfl⟩
  rw [hL] at hr hc he hne hgo h1 ha ⊢
  obtain ⟨c1, c2, c3⟩ := insL_ok ha plain_nop (by decide) hr hc he
  have hsp : L.take a ++ L.drop a = L := List.take_append_drop a L
  rw [← hsp] at hgo
  obtain ⟨o1, s1, o2, g1, g2, g3⟩ := (go_append _ _ _ _ _).1 hgo
  dsimp only at g2 g3
  rw [List.drop_eq_getElem_cons ha] at g2
  obtain ⟨s2, o3, g4, g5, g6⟩ := go_cons.1 g2
  dsimp only at g5 g6
  subst g6
  have hn : see (envOf M (M.funcs.getD k zF)) (1, 0, 0) s1 = .ok s1 := rfl
  have hgo2 : go (envOf M (M.funcs.getD k zF)) (insL L a (1, 0, 0)) (startOf (envOf M (M.funcs.getD k zF))) = some (o1 ++ awake s1 :: awake s1 :: o3, s) := by
    refine (go_append _ _ _ _ _).2 ⟨o1, s1, awake s1 :: awake s1 :: o3, g1, ?_, rfl⟩
    refine go_cons.2 ⟨s1, awake s1 :: o3, hn, ?_, rfl⟩
    rw [List.drop_eq_getElem_cons ha]
    exact g2
  have hlen := insL_len (x := (1, 0, 0)) (Nat.le_of_lt ha)
  obtain ⟨v1, v2⟩ := withL_valid hk hv (by omega) c1 c2 c3 hgo2
  refine ⟨o1, awake s1, o3, ?_, ?_, ?_, v1⟩
  · have := go_len _ _ _ _ g1
    dsimp only at this
    rw [this, List.length_take]
    omega
  · rw [← g3]
    exact heights_ok (by omega) (by omega) hv (by simpa using hg)
  · exact heights_ok (by omega) (by rw [withL_len]; omega) v1 (by simpa using v2)
/-- the two rows of heights, as the law compares them -/
theorem nop_rows {M : Md} {k a : Nat} (hk : k < M.funcs.length) (hv : validT M = none) (h1 : (M.funcs.getD k zF).2.2.2.length < 200) (ha : a < (M.funcs.getD k zF).2.2.2.length) :
    ∃ hs gs, heightsT M k = .ok hs ∧ heightsT (withL M k (insL (M.funcs.getD k zF).2.2.2 a (1, 0, 0))) k = .ok gs ∧ gs.length = hs.length + 1 ∧ a < hs.length ∧ hs.length ≤ 200 ∧ rd gs a = rd hs a ∧ gs.take a ++ gs.drop (a + 1) = hs := by
  obtain ⟨o1, t, o2, e1, e2, e3, _⟩ := nop_valid hk hv h1 ha
  have hlen : (o1 ++ t :: o2).length ≤ 200 := by
    obtain ⟨hb, _, _, _, _, g, s, hg, hgo⟩ := valid_body hv hk
    have hl : g.length = _ := go_len _ _ _ _ hgo
    have hq := heights_ok (f := (k : Int)) (by omega) (by omega) hv (by simpa using hg)
    rw [hq] at e2
    injection e2 with e2
    rw [← e2, hl]
    exact hb
  refine ⟨_, _, e2, e3, by simp; omega, by simp; omega, hlen, ?_, ?_⟩
  · subst e1
    unfold rd
    rw [Int.toNat_natCast, List.getD_eq_getElem?_getD, List.getD_eq_getElem?_getD, List.getElem?_append_right (Nat.le_refl _), List.getElem?_append_right (Nat.le_refl _), Nat.sub_self]
    rfl
  · subst e1
    rw [List.take_left', List.drop_append, List.drop_eq_nil_of_le (by omega), show o1.length + 1 - o1.length = 1 from by omega]
    · rfl
    · rfl
theorem nop_arith {hs gs : List Int} {p c8 : Nat} (h1 : gs.length = hs.length + 1) (h2 : p < hs.length) (h3 : hs.length ≤ 200) (h4 : gs.length ≤ c8) :
    ((0 : Int) ≤ (p : Int) + 1 ∧ (p : Int) + 1 ≤ (gs.length : Int) ∧ (p : Int) + 1 ≤ (c8 : Int) ∧ (p : Int) ≤ (gs.length : Int) ∧ (p : Int) ≤ (c8 : Int))
    ∧ (gs.take p).length = p ∧ ([] : List Int).length + p < 1000 ∧ (gs.take p).length + (gs.length - (p + 1)) < 1000 ∧ ¬ c8 = p + 1 ∧ (gs.drop (p + 1)).length = gs.length - (p + 1) ∧ p + 1 ≤ gs.length ∧ p ≤ gs.length
    ∧ wrap64 ((p : Int) + 1) = (p : Int) + 1 ∧ wrap64 ((hs.length : Int) + 1) = (hs.length : Int) + 1 ∧ IntKind.i64.wrap ((hs.length : Int) + 1) = (hs.length : Int) + 1 ∧ ((gs.length : Int) == (hs.length : Int) + 1) = true ∧ ((gs.length : Int) != (hs.length : Int) + 1) = false := by
  have e1 : (gs.take p).length = p := by rw [List.length_take]; omega
  have e2 : ([] : List Int).length = 0 := rfl
  have e3 : ((gs.length : Int) == (hs.length : Int) + 1) = true := by rw [beq_iff_eq]; omega
  have e4 : wrap64 ((hs.length : Int) + 1) = (hs.length : Int) + 1 := by unfold wrap64; omega
  refine ⟨⟨by omega, by omega, by omega, by omega, by omega⟩, e1, by omega, by omega, by omega, List.length_drop, by omega, by omega, by unfold wrap64; omega, e4, by rw [IntWalk.i64_left]; exact e4, e3, by unfold bne; rw [e3]; rfl⟩
end Go.Proofs.YtjjhhmchomabeaaDoor.Valid
