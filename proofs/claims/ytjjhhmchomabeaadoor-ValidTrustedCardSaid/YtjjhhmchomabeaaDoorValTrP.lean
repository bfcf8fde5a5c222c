/- All functions trusted: plain. -/
import Derived.Test.YtjjhhmchomabeaaDoorValGo
namespace Go.Proofs.YtjjhhmchomabeaaDoor.Valid
open Go.RowKit Go.Proofs.YtjjhhmchomabeaaDoorW.PrintWords Go.Proofs.YtjjhhmchomabeaaDoorW.PrintLast Go.Proofs.YtjjhhmchomabeaaDoor.Mem Go.Proofs.YtjjhhmchomabeaaDoor.Nest
set_option linter.unusedVariables false
set_option linter.unusedSimpArgs false

/-! trusted -/
theorem trusted_no {M : Md} (hv : validT M = none) {k : Nat} (hk : k < M.funcs.length) (ht : (M.funcs.getD k zF).2.1 = false) {x : T3} (hx : x ∈ (M.funcs.getD k zF).2.2.2) : (x.1 == 241) = false ∧ ((x.1 == 16) && (callee M x.2.1).2.2.1) = false := by
  obtain ⟨s1, s2, hs⟩ := see_at hv hk hx
  constructor
  · rw [beq_eq_false_iff_ne]
    intro h
    have h2 := see_declass hs h
    have ht2 : (envOf M (M.funcs.getD k zF)).tr = false := ht
    rw [ht2] at h2
    cases h2
  · by_cases h : x.1 = 16
    · have h2 := see_call hs h
      have ht2 : (envOf M (M.funcs.getD k zF)).tr = false := ht
      rw [ht2] at h2
      have h3 : (envOf M (M.funcs.getD k zF)).M = M := rfl
      rw [h3] at h2
      simp only [Bool.false_or, Bool.and_eq_true, Bool.not_eq_true'] at h2
      rw [h2.2, Bool.and_false]
    · rw [beq_false_of_ne h, Bool.false_and]
/-- a module whose functions, the first n of them, are trusted -/
def trF (f : Fn) : Fn := (f.1, true, f.2.2.1, f.2.2.2)
def trustN (M : Md) (n : Nat) : Md := { M with funcs := (M.funcs.take n).map trF ++ M.funcs.drop n }
def trustM (M : Md) : Md := { M with funcs := M.funcs.map trF }
theorem trust_get {M : Md} (j : Nat) (hj : j < M.funcs.length) : (trustM M).funcs.getD j zF = trF (M.funcs.getD j zF) := by
  show (M.funcs.map trF).getD j zF = _
  rw [List.getD_eq_getElem?_getD, List.getElem?_map, List.getD_eq_getElem?_getD, List.getElem?_eq_getElem hj]
  rfl
theorem trust_callee {M : Md} (n : Int) : (callee (trustM M) n).1 = (callee M n).1 ∧ (callee (trustM M) n).2.2.2 = (callee M n).2.2.2 := by
  have hl : (trustM M).funcs.length = M.funcs.length := List.length_map ..
  have hi : (trustM M).imports = M.imports := rfl
  have hs : (trustM M).sigs = M.sigs := rfl
  have e : (calleeN (trustM M) n).1 = (calleeN M n).1 := by
    unfold calleeN
    rw [hl, hi]
    by_cases h1 : n < 0 ∨ (M.imports.length : Int) + M.funcs.length ≤ n
    · rw [if_pos h1, if_pos h1]
    · rw [if_neg h1, if_neg h1]
      by_cases h2 : n < M.imports.length
      · rw [if_pos h2, if_pos h2]
      · rw [if_neg h2, if_neg h2]
        have hj : (n - (M.imports.length : Int)).toNat < M.funcs.length := by omega
        dsimp only
        rw [trust_get _ hj]
        rfl
  unfold callee
  rw [e, hs]
  by_cases h : (calleeN M n).1 < 0 ∨ (M.sigs.length : Int) ≤ (calleeN M n).1
  · rw [if_pos h, if_pos h]
    exact ⟨rfl, rfl⟩
  · rw [if_neg h, if_neg h]
    exact ⟨rfl, rfl⟩
theorem trust_more {M : Md} (j : Nat) (hj : j < M.funcs.length) : More (envOf M (M.funcs.getD j zF)) (envOf (trustM M) ((trustM M).funcs.getD j zF)) := by
  rw [trust_get j hj]
  refine ⟨fun _ => rfl, rfl, rfl, rfl, rfl, rfl, fun n h => ?_⟩
  have h2 := trust_callee (M := M) n
  refine ⟨?_, h2.1⟩
  show ((callee (trustM M) n).2.2.2 && (true || _)) = true
  rw [h2.2, Bool.true_or, Bool.and_true]
  simp only [Bool.and_eq_true] at h
  exact h.1
theorem trust_valid {M : Md} (hv : validT M = none) : validT (trustM M) = none := by
  obtain ⟨F, R, O⟩ := valid_iff.1 hv
  have hl : (trustM M).funcs.length = M.funcs.length := List.length_map ..
  have hlim := (limM_iff M).1 F.lim
  have harg := F.argAll
  refine valid_iff.2 ⟨⟨(limM_iff _).2 ⟨by rw [hl]; exact hlim.1, hlim.2.1, fun f hf => ?_, hlim.2.2.2⟩, ?_⟩, ?_, fun j hj => ?_⟩
  · obtain ⟨g, hg, rfl⟩ := List.mem_map.1 (show f ∈ M.funcs.map trF from hf)
    exact hlim.2.2.1 g hg
  · unfold argM
    simp only [Bool.and_eq_true, List.all_eq_true]
    refine ⟨⟨⟨⟨harg.1, harg.2.1⟩, fun f hf => ?_⟩, harg.2.2.2.1⟩, harg.2.2.2.2⟩
    obtain ⟨g, hg, rfl⟩ := List.mem_map.1 (show f ∈ M.funcs.map trF from hf)
    exact harg.2.2.1 g hg
  · unfold refsM at R ⊢
    simp only [Bool.and_eq_true, List.all_eq_true] at R ⊢
    refine ⟨⟨R.1.1, fun f hf => ?_⟩, R.2⟩
    obtain ⟨g, hg, rfl⟩ := List.mem_map.1 (show f ∈ M.funcs.map trF from hf)
    exact R.1.2 g hg
  · rw [hl] at hj
    obtain ⟨out, ho⟩ := O j hj
    obtain ⟨h1, s, h2⟩ := oneT_iff.1 ho
    have e : ((trustM M).funcs.getD j zF).2.2.2 = (M.funcs.getD j zF).2.2.2 := by rw [trust_get j hj]; rfl
    refine ⟨out, oneT_iff.2 ⟨by rw [e]; exact h1, s, ?_⟩⟩
    rw [e, start_more (trust_more j hj)]
    exact go_more (trust_more j hj) _ _ _ h2
/-- the first n functions are trusted -/
def trFirst (n : Nat) (l : List Fn) : List Fn := (l.take n).map trF ++ l.drop n
theorem trFirst_len (n : Nat) (l : List Fn) : (trFirst n l).length = l.length := by
  unfold trFirst
  rw [List.length_append, List.length_map, ← List.length_append, List.take_append_drop]
theorem trFirst_set {n : Nat} {l : List Fn} (h : n < l.length) : (trFirst n l).set n (((trFirst n l).getD n zF).1, true, ((trFirst n l).getD n zF).2.2.1, ((trFirst n l).getD n zF).2.2.2) = trFirst (n + 1) l := by
  have h1 : ((l.take n).map trF).length = n := by rw [List.length_map, List.length_take]; omega
  have h2 : (trFirst n l).getD n zF = l[n] := by
    unfold trFirst
    rw [List.getD_eq_getElem?_getD, List.getElem?_append_right (by omega), h1, Nat.sub_self, List.drop_eq_getElem_cons h]
    rfl
  rw [h2]
  unfold trFirst
  rw [List.set_append_right _ _ (by omega), h1, Nat.sub_self, List.drop_eq_getElem_cons h, List.set_cons_zero, List.take_succ_eq_append_getElem h, List.map_append, List.append_assoc]
  rfl
theorem trFirst_zero (l : List Fn) : trFirst 0 l = l := by simp [trFirst]
theorem trFirst_all (l : List Fn) : trFirst l.length l = l.map trF := by simp [trFirst]
theorem trust_can {M : Md} (C : MCan M) : MCan (trustM M) := ⟨C.sigs, fun f hf => by
  obtain ⟨g, hg, rfl⟩ := List.mem_map.1 (show f ∈ M.funcs.map trF from hf)
  exact C.funcs g hg, C.globals⟩
end Go.Proofs.YtjjhhmchomabeaaDoor.Valid
