/- One function more: plain. -/
import Derived.Test.YtjjhhmchomabeaaDoorValGo
namespace Go.Proofs.YtjjhhmchomabeaaDoor.Valid
open Go.RowKit Go.Proofs.YtjjhhmchomabeaaDoorW.PrintWords Go.Proofs.YtjjhhmchomabeaaDoorW.PrintLast Go.Proofs.YtjjhhmchomabeaaDoor.Mem Go.Proofs.YtjjhhmchomabeaaDoor.Nest
set_option linter.unusedVariables false
set_option linter.unusedSimpArgs false

/-! one function more -/
def moreM (M : Md) (l : List T3) : Md := { M with sigs := M.sigs ++ [([], [])], funcs := M.funcs ++ [((M.sigs.length : Int), false, [], l)] }
section
variable {M : Md} {l : List T3}
theorem more_get (j : Nat) (hj : j < M.funcs.length) : (moreM M l).funcs.getD j zF = M.funcs.getD j zF := by
  show (M.funcs ++ [_]).getD j zF = _
  rw [List.getD_eq_getElem?_getD, List.getElem?_append_left hj, List.getD_eq_getElem?_getD]
theorem more_end : (moreM M l).funcs.getD M.funcs.length zF = ((M.sigs.length : Int), false, [], l) := by
  show (M.funcs ++ [_]).getD M.funcs.length zF = _
  rw [List.getD_eq_getElem?_getD, List.getElem?_append_right (Nat.le_refl _), Nat.sub_self]
  rfl
theorem more_sig (j : Nat) (hj : j < M.sigs.length) : (moreM M l).sigs.getD j zS = M.sigs.getD j zS := by
  show (M.sigs ++ [_]).getD j zS = _
  rw [List.getD_eq_getElem?_getD, List.getElem?_append_left hj, List.getD_eq_getElem?_getD]
theorem more_len : (moreM M l).funcs.length = M.funcs.length + 1 := by
  show (M.funcs ++ [_]).length = _
  rw [List.length_append]
  rfl
theorem more_callee {n : Int} (h : (callee M n).2.2.2 = true) : callee (moreM M l) n = callee M n := by
  have hc : ¬ ((calleeN M n).1 < 0 ∨ (M.sigs.length : Int) ≤ (calleeN M n).1) := by
    intro hc
    rw [callee_no hc] at h
    cases h
  have hN : calleeN (moreM M l) n = calleeN M n := by
    by_cases h1 : n < 0 ∨ (M.imports.length : Int) + M.funcs.length ≤ n
    · exfalso
      have : (calleeN M n).1 = -1 := by unfold calleeN; rw [if_pos h1]
      omega
    · unfold calleeN
      rw [if_neg h1]
      show (if n < 0 ∨ (M.imports.length : Int) + ((moreM M l).funcs.length : Int) ≤ n then _ else if n < (M.imports.length : Int) then (rd M.imports n, true, false) else (((moreM M l).funcs.getD (n - (M.imports.length : Int)).toNat zF).1, false, ((moreM M l).funcs.getD (n - (M.imports.length : Int)).toNat zF).2.1)) = _
      rw [more_len, if_neg (by omega)]
      by_cases h2 : n < (M.imports.length : Int)
      · rw [if_pos h2, if_pos h2]
      · rw [if_neg h2, if_neg h2, more_get _ (by omega)]
  have hs : ((moreM M l).sigs.length : Int) = M.sigs.length + 1 := by
    show ((M.sigs ++ [_]).length : Int) = _
    rw [List.length_append]
    rfl
  rw [callee_yes hc, callee_yes (by rw [hN, hs]; omega), hN, more_sig _ (by omega)]
theorem more_more (hs : ∀ f ∈ M.funcs, 0 ≤ f.1 ∧ f.1 < M.sigs.length) (j : Nat) (hj : j < M.funcs.length) : More (envOf M (M.funcs.getD j zF)) (envOf (moreM M l) ((moreM M l).funcs.getD j zF)) := by
  rw [more_get j hj]
  have hf := hs _ (getD_mem zF M.funcs j hj)
  refine ⟨fun h => h, ?_, ?_, rfl, rfl, rfl, fun n h => ?_⟩
  · show ((moreM M l).sigs.getD (M.funcs.getD j zF).1.toNat zS).1 ++ _ = _
    rw [more_sig _ (by omega)]
    rfl
  · show firstL ((moreM M l).sigs.getD (M.funcs.getD j zF).1.toNat zS).2 = _
    rw [more_sig _ (by omega)]
    rfl
  · simp only [Bool.and_eq_true] at h
    have e : callee (moreM M l) n = callee M n := more_callee (l := l) h.1
    have e2 : callee (envOf (moreM M l) (M.funcs.getD j zF)).M n = callee (envOf M (M.funcs.getD j zF)).M n := e
    rw [e2]
    exact ⟨by simp only [Bool.and_eq_true]; exact h, rfl⟩
theorem later_sigs (C : MCan M) (hv : validT M = none) : ∀ f ∈ M.funcs, 0 ≤ f.1 ∧ f.1 < M.sigs.length := by
  intro f hf
  obtain ⟨k, hk, he⟩ := List.getElem_of_mem hf
  obtain ⟨F, R⟩ := valid_none hv
  have O := F.fnok C (refs_sg R) k hk
  have e : M.funcs.getD k zF = f := by rw [List.getD_eq_getElem?_getD, List.getElem?_eq_getElem hk, he]; rfl
  rw [e] at O
  exact O.sig
theorem later_fit (hv : validT M = none) (h1 : M.funcs.length < 8) (h2 : M.sigs.length < 16) (hl1 : l.length ≤ 200) (hl2 : l.all rightX = true) (hl3 : closedB l = true) : Fit (moreM M l) ∧ refsM (moreM M l) = true := by
  obtain ⟨F, R⟩ := valid_none hv
  have hlim := (limM_iff M).1 F.lim
  have harg := F.argAll
  have hsl : (moreM M l).sigs.length = M.sigs.length + 1 := by
    show (M.sigs ++ [_]).length = _
    rw [List.length_append]
    rfl
  refine ⟨⟨(limM_iff _).2 ⟨?_, fun s hs => ?_, fun f hf => ?_, hlim.2.2.2⟩, ?_⟩, ?_⟩
  · rw [hsl, more_len]
    refine ⟨by omega, hlim.1.2.1, by omega, hlim.1.2.2.2⟩
  · rcases List.mem_append.1 (show s ∈ M.sigs ++ [_] from hs) with hs | hs
    · exact hlim.2.1 s hs
    · rw [List.mem_singleton.1 hs]
      exact Nat.zero_le _
  · rcases List.mem_append.1 (show f ∈ M.funcs ++ [_] from hf) with hf | hf
    · exact hlim.2.2.1 f hf
    · rw [List.mem_singleton.1 hf]
      exact ⟨Nat.zero_le _, hl1⟩
  · unfold argM
    simp only [Bool.and_eq_true, List.all_eq_true]
    refine ⟨⟨⟨⟨fun s hs => ?_, harg.2.1⟩, fun f hf => ?_⟩, harg.2.2.2.1⟩, harg.2.2.2.2⟩
    · rcases List.mem_append.1 (show s ∈ M.sigs ++ [_] from hs) with hs | hs
      · exact harg.1 s hs
      · rw [List.mem_singleton.1 hs]
        decide
    · rcases List.mem_append.1 (show f ∈ M.funcs ++ [_] from hf) with hf | hf
      · exact harg.2.2.1 f hf
      · rw [List.mem_singleton.1 hf]
        unfold funcB wordB
        simp only [Bool.and_eq_true, decide_eq_true_eq]
        refine ⟨⟨⟨⟨by omega, by omega⟩, rfl⟩, hl2⟩, hl3⟩
  · unfold refsM at R ⊢
    simp only [Bool.and_eq_true, List.all_eq_true] at R ⊢
    refine ⟨⟨fun k hk => ?_, fun f hf => ?_⟩, R.2⟩
    · have := R.1.1 k hk
      unfold impB at this ⊢
      rw [hsl]
      simp only [decide_eq_true_eq] at this ⊢
      omega
    · unfold sgB
      rw [hsl]
      rcases List.mem_append.1 (show f ∈ M.funcs ++ [_] from hf) with hf | hf
      · have := R.1.2 f hf
        unfold sgB at this
        simp only [decide_eq_true_eq] at this ⊢
        omega
      · rw [List.mem_singleton.1 hf]
        simp only [decide_eq_true_eq]
        omega
theorem later_ones (C : MCan M) (hv : validT M = none) (j : Nat) (hj : j < M.funcs.length) {out : List Int} (ho : oneT M j = .ok out) : oneT (moreM M l) j = .ok out := by
  obtain ⟨h1, s, h2⟩ := oneT_iff.1 ho
  have hm := more_more (l := l) (later_sigs C hv) j hj
  refine oneT_iff.2 ⟨?_, s, ?_⟩
  · rw [more_get j hj]
    exact h1
  · rw [start_more hm]
    have e : ((moreM M l).funcs.getD j zF).2.2.2 = (M.funcs.getD j zF).2.2.2 := by rw [more_get j hj]
    rw [e]
    exact go_more hm _ _ _ h2
theorem more_envsig : (moreM M l).sigs.getD ((M.sigs.length : Int)).toNat zS = ([], []) := by
  show (M.sigs ++ [_]).getD _ zS = _
  rw [Int.toNat_natCast, List.getD_eq_getElem?_getD, List.getElem?_append_right (Nat.le_refl _), Nat.sub_self]
  rfl
theorem later_env : envOf (moreM M l) ((moreM M l).funcs.getD M.funcs.length zF) = ⟨moreM M l, false, [], -1⟩ := by
  rw [more_end]
  unfold envOf
  dsimp only
  rw [more_envsig]
  rfl
theorem later_valid (C : MCan M) (hv : validT M = none) (h1 : M.funcs.length < 8) (h2 : M.sigs.length < 16) : validT (moreM M [(11, 0, 0)]) = none := by
  obtain ⟨F, R⟩ := later_fit (l := [(11, 0, 0)]) hv h1 h2 (by decide) (by decide) (by decide)
  refine valid_iff.2 ⟨F, R, fun j hj => ?_⟩
  rw [more_len] at hj
  rcases Nat.lt_or_ge j M.funcs.length with hlt | hge
  · obtain ⟨out, ho⟩ := (valid_iff.1 hv).2.2 j hlt
    exact ⟨out, later_ones C hv j hlt ho⟩
  · obtain rfl : j = M.funcs.length := by omega
    refine ⟨[0], oneT_iff.2 ⟨?_, ⟨[], []⟩, ?_⟩⟩
    · rw [more_end]
      exact (by decide : (wkAll [(11, 0, 0)]).2.1 = 0)
    · rw [later_env, more_end]
      rfl
theorem later_heights (C : MCan M) (hv : validT M = none) (h1 : M.funcs.length < 8) (h2 : M.sigs.length < 16) (f : Int) {out : List Int} (h : heightsT M f = .ok out) : heightsT (moreM M [(11, 0, 0)]) f = .ok out := by
  unfold heightsT at h ⊢
  rw [hv] at h
  rw [later_valid C hv h1 h2]
  dsimp only at h ⊢
  split at h
  · cases h
  · rename_i hf
    rw [more_len, if_neg (by omega)]
    exact later_ones C hv _ (by omega) h
theorem later_bad (C : MCan M) (hv : validT M = none) (h1 : M.funcs.length < 8) (h2 : M.sigs.length < 16) : validT (moreM M [(66, 0, 0), (11, 0, 0)]) = some (3, 1000 * (M.funcs.length : Int) + 1) := by
  obtain ⟨F, R⟩ := later_fit (l := [(66, 0, 0), (11, 0, 0)]) hv h1 h2 (by decide) (by decide) (by decide)
  unfold validT
  rw [fits_zero.2 F, if_neg (by decide), if_neg (by decide), if_neg (by rw [R]; decide)]
  refine firstBad_at _ 0 M.funcs.length (fun j _ hj => ?_) (by rw [more_len]; omega) ?_
  · obtain ⟨out, ho⟩ := (valid_iff.1 hv).2.2 j (by omega)
    exact ⟨out, later_ones C hv j (by omega) ho⟩
  · rw [Nat.zero_add]
    unfold oneT
    dsimp only
    rw [later_env, more_end]
    rw [if_neg (show ¬ ((wkAll [(66, 0, 0), (11, 0, 0)]).2.1 ≠ 0) by decide)]
    rfl
end
end Go.Proofs.YtjjhhmchomabeaaDoor.Valid
