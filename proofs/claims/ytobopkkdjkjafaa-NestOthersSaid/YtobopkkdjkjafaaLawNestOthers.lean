/- The row NestOthers of package nest. -/
import Derived.Test.YtobopkkdjkjafaaPureNestOthers
import Derived.Test.YtobopkkdjkjafaaNestRowSt
import Derived.Test.YtobopkkdjkjafaaNestRow
namespace Go.Proofs.Ytobopkkdjkjafaa.nestOthers
open Go.ChangeShapes Go.WideShapes Go.ChangeAt Go.RowKit Go.Proofs.YtobopkkdjkjafaaW.PrintWords Go.Proofs.YtobopkkdjkjafaaW.PrintLast Go.Proofs.Ytobopkkdjkjafaa.Nest Go.Proofs.Ytobopkkdjkjafaa.NestRow
set_option linter.unusedVariables false
set_option linter.unusedSimpArgs false
theorem walk (A0 : Option Addr) (c0 : Nat) (l0 : List T3) (a0 a1 a2 : Int) (W : World) (hC0 : Kd.C k3 W A0 l0.length l0) (hc0 : l0.length ≤ c0) : Calls Try.prog 5 #[.slice A0 l0.length c0, .agg #[.int .i64 a0, .int .i64 a1, .int .i64 a2]] W fun e w' => e = .returned (.bool true) ∧ Below W.heap.size W w' := by
  obtain ⟨k, hk⟩ := NestEqO.PureOthers l0 a0 a1 a2
  have h := Po.oubliettelaw06_NestOthers.calls k A0 c0 (l0.map NestEqO.to37) a0 a1 a2 true W (NestEqO.to37_C hC0) (by rw [List.length_map]; exact hc0) hk
  rw [List.length_map] at h
  exact h
theorem own : ownKnob Try.prog.godebug = none := by kernel_rfl
set_option maxRecDepth 100000 in
theorem lifted (os : Os) (started : os.Started) (H : Type) (enc : TypeId × Value → H) :
    ReturnsInHanded {} Try.checked os 5 .any (Rows.nestOthersSpec.pre6 enc Try.prog Try.f5 Rows.nestOthersRow.domain false) (Rows.nestOthersSpec.post enc Try.prog Try.f5 false true false false) := by
  refine returnsInHanded_of_change_sized (C := Try.checked) own started (by kernel_rfl) Try.func5
    (ChangeSpec.witness6 (enc := enc) (C := Try.checked) false ⟨#[], #[.slice none 0 0, .agg #[.int .i64 0, .int .i64 0, .int .i64 0]], []⟩ 8 (by kernel_rfl) (by kernel_rfl) (by kernel_rfl) (by kernel_rfl)) ?_
  intro W base args ds gs before hval0 hW hcnd hsz0 _
  have hval : ∀ (j : Nat) t v, Try.f5.params[j]? = some t → args[j]? = some v → Value.okWide Try.prog W .any base t v := hval0
  have hW' := hW
  obtain ⟨p, q, hA0, hV, rfl, hfz, hnd⟩ := hW
  have hA : DataW.TrodAll enc Try.prog W 0 (fun _ => true) true Try.f5.params.toList args.toList ds p := hA0
  rw [Try.params5] at hA hval
  obtain ⟨v0, vs0, d0, ds0, p0, q0, hargs, rfl, rfl, h0, r0⟩ := trodAll_cons hA
  obtain ⟨v1, vs1, d1, ds1, p1, q1, rfl, rfl, rfl, h1, r1⟩ := trodAll_cons r0
  obtain ⟨rfl, rfl, rfl⟩ := trodAll_nil r1
  obtain rfl : args = #[v0, v1] := by cases args; simp_all
  obtain ⟨rfl, rfl⟩ := trodVars_none hV
  obtain ⟨A0, len0, cap0, rfl⟩ := okWide_slice Try.underlying22 (hval 0 22 v0 rfl rfl)
  obtain ⟨l0, rfl, hc0, hC0⟩ := open_in h0
  obtain ⟨cs1, rfl, _⟩ := okWide_struct Try.underlying37 (hval 1 37 v1 rfl rfl)
  obtain ⟨a0, a1, a2, rfl⟩ := open_st h1
  clear hA0 hval0 hsz0
  refine (walk A0 cap0 l0 a0 a1 a2 W hC0 hc0).mono fun e W' ⟨he, bel⟩ => ?_
  subst he
  exact ⟨_, rfl, _, _, _, [], _, [], hW', trodAll_mk1 (shut_bool Try.underlying4 _), (trodAll_cons_mk (back_in h0 bel) (trodAll_cons_mk (back_st h1 bel) trodAll_mk0)), rfl, bel.frame _, fun h => by cases h⟩
theorem over : Rows.nestOthersRow.holds Try.pinned (OpenSpec.ofChange Rows.nestOthersSpec) :=
  OpenClaim.holds_of_wide 5 Try.f5 rfl rfl rfl rfl rfl rfl rfl ⟨rfl, rfl, rfl, rfl, rfl⟩ rfl rfl rfl rfl rfl (by kernel_rfl) Try.func5 (by kernel_rfl)
    (of_decide_eq_true (by kernel_rfl)) (by unfold Func.isWrapper; first | (rw [if_pos (by decide +kernel)]; kernel_rfl) | (rw [if_neg (by decide +kernel)]; exact ⟨rfl, rfl⟩))
    (fun os started H enc _ => lifted os started H enc)
theorem proved : Rows.NestOthersSaid := over
#print axioms proved
end Go.Proofs.Ytobopkkdjkjafaa.nestOthers
namespace Go.Proofs.Ytobopkkdjkjafaa
/-- The row, under a short name, for the claim. -/
theorem nestOthers_holds : Rows.NestOthersSaid := nestOthers.proved
end Go.Proofs.Ytobopkkdjkjafaa

