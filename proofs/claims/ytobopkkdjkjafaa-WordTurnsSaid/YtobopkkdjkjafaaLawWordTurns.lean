/- What is turned to the left is turned back to the right; moved there and back it has lost what went out; bit by bit what is in one, but not in the other one, is found by Xor. -/
import Derived.Test.YtobopkkdjkjafaaRows
import Derived.Test.YtobopkkdjkjafaaWordLaw
import Derived.WalkKit
import Derived.ProofKit
import Derived.OpenShut
import Derived.ChangeOld
import Derived.Below
import Derived.SizedLaws
namespace Go.Proofs.Ytobopkkdjkjafaa.wordTurns
open Go.ChangeShapes Go.WideShapes Go.ChangeAt Go.RowKit Go.Proofs.Ytobopkkdjkjafaa.Pw Go.Proofs.YtobopkkdjkjafaaW.PrintWords Go.Proofs.YtobopkkdjkjafaaW.PrintLast Go.Proofs.Ytobopkkdjkjafaa.Word Go.Proofs.Ytobopkkdjkjafaa.WordLaw
open Go.ChangeMaps (open_string shut_string)
set_option linter.unusedVariables false
set_option linter.unusedSimpArgs false

theorem value_calls (op : Int) (b : Bool) (x y : Int) (w : World) (h0 : 69 ≤ op) (h1 : op ≤ 200) (hy : I64 y) :
    Calls Try.prog 32 #[.int .i64 op, .bool b, .int .i64 x, .int .i64 y] w fun e w' => e = .returned (.int .i64 (val op b x y)) ∧ Below w.heap.size w w' :=
  oubliettelaw02_value.calls 1 op b x y (val op b x y) w (value_f 0 op b x y h0 h1 hy)
theorem examples_calls (w : World) :
    Calls Try.prog 25 #[] w fun e w' => e = .returned (.bool true) ∧ Below w.heap.size w w' :=
  oubliettelaw02_examples.calls true w examples_f
theorem val_I64 (k : Int) (w : Bool) (a b : Int) (h : k = 106 ∨ k = 113 ∨ k = 114 ∨ k = 115 ∨ k = 116 ∨ k = 118 ∨ k = 119 ∨ k = 120) : I64 (val k w a b) := by
  cases w
  · have := val_I k false a b (by omega) (by omega) rfl
    unfold I64; omega
  · exact w_I k a b h
theorem chain {w0 w1 w2 : World} (h : Below w0.heap.size w0 w1) (k : Below w1.heap.size w1 w2) : Below w0.heap.size w0 w2 := h.trans (k.mono h.size)

set_option maxHeartbeats 4000000 in
theorem walk (a0 : Bool) (a1 a2 : Int) (w : World) (w1 : (Lit.int .i64 a1).wf = true) (w2 : (Lit.int .i64 a2).wf = true) :
    Calls Try.prog 13 #[.bool a0, .int .i64 a1, .int .i64 a2] w fun e w' => e = .returned (.bool true) ∧ Below w.heap.size w w' := by
  have ha := Lib.hid (i64_wf w1)
  have hb := Lib.hid (i64_wf w2)
  clear w1 w2
  have h1 : (val 120 a0 (val 119 a0 a1 a2) a2 == trim a0 a1) = true := by rw [turns_rot a0 a1 a2 ha.out]; simp
  have h2 : (val 116 a0 (val 118 a0 (val 116 a0 a1 a2) a2) a2 == val 116 a0 a1 a2) = true := by rw [turns_shift a0 a1 a2]; simp
  have h3 : (val 115 a0 (val 113 a0 a1 a2) (val 114 a0 a1 a2) == val 115 a0 a1 a2) = true := by rw [turns_xor a0 a1 a2]; simp
  have h4 : (val 115 a0 (val 115 a0 a1 a2) a2 == trim a0 a1) = true := by rw [turns_back a0 a1 a2 ha.out]; simp
  have h5 : (val 106 a0 (val 113 a0 a1 a2) (val 114 a0 a1 a2) == val 106 a0 a1 a2) = true := by rw [turns_add a0 a1 a2]; simp
  have hB := Lib.hid (Below.refl w.heap.size w)
  go_enter Try.func13, Try.ntmps13
  go_wp2_with (first
    | (go_at_call 25; refine (examples_calls _).mono ?_; rintro e w3 ⟨rfl, hq⟩; have hB2 := Lib.hid (chain hB.out hq); clear hB hq; have hB := hB2; clear hB2)
    | (go_at_call 30; refine (trim_calls _ _ _).mono ?_; rintro e w3 ⟨rfl, rfl⟩)
    | (go_at_call 32; refine (value_calls _ _ _ _ _ (by decide) (by decide) (by first | exact hb.out | exact val_I64 _ _ _ _ (by decide))).mono ?_; rintro e w3 ⟨rfl, hq⟩; have hB2 := Lib.hid (chain hB.out hq); clear hB hq; have hB := hB2; clear hB2))
  go_ret
  exact ⟨rfl, hB.out⟩

theorem own : ownKnob Try.prog.godebug = none := by kernel_rfl
set_option maxRecDepth 100000 in
theorem lifted (os : Os) (started : os.Started) (H : Type) (enc : TypeId × Value → H) :
    ReturnsInHanded {} Try.checked os 13 .any (Rows.wordTurnsSpec.pre6 enc Try.prog Try.f13 Rows.wordTurnsRow.domain false) (Rows.wordTurnsSpec.post enc Try.prog Try.f13 false true false false) := by
  refine returnsInHanded_of_change_sized (C := Try.checked) own started (by kernel_rfl) Try.func13
    (ChangeSpec.witness6 (enc := enc) (C := Try.checked) false ⟨#[], #[.bool false, .int .i64 0, .int .i64 0], []⟩ 8 (by kernel_rfl) (by kernel_rfl) (by kernel_rfl) (by kernel_rfl)) ?_
  intro W base args ds gs before hval0 hW hcnd hsz0 _
  have hval : ∀ (j : Nat) t v, Try.f13.params[j]? = some t → args[j]? = some v → Value.okWide Try.prog W .any base t v := hval0
  have hW' := hW
  obtain ⟨p, q, hA0, hV, rfl, hfz, hnd⟩ := hW
  have hA : DataW.TrodAll enc Try.prog W 0 (fun _ => true) true Try.f13.params.toList args.toList ds p := hA0
  rw [Try.params13] at hA hval
  obtain ⟨v0, vs0, d0, ds0, p0, q0, hargs, rfl, rfl, h0, r0⟩ := trodAll_cons hA
  obtain ⟨v1, vs1, d1, ds1, p1, q1, rfl, rfl, rfl, h1, r1⟩ := trodAll_cons r0
  obtain ⟨v2, vs2, d2, ds2, p2, q2, rfl, rfl, rfl, h2, r2⟩ := trodAll_cons r1
  obtain ⟨rfl, rfl, rfl⟩ := trodAll_nil r2
  obtain rfl : args = #[v0, v1, v2] := by cases args; simp_all
  obtain ⟨rfl, rfl⟩ := trodVars_none hV
  obtain ⟨a0, rfl, rfl, rfl⟩ := open_bool Try.underlying4 (hval 0 4 v0 rfl rfl) h0
  obtain ⟨a1, rfl, rfl, rfl, w1⟩ := open_int Try.underlying3 (hval 1 3 v1 rfl rfl) h1
  obtain ⟨a2, rfl, rfl, rfl, w2⟩ := open_int Try.underlying3 (hval 2 3 v2 rfl rfl) h2
  clear hA0 hval0 hsz0
  refine (walk a0 a1 a2 W w1 w2).mono fun e W' ⟨he, bel⟩ => ?_
  subst he
  exact ⟨_, rfl, _, _, _, [], _, [], hW', trodAll_mk1 (shut_bool Try.underlying4 _), (trodAll_cons_mk (shut_bool Try.underlying4 _) (trodAll_cons_mk (shut_int Try.underlying3 w1) (trodAll_cons_mk (shut_int Try.underlying3 w2) trodAll_mk0))), rfl, bel.frame _, fun h => by cases h⟩
theorem over : Rows.wordTurnsRow.holds Try.pinned (OpenSpec.ofChange Rows.wordTurnsSpec) :=
  OpenClaim.holds_of_wide 13 Try.f13 rfl rfl rfl rfl rfl rfl rfl ⟨rfl, rfl, rfl, rfl, rfl⟩ rfl rfl rfl rfl rfl (by kernel_rfl) Try.func13 (by kernel_rfl)
    (of_decide_eq_true (by kernel_rfl)) (by unfold Func.isWrapper; first | (rw [if_pos (by decide +kernel)]; kernel_rfl) | (rw [if_neg (by decide +kernel)]; exact ⟨rfl, rfl⟩))
    (fun os started H enc _ => lifted os started H enc)
theorem proved : Rows.WordTurnsSaid := over
#print axioms proved
end Go.Proofs.Ytobopkkdjkjafaa.wordTurns
namespace Go.Proofs.Ytobopkkdjkjafaa
/-- The row, under a short name, for the claim. -/
theorem wordTurns_holds : Rows.WordTurnsSaid := wordTurns.proved
end Go.Proofs.Ytobopkkdjkjafaa
