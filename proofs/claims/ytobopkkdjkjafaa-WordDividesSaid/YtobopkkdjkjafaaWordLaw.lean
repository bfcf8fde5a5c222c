/- What the printed functions of the statements on package word come to, in plain words. -/
import Derived.Test.YtobopkkdjkjafaaPwx8
import Derived.Test.YtobopkkdjkjafaaPwx3
import Derived.Test.YtobopkkdjkjafaaWordEq
namespace Go.Proofs.Ytobopkkdjkjafaa.WordLaw
open Go.RowKit Go.Proofs.Ytobopkkdjkjafaa.Pw Go.Proofs.YtobopkkdjkjafaaW.PrintWords Go.Proofs.YtobopkkdjkjafaaW.PrintLast
set_option linter.unusedVariables false
set_option linter.unusedSimpArgs false
open Go.Proofs.Ytobopkkdjkjafaa.Word

theorem eval_f {op a b : Int} (hb : I64 b) : word_Eval.f op a b = some (eval op a b) := by
  unfold word_Eval.f; rw [if_pos ⟨hb.1, hb.2⟩]
theorem wrap_in {z : Int} (h : -9223372036854775808 ≤ z ∧ z ≤ 9223372036854775807) : wrap64 z = z := by unfold wrap64; omega

theorem of_f (k : Nat) (op : Int) (w : Bool) (a b : Int) (h0 : 69 ≤ op) (h1 : op ≤ 200) (hb : I64 b) : oubliettelaw02_of.f (k + 1) op w a b = some (eval (opw op w) a b) := by
  cases w
  · simp only [oubliettelaw02_of.f, oubliettelaw02_of.j0, opw, Bool.false_eq_true, if_false]
    rw [eval_f hb]; rfl
  · simp only [oubliettelaw02_of.f, oubliettelaw02_of.j0, opw, if_true]
    by_cases h : 106 ≤ op
    · have e : decide (op ≥ 106) = true := decide_eq_true h
      rw [e, if_pos rfl, if_pos h, wrap_in (z := op - 106) (by omega), wrap_in (by omega), eval_f hb]; rfl
    · have e : decide (op ≥ 106) = false := decide_eq_false h
      rw [e, if_neg (by simp), if_neg h, wrap_in (z := op - 69) (by omega), wrap_in (by omega), eval_f hb]; rfl
theorem value_f (k : Nat) (op : Int) (w : Bool) (a b : Int) (h0 : 69 ≤ op) (h1 : op ≤ 200) (hb : I64 b) : oubliettelaw02_value.f (k + 1) op w a b = some (val op w a b) := by
  unfold oubliettelaw02_value.f
  rw [of_f k op w a b h0 h1 hb]; rfl
theorem I_small {z : Int} (h : -100 ≤ z ∧ z ≤ 9223372036854775807) : I64 z := by unfold I64; omega

theorem examples_f : oubliettelaw02_examples.f = some true := by
  unfold oubliettelaw02_examples.f
  have I1 : I64 1 := I_small (by decide)
  have I0 : I64 0 := I_small (by decide)
  have If : I64 4294967295 := I_small (by decide)
  have I65 : I64 65 := I_small (by decide)
  rw [eval_f I1, eval_f I0, eval_f If, eval_f I65, eval_f I1]
  have e1 : eval 107 0 1 = (4294967295, 0) := by decide +kernel
  have e2 : eval 72 4294967295 0 = (1, 0) := by decide +kernel
  have e3 : eval 109 2147483648 4294967295 = (0, 3) := by decide +kernel
  have e4 : eval 135 (-8) 65 = (-4, 0) := by decide +kernel
  have e5 : eval 119 2147483649 1 = (3, 0) := by decide +kernel
  simp only [e1, e2, e3, e4, e5, Option.bind_some]
  rfl

end Go.Proofs.Ytobopkkdjkjafaa.WordLaw
