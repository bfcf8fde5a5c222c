/- Any instruction reckons of any values just what the document's own answer reckons, with the same trap, and takes and brings the same. -/
import Derived.Test.YtobopkkdjkjafaaPwx7
import Derived.Test.YtobopkkdjkjafaaWordLaw
namespace Go.Proofs.Ytobopkkdjkjafaa.Pure
open Go.RowKit Go.Proofs.Ytobopkkdjkjafaa.Pw Go.Proofs.YtobopkkdjkjafaaW.PrintWords Go.Proofs.YtobopkkdjkjafaaW.PrintLast Go.Proofs.Ytobopkkdjkjafaa.Word Go.Proofs.Ytobopkkdjkjafaa.WordLaw
set_option linter.unusedVariables false
set_option linter.unusedSimpArgs false

theorem ref_f {op a b : Int} (hb : I64 b) : oublietteref02_Eval.f op a b = some (reval op a b) := by
  unfold oublietteref02_Eval.f; rw [if_pos ⟨hb.1, hb.2⟩]
theorem WordEvals : oubliettelaw02_WordEvals.Pure := by
  intro a0 a1 a2 w0 w1 w2
  have ha := i64_wf w1
  have hb := i64_wf w2
  have e1 : ∀ x, word_Arity.f x = some (arity x) := fun _ => rfl
  have e2 : ∀ x, oublietteref02_Arity.f x = some (arity x) := fun _ => rfl
  have e3 : ∀ w x, word_Trim.f w x = some (trim w x) := fun _ _ => rfl
  have e4 : ∀ w x, oublietteref02_Trim.f w x = some (trim w x) := fun _ _ => rfl
  unfold oubliettelaw02_WordEvals.f
  rw [examples_f, eval_f hb, ref_f hb, reval_eq a0 a1 a2 ha hb, e1, e2]
  simp only [Option.bind_some, if_true, beq_self_eq_true, e3, e4, trim_true]

end Go.Proofs.Ytobopkkdjkjafaa.Pure
