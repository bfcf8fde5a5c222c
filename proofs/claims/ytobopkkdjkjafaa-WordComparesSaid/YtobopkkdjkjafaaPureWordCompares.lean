/- Of two values just one is less, or they are the same, with and without signs; what is not less is greater or the same; by nought it is asked whether a value is nought. -/
import Derived.Test.YtobopkkdjkjafaaPwx11
import Derived.Test.YtobopkkdjkjafaaWordLaw
namespace Go.Proofs.Ytobopkkdjkjafaa.Pure
open Go.RowKit Go.Proofs.Ytobopkkdjkjafaa.Pw Go.Proofs.YtobopkkdjkjafaaW.PrintWords Go.Proofs.YtobopkkdjkjafaaW.PrintLast Go.Proofs.Ytobopkkdjkjafaa.Word Go.Proofs.Ytobopkkdjkjafaa.WordLaw
set_option linter.unusedVariables false
set_option linter.unusedSimpArgs false

theorem step_ok (w : Bool) (a b : Int) (ha : I64 a) (hb : I64 b) (j : Int) (hj : j = 0 ∨ j = 1) :
    val (72 + j) w a b + val (74 + j) w a b + val 70 w a b = 1 ∧ val (76 + j) w a b = 1 - val (74 + j) w a b ∧ val (78 + j) w a b = 1 - val (72 + j) w a b ∧ val (74 + j) w a b = val (72 + j) w b a := by
  rcases hj with rfl | rfl
  · exact compares_s w a b
  · exact compares_u w a b ha hb
theorem val_small (k : Int) (w : Bool) (a b : Int) (h0 : 69 ≤ k) (h1 : k ≤ 79) : 0 ≤ val k w a b ∧ val k w a b ≤ 1 := by
  rw [val_cmp w k a b h0 h1]; unfold tell; split <;> omega

theorem cmp_round (k : Nat) (w : Bool) (a b : Int) (ha : I64 a) (hb : I64 b) (j : Int) (hj : j = 0 ∨ j = 1) :
    oubliettelaw02_WordCompares.l0 (k + 2) w a b true (val 70 w a b) j = oubliettelaw02_WordCompares.l0 (k + 1) w a b true (val 70 w a b) (j + 1) := by
  obtain ⟨s1, s2, s3, s4⟩ := step_ok w a b ha hb j hj
  have b1 := val_small (72 + j) w a b (by omega) (by omega)
  have b2 := val_small (74 + j) w a b (by omega) (by omega)
  have b3 := val_small 70 w a b (by omega) (by omega)
  rw [oubliettelaw02_WordCompares.l0]
  rw [if_pos (by omega), wrap_in (z := 72 + j) (by omega), wrap_in (z := 74 + j) (by omega), wrap_in (z := 76 + j) (by omega), wrap_in (z := 78 + j) (by omega), wrap_in (z := j + 1) (by omega)]
  rw [value_f k (72 + j) w a b (by omega) (by omega) hb, value_f k (74 + j) w a b (by omega) (by omega) hb]
  simp only [Option.bind_some]
  rw [wrap_in (z := val (72 + j) w a b + val (74 + j) w a b) (by omega), wrap_in (by omega), if_pos s1, value_f k (76 + j) w a b (by omega) (by omega) hb]
  simp only [Option.bind_some]
  rw [wrap_in (z := 1 - val (74 + j) w a b) (by omega), if_pos s2, value_f k (78 + j) w a b (by omega) (by omega) hb]
  simp only [Option.bind_some]
  rw [wrap_in (z := 1 - val (72 + j) w a b) (by omega), if_pos s3, value_f k (72 + j) w b a (by omega) (by omega) ha]
  simp only [Option.bind_some]
  rw [if_pos s4]

theorem WordCompares : oubliettelaw02_WordCompares.Pure := by
  intro w a b w1 w2
  have ha := i64_wf w1
  have hb := i64_wf w2
  refine ⟨4, ?_⟩
  have e3 : ∀ w x, word_Trim.f w x = some (trim w x) := fun _ _ => rfl
  have I0 : I64 0 := I_small (by decide)
  unfold oubliettelaw02_WordCompares.f
  rw [examples_f, value_f 3 70 w a b (by decide) (by decide) hb]
  simp only [Option.bind_some]
  rw [cmp_round 2 w a b ha hb 0 (.inl rfl), show (0 : Int) + 1 = 1 from rfl, cmp_round 1 w a b ha hb 1 (.inr rfl), show (1 : Int) + 1 = 2 from rfl]
  rw [oubliettelaw02_WordCompares.l0]
  have b3 := val_small 70 w a b (by omega) (by omega)
  rw [if_neg (by decide), if_pos rfl, value_f 0 71 w a b (by decide) (by decide) hb]
  simp only [Option.bind_some]
  rw [wrap_in (z := 1 - val 70 w a b) (by omega), if_pos (val_ne w a b), e3, e3]
  simp only [Option.bind_some]
  have hs : ((val 70 w a b == 1) == (trim w a == trim w b)) = true := by
    rw [val_eq]
    by_cases h : trim w a = trim w b <;> simp [h]
  rw [if_pos hs, value_f 0 69 w a b (by decide) (by decide) hb, value_f 0 70 w a 0 (by decide) (by decide) I0]
  simp only [Option.bind_some, val_eqz w a b, beq_self_eq_true]

end Go.Proofs.Ytobopkkdjkjafaa.Pure
