/- Quotient times divisor and the rest are what was divided; the rest is less than the divisor; by nought each traps, and so does the quotient that does not fit. -/
import Derived.Test.YtobopkkdjkjafaaPwx10
import Derived.Test.YtobopkkdjkjafaaWordLaw
namespace Go.Proofs.Ytobopkkdjkjafaa.Pure
open Go.RowKit Go.Proofs.Ytobopkkdjkjafaa.Pw Go.Proofs.YtobopkkdjkjafaaW.PrintWords Go.Proofs.YtobopkkdjkjafaaW.PrintLast Go.Proofs.Ytobopkkdjkjafaa.Word Go.Proofs.Ytobopkkdjkjafaa.WordLaw
set_option linter.unusedVariables false
set_option linter.unusedSimpArgs false

theorem tmod_I {x y : Int} (h : I64 x) : I64 (x.tmod y) := by
  have e := Int.natAbs_tmod x y
  have := Nat.mod_le x.natAbs y.natAbs
  unfold I64 at *
  by_cases hx : 0 ≤ x
  · have s := Int.tmod_nonneg y hx
    omega
  · have s := Int.tmod_nonneg (a := -x) y (by omega)
    rw [Int.neg_tmod] at s
    omega
theorem sgn_I {w : Bool} {x : Int} (h : I64 x) : I64 (sgn w x) := by
  cases w
  · simp only [sgn, wrap32, Bool.false_eq_true, if_false]; unfold I64; omega
  · simpa [sgn] using h
theorem WordDivides : oubliettelaw02_WordDivides.Pure := by
  intro w a b w1 w2
  have ha := i64_wf w1
  have hb := i64_wf w2
  refine ⟨4, ?_⟩
  have e3 : ∀ w x, word_Trim.f w x = some (trim w x) := fun _ _ => rfl
  unfold oubliettelaw02_WordDivides.f
  rw [examples_f, e3, e3, of_f 3 110 w a b (by decide) (by decide) hb, of_f 3 112 w a b (by decide) (by decide) hb, of_f 3 109 w a b (by decide) (by decide) hb, of_f 3 111 w a b (by decide) (by decide) hb]
  simp only [Option.bind_some]
  by_cases h : trim w b = 0
  · rw [if_pos h, div_zero w 110 a b (by decide) (by decide) h, div_zero w 112 a b (by decide) (by decide) h, div_zero w 109 a b (by decide) (by decide) h, div_zero w 111 a b (by decide) (by decide) h]
    rfl
  · rw [if_neg h]
    have hb1 := divU_back w a b ha h
    have hr := rem_less w a b hb h
    have hu := remU w a b h
    have t1 : (eval (opw 110 w) a b).2 = 0 := by rw [divU w a b h]
    have t2 : (eval (opw 112 w) a b).2 = 0 := by rw [hu]
    have rI : I64 (eval (opw 112 w) a b).1 := by rw [hu]; exact tr_I w _
    rw [if_pos t1, if_pos t2]
    by_cases o : over w a b
    · rw [divS_over w a b h o, remS_over w a b h o]
      rw [if_pos rfl, if_neg (by decide)]
      rw [show ((3 : Int) != 3) = false from rfl]
      simp only [oubliettelaw02_WordDivides.j0]
      rw [if_neg (by simp), value_f 2 108 w _ _ (by decide) (by decide) hb]
      simp only [Option.bind_some]
      rw [value_f 2 106 w _ _ (by decide) (by decide) rI]
      simp only [Option.bind_some]
      rw [if_pos hb1, value_f 2 73 w _ _ (by decide) (by decide) hb]
      simp only [Option.bind_some, hr]
      rfl
    · have hs := divS_back w a b ha h o
      have t3 : (eval (opw 111 w) a b).2 = 0 := by rw [remS w a b h o]
      have t4 : (eval (opw 109 w) a b).2 = 0 := by rw [divS w a b h o]
      have sI : I64 (eval (opw 111 w) a b).1 := by rw [remS w a b h o]; exact trim_I (tmod_I (sgn_I (trim_I ha)))
      rw [if_pos t3, if_pos t4]
      simp only [oubliettelaw02_WordDivides.j0]
      rw [if_neg (by simp), value_f 2 108 w _ _ (by decide) (by decide) hb]
      simp only [Option.bind_some]
      rw [value_f 2 106 w _ _ (by decide) (by decide) rI]
      simp only [Option.bind_some]
      rw [if_pos hb1, value_f 2 73 w _ _ (by decide) (by decide) hb]
      simp only [Option.bind_some, hr]
      rw [if_pos t4, value_f 2 108 w _ _ (by decide) (by decide) hb]
      simp only [Option.bind_some]
      rw [value_f 2 106 w _ _ (by decide) (by decide) sI]
      simp only [Option.bind_some, hs, if_true, beq_self_eq_true]

end Go.Proofs.Ytobopkkdjkjafaa.Pure
