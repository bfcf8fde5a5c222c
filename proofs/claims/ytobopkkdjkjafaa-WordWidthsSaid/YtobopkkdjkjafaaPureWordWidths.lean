/- Each result is one of its width; what is made wider is the same number, and made narrow again the same value. -/
import Derived.Test.YtobopkkdjkjafaaPwx13
import Derived.Test.YtobopkkdjkjafaaWordLaw
namespace Go.Proofs.Ytobopkkdjkjafaa.Pure
open Go.RowKit Go.Proofs.Ytobopkkdjkjafaa.Pw Go.Proofs.YtobopkkdjkjafaaW.PrintWords Go.Proofs.YtobopkkdjkjafaaW.PrintLast Go.Proofs.Ytobopkkdjkjafaa.Word Go.Proofs.Ytobopkkdjkjafaa.WordLaw
set_option linter.unusedVariables false
set_option linter.unusedSimpArgs false

theorem divi_trap (k : Int) (w : Bool) (x y : Int) : (divi k w x y).2 = 0 ∨ (divi k w x y).1 = 0 := by
  unfold divi
  repeat' split
  all_goals simp
theorem reck_trap (k : Int) (w : Bool) (x y : Int) : (reck k w x y).2 = 0 ∨ (reck k w x y).1 = 0 := by
  by_cases h106 : k = 106
  · left; simp [reck, h106]
  by_cases h107 : k = 107
  · left; simp [reck, h107]
  by_cases h108 : k = 108
  · left; simp [reck, h108]
  by_cases h113 : k = 113
  · left; simp [reck, h113]
  by_cases h114 : k = 114
  · left; simp [reck, h114]
  by_cases h115 : k = 115
  · left; simp [reck, h115]
  by_cases h116 : k = 116
  · left; simp [reck, h116]
  by_cases h117 : k = 117
  · left; simp [reck, h117]
  by_cases h118 : k = 118
  · left; simp [reck, h118]
  by_cases h119 : k = 119
  · left; simp [reck, h119]
  by_cases h120 : k = 120
  · left; simp [reck, h120]
  have e : reck k w x y = divi k w x y := by
    unfold reck
    rw [if_neg h106, if_neg h107, if_neg h108, if_neg h113, if_neg h114, if_neg h115, if_neg h116, if_neg h117, if_neg h118, if_neg h119, if_neg h120]
  rw [e]; exact divi_trap _ _ _ _
theorem trim_zero (w : Bool) {z : Int} (h : z = 0) : trim w z = 0 := by subst h; cases w <;> rfl
theorem eval_trap (op a b : Int) : (eval op a b).2 = 0 ∨ (eval op a b).1 = 0 := by
  obtain ⟨q, hq⟩ : ∃ q, q = eval op a b := ⟨_, rfl⟩
  rw [← hq]
  unfold eval at hq
  repeat' split at hq
  all_goals subst hq
  · left; rfl
  · left; rfl
  · left; rfl
  · left; rfl
  · left; rfl
  · rcases reck_trap (op - 124 + 106) (wideB op) (trim (wideB op) a) (trim (wideB op) b) with h | h
    · left; exact h
    · right; exact trim_zero _ h
  · rcases reck_trap op (wideB op) (trim (wideB op) a) (trim (wideB op) b) with h | h
    · left; exact h
    · right; exact trim_zero _ h
theorem tell_small (b : Bool) : 0 ≤ tell b ∧ tell b < 4294967296 := by cases b <;> decide
theorem eval_narrow (op a b : Int) (h : (arity op).2.2.1 ≠ 1) : 0 ≤ (eval op a b).1 ∧ (eval op a b).1 < 4294967296 := by
  have ht : toB op = false := by simp [toB, h]
  have tn : ∀ z, 0 ≤ trim false z ∧ trim false z < 4294967296 := fun z => by have := trim_narrow z; omega
  obtain ⟨q, hq⟩ : ∃ q, q = eval op a b := ⟨_, rfl⟩
  rw [← hq]
  unfold eval at hq
  rw [ht] at hq
  repeat' split at hq
  all_goals subst hq
  all_goals first | exact tn _ | exact tell_small _ | (constructor <;> decide)
theorem eval_none (op a b : Int) (h : (arity op).2.2.2 = false) : eval op a b = (0, 0) := by simp [eval, h]
theorem WordWidths : oubliettelaw02_WordWidths.Pure := by
  intro op a b w0 w1 w2
  have ha := i64_wf w1
  have hb := i64_wf w2
  have I0 : I64 0 := I_small (by decide)
  have I7 : I64 7 := I_small (by decide)
  have e1 : ∀ x, word_Arity.f x = some (arity x) := fun _ => rfl
  have e3 : ∀ w x, word_Trim.f w x = some (trim w x) := fun _ _ => rfl
  unfold oubliettelaw02_WordWidths.f
  rw [examples_f, eval_f hb, e1, e3]
  simp only [Option.bind_some]
  rw [eval_f I0, eval_f I0]
  simp only [Option.bind_some]
  rw [eval_f I0, eval_f I7]
  simp only [Option.bind_some]
  have s1 : (eval 172 a 0).1 = sgn false (trim false a) := by simp [eval, arity, wideB, toB, trim]
  have s2 : (eval 173 a 0).1 = trim false a := by simp [eval, arity, wideB, toB, trim]
  have s3 : ∀ z y, (eval 167 z y).1 = trim false z := fun z y => by simp [eval, arity, wideB, toB, trim]
  have s4 : trim false (sgn false (trim false a)) = trim false a := by
    simp only [trim, sgn, wrap32, Bool.false_eq_true, if_false]; omega
  have s5 : sgn false (trim false a) ≥ -2147483648 ∧ sgn false (trim false a) < 2147483648 := by
    simp only [sgn, wrap32, Bool.false_eq_true, if_false]; omega
  have d : decide (sgn false (trim false a) < 2147483648) = true := decide_eq_true s5.2
  rw [s1, s2, s3, s3, s4, d]
  have p1 := eval_trap op a b
  have p2 := eval_narrow op a b
  have p3 := eval_none op a b
  simp only [if_true, s5.1]
  cases hok : (arity op).2.2.2
  · have := p3 hok
    simp only [this]
    by_cases ht : (arity op).2.2.1 = 1
    · simp [ht]
    · simp [ht]
  · by_cases ht : (arity op).2.2.1 = 1
    · simp only [ht, if_true]
      by_cases h0 : (eval op a b).2 = 0
      · simp [h0]
      · have := p1.resolve_left h0
        simp [h0, this]
    · have h2 := p2 ht
      have h3 : (eval op a b).1 ≥ 0 := h2.1
      simp only [ht, if_true, if_false, h3, h2.2]
      by_cases h0 : (eval op a b).2 = 0
      · simp [h0]
      · have := p1.resolve_left h0
        simp [h0, this]

end Go.Proofs.Ytobopkkdjkjafaa.Pure
