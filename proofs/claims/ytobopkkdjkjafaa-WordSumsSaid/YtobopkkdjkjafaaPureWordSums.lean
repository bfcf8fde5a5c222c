/- Adding goes back by subtracting; the sum hangs on what is left of the values alone; a product by 0 to 50 is so many sums. -/
import Derived.Test.YtobopkkdjkjafaaPwx9
import Derived.Test.YtobopkkdjkjafaaWordLaw
namespace Go.Proofs.Ytobopkkdjkjafaa.Pure
open Go.RowKit Go.Proofs.Ytobopkkdjkjafaa.Pw Go.Proofs.YtobopkkdjkjafaaW.PrintWords Go.Proofs.YtobopkkdjkjafaaW.PrintLast Go.Proofs.Ytobopkkdjkjafaa.Word Go.Proofs.Ytobopkkdjkjafaa.WordLaw
set_option linter.unusedVariables false
set_option linter.unusedSimpArgs false

theorem sums_loop (w : Bool) (a b n : Int) (ha : I64 a) (hb : I64 b) (hn0 : 0 ≤ n) (hn : n ≤ 50) (d : Nat) : ∀ (k : Nat) (i : Int), 0 ≤ i → n - i = d → d + 2 ≤ k →
    oubliettelaw02_WordSums.l0 k w a b n true (trim w a) (trim w b) (val 106 w a b) (tr w (i * trim w a)) i = some true := by
  induction d with
  | zero =>
    intro k i h0 hd hk
    obtain ⟨k, rfl⟩ : ∃ m, k = m + 2 := ⟨k - 2, by omega⟩
    have hi : i = n := by omega
    subst hi
    have hnI : I64 i := I_small (by omega)
    have e2 := sums_turn w a b
    have e3 := sums_mul w a i (by omega) hn
    have e4 := mul_comm' w a b
    simp only [oubliettelaw02_WordSums.l0]
    rw [if_neg (by omega), if_pos True.intro, value_f k 107 w _ _ (by decide) (by decide) hb]
    simp only [Option.bind_some]
    rw [if_pos (sums_back w a b ha), value_f k 106 w _ _ (by decide) (by decide) (trim_I ha)]
    simp only [Option.bind_some]
    rw [if_pos e2, value_f k 108 w _ _ (by decide) (by decide) hnI]
    simp only [Option.bind_some]
    rw [if_pos e3, value_f k 108 w _ _ (by decide) (by decide) hb, value_f k 108 w _ _ (by decide) (by decide) ha]
    simp only [Option.bind_some, e4, beq_self_eq_true]
  | succ d ih =>
    intro k i h0 hd hk
    obtain ⟨k, rfl⟩ : ∃ m, k = m + 2 := ⟨k - 2, by omega⟩
    simp only [oubliettelaw02_WordSums.l0]
    rw [if_pos (by omega), value_f k 106 w _ _ (by decide) (by decide) ha]
    simp only [Option.bind_some]
    rw [sums_more w a (i * trim w a), wrap_in (by omega), show i * trim w a + trim w a = (i + 1) * trim w a from by rw [Int.add_mul, Int.one_mul]]
    exact ih (k + 1) (i + 1) (by omega) (by omega) (by omega)

theorem sums_all (w : Bool) (a b m : Int) (ha : I64 a) (hb : I64 b) (hm : 0 ≤ m) : oubliettelaw02_WordSums.j0 100 w a b m true (trim w a) (trim w b) (val 106 w a b) = some true := by
  simp only [oubliettelaw02_WordSums.j0]
  have e : Int.tmod m 51 = m % 51 := Int.tmod_eq_emod_of_nonneg hm
  rw [e]
  have z : tr w ((0 : Int) * trim w a) = 0 := by rw [Int.zero_mul]; cases w <;> simp [tr, trim] <;> unfold wrap64 <;> rfl
  have h := sums_loop w a b (m % 51) ha hb (by omega) (by omega) (m % 51).toNat 99 0 (by decide) (by omega) (by omega)
  rw [z] at h
  exact h

theorem WordSums : oubliettelaw02_WordSums.Pure := by
  intro w a b n w1 w2 w3
  have ha := i64_wf w1
  have hb := i64_wf w2
  have hn := i64_wf w3
  refine ⟨100, ?_⟩
  have e3 : ∀ w x, word_Trim.f w x = some (trim w x) := fun _ _ => rfl
  unfold oubliettelaw02_WordSums.f
  rw [examples_f, e3, e3]
  simp only [Option.bind_some]
  rw [value_f 99 106 w a b (by decide) (by decide) hb]
  simp only [Option.bind_some]
  unfold I64 at hn
  by_cases h : n < 0
  · rw [if_pos h, wrap_in (z := n + 1) (by omega), wrap_in (z := -(n + 1)) (by omega)]
    exact sums_all w a b _ ha hb (by omega)
  · rw [if_neg h]
    exact sums_all w a b _ ha hb (by omega)

end Go.Proofs.Ytobopkkdjkjafaa.Pure
