/- The walks of package label. -/
import Derived.Test.YtjjhhmchomabeaaDoorValSpec
namespace Go.Proofs.YtjjhhmchomabeaaDoor.Valid
open Go.RowKit Go.Proofs.YtjjhhmchomabeaaDoorW.PrintWords Go.Proofs.YtjjhhmchomabeaaDoorW.PrintLast Go.Proofs.YtjjhhmchomabeaaDoor.Mem Go.Proofs.YtjjhhmchomabeaaDoor.Nest
set_option linter.unusedVariables false
set_option linter.unusedSimpArgs false

theorem wrap_zero (n : Nat) (h : n < 18446744073709551616) : (IntKind.i64.wrap (n : Int) = 0) ↔ n = 0 := by
  simp only [IntKind.wrap, IntKind.bits, IntKind.signed]
  constructor
  · intro h
    simp at h
    split at h <;> omega
  · rintro rfl
    rfl
theorem andNot3 (x : BitVec 64) : (x &&& ~~~(3#64)).toNat = 0 ↔ x.toNat < 4 := by
  constructor
  · intro h
    have h0 : x &&& ~~~(3#64) = 0#64 := BitVec.eq_of_toNat_eq (by rw [h]; rfl)
    have hb : ∀ i, 2 ≤ i → x.toNat.testBit i = false := by
      intro i hi
      by_cases hlt : i < 64
      · have h1 : (x &&& ~~~(3#64)).getLsbD i = false := by rw [h0]; simp
        rw [BitVec.getLsbD_and, BitVec.getLsbD_not] at h1
        have h3 : (3#64).getLsbD i = false := by
          have h4 : (3 : Nat).testBit i = false := Nat.testBit_lt_two_pow (Nat.lt_of_lt_of_le (by decide : 3 < 2 ^ 2) (Nat.pow_le_pow_right (by decide) hi))
          rw [BitVec.getLsbD_ofNat]
          simp [h4]
        rw [h3] at h1
        simpa [hlt, BitVec.getLsbD] using h1
      · exact Nat.testBit_lt_two_pow (Nat.lt_of_lt_of_le x.isLt (Nat.pow_le_pow_right (by decide) (by omega)))
    exact Nat.lt_pow_two_of_testBit x.toNat hb
  · intro h
    have : x = 0#64 ∨ x = 1#64 ∨ x = 2#64 ∨ x = 3#64 := by
      have h4 : x.toNat = 0 ∨ x.toNat = 1 ∨ x.toNat = 2 ∨ x.toNat = 3 := by omega
      rcases h4 with h4 | h4 | h4 | h4
      · exact .inl (BitVec.eq_of_toNat_eq (by rw [h4]; rfl))
      · exact .inr (.inl (BitVec.eq_of_toNat_eq (by rw [h4]; rfl)))
      · exact .inr (.inr (.inl (BitVec.eq_of_toNat_eq (by rw [h4]; rfl))))
      · exact .inr (.inr (.inr (BitVec.eq_of_toNat_eq (by rw [h4]; rfl))))
    rcases this with rfl | rfl | rfl | rfl <;> rfl
def Can (t : Int) : Prop := -9223372036854775808 ≤ t ∧ t < 9223372036854775808
theorem right_bits {t : Int} (h : Can t) : (Go.bits .andNot .i64 t 3 == 0) = right t := by
  obtain ⟨h1, h2⟩ := h
  have e : (Go.bits .andNot .i64 t 3 = 0) ↔ (0 ≤ t ∧ t ≤ 3) := by
    have e1 : Go.bits .andNot .i64 t 3 = IntKind.i64.wrap ((BitVec.ofInt 64 t &&& ~~~(3#64)).toNat : Int) := rfl
    rw [e1, wrap_zero _ (BitVec.isLt _), andNot3]
    have e2 : ((BitVec.ofInt 64 t).toNat : Int) = t % 18446744073709551616 := by
      rw [BitVec.toNat_ofInt]
      omega
    omega
  unfold right
  by_cases h : Go.bits .andNot .i64 t 3 = 0
  · rw [h]
    have := e.1 h
    simp
    omega
  · have h3 : (Go.bits .andNot .i64 t 3 == 0) = false := by simpa using h
    rw [h3]
    have := fun k => h (e.2 k)
    symm
    simp
    omega
theorem right_four {t : Int} (h : right t = true) : t = 0 ∨ t = 1 ∨ t = 2 ∨ t = 3 := by unfold right at h; simp at h; omega
theorem right_can {t : Int} (h : right t = true) : Can t := by rcases right_four h with rfl | rfl | rfl | rfl <;> exact ⟨by decide, by decide⟩
theorem right_calls (t : Int) (w : World) (h : Can t) : Calls Tryd.prog 19 #[.int .i64 t] w fun e w' => e = .returned (.bool (right t)) ∧ w' = w := by
  have hb := right_bits h
  go_enter Tryd.func19, Tryd.ntmps19
  go_wp2_with fail
  go_ret
  rw [← hb]
  exact ⟨rfl, rfl⟩
theorem wide_no {t : Int} (h : right t = false) : wide t = false := by
  unfold right at h
  unfold wide
  simp at h ⊢
  omega
theorem secret_no {t : Int} (h : right t = false) : secret t = false := by
  unfold right at h
  unfold secret
  simp at h ⊢
  omega
theorem wide_calls (t : Int) (w : World) (h : Can t) : Calls Tryd.prog 21 #[.int .i64 t] w fun e w' => e = .returned (.bool (wide t)) ∧ w' = w := by
  have HR := Aside0.mk (fun w => right_calls t w h)
  clear h
  cases hr : right t
  all_goals
    rw [hr] at HR
    go_enter Tryd.func21, Tryd.ntmps21
    go_wp2_with (go_at_call 19; refine (HR.out _).mono ?_; rintro e w' ⟨rfl, rfl⟩)
    go_ret
  · rw [wide_no hr]
    exact ⟨rfl, rfl⟩
  · rcases right_four hr with rfl | rfl | rfl | rfl <;> exact ⟨rfl, rfl⟩
theorem secret_calls (t : Int) (w : World) (h : Can t) : Calls Tryd.prog 73 #[.int .i64 t] w fun e w' => e = .returned (.bool (secret t)) ∧ w' = w := by
  have HR := Aside0.mk (fun w => right_calls t w h)
  clear h
  cases hr : right t
  all_goals
    rw [hr] at HR
    go_enter Tryd.func73, Tryd.ntmps73
    go_wp2_with (go_at_call 19; refine (HR.out _).mono ?_; rintro e w' ⟨rfl, rfl⟩)
    go_ret
  · rw [secret_no hr]
    exact ⟨rfl, rfl⟩
  · rcases right_four hr with rfl | rfl | rfl | rfl <;> exact ⟨rfl, rfl⟩
theorem of_calls (a b : Bool) (w : World) : Calls Tryd.prog 63 #[.bool a, .bool b] w fun e w' => e = .returned (.int .i64 (ofL a b)) ∧ w' = w := by
  cases a
  all_goals
    cases b
    all_goals
      go_enter Tryd.func63, Tryd.ntmps63
      go_wp2_with fail
      go_ret
      exact ⟨rfl, rfl⟩
theorem flows_calls (a b : Int) (w : World) (h : Can a) (h2 : Can b) : Calls Tryd.prog 20 #[.int .i64 a, .int .i64 b] w fun e w' => e = .returned (.bool (flows a b)) ∧ w' = w := by
  cases hr : right a
  all_goals
    cases hr2 : right b
    all_goals
      go_enter Tryd.func20, Tryd.ntmps20
      go_wp2_with (go_at_call 19; refine (right_calls _ _ (by assumption)).mono ?_; rintro e w' ⟨rfl, rfl⟩)
      go_ret
  · simp [flows, hr]
  · simp [flows, hr]
  · simp [flows, hr2]
  · rcases right_four hr with rfl | rfl | rfl | rfl <;> rcases right_four hr2 with rfl | rfl | rfl | rfl <;> exact ⟨rfl, rfl⟩
theorem join_calls (a b : Int) (w : World) (h : Can a) (h2 : Can b) : Calls Tryd.prog 72 #[.int .i64 a, .int .i64 b] w fun e w' => e = .returned (.tuple #[.int .i64 (joinL a b).1, .bool (joinL a b).2]) ∧ w' = w := by
  cases hr : right a
  all_goals
    cases hr2 : right b
    all_goals
      go_enter Tryd.func72, Tryd.ntmps72
      go_wp2_with (go_at_call 19; refine (right_calls _ _ (by assumption)).mono ?_; rintro e w' ⟨rfl, rfl⟩)
      all_goals go_ret2
  · simp [joinL, hr]
  · simp [joinL, hr]
  · simp [joinL, hr2]
  all_goals
    rename_i hx
    rcases right_four hr with rfl | rfl | rfl | rfl <;> rcases right_four hr2 with rfl | rfl | rfl | rfl <;> first | exact absurd hx (by decide) | exact ⟨rfl, rfl⟩
end Go.Proofs.YtjjhhmchomabeaaDoor.Valid
