-- Written by this session's own program (wip/print2), by the way of the kit's print; Lean checks it.
import Derived.Test.YtobopkkdjkjafaaPwx0
import Derived.Test.YtobopkkdjkjafaaPwx3
namespace Go.Proofs.Ytobopkkdjkjafaa.Pw
open Go.RowKit Go.Proofs.YtobopkkdjkjafaaW.PrintWords Go.Proofs.YtobopkkdjkjafaaW.PrintLast Go.Proofs.YtobopkkdjkjafaaW.PrintMore
attribute [local go_sem] max2_int min2_int max_two min_two max_three min_three max_four min_four   -- for this text's walks alone
set_option linter.unusedVariables false
set_option linter.unusedSimpArgs false

/-! ### oublietteref02_shifted: function 48 -/
mutual
def oublietteref02_shifted.j0 : Nat → Int → Bool → Int → Int → Int → Option (Int)
  | 0, _, _, _, _, _ => none
  | k + 1, x0, x1, x2, x3, x9 => if 0 ≤ (Go.bits .and .i64 x3 (wrap64 (x9 - 1))) then (if 0 ≤ (Go.bits .and .i64 (wrap64 (x9 - (Go.bits .and .i64 x3 (wrap64 (x9 - 1))))) 63) then (if (Go.bits .and .i64 x3 (wrap64 (x9 - 1))) = 0 then (oublietteref02_shifted.j1 k x0 x1 x2 (Go.bits .and .i64 x3 (wrap64 (x9 - 1))) (shl .u64 (IntKind.u64.wrap (x2)) (Go.bits .and .i64 x3 (wrap64 (x9 - 1)))) (shr .u64 (IntKind.u64.wrap (x2)) (Go.bits .and .i64 x3 (wrap64 (x9 - 1)))) 0 0) else (oublietteref02_shifted.j1 k x0 x1 x2 (Go.bits .and .i64 x3 (wrap64 (x9 - 1))) (shl .u64 (IntKind.u64.wrap (x2)) (Go.bits .and .i64 x3 (wrap64 (x9 - 1)))) (shr .u64 (IntKind.u64.wrap (x2)) (Go.bits .and .i64 x3 (wrap64 (x9 - 1)))) (shl .u64 (IntKind.u64.wrap (x2)) (Go.bits .and .i64 (wrap64 (x9 - (Go.bits .and .i64 x3 (wrap64 (x9 - 1))))) 63)) (shr .u64 (IntKind.u64.wrap (x2)) (Go.bits .and .i64 (wrap64 (x9 - (Go.bits .and .i64 x3 (wrap64 (x9 - 1))))) 63)))) else (none)) else (none)
def oublietteref02_shifted.j1 : Nat → Int → Bool → Int → Int → Int → Int → Int → Int → Option (Int)
  | 0, _, _, _, _, _, _, _, _ => none
  | k + 1, x0, x1, x2, x10, x12, x13, x14, x15 => if x0 = 0 then (some (wrap64 (x12))) else (if x0 = 1 then ((oublietteref02_signed.f x1 x2).bind fun t134 => (if 0 ≤ x10 then (some (shr .i64 t134 x10)) else (none))) else (if x0 = 2 then (some (wrap64 (x13))) else (if x0 = 3 then (some (wrap64 (Go.bits .or .u64 x12 x15))) else (some (wrap64 (Go.bits .or .u64 x13 x14))))))
end
def oublietteref02_shifted.f (k : Nat) (a0 : Int) (a1 : Bool) (a2 : Int) (a3 : Int) : Option (Int) := if a1 = true then (oublietteref02_shifted.j0 k a0 a1 a2 a3 64) else (oublietteref02_shifted.j0 k a0 a1 a2 a3 32)
theorem oublietteref02_shifted.mono_l : ∀ k, (∀ y0 y1 y2 y3 y4, LeO (oublietteref02_shifted.j0 k y0 y1 y2 y3 y4) (oublietteref02_shifted.j0 (k + 1) y0 y1 y2 y3 y4)) ∧ (∀ y0 y1 y2 y3 y4 y5 y6 y7, LeO (oublietteref02_shifted.j1 k y0 y1 y2 y3 y4 y5 y6 y7) (oublietteref02_shifted.j1 (k + 1) y0 y1 y2 y3 y4 y5 y6 y7))
  | 0 => ⟨fun _ _ _ _ _ r h => by simp [oublietteref02_shifted.j0] at h, fun _ _ _ _ _ _ _ _ r h => by simp [oublietteref02_shifted.j1] at h⟩
  | k + 1 => by
    obtain ⟨ih0, ih1⟩ := oublietteref02_shifted.mono_l k
    refine ⟨?_, ?_⟩
    · intro y0 y1 y2 y3 y4
      unfold oublietteref02_shifted.j0
      repeat' first
      | (with_reducible exact ih0 _ _ _ _ _)
      | (with_reducible exact ih1 _ _ _ _ _ _ _ _)
      | (with_reducible exact LeO.refl _)
      | (with_reducible exact LeO.none _)
      | (with_reducible refine LeO.ite ?_ ?_)
      | (with_reducible refine LeO.bind ?_ (fun _ => ?_))
      | exact ih0 _ _ _ _ _
      | exact ih1 _ _ _ _ _ _ _ _
      | exact LeO.none _
      | refine LeO.ite ?_ ?_
      | refine LeO.bind ?_ (fun _ => ?_)
    · intro y0 y1 y2 y3 y4 y5 y6 y7
      unfold oublietteref02_shifted.j1
      repeat' first
      | (with_reducible exact ih0 _ _ _ _ _)
      | (with_reducible exact ih1 _ _ _ _ _ _ _ _)
      | (with_reducible exact LeO.refl _)
      | (with_reducible exact LeO.none _)
      | (with_reducible refine LeO.ite ?_ ?_)
      | (with_reducible refine LeO.bind ?_ (fun _ => ?_))
      | exact ih0 _ _ _ _ _
      | exact ih1 _ _ _ _ _ _ _ _
      | exact LeO.none _
      | refine LeO.ite ?_ ?_
      | refine LeO.bind ?_ (fun _ => ?_)
theorem oublietteref02_shifted.mono : ∀ a0 a1 a2 a3 k, LeO (oublietteref02_shifted.f k a0 a1 a2 a3) (oublietteref02_shifted.f (k + 1) a0 a1 a2 a3) := by
  intro a0 a1 a2 a3 k
  obtain ⟨ih0, ih1⟩ := oublietteref02_shifted.mono_l k
  unfold oublietteref02_shifted.f
  repeat' first
      | (with_reducible exact ih0 _ _ _ _ _)
      | (with_reducible exact ih1 _ _ _ _ _ _ _ _)
      | (with_reducible exact LeO.refl _)
      | (with_reducible exact LeO.none _)
      | (with_reducible refine LeO.ite ?_ ?_)
      | (with_reducible refine LeO.bind ?_ (fun _ => ?_))
      | exact ih0 _ _ _ _ _
      | exact ih1 _ _ _ _ _ _ _ _
      | exact LeO.none _
      | refine LeO.ite ?_ ?_
      | refine LeO.bind ?_ (fun _ => ?_)
set_option maxHeartbeats 8000000 in
set_option maxRecDepth 100000 in
theorem oublietteref02_shifted.calls (k : Nat) (a0 : Int) (a1 : Bool) (a2 : Int) (a3 : Int) (r : Int) (w : World) (h : oublietteref02_shifted.f k a0 a1 a2 a3 = some r) :
    Calls Try.prog 48 #[.int .i64 a0, .bool a1, .int .i64 a2, .int .i64 a3] w fun e w' => e = .returned (.int .i64 r) ∧ Drawn0 w w' := by
  have H : (if a1 = true then (oublietteref02_shifted.j0 k a0 a1 a2 a3 64) else (oublietteref02_shifted.j0 k a0 a1 a2 a3 32)) = some r := h
  clear h
  have HC5 := Aside0.mk H
  clear H
  go_enter Try.func48, Try.ntmps48
  go_upto_if 16 with (fail)
  go_cut [9] (fun v9 wc => ∃ (kq : Nat) (x9_4 : Int), v9 = .int .i64 x9_4 ∧ Aside0 (oublietteref02_shifted.j0 kq a0 a1 a2 a3 x9_4 = some r) ∧ Aside0 (kq ≤ k) ∧ Drawn0 w wc)
  case first =>
    have H := HC5.out
    clear HC5
    by_cases c6 : a1 = true
    · subst c6
      have H1 : (oublietteref02_shifted.j0 k a0 true a2 a3 64) = some r := by rw [if_pos rfl] at H; exact H
      clear H
      have H := H1
      clear H1
      have H' := Aside0.mk H
      clear H
      go_wp2
      go_meet
      case rel => exact ⟨_, (64), (by first | rfl | (simp; done) | (simp [*]; done)), H', ⟨by first | omega | exact Nat.le_refl _⟩, by repeat (first | exact Drawn0.refl _ | apply Drawn0.step)⟩
    · replace c6 := Bool.eq_false_iff.mpr c6
      subst c6
      have H1 : (oublietteref02_shifted.j0 k a0 false a2 a3 32) = some r := by rw [if_neg (show ¬ (false = true) by decide)] at H; exact H
      clear H
      have H := H1
      clear H1
      have H' := Aside0.mk H
      clear H
      go_wp2
      go_meet
      case rel => exact ⟨_, (32), (by first | rfl | (simp; done) | (simp [*]; done)), H', ⟨by first | omega | exact Nat.le_refl _⟩, by repeat (first | exact Drawn0.refl _ | apply Drawn0.step)⟩
  case rest =>
    clear HC5
    try clear p2
    try clear c4
    try clear c6
    obtain ⟨kq, x9_4, rfl, HA, HJ4, ⟨mc4, rfl⟩⟩ := hcut
    cases kq with
    | zero => exact absurd HA.out (by simp [oublietteref02_shifted.j0])
    | succ kj4 =>
      have H := HA.out
      clear HA
      simp only [oublietteref02_shifted.j0] at H
      obtain ⟨ji7, hji7⟩ : ∃ j_ : Int, (Go.bits .and .i64 a3 (wrap64 (x9_4 - 1))) = j_ := ⟨_, rfl⟩
      replace H : (if 0 ≤ (ji7) then (if 0 ≤ (Go.bits .and .i64 (wrap64 (x9_4 - (ji7))) 63) then (if (ji7) = 0 then (oublietteref02_shifted.j1 kj4 a0 a1 a2 ji7 (shl .u64 (IntKind.u64.wrap (a2)) (ji7)) (shr .u64 (IntKind.u64.wrap (a2)) (ji7)) 0 0) else (oublietteref02_shifted.j1 kj4 a0 a1 a2 ji7 (shl .u64 (IntKind.u64.wrap (a2)) (ji7)) (shr .u64 (IntKind.u64.wrap (a2)) (ji7)) (shl .u64 (IntKind.u64.wrap (a2)) (Go.bits .and .i64 (wrap64 (x9_4 - (ji7))) 63)) (shr .u64 (IntKind.u64.wrap (a2)) (Go.bits .and .i64 (wrap64 (x9_4 - (ji7))) 63)))) else (none)) else (none)) = some r := by first | (rw [hji7] at H; exact H) | (simp only [hji7] at H ⊢; exact H)
      by_cases c8 : 0 ≤ (ji7)
      · rw [if_pos c8] at H
        have c8b0 := eq_true c8
        have c8b1 : decide (0 ≤ (ji7)) = true := decide_eq_true c8
        clear c8
        obtain ⟨ji9, hji9⟩ : ∃ j_ : Int, (shl .u64 (IntKind.u64.wrap (a2)) (ji7)) = j_ := ⟨_, rfl⟩
        replace H : (if 0 ≤ (Go.bits .and .i64 (wrap64 (x9_4 - (ji7))) 63) then (if (ji7) = 0 then (oublietteref02_shifted.j1 kj4 a0 a1 a2 ji7 ji9 (shr .u64 (IntKind.u64.wrap (a2)) (ji7)) 0 0) else (oublietteref02_shifted.j1 kj4 a0 a1 a2 ji7 ji9 (shr .u64 (IntKind.u64.wrap (a2)) (ji7)) (shl .u64 (IntKind.u64.wrap (a2)) (Go.bits .and .i64 (wrap64 (x9_4 - (ji7))) 63)) (shr .u64 (IntKind.u64.wrap (a2)) (Go.bits .and .i64 (wrap64 (x9_4 - (ji7))) 63)))) else (none)) = some r := by first | (rw [hji9] at H; exact H) | (simp only [hji9] at H ⊢; exact H)
        have hji9_ : (IntKind.u64.wrap ((IntKind.u64.wrap (a2)) * 2 ^ min (ji7).toNat 64)) = ji9 := hji9
        have hji9z : (ji7) ≤ 64 → (IntKind.u64.wrap ((IntKind.u64.wrap (a2)) * 2 ^ (ji7).toNat)) = ji9 := shl_small hji9
        have c10b0 := eq_true (of_decide_eq_true (by first | (with_reducible assumption) | assumption) : 0 ≤ (ji7))
        obtain ⟨ji11, hji11⟩ : ∃ j_ : Int, (shr .u64 (IntKind.u64.wrap (a2)) (ji7)) = j_ := ⟨_, rfl⟩
        replace H : (if 0 ≤ (Go.bits .and .i64 (wrap64 (x9_4 - (ji7))) 63) then (if (ji7) = 0 then (oublietteref02_shifted.j1 kj4 a0 a1 a2 ji7 ji9 ji11 0 0) else (oublietteref02_shifted.j1 kj4 a0 a1 a2 ji7 ji9 ji11 (shl .u64 (IntKind.u64.wrap (a2)) (Go.bits .and .i64 (wrap64 (x9_4 - (ji7))) 63)) (shr .u64 (IntKind.u64.wrap (a2)) (Go.bits .and .i64 (wrap64 (x9_4 - (ji7))) 63)))) else (none)) = some r := by first | (rw [hji11] at H; exact H) | (simp only [hji11] at H ⊢; exact H)
        have hji11_ : ((IntKind.u64.wrap (a2)) / 2 ^ min (ji7).toNat 64) = ji11 := hji11
        have hji11z : (ji7) ≤ 64 → ((IntKind.u64.wrap (a2)) / 2 ^ (ji7).toNat) = ji11 := shr_small hji11
        obtain ⟨ji12, hji12⟩ : ∃ j_ : Int, (Go.bits .and .i64 (wrap64 (x9_4 - (ji7))) 63) = j_ := ⟨_, rfl⟩
        replace H : (if 0 ≤ (ji12) then (if (ji7) = 0 then (oublietteref02_shifted.j1 kj4 a0 a1 a2 ji7 ji9 ji11 0 0) else (oublietteref02_shifted.j1 kj4 a0 a1 a2 ji7 ji9 ji11 (shl .u64 (IntKind.u64.wrap (a2)) (ji12)) (shr .u64 (IntKind.u64.wrap (a2)) (ji12)))) else (none)) = some r := by first | (rw [hji12] at H; exact H) | (simp only [hji12] at H ⊢; exact H)
        by_cases c13 : 0 ≤ (ji12)
        · rw [if_pos c13] at H
          have c13b0 := eq_true c13
          have c13b1 : decide (0 ≤ (ji12)) = true := decide_eq_true c13
          clear c13
          obtain ⟨ji14, hji14⟩ : ∃ j_ : Int, (shl .u64 (IntKind.u64.wrap (a2)) (ji12)) = j_ := ⟨_, rfl⟩
          replace H : (if (ji7) = 0 then (oublietteref02_shifted.j1 kj4 a0 a1 a2 ji7 ji9 ji11 0 0) else (oublietteref02_shifted.j1 kj4 a0 a1 a2 ji7 ji9 ji11 ji14 (shr .u64 (IntKind.u64.wrap (a2)) (ji12)))) = some r := by first | (rw [hji14] at H; exact H) | (simp only [hji14] at H ⊢; exact H)
          have hji14_ : (IntKind.u64.wrap ((IntKind.u64.wrap (a2)) * 2 ^ min (ji12).toNat 64)) = ji14 := hji14
          have hji14z : (ji12) ≤ 64 → (IntKind.u64.wrap ((IntKind.u64.wrap (a2)) * 2 ^ (ji12).toNat)) = ji14 := shl_small hji14
          have c15b0 := eq_true (of_decide_eq_true (by first | (with_reducible assumption) | assumption) : 0 ≤ (ji12))
          obtain ⟨ji16, hji16⟩ : ∃ j_ : Int, (shr .u64 (IntKind.u64.wrap (a2)) (ji12)) = j_ := ⟨_, rfl⟩
          replace H : (if (ji7) = 0 then (oublietteref02_shifted.j1 kj4 a0 a1 a2 ji7 ji9 ji11 0 0) else (oublietteref02_shifted.j1 kj4 a0 a1 a2 ji7 ji9 ji11 ji14 ji16)) = some r := by first | (rw [hji16] at H; exact H) | (simp only [hji16] at H ⊢; exact H)
          have hji16_ : ((IntKind.u64.wrap (a2)) / 2 ^ min (ji12).toNat 64) = ji16 := hji16
          have hji16z : (ji12) ≤ 64 → ((IntKind.u64.wrap (a2)) / 2 ^ (ji12).toNat) = ji16 := shr_small hji16
          have HC17 := Aside0.mk H
          clear H
          go_upto_if 42 with (fail)
          go_cut [14, 15] (fun v14 v15 wc => ∃ (kq : Nat) (x14_16 : Int) (x15_16 : Int), v14 = .int .u64 x14_16 ∧ v15 = .int .u64 x15_16 ∧ Aside0 (oublietteref02_shifted.j1 kq a0 a1 a2 ji7 ji9 ji11 x14_16 x15_16 = some r) ∧ Aside0 (kq ≤ kj4) ∧ Drawn0 w wc)
          case first =>
            have H := HC17.out
            clear HC17
            by_cases c18 : (ji7) = 0
            · rw [if_pos c18] at H
              have c18b0 : ((ji7) == 0) = true := beq_iff_eq.mpr c18
              have c18b1 : ((ji7) != 0) = false := bne_eq_false_iff_eq.mpr c18
              clear c18
              (first | rw [c18b0] | (simp only [i64_w, i32_w]; rw [c18b0]) | skip)
              have H' := Aside0.mk H
              clear H
              go_wp2
              go_meet
              case rel => exact ⟨_, (0), (0), (by first | rfl | (simp; done) | (simp [*]; done)), (by first | rfl | (simp; done) | (simp [*]; done)), H', ⟨by have := HJ4.out; first | omega | exact Nat.le_refl _⟩, by repeat (first | exact Drawn0.refl _ | apply Drawn0.step)⟩
            · rw [if_neg c18] at H
              have c18b0 : ((ji7) == 0) = false := beq_eq_false_iff_ne.mpr c18
              have c18b1 : ((ji7) != 0) = true := bne_iff_ne.mpr c18
              (first | rw [c18b0] | (simp only [i64_w, i32_w]; rw [c18b0]) | skip)
              have H' := Aside0.mk H
              clear H
              go_wp2
              go_meet
              case rel => exact ⟨_, (ji14), (ji16), (by first | rfl | (simp; done) | (simp only [← hji14] <;> (first | rfl | simp)) | (simp [*]; done)), (by first | rfl | (simp; done) | (simp only [← hji16] <;> (first | rfl | simp)) | (simp [*]; done)), H', ⟨by have := HJ4.out; first | omega | exact Nat.le_refl _⟩, by repeat (first | exact Drawn0.refl _ | apply Drawn0.step)⟩
          case rest =>
            clear HC17
            try clear c1
            try clear p2
            try clear c4
            try clear c6
            try clear p6
            try clear c8
            try clear c8b0
            try clear c8b1
            try clear c10
            try clear c10b0
            try clear c13
            try clear c13b0
            try clear c13b1
            try clear c15
            try clear c15b0
            try clear c18
            try clear c18b0
            try clear c18b1
            try clear p2
            obtain ⟨kq, x14_16, x15_16, rfl, rfl, HA, HJ16, ⟨mc16, rfl⟩⟩ := hcut
            cases kq with
            | zero => exact absurd HA.out (by simp [oublietteref02_shifted.j1])
            | succ kj16 =>
              have H := HA.out
              clear HA
              simp only [oublietteref02_shifted.j1] at H
              by_cases c19 : a0 = 0
              · rw [if_pos c19] at H
                have c19b0 : (a0 == 0) = true := beq_iff_eq.mpr c19
                have c19b1 : (a0 != 0) = false := bne_eq_false_iff_eq.mpr c19
                clear c19
                obtain rfl := Option.some.inj H
                go_wp2
                go_ret
                exact ⟨by first | rfl | (simp; done) | (simp only [← hji7, ← hji9, ← hji11, ← hji12, ← hji14, ← hji16] <;> (first | rfl | simp)) | (simp [*]; done), by repeat (first | exact Drawn0.refl _ | apply Drawn0.step)⟩
              · rw [if_neg c19] at H
                have c19b0 : (a0 == 0) = false := beq_eq_false_iff_ne.mpr c19
                have c19b1 : (a0 != 0) = true := bne_iff_ne.mpr c19
                by_cases c20 : a0 = 1
                · rw [if_pos c20] at H
                  have c20b0 : (a0 == 1) = true := beq_iff_eq.mpr c20
                  have c20b1 : (a0 != 1) = false := bne_eq_false_iff_eq.mpr c20
                  clear c20
                  replace H := Option.bind_eq_some_iff.mp H
                  obtain ⟨t134, A210, H⟩ := H
                  replace H : (if 0 ≤ ji7 then (some (shr .i64 t134 ji7)) else (none)) = some r := H
                  have A21 := Aside0.mk A210
                  clear A210
                  by_cases c22 : 0 ≤ ji7
                  · rw [if_pos c22] at H
                    have c22b0 := eq_true c22
                    have c22b1 : decide (0 ≤ ji7) = true := decide_eq_true c22
                    clear c22
                    obtain ⟨ji23, hji23⟩ : ∃ j_ : Int, (shr .i64 t134 ji7) = j_ := ⟨_, rfl⟩
                    replace H : (some ji23) = some r := by first | (rw [hji23] at H; exact H) | (simp only [hji23] at H ⊢; exact H)
                    (try rw [hji23] at A21)
                    have hji23_ : (t134 / 2 ^ min ji7.toNat 64) = ji23 := hji23
                    have hji23z : ji7 ≤ 64 → (t134 / 2 ^ ji7.toNat) = ji23 := shr_small hji23
                    obtain rfl := Option.some.inj H
                    go_wp2_with (first | ((with_reducible refine gate_callee (f := 46) rfl ?_); refine goesL_ (some 52) rfl rfl Try.func46 (by kernel_rfl) rfl #[.bool a1, .int .i64 a2] rfl (by (try simp only [List.map_toArray, List.map_cons, List.map_nil]); first | done | rfl | (simp only [List.length_drop, List.length_take]; rfl)) ?_; (with_reducible refine (oublietteref02_signed.calls a1 a2 t134 _ A21.out).mono ?_); rintro e w' ⟨rfl, ⟨nd, rfl⟩⟩; refine ⟨_, rfl, ?_⟩))
                    go_ret
                    exact ⟨by first | rfl | (simp; done) | (simp only [← hji7, ← hji9, ← hji11, ← hji12, ← hji14, ← hji16, ← hji23] <;> (first | rfl | simp)) | (simp [*]; done), by repeat (first | exact Drawn0.refl _ | apply Drawn0.step)⟩
                  · rw [if_neg c22] at H
                    exact absurd H (by simp)
                · rw [if_neg c20] at H
                  have c20b0 : (a0 == 1) = false := beq_eq_false_iff_ne.mpr c20
                  have c20b1 : (a0 != 1) = true := bne_iff_ne.mpr c20
                  by_cases c24 : a0 = 2
                  · rw [if_pos c24] at H
                    have c24b0 : (a0 == 2) = true := beq_iff_eq.mpr c24
                    have c24b1 : (a0 != 2) = false := bne_eq_false_iff_eq.mpr c24
                    clear c24
                    obtain rfl := Option.some.inj H
                    go_wp2
                    go_ret
                    exact ⟨by first | rfl | (simp; done) | (simp only [← hji7, ← hji9, ← hji11, ← hji12, ← hji14, ← hji16] <;> (first | rfl | simp)) | (simp [*]; done), by repeat (first | exact Drawn0.refl _ | apply Drawn0.step)⟩
                  · rw [if_neg c24] at H
                    have c24b0 : (a0 == 2) = false := beq_eq_false_iff_ne.mpr c24
                    have c24b1 : (a0 != 2) = true := bne_iff_ne.mpr c24
                    by_cases c25 : a0 = 3
                    · rw [if_pos c25] at H
                      have c25b0 : (a0 == 3) = true := beq_iff_eq.mpr c25
                      have c25b1 : (a0 != 3) = false := bne_eq_false_iff_eq.mpr c25
                      clear c25
                      obtain rfl := Option.some.inj H
                      go_wp2
                      go_ret
                      exact ⟨by first | rfl | (simp; done) | (simp only [← hji7, ← hji9, ← hji11, ← hji12, ← hji14, ← hji16] <;> (first | rfl | simp)) | (simp [*]; done), by repeat (first | exact Drawn0.refl _ | apply Drawn0.step)⟩
                    · rw [if_neg c25] at H
                      have c25b0 : (a0 == 3) = false := beq_eq_false_iff_ne.mpr c25
                      have c25b1 : (a0 != 3) = true := bne_iff_ne.mpr c25
                      obtain rfl := Option.some.inj H
                      go_wp2
                      go_ret
                      exact ⟨by first | rfl | (simp; done) | (simp only [← hji7, ← hji9, ← hji11, ← hji12, ← hji14, ← hji16] <;> (first | rfl | simp)) | (simp [*]; done), by repeat (first | exact Drawn0.refl _ | apply Drawn0.step)⟩
        · rw [if_neg c13] at H
          exact absurd H (by simp)
      · rw [if_neg c8] at H
        exact absurd H (by simp)

/-! ### oublietteref02_Eval: function 27 -/
def oublietteref02_Eval.f (a0 : Int) (a1 : Int) (a2 : Int) : Option (Int × Int) := if -9223372036854775808 ≤ a2 ∧ a2 ≤ 9223372036854775807 then some (Word.reval a0 a1 a2) else none
theorem oublietteref02_Eval.calls (a0 : Int) (a1 : Int) (a2 : Int) (r1 : Int) (r2 : Int) (w : World) (h : oublietteref02_Eval.f a0 a1 a2 = some (r1, r2)) :
    Calls Try.prog 27 #[.int .i64 a0, .int .i64 a1, .int .i64 a2] w fun e w' => e = .returned (.tuple #[.int .i64 r1, .int .i64 r2]) ∧ Drawn0 w w' := by
  unfold oublietteref02_Eval.f at h
  split at h
  · rename_i hr
    have e : Word.reval a0 a1 a2 = (r1, r2) := by simpa using h
    refine (Word.reval_calls a0 a1 a2 w hr.1 hr.2).mono ?_
    rintro e' w' ⟨rfl, hb⟩
    rw [e]
    exact ⟨rfl, by subst hb; exact Drawn0.refl _⟩
  · cases h

end Go.Proofs.Ytobopkkdjkjafaa.Pw
