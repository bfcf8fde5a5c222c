-- Written by this session's own program (wip/print2), by the way of the kit's print; Lean checks it.
import Derived.Test.YtobopkkdjkjafaaPwx0
import Derived.Test.YtobopkkdjkjafaaPwx1
import Derived.Test.YtobopkkdjkjafaaPwx3
import Derived.Test.YtobopkkdjkjafaaPwx8
namespace Go.Proofs.Ytobopkkdjkjafaa.Pw
open Go.RowKit Go.Proofs.YtobopkkdjkjafaaW.PrintWords Go.Proofs.YtobopkkdjkjafaaW.PrintLast Go.Proofs.YtobopkkdjkjafaaW.PrintMore
attribute [local go_sem] max2_int min2_int max_two min_two max_three min_three max_four min_four   -- for this text's walks alone
set_option linter.unusedVariables false
set_option linter.unusedSimpArgs false

/-! ### oubliettelaw02_WordCompares: function 12 -/
def oubliettelaw02_WordCompares.l0 : Nat → Bool → Int → Int → Bool → Int → Int → Option (Bool)
  | 0, _, _, _, _, _, _ => none
  | k + 1, x0, x1, x2, x7, x8, x9 => if x9 < 2 then ((oubliettelaw02_value.f k (wrap64 (72 + x9)) x0 x1 x2).bind fun t189 => ((oubliettelaw02_value.f k (wrap64 (74 + x9)) x0 x1 x2).bind fun t190 => (if (wrap64 ((wrap64 (t189 + t190)) + x8)) = 1 then ((oubliettelaw02_value.f k (wrap64 (76 + x9)) x0 x1 x2).bind fun t191 => (if t191 = (wrap64 (1 - t190)) then ((oubliettelaw02_value.f k (wrap64 (78 + x9)) x0 x1 x2).bind fun t192 => (if t192 = (wrap64 (1 - t189)) then ((oubliettelaw02_value.f k (wrap64 (72 + x9)) x0 x2 x1).bind fun t193 => (if t190 = t193 then (oubliettelaw02_WordCompares.l0 k x0 x1 x2 x7 x8 (wrap64 (x9 + 1))) else (some false))) else (some false))) else (some false))) else (some false)))) else (if x7 = true then ((oubliettelaw02_value.f k 71 x0 x1 x2).bind fun t194 => (if t194 = (wrap64 (1 - x8)) then ((word_Trim.f x0 x1).bind fun t195 => ((word_Trim.f x0 x2).bind fun t196 => (if ((x8 == 1) == (t195 == t196)) = true then ((oubliettelaw02_value.f k 69 x0 x1 x2).bind fun t197 => ((oubliettelaw02_value.f k 70 x0 x1 0).bind fun t198 => (some (t197 == t198)))) else (some false)))) else (some false))) else (some false))
def oubliettelaw02_WordCompares.f (k : Nat) (a0 : Bool) (a1 : Int) (a2 : Int) : Option (Bool) := (oubliettelaw02_examples.f).bind fun t187 => ((oubliettelaw02_value.f k 70 a0 a1 a2).bind fun t188 => (oubliettelaw02_WordCompares.l0 k a0 a1 a2 t187 t188 0))
theorem oubliettelaw02_WordCompares.mono_l : ∀ k, (∀ y0 y1 y2 y3 y4 y5, LeO (oubliettelaw02_WordCompares.l0 k y0 y1 y2 y3 y4 y5) (oubliettelaw02_WordCompares.l0 (k + 1) y0 y1 y2 y3 y4 y5))
  | 0 => fun _ _ _ _ _ _ r h => by simp [oubliettelaw02_WordCompares.l0] at h
  | k + 1 => by
    have ih0 := oubliettelaw02_WordCompares.mono_l k
    · intro y0 y1 y2 y3 y4 y5
      unfold oubliettelaw02_WordCompares.l0
      repeat' first
      | (with_reducible exact ih0 _ _ _ _ _ _)
      | (with_reducible exact oubliettelaw02_value.mono _ _ _ _ _)
      | (with_reducible exact LeO.refl _)
      | (with_reducible exact LeO.none _)
      | (with_reducible refine LeO.ite ?_ ?_)
      | (with_reducible refine LeO.bind ?_ (fun _ => ?_))
      | exact ih0 _ _ _ _ _ _
      | exact oubliettelaw02_value.mono _ _ _ _ _
      | exact LeO.none _
      | refine LeO.ite ?_ ?_
      | refine LeO.bind ?_ (fun _ => ?_)
theorem oubliettelaw02_WordCompares.mono : ∀ a0 a1 a2 k, LeO (oubliettelaw02_WordCompares.f k a0 a1 a2) (oubliettelaw02_WordCompares.f (k + 1) a0 a1 a2) := by
  intro a0 a1 a2 k
  have ih0 := oubliettelaw02_WordCompares.mono_l k
  unfold oubliettelaw02_WordCompares.f
  repeat' first
      | (with_reducible exact ih0 _ _ _ _ _ _)
      | (with_reducible exact oubliettelaw02_value.mono _ _ _ _ _)
      | (with_reducible exact LeO.refl _)
      | (with_reducible exact LeO.none _)
      | (with_reducible refine LeO.ite ?_ ?_)
      | (with_reducible refine LeO.bind ?_ (fun _ => ?_))
      | exact ih0 _ _ _ _ _ _
      | exact oubliettelaw02_value.mono _ _ _ _ _
      | exact LeO.none _
      | refine LeO.ite ?_ ?_
      | refine LeO.bind ?_ (fun _ => ?_)
set_option maxHeartbeats 8000000 in
set_option maxRecDepth 100000 in
theorem oubliettelaw02_WordCompares.calls (k : Nat) (a0 : Bool) (a1 : Int) (a2 : Int) (r : Bool) (w : World) (h : oubliettelaw02_WordCompares.f k a0 a1 a2 = some r) :
    Calls Try.prog 12 #[.bool a0, .int .i64 a1, .int .i64 a2] w fun e w' => e = .returned (.bool r) ∧ Below w.heap.size w w' := by
  have HB := Aside0.mk (Below.refl w.heap.size w)
  have H : ((oubliettelaw02_examples.f).bind fun t187 => ((oubliettelaw02_value.f k 70 a0 a1 a2).bind fun t188 => (oubliettelaw02_WordCompares.l0 k a0 a1 a2 t187 t188 0))) = some r := h
  clear h
  replace H := Option.bind_eq_some_iff.mp H
  obtain ⟨t187, A40, H⟩ := H
  replace H : ((oubliettelaw02_value.f k 70 a0 a1 a2).bind fun t188 => (oubliettelaw02_WordCompares.l0 k a0 a1 a2 t187 t188 0)) = some r := H
  have A4 := Aside0.mk A40
  clear A40
  replace H := Option.bind_eq_some_iff.mp H
  obtain ⟨t188, A50, H⟩ := H
  replace H : (oubliettelaw02_WordCompares.l0 k a0 a1 a2 t187 t188 0) = some r := H
  have A5 := Aside0.mk A50
  clear A50
  have H' := Aside0.mk H
  clear H
  go_enter Try.func12, Try.ntmps12
  go_wp2_with (first | ((with_reducible refine gate_callee (f := 25) rfl ?_); refine goesL_ (some 12) rfl rfl Try.func25 (by kernel_rfl) rfl #[] rfl (by (try simp only [List.map_toArray, List.map_cons, List.map_nil]); first | done | rfl | (simp only [List.length_drop, List.length_take]; rfl)) ?_; (with_reducible refine (oubliettelaw02_examples.calls  t187 _ A4.out).mono ?_); rintro e w6 ⟨rfl, hb⟩; refine ⟨_, rfl, ?_⟩; have n0_ := Aside0.mk (below_step (by repeat (first | (with_reducible first | exact HB.out | apply below_alloc | apply pw_below_drewN | apply below_drew1) | exact HB.out)) hb); clear HB; have HB := n0_; clear n0_; (try clear hb); (try clear hb2); (try clear hk); (try clear hi)) | ((with_reducible refine gate_callee (f := 32) rfl ?_); refine goesL_ (some 16) rfl rfl Try.func32 (by kernel_rfl) rfl #[.int .i64 70, .bool a0, .int .i64 a1, .int .i64 a2] rfl (by (try simp only [List.map_toArray, List.map_cons, List.map_nil]); first | done | rfl | (simp only [List.length_drop, List.length_take]; rfl)) ?_; (with_reducible refine (oubliettelaw02_value.calls k 70 a0 a1 a2 t188 _ A5.out).mono ?_); rintro e w7 ⟨rfl, hb⟩; refine ⟨_, rfl, ?_⟩; have n0_ := Aside0.mk (below_step (by repeat (first | (with_reducible first | exact HB.out | apply below_alloc | apply pw_below_drewN | apply below_drew1) | exact HB.out)) hb); clear HB; have HB := n0_; clear n0_; (try clear hb); (try clear hb2); (try clear hk); (try clear hi)))
  go_loopg [9] k (fun kq v9 w' => ∃ (x9_1 : Int), v9 = .int .i64 x9_1 ∧ Aside0 (oubliettelaw02_WordCompares.l0 kq a0 a1 a2 t187 t188 x9_1 = some r) ∧ Aside0 (kq ≤ k) ∧ Aside0 (Below w.heap.size w w'))
  case atStart => exact ⟨(0), (by first | rfl | (simp; done) | (simp [*]; done)), H', ⟨Nat.le_refl _⟩, ⟨by repeat (first | (with_reducible first | exact HB.out | apply below_alloc | apply pw_below_drewN | apply below_drew1) | exact HB.out)⟩⟩
  case round =>
    clear H'
    try clear c1
    try clear c2
    try clear p2
    try clear c3
    obtain ⟨x9_1, rfl, HA, HK1, HB⟩ := hrel
    cases gk with
    | zero => exact absurd HA.out (by simp [oubliettelaw02_WordCompares.l0])
    | succ k1 =>
      have H := HA.out
      clear HA
      simp only [oubliettelaw02_WordCompares.l0] at H
      by_cases c8 : x9_1 < 2
      · rw [if_pos c8] at H
        have c8b0 : decide (x9_1 < 2) = true := decide_eq_true c8
        clear c8
        replace H := Option.bind_eq_some_iff.mp H
        obtain ⟨t189, A90, H⟩ := H
        replace H : ((oubliettelaw02_value.f k1 (wrap64 (74 + x9_1)) a0 a1 a2).bind fun t190 => (if (wrap64 ((wrap64 (t189 + t190)) + t188)) = 1 then ((oubliettelaw02_value.f k1 (wrap64 (76 + x9_1)) a0 a1 a2).bind fun t191 => (if t191 = (wrap64 (1 - t190)) then ((oubliettelaw02_value.f k1 (wrap64 (78 + x9_1)) a0 a1 a2).bind fun t192 => (if t192 = (wrap64 (1 - t189)) then ((oubliettelaw02_value.f k1 (wrap64 (72 + x9_1)) a0 a2 a1).bind fun t193 => (if t190 = t193 then (oubliettelaw02_WordCompares.l0 k1 a0 a1 a2 t187 t188 (wrap64 (x9_1 + 1))) else (some false))) else (some false))) else (some false))) else (some false))) = some r := H
        have A9 := Aside0.mk A90
        clear A90
        replace H := Option.bind_eq_some_iff.mp H
        obtain ⟨t190, A100, H⟩ := H
        replace H : (if (wrap64 ((wrap64 (t189 + t190)) + t188)) = 1 then ((oubliettelaw02_value.f k1 (wrap64 (76 + x9_1)) a0 a1 a2).bind fun t191 => (if t191 = (wrap64 (1 - t190)) then ((oubliettelaw02_value.f k1 (wrap64 (78 + x9_1)) a0 a1 a2).bind fun t192 => (if t192 = (wrap64 (1 - t189)) then ((oubliettelaw02_value.f k1 (wrap64 (72 + x9_1)) a0 a2 a1).bind fun t193 => (if t190 = t193 then (oubliettelaw02_WordCompares.l0 k1 a0 a1 a2 t187 t188 (wrap64 (x9_1 + 1))) else (some false))) else (some false))) else (some false))) else (some false)) = some r := H
        have A10 := Aside0.mk A100
        clear A100
        by_cases c11 : (wrap64 ((wrap64 (t189 + t190)) + t188)) = 1
        · rw [if_pos c11] at H
          have c11b0 : ((wrap64 ((wrap64 (t189 + t190)) + t188)) == 1) = true := beq_iff_eq.mpr c11
          have c11b1 : ((wrap64 ((wrap64 (t189 + t190)) + t188)) != 1) = false := bne_eq_false_iff_eq.mpr c11
          clear c11
          replace H := Option.bind_eq_some_iff.mp H
          obtain ⟨t191, A120, H⟩ := H
          replace H : (if t191 = (wrap64 (1 - t190)) then ((oubliettelaw02_value.f k1 (wrap64 (78 + x9_1)) a0 a1 a2).bind fun t192 => (if t192 = (wrap64 (1 - t189)) then ((oubliettelaw02_value.f k1 (wrap64 (72 + x9_1)) a0 a2 a1).bind fun t193 => (if t190 = t193 then (oubliettelaw02_WordCompares.l0 k1 a0 a1 a2 t187 t188 (wrap64 (x9_1 + 1))) else (some false))) else (some false))) else (some false)) = some r := H
          have A12 := Aside0.mk A120
          clear A120
          by_cases c13 : t191 = (wrap64 (1 - t190))
          · rw [if_pos c13] at H
            have c13b0 : (t191 == (wrap64 (1 - t190))) = true := beq_iff_eq.mpr c13
            have c13b1 : (t191 != (wrap64 (1 - t190))) = false := bne_eq_false_iff_eq.mpr c13
            clear c13
            replace H := Option.bind_eq_some_iff.mp H
            obtain ⟨t192, A140, H⟩ := H
            replace H : (if t192 = (wrap64 (1 - t189)) then ((oubliettelaw02_value.f k1 (wrap64 (72 + x9_1)) a0 a2 a1).bind fun t193 => (if t190 = t193 then (oubliettelaw02_WordCompares.l0 k1 a0 a1 a2 t187 t188 (wrap64 (x9_1 + 1))) else (some false))) else (some false)) = some r := H
            have A14 := Aside0.mk A140
            clear A140
            by_cases c15 : t192 = (wrap64 (1 - t189))
            · rw [if_pos c15] at H
              have c15b0 : (t192 == (wrap64 (1 - t189))) = true := beq_iff_eq.mpr c15
              have c15b1 : (t192 != (wrap64 (1 - t189))) = false := bne_eq_false_iff_eq.mpr c15
              clear c15
              replace H := Option.bind_eq_some_iff.mp H
              obtain ⟨t193, A160, H⟩ := H
              replace H : (if t190 = t193 then (oubliettelaw02_WordCompares.l0 k1 a0 a1 a2 t187 t188 (wrap64 (x9_1 + 1))) else (some false)) = some r := H
              have A16 := Aside0.mk A160
              clear A160
              by_cases c17 : t190 = t193
              · rw [if_pos c17] at H
                have c17b0 : (t190 == t193) = true := beq_iff_eq.mpr c17
                have c17b1 : (t190 != t193) = false := bne_eq_false_iff_eq.mpr c17
                clear c17
                have H' := Aside0.mk H
                clear H
                go_wp2_with (first | ((with_reducible refine gate_callee (f := 32) rfl ?_); refine goesL_ (some 26) rfl rfl Try.func32 (by kernel_rfl) rfl #[.int .i64 (wrap64 (72 + x9_1)), .bool a0, .int .i64 a1, .int .i64 a2] rfl (by (try simp only [List.map_toArray, List.map_cons, List.map_nil]); first | done | rfl | (simp only [List.length_drop, List.length_take]; rfl)) ?_; (with_reducible refine (oubliettelaw02_value.calls k1 (wrap64 (72 + x9_1)) a0 a1 a2 t189 _ A9.out).mono ?_); rintro e w18 ⟨rfl, hb⟩; refine ⟨_, rfl, ?_⟩; have n0_ := Aside0.mk (below_step (by repeat (first | (with_reducible first | exact HB.out | apply below_alloc | apply pw_below_drewN | apply below_drew1) | exact HB.out)) hb); clear HB; have HB := n0_; clear n0_; (try clear hb); (try clear hb2); (try clear hk); (try clear hi)) | ((with_reducible refine gate_callee (f := 32) rfl ?_); refine goesL_ (some 32) rfl rfl Try.func32 (by kernel_rfl) rfl #[.int .i64 (wrap64 (74 + x9_1)), .bool a0, .int .i64 a1, .int .i64 a2] rfl (by (try simp only [List.map_toArray, List.map_cons, List.map_nil]); first | done | rfl | (simp only [List.length_drop, List.length_take]; rfl)) ?_; (with_reducible refine (oubliettelaw02_value.calls k1 (wrap64 (74 + x9_1)) a0 a1 a2 t190 _ A10.out).mono ?_); rintro e w19 ⟨rfl, hb⟩; refine ⟨_, rfl, ?_⟩; have n0_ := Aside0.mk (below_step (by repeat (first | (with_reducible first | exact HB.out | apply below_alloc | apply pw_below_drewN | apply below_drew1) | exact HB.out)) hb); clear HB; have HB := n0_; clear n0_; (try clear hb); (try clear hb2); (try clear hk); (try clear hi)) | (go_at_call 32; (with_reducible refine (oubliettelaw02_value.calls k1 (wrap64 (76 + x9_1)) a0 a1 a2 t191 _ A12.out).mono ?_); rintro e w20 ⟨rfl, hb⟩; have n0_ := Aside0.mk (below_step (by repeat (first | (with_reducible first | exact HB.out | apply below_alloc | apply pw_below_drewN | apply below_drew1) | exact HB.out)) hb); clear HB; have HB := n0_; clear n0_; (try clear hb); (try clear hb2); (try clear hk); (try clear hi)) | (go_at_call 32; (with_reducible refine (oubliettelaw02_value.calls k1 (wrap64 (78 + x9_1)) a0 a1 a2 t192 _ A14.out).mono ?_); rintro e w21 ⟨rfl, hb⟩; have n0_ := Aside0.mk (below_step (by repeat (first | (with_reducible first | exact HB.out | apply below_alloc | apply pw_below_drewN | apply below_drew1) | exact HB.out)) hb); clear HB; have HB := n0_; clear n0_; (try clear hb); (try clear hb2); (try clear hk); (try clear hi)) | (go_at_call 32; (with_reducible refine (oubliettelaw02_value.calls k1 (wrap64 (72 + x9_1)) a0 a2 a1 t193 _ A16.out).mono ?_); rintro e w22 ⟨rfl, hb⟩; have n0_ := Aside0.mk (below_step (by repeat (first | (with_reducible first | exact HB.out | apply below_alloc | apply pw_below_drewN | apply below_drew1) | exact HB.out)) hb); clear HB; have HB := n0_; clear n0_; (try clear hb); (try clear hb2); (try clear hk); (try clear hi)))
                go_roundg k1
                case measure => have := HK1.out; omega
                case rel => exact ⟨(wrap64 (x9_1 + 1)), (by first | rfl | (simp; done) | (simp [*]; done)), H', ⟨by have := HK1.out; omega⟩, ⟨by repeat (first | (with_reducible first | exact HB.out | apply below_alloc | apply pw_below_drewN | apply below_drew1) | exact HB.out)⟩⟩
              · rw [if_neg c17] at H
                have c17b0 : (t190 == t193) = false := beq_eq_false_iff_ne.mpr c17
                have c17b1 : (t190 != t193) = true := bne_iff_ne.mpr c17
                obtain rfl := Option.some.inj H
                go_wp2_with (first | ((with_reducible refine gate_callee (f := 32) rfl ?_); refine goesL_ (some 26) rfl rfl Try.func32 (by kernel_rfl) rfl #[.int .i64 (wrap64 (72 + x9_1)), .bool a0, .int .i64 a1, .int .i64 a2] rfl (by (try simp only [List.map_toArray, List.map_cons, List.map_nil]); first | done | rfl | (simp only [List.length_drop, List.length_take]; rfl)) ?_; (with_reducible refine (oubliettelaw02_value.calls k1 (wrap64 (72 + x9_1)) a0 a1 a2 t189 _ A9.out).mono ?_); rintro e w23 ⟨rfl, hb⟩; refine ⟨_, rfl, ?_⟩; have n0_ := Aside0.mk (below_step (by repeat (first | (with_reducible first | exact HB.out | apply below_alloc | apply pw_below_drewN | apply below_drew1) | exact HB.out)) hb); clear HB; have HB := n0_; clear n0_; (try clear hb); (try clear hb2); (try clear hk); (try clear hi)) | ((with_reducible refine gate_callee (f := 32) rfl ?_); refine goesL_ (some 32) rfl rfl Try.func32 (by kernel_rfl) rfl #[.int .i64 (wrap64 (74 + x9_1)), .bool a0, .int .i64 a1, .int .i64 a2] rfl (by (try simp only [List.map_toArray, List.map_cons, List.map_nil]); first | done | rfl | (simp only [List.length_drop, List.length_take]; rfl)) ?_; (with_reducible refine (oubliettelaw02_value.calls k1 (wrap64 (74 + x9_1)) a0 a1 a2 t190 _ A10.out).mono ?_); rintro e w24 ⟨rfl, hb⟩; refine ⟨_, rfl, ?_⟩; have n0_ := Aside0.mk (below_step (by repeat (first | (with_reducible first | exact HB.out | apply below_alloc | apply pw_below_drewN | apply below_drew1) | exact HB.out)) hb); clear HB; have HB := n0_; clear n0_; (try clear hb); (try clear hb2); (try clear hk); (try clear hi)) | (go_at_call 32; (with_reducible refine (oubliettelaw02_value.calls k1 (wrap64 (76 + x9_1)) a0 a1 a2 t191 _ A12.out).mono ?_); rintro e w25 ⟨rfl, hb⟩; have n0_ := Aside0.mk (below_step (by repeat (first | (with_reducible first | exact HB.out | apply below_alloc | apply pw_below_drewN | apply below_drew1) | exact HB.out)) hb); clear HB; have HB := n0_; clear n0_; (try clear hb); (try clear hb2); (try clear hk); (try clear hi)) | (go_at_call 32; (with_reducible refine (oubliettelaw02_value.calls k1 (wrap64 (78 + x9_1)) a0 a1 a2 t192 _ A14.out).mono ?_); rintro e w26 ⟨rfl, hb⟩; have n0_ := Aside0.mk (below_step (by repeat (first | (with_reducible first | exact HB.out | apply below_alloc | apply pw_below_drewN | apply below_drew1) | exact HB.out)) hb); clear HB; have HB := n0_; clear n0_; (try clear hb); (try clear hb2); (try clear hk); (try clear hi)) | (go_at_call 32; (with_reducible refine (oubliettelaw02_value.calls k1 (wrap64 (72 + x9_1)) a0 a2 a1 t193 _ A16.out).mono ?_); rintro e w27 ⟨rfl, hb⟩; have n0_ := Aside0.mk (below_step (by repeat (first | (with_reducible first | exact HB.out | apply below_alloc | apply pw_below_drewN | apply below_drew1) | exact HB.out)) hb); clear HB; have HB := n0_; clear n0_; (try clear hb); (try clear hb2); (try clear hk); (try clear hi)))
                go_ret
                exact ⟨by first | rfl | (simp [errW_none, errW_some] <;> rfl) | (simp [*, errW_none, errW_some] <;> rfl), by repeat (first | (with_reducible first | exact HB.out | apply below_alloc | apply pw_below_drewN | apply below_drew1) | exact HB.out)⟩
            · rw [if_neg c15] at H
              have c15b0 : (t192 == (wrap64 (1 - t189))) = false := beq_eq_false_iff_ne.mpr c15
              have c15b1 : (t192 != (wrap64 (1 - t189))) = true := bne_iff_ne.mpr c15
              obtain rfl := Option.some.inj H
              go_wp2_with (first | ((with_reducible refine gate_callee (f := 32) rfl ?_); refine goesL_ (some 26) rfl rfl Try.func32 (by kernel_rfl) rfl #[.int .i64 (wrap64 (72 + x9_1)), .bool a0, .int .i64 a1, .int .i64 a2] rfl (by (try simp only [List.map_toArray, List.map_cons, List.map_nil]); first | done | rfl | (simp only [List.length_drop, List.length_take]; rfl)) ?_; (with_reducible refine (oubliettelaw02_value.calls k1 (wrap64 (72 + x9_1)) a0 a1 a2 t189 _ A9.out).mono ?_); rintro e w28 ⟨rfl, hb⟩; refine ⟨_, rfl, ?_⟩; have n0_ := Aside0.mk (below_step (by repeat (first | (with_reducible first | exact HB.out | apply below_alloc | apply pw_below_drewN | apply below_drew1) | exact HB.out)) hb); clear HB; have HB := n0_; clear n0_; (try clear hb); (try clear hb2); (try clear hk); (try clear hi)) | ((with_reducible refine gate_callee (f := 32) rfl ?_); refine goesL_ (some 32) rfl rfl Try.func32 (by kernel_rfl) rfl #[.int .i64 (wrap64 (74 + x9_1)), .bool a0, .int .i64 a1, .int .i64 a2] rfl (by (try simp only [List.map_toArray, List.map_cons, List.map_nil]); first | done | rfl | (simp only [List.length_drop, List.length_take]; rfl)) ?_; (with_reducible refine (oubliettelaw02_value.calls k1 (wrap64 (74 + x9_1)) a0 a1 a2 t190 _ A10.out).mono ?_); rintro e w29 ⟨rfl, hb⟩; refine ⟨_, rfl, ?_⟩; have n0_ := Aside0.mk (below_step (by repeat (first | (with_reducible first | exact HB.out | apply below_alloc | apply pw_below_drewN | apply below_drew1) | exact HB.out)) hb); clear HB; have HB := n0_; clear n0_; (try clear hb); (try clear hb2); (try clear hk); (try clear hi)) | (go_at_call 32; (with_reducible refine (oubliettelaw02_value.calls k1 (wrap64 (76 + x9_1)) a0 a1 a2 t191 _ A12.out).mono ?_); rintro e w30 ⟨rfl, hb⟩; have n0_ := Aside0.mk (below_step (by repeat (first | (with_reducible first | exact HB.out | apply below_alloc | apply pw_below_drewN | apply below_drew1) | exact HB.out)) hb); clear HB; have HB := n0_; clear n0_; (try clear hb); (try clear hb2); (try clear hk); (try clear hi)) | (go_at_call 32; (with_reducible refine (oubliettelaw02_value.calls k1 (wrap64 (78 + x9_1)) a0 a1 a2 t192 _ A14.out).mono ?_); rintro e w31 ⟨rfl, hb⟩; have n0_ := Aside0.mk (below_step (by repeat (first | (with_reducible first | exact HB.out | apply below_alloc | apply pw_below_drewN | apply below_drew1) | exact HB.out)) hb); clear HB; have HB := n0_; clear n0_; (try clear hb); (try clear hb2); (try clear hk); (try clear hi)))
              go_ret
              exact ⟨by first | rfl | (simp [errW_none, errW_some] <;> rfl) | (simp [*, errW_none, errW_some] <;> rfl), by repeat (first | (with_reducible first | exact HB.out | apply below_alloc | apply pw_below_drewN | apply below_drew1) | exact HB.out)⟩
          · rw [if_neg c13] at H
            have c13b0 : (t191 == (wrap64 (1 - t190))) = false := beq_eq_false_iff_ne.mpr c13
            have c13b1 : (t191 != (wrap64 (1 - t190))) = true := bne_iff_ne.mpr c13
            obtain rfl := Option.some.inj H
            go_wp2_with (first | ((with_reducible refine gate_callee (f := 32) rfl ?_); refine goesL_ (some 26) rfl rfl Try.func32 (by kernel_rfl) rfl #[.int .i64 (wrap64 (72 + x9_1)), .bool a0, .int .i64 a1, .int .i64 a2] rfl (by (try simp only [List.map_toArray, List.map_cons, List.map_nil]); first | done | rfl | (simp only [List.length_drop, List.length_take]; rfl)) ?_; (with_reducible refine (oubliettelaw02_value.calls k1 (wrap64 (72 + x9_1)) a0 a1 a2 t189 _ A9.out).mono ?_); rintro e w32 ⟨rfl, hb⟩; refine ⟨_, rfl, ?_⟩; have n0_ := Aside0.mk (below_step (by repeat (first | (with_reducible first | exact HB.out | apply below_alloc | apply pw_below_drewN | apply below_drew1) | exact HB.out)) hb); clear HB; have HB := n0_; clear n0_; (try clear hb); (try clear hb2); (try clear hk); (try clear hi)) | ((with_reducible refine gate_callee (f := 32) rfl ?_); refine goesL_ (some 32) rfl rfl Try.func32 (by kernel_rfl) rfl #[.int .i64 (wrap64 (74 + x9_1)), .bool a0, .int .i64 a1, .int .i64 a2] rfl (by (try simp only [List.map_toArray, List.map_cons, List.map_nil]); first | done | rfl | (simp only [List.length_drop, List.length_take]; rfl)) ?_; (with_reducible refine (oubliettelaw02_value.calls k1 (wrap64 (74 + x9_1)) a0 a1 a2 t190 _ A10.out).mono ?_); rintro e w33 ⟨rfl, hb⟩; refine ⟨_, rfl, ?_⟩; have n0_ := Aside0.mk (below_step (by repeat (first | (with_reducible first | exact HB.out | apply below_alloc | apply pw_below_drewN | apply below_drew1) | exact HB.out)) hb); clear HB; have HB := n0_; clear n0_; (try clear hb); (try clear hb2); (try clear hk); (try clear hi)) | (go_at_call 32; (with_reducible refine (oubliettelaw02_value.calls k1 (wrap64 (76 + x9_1)) a0 a1 a2 t191 _ A12.out).mono ?_); rintro e w34 ⟨rfl, hb⟩; have n0_ := Aside0.mk (below_step (by repeat (first | (with_reducible first | exact HB.out | apply below_alloc | apply pw_below_drewN | apply below_drew1) | exact HB.out)) hb); clear HB; have HB := n0_; clear n0_; (try clear hb); (try clear hb2); (try clear hk); (try clear hi)))
            go_ret
            exact ⟨by first | rfl | (simp [errW_none, errW_some] <;> rfl) | (simp [*, errW_none, errW_some] <;> rfl), by repeat (first | (with_reducible first | exact HB.out | apply below_alloc | apply pw_below_drewN | apply below_drew1) | exact HB.out)⟩
        · rw [if_neg c11] at H
          have c11b0 : ((wrap64 ((wrap64 (t189 + t190)) + t188)) == 1) = false := beq_eq_false_iff_ne.mpr c11
          have c11b1 : ((wrap64 ((wrap64 (t189 + t190)) + t188)) != 1) = true := bne_iff_ne.mpr c11
          obtain rfl := Option.some.inj H
          go_wp2_with (first | ((with_reducible refine gate_callee (f := 32) rfl ?_); refine goesL_ (some 26) rfl rfl Try.func32 (by kernel_rfl) rfl #[.int .i64 (wrap64 (72 + x9_1)), .bool a0, .int .i64 a1, .int .i64 a2] rfl (by (try simp only [List.map_toArray, List.map_cons, List.map_nil]); first | done | rfl | (simp only [List.length_drop, List.length_take]; rfl)) ?_; (with_reducible refine (oubliettelaw02_value.calls k1 (wrap64 (72 + x9_1)) a0 a1 a2 t189 _ A9.out).mono ?_); rintro e w35 ⟨rfl, hb⟩; refine ⟨_, rfl, ?_⟩; have n0_ := Aside0.mk (below_step (by repeat (first | (with_reducible first | exact HB.out | apply below_alloc | apply pw_below_drewN | apply below_drew1) | exact HB.out)) hb); clear HB; have HB := n0_; clear n0_; (try clear hb); (try clear hb2); (try clear hk); (try clear hi)) | ((with_reducible refine gate_callee (f := 32) rfl ?_); refine goesL_ (some 32) rfl rfl Try.func32 (by kernel_rfl) rfl #[.int .i64 (wrap64 (74 + x9_1)), .bool a0, .int .i64 a1, .int .i64 a2] rfl (by (try simp only [List.map_toArray, List.map_cons, List.map_nil]); first | done | rfl | (simp only [List.length_drop, List.length_take]; rfl)) ?_; (with_reducible refine (oubliettelaw02_value.calls k1 (wrap64 (74 + x9_1)) a0 a1 a2 t190 _ A10.out).mono ?_); rintro e w36 ⟨rfl, hb⟩; refine ⟨_, rfl, ?_⟩; have n0_ := Aside0.mk (below_step (by repeat (first | (with_reducible first | exact HB.out | apply below_alloc | apply pw_below_drewN | apply below_drew1) | exact HB.out)) hb); clear HB; have HB := n0_; clear n0_; (try clear hb); (try clear hb2); (try clear hk); (try clear hi)))
          go_ret
          exact ⟨by first | rfl | (simp [errW_none, errW_some] <;> rfl) | (simp [*, errW_none, errW_some] <;> rfl), by repeat (first | (with_reducible first | exact HB.out | apply below_alloc | apply pw_below_drewN | apply below_drew1) | exact HB.out)⟩
      · rw [if_neg c8] at H
        have c8b0 : decide (x9_1 < 2) = false := decide_eq_false c8
        clear c8
        by_cases c37 : t187 = true
        · subst c37
          have H1 : ((oubliettelaw02_value.f k1 71 a0 a1 a2).bind fun t194 => (if t194 = (wrap64 (1 - t188)) then ((word_Trim.f a0 a1).bind fun t195 => ((word_Trim.f a0 a2).bind fun t196 => (if ((t188 == 1) == (t195 == t196)) = true then ((oubliettelaw02_value.f k1 69 a0 a1 a2).bind fun t197 => ((oubliettelaw02_value.f k1 70 a0 a1 0).bind fun t198 => (some (t197 == t198)))) else (some false)))) else (some false))) = some r := by rw [if_pos rfl] at H; exact H
          clear H
          have H := H1
          clear H1
          replace H := Option.bind_eq_some_iff.mp H
          obtain ⟨t194, A380, H⟩ := H
          replace H : (if t194 = (wrap64 (1 - t188)) then ((word_Trim.f a0 a1).bind fun t195 => ((word_Trim.f a0 a2).bind fun t196 => (if ((t188 == 1) == (t195 == t196)) = true then ((oubliettelaw02_value.f k1 69 a0 a1 a2).bind fun t197 => ((oubliettelaw02_value.f k1 70 a0 a1 0).bind fun t198 => (some (t197 == t198)))) else (some false)))) else (some false)) = some r := H
          have A38 := Aside0.mk A380
          clear A380
          by_cases c39 : t194 = (wrap64 (1 - t188))
          · rw [if_pos c39] at H
            have c39b0 : (t194 == (wrap64 (1 - t188))) = true := beq_iff_eq.mpr c39
            have c39b1 : (t194 != (wrap64 (1 - t188))) = false := bne_eq_false_iff_eq.mpr c39
            clear c39
            replace H := Option.bind_eq_some_iff.mp H
            obtain ⟨t195, A400, H⟩ := H
            replace H : ((word_Trim.f a0 a2).bind fun t196 => (if ((t188 == 1) == (t195 == t196)) = true then ((oubliettelaw02_value.f k1 69 a0 a1 a2).bind fun t197 => ((oubliettelaw02_value.f k1 70 a0 a1 0).bind fun t198 => (some (t197 == t198)))) else (some false))) = some r := H
            have A40 := Aside0.mk A400
            clear A400
            replace H := Option.bind_eq_some_iff.mp H
            obtain ⟨t196, A410, H⟩ := H
            replace H : (if ((t188 == 1) == (t195 == t196)) = true then ((oubliettelaw02_value.f k1 69 a0 a1 a2).bind fun t197 => ((oubliettelaw02_value.f k1 70 a0 a1 0).bind fun t198 => (some (t197 == t198)))) else (some false)) = some r := H
            have A41 := Aside0.mk A410
            clear A410
            by_cases c42 : ((t188 == 1) == (t195 == t196)) = true
            · rw [if_pos c42] at H
              have c42b0 : ((t188 == 1) == (t195 == t196)) = true := c42
              (try (have c42b1 : decide ((t188 == 1) = (t195 == t196)) = true := by simpa using c42))
              (try (have c42b2 : ((t188 == 1) == (t195 == t196)) = true := by simpa using c42))
              clear c42
              replace H := Option.bind_eq_some_iff.mp H
              obtain ⟨t197, A430, H⟩ := H
              replace H : ((oubliettelaw02_value.f k1 70 a0 a1 0).bind fun t198 => (some (t197 == t198))) = some r := H
              have A43 := Aside0.mk A430
              clear A430
              replace H := Option.bind_eq_some_iff.mp H
              obtain ⟨t198, A440, H⟩ := H
              replace H : (some (t197 == t198)) = some r := H
              have A44 := Aside0.mk A440
              clear A440
              obtain rfl := Option.some.inj H
              go_wp2_with (first | (go_at_call 32; (with_reducible refine (oubliettelaw02_value.calls k1 71 a0 a1 a2 t194 _ A38.out).mono ?_); rintro e w45 ⟨rfl, hb⟩; have n0_ := Aside0.mk (below_step (by repeat (first | (with_reducible first | exact HB.out | apply below_alloc | apply pw_below_drewN | apply below_drew1) | exact HB.out)) hb); clear HB; have HB := n0_; clear n0_; (try clear hb); (try clear hb2); (try clear hk); (try clear hi)) | (go_at_call 30; (with_reducible refine (word_Trim.calls a0 a1 t195 _ A40.out).mono ?_); rintro e w' ⟨rfl, ⟨nd, rfl⟩⟩) | (go_at_call 30; (with_reducible refine (word_Trim.calls a0 a2 t196 _ A41.out).mono ?_); rintro e w' ⟨rfl, ⟨nd, rfl⟩⟩) | (go_at_call 32; (with_reducible refine (oubliettelaw02_value.calls k1 69 a0 a1 a2 t197 _ A43.out).mono ?_); rintro e w46 ⟨rfl, hb⟩; have n0_ := Aside0.mk (below_step (by repeat (first | (with_reducible first | exact HB.out | apply below_alloc | apply pw_below_drewN | apply below_drew1) | exact HB.out)) hb); clear HB; have HB := n0_; clear n0_; (try clear hb); (try clear hb2); (try clear hk); (try clear hi)) | (go_at_call 32; (with_reducible refine (oubliettelaw02_value.calls k1 70 a0 a1 0 t198 _ A44.out).mono ?_); rintro e w47 ⟨rfl, hb⟩; have n0_ := Aside0.mk (below_step (by repeat (first | (with_reducible first | exact HB.out | apply below_alloc | apply pw_below_drewN | apply below_drew1) | exact HB.out)) hb); clear HB; have HB := n0_; clear n0_; (try clear hb); (try clear hb2); (try clear hk); (try clear hi)))
              go_ret
              exact ⟨by first | rfl | (simp [errW_none, errW_some] <;> rfl) | (simp [*, errW_none, errW_some] <;> rfl), by repeat (first | (with_reducible first | exact HB.out | apply below_alloc | apply pw_below_drewN | apply below_drew1) | exact HB.out)⟩
            · rw [if_neg c42] at H
              have c42b0 : ((t188 == 1) == (t195 == t196)) = false := by simpa using c42
              (try (have c42b1 : decide ((t188 == 1) = (t195 == t196)) = false := by simpa using c42))
              (try (have c42b2 : ((t188 == 1) == (t195 == t196)) = false := by simpa using c42))
              (try (have c42b3 : ¬ ((t188 == 1) = (t195 == t196)) := by simpa using c42))
              clear c42
              obtain rfl := Option.some.inj H
              go_wp2_with (first | (go_at_call 32; (with_reducible refine (oubliettelaw02_value.calls k1 71 a0 a1 a2 t194 _ A38.out).mono ?_); rintro e w48 ⟨rfl, hb⟩; have n0_ := Aside0.mk (below_step (by repeat (first | (with_reducible first | exact HB.out | apply below_alloc | apply pw_below_drewN | apply below_drew1) | exact HB.out)) hb); clear HB; have HB := n0_; clear n0_; (try clear hb); (try clear hb2); (try clear hk); (try clear hi)) | (go_at_call 30; (with_reducible refine (word_Trim.calls a0 a1 t195 _ A40.out).mono ?_); rintro e w' ⟨rfl, ⟨nd, rfl⟩⟩) | (go_at_call 30; (with_reducible refine (word_Trim.calls a0 a2 t196 _ A41.out).mono ?_); rintro e w' ⟨rfl, ⟨nd, rfl⟩⟩))
              go_ret
              exact ⟨by first | rfl | (simp [errW_none, errW_some] <;> rfl) | (simp [*, errW_none, errW_some] <;> rfl), by repeat (first | (with_reducible first | exact HB.out | apply below_alloc | apply pw_below_drewN | apply below_drew1) | exact HB.out)⟩
          · rw [if_neg c39] at H
            have c39b0 : (t194 == (wrap64 (1 - t188))) = false := beq_eq_false_iff_ne.mpr c39
            have c39b1 : (t194 != (wrap64 (1 - t188))) = true := bne_iff_ne.mpr c39
            obtain rfl := Option.some.inj H
            go_wp2_with (first | (go_at_call 32; (with_reducible refine (oubliettelaw02_value.calls k1 71 a0 a1 a2 t194 _ A38.out).mono ?_); rintro e w49 ⟨rfl, hb⟩; have n0_ := Aside0.mk (below_step (by repeat (first | (with_reducible first | exact HB.out | apply below_alloc | apply pw_below_drewN | apply below_drew1) | exact HB.out)) hb); clear HB; have HB := n0_; clear n0_; (try clear hb); (try clear hb2); (try clear hk); (try clear hi)))
            go_ret
            exact ⟨by first | rfl | (simp [errW_none, errW_some] <;> rfl) | (simp [*, errW_none, errW_some] <;> rfl), by repeat (first | (with_reducible first | exact HB.out | apply below_alloc | apply pw_below_drewN | apply below_drew1) | exact HB.out)⟩
        · replace c37 := Bool.eq_false_iff.mpr c37
          subst c37
          have H1 : (some false) = some r := by rw [if_neg (show ¬ (false = true) by decide)] at H; exact H
          clear H
          have H := H1
          clear H1
          obtain rfl := Option.some.inj H
          go_wp2
          go_ret
          exact ⟨by first | rfl | (simp [errW_none, errW_some] <;> rfl) | (simp [*, errW_none, errW_some] <;> rfl), by repeat (first | (with_reducible first | exact HB.out | apply below_alloc | apply pw_below_drewN | apply below_drew1) | exact HB.out)⟩

/-- THE ONE PURE STATEMENT of oubliettelaw02_WordCompares: yours. -/
def oubliettelaw02_WordCompares.Pure : Prop := ∀ (a0 : Bool) (a1 : Int) (a2 : Int), (Lit.int .i64 a1).wf = true → (Lit.int .i64 a2).wf = true → ∃ k, oubliettelaw02_WordCompares.f k a0 a1 a2 = some true
theorem oubliettelaw02_WordCompares.walk (P : oubliettelaw02_WordCompares.Pure) (a0 : Bool) (a1 : Int) (a2 : Int) (w : World) (w1 : (Lit.int .i64 a1).wf = true) (w2 : (Lit.int .i64 a2).wf = true) :
    Calls Try.prog 12 #[.bool a0, .int .i64 a1, .int .i64 a2] w fun e w' => e = .returned (.bool true) ∧ Below w.heap.size w w' := by
  obtain ⟨k, h⟩ := P a0 a1 a2 w1 w2
  refine (oubliettelaw02_WordCompares.calls k a0 a1 a2 true w h).mono ?_
  rintro e w' ⟨rfl, hd⟩
  exact ⟨rfl, hd⟩

end Go.Proofs.Ytobopkkdjkjafaa.Pw
