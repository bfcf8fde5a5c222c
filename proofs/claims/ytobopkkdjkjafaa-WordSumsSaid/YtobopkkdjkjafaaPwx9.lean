-- Written by this session's own program (wip/print2), by the way of the kit's print; Lean checks it.
import Derived.Test.YtobopkkdjkjafaaPwx0
import Derived.Test.YtobopkkdjkjafaaPwx1
import Derived.Test.YtobopkkdjkjafaaPwx3
import Derived.Test.YtobopkkdjkjafaaPwx8
namespace Go.Proofs.Ytobopkkdjkjafaa.Pw
open Go.RowKit Go.Proofs.YtobopkkdjkjafaaW.PrintWords Go.Proofs.YtobopkkdjkjafaaW.PrintLast Go.Proofs.YtobopkkdjkjafaaW.PrintMore
attribute [local go_sem] max2_int min2_int max_two min_two max_three min_three max_four min_four   -- for this text's walks alone
set_option linter.unusedVariables false
set_option linter.unusedSimpArgs false

/-! ### oubliettelaw02_WordSums: function 10 -/
mutual
def oubliettelaw02_WordSums.j0 : Nat → Bool → Int → Int → Int → Bool → Int → Int → Int → Option (Bool)
  | 0, _, _, _, _, _, _, _, _ => none
  | k + 1, x0, x1, x2, x3, x9, x10, x11, x12 => oubliettelaw02_WordSums.l0 k x0 x1 x2 (Int.tmod x3 51) x9 x10 x11 x12 0 0
def oubliettelaw02_WordSums.l0 : Nat → Bool → Int → Int → Int → Bool → Int → Int → Int → Int → Int → Option (Bool)
  | 0, _, _, _, _, _, _, _, _, _, _ => none
  | k + 1, x0, x1, x2, x3, x9, x10, x11, x12, x13, x14 => if x14 < x3 then ((oubliettelaw02_value.f k 106 x0 x13 x1).bind fun t163 => (oubliettelaw02_WordSums.l0 k x0 x1 x2 x3 x9 x10 x11 x12 t163 (wrap64 (x14 + 1)))) else (if x9 = true then ((oubliettelaw02_value.f k 107 x0 x12 x2).bind fun t164 => (if t164 = x10 then ((oubliettelaw02_value.f k 106 x0 x11 x10).bind fun t165 => (if x12 = t165 then ((oubliettelaw02_value.f k 108 x0 x1 x3).bind fun t166 => (if t166 = x13 then ((oubliettelaw02_value.f k 108 x0 x1 x2).bind fun t167 => ((oubliettelaw02_value.f k 108 x0 x2 x1).bind fun t168 => (some (t167 == t168)))) else (some false))) else (some false))) else (some false))) else (some false))
end
def oubliettelaw02_WordSums.f (k : Nat) (a0 : Bool) (a1 : Int) (a2 : Int) (a3 : Int) : Option (Bool) := (oubliettelaw02_examples.f).bind fun t159 => ((word_Trim.f a0 a1).bind fun t160 => ((word_Trim.f a0 a2).bind fun t161 => ((oubliettelaw02_value.f k 106 a0 a1 a2).bind fun t162 => (if a3 < 0 then (oubliettelaw02_WordSums.j0 k a0 a1 a2 (wrap64 (-(wrap64 (a3 + 1)))) t159 t160 t161 t162) else (oubliettelaw02_WordSums.j0 k a0 a1 a2 a3 t159 t160 t161 t162)))))
theorem oubliettelaw02_WordSums.mono_l : ∀ k, (∀ y0 y1 y2 y3 y4 y5 y6 y7, LeO (oubliettelaw02_WordSums.j0 k y0 y1 y2 y3 y4 y5 y6 y7) (oubliettelaw02_WordSums.j0 (k + 1) y0 y1 y2 y3 y4 y5 y6 y7)) ∧ (∀ y0 y1 y2 y3 y4 y5 y6 y7 y8 y9, LeO (oubliettelaw02_WordSums.l0 k y0 y1 y2 y3 y4 y5 y6 y7 y8 y9) (oubliettelaw02_WordSums.l0 (k + 1) y0 y1 y2 y3 y4 y5 y6 y7 y8 y9))
  | 0 => ⟨fun _ _ _ _ _ _ _ _ r h => by simp [oubliettelaw02_WordSums.j0] at h, fun _ _ _ _ _ _ _ _ _ _ r h => by simp [oubliettelaw02_WordSums.l0] at h⟩
  | k + 1 => by
    obtain ⟨ih0, ih1⟩ := oubliettelaw02_WordSums.mono_l k
    refine ⟨?_, ?_⟩
    · intro y0 y1 y2 y3 y4 y5 y6 y7
      unfold oubliettelaw02_WordSums.j0
      repeat' first
      | (with_reducible exact ih0 _ _ _ _ _ _ _ _)
      | (with_reducible exact ih1 _ _ _ _ _ _ _ _ _ _)
      | (with_reducible exact oubliettelaw02_value.mono _ _ _ _ _)
      | (with_reducible exact LeO.refl _)
      | (with_reducible exact LeO.none _)
      | (with_reducible refine LeO.ite ?_ ?_)
      | (with_reducible refine LeO.bind ?_ (fun _ => ?_))
      | exact ih0 _ _ _ _ _ _ _ _
      | exact ih1 _ _ _ _ _ _ _ _ _ _
      | exact oubliettelaw02_value.mono _ _ _ _ _
      | exact LeO.none _
      | refine LeO.ite ?_ ?_
      | refine LeO.bind ?_ (fun _ => ?_)
    · intro y0 y1 y2 y3 y4 y5 y6 y7 y8 y9
      unfold oubliettelaw02_WordSums.l0
      repeat' first
      | (with_reducible exact ih0 _ _ _ _ _ _ _ _)
      | (with_reducible exact ih1 _ _ _ _ _ _ _ _ _ _)
      | (with_reducible exact oubliettelaw02_value.mono _ _ _ _ _)
      | (with_reducible exact LeO.refl _)
      | (with_reducible exact LeO.none _)
      | (with_reducible refine LeO.ite ?_ ?_)
      | (with_reducible refine LeO.bind ?_ (fun _ => ?_))
      | exact ih0 _ _ _ _ _ _ _ _
      | exact ih1 _ _ _ _ _ _ _ _ _ _
      | exact oubliettelaw02_value.mono _ _ _ _ _
      | exact LeO.none _
      | refine LeO.ite ?_ ?_
      | refine LeO.bind ?_ (fun _ => ?_)
theorem oubliettelaw02_WordSums.mono : ∀ a0 a1 a2 a3 k, LeO (oubliettelaw02_WordSums.f k a0 a1 a2 a3) (oubliettelaw02_WordSums.f (k + 1) a0 a1 a2 a3) := by
  intro a0 a1 a2 a3 k
  obtain ⟨ih0, ih1⟩ := oubliettelaw02_WordSums.mono_l k
  unfold oubliettelaw02_WordSums.f
  repeat' first
      | (with_reducible exact ih0 _ _ _ _ _ _ _ _)
      | (with_reducible exact ih1 _ _ _ _ _ _ _ _ _ _)
      | (with_reducible exact oubliettelaw02_value.mono _ _ _ _ _)
      | (with_reducible exact LeO.refl _)
      | (with_reducible exact LeO.none _)
      | (with_reducible refine LeO.ite ?_ ?_)
      | (with_reducible refine LeO.bind ?_ (fun _ => ?_))
      | exact ih0 _ _ _ _ _ _ _ _
      | exact ih1 _ _ _ _ _ _ _ _ _ _
      | exact oubliettelaw02_value.mono _ _ _ _ _
      | exact LeO.none _
      | refine LeO.ite ?_ ?_
      | refine LeO.bind ?_ (fun _ => ?_)
set_option maxHeartbeats 8000000 in
set_option maxRecDepth 100000 in
theorem oubliettelaw02_WordSums.calls (k : Nat) (a0 : Bool) (a1 : Int) (a2 : Int) (a3 : Int) (r : Bool) (w : World) (h : oubliettelaw02_WordSums.f k a0 a1 a2 a3 = some r) :
    Calls Try.prog 10 #[.bool a0, .int .i64 a1, .int .i64 a2, .int .i64 a3] w fun e w' => e = .returned (.bool r) ∧ Below w.heap.size w w' := by
  have HB := Aside0.mk (Below.refl w.heap.size w)
  have H : ((oubliettelaw02_examples.f).bind fun t159 => ((word_Trim.f a0 a1).bind fun t160 => ((word_Trim.f a0 a2).bind fun t161 => ((oubliettelaw02_value.f k 106 a0 a1 a2).bind fun t162 => (if a3 < 0 then (oubliettelaw02_WordSums.j0 k a0 a1 a2 (wrap64 (-(wrap64 (a3 + 1)))) t159 t160 t161 t162) else (oubliettelaw02_WordSums.j0 k a0 a1 a2 a3 t159 t160 t161 t162)))))) = some r := h
  clear h
  replace H := Option.bind_eq_some_iff.mp H
  obtain ⟨t159, A50, H⟩ := H
  replace H : ((word_Trim.f a0 a1).bind fun t160 => ((word_Trim.f a0 a2).bind fun t161 => ((oubliettelaw02_value.f k 106 a0 a1 a2).bind fun t162 => (if a3 < 0 then (oubliettelaw02_WordSums.j0 k a0 a1 a2 (wrap64 (-(wrap64 (a3 + 1)))) t159 t160 t161 t162) else (oubliettelaw02_WordSums.j0 k a0 a1 a2 a3 t159 t160 t161 t162))))) = some r := H
  have A5 := Aside0.mk A50
  clear A50
  replace H := Option.bind_eq_some_iff.mp H
  obtain ⟨t160, A60, H⟩ := H
  replace H : ((word_Trim.f a0 a2).bind fun t161 => ((oubliettelaw02_value.f k 106 a0 a1 a2).bind fun t162 => (if a3 < 0 then (oubliettelaw02_WordSums.j0 k a0 a1 a2 (wrap64 (-(wrap64 (a3 + 1)))) t159 t160 t161 t162) else (oubliettelaw02_WordSums.j0 k a0 a1 a2 a3 t159 t160 t161 t162)))) = some r := H
  have A6 := Aside0.mk A60
  clear A60
  replace H := Option.bind_eq_some_iff.mp H
  obtain ⟨t161, A70, H⟩ := H
  replace H : ((oubliettelaw02_value.f k 106 a0 a1 a2).bind fun t162 => (if a3 < 0 then (oubliettelaw02_WordSums.j0 k a0 a1 a2 (wrap64 (-(wrap64 (a3 + 1)))) t159 t160 t161 t162) else (oubliettelaw02_WordSums.j0 k a0 a1 a2 a3 t159 t160 t161 t162))) = some r := H
  have A7 := Aside0.mk A70
  clear A70
  replace H := Option.bind_eq_some_iff.mp H
  obtain ⟨t162, A80, H⟩ := H
  replace H : (if a3 < 0 then (oubliettelaw02_WordSums.j0 k a0 a1 a2 (wrap64 (-(wrap64 (a3 + 1)))) t159 t160 t161 t162) else (oubliettelaw02_WordSums.j0 k a0 a1 a2 a3 t159 t160 t161 t162)) = some r := H
  have A8 := Aside0.mk A80
  clear A80
  have HC9 := Aside0.mk H
  clear H
  go_enter Try.func10, Try.ntmps10
  go_upto_if 27 with (first | ((with_reducible refine gate_callee (f := 25) rfl ?_); refine goesL_ (some 15) rfl rfl Try.func25 (by kernel_rfl) rfl #[] rfl (by (try simp only [List.map_toArray, List.map_cons, List.map_nil]); first | done | rfl | (simp only [List.length_drop, List.length_take]; rfl)) ?_; (with_reducible refine (oubliettelaw02_examples.calls  t159 _ A5.out).mono ?_); rintro e w10 ⟨rfl, hb⟩; refine ⟨_, rfl, ?_⟩; have n0_ := Aside0.mk (below_step (by repeat (first | (with_reducible first | exact HB.out | apply below_alloc | apply pw_below_drewN | apply below_drew1) | exact HB.out)) hb); clear HB; have HB := n0_; clear n0_; (try clear hb); (try clear hb2); (try clear hk); (try clear hi)) | ((with_reducible refine gate_callee (f := 30) rfl ?_); refine goesL_ (some 18) rfl rfl Try.func30 (by kernel_rfl) rfl #[.bool a0, .int .i64 a1] rfl (by (try simp only [List.map_toArray, List.map_cons, List.map_nil]); first | done | rfl | (simp only [List.length_drop, List.length_take]; rfl)) ?_; (with_reducible refine (word_Trim.calls a0 a1 t160 _ A6.out).mono ?_); rintro e w' ⟨rfl, ⟨nd, rfl⟩⟩; refine ⟨_, rfl, ?_⟩) | ((with_reducible refine gate_callee (f := 30) rfl ?_); refine goesL_ (some 21) rfl rfl Try.func30 (by kernel_rfl) rfl #[.bool a0, .int .i64 a2] rfl (by (try simp only [List.map_toArray, List.map_cons, List.map_nil]); first | done | rfl | (simp only [List.length_drop, List.length_take]; rfl)) ?_; (with_reducible refine (word_Trim.calls a0 a2 t161 _ A7.out).mono ?_); rintro e w' ⟨rfl, ⟨nd, rfl⟩⟩; refine ⟨_, rfl, ?_⟩) | ((with_reducible refine gate_callee (f := 32) rfl ?_); refine goesL_ (some 25) rfl rfl Try.func32 (by kernel_rfl) rfl #[.int .i64 106, .bool a0, .int .i64 a1, .int .i64 a2] rfl (by (try simp only [List.map_toArray, List.map_cons, List.map_nil]); first | done | rfl | (simp only [List.length_drop, List.length_take]; rfl)) ?_; (with_reducible refine (oubliettelaw02_value.calls k 106 a0 a1 a2 t162 _ A8.out).mono ?_); rintro e w11 ⟨rfl, hb⟩; refine ⟨_, rfl, ?_⟩; have n0_ := Aside0.mk (below_step (by repeat (first | (with_reducible first | exact HB.out | apply below_alloc | apply pw_below_drewN | apply below_drew1) | exact HB.out)) hb); clear HB; have HB := n0_; clear n0_; (try clear hb); (try clear hb2); (try clear hk); (try clear hi)))
  (try simp only [Act.put, List.setIfInBounds_toArray, List.set_cons_zero, List.set_cons_succ])
  go_cut [3] (fun v3 wc => ∃ (kq : Nat) (x3_8 : Int), v3 = .int .i64 x3_8 ∧ Aside0 (oubliettelaw02_WordSums.j0 kq a0 a1 a2 x3_8 t159 t160 t161 t162 = some r) ∧ Aside0 (kq ≤ k) ∧ Aside0 (Below w.heap.size w wc))
  case first =>
    have H := HC9.out
    clear HC9
    by_cases c12 : a3 < 0
    · rw [if_pos c12] at H
      have c12b0 : decide (a3 < 0) = true := decide_eq_true c12
      clear c12
      (first | rw [c12b0] | (simp only [i64_w, i32_w]; rw [c12b0]) | skip)
      have H' := Aside0.mk H
      clear H
      go_wp2
      go_meet
      case rel => exact ⟨_, (wrap64 (-(wrap64 (a3 + 1)))), (by first | rfl | (simp; done) | (simp [*]; done)), H', ⟨by first | omega | exact Nat.le_refl _⟩, ⟨by repeat (first | (with_reducible first | exact HB.out | apply below_alloc | apply pw_below_drewN | apply below_drew1) | exact HB.out)⟩⟩
    · rw [if_neg c12] at H
      have c12b0 : decide (a3 < 0) = false := decide_eq_false c12
      clear c12
      (first | rw [c12b0] | (simp only [i64_w, i32_w]; rw [c12b0]) | skip)
      have H' := Aside0.mk H
      clear H
      go_wp2
      go_meet
      case rel => exact ⟨_, (a3), (by first | rfl | (simp; done) | (simp [*]; done)), H', ⟨by first | omega | exact Nat.le_refl _⟩, ⟨by repeat (first | (with_reducible first | exact HB.out | apply below_alloc | apply pw_below_drewN | apply below_drew1) | exact HB.out)⟩⟩
  case rest =>
    clear HC9
    try clear c1
    try clear c2
    try clear p2
    try clear c3
    try clear p6
    try clear c10
    try clear c12
    try clear c12b0
    obtain ⟨kq, x3_8, rfl, HA, HJ8, HB⟩ := hcut
    cases kq with
    | zero => exact absurd HA.out (by simp [oubliettelaw02_WordSums.j0])
    | succ kj8 =>
      have H := HA.out
      clear HA
      simp only [oubliettelaw02_WordSums.j0] at H
      have H' := Aside0.mk H
      clear H
      go_wp2
      go_loopg [13, 14] kj8 (fun kq v13 v14 w' => ∃ (x13_2 : Int) (x14_2 : Int), v13 = .int .i64 x13_2 ∧ v14 = .int .i64 x14_2 ∧ Aside0 (oubliettelaw02_WordSums.l0 kq a0 a1 a2 (Int.tmod x3_8 51) t159 t160 t161 t162 x13_2 x14_2 = some r) ∧ Aside0 (kq ≤ kj8) ∧ Aside0 (Below w.heap.size w w'))
      case atStart => exact ⟨(0), (0), (by first | rfl | (simp; done) | (simp [*]; done)), (by first | rfl | (simp; done) | (simp [*]; done)), H', ⟨Nat.le_refl _⟩, ⟨by repeat (first | (with_reducible first | exact HB.out | apply below_alloc | apply pw_below_drewN | apply below_drew1) | exact HB.out)⟩⟩
      case round =>
        clear H'
        try clear c1
        try clear c2
        try clear p2
        try clear c3
        try clear p6
        try clear c10
        try clear c12
        try clear c12b0
        try clear p2
        try clear p6
        obtain ⟨x13_2, x14_2, rfl, rfl, HA, HK2, HB⟩ := hrel
        cases gk with
        | zero => exact absurd HA.out (by simp [oubliettelaw02_WordSums.l0])
        | succ k2 =>
          have H := HA.out
          clear HA
          simp only [oubliettelaw02_WordSums.l0] at H
          by_cases c13 : x14_2 < (Int.tmod x3_8 51)
          · rw [if_pos c13] at H
            have c13b0 : decide (x14_2 < (Int.tmod x3_8 51)) = true := decide_eq_true c13
            clear c13
            replace H := Option.bind_eq_some_iff.mp H
            obtain ⟨t163, A140, H⟩ := H
            replace H : (oubliettelaw02_WordSums.l0 k2 a0 a1 a2 (Int.tmod x3_8 51) t159 t160 t161 t162 t163 (wrap64 (x14_2 + 1))) = some r := H
            have A14 := Aside0.mk A140
            clear A140
            have H' := Aside0.mk H
            clear H
            go_wp2_with (first | ((with_reducible refine gate_callee (f := 32) rfl ?_); refine goesL_ (some 41) rfl rfl Try.func32 (by kernel_rfl) rfl #[.int .i64 106, .bool a0, .int .i64 x13_2, .int .i64 a1] rfl (by (try simp only [List.map_toArray, List.map_cons, List.map_nil]); first | done | rfl | (simp only [List.length_drop, List.length_take]; rfl)) ?_; (with_reducible refine (oubliettelaw02_value.calls k2 106 a0 x13_2 a1 t163 _ A14.out).mono ?_); rintro e w15 ⟨rfl, hb⟩; refine ⟨_, rfl, ?_⟩; have n0_ := Aside0.mk (below_step (by repeat (first | (with_reducible first | exact HB.out | apply below_alloc | apply pw_below_drewN | apply below_drew1) | exact HB.out)) hb); clear HB; have HB := n0_; clear n0_; (try clear hb); (try clear hb2); (try clear hk); (try clear hi)))
            go_roundg k2
            case measure => have := HJ8.out; have := HK2.out; omega
            case rel => exact ⟨(t163), (wrap64 (x14_2 + 1)), (by first | rfl | (simp; done) | (simp [*]; done)), (by first | rfl | (simp; done) | (simp [*]; done)), H', ⟨by have := HJ8.out; have := HK2.out; omega⟩, ⟨by repeat (first | (with_reducible first | exact HB.out | apply below_alloc | apply pw_below_drewN | apply below_drew1) | exact HB.out)⟩⟩
          · rw [if_neg c13] at H
            have c13b0 : decide (x14_2 < (Int.tmod x3_8 51)) = false := decide_eq_false c13
            clear c13
            by_cases c16 : t159 = true
            · subst c16
              have H1 : ((oubliettelaw02_value.f k2 107 a0 t162 a2).bind fun t164 => (if t164 = t160 then ((oubliettelaw02_value.f k2 106 a0 t161 t160).bind fun t165 => (if t162 = t165 then ((oubliettelaw02_value.f k2 108 a0 a1 (Int.tmod x3_8 51)).bind fun t166 => (if t166 = x13_2 then ((oubliettelaw02_value.f k2 108 a0 a1 a2).bind fun t167 => ((oubliettelaw02_value.f k2 108 a0 a2 a1).bind fun t168 => (some (t167 == t168)))) else (some false))) else (some false))) else (some false))) = some r := by rw [if_pos rfl] at H; exact H
              clear H
              have H := H1
              clear H1
              replace H := Option.bind_eq_some_iff.mp H
              obtain ⟨t164, A170, H⟩ := H
              replace H : (if t164 = t160 then ((oubliettelaw02_value.f k2 106 a0 t161 t160).bind fun t165 => (if t162 = t165 then ((oubliettelaw02_value.f k2 108 a0 a1 (Int.tmod x3_8 51)).bind fun t166 => (if t166 = x13_2 then ((oubliettelaw02_value.f k2 108 a0 a1 a2).bind fun t167 => ((oubliettelaw02_value.f k2 108 a0 a2 a1).bind fun t168 => (some (t167 == t168)))) else (some false))) else (some false))) else (some false)) = some r := H
              have A17 := Aside0.mk A170
              clear A170
              by_cases c18 : t164 = t160
              · rw [if_pos c18] at H
                have c18b0 : (t164 == t160) = true := beq_iff_eq.mpr c18
                have c18b1 : (t164 != t160) = false := bne_eq_false_iff_eq.mpr c18
                clear c18
                replace H := Option.bind_eq_some_iff.mp H
                obtain ⟨t165, A190, H⟩ := H
                replace H : (if t162 = t165 then ((oubliettelaw02_value.f k2 108 a0 a1 (Int.tmod x3_8 51)).bind fun t166 => (if t166 = x13_2 then ((oubliettelaw02_value.f k2 108 a0 a1 a2).bind fun t167 => ((oubliettelaw02_value.f k2 108 a0 a2 a1).bind fun t168 => (some (t167 == t168)))) else (some false))) else (some false)) = some r := H
                have A19 := Aside0.mk A190
                clear A190
                by_cases c20 : t162 = t165
                · rw [if_pos c20] at H
                  have c20b0 : (t162 == t165) = true := beq_iff_eq.mpr c20
                  have c20b1 : (t162 != t165) = false := bne_eq_false_iff_eq.mpr c20
                  clear c20
                  replace H := Option.bind_eq_some_iff.mp H
                  obtain ⟨t166, A210, H⟩ := H
                  replace H : (if t166 = x13_2 then ((oubliettelaw02_value.f k2 108 a0 a1 a2).bind fun t167 => ((oubliettelaw02_value.f k2 108 a0 a2 a1).bind fun t168 => (some (t167 == t168)))) else (some false)) = some r := H
                  have A21 := Aside0.mk A210
                  clear A210
                  by_cases c22 : t166 = x13_2
                  · rw [if_pos c22] at H
                    have c22b0 : (t166 == x13_2) = true := beq_iff_eq.mpr c22
                    have c22b1 : (t166 != x13_2) = false := bne_eq_false_iff_eq.mpr c22
                    clear c22
                    replace H := Option.bind_eq_some_iff.mp H
                    obtain ⟨t167, A230, H⟩ := H
                    replace H : ((oubliettelaw02_value.f k2 108 a0 a2 a1).bind fun t168 => (some (t167 == t168))) = some r := H
                    have A23 := Aside0.mk A230
                    clear A230
                    replace H := Option.bind_eq_some_iff.mp H
                    obtain ⟨t168, A240, H⟩ := H
                    replace H : (some (t167 == t168)) = some r := H
                    have A24 := Aside0.mk A240
                    clear A240
                    obtain rfl := Option.some.inj H
                    go_wp2_with (first | (go_at_call 32; (with_reducible refine (oubliettelaw02_value.calls k2 107 a0 t162 a2 t164 _ A17.out).mono ?_); rintro e w25 ⟨rfl, hb⟩; have n0_ := Aside0.mk (below_step (by repeat (first | (with_reducible first | exact HB.out | apply below_alloc | apply pw_below_drewN | apply below_drew1) | exact HB.out)) hb); clear HB; have HB := n0_; clear n0_; (try clear hb); (try clear hb2); (try clear hk); (try clear hi)) | (go_at_call 32; (with_reducible refine (oubliettelaw02_value.calls k2 106 a0 t161 t160 t165 _ A19.out).mono ?_); rintro e w26 ⟨rfl, hb⟩; have n0_ := Aside0.mk (below_step (by repeat (first | (with_reducible first | exact HB.out | apply below_alloc | apply pw_below_drewN | apply below_drew1) | exact HB.out)) hb); clear HB; have HB := n0_; clear n0_; (try clear hb); (try clear hb2); (try clear hk); (try clear hi)) | (go_at_call 32; (with_reducible refine (oubliettelaw02_value.calls k2 108 a0 a1 (Int.tmod x3_8 51) t166 _ A21.out).mono ?_); rintro e w27 ⟨rfl, hb⟩; have n0_ := Aside0.mk (below_step (by repeat (first | (with_reducible first | exact HB.out | apply below_alloc | apply pw_below_drewN | apply below_drew1) | exact HB.out)) hb); clear HB; have HB := n0_; clear n0_; (try clear hb); (try clear hb2); (try clear hk); (try clear hi)) | (go_at_call 32; (with_reducible refine (oubliettelaw02_value.calls k2 108 a0 a1 a2 t167 _ A23.out).mono ?_); rintro e w28 ⟨rfl, hb⟩; have n0_ := Aside0.mk (below_step (by repeat (first | (with_reducible first | exact HB.out | apply below_alloc | apply pw_below_drewN | apply below_drew1) | exact HB.out)) hb); clear HB; have HB := n0_; clear n0_; (try clear hb); (try clear hb2); (try clear hk); (try clear hi)) | (go_at_call 32; (with_reducible refine (oubliettelaw02_value.calls k2 108 a0 a2 a1 t168 _ A24.out).mono ?_); rintro e w29 ⟨rfl, hb⟩; have n0_ := Aside0.mk (below_step (by repeat (first | (with_reducible first | exact HB.out | apply below_alloc | apply pw_below_drewN | apply below_drew1) | exact HB.out)) hb); clear HB; have HB := n0_; clear n0_; (try clear hb); (try clear hb2); (try clear hk); (try clear hi)))
                    go_ret
                    exact ⟨by first | rfl | (simp [errW_none, errW_some] <;> rfl) | (simp [*, errW_none, errW_some] <;> rfl), by repeat (first | (with_reducible first | exact HB.out | apply below_alloc | apply pw_below_drewN | apply below_drew1) | exact HB.out)⟩
                  · rw [if_neg c22] at H
                    have c22b0 : (t166 == x13_2) = false := beq_eq_false_iff_ne.mpr c22
                    have c22b1 : (t166 != x13_2) = true := bne_iff_ne.mpr c22
                    obtain rfl := Option.some.inj H
                    go_wp2_with (first | (go_at_call 32; (with_reducible refine (oubliettelaw02_value.calls k2 107 a0 t162 a2 t164 _ A17.out).mono ?_); rintro e w30 ⟨rfl, hb⟩; have n0_ := Aside0.mk (below_step (by repeat (first | (with_reducible first | exact HB.out | apply below_alloc | apply pw_below_drewN | apply below_drew1) | exact HB.out)) hb); clear HB; have HB := n0_; clear n0_; (try clear hb); (try clear hb2); (try clear hk); (try clear hi)) | (go_at_call 32; (with_reducible refine (oubliettelaw02_value.calls k2 106 a0 t161 t160 t165 _ A19.out).mono ?_); rintro e w31 ⟨rfl, hb⟩; have n0_ := Aside0.mk (below_step (by repeat (first | (with_reducible first | exact HB.out | apply below_alloc | apply pw_below_drewN | apply below_drew1) | exact HB.out)) hb); clear HB; have HB := n0_; clear n0_; (try clear hb); (try clear hb2); (try clear hk); (try clear hi)) | (go_at_call 32; (with_reducible refine (oubliettelaw02_value.calls k2 108 a0 a1 (Int.tmod x3_8 51) t166 _ A21.out).mono ?_); rintro e w32 ⟨rfl, hb⟩; have n0_ := Aside0.mk (below_step (by repeat (first | (with_reducible first | exact HB.out | apply below_alloc | apply pw_below_drewN | apply below_drew1) | exact HB.out)) hb); clear HB; have HB := n0_; clear n0_; (try clear hb); (try clear hb2); (try clear hk); (try clear hi)))
                    go_ret
                    exact ⟨by first | rfl | (simp [errW_none, errW_some] <;> rfl) | (simp [*, errW_none, errW_some] <;> rfl), by repeat (first | (with_reducible first | exact HB.out | apply below_alloc | apply pw_below_drewN | apply below_drew1) | exact HB.out)⟩
                · rw [if_neg c20] at H
                  have c20b0 : (t162 == t165) = false := beq_eq_false_iff_ne.mpr c20
                  have c20b1 : (t162 != t165) = true := bne_iff_ne.mpr c20
                  obtain rfl := Option.some.inj H
                  go_wp2_with (first | (go_at_call 32; (with_reducible refine (oubliettelaw02_value.calls k2 107 a0 t162 a2 t164 _ A17.out).mono ?_); rintro e w33 ⟨rfl, hb⟩; have n0_ := Aside0.mk (below_step (by repeat (first | (with_reducible first | exact HB.out | apply below_alloc | apply pw_below_drewN | apply below_drew1) | exact HB.out)) hb); clear HB; have HB := n0_; clear n0_; (try clear hb); (try clear hb2); (try clear hk); (try clear hi)) | (go_at_call 32; (with_reducible refine (oubliettelaw02_value.calls k2 106 a0 t161 t160 t165 _ A19.out).mono ?_); rintro e w34 ⟨rfl, hb⟩; have n0_ := Aside0.mk (below_step (by repeat (first | (with_reducible first | exact HB.out | apply below_alloc | apply pw_below_drewN | apply below_drew1) | exact HB.out)) hb); clear HB; have HB := n0_; clear n0_; (try clear hb); (try clear hb2); (try clear hk); (try clear hi)))
                  go_ret
                  exact ⟨by first | rfl | (simp [errW_none, errW_some] <;> rfl) | (simp [*, errW_none, errW_some] <;> rfl), by repeat (first | (with_reducible first | exact HB.out | apply below_alloc | apply pw_below_drewN | apply below_drew1) | exact HB.out)⟩
              · rw [if_neg c18] at H
                have c18b0 : (t164 == t160) = false := beq_eq_false_iff_ne.mpr c18
                have c18b1 : (t164 != t160) = true := bne_iff_ne.mpr c18
                obtain rfl := Option.some.inj H
                go_wp2_with (first | (go_at_call 32; (with_reducible refine (oubliettelaw02_value.calls k2 107 a0 t162 a2 t164 _ A17.out).mono ?_); rintro e w35 ⟨rfl, hb⟩; have n0_ := Aside0.mk (below_step (by repeat (first | (with_reducible first | exact HB.out | apply below_alloc | apply pw_below_drewN | apply below_drew1) | exact HB.out)) hb); clear HB; have HB := n0_; clear n0_; (try clear hb); (try clear hb2); (try clear hk); (try clear hi)))
                go_ret
                exact ⟨by first | rfl | (simp [errW_none, errW_some] <;> rfl) | (simp [*, errW_none, errW_some] <;> rfl), by repeat (first | (with_reducible first | exact HB.out | apply below_alloc | apply pw_below_drewN | apply below_drew1) | exact HB.out)⟩
            · replace c16 := Bool.eq_false_iff.mpr c16
              subst c16
              have H1 : (some false) = some r := by rw [if_neg (show ¬ (false = true) by decide)] at H; exact H
              clear H
              have H := H1
              clear H1
              obtain rfl := Option.some.inj H
              go_wp2
              go_ret
              exact ⟨by first | rfl | (simp [errW_none, errW_some] <;> rfl) | (simp [*, errW_none, errW_some] <;> rfl), by repeat (first | (with_reducible first | exact HB.out | apply below_alloc | apply pw_below_drewN | apply below_drew1) | exact HB.out)⟩

/-- THE ONE PURE STATEMENT of oubliettelaw02_WordSums: yours. -/
def oubliettelaw02_WordSums.Pure : Prop := ∀ (a0 : Bool) (a1 : Int) (a2 : Int) (a3 : Int), (Lit.int .i64 a1).wf = true → (Lit.int .i64 a2).wf = true → (Lit.int .i64 a3).wf = true → ∃ k, oubliettelaw02_WordSums.f k a0 a1 a2 a3 = some true
theorem oubliettelaw02_WordSums.walk (P : oubliettelaw02_WordSums.Pure) (a0 : Bool) (a1 : Int) (a2 : Int) (a3 : Int) (w : World) (w1 : (Lit.int .i64 a1).wf = true) (w2 : (Lit.int .i64 a2).wf = true) (w3 : (Lit.int .i64 a3).wf = true) :
    Calls Try.prog 10 #[.bool a0, .int .i64 a1, .int .i64 a2, .int .i64 a3] w fun e w' => e = .returned (.bool true) ∧ Below w.heap.size w w' := by
  obtain ⟨k, h⟩ := P a0 a1 a2 a3 w1 w2 w3
  refine (oubliettelaw02_WordSums.calls k a0 a1 a2 a3 true w h).mono ?_
  rintro e w' ⟨rfl, hd⟩
  exact ⟨rfl, hd⟩

end Go.Proofs.Ytobopkkdjkjafaa.Pw
