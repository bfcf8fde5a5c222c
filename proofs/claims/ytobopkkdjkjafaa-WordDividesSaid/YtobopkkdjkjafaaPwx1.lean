-- Written by this session's own program (wip/print2), by the way of the kit's print; Lean checks it.
import Derived.Test.YtobopkkdjkjafaaPwx0
namespace Go.Proofs.Ytobopkkdjkjafaa.Pw
open Go.RowKit Go.Proofs.YtobopkkdjkjafaaW.PrintWords Go.Proofs.YtobopkkdjkjafaaW.PrintLast Go.Proofs.YtobopkkdjkjafaaW.PrintMore
attribute [local go_sem] max2_int min2_int max_two min_two max_three min_three max_four min_four   -- for this text's walks alone
set_option linter.unusedVariables false
set_option linter.unusedSimpArgs false

/-! ### word_Arity: function 28 -/
def word_Arity.f (a0 : Int) : Option (Int × Int × Int × Bool) := some (Word.arity a0)
theorem word_Arity.calls (a0 : Int) (r1 : Int) (r2 : Int) (r3 : Int) (r4 : Bool) (w : World) (h : word_Arity.f a0 = some (r1, r2, r3, r4)) :
    Calls Try.prog 28 #[.int .i64 a0] w fun e w' => e = .returned (.tuple #[.int .i64 r1, .int .i64 r2, .int .i64 r3, .bool r4]) ∧ Below w.heap.size w w' := by
  have e : Word.arity a0 = (r1, r2, r3, r4) := by simpa [word_Arity.f] using h
  refine (Word.arity_calls a0 w).mono ?_
  rintro e' w' ⟨rfl, hb⟩
  rw [e]
  exact ⟨rfl, hb⟩

/-! ### word_Trim: function 30 -/
def word_Trim.f (a0 : Bool) (a1 : Int) : Option Int := some (Word.trim a0 a1)
theorem word_Trim.calls (a0 : Bool) (a1 : Int) (r : Int) (w : World) (h : word_Trim.f a0 a1 = some r) :
    Calls Try.prog 30 #[.bool a0, .int .i64 a1] w fun e w' => e = .returned (.int .i64 r) ∧ Drawn0 w w' := by
  have e : Word.trim a0 a1 = r := by simpa [word_Trim.f] using h
  refine (Word.trim_calls a0 a1 w).mono ?_
  rintro e' w' ⟨rfl, rfl⟩
  rw [e]
  exact ⟨rfl, Drawn0.refl _⟩

/-! ### word_sign: function 41 -/
def word_sign.f (a0 : Bool) (a1 : Int) : Option (Int) := if a0 = true then (some a1) else (some (wrap64 (wrap32 ((a1) % 4294967296))))
set_option maxHeartbeats 8000000 in
set_option maxRecDepth 100000 in
theorem word_sign.calls (a0 : Bool) (a1 : Int) (r : Int) (w : World) (h : word_sign.f a0 a1 = some r) :
    Calls Try.prog 41 #[.bool a0, .int .i64 a1] w fun e w' => e = .returned (.int .i64 r) ∧ Drawn0 w w' := by
  have H : (if a0 = true then (some a1) else (some (wrap64 (wrap32 ((a1) % 4294967296))))) = some r := h
  clear h
  by_cases c3 : a0 = true
  · subst c3
    have H1 : (some a1) = some r := by rw [if_pos rfl] at H; exact H
    clear H
    have H := H1
    clear H1
    obtain rfl := Option.some.inj H
    go_enter Try.func41, Try.ntmps41
    go_wp2
    go_ret
    exact ⟨by first | rfl | (simp; done) | (simp [*]; done), by repeat (first | exact Drawn0.refl _ | apply Drawn0.step)⟩
  · replace c3 := Bool.eq_false_iff.mpr c3
    subst c3
    have H1 : (some (wrap64 (wrap32 ((a1) % 4294967296)))) = some r := by rw [if_neg (show ¬ (false = true) by decide)] at H; exact H
    clear H
    have H := H1
    clear H1
    obtain rfl := Option.some.inj H
    go_enter Try.func41, Try.ntmps41
    go_wp2
    go_ret
    exact ⟨by first | rfl | (simp; done) | (simp [*]; done), by repeat (first | exact Drawn0.refl _ | apply Drawn0.step)⟩

/-! ### word_tell: function 42 -/
def word_tell.f (a0 : Bool) : Option (Int) := if a0 = true then (some 1) else (some 0)
set_option maxHeartbeats 8000000 in
set_option maxRecDepth 100000 in
theorem word_tell.calls (a0 : Bool) (r : Int) (w : World) (h : word_tell.f a0 = some r) :
    Calls Try.prog 42 #[.bool a0] w fun e w' => e = .returned (.int .i64 r) ∧ Drawn0 w w' := by
  have H : (if a0 = true then (some 1) else (some 0)) = some r := h
  clear h
  by_cases c2 : a0 = true
  · subst c2
    have H1 : (some 1) = some r := by rw [if_pos rfl] at H; exact H
    clear H
    have H := H1
    clear H1
    obtain rfl := Option.some.inj H
    go_enter Try.func42, Try.ntmps42
    go_wp2
    go_ret
    exact ⟨by first | rfl | (simp; done) | (simp [*]; done), by repeat (first | exact Drawn0.refl _ | apply Drawn0.step)⟩
  · replace c2 := Bool.eq_false_iff.mpr c2
    subst c2
    have H1 : (some 0) = some r := by rw [if_neg (show ¬ (false = true) by decide)] at H; exact H
    clear H
    have H := H1
    clear H1
    obtain rfl := Option.some.inj H
    go_enter Try.func42, Try.ntmps42
    go_wp2
    go_ret
    exact ⟨by first | rfl | (simp; done) | (simp [*]; done), by repeat (first | exact Drawn0.refl _ | apply Drawn0.step)⟩

/-! ### word_compare: function 43 -/
def word_compare.f (a0 : Int) (a1 : Bool) (a2 : Int) (a3 : Int) : Option (Bool) := (word_sign.f a1 a2).bind fun t101 => ((word_sign.f a1 a3).bind fun t102 => (if a0 = 69 then (some (a2 == 0)) else (if a0 = 71 then (some ((a2 == a3) != true)) else (if a0 = 70 then (some ((a2 == a3) != false)) else (if a0 = 78 then (some ((decide (t101 < t102)) != true)) else (if a0 = 72 then (some ((decide (t101 < t102)) != false)) else (if a0 = 76 then (some ((decide (t101 > t102)) != true)) else (if a0 = 74 then (some ((decide (t101 > t102)) != false)) else (if a0 = 79 then (some ((decide ((IntKind.u64.wrap (a2)) < (IntKind.u64.wrap (a3)))) != true)) else (if a0 = 73 then (some ((decide ((IntKind.u64.wrap (a2)) < (IntKind.u64.wrap (a3)))) != false)) else (if a0 = 77 then (some ((decide ((IntKind.u64.wrap (a2)) > (IntKind.u64.wrap (a3)))) != true)) else (some ((decide ((IntKind.u64.wrap (a2)) > (IntKind.u64.wrap (a3)))) != false)))))))))))))
set_option maxHeartbeats 8000000 in
set_option maxRecDepth 100000 in
theorem word_compare.calls (a0 : Int) (a1 : Bool) (a2 : Int) (a3 : Int) (r : Bool) (w : World) (h : word_compare.f a0 a1 a2 a3 = some r) :
    Calls Try.prog 43 #[.int .i64 a0, .bool a1, .int .i64 a2, .int .i64 a3] w fun e w' => e = .returned (.bool r) ∧ Drawn0 w w' := by
  have H : ((word_sign.f a1 a2).bind fun t101 => ((word_sign.f a1 a3).bind fun t102 => (if a0 = 69 then (some (a2 == 0)) else (if a0 = 71 then (some ((a2 == a3) != true)) else (if a0 = 70 then (some ((a2 == a3) != false)) else (if a0 = 78 then (some ((decide (t101 < t102)) != true)) else (if a0 = 72 then (some ((decide (t101 < t102)) != false)) else (if a0 = 76 then (some ((decide (t101 > t102)) != true)) else (if a0 = 74 then (some ((decide (t101 > t102)) != false)) else (if a0 = 79 then (some ((decide ((IntKind.u64.wrap (a2)) < (IntKind.u64.wrap (a3)))) != true)) else (if a0 = 73 then (some ((decide ((IntKind.u64.wrap (a2)) < (IntKind.u64.wrap (a3)))) != false)) else (if a0 = 77 then (some ((decide ((IntKind.u64.wrap (a2)) > (IntKind.u64.wrap (a3)))) != true)) else (some ((decide ((IntKind.u64.wrap (a2)) > (IntKind.u64.wrap (a3)))) != false)))))))))))))) = some r := h
  clear h
  replace H := Option.bind_eq_some_iff.mp H
  obtain ⟨t101, A50, H⟩ := H
  replace H : ((word_sign.f a1 a3).bind fun t102 => (if a0 = 69 then (some (a2 == 0)) else (if a0 = 71 then (some ((a2 == a3) != true)) else (if a0 = 70 then (some ((a2 == a3) != false)) else (if a0 = 78 then (some ((decide (t101 < t102)) != true)) else (if a0 = 72 then (some ((decide (t101 < t102)) != false)) else (if a0 = 76 then (some ((decide (t101 > t102)) != true)) else (if a0 = 74 then (some ((decide (t101 > t102)) != false)) else (if a0 = 79 then (some ((decide ((IntKind.u64.wrap (a2)) < (IntKind.u64.wrap (a3)))) != true)) else (if a0 = 73 then (some ((decide ((IntKind.u64.wrap (a2)) < (IntKind.u64.wrap (a3)))) != false)) else (if a0 = 77 then (some ((decide ((IntKind.u64.wrap (a2)) > (IntKind.u64.wrap (a3)))) != true)) else (some ((decide ((IntKind.u64.wrap (a2)) > (IntKind.u64.wrap (a3)))) != false))))))))))))) = some r := H
  have A5 := Aside0.mk A50
  clear A50
  replace H := Option.bind_eq_some_iff.mp H
  obtain ⟨t102, A60, H⟩ := H
  replace H : (if a0 = 69 then (some (a2 == 0)) else (if a0 = 71 then (some ((a2 == a3) != true)) else (if a0 = 70 then (some ((a2 == a3) != false)) else (if a0 = 78 then (some ((decide (t101 < t102)) != true)) else (if a0 = 72 then (some ((decide (t101 < t102)) != false)) else (if a0 = 76 then (some ((decide (t101 > t102)) != true)) else (if a0 = 74 then (some ((decide (t101 > t102)) != false)) else (if a0 = 79 then (some ((decide ((IntKind.u64.wrap (a2)) < (IntKind.u64.wrap (a3)))) != true)) else (if a0 = 73 then (some ((decide ((IntKind.u64.wrap (a2)) < (IntKind.u64.wrap (a3)))) != false)) else (if a0 = 77 then (some ((decide ((IntKind.u64.wrap (a2)) > (IntKind.u64.wrap (a3)))) != true)) else (some ((decide ((IntKind.u64.wrap (a2)) > (IntKind.u64.wrap (a3)))) != false)))))))))))) = some r := H
  have A6 := Aside0.mk A60
  clear A60
  by_cases c7 : a0 = 69
  · rw [if_pos c7] at H
    have c7b0 : (a0 == 69) = true := beq_iff_eq.mpr c7
    have c7b1 : (a0 != 69) = false := bne_eq_false_iff_eq.mpr c7
    clear c7
    obtain rfl := Option.some.inj H
    go_enter Try.func43, Try.ntmps43
    go_wp2_with (first | ((with_reducible refine gate_callee (f := 41) rfl ?_); refine goesL_ (some 16) rfl rfl Try.func41 (by kernel_rfl) rfl #[.bool a1, .int .i64 a2] rfl (by (try simp only [List.map_toArray, List.map_cons, List.map_nil]); first | done | rfl | (simp only [List.length_drop, List.length_take]; rfl)) ?_; (with_reducible refine (word_sign.calls a1 a2 t101 _ A5.out).mono ?_); rintro e w' ⟨rfl, ⟨nd, rfl⟩⟩; refine ⟨_, rfl, ?_⟩) | ((with_reducible refine gate_callee (f := 41) rfl ?_); refine goesL_ (some 19) rfl rfl Try.func41 (by kernel_rfl) rfl #[.bool a1, .int .i64 a3] rfl (by (try simp only [List.map_toArray, List.map_cons, List.map_nil]); first | done | rfl | (simp only [List.length_drop, List.length_take]; rfl)) ?_; (with_reducible refine (word_sign.calls a1 a3 t102 _ A6.out).mono ?_); rintro e w' ⟨rfl, ⟨nd, rfl⟩⟩; refine ⟨_, rfl, ?_⟩))
    go_ret
    exact ⟨by first | rfl | (simp; done) | (simp [*]; done), by repeat (first | exact Drawn0.refl _ | apply Drawn0.step)⟩
  · rw [if_neg c7] at H
    have c7b0 : (a0 == 69) = false := beq_eq_false_iff_ne.mpr c7
    have c7b1 : (a0 != 69) = true := bne_iff_ne.mpr c7
    by_cases c8 : a0 = 71
    · rw [if_pos c8] at H
      have c8b0 : (a0 == 71) = true := beq_iff_eq.mpr c8
      have c8b1 : (a0 != 71) = false := bne_eq_false_iff_eq.mpr c8
      clear c8
      obtain rfl := Option.some.inj H
      go_enter Try.func43, Try.ntmps43
      go_wp2_with (first | ((with_reducible refine gate_callee (f := 41) rfl ?_); refine goesL_ (some 16) rfl rfl Try.func41 (by kernel_rfl) rfl #[.bool a1, .int .i64 a2] rfl (by (try simp only [List.map_toArray, List.map_cons, List.map_nil]); first | done | rfl | (simp only [List.length_drop, List.length_take]; rfl)) ?_; (with_reducible refine (word_sign.calls a1 a2 t101 _ A5.out).mono ?_); rintro e w' ⟨rfl, ⟨nd, rfl⟩⟩; refine ⟨_, rfl, ?_⟩) | ((with_reducible refine gate_callee (f := 41) rfl ?_); refine goesL_ (some 19) rfl rfl Try.func41 (by kernel_rfl) rfl #[.bool a1, .int .i64 a3] rfl (by (try simp only [List.map_toArray, List.map_cons, List.map_nil]); first | done | rfl | (simp only [List.length_drop, List.length_take]; rfl)) ?_; (with_reducible refine (word_sign.calls a1 a3 t102 _ A6.out).mono ?_); rintro e w' ⟨rfl, ⟨nd, rfl⟩⟩; refine ⟨_, rfl, ?_⟩))
      go_ret
      exact ⟨by first | rfl | (simp; done) | (simp [*]; done), by repeat (first | exact Drawn0.refl _ | apply Drawn0.step)⟩
    · rw [if_neg c8] at H
      have c8b0 : (a0 == 71) = false := beq_eq_false_iff_ne.mpr c8
      have c8b1 : (a0 != 71) = true := bne_iff_ne.mpr c8
      by_cases c9 : a0 = 70
      · rw [if_pos c9] at H
        have c9b0 : (a0 == 70) = true := beq_iff_eq.mpr c9
        have c9b1 : (a0 != 70) = false := bne_eq_false_iff_eq.mpr c9
        clear c9
        obtain rfl := Option.some.inj H
        go_enter Try.func43, Try.ntmps43
        go_wp2_with (first | ((with_reducible refine gate_callee (f := 41) rfl ?_); refine goesL_ (some 16) rfl rfl Try.func41 (by kernel_rfl) rfl #[.bool a1, .int .i64 a2] rfl (by (try simp only [List.map_toArray, List.map_cons, List.map_nil]); first | done | rfl | (simp only [List.length_drop, List.length_take]; rfl)) ?_; (with_reducible refine (word_sign.calls a1 a2 t101 _ A5.out).mono ?_); rintro e w' ⟨rfl, ⟨nd, rfl⟩⟩; refine ⟨_, rfl, ?_⟩) | ((with_reducible refine gate_callee (f := 41) rfl ?_); refine goesL_ (some 19) rfl rfl Try.func41 (by kernel_rfl) rfl #[.bool a1, .int .i64 a3] rfl (by (try simp only [List.map_toArray, List.map_cons, List.map_nil]); first | done | rfl | (simp only [List.length_drop, List.length_take]; rfl)) ?_; (with_reducible refine (word_sign.calls a1 a3 t102 _ A6.out).mono ?_); rintro e w' ⟨rfl, ⟨nd, rfl⟩⟩; refine ⟨_, rfl, ?_⟩))
        go_ret
        exact ⟨by first | rfl | (simp; done) | (simp [*]; done), by repeat (first | exact Drawn0.refl _ | apply Drawn0.step)⟩
      · rw [if_neg c9] at H
        have c9b0 : (a0 == 70) = false := beq_eq_false_iff_ne.mpr c9
        have c9b1 : (a0 != 70) = true := bne_iff_ne.mpr c9
        by_cases c10 : a0 = 78
        · rw [if_pos c10] at H
          have c10b0 : (a0 == 78) = true := beq_iff_eq.mpr c10
          have c10b1 : (a0 != 78) = false := bne_eq_false_iff_eq.mpr c10
          clear c10
          obtain rfl := Option.some.inj H
          go_enter Try.func43, Try.ntmps43
          go_wp2_with (first | ((with_reducible refine gate_callee (f := 41) rfl ?_); refine goesL_ (some 16) rfl rfl Try.func41 (by kernel_rfl) rfl #[.bool a1, .int .i64 a2] rfl (by (try simp only [List.map_toArray, List.map_cons, List.map_nil]); first | done | rfl | (simp only [List.length_drop, List.length_take]; rfl)) ?_; (with_reducible refine (word_sign.calls a1 a2 t101 _ A5.out).mono ?_); rintro e w' ⟨rfl, ⟨nd, rfl⟩⟩; refine ⟨_, rfl, ?_⟩) | ((with_reducible refine gate_callee (f := 41) rfl ?_); refine goesL_ (some 19) rfl rfl Try.func41 (by kernel_rfl) rfl #[.bool a1, .int .i64 a3] rfl (by (try simp only [List.map_toArray, List.map_cons, List.map_nil]); first | done | rfl | (simp only [List.length_drop, List.length_take]; rfl)) ?_; (with_reducible refine (word_sign.calls a1 a3 t102 _ A6.out).mono ?_); rintro e w' ⟨rfl, ⟨nd, rfl⟩⟩; refine ⟨_, rfl, ?_⟩))
          go_ret
          exact ⟨by first | rfl | (simp; done) | (simp [*]; done), by repeat (first | exact Drawn0.refl _ | apply Drawn0.step)⟩
        · rw [if_neg c10] at H
          have c10b0 : (a0 == 78) = false := beq_eq_false_iff_ne.mpr c10
          have c10b1 : (a0 != 78) = true := bne_iff_ne.mpr c10
          by_cases c11 : a0 = 72
          · rw [if_pos c11] at H
            have c11b0 : (a0 == 72) = true := beq_iff_eq.mpr c11
            have c11b1 : (a0 != 72) = false := bne_eq_false_iff_eq.mpr c11
            clear c11
            obtain rfl := Option.some.inj H
            go_enter Try.func43, Try.ntmps43
            go_wp2_with (first | ((with_reducible refine gate_callee (f := 41) rfl ?_); refine goesL_ (some 16) rfl rfl Try.func41 (by kernel_rfl) rfl #[.bool a1, .int .i64 a2] rfl (by (try simp only [List.map_toArray, List.map_cons, List.map_nil]); first | done | rfl | (simp only [List.length_drop, List.length_take]; rfl)) ?_; (with_reducible refine (word_sign.calls a1 a2 t101 _ A5.out).mono ?_); rintro e w' ⟨rfl, ⟨nd, rfl⟩⟩; refine ⟨_, rfl, ?_⟩) | ((with_reducible refine gate_callee (f := 41) rfl ?_); refine goesL_ (some 19) rfl rfl Try.func41 (by kernel_rfl) rfl #[.bool a1, .int .i64 a3] rfl (by (try simp only [List.map_toArray, List.map_cons, List.map_nil]); first | done | rfl | (simp only [List.length_drop, List.length_take]; rfl)) ?_; (with_reducible refine (word_sign.calls a1 a3 t102 _ A6.out).mono ?_); rintro e w' ⟨rfl, ⟨nd, rfl⟩⟩; refine ⟨_, rfl, ?_⟩))
            go_ret
            exact ⟨by first | rfl | (simp; done) | (simp [*]; done), by repeat (first | exact Drawn0.refl _ | apply Drawn0.step)⟩
          · rw [if_neg c11] at H
            have c11b0 : (a0 == 72) = false := beq_eq_false_iff_ne.mpr c11
            have c11b1 : (a0 != 72) = true := bne_iff_ne.mpr c11
            by_cases c12 : a0 = 76
            · rw [if_pos c12] at H
              have c12b0 : (a0 == 76) = true := beq_iff_eq.mpr c12
              have c12b1 : (a0 != 76) = false := bne_eq_false_iff_eq.mpr c12
              clear c12
              obtain rfl := Option.some.inj H
              go_enter Try.func43, Try.ntmps43
              go_wp2_with (first | ((with_reducible refine gate_callee (f := 41) rfl ?_); refine goesL_ (some 16) rfl rfl Try.func41 (by kernel_rfl) rfl #[.bool a1, .int .i64 a2] rfl (by (try simp only [List.map_toArray, List.map_cons, List.map_nil]); first | done | rfl | (simp only [List.length_drop, List.length_take]; rfl)) ?_; (with_reducible refine (word_sign.calls a1 a2 t101 _ A5.out).mono ?_); rintro e w' ⟨rfl, ⟨nd, rfl⟩⟩; refine ⟨_, rfl, ?_⟩) | ((with_reducible refine gate_callee (f := 41) rfl ?_); refine goesL_ (some 19) rfl rfl Try.func41 (by kernel_rfl) rfl #[.bool a1, .int .i64 a3] rfl (by (try simp only [List.map_toArray, List.map_cons, List.map_nil]); first | done | rfl | (simp only [List.length_drop, List.length_take]; rfl)) ?_; (with_reducible refine (word_sign.calls a1 a3 t102 _ A6.out).mono ?_); rintro e w' ⟨rfl, ⟨nd, rfl⟩⟩; refine ⟨_, rfl, ?_⟩))
              go_ret
              exact ⟨by first | rfl | (simp; done) | (simp [*]; done), by repeat (first | exact Drawn0.refl _ | apply Drawn0.step)⟩
            · rw [if_neg c12] at H
              have c12b0 : (a0 == 76) = false := beq_eq_false_iff_ne.mpr c12
              have c12b1 : (a0 != 76) = true := bne_iff_ne.mpr c12
              by_cases c13 : a0 = 74
              · rw [if_pos c13] at H
                have c13b0 : (a0 == 74) = true := beq_iff_eq.mpr c13
                have c13b1 : (a0 != 74) = false := bne_eq_false_iff_eq.mpr c13
                clear c13
                obtain rfl := Option.some.inj H
                go_enter Try.func43, Try.ntmps43
                go_wp2_with (first | ((with_reducible refine gate_callee (f := 41) rfl ?_); refine goesL_ (some 16) rfl rfl Try.func41 (by kernel_rfl) rfl #[.bool a1, .int .i64 a2] rfl (by (try simp only [List.map_toArray, List.map_cons, List.map_nil]); first | done | rfl | (simp only [List.length_drop, List.length_take]; rfl)) ?_; (with_reducible refine (word_sign.calls a1 a2 t101 _ A5.out).mono ?_); rintro e w' ⟨rfl, ⟨nd, rfl⟩⟩; refine ⟨_, rfl, ?_⟩) | ((with_reducible refine gate_callee (f := 41) rfl ?_); refine goesL_ (some 19) rfl rfl Try.func41 (by kernel_rfl) rfl #[.bool a1, .int .i64 a3] rfl (by (try simp only [List.map_toArray, List.map_cons, List.map_nil]); first | done | rfl | (simp only [List.length_drop, List.length_take]; rfl)) ?_; (with_reducible refine (word_sign.calls a1 a3 t102 _ A6.out).mono ?_); rintro e w' ⟨rfl, ⟨nd, rfl⟩⟩; refine ⟨_, rfl, ?_⟩))
                go_ret
                exact ⟨by first | rfl | (simp; done) | (simp [*]; done), by repeat (first | exact Drawn0.refl _ | apply Drawn0.step)⟩
              · rw [if_neg c13] at H
                have c13b0 : (a0 == 74) = false := beq_eq_false_iff_ne.mpr c13
                have c13b1 : (a0 != 74) = true := bne_iff_ne.mpr c13
                by_cases c14 : a0 = 79
                · rw [if_pos c14] at H
                  have c14b0 : (a0 == 79) = true := beq_iff_eq.mpr c14
                  have c14b1 : (a0 != 79) = false := bne_eq_false_iff_eq.mpr c14
                  clear c14
                  obtain rfl := Option.some.inj H
                  go_enter Try.func43, Try.ntmps43
                  go_wp2_with (first | ((with_reducible refine gate_callee (f := 41) rfl ?_); refine goesL_ (some 16) rfl rfl Try.func41 (by kernel_rfl) rfl #[.bool a1, .int .i64 a2] rfl (by (try simp only [List.map_toArray, List.map_cons, List.map_nil]); first | done | rfl | (simp only [List.length_drop, List.length_take]; rfl)) ?_; (with_reducible refine (word_sign.calls a1 a2 t101 _ A5.out).mono ?_); rintro e w' ⟨rfl, ⟨nd, rfl⟩⟩; refine ⟨_, rfl, ?_⟩) | ((with_reducible refine gate_callee (f := 41) rfl ?_); refine goesL_ (some 19) rfl rfl Try.func41 (by kernel_rfl) rfl #[.bool a1, .int .i64 a3] rfl (by (try simp only [List.map_toArray, List.map_cons, List.map_nil]); first | done | rfl | (simp only [List.length_drop, List.length_take]; rfl)) ?_; (with_reducible refine (word_sign.calls a1 a3 t102 _ A6.out).mono ?_); rintro e w' ⟨rfl, ⟨nd, rfl⟩⟩; refine ⟨_, rfl, ?_⟩))
                  go_ret
                  exact ⟨by first | rfl | (simp; done) | (simp [*]; done), by repeat (first | exact Drawn0.refl _ | apply Drawn0.step)⟩
                · rw [if_neg c14] at H
                  have c14b0 : (a0 == 79) = false := beq_eq_false_iff_ne.mpr c14
                  have c14b1 : (a0 != 79) = true := bne_iff_ne.mpr c14
                  by_cases c15 : a0 = 73
                  · rw [if_pos c15] at H
                    have c15b0 : (a0 == 73) = true := beq_iff_eq.mpr c15
                    have c15b1 : (a0 != 73) = false := bne_eq_false_iff_eq.mpr c15
                    clear c15
                    obtain rfl := Option.some.inj H
                    go_enter Try.func43, Try.ntmps43
                    go_wp2_with (first | ((with_reducible refine gate_callee (f := 41) rfl ?_); refine goesL_ (some 16) rfl rfl Try.func41 (by kernel_rfl) rfl #[.bool a1, .int .i64 a2] rfl (by (try simp only [List.map_toArray, List.map_cons, List.map_nil]); first | done | rfl | (simp only [List.length_drop, List.length_take]; rfl)) ?_; (with_reducible refine (word_sign.calls a1 a2 t101 _ A5.out).mono ?_); rintro e w' ⟨rfl, ⟨nd, rfl⟩⟩; refine ⟨_, rfl, ?_⟩) | ((with_reducible refine gate_callee (f := 41) rfl ?_); refine goesL_ (some 19) rfl rfl Try.func41 (by kernel_rfl) rfl #[.bool a1, .int .i64 a3] rfl (by (try simp only [List.map_toArray, List.map_cons, List.map_nil]); first | done | rfl | (simp only [List.length_drop, List.length_take]; rfl)) ?_; (with_reducible refine (word_sign.calls a1 a3 t102 _ A6.out).mono ?_); rintro e w' ⟨rfl, ⟨nd, rfl⟩⟩; refine ⟨_, rfl, ?_⟩))
                    go_ret
                    exact ⟨by first | rfl | (simp; done) | (simp [*]; done), by repeat (first | exact Drawn0.refl _ | apply Drawn0.step)⟩
                  · rw [if_neg c15] at H
                    have c15b0 : (a0 == 73) = false := beq_eq_false_iff_ne.mpr c15
                    have c15b1 : (a0 != 73) = true := bne_iff_ne.mpr c15
                    by_cases c16 : a0 = 77
                    · rw [if_pos c16] at H
                      have c16b0 : (a0 == 77) = true := beq_iff_eq.mpr c16
                      have c16b1 : (a0 != 77) = false := bne_eq_false_iff_eq.mpr c16
                      clear c16
                      obtain rfl := Option.some.inj H
                      go_enter Try.func43, Try.ntmps43
                      go_wp2_with (first | ((with_reducible refine gate_callee (f := 41) rfl ?_); refine goesL_ (some 16) rfl rfl Try.func41 (by kernel_rfl) rfl #[.bool a1, .int .i64 a2] rfl (by (try simp only [List.map_toArray, List.map_cons, List.map_nil]); first | done | rfl | (simp only [List.length_drop, List.length_take]; rfl)) ?_; (with_reducible refine (word_sign.calls a1 a2 t101 _ A5.out).mono ?_); rintro e w' ⟨rfl, ⟨nd, rfl⟩⟩; refine ⟨_, rfl, ?_⟩) | ((with_reducible refine gate_callee (f := 41) rfl ?_); refine goesL_ (some 19) rfl rfl Try.func41 (by kernel_rfl) rfl #[.bool a1, .int .i64 a3] rfl (by (try simp only [List.map_toArray, List.map_cons, List.map_nil]); first | done | rfl | (simp only [List.length_drop, List.length_take]; rfl)) ?_; (with_reducible refine (word_sign.calls a1 a3 t102 _ A6.out).mono ?_); rintro e w' ⟨rfl, ⟨nd, rfl⟩⟩; refine ⟨_, rfl, ?_⟩))
                      go_ret
                      exact ⟨by first | rfl | (simp; done) | (simp [*]; done), by repeat (first | exact Drawn0.refl _ | apply Drawn0.step)⟩
                    · rw [if_neg c16] at H
                      have c16b0 : (a0 == 77) = false := beq_eq_false_iff_ne.mpr c16
                      have c16b1 : (a0 != 77) = true := bne_iff_ne.mpr c16
                      obtain rfl := Option.some.inj H
                      go_enter Try.func43, Try.ntmps43
                      go_wp2_with (first | ((with_reducible refine gate_callee (f := 41) rfl ?_); refine goesL_ (some 16) rfl rfl Try.func41 (by kernel_rfl) rfl #[.bool a1, .int .i64 a2] rfl (by (try simp only [List.map_toArray, List.map_cons, List.map_nil]); first | done | rfl | (simp only [List.length_drop, List.length_take]; rfl)) ?_; (with_reducible refine (word_sign.calls a1 a2 t101 _ A5.out).mono ?_); rintro e w' ⟨rfl, ⟨nd, rfl⟩⟩; refine ⟨_, rfl, ?_⟩) | ((with_reducible refine gate_callee (f := 41) rfl ?_); refine goesL_ (some 19) rfl rfl Try.func41 (by kernel_rfl) rfl #[.bool a1, .int .i64 a3] rfl (by (try simp only [List.map_toArray, List.map_cons, List.map_nil]); first | done | rfl | (simp only [List.length_drop, List.length_take]; rfl)) ?_; (with_reducible refine (word_sign.calls a1 a3 t102 _ A6.out).mono ?_); rintro e w' ⟨rfl, ⟨nd, rfl⟩⟩; refine ⟨_, rfl, ?_⟩))
                      go_ret
                      exact ⟨by first | rfl | (simp; done) | (simp [*]; done), by repeat (first | exact Drawn0.refl _ | apply Drawn0.step)⟩

end Go.Proofs.Ytobopkkdjkjafaa.Pw
