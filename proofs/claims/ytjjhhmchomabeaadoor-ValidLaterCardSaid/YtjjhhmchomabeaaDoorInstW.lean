/- inst.Right, inst.Bytes: an instruction's form. -/
import Derived.Test.YtjjhhmchomabeaaDoorValFA
import Derived.Test.YtjjhhmchomabeaaDoorInstV
import Derived.Test.YtjjhhmchomabeaaDoorPValidCalleex1
namespace Go.Proofs.YtjjhhmchomabeaaDoor.Valid
open Go.RowKit Go.Proofs.YtjjhhmchomabeaaDoorW.PrintWords Go.Proofs.YtjjhhmchomabeaaDoorW.PrintLast Go.Proofs.YtjjhhmchomabeaaDoor.Mem Go.Proofs.YtjjhhmchomabeaaDoor.Nest
set_option linter.unusedVariables false
set_option linter.unusedSimpArgs false

set_option maxHeartbeats 4000000 in
theorem rightX_no (op n m : Int) (hk : kindI op = 0) (w : World) : Calls Tryd.prog 67 #[xVal (op, n, m)] w fun e w' => e = .returned (.bool (rightX (op, n, m))) ∧ Below w.heap.size w w' := by
  have HB := Aside0.mk (below_alloc (Below.refl w.heap.size w) (Nat.le_refl _) (xObj (op, n, m)))
  have HK := Aside0.mk hk
  clear hk
  go_enter Tryd.func67, Tryd.ntmps67
  try dsimp only
  repeat (first | ((with_reducible refine inBlock_ne ?hne ?_); (case hne => rfl)) | (with_reducible refine inBlock_eq ?_) | (with_reducible refine then_exit ?_) | (with_reducible refine then_normal ?_) | (with_reducible refine inBlock_normal ?_) | (with_reducible refine then_ret ?_) | (with_reducible refine inBlock_ret ?_) | (go_at_call 68; refine (kind_calls _ _).mono ?_; rw [HK.out]; rintro e w1 ⟨rfl, hb⟩; have HB1 := Aside0.mk hb; have HX := Aside0.mk (blk_below (blk_new w (xObj (op, n, m))) HB1.out); have hx0 := blk_cell HX.out 0; have hx1 := blk_cell HX.out 1; have hx2 := blk_cell HX.out 2; clear hb; dsimp only) | go_skip | go_guarded | go_step | go_upon)
  go_ret
  exact ⟨by rw [rightX, if_pos HK.out]; rfl, HB.out.trans (HB1.out.mono HB.out.size)⟩
set_option maxHeartbeats 4000000 in
set_option maxRecDepth 100000 in
theorem rightX_1 (op n m : Int) (hk : kindI op = 1) (w : World) : Calls Tryd.prog 67 #[xVal (op, n, m)] w fun e w' => e = .returned (.bool (rightX (op, n, m))) ∧ Below w.heap.size w w' := by
  have HB := Aside0.mk (below_alloc (Below.refl w.heap.size w) (Nat.le_refl _) (xObj (op, n, m)))
  have HK := Aside0.mk hk
  have HR := Aside0.mk (show rightX (op, n, m) = (decide (0 ≤ n) && decide (n ≤ 0) && decide (0 ≤ m) && decide (m ≤ 0)) by
    unfold rightX
    dsimp only
    rw [hk]
    rfl)
  clear hk
  rcases g1 : decide (0 ≤ n) with _ | _ <;> rcases g2 : decide (n ≤ 0) with _ | _ <;> rcases g3 : decide (0 ≤ m) with _ | _ <;> rcases g4 : decide (m ≤ 0) with _ | _
  all_goals
    simp only [g1, g2, g3, g4] at HR
    try simp only [decide_eq_true_eq, decide_eq_false_iff_not] at g1 g2 g3 g4
  all_goals try (exfalso; omega)
  all_goals
    go_enter Tryd.func67, Tryd.ntmps67
    try dsimp only
    repeat (first | ((with_reducible refine inBlock_ne ?hne ?_); (case hne => rfl)) | (with_reducible refine inBlock_eq ?_) | (with_reducible refine then_exit ?_) | (with_reducible refine then_normal ?_) | (with_reducible refine inBlock_normal ?_) | (with_reducible refine then_ret ?_) | (with_reducible refine inBlock_ret ?_) | (go_at_call 68; refine (kind_calls _ _).mono ?_; rw [HK.out]; rintro e w1 ⟨rfl, hb⟩; have HB1 := Aside0.mk hb; have HX := Aside0.mk (blk_below (blk_new w (xObj (op, n, m))) HB1.out); have hx0 := blk_cell HX.out 0; have hx1 := blk_cell HX.out 1; have hx2 := blk_cell HX.out 2; clear hb; dsimp only) | go_skip | go_guarded | go_step | go_upon)
    go_ret
    exact ⟨by rw [HR.out]; rfl, HB.out.trans (HB1.out.mono HB.out.size)⟩
set_option maxHeartbeats 4000000 in
set_option maxRecDepth 100000 in
theorem rightX_2 (op n m : Int) (hk : kindI op = 2) (w : World) : Calls Tryd.prog 67 #[xVal (op, n, m)] w fun e w' => e = .returned (.bool (rightX (op, n, m))) ∧ Below w.heap.size w w' := by
  have HB := Aside0.mk (below_alloc (Below.refl w.heap.size w) (Nat.le_refl _) (xObj (op, n, m)))
  have HK := Aside0.mk hk
  have HR := Aside0.mk (show rightX (op, n, m) = (decide (0 ≤ n) && decide (n ≤ 0) && decide (0 ≤ m) && decide (m ≤ 4)) by
    unfold rightX
    dsimp only
    rw [hk]
    rfl)
  clear hk
  rcases g1 : decide (0 ≤ n) with _ | _ <;> rcases g2 : decide (n ≤ 0) with _ | _ <;> rcases g3 : decide (0 ≤ m) with _ | _ <;> rcases g4 : decide (m ≤ 4) with _ | _
  all_goals
    simp only [g1, g2, g3, g4] at HR
    try simp only [decide_eq_true_eq, decide_eq_false_iff_not] at g1 g2 g3 g4
  all_goals try (exfalso; omega)
  all_goals
    go_enter Tryd.func67, Tryd.ntmps67
    try dsimp only
    repeat (first | ((with_reducible refine inBlock_ne ?hne ?_); (case hne => rfl)) | (with_reducible refine inBlock_eq ?_) | (with_reducible refine then_exit ?_) | (with_reducible refine then_normal ?_) | (with_reducible refine inBlock_normal ?_) | (with_reducible refine then_ret ?_) | (with_reducible refine inBlock_ret ?_) | (go_at_call 68; refine (kind_calls _ _).mono ?_; rw [HK.out]; rintro e w1 ⟨rfl, hb⟩; have HB1 := Aside0.mk hb; have HX := Aside0.mk (blk_below (blk_new w (xObj (op, n, m))) HB1.out); have hx0 := blk_cell HX.out 0; have hx1 := blk_cell HX.out 1; have hx2 := blk_cell HX.out 2; clear hb; dsimp only) | go_skip | go_guarded | go_step | go_upon)
    go_ret
    exact ⟨by rw [HR.out]; rfl, HB.out.trans (HB1.out.mono HB.out.size)⟩
set_option maxHeartbeats 4000000 in
set_option maxRecDepth 100000 in
theorem rightX_3 (op n m : Int) (hk : kindI op = 3) (w : World) : Calls Tryd.prog 67 #[xVal (op, n, m)] w fun e w' => e = .returned (.bool (rightX (op, n, m))) ∧ Below w.heap.size w w' := by
  have HB := Aside0.mk (below_alloc (Below.refl w.heap.size w) (Nat.le_refl _) (xObj (op, n, m)))
  have HK := Aside0.mk hk
  have HR := Aside0.mk (show rightX (op, n, m) = (decide (0 ≤ n) && decide (n ≤ 4294967295) && decide (0 ≤ m) && decide (m ≤ 0)) by
    unfold rightX
    dsimp only
    rw [hk]
    rfl)
  clear hk
  rcases g1 : decide (0 ≤ n) with _ | _ <;> rcases g2 : decide (n ≤ 4294967295) with _ | _ <;> rcases g3 : decide (0 ≤ m) with _ | _ <;> rcases g4 : decide (m ≤ 0) with _ | _
  all_goals
    simp only [g1, g2, g3, g4] at HR
    try simp only [decide_eq_true_eq, decide_eq_false_iff_not] at g1 g2 g3 g4
  all_goals try (exfalso; omega)
  all_goals
    go_enter Tryd.func67, Tryd.ntmps67
    try dsimp only
    repeat (first | ((with_reducible refine inBlock_ne ?hne ?_); (case hne => rfl)) | (with_reducible refine inBlock_eq ?_) | (with_reducible refine then_exit ?_) | (with_reducible refine then_normal ?_) | (with_reducible refine inBlock_normal ?_) | (with_reducible refine then_ret ?_) | (with_reducible refine inBlock_ret ?_) | (go_at_call 68; refine (kind_calls _ _).mono ?_; rw [HK.out]; rintro e w1 ⟨rfl, hb⟩; have HB1 := Aside0.mk hb; have HX := Aside0.mk (blk_below (blk_new w (xObj (op, n, m))) HB1.out); have hx0 := blk_cell HX.out 0; have hx1 := blk_cell HX.out 1; have hx2 := blk_cell HX.out 2; clear hb; dsimp only) | go_skip | go_guarded | go_step | go_upon)
    go_ret
    exact ⟨by rw [HR.out]; rfl, HB.out.trans (HB1.out.mono HB.out.size)⟩
set_option maxHeartbeats 4000000 in
set_option maxRecDepth 100000 in
theorem rightX_4 (op n m : Int) (hk : kindI op = 4) (w : World) : Calls Tryd.prog 67 #[xVal (op, n, m)] w fun e w' => e = .returned (.bool (rightX (op, n, m))) ∧ Below w.heap.size w w' := by
  have HB := Aside0.mk (below_alloc (Below.refl w.heap.size w) (Nat.le_refl _) (xObj (op, n, m)))
  have HK := Aside0.mk hk
  have HR := Aside0.mk (show rightX (op, n, m) = (decide (0 ≤ n) && decide (n ≤ 4294967295) && decide (0 ≤ m) && decide (m ≤ 1)) by
    unfold rightX
    dsimp only
    rw [hk]
    rfl)
  clear hk
  rcases g1 : decide (0 ≤ n) with _ | _ <;> rcases g2 : decide (n ≤ 4294967295) with _ | _ <;> rcases g3 : decide (0 ≤ m) with _ | _ <;> rcases g4 : decide (m ≤ 1) with _ | _
  all_goals
    simp only [g1, g2, g3, g4] at HR
    try simp only [decide_eq_true_eq, decide_eq_false_iff_not] at g1 g2 g3 g4
  all_goals try (exfalso; omega)
  all_goals
    go_enter Tryd.func67, Tryd.ntmps67
    try dsimp only
    repeat (first | ((with_reducible refine inBlock_ne ?hne ?_); (case hne => rfl)) | (with_reducible refine inBlock_eq ?_) | (with_reducible refine then_exit ?_) | (with_reducible refine then_normal ?_) | (with_reducible refine inBlock_normal ?_) | (with_reducible refine then_ret ?_) | (with_reducible refine inBlock_ret ?_) | (go_at_call 68; refine (kind_calls _ _).mono ?_; rw [HK.out]; rintro e w1 ⟨rfl, hb⟩; have HB1 := Aside0.mk hb; have HX := Aside0.mk (blk_below (blk_new w (xObj (op, n, m))) HB1.out); have hx0 := blk_cell HX.out 0; have hx1 := blk_cell HX.out 1; have hx2 := blk_cell HX.out 2; clear hb; dsimp only) | go_skip | go_guarded | go_step | go_upon)
    go_ret
    exact ⟨by rw [HR.out]; rfl, HB.out.trans (HB1.out.mono HB.out.size)⟩
set_option maxHeartbeats 4000000 in
set_option maxRecDepth 100000 in
theorem rightX_5 (op n m : Int) (hk : kindI op = 5) (w : World) : Calls Tryd.prog 67 #[xVal (op, n, m)] w fun e w' => e = .returned (.bool (rightX (op, n, m))) ∧ Below w.heap.size w w' := by
  have HB := Aside0.mk (below_alloc (Below.refl w.heap.size w) (Nat.le_refl _) (xObj (op, n, m)))
  have HK := Aside0.mk hk
  have HR := Aside0.mk (show rightX (op, n, m) = (decide ((-2147483648) ≤ n) && decide (n ≤ 2147483647) && decide (0 ≤ m) && decide (m ≤ 0)) by
    unfold rightX
    dsimp only
    rw [hk]
    rfl)
  clear hk
  rcases g1 : decide ((-2147483648) ≤ n) with _ | _ <;> rcases g2 : decide (n ≤ 2147483647) with _ | _ <;> rcases g3 : decide (0 ≤ m) with _ | _ <;> rcases g4 : decide (m ≤ 0) with _ | _
  all_goals
    simp only [g1, g2, g3, g4] at HR
    try simp only [decide_eq_true_eq, decide_eq_false_iff_not] at g1 g2 g3 g4
  all_goals try (exfalso; omega)
  all_goals
    go_enter Tryd.func67, Tryd.ntmps67
    try dsimp only
    repeat (first | ((with_reducible refine inBlock_ne ?hne ?_); (case hne => rfl)) | (with_reducible refine inBlock_eq ?_) | (with_reducible refine then_exit ?_) | (with_reducible refine then_normal ?_) | (with_reducible refine inBlock_normal ?_) | (with_reducible refine then_ret ?_) | (with_reducible refine inBlock_ret ?_) | (go_at_call 68; refine (kind_calls _ _).mono ?_; rw [HK.out]; rintro e w1 ⟨rfl, hb⟩; have HB1 := Aside0.mk hb; have HX := Aside0.mk (blk_below (blk_new w (xObj (op, n, m))) HB1.out); have hx0 := blk_cell HX.out 0; have hx1 := blk_cell HX.out 1; have hx2 := blk_cell HX.out 2; clear hb; dsimp only) | go_skip | go_guarded | go_step | go_upon)
    go_ret
    exact ⟨by rw [HR.out]; rfl, HB.out.trans (HB1.out.mono HB.out.size)⟩
set_option maxHeartbeats 4000000 in
set_option maxRecDepth 100000 in
theorem rightX_6 (op n m : Int) (hk : kindI op = 6) (w : World) : Calls Tryd.prog 67 #[xVal (op, n, m)] w fun e w' => e = .returned (.bool (rightX (op, n, m))) ∧ Below w.heap.size w w' := by
  have HB := Aside0.mk (below_alloc (Below.refl w.heap.size w) (Nat.le_refl _) (xObj (op, n, m)))
  have HK := Aside0.mk hk
  have HR := Aside0.mk (show rightX (op, n, m) = (decide (0 ≤ m) && decide (m ≤ 0)) by
    unfold rightX
    dsimp only
    rw [hk]
    simp [leastI, mostI, mostM])
  clear hk
  rcases g3 : decide (0 ≤ m) with _ | _ <;> rcases g4 : decide (m ≤ 0) with _ | _
  all_goals
    simp only [g3, g4] at HR
    try simp only [decide_eq_true_eq, decide_eq_false_iff_not] at g3 g4
  all_goals try (exfalso; omega)
  all_goals
    go_enter Tryd.func67, Tryd.ntmps67
    try dsimp only
    repeat (first | ((with_reducible refine inBlock_ne ?hne ?_); (case hne => rfl)) | (with_reducible refine inBlock_eq ?_) | (with_reducible refine then_exit ?_) | (with_reducible refine then_normal ?_) | (with_reducible refine inBlock_normal ?_) | (with_reducible refine then_ret ?_) | (with_reducible refine inBlock_ret ?_) | (go_at_call 68; refine (kind_calls _ _).mono ?_; rw [HK.out]; rintro e w1 ⟨rfl, hb⟩; have HB1 := Aside0.mk hb; have HX := Aside0.mk (blk_below (blk_new w (xObj (op, n, m))) HB1.out); have hx0 := blk_cell HX.out 0; have hx1 := blk_cell HX.out 1; have hx2 := blk_cell HX.out 2; clear hb; dsimp only) | (go_quiet (fail)) | go_skip | go_guarded | go_step | go_upon)
    go_ret
    exact ⟨by rw [HR.out]; rfl, pw_below_drewN (HB.out.trans (HB1.out.mono HB.out.size)) _⟩
theorem rightX_calls (x : T3) (w : World) : Calls Tryd.prog 67 #[xVal x] w fun e w' => e = .returned (.bool (rightX x)) ∧ Below w.heap.size w w' := by
  obtain ⟨op, n, m⟩ := x
  rcases kindI_cases op with h | h | h | h | h | h | h
  · exact rightX_no op n m h w
  · exact rightX_1 op n m h w
  · exact rightX_2 op n m h w
  · exact rightX_3 op n m h w
  · exact rightX_4 op n m h w
  · exact rightX_5 op n m h w
  · exact rightX_6 op n m h w
/-- a string that is not long -/
theorem strOfNums_size (l : List Int) : (strOfNums l).size = l.length := by
  unfold strOfNums
  simp [ByteArray.size]
theorem u_loop (k : Nat) : ∀ (len : Nat) (n : Int) (l : List Int), len + k = 6 → 0 ≤ n → n * 128 ^ len ≤ 4294967295 → l.length = len → ∃ r, YtjjhhmchomabeaaDoor.PValidCallee.leb_U.l0 (k + 1) n l = some (r, 0) ∧ r.size ≤ 7 := by
  induction k with
  | zero =>
    intro len n l hlk h0 hb hl
    obtain rfl : len = 6 := by omega
    have hn : n = 0 := by
      have h1 : (128 : Int) ^ 6 = 4398046511104 := by decide
      rw [h1] at hb
      omega
    subst hn
    unfold YtjjhhmchomabeaaDoor.PValidCallee.leb_U.l0
    rw [if_neg (by decide), if_pos (by omega)]
    exact ⟨_, rfl, by rw [strOfNums_size, List.length_append, hl]; decide⟩
  | succ k ih =>
    intro len n l hlk h0 hb hl
    unfold YtjjhhmchomabeaaDoor.PValidCallee.leb_U.l0
    by_cases hn : n > 127
    · rw [if_pos hn, if_pos (by omega)]
      refine ih (len + 1) (n / 128) _ (by omega) (by omega) ?_ (by rw [List.length_append, hl]; rfl)
      have h1 : n / 128 * 128 ≤ n := by omega
      have h2 : (0 : Int) ≤ 128 ^ len := Int.pow_nonneg (by decide)
      calc n / 128 * 128 ^ (len + 1) = n / 128 * 128 * 128 ^ len := by rw [Int.pow_succ]; rw [Int.mul_assoc, Int.mul_comm 128]
        _ ≤ n * 128 ^ len := Int.mul_le_mul_of_nonneg_right h1 h2
        _ ≤ _ := hb
    · rw [if_neg hn, if_pos (by omega)]
      exact ⟨_, rfl, by rw [strOfNums_size, List.length_append, hl]; simp; omega⟩
theorem u_calls (n : Int) (h0 : 0 ≤ n) (h1 : n ≤ 4294967295) (w : World) : Calls Tryd.prog 69 #[.int .i64 n] w fun e w' => ∃ r : ByteArray, e = .returned (.tuple #[.string r, .int .i64 0]) ∧ r.size ≤ 10 ∧ Below w.heap.size w w' := by
  obtain ⟨r, hr, hs⟩ := u_loop 6 0 n [] rfl h0 (by simpa using h1) rfl
  refine (YtjjhhmchomabeaaDoor.PValidCallee.leb_U.calls 7 n r 0 w ?_).mono ?_
  · unfold YtjjhhmchomabeaaDoor.PValidCallee.leb_U.f
    rw [if_neg (by omega)]
    exact hr
  · rintro e w' ⟨rfl, hb⟩
    exact ⟨r, rfl, by omega, hb⟩
theorem s_loop (k : Nat) : ∀ (len : Nat) (n : Int) (l : List Int), len + k = 9 → -((2 : Int) ^ 63) ≤ n * 128 ^ len → n * 128 ^ len < 2 ^ 63 → l.length = len → ∃ r, YtjjhhmchomabeaaDoor.PValidCallee.leb_S.l0 (k + 1) n l = some r ∧ r.size ≤ 10 := by
  induction k with
  | zero =>
    intro len n l hlk h0 hb hl
    obtain rfl : len = 9 := by omega
    have hn : n = 0 ∨ n = -1 := by
      have h1 : (128 : Int) ^ 9 = 9223372036854775808 := by decide
      have h2 : (2 : Int) ^ 63 = 9223372036854775808 := by decide
      rw [h1, h2] at h0 hb
      omega
    unfold YtjjhhmchomabeaaDoor.PValidCallee.leb_S.l0
    rcases hn with rfl | rfl
    · rw [if_pos (by decide), if_pos (by omega)]
      exact ⟨_, rfl, by rw [strOfNums_size, List.length_append, hl]; decide⟩
    · rw [if_neg (by decide), if_pos (by decide), if_pos (by omega)]
      exact ⟨_, rfl, by rw [strOfNums_size, List.length_append, hl]; decide⟩
  | succ k ih =>
    intro len n l hlk h0 hb hl
    unfold YtjjhhmchomabeaaDoor.PValidCallee.leb_S.l0
    by_cases hn : n / 64 = 0
    · rw [if_pos hn, if_pos (by omega)]
      exact ⟨_, rfl, by rw [strOfNums_size, List.length_append, hl]; simp; omega⟩
    · rw [if_neg hn]
      by_cases hm : n / 64 = -1
      · rw [if_pos hm, if_pos (by omega)]
        exact ⟨_, rfl, by rw [strOfNums_size, List.length_append, hl]; simp; omega⟩
      · rw [if_neg hm, if_pos (by omega)]
        have hp : (0 : Int) < 128 ^ len := Int.pow_pos (by decide)
        have hsp : (n / 128) * 128 ^ (len + 1) = (n / 128 * 128) * 128 ^ len := by rw [Int.pow_succ, Int.mul_assoc, Int.mul_comm 128]
        have h63 : (2 : Int) ^ 63 = 128 ^ (9 - len) * 128 ^ len := by
          rw [← Int.pow_add]
          have : 9 - len + len = 9 := by omega
          rw [this]
          decide
        refine ih (len + 1) (n / 128) _ (by omega) ?_ ?_ (by rw [List.length_append, hl]; rfl)
        · rw [hsp]
          rw [h63] at h0 ⊢
          have h1 : -((128 : Int) ^ (9 - len)) ≤ n := by
            refine Int.le_of_mul_le_mul_right ?_ hp
            rw [Int.neg_mul]
            exact h0
          have hq : (128 : Int) ^ (9 - len) = 128 * 128 ^ (8 - len) := by
            have : 9 - len = 8 - len + 1 := by omega
            rw [this, Int.pow_succ, Int.mul_comm]
          rw [← Int.neg_mul]
          refine Int.mul_le_mul_of_nonneg_right ?_ (Int.le_of_lt hp)
          rw [hq] at h1 ⊢
          generalize (128 : Int) ^ (8 - len) = y at *
          omega
        · rw [hsp]
          refine Int.lt_of_le_of_lt ?_ hb
          exact Int.mul_le_mul_of_nonneg_right (by omega) (Int.le_of_lt hp)
theorem s_calls (n : Int) (hn : Can n) (w : World) : Calls Tryd.prog 70 #[.int .i64 n] w fun e w' => ∃ r : ByteArray, e = .returned (.string r) ∧ r.size ≤ 10 ∧ Below w.heap.size w w' := by
  have h2 : (2 : Int) ^ 63 = 9223372036854775808 := by decide
  obtain ⟨r, hr, hs⟩ := s_loop 9 0 n [] rfl (by rw [h2]; have := hn.1; simpa using this) (by rw [h2]; have := hn.2; simpa using this) rfl
  refine (YtjjhhmchomabeaaDoor.PValidCallee.leb_S.calls 10 n r w hr).mono ?_
  rintro e w' ⟨rfl, hb⟩
  exact ⟨r, rfl, hs, hb⟩
theorem lit_byte (W : World) (c : Int) : (Kd.int .u8).R 5 (W.alloc (.cells #[.int .u8 c] 5)) W.heap.size (fun _ => True) (.slice (some ⟨W.heap.size, 0, none⟩) 1 1) [c] :=
  ⟨fun _ _ => trivial, [.int .u8 c], World.ownsRow_lit (base := W.heap.size) (e := 5) (size := 1) W #[.int .u8 c] 1 (Nat.le_refl _) (by decide) rfl, rfl, fun j p hp => by
    cases j with
    | zero => cases hp; rfl
    | succ j => simp at hp⟩
theorem infoByte : (Tryd.prog.info? 5).map (fun i => (i.zero, i.size, i.bytes)) = some (some (.int .u8 0), 1, 1) := by kernel_rfl
/-- what inst.Bytes answers for an instruction that may be -/
def BytesOk (w : World) (e : Ending) (w' : World) : Prop := ∃ s : ByteArray, e = .returned (.tuple #[.string s, .int .i64 0]) ∧ s.size ≤ 24 ∧ Below w.heap.size w w'
theorem bytes_no (op n m : Int) (hr : rightX (op, n, m) = false) (w : World) : Calls Tryd.prog 46 #[xVal (op, n, m)] w fun e w' => e = .returned (.tuple #[.string ⟨#[]⟩, .int .i64 4]) ∧ Below w.heap.size w w' := by
  have HB := Aside0.mk (below_alloc (Below.refl w.heap.size w) (Nat.le_refl _) (xObj (op, n, m)))
  have HX0 := Aside0.mk (blk_new w (xObj (op, n, m)))
  have hx0 := blk_cell HX0.out 0
  have hx1 := blk_cell HX0.out 1
  have hx2 := blk_cell HX0.out 2
  have HR := Aside0.mk hr
  clear hr
  go_enter Tryd.func46, Tryd.ntmps46
  go_wp2_with (go_at_call 67; refine (rightX_calls (op, n, m) _).mono ?_; rw [HR.out]; rintro e w1 ⟨rfl, hb⟩; have HB1 := Aside0.mk hb; clear hb)
  go_ret2
  exact ⟨rfl, HB.out.trans (HB1.out.mono HB.out.size)⟩
set_option maxHeartbeats 4000000 in
set_option maxRecDepth 100000 in
theorem bytes_1 (op n m : Int) (hcn : Can n)  (hk : kindI op = 1) (hr : rightX (op, n, m) = true) (w : World) : Calls Tryd.prog 46 #[xVal (op, n, m)] w (BytesOk w) := by
  have HB := Aside0.mk (below_alloc (Below.refl w.heap.size w) (Nat.le_refl _) (xObj (op, n, m)))
  have HX0 := Aside0.mk (blk_new w (xObj (op, n, m)))
  have hx0 := blk_cell HX0.out 0
  have hx1 := blk_cell HX0.out 1
  have hx2 := blk_cell HX0.out 2
  have HR := Aside0.mk hr
  have HK := Aside0.mk hk
  clear hr hk
  go_enter Tryd.func46, Tryd.ntmps46
  try dsimp only
  repeat (first | ((with_reducible refine inBlock_ne ?hne ?_); (case hne => rfl)) | (with_reducible refine inBlock_eq ?_) | (with_reducible refine then_exit ?_) | (with_reducible refine then_normal ?_) | (with_reducible refine inBlock_normal ?_) | (with_reducible refine then_ret ?_) | (with_reducible refine inBlock_ret ?_) | (go_at_call 67; refine (rightX_calls (op, n, m) _).mono ?_; rw [HR.out]; rintro e w1 ⟨rfl, hb⟩; have HB1 := Aside0.mk (HB.out.trans (hb.mono HB.out.size)); have HX1 := Aside0.mk (blk_below HX0.out hb); have hy0 := blk_cell HX1.out 0; have HL1 := Aside0.mk (lit_byte w1 (op % 256)); have HX2 := Aside0.mk (blk_alloc HX1.out (.cells #[.int .u8 (op % 256)] 5)); have HB2 := Aside0.mk (HB1.out.alloc HB1.out.size (.cells #[.int .u8 (op % 256)] 5)); have hz0 := blk_cell HX2.out 0; clear hb; dsimp only) | (go_at_call 68; refine (kind_calls _ _).mono ?_; rw [HK.out]; rintro e w3 ⟨rfl, hb⟩; have HB3 := Aside0.mk (HB2.out.trans (hb.mono HB2.out.size)); have HX3 := Aside0.mk (blk_below HX2.out hb); have HL3 := Aside0.mk (Kd.R_below HL1.out hb); have HS3 := Aside0.mk (Nat.le_trans (show w1.heap.size ≤ (w1.alloc (.cells #[.int .u8 (op % 256)] 5)).heap.size by simp) hb.size); have hx0 := blk_cell HX3.out 0; have hx1 := blk_cell HX3.out 1; have hx2 := blk_cell HX3.out 2; have hcv := own_string (P := Tryd.prog) Tryd.underlying104 Tryd.underlying5 Tryd.underlying9 (Kd.own_of_R HL3.out); clear hb; dsimp only) | go_skip | go_guarded | go_step | go_upon)
  go_ret2
  exact ⟨_, rfl, by rw [strOfNums_size]; simp [] <;> omega, HB3.out⟩
set_option maxHeartbeats 4000000 in
set_option maxRecDepth 100000 in
theorem bytes_2z (op n m : Int) (hcn : Can n) (hm : (m == 0) = true) (hk : kindI op = 2) (hr : rightX (op, n, m) = true) (w : World) : Calls Tryd.prog 46 #[xVal (op, n, m)] w (BytesOk w) := by
  have HB := Aside0.mk (below_alloc (Below.refl w.heap.size w) (Nat.le_refl _) (xObj (op, n, m)))
  have HX0 := Aside0.mk (blk_new w (xObj (op, n, m)))
  have hx0 := blk_cell HX0.out 0
  have hx1 := blk_cell HX0.out 1
  have hx2 := blk_cell HX0.out 2
  have HR := Aside0.mk hr
  have HK := Aside0.mk hk
  clear hr hk
  go_enter Tryd.func46, Tryd.ntmps46
  try dsimp only
  repeat (first | ((with_reducible refine inBlock_ne ?hne ?_); (case hne => rfl)) | (with_reducible refine inBlock_eq ?_) | (with_reducible refine then_exit ?_) | (with_reducible refine then_normal ?_) | (with_reducible refine inBlock_normal ?_) | (with_reducible refine then_ret ?_) | (with_reducible refine inBlock_ret ?_) | (go_at_call 67; refine (rightX_calls (op, n, m) _).mono ?_; rw [HR.out]; rintro e w1 ⟨rfl, hb⟩; have HB1 := Aside0.mk (HB.out.trans (hb.mono HB.out.size)); have HX1 := Aside0.mk (blk_below HX0.out hb); have hy0 := blk_cell HX1.out 0; have HL1 := Aside0.mk (lit_byte w1 (op % 256)); have HX2 := Aside0.mk (blk_alloc HX1.out (.cells #[.int .u8 (op % 256)] 5)); have HB2 := Aside0.mk (HB1.out.alloc HB1.out.size (.cells #[.int .u8 (op % 256)] 5)); have hz0 := blk_cell HX2.out 0; clear hb; dsimp only) | (go_at_call 68; refine (kind_calls _ _).mono ?_; rw [HK.out]; rintro e w3 ⟨rfl, hb⟩; have HB3 := Aside0.mk (HB2.out.trans (hb.mono HB2.out.size)); have HX3 := Aside0.mk (blk_below HX2.out hb); have HL3 := Aside0.mk (Kd.R_below HL1.out hb); have HS3 := Aside0.mk (Nat.le_trans (show w1.heap.size ≤ (w1.alloc (.cells #[.int .u8 (op % 256)] 5)).heap.size by simp) hb.size); have hx0 := blk_cell HX3.out 0; have hx1 := blk_cell HX3.out 1; have hx2 := blk_cell HX3.out 2; have hcv := own_string (P := Tryd.prog) Tryd.underlying104 Tryd.underlying5 Tryd.underlying9 (Kd.own_of_R HL3.out); clear hb; dsimp only) | ((with_reducible refine gate_builtin (b := .append) (xs := #[.tmp 29, .tmp 30]) rfl ?_); at_builtin; refine Kd.R_append (Kd.int .u8) (w0 := w3) (W := w3) w1.heap.size rfl (.tmp 29) (.tmp 30) 104 5 (.int .u8 0) 1 rfl Tryd.underlying104 infoByte rfl (by decide) (by omega) (.slice (some ⟨w1.heap.size, 0, none⟩) 1 1) [op % 256] (64) [.int .u8 (64)] (fun _ => True) (fun _ => False) rfl rfl rfl (fun _ h => h.elim) (fun _ _ => trivial) HL3.out (Below.refl _ _) HS3.out (by simp) ?_; intro v4 w4 hO hB hg hat; have HL4 := Aside0.mk hO; have HB4 := Aside0.mk (HB3.out.trans (Below.mono hB HB1.out.size)); have HX4 := Aside0.mk ((Below.block hB w.heap.size (blk_lt HX1.out)).trans HX3.out); have HS4 := Aside0.mk (Nat.le_trans HS3.out (Below.size hB)); have hx40 := blk_cell HX4.out 0; have hx41 := blk_cell HX4.out 1; have hx42 := blk_cell HX4.out 2; have hcv4 := own_string (P := Tryd.prog) Tryd.underlying104 Tryd.underlying5 Tryd.underlying9 (Kd.own_of_R HL4.out); clear hO hB hg hat; dsimp only) | go_skip | go_guarded | go_step | go_upon)
  go_ret2
  exact ⟨_, rfl, by rw [strOfNums_size]; simp [] <;> omega, HB4.out⟩
set_option maxHeartbeats 4000000 in
set_option maxRecDepth 100000 in
theorem bytes_2 (op n m : Int) (hcn : Can n) (hm : (m == 0) = false) (h0 : 0 ≤ m) (h1 : m ≤ 4) (hk : kindI op = 2) (hr : rightX (op, n, m) = true) (w : World) : Calls Tryd.prog 46 #[xVal (op, n, m)] w (BytesOk w) := by
  have HB := Aside0.mk (below_alloc (Below.refl w.heap.size w) (Nat.le_refl _) (xObj (op, n, m)))
  have HX0 := Aside0.mk (blk_new w (xObj (op, n, m)))
  have hx0 := blk_cell HX0.out 0
  have hx1 := blk_cell HX0.out 1
  have hx2 := blk_cell HX0.out 2
  have HR := Aside0.mk hr
  have HK := Aside0.mk hk
  clear hr hk
  go_enter Tryd.func46, Tryd.ntmps46
  try dsimp only
  repeat (first | ((with_reducible refine inBlock_ne ?hne ?_); (case hne => rfl)) | (with_reducible refine inBlock_eq ?_) | (with_reducible refine then_exit ?_) | (with_reducible refine then_normal ?_) | (with_reducible refine inBlock_normal ?_) | (with_reducible refine then_ret ?_) | (with_reducible refine inBlock_ret ?_) | (go_at_call 67; refine (rightX_calls (op, n, m) _).mono ?_; rw [HR.out]; rintro e w1 ⟨rfl, hb⟩; have HB1 := Aside0.mk (HB.out.trans (hb.mono HB.out.size)); have HX1 := Aside0.mk (blk_below HX0.out hb); have hy0 := blk_cell HX1.out 0; have HL1 := Aside0.mk (lit_byte w1 (op % 256)); have HX2 := Aside0.mk (blk_alloc HX1.out (.cells #[.int .u8 (op % 256)] 5)); have HB2 := Aside0.mk (HB1.out.alloc HB1.out.size (.cells #[.int .u8 (op % 256)] 5)); have hz0 := blk_cell HX2.out 0; clear hb; dsimp only) | (go_at_call 68; refine (kind_calls _ _).mono ?_; rw [HK.out]; rintro e w3 ⟨rfl, hb⟩; have HB3 := Aside0.mk (HB2.out.trans (hb.mono HB2.out.size)); have HX3 := Aside0.mk (blk_below HX2.out hb); have HL3 := Aside0.mk (Kd.R_below HL1.out hb); have HS3 := Aside0.mk (Nat.le_trans (show w1.heap.size ≤ (w1.alloc (.cells #[.int .u8 (op % 256)] 5)).heap.size by simp) hb.size); have hx0 := blk_cell HX3.out 0; have hx1 := blk_cell HX3.out 1; have hx2 := blk_cell HX3.out 2; have hcv := own_string (P := Tryd.prog) Tryd.underlying104 Tryd.underlying5 Tryd.underlying9 (Kd.own_of_R HL3.out); clear hb; dsimp only) | ((with_reducible refine gate_builtin (b := .append) (xs := #[.tmp 33, .tmp 39]) rfl ?_); at_builtin; refine Kd.R_append (Kd.int .u8) (w0 := w3) (W := w3) w1.heap.size rfl (.tmp 33) (.tmp 39) 104 5 (.int .u8 0) 1 rfl Tryd.underlying104 infoByte rfl (by decide) (by omega) (.slice (some ⟨w1.heap.size, 0, none⟩) 1 1) [op % 256] (127 - m + 1) [.int .u8 (127 - m + 1)] (fun _ => True) (fun _ => False) rfl rfl rfl (fun _ h => h.elim) (fun _ _ => trivial) HL3.out (Below.refl _ _) HS3.out (by simp) ?_; intro v4 w4 hO hB hg hat; have HL4 := Aside0.mk hO; have HB4 := Aside0.mk (HB3.out.trans (Below.mono hB HB1.out.size)); have HX4 := Aside0.mk ((Below.block hB w.heap.size (blk_lt HX1.out)).trans HX3.out); have HS4 := Aside0.mk (Nat.le_trans HS3.out (Below.size hB)); have hx40 := blk_cell HX4.out 0; have hx41 := blk_cell HX4.out 1; have hx42 := blk_cell HX4.out 2; have hcv4 := own_string (P := Tryd.prog) Tryd.underlying104 Tryd.underlying5 Tryd.underlying9 (Kd.own_of_R HL4.out); clear hO hB hg hat; dsimp only) | go_skip | go_guarded | go_step | go_upon)
  go_ret2
  exact ⟨_, rfl, by rw [strOfNums_size]; simp [] <;> omega, HB4.out⟩
set_option maxHeartbeats 4000000 in
set_option maxRecDepth 100000 in
theorem bytes_3 (op n m : Int) (hcn : Can n) (h0 : 0 ≤ n) (h1 : n ≤ 4294967295) (hk : kindI op = 3) (hr : rightX (op, n, m) = true) (w : World) : Calls Tryd.prog 46 #[xVal (op, n, m)] w (BytesOk w) := by
  have HB := Aside0.mk (below_alloc (Below.refl w.heap.size w) (Nat.le_refl _) (xObj (op, n, m)))
  have HX0 := Aside0.mk (blk_new w (xObj (op, n, m)))
  have hx0 := blk_cell HX0.out 0
  have hx1 := blk_cell HX0.out 1
  have hx2 := blk_cell HX0.out 2
  have HR := Aside0.mk hr
  have HK := Aside0.mk hk
  clear hr hk
  go_enter Tryd.func46, Tryd.ntmps46
  try dsimp only
  repeat (first | ((with_reducible refine inBlock_ne ?hne ?_); (case hne => rfl)) | (with_reducible refine inBlock_eq ?_) | (with_reducible refine then_exit ?_) | (with_reducible refine then_normal ?_) | (with_reducible refine inBlock_normal ?_) | (with_reducible refine then_ret ?_) | (with_reducible refine inBlock_ret ?_) | (go_at_call 67; refine (rightX_calls (op, n, m) _).mono ?_; rw [HR.out]; rintro e w1 ⟨rfl, hb⟩; have HB1 := Aside0.mk (HB.out.trans (hb.mono HB.out.size)); have HX1 := Aside0.mk (blk_below HX0.out hb); have hy0 := blk_cell HX1.out 0; have HL1 := Aside0.mk (lit_byte w1 (op % 256)); have HX2 := Aside0.mk (blk_alloc HX1.out (.cells #[.int .u8 (op % 256)] 5)); have HB2 := Aside0.mk (HB1.out.alloc HB1.out.size (.cells #[.int .u8 (op % 256)] 5)); have hz0 := blk_cell HX2.out 0; clear hb; dsimp only) | (go_at_call 68; refine (kind_calls _ _).mono ?_; rw [HK.out]; rintro e w3 ⟨rfl, hb⟩; have HB3 := Aside0.mk (HB2.out.trans (hb.mono HB2.out.size)); have HX3 := Aside0.mk (blk_below HX2.out hb); have HL3 := Aside0.mk (Kd.R_below HL1.out hb); have HS3 := Aside0.mk (Nat.le_trans (show w1.heap.size ≤ (w1.alloc (.cells #[.int .u8 (op % 256)] 5)).heap.size by simp) hb.size); have hx0 := blk_cell HX3.out 0; have hx1 := blk_cell HX3.out 1; have hx2 := blk_cell HX3.out 2; have hcv := own_string (P := Tryd.prog) Tryd.underlying104 Tryd.underlying5 Tryd.underlying9 (Kd.own_of_R HL3.out); clear hb; dsimp only) | (go_at_call 69; refine (u_calls n h0 h1 _).mono ?_; rintro e w4 ⟨r4, rfl, hr4, hb⟩; have HL4 := Aside0.mk (Kd.R_below HL3.out hb); have hB := Below.mono hb HS3.out; have HB4 := Aside0.mk (HB3.out.trans (Below.mono hB HB1.out.size)); have HX4 := Aside0.mk ((Below.block hB w.heap.size (blk_lt HX1.out)).trans HX3.out); have HS4 := Aside0.mk (Nat.le_trans HS3.out (Below.size hB)); have hx40 := blk_cell HX4.out 0; have hx41 := blk_cell HX4.out 1; have hx42 := blk_cell HX4.out 2; clear hb hB; dsimp only) | ((with_reducible refine gate_builtin (b := .append) (xs := #[.tmp 53, .tmp 54]) rfl ?_); at_builtin; refine print_append_str (w0 := w4) (W := w4) w1.heap.size rfl (.tmp 53) (.tmp 54) 104 9 5 rfl Tryd.underlying104 Tryd.underlying9 infoByte (.slice (some ⟨w1.heap.size, 0, none⟩) 1 1) [op % 256] r4 rfl rfl (Kd.own_of_R HL4.out) (Below.refl _ _) HS4.out (by simp; omega) ?_; intro v5 w5 hO hB hg; have HB5 := Aside0.mk (HB4.out.trans (Below.mono hB HB1.out.size)); have HX5 := Aside0.mk ((Below.block hB w.heap.size (blk_lt HX1.out)).trans HX4.out); have HS5 := Aside0.mk (Nat.le_trans HS4.out (Below.size hB)); have hx50 := blk_cell HX5.out 0; have hx51 := blk_cell HX5.out 1; have hx52 := blk_cell HX5.out 2; have hcv5 := own_string (P := Tryd.prog) Tryd.underlying104 Tryd.underlying5 Tryd.underlying9 (hO); clear hO hB hg; dsimp only) | go_skip | go_guarded | go_step | go_upon)
  go_ret2
  exact ⟨_, rfl, by rw [strOfNums_size]; simp [bytesOf_length] <;> omega, HB5.out⟩
set_option maxHeartbeats 4000000 in
set_option maxRecDepth 100000 in
theorem bytes_4 (op n m : Int) (hcn : Can n) (h0 : 0 ≤ n) (h1 : n ≤ 4294967295) (hk : kindI op = 4) (hr : rightX (op, n, m) = true) (w : World) : Calls Tryd.prog 46 #[xVal (op, n, m)] w (BytesOk w) := by
  have HB := Aside0.mk (below_alloc (Below.refl w.heap.size w) (Nat.le_refl _) (xObj (op, n, m)))
  have HX0 := Aside0.mk (blk_new w (xObj (op, n, m)))
  have hx0 := blk_cell HX0.out 0
  have hx1 := blk_cell HX0.out 1
  have hx2 := blk_cell HX0.out 2
  have HR := Aside0.mk hr
  have HK := Aside0.mk hk
  clear hr hk
  go_enter Tryd.func46, Tryd.ntmps46
  try dsimp only
  repeat (first | ((with_reducible refine inBlock_ne ?hne ?_); (case hne => rfl)) | (with_reducible refine inBlock_eq ?_) | (with_reducible refine then_exit ?_) | (with_reducible refine then_normal ?_) | (with_reducible refine inBlock_normal ?_) | (with_reducible refine then_ret ?_) | (with_reducible refine inBlock_ret ?_) | (go_at_call 67; refine (rightX_calls (op, n, m) _).mono ?_; rw [HR.out]; rintro e w1 ⟨rfl, hb⟩; have HB1 := Aside0.mk (HB.out.trans (hb.mono HB.out.size)); have HX1 := Aside0.mk (blk_below HX0.out hb); have hy0 := blk_cell HX1.out 0; have HL1 := Aside0.mk (lit_byte w1 (op % 256)); have HX2 := Aside0.mk (blk_alloc HX1.out (.cells #[.int .u8 (op % 256)] 5)); have HB2 := Aside0.mk (HB1.out.alloc HB1.out.size (.cells #[.int .u8 (op % 256)] 5)); have hz0 := blk_cell HX2.out 0; clear hb; dsimp only) | (go_at_call 68; refine (kind_calls _ _).mono ?_; rw [HK.out]; rintro e w3 ⟨rfl, hb⟩; have HB3 := Aside0.mk (HB2.out.trans (hb.mono HB2.out.size)); have HX3 := Aside0.mk (blk_below HX2.out hb); have HL3 := Aside0.mk (Kd.R_below HL1.out hb); have HS3 := Aside0.mk (Nat.le_trans (show w1.heap.size ≤ (w1.alloc (.cells #[.int .u8 (op % 256)] 5)).heap.size by simp) hb.size); have hx0 := blk_cell HX3.out 0; have hx1 := blk_cell HX3.out 1; have hx2 := blk_cell HX3.out 2; have hcv := own_string (P := Tryd.prog) Tryd.underlying104 Tryd.underlying5 Tryd.underlying9 (Kd.own_of_R HL3.out); clear hb; dsimp only) | ((with_reducible refine gate_builtin (b := .append) (xs := #[.tmp 41, .tmp 45]) rfl ?_); at_builtin; refine Kd.R_append (Kd.int .u8) (w0 := w3) (W := w3) w1.heap.size rfl (.tmp 41) (.tmp 45) 104 5 (.int .u8 0) 1 rfl Tryd.underlying104 infoByte rfl (by decide) (by omega) (.slice (some ⟨w1.heap.size, 0, none⟩) 1 1) [op % 256] (m % 256) [.int .u8 (m % 256)] (fun _ => True) (fun _ => False) rfl rfl rfl (fun _ h => h.elim) (fun _ _ => trivial) HL3.out (Below.refl _ _) HS3.out (by simp) ?_; intro v4 w4 hO hB hg hat; have HL4 := Aside0.mk hO; have HB4 := Aside0.mk (HB3.out.trans (Below.mono hB HB1.out.size)); have HX4 := Aside0.mk ((Below.block hB w.heap.size (blk_lt HX1.out)).trans HX3.out); have HS4 := Aside0.mk (Nat.le_trans HS3.out (Below.size hB)); have hx40 := blk_cell HX4.out 0; have hx41 := blk_cell HX4.out 1; have hx42 := blk_cell HX4.out 2; have hcv4 := own_string (P := Tryd.prog) Tryd.underlying104 Tryd.underlying5 Tryd.underlying9 (Kd.own_of_R HL4.out); clear hO hB hg hat; dsimp only) | (go_at_call 69; refine (u_calls n h0 h1 _).mono ?_; rintro e w5 ⟨r5, rfl, hr5, hb⟩; have HL5 := Aside0.mk (Kd.R_below HL4.out hb); have hB := Below.mono hb HS4.out; have HB5 := Aside0.mk (HB4.out.trans (Below.mono hB HB1.out.size)); have HX5 := Aside0.mk ((Below.block hB w.heap.size (blk_lt HX1.out)).trans HX4.out); have HS5 := Aside0.mk (Nat.le_trans HS4.out (Below.size hB)); have hx50 := blk_cell HX5.out 0; have hx51 := blk_cell HX5.out 1; have hx52 := blk_cell HX5.out 2; clear hb hB; dsimp only) | ((with_reducible refine gate_builtin (b := .append) (xs := #[.tmp 53, .tmp 54]) rfl ?_); at_builtin; refine print_append_str (w0 := w5) (W := w5) w1.heap.size rfl (.tmp 53) (.tmp 54) 104 9 5 rfl Tryd.underlying104 Tryd.underlying9 infoByte (v4) [op % 256, m % 256] r5 rfl rfl (Kd.own_of_R HL5.out) (Below.refl _ _) HS5.out (by simp; omega) ?_; intro v6 w6 hO hB hg; have HB6 := Aside0.mk (HB5.out.trans (Below.mono hB HB1.out.size)); have HX6 := Aside0.mk ((Below.block hB w.heap.size (blk_lt HX1.out)).trans HX5.out); have HS6 := Aside0.mk (Nat.le_trans HS5.out (Below.size hB)); have hx60 := blk_cell HX6.out 0; have hx61 := blk_cell HX6.out 1; have hx62 := blk_cell HX6.out 2; have hcv6 := own_string (P := Tryd.prog) Tryd.underlying104 Tryd.underlying5 Tryd.underlying9 (hO); clear hO hB hg; dsimp only) | go_skip | go_guarded | go_step | go_upon)
  go_ret2
  exact ⟨_, rfl, by rw [strOfNums_size]; simp [bytesOf_length] <;> omega, HB6.out⟩
set_option maxHeartbeats 4000000 in
set_option maxRecDepth 100000 in
theorem bytes_5 (op n m : Int) (hcn : Can n)  (hk : kindI op = 5) (hr : rightX (op, n, m) = true) (w : World) : Calls Tryd.prog 46 #[xVal (op, n, m)] w (BytesOk w) := by
  have HB := Aside0.mk (below_alloc (Below.refl w.heap.size w) (Nat.le_refl _) (xObj (op, n, m)))
  have HX0 := Aside0.mk (blk_new w (xObj (op, n, m)))
  have hx0 := blk_cell HX0.out 0
  have hx1 := blk_cell HX0.out 1
  have hx2 := blk_cell HX0.out 2
  have HR := Aside0.mk hr
  have HK := Aside0.mk hk
  clear hr hk
  go_enter Tryd.func46, Tryd.ntmps46
  try dsimp only
  repeat (first | ((with_reducible refine inBlock_ne ?hne ?_); (case hne => rfl)) | (with_reducible refine inBlock_eq ?_) | (with_reducible refine then_exit ?_) | (with_reducible refine then_normal ?_) | (with_reducible refine inBlock_normal ?_) | (with_reducible refine then_ret ?_) | (with_reducible refine inBlock_ret ?_) | (go_at_call 67; refine (rightX_calls (op, n, m) _).mono ?_; rw [HR.out]; rintro e w1 ⟨rfl, hb⟩; have HB1 := Aside0.mk (HB.out.trans (hb.mono HB.out.size)); have HX1 := Aside0.mk (blk_below HX0.out hb); have hy0 := blk_cell HX1.out 0; have HL1 := Aside0.mk (lit_byte w1 (op % 256)); have HX2 := Aside0.mk (blk_alloc HX1.out (.cells #[.int .u8 (op % 256)] 5)); have HB2 := Aside0.mk (HB1.out.alloc HB1.out.size (.cells #[.int .u8 (op % 256)] 5)); have hz0 := blk_cell HX2.out 0; clear hb; dsimp only) | (go_at_call 68; refine (kind_calls _ _).mono ?_; rw [HK.out]; rintro e w3 ⟨rfl, hb⟩; have HB3 := Aside0.mk (HB2.out.trans (hb.mono HB2.out.size)); have HX3 := Aside0.mk (blk_below HX2.out hb); have HL3 := Aside0.mk (Kd.R_below HL1.out hb); have HS3 := Aside0.mk (Nat.le_trans (show w1.heap.size ≤ (w1.alloc (.cells #[.int .u8 (op % 256)] 5)).heap.size by simp) hb.size); have hx0 := blk_cell HX3.out 0; have hx1 := blk_cell HX3.out 1; have hx2 := blk_cell HX3.out 2; have hcv := own_string (P := Tryd.prog) Tryd.underlying104 Tryd.underlying5 Tryd.underlying9 (Kd.own_of_R HL3.out); clear hb; dsimp only) | (go_at_call 70; refine (s_calls n hcn _).mono ?_; rintro e w4 ⟨r4, rfl, hr4, hb⟩; have HL4 := Aside0.mk (Kd.R_below HL3.out hb); have hB := Below.mono hb HS3.out; have HB4 := Aside0.mk (HB3.out.trans (Below.mono hB HB1.out.size)); have HX4 := Aside0.mk ((Below.block hB w.heap.size (blk_lt HX1.out)).trans HX3.out); have HS4 := Aside0.mk (Nat.le_trans HS3.out (Below.size hB)); have hx40 := blk_cell HX4.out 0; have hx41 := blk_cell HX4.out 1; have hx42 := blk_cell HX4.out 2; clear hb hB; dsimp only) | ((with_reducible refine gate_builtin (b := .append) (xs := #[.tmp 56, .tmp 59]) rfl ?_); at_builtin; refine print_append_str (w0 := w4) (W := w4) w1.heap.size rfl (.tmp 56) (.tmp 59) 104 9 5 rfl Tryd.underlying104 Tryd.underlying9 infoByte (.slice (some ⟨w1.heap.size, 0, none⟩) 1 1) [op % 256] r4 rfl rfl (Kd.own_of_R HL4.out) (Below.refl _ _) HS4.out (by simp; omega) ?_; intro v5 w5 hO hB hg; have HB5 := Aside0.mk (HB4.out.trans (Below.mono hB HB1.out.size)); have HX5 := Aside0.mk ((Below.block hB w.heap.size (blk_lt HX1.out)).trans HX4.out); have HS5 := Aside0.mk (Nat.le_trans HS4.out (Below.size hB)); have hx50 := blk_cell HX5.out 0; have hx51 := blk_cell HX5.out 1; have hx52 := blk_cell HX5.out 2; have hcv5 := own_string (P := Tryd.prog) Tryd.underlying104 Tryd.underlying5 Tryd.underlying9 (hO); clear hO hB hg; dsimp only) | go_skip | go_guarded | go_step | go_upon)
  go_ret2
  exact ⟨_, rfl, by rw [strOfNums_size]; simp [bytesOf_length] <;> omega, HB5.out⟩
set_option maxHeartbeats 4000000 in
set_option maxRecDepth 100000 in
theorem bytes_6 (op n m : Int) (hcn : Can n)  (hk : kindI op = 6) (hr : rightX (op, n, m) = true) (w : World) : Calls Tryd.prog 46 #[xVal (op, n, m)] w (BytesOk w) := by
  have HB := Aside0.mk (below_alloc (Below.refl w.heap.size w) (Nat.le_refl _) (xObj (op, n, m)))
  have HX0 := Aside0.mk (blk_new w (xObj (op, n, m)))
  have hx0 := blk_cell HX0.out 0
  have hx1 := blk_cell HX0.out 1
  have hx2 := blk_cell HX0.out 2
  have HR := Aside0.mk hr
  have HK := Aside0.mk hk
  clear hr hk
  go_enter Tryd.func46, Tryd.ntmps46
  try dsimp only
  repeat (first | ((with_reducible refine inBlock_ne ?hne ?_); (case hne => rfl)) | (with_reducible refine inBlock_eq ?_) | (with_reducible refine then_exit ?_) | (with_reducible refine then_normal ?_) | (with_reducible refine inBlock_normal ?_) | (with_reducible refine then_ret ?_) | (with_reducible refine inBlock_ret ?_) | (go_at_call 67; refine (rightX_calls (op, n, m) _).mono ?_; rw [HR.out]; rintro e w1 ⟨rfl, hb⟩; have HB1 := Aside0.mk (HB.out.trans (hb.mono HB.out.size)); have HX1 := Aside0.mk (blk_below HX0.out hb); have hy0 := blk_cell HX1.out 0; have HL1 := Aside0.mk (lit_byte w1 (op % 256)); have HX2 := Aside0.mk (blk_alloc HX1.out (.cells #[.int .u8 (op % 256)] 5)); have HB2 := Aside0.mk (HB1.out.alloc HB1.out.size (.cells #[.int .u8 (op % 256)] 5)); have hz0 := blk_cell HX2.out 0; clear hb; dsimp only) | (go_at_call 68; refine (kind_calls _ _).mono ?_; rw [HK.out]; rintro e w3 ⟨rfl, hb⟩; have HB3 := Aside0.mk (HB2.out.trans (hb.mono HB2.out.size)); have HX3 := Aside0.mk (blk_below HX2.out hb); have HL3 := Aside0.mk (Kd.R_below HL1.out hb); have HS3 := Aside0.mk (Nat.le_trans (show w1.heap.size ≤ (w1.alloc (.cells #[.int .u8 (op % 256)] 5)).heap.size by simp) hb.size); have hx0 := blk_cell HX3.out 0; have hx1 := blk_cell HX3.out 1; have hx2 := blk_cell HX3.out 2; have hcv := own_string (P := Tryd.prog) Tryd.underlying104 Tryd.underlying5 Tryd.underlying9 (Kd.own_of_R HL3.out); clear hb; dsimp only) | (go_at_call 70; refine (s_calls n hcn _).mono ?_; rintro e w4 ⟨r4, rfl, hr4, hb⟩; have HL4 := Aside0.mk (Kd.R_below HL3.out hb); have hB := Below.mono hb HS3.out; have HB4 := Aside0.mk (HB3.out.trans (Below.mono hB HB1.out.size)); have HX4 := Aside0.mk ((Below.block hB w.heap.size (blk_lt HX1.out)).trans HX3.out); have HS4 := Aside0.mk (Nat.le_trans HS3.out (Below.size hB)); have hx40 := blk_cell HX4.out 0; have hx41 := blk_cell HX4.out 1; have hx42 := blk_cell HX4.out 2; clear hb hB; dsimp only) | ((with_reducible refine gate_builtin (b := .append) (xs := #[.tmp 56, .tmp 59]) rfl ?_); at_builtin; refine print_append_str (w0 := w4) (W := w4) w1.heap.size rfl (.tmp 56) (.tmp 59) 104 9 5 rfl Tryd.underlying104 Tryd.underlying9 infoByte (.slice (some ⟨w1.heap.size, 0, none⟩) 1 1) [op % 256] r4 rfl rfl (Kd.own_of_R HL4.out) (Below.refl _ _) HS4.out (by simp; omega) ?_; intro v5 w5 hO hB hg; have HB5 := Aside0.mk (HB4.out.trans (Below.mono hB HB1.out.size)); have HX5 := Aside0.mk ((Below.block hB w.heap.size (blk_lt HX1.out)).trans HX4.out); have HS5 := Aside0.mk (Nat.le_trans HS4.out (Below.size hB)); have hx50 := blk_cell HX5.out 0; have hx51 := blk_cell HX5.out 1; have hx52 := blk_cell HX5.out 2; have hcv5 := own_string (P := Tryd.prog) Tryd.underlying104 Tryd.underlying5 Tryd.underlying9 (hO); clear hO hB hg; dsimp only) | go_skip | go_guarded | go_step | go_upon)
  go_ret2
  exact ⟨_, rfl, by rw [strOfNums_size]; simp [bytesOf_length] <;> omega, HB5.out⟩
/-- inst.Bytes of any instruction: it errs where the form is not right -/
theorem bytes_calls (x : T3) (hc : Can x.2.1) (w : World) : Calls Tryd.prog 46 #[xVal x] w fun e w' => ∃ s : ByteArray, e = .returned (.tuple #[.string s, .int .i64 (if rightX x then 0 else 4)]) ∧ s.size ≤ 24 ∧ Below w.heap.size w w' := by
  obtain ⟨op, n, m⟩ := x
  by_cases hr : rightX (op, n, m) = true
  · have key : Calls Tryd.prog 46 #[xVal (op, n, m)] w (BytesOk w) := by
      have h := hr
      unfold rightX at h
      dsimp only at h
      rcases kindI_cases op with hk | hk | hk | hk | hk | hk | hk
      · rw [if_pos hk] at h; cases h
      · exact bytes_1 op n m hc hk hr w
      · rw [hk] at h
        simp [leastI, mostI, mostM] at h
        by_cases hm : m = 0
        · exact bytes_2z op n m hc (by simpa using hm) hk hr w
        · exact bytes_2 op n m hc (by simpa using hm) (by omega) (by omega) hk hr w
      · rw [hk] at h
        simp [leastI, mostI, mostM] at h
        exact bytes_3 op n m hc (by omega) (by omega) hk hr w
      · rw [hk] at h
        simp [leastI, mostI, mostM] at h
        exact bytes_4 op n m hc (by omega) (by omega) hk hr w
      · exact bytes_5 op n m hc hk hr w
      · exact bytes_6 op n m hc hk hr w
    refine key.mono ?_
    rintro e w' ⟨s, rfl, hs, hb⟩
    exact ⟨s, by rw [if_pos hr], hs, hb⟩
  · have hr2 : rightX (op, n, m) = false := by simpa using hr
    refine (bytes_no op n m hr2 w).mono ?_
    rintro e w' ⟨rfl, hb⟩
    exact ⟨⟨#[]⟩, by rw [hr2]; rfl, by decide, hb⟩
end Go.Proofs.YtjjhhmchomabeaaDoor.Valid
