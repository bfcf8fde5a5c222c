/- Plain facts on the bits of what package word reckons: no program in sight. -/
import Derived.Test.YtobopkkdjkjafaaWordPure
namespace Go.Proofs.Ytobopkkdjkjafaa.Word
open Go.RowKit
set_option linter.unusedVariables false
set_option linter.unusedSimpArgs false

/-! Bits -/
def B (k : Nat) (x : Int) : BitVec k := BitVec.ofInt k x
theorem B_nat (k : Nat) (n : Nat) : B k (n : Int) = BitVec.ofNat k n := by unfold B; exact BitVec.ofInt_natCast k n
theorem B_toNat {k : Nat} (z : BitVec k) : B k ((z.toNat : Nat) : Int) = z := by rw [B_nat]; simp
theorem B64_wrap (z : Int) : B 64 (wrap64 z) = B 64 z := by
  apply BitVec.eq_of_toNat_eq; unfold B; rw [BitVec.toNat_ofInt, BitVec.toNat_ofInt]; unfold wrap64; omega
theorem B32_wrap (z : Int) : B 32 (wrap64 z) = B 32 z := by
  apply BitVec.eq_of_toNat_eq; unfold B; rw [BitVec.toNat_ofInt, BitVec.toNat_ofInt]; unfold wrap64; omega
theorem B64_uns (z : Int) : B 64 (uns z) = B 64 z := by
  apply BitVec.eq_of_toNat_eq; unfold B; rw [BitVec.toNat_ofInt, BitVec.toNat_ofInt]; unfold uns; omega
theorem B32_uns (z : Int) : B 32 (uns z) = B 32 z := by
  apply BitVec.eq_of_toNat_eq; unfold B; rw [BitVec.toNat_ofInt, BitVec.toNat_ofInt]; unfold uns; omega
theorem B32_low (z : Int) : B 32 (z % 4294967296) = B 32 z := by
  apply BitVec.eq_of_toNat_eq; unfold B; rw [BitVec.toNat_ofInt, BitVec.toNat_ofInt]; omega
theorem B32_trim (z : Int) : B 32 (trim false z) = B 32 z := by simpa [trim] using B32_low z
theorem B32_of (z : Int) : B 32 z = (B 64 z).setWidth 32 := by
  apply BitVec.eq_of_toNat_eq; unfold B; rw [BitVec.toNat_setWidth, BitVec.toNat_ofInt, BitVec.toNat_ofInt]; omega
theorem B64_inj {x y : Int} (hx : I64 x) (hy : I64 y) (h : B 64 x = B 64 y) : x = y := by
  have h' := congrArg BitVec.toNat h
  unfold B at h'; rw [BitVec.toNat_ofInt, BitVec.toNat_ofInt] at h'; unfold I64 at *; omega
theorem B32_inj {x y : Int} (hx : 0 ≤ x ∧ x ≤ 4294967295) (hy : 0 ≤ y ∧ y ≤ 4294967295) (h : B 32 x = B 32 y) : x = y := by
  have h' := congrArg BitVec.toNat h
  unfold B at h'; rw [BitVec.toNat_ofInt, BitVec.toNat_ofInt] at h'; omega
theorem B64_and (x y : Int) : B 64 (Go.bits .and .i64 x y) = B 64 x &&& B 64 y := by
  show B 64 (IntKind.i64.wrap ((BitVec.ofInt 64 x &&& BitVec.ofInt 64 y).toNat : Int)) = _
  rw [IntWalk.i64_left, B64_wrap, B_toNat]; rfl
theorem B64_or (x y : Int) : B 64 (Go.bits .or .i64 x y) = B 64 x ||| B 64 y := by
  show B 64 (IntKind.i64.wrap ((BitVec.ofInt 64 x ||| BitVec.ofInt 64 y).toNat : Int)) = _
  rw [IntWalk.i64_left, B64_wrap, B_toNat]; rfl
theorem B64_xor (x y : Int) : B 64 (Go.bits .xor .i64 x y) = B 64 x ^^^ B 64 y := by
  show B 64 (IntKind.i64.wrap ((BitVec.ofInt 64 x ^^^ BitVec.ofInt 64 y).toNat : Int)) = _
  rw [IntWalk.i64_left, B64_wrap, B_toNat]; rfl
theorem B64_oru (x y : Int) : B 64 (Go.bits .or .u64 x y) = B 64 x ||| B 64 y := by
  show B 64 (IntKind.u64.wrap ((BitVec.ofInt 64 x ||| BitVec.ofInt 64 y).toNat : Int)) = _
  rw [wrap_u64, B64_uns, B_toNat]; rfl
theorem B32_oru (x y : Int) : B 32 (Go.bits .or .u32 x y) = B 32 x ||| B 32 y := by
  show B 32 (IntKind.u32.wrap ((BitVec.ofInt 32 x ||| BitVec.ofInt 32 y).toNat : Int)) = _
  rw [IntKind.wrap_u32, B32_low, B_toNat]; rfl
theorem B32_and (x y : Int) : B 32 (Go.bits .and .i64 x y) = B 32 x &&& B 32 y := by rw [B32_of, B64_and, B32_of, B32_of, BitVec.setWidth_and]
theorem B32_or (x y : Int) : B 32 (Go.bits .or .i64 x y) = B 32 x ||| B 32 y := by rw [B32_of, B64_or, B32_of, B32_of, BitVec.setWidth_or]
theorem B32_xor (x y : Int) : B 32 (Go.bits .xor .i64 x y) = B 32 x ^^^ B 32 y := by rw [B32_of, B64_xor, B32_of, B32_of, BitVec.setWidth_xor]
theorem B32_or64 (x y : Int) : B 32 (Go.bits .or .u64 x y) = B 32 x ||| B 32 y := by rw [B32_of, B64_oru, B32_of, B32_of, BitVec.setWidth_or]
theorem B_add (k : Nat) (x y : Int) : B k (x + y) = B k x + B k y := by unfold B; exact BitVec.ofInt_add x y
theorem B_mul (k : Nat) (x y : Int) : B k (x * y) = B k x * B k y := by unfold B; exact BitVec.ofInt_mul x y
theorem B_shl (k : Nat) (x : Int) (n : Nat) : B k (x * 2 ^ n) = B k x <<< n := by
  have e : (2 : Int) ^ n = ((2 ^ n : Nat) : Int) := by simp
  rw [B_mul, e, B_nat, ← BitVec.mul_twoPow_eq_shiftLeft]
  have e2 : BitVec.ofNat k (2 ^ n) = BitVec.twoPow k n := by apply BitVec.eq_of_toNat_eq; simp [BitVec.toNat_twoPow]
  rw [e2]
theorem B64_shr (x : Int) (n : Nat) : B 64 (uns x / 2 ^ n) = B 64 x >>> n := by
  apply BitVec.eq_of_toNat_eq
  have e : uns x = (((B 64 x).toNat : Nat) : Int) := by unfold B uns; rw [BitVec.toNat_ofInt]; omega
  have e2 : (2 : Int) ^ n = ((2 ^ n : Nat) : Int) := by simp
  rw [e, e2, ← Int.natCast_ediv, B_nat, BitVec.toNat_ofNat, BitVec.toNat_ushiftRight, Nat.shiftRight_eq_div_pow]
  exact Nat.mod_eq_of_lt (Nat.lt_of_le_of_lt (Nat.div_le_self _ _) (B 64 x).isLt)
theorem B32_shr (x : Int) (h : 0 ≤ x ∧ x ≤ 4294967295) (n : Nat) : B 32 (x / 2 ^ n) = B 32 x >>> n := by
  apply BitVec.eq_of_toNat_eq
  have e : x = (((B 32 x).toNat : Nat) : Int) := by unfold B; rw [BitVec.toNat_ofInt]; omega
  have e2 : (2 : Int) ^ n = ((2 ^ n : Nat) : Int) := by simp
  conv => lhs; rw [e]
  rw [e2, ← Int.natCast_ediv, B_nat, BitVec.toNat_ofNat, BitVec.toNat_ushiftRight, Nat.shiftRight_eq_div_pow]
  exact Nat.mod_eq_of_lt (Nat.lt_of_le_of_lt (Nat.div_le_self _ _) (B 32 x).isLt)

theorem B_rot32 (x n : Int) (h : 0 ≤ x ∧ x ≤ 4294967295) : B 32 (rot32 x n) = (B 32 x).rotateLeft (n % 32).toNat := by
  unfold rot32
  have h1 : (n % 32).toNat < 32 := by omega
  have h2 : (32 - n % 32).toNat = 32 - (n % 32).toNat := by omega
  rw [B32_oru, B32_low, B_shl, B32_shr x h, BitVec.rotateLeft_def, Nat.mod_eq_of_lt h1, h2]
theorem B_rot64 (x n : Int) : B 64 (rot64 (uns x) n) = (B 64 x).rotateLeft (n % 64).toNat := by
  unfold rot64
  have h1 : (n % 64).toNat < 64 := by omega
  have h2 : (64 - n % 64).toNat = 64 - (n % 64).toNat := by omega
  rw [B64_oru, B64_uns, B_shl, B64_uns, B64_shr x, BitVec.rotateLeft_def, Nat.mod_eq_of_lt h1, h2]

theorem rot_back {k : Nat} (x : BitVec k) (r s : Nat) (hr : r < k) (hs : s < k) (h : r + s = k ∨ r = 0 ∧ s = 0) : (x.rotateLeft r).rotateLeft s = x := by
  apply BitVec.eq_of_getLsbD_eq
  intro i hi
  rw [BitVec.getLsbD_rotateLeft, BitVec.getLsbD_rotateLeft, BitVec.getLsbD_rotateLeft, Nat.mod_eq_of_lt hr, Nat.mod_eq_of_lt hs]
  by_cases h1 : i < s
  · rcases h with h | ⟨rfl, rfl⟩
    · have e1 : ¬ k - s + i < r := by omega
      have e2 : k - s + i < k := by omega
      have e3 : k - s + i - r = i := by omega
      simp [h1, e1, e2, e3]
    · omega
  · rcases h with h | ⟨rfl, rfl⟩
    · have e1 : i - s < r := by omega
      have e3 : k - r + (i - s) = i := by omega
      simp [h1, e1, e3, hi]
    · simp [hi]

theorem bv_and_add_or {k : Nat} (a b : BitVec k) : (a &&& b) + (a ||| b) = a + b := by
  have h1 : a ||| b = (a &&& ~~~b) + b := by
    rw [BitVec.add_eq_or_of_and_eq_zero]
    · apply BitVec.eq_of_getLsbD_eq; intro i hi; simp [hi]; cases a[i] <;> cases b[i] <;> rfl
    · apply BitVec.eq_of_getLsbD_eq; intro i hi; simp +contextual [hi]
  have h2 : a = (a &&& b) + (a &&& ~~~b) := by
    rw [BitVec.add_eq_or_of_and_eq_zero]
    · apply BitVec.eq_of_getLsbD_eq; intro i hi; simp [hi]; cases a[i] <;> cases b[i] <;> rfl
    · apply BitVec.eq_of_getLsbD_eq; intro i hi; simp +contextual [hi]
  rw [h1, ← BitVec.add_assoc, ← h2]

theorem reck_106 (w : Bool) (x y : Int) : (reck 106 w x y).1 = wrap64 (x + y) := by simp [reck]
theorem reck_113 (w : Bool) (x y : Int) : (reck 113 w x y).1 = Go.bits .and .i64 x y := by simp [reck]
theorem reck_114 (w : Bool) (x y : Int) : (reck 114 w x y).1 = Go.bits .or .i64 x y := by simp [reck]
theorem reck_115 (w : Bool) (x y : Int) : (reck 115 w x y).1 = Go.bits .xor .i64 x y := by simp [reck]
theorem reck_116 (w : Bool) (x y : Int) : (reck 116 w x y).1 = wrap64 (x * 2 ^ (cnt w y).toNat) := by simp [reck]
theorem reck_118 (w : Bool) (x y : Int) : (reck 118 w x y).1 = wrap64 (uns x / 2 ^ (cnt w y).toNat) := by simp [reck]
theorem reck_119n (x y : Int) : (reck 119 false x y).1 = wrap64 (rot32 (x % 4294967296) (y % 32)) := by simp [reck]
theorem reck_120n (x y : Int) : (reck 120 false x y).1 = wrap64 (rot32 (x % 4294967296) (-(y % 32))) := by simp [reck]
theorem reck_119w (x y : Int) : (reck 119 true x y).1 = wrap64 (rot64 (uns x) (y % 64)) := by simp [reck]
theorem reck_120w (x y : Int) : (reck 120 true x y).1 = wrap64 (rot64 (uns x) (-(y % 64))) := by simp [reck]
theorem cnt_n (y : Int) : cnt false y = y % 32 := by simp [cnt]
theorem cnt_w (y : Int) : cnt true y = y % 64 := by simp [cnt]

/-- the bits of a value at its width -/
theorem val_I (k : Int) (w : Bool) (a b : Int) (h0 : 106 ≤ k) (h1 : k ≤ 120) : w = false → 0 ≤ val k w a b ∧ val k w a b ≤ 4294967295 := by
  intro hw; subst hw; unfold val; rw [eval_reck false k a b h0 h1]; exact trim_narrow _
theorem val_trim (k : Int) (w : Bool) (a b : Int) (h0 : 106 ≤ k) (h1 : k ≤ 120) : trim w (val k w a b) = val k w a b := by
  unfold val; rw [eval_reck w k a b h0 h1]; exact trim_trim w _

theorem nB (k : Int) (a b : Int) (h0 : 106 ≤ k) (h1 : k ≤ 120) : B 32 (val k false a b) = B 32 (reck k false (trim false a) (trim false b)).1 := by
  unfold val; rw [eval_reck false k a b h0 h1]; exact B32_trim _
theorem wB (k : Int) (a b : Int) (h0 : 106 ≤ k) (h1 : k ≤ 120) : val k true a b = (reck k true a b).1 := by
  unfold val; rw [eval_reck true k a b h0 h1]; simp [trim]
theorem n_and (a b : Int) : B 32 (val 113 false a b) = B 32 a &&& B 32 b := by
  rw [nB 113 a b (by decide) (by decide), reck_113, B32_and, B32_trim, B32_trim]
theorem n_or (a b : Int) : B 32 (val 114 false a b) = B 32 a ||| B 32 b := by
  rw [nB 114 a b (by decide) (by decide), reck_114, B32_or, B32_trim, B32_trim]
theorem n_xor (a b : Int) : B 32 (val 115 false a b) = B 32 a ^^^ B 32 b := by
  rw [nB 115 a b (by decide) (by decide), reck_115, B32_xor, B32_trim, B32_trim]
theorem n_add (a b : Int) : B 32 (val 106 false a b) = B 32 a + B 32 b := by
  rw [nB 106 a b (by decide) (by decide), reck_106, B32_wrap, B_add, B32_trim, B32_trim]
theorem n_shl (a b : Int) : B 32 (val 116 false a b) = B 32 a <<< (b % 32).toNat := by
  have e : trim false b % 32 = b % 32 := by simp only [trim, Bool.false_eq_true, if_false]; omega
  rw [nB 116 a b (by decide) (by decide), reck_116, cnt_n, B32_wrap, B_shl, B32_trim, e]
theorem n_shr (a b : Int) : B 32 (val 118 false a b) = B 32 a >>> (b % 32).toNat := by
  have e : trim false b % 32 = b % 32 := by simp only [trim, Bool.false_eq_true, if_false]; omega
  rw [nB 118 a b (by decide) (by decide), reck_118, cnt_n, B32_wrap, uns_narrow (trim_narrow a), B32_shr _ (trim_narrow a), B32_trim, e]
theorem n_rotl (a b : Int) : B 32 (val 119 false a b) = (B 32 a).rotateLeft (b % 32).toNat := by
  have e : trim false b % 32 % 32 = b % 32 := by simp only [trim, Bool.false_eq_true, if_false]; omega
  have e2 : trim false a % 4294967296 = trim false a := by have := trim_narrow a; omega
  rw [nB 119 a b (by decide) (by decide), reck_119n, B32_wrap, e2, B_rot32 _ _ (trim_narrow a), B32_trim, e]
theorem n_rotr (a b : Int) : B 32 (val 120 false a b) = (B 32 a).rotateLeft (-(b % 32) % 32).toNat := by
  have e : -(trim false b % 32) % 32 = -(b % 32) % 32 := by simp only [trim, Bool.false_eq_true, if_false]; omega
  have e2 : trim false a % 4294967296 = trim false a := by have := trim_narrow a; omega
  rw [nB 120 a b (by decide) (by decide), reck_120n, B32_wrap, e2, B_rot32 _ _ (trim_narrow a), B32_trim, e]
theorem w_and (a b : Int) : B 64 (val 113 true a b) = B 64 a &&& B 64 b := by
  rw [wB 113 a b (by decide) (by decide), reck_113, B64_and]
theorem w_or (a b : Int) : B 64 (val 114 true a b) = B 64 a ||| B 64 b := by
  rw [wB 114 a b (by decide) (by decide), reck_114, B64_or]
theorem w_xor (a b : Int) : B 64 (val 115 true a b) = B 64 a ^^^ B 64 b := by
  rw [wB 115 a b (by decide) (by decide), reck_115, B64_xor]
theorem w_add (a b : Int) : B 64 (val 106 true a b) = B 64 a + B 64 b := by
  rw [wB 106 a b (by decide) (by decide), reck_106, B64_wrap, B_add]
theorem w_shl (a b : Int) : B 64 (val 116 true a b) = B 64 a <<< (b % 64).toNat := by
  rw [wB 116 a b (by decide) (by decide), reck_116, cnt_w, B64_wrap, B_shl]
theorem w_shr (a b : Int) : B 64 (val 118 true a b) = B 64 a >>> (b % 64).toNat := by
  rw [wB 118 a b (by decide) (by decide), reck_118, cnt_w, B64_wrap, B64_shr]
theorem w_rotl (a b : Int) : B 64 (val 119 true a b) = (B 64 a).rotateLeft (b % 64).toNat := by
  have e : b % 64 % 64 = b % 64 := by omega
  rw [wB 119 a b (by decide) (by decide), reck_119w, B64_wrap, B_rot64, e]
theorem w_rotr (a b : Int) : B 64 (val 120 true a b) = (B 64 a).rotateLeft (-(b % 64) % 64).toNat := by
  rw [wB 120 a b (by decide) (by decide), reck_120w, B64_wrap, B_rot64]
theorem bits_I (o : BinOp) (x y : Int) : I64 (Go.bits o .i64 x y) := by
  show I64 (IntKind.i64.wrap _)
  rw [IntWalk.i64_left]; exact wrap64_I _
theorem w_I (k : Int) (a b : Int) (h : k = 106 ∨ k = 113 ∨ k = 114 ∨ k = 115 ∨ k = 116 ∨ k = 118 ∨ k = 119 ∨ k = 120) : I64 (val k true a b) := by
  rw [wB k a b (by omega) (by omega)]
  rcases h with rfl | rfl | rfl | rfl | rfl | rfl | rfl | rfl
  · rw [reck_106]; exact wrap64_I _
  · rw [reck_113]; exact bits_I _ _ _
  · rw [reck_114]; exact bits_I _ _ _
  · rw [reck_115]; exact bits_I _ _ _
  · rw [reck_116]; exact wrap64_I _
  · rw [reck_118]; exact wrap64_I _
  · rw [reck_119w]; exact wrap64_I _
  · rw [reck_120w]; exact wrap64_I _
theorem shift_again {k : Nat} (x : BitVec k) (n : Nat) : ((x <<< n) >>> n) <<< n = x <<< n := by
  apply BitVec.eq_of_getLsbD_eq
  intro i hi
  simp only [BitVec.getLsbD_shiftLeft, BitVec.getLsbD_ushiftRight]
  by_cases h : i < n
  · simp [h]
  · have e : n + (i - n) = i := by omega
    simp [h, e, hi]
theorem bv_xor_and_or {k : Nat} (a b : BitVec k) : (a &&& b) ^^^ (a ||| b) = a ^^^ b := by
  apply BitVec.eq_of_getLsbD_eq; intro i hi; simp; cases a.getLsbD i <;> cases b.getLsbD i <;> rfl
theorem bv_xor_back {k : Nat} (a b : BitVec k) : (a ^^^ b) ^^^ b = a := by
  apply BitVec.eq_of_getLsbD_eq; intro i hi; simp

/-! The law WordTurns -/
theorem turns_rot (w : Bool) (a b : Int) (ha : I64 a) : val 120 w (val 119 w a b) b = trim w a := by
  cases w
  · refine B32_inj (val_I 120 false _ b (by decide) (by decide) rfl) (trim_narrow a) ?_
    rw [n_rotr, n_rotl, B32_trim]
    exact rot_back _ _ _ (by omega) (by omega) (by omega)
  · refine B64_inj (w_I 120 _ b (by decide)) (trim_I ha) ?_
    rw [w_rotr, w_rotl, trim_true]
    exact rot_back _ _ _ (by omega) (by omega) (by omega)
theorem turns_shift (w : Bool) (a b : Int) : val 116 w (val 118 w (val 116 w a b) b) b = val 116 w a b := by
  cases w
  · refine B32_inj (val_I 116 false _ b (by decide) (by decide) rfl) (val_I 116 false a b (by decide) (by decide) rfl) ?_
    rw [n_shl, n_shr, n_shl]; exact shift_again _ _
  · refine B64_inj (w_I 116 _ b (by decide)) (w_I 116 a b (by decide)) ?_
    rw [w_shl, w_shr, w_shl]; exact shift_again _ _
theorem turns_xor (w : Bool) (a b : Int) : val 115 w (val 113 w a b) (val 114 w a b) = val 115 w a b := by
  cases w
  · refine B32_inj (val_I 115 false _ _ (by decide) (by decide) rfl) (val_I 115 false a b (by decide) (by decide) rfl) ?_
    rw [n_xor, n_and, n_or, n_xor]; exact bv_xor_and_or _ _
  · refine B64_inj (w_I 115 _ _ (by decide)) (w_I 115 a b (by decide)) ?_
    rw [w_xor, w_and, w_or, w_xor]; exact bv_xor_and_or _ _
theorem turns_back (w : Bool) (a b : Int) (ha : I64 a) : val 115 w (val 115 w a b) b = trim w a := by
  cases w
  · refine B32_inj (val_I 115 false _ _ (by decide) (by decide) rfl) (trim_narrow a) ?_
    rw [n_xor, n_xor, B32_trim]; exact bv_xor_back _ _
  · refine B64_inj (w_I 115 _ _ (by decide)) (trim_I ha) ?_
    rw [w_xor, w_xor, trim_true]; exact bv_xor_back _ _
theorem turns_add (w : Bool) (a b : Int) : val 106 w (val 113 w a b) (val 114 w a b) = val 106 w a b := by
  cases w
  · refine B32_inj (val_I 106 false _ _ (by decide) (by decide) rfl) (val_I 106 false a b (by decide) (by decide) rfl) ?_
    rw [n_add, n_and, n_or, n_add]; exact bv_and_add_or _ _
  · refine B64_inj (w_I 106 _ _ (by decide)) (w_I 106 a b (by decide)) ?_
    rw [w_add, w_and, w_or, w_add]; exact bv_and_add_or _ _

end Go.Proofs.Ytobopkkdjkjafaa.Word
