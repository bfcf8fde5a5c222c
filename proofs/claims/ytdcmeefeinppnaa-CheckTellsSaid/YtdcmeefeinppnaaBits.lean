/- Sets of cells as bits of a number: plain facts. -/
import Derived.Test.YtdcmeefeinppnaaLiveEnd
namespace Go.Proofs.Ytdcmeefeinppnaa.Live
open Go.RowKit Go.Proofs.YtdcmeefeinppnaaW.PrintWords Go.Proofs.YtdcmeefeinppnaaW.PrintLast Go.Proofs.YtdcmeefeinppnaaW.PrintMore Go.Proofs.Ytdcmeefeinppnaa.Mem Go.Proofs.Ytdcmeefeinppnaa.Ir
open Uses (uses)
set_option linter.unusedVariables false
set_option linter.unusedSimpArgs false

theorem inB_mod (s : Int) (k : Nat) : inB s (k : Int) = decide ((s / 2 ^ k) % 2 = 1) := by
  unfold inB
  rw [Int.toNat_natCast]
  have h : Go.bits .and .i64 (s / 2 ^ k) 1 = (s / 2 ^ k) % 2 := by
    show IntKind.i64.wrap ((BitVec.ofInt 64 (s / 2 ^ k) &&& BitVec.ofInt 64 1).toNat : Int) = _
    have h2 : ((BitVec.ofInt 64 (s / 2 ^ k) &&& BitVec.ofInt 64 1).toNat : Int) = (s / 2 ^ k) % 2 := by
      rw [BitVec.toNat_and, BitVec.toNat_ofInt, BitVec.toNat_ofInt]
      have e : ((1 : Int) % ((2 ^ 64 : Nat) : Int)).toNat = 2 ^ 1 - 1 := by decide
      rw [e, Nat.and_two_pow_sub_one_eq_mod]
      omega
    rw [h2, IntKind.wrap_i64]; omega
  rw [h]
  rcases (by omega : (s / 2 ^ k) % 2 = 0 ∨ (s / 2 ^ k) % 2 = 1) with h0 | h0 <;> rw [h0] <;> rfl
theorem inB_one (s : Int) (k : Nat) : (Go.bits .and .i64 (s / 2 ^ k) 1 == 1) = inB s (k : Int) := by
  have h : Go.bits .and .i64 (s / 2 ^ k) 1 = 0 ∨ Go.bits .and .i64 (s / 2 ^ k) 1 = 1 := by
    have h2 : ((BitVec.ofInt 64 (s / 2 ^ k) &&& BitVec.ofInt 64 1).toNat : Int) = (s / 2 ^ k) % 2 := by
      rw [BitVec.toNat_and, BitVec.toNat_ofInt, BitVec.toNat_ofInt]
      have e : ((1 : Int) % ((2 ^ 64 : Nat) : Int)).toNat = 2 ^ 1 - 1 := by decide
      rw [e, Nat.and_two_pow_sub_one_eq_mod]
      omega
    have h3 : Go.bits .and .i64 (s / 2 ^ k) 1 = (s / 2 ^ k) % 2 := by
      show IntKind.i64.wrap ((BitVec.ofInt 64 (s / 2 ^ k) &&& BitVec.ofInt 64 1).toNat : Int) = _
      rw [h2, IntKind.wrap_i64]; omega
    rw [h3]; omega
  unfold inB
  rw [Int.toNat_natCast]
  rcases h with h | h <;> rw [h] <;> rfl
theorem bv_bit (s : Int) (k : Nat) (hk : k < 64) : (bv s).getLsbD k = decide ((s / 2 ^ k) % 2 = 1) := by
  unfold bv
  rw [BitVec.getLsbD, BitVec.toNat_ofInt, Nat.testBit_eq_decide_div_mod_eq]
  congr 1
  have e : ((2 ^ 64 : Nat) : Int) = 2 ^ k * 2 ^ (64 - k) := by rw [← Int.pow_add, show k + (64 - k) = 64 by omega]; rfl
  have hp : (0 : Int) < 2 ^ k := Int.pow_pos (by decide)
  have h1 : s / 2 ^ k = (s % ((2 ^ 64 : Nat) : Int)) / 2 ^ k + 2 ^ (64 - k) * (s / ((2 ^ 64 : Nat) : Int)) := by
    conv => lhs; rw [← Int.emod_add_mul_ediv s ((2 ^ 64 : Nat) : Int)]
    rw [e, Int.mul_assoc, Int.add_mul_ediv_left _ _ (by omega)]
  have hev : (2 : Int) ^ (64 - k) = 2 * 2 ^ (63 - k) := by rw [show 64 - k = (63 - k) + 1 by omega, Int.pow_succ]; omega
  obtain ⟨r, hr⟩ : ∃ r : Nat, s % ((2 ^ 64 : Nat) : Int) = (r : Int) := ⟨(s % ((2 ^ 64 : Nat) : Int)).toNat, by rw [Int.toNat_of_nonneg]; exact Int.emod_nonneg _ (by decide)⟩
  rw [hr] at h1 ⊢
  rw [h1, hev, Int.toNat_natCast, Int.mul_assoc]
  have h2 : ((r / 2 ^ k : Nat) : Int) = (r : Int) / 2 ^ k := by rw [Int.natCast_ediv]; simp
  rw [← h2]
  apply propext
  omega
theorem inB_bv (s : Int) (k : Nat) (hk : k < 64) : inB s (k : Int) = (bv s).getLsbD k := by rw [inB_mod, bv_bit s k hk]
theorem inB_or (x y : Int) (k : Nat) (hk : k < 64) : inB (Go.bits .or .i64 x y) (k : Int) = (inB x (k : Int) || inB y (k : Int)) := by
  rw [inB_bv _ _ hk, inB_bv _ _ hk, inB_bv _ _ hk, bv_or, BitVec.getLsbD_or]
theorem inB_zero (k : Nat) : inB 0 (k : Int) = false := by rw [inB_mod]; simp
theorem inB_bit (a k : Nat) (ha : a < 64) (hk : k < 64) : inB (wrap64 (2 ^ a)) (k : Int) = decide (k = a) := by
  rw [inB_bv _ _ hk, bv_wrap64]
  have h : bv ((2 : Int) ^ a) = BitVec.twoPow 64 a := by
    apply BitVec.eq_of_toNat_eq
    unfold bv
    rw [BitVec.toNat_ofInt, BitVec.toNat_twoPow]
    have : ((2 : Int) ^ a) = ((2 ^ a : Nat) : Int) := by simp
    rw [this]
    omega
  rw [h, BitVec.getLsbD_twoPow]
  rw [Bool.eq_iff_iff]
  simp only [Bool.and_eq_true, decide_eq_true_eq]
  omega
theorem inB_mask (p k : Nat) (hp : p < 63) (hk : k < 64) : inB (wrap64 (wrap64 (2 ^ p) - 1)) (k : Int) = decide (k < p) := by
  rw [inB_bv _ _ hk, bv_wrap64]
  have h63 : (2 : Nat) ^ p ≤ 2 ^ 62 := Nat.pow_le_pow_right (by decide) (by omega)
  have hw : wrap64 ((2 : Int) ^ p) = ((2 ^ p : Nat) : Int) := by
    have : ((2 : Int) ^ p) = ((2 ^ p : Nat) : Int) := by simp
    rw [this]
    generalize (2 ^ p : Nat) = n at h63
    unfold wrap64
    omega
  have h1 : (1 : Nat) ≤ 2 ^ p := Nat.one_le_two_pow
  rw [hw, show (((2 ^ p : Nat) : Int) - 1) = ((2 ^ p - 1 : Nat) : Int) by omega]
  unfold bv
  rw [BitVec.ofInt_natCast, BitVec.getLsbD_ofNat, Nat.testBit_two_pow_sub_one]
  simp [hk]
theorem Sub.or2 {x y z : Int} (h : Sub x z) (k : Sub y z) : Sub (Go.bits .or .i64 x y) z := by
  intro i hi
  rw [bv_or, BitVec.getLsbD_or, Bool.or_eq_true] at hi
  exact hi.elim (h i) (k i)
theorem Sub.orl {x y : Int} : Sub x (Go.bits .or .i64 x y) := fun i hi => by rw [bv_or, BitVec.getLsbD_or, hi]; rfl
theorem Sub.orr {x y : Int} : Sub y (Go.bits .or .i64 x y) := fun i hi => by rw [bv_or, BitVec.getLsbD_or, hi]; simp
theorem Sub.zero (z : Int) : Sub 0 z := fun i hi => by
  have : bv 0 = 0 := rfl
  rw [this] at hi
  simp at hi
theorem Sub.clr_le (x d : Int) : Sub (Live.clr x d) x := by
  unfold Live.clr
  split
  · intro i hi
    rw [bv_andNot, BitVec.getLsbD_and, Bool.and_eq_true] at hi
    exact hi.1
  · exact Sub.refl _
theorem Sub.orL_le {ah : List Int} {M : Int} (h : ∀ k, Sub (rd ah k) M) (l : List Int) : ∀ {s : Int}, Sub s M → Sub (Live.orL ah l s) M := by
  induction l with
  | nil => intro s hs; exact hs
  | cons k l ih => intro s hs; exact ih (Sub.or2 hs (h k))
theorem Sub.bitL_le {M : Int} (l : List Int) : ∀ {s : Int}, Sub s M → (∀ k ∈ l, Sub (shl .i64 1 k) M) → Sub (Live.bitL l s) M := by
  induction l with
  | nil => intro s hs _; exact hs
  | cons k l ih => intro s hs h; exact ih (Sub.or2 hs (h k (by simp))) (fun k' hk => h k' (by simp [hk]))
theorem Sub.bitL_ge (l : List Int) : ∀ (s : Int), Sub s (Live.bitL l s) := by
  induction l with
  | nil => intro s; exact Sub.refl _
  | cons k l ih => intro s; exact Sub.orl.trans (ih _)
theorem Sub.bitL_mem (l : List Int) : ∀ (s : Int), ∀ k ∈ l, Sub (shl .i64 1 k) (Live.bitL l s) := by
  induction l with
  | nil => intro s k hk; cases hk
  | cons x l ih =>
    intro s k hk
    rcases List.mem_cons.1 hk with rfl | hk
    · exact Sub.orr.trans (Sub.bitL_ge l _)
    · exact ih _ k hk
theorem inB_sub {x y : Int} (h : Sub x y) {k : Nat} (hk : k < 64) (hi : inB x (k : Int) = true) : inB y (k : Int) = true := by
  rw [inB_bv _ _ hk] at hi ⊢
  exact h k hi
theorem inB_shl {k : Nat} (hk : k < 64) : inB (shl .i64 1 (k : Int)) (k : Int) = true := by
  rw [shl_bit (by omega), Int.toNat_natCast, inB_bit k k hk hk]; simp
end Go.Proofs.Ytdcmeefeinppnaa.Live
