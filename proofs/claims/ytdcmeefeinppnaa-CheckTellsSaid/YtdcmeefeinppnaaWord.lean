/- The walks of package word: each function of it reckons what the plain functions below say. -/
import Derived.Test.YtdcmeefeinppnaaProg
import Derived.Below
import Derived.WalkKit
import Derived.WalkSpells
import Derived.WalkLawsBesides
import Derived.Lib.Hide
namespace Go.Proofs.Ytdcmeefeinppnaa.Word
open Go.RowKit
set_option linter.unusedVariables false
set_option linter.unusedSimpArgs false

def arity (op : Int) : Int × Int × Int × Bool :=
  if op = 69 then (1, 0, 0, true)
  else if op = 80 then (1, 1, 0, true)
  else if (70 ≤ op ∧ op ≤ 79) ∨ (106 ≤ op ∧ op ≤ 120) then (2, 0, 0, true)
  else if 81 ≤ op ∧ op ≤ 90 then (2, 1, 0, true)
  else if 124 ≤ op ∧ op ≤ 138 then (2, 1, 1, true)
  else if op = 167 then (1, 1, 0, true)
  else if op = 172 ∨ op = 173 then (1, 0, 1, true)
  else (0, 0, 0, false)

def trim (w : Bool) (v : Int) : Int := if w then v else v % 4294967296
def sgn (w : Bool) (v : Int) : Int := if w then v else wrap32 v
def uns (v : Int) : Int := v % 18446744073709551616
def tell (b : Bool) : Int := if b then 1 else 0

def cmp (op : Int) (w : Bool) (a b : Int) : Bool :=
  if op = 69 then a == 0
  else if op = 70 then a == b
  else if op = 71 then !(a == b)
  else if op = 72 then decide (sgn w a < sgn w b)
  else if op = 73 then decide (uns a < uns b)
  else if op = 74 then decide (sgn w b < sgn w a)
  else if op = 75 then decide (uns b < uns a)
  else if op = 76 then !decide (sgn w b < sgn w a)
  else if op = 77 then !decide (uns b < uns a)
  else if op = 78 then !decide (sgn w a < sgn w b)
  else if op = 79 then !decide (uns a < uns b)
  else decide (uns b < uns a)

def least (w : Bool) : Int := if w then -9223372036854775808 else -2147483648

def divi (op : Int) (w : Bool) (a b : Int) : Int × Int :=
  if b = 0 then (0, 2)
  else if op = 110 then (wrap64 (uns a / uns b), 0)
  else if op = 112 then (wrap64 (uns a % uns b), 0)
  else if sgn w a = least w ∧ sgn w b = -1 then (if op = 109 then (0, 3) else (0, 0))
  else if op = 109 then (wrap64 ((sgn w a).tdiv (sgn w b)), 0)
  else ((sgn w a).tmod (sgn w b), 0)

theorem and_low (v : Int) : Go.bits .and .i64 v 4294967295 = v % 4294967296 := by
  show IntKind.i64.wrap _ = _
  have h : ((BitVec.ofInt 64 v &&& BitVec.ofInt 64 4294967295).toNat : Int) = v % 4294967296 := by
    rw [BitVec.toNat_and, BitVec.toNat_ofInt, BitVec.toNat_ofInt]
    have e : ((4294967295 : Int) % ((2 ^ 64 : Nat) : Int)).toNat = 2 ^ 32 - 1 := by decide
    rw [e, Nat.and_two_pow_sub_one_eq_mod]
    omega
  show IntKind.i64.wrap ((BitVec.ofInt 64 v &&& BitVec.ofInt 64 4294967295).toNat : Int) = _
  rw [h, IntKind.wrap_i64]; omega

theorem trim_calls (b : Bool) (v : Int) (w : World) :
    Calls Try.prog 96 #[.bool b, .int .i64 v] w fun e w' => e = .returned (.int .i64 (trim b v)) ∧ w = w' := by
  cases b
  · go_enter Try.func96, Try.ntmps96
    go_wp2
    go_ret
    simp [trim, and_low]
  · go_enter Try.func96, Try.ntmps96
    go_wp2
    go_ret
    simp [trim]

theorem wrap64_wrap32 (v : Int) : wrap64 (wrap32 (v % 4294967296)) = wrap32 v := by unfold wrap64 wrap32; omega

theorem sign_calls (b : Bool) (v : Int) (w : World) :
    Calls Try.prog 97 #[.bool b, .int .i64 v] w fun e w' => e = .returned (.int .i64 (sgn b v)) ∧ w = w' := by
  cases b
  · go_enter Try.func97, Try.ntmps97
    go_wp2
    go_ret
    simp [sgn, wrap64_wrap32]
  · go_enter Try.func97, Try.ntmps97
    go_wp2
    go_ret
    simp [sgn]

theorem tell_calls (b : Bool) (w : World) :
    Calls Try.prog 98 #[.bool b] w fun e w' => e = .returned (.int .i64 (tell b)) ∧ w = w' := by
  cases b
  all_goals
    go_enter Try.func98, Try.ntmps98
    go_wp2
    go_ret
    simp [tell]

set_option maxHeartbeats 1000000 in
theorem arity_in_calls (a b n : Int) (w : World) (p : Addr) (hp : w.cell? p = some (.int .i64 n)) :
    Calls Try.prog 95 #[.int .i64 a, .int .i64 b, .pointer (some p)] w fun e w' => e = .returned (.bool (decide (n ≥ a) && decide (n ≤ b))) ∧ w = w' := by
  by_cases h1 : a ≤ n
  · go_enter Try.func95, Try.ntmps95
    go_wp2
    go_ret
    simp [h1]
  · go_enter Try.func95, Try.ntmps95
    go_wp2
    go_ret
    simp; omega

set_option maxHeartbeats 2000000 in
theorem arity_calls (n : Int) (w : World) :
    Calls Try.prog 78 #[.int .i64 n] w fun e w' => e = .returned (.tuple #[.int .i64 (arity n).1, .int .i64 (arity n).2.1, .int .i64 (arity n).2.2.1, .bool (arity n).2.2.2]) ∧ Below w.heap.size w w' := by
  go_enter Try.func78, Try.ntmps78
  go_wp2_with (go_at_call 95; refine (arity_in_calls _ _ n _ _ (by go_simp)).mono ?_; rintro e w' ⟨rfl, rfl⟩)
  all_goals
    obtain ⟨q, hq⟩ : ∃ q, q = arity n := ⟨_, rfl⟩
    rw [← hq]
    simp only [beq_iff_eq, beq_eq_false_iff_ne] at *
    unfold arity at hq
    repeat' split at hq
    all_goals first
      | (exfalso; omega)
      | (subst hq
         exact bodyPost_ret (by simp [results, Try.results78, go_sem]) rfl ⟨rfl, (Below.refl _ _).alloc (Nat.le_refl _) _⟩)

theorem wrap_u64 (v : Int) : IntKind.u64.wrap v = uns v := by simp [IntKind.wrap, IntKind.bits, IntKind.signed, uns]

set_option maxHeartbeats 2000000 in
theorem compare_calls (op : Int) (b : Bool) (x y : Int) (w : World) :
    Calls Try.prog 99 #[.int .i64 op, .bool b, .int .i64 x, .int .i64 y] w fun e w' => e = .returned (.bool (cmp op b x y)) ∧ w = w' := by
  go_enter Try.func99, Try.ntmps99
  go_wp2_with (go_at_call 97; refine (sign_calls _ _ _).mono ?_; rintro e w' ⟨rfl, rfl⟩)
  all_goals
    simp only [beq_iff_eq, beq_eq_false_iff_ne] at *
    go_ret
    refine ⟨?_, rfl⟩
    first
      | (subst_vars; simp [cmp, wrap_u64]; done)
      | simp [cmp, wrap_u64, *]

theorem uns_ne {y : Int} (h : y ≠ 0) (h0 : -9223372036854775808 ≤ y) (h1 : y ≤ 9223372036854775807) : uns y ≠ 0 := by unfold uns; omega
theorem sgn_ne {b : Bool} {y : Int} (h : y ≠ 0) (h0 : b = false → 0 ≤ y ∧ y ≤ 4294967295) : sgn b y ≠ 0 := by
  cases b
  · have := h0 rfl; simp only [sgn, wrap32]; simp; omega
  · simpa [sgn] using h
theorem wrap64_uns (y : Int) : wrap64 (uns y) = wrap64 y := by unfold wrap64 uns; omega
theorem uns_nonneg (y : Int) : 0 ≤ uns y := by unfold uns; omega

set_option maxHeartbeats 4000000 in
theorem divide_calls (op : Int) (b : Bool) (x y : Int) (w : World) (h0 : -9223372036854775808 ≤ y) (h1 : y ≤ 9223372036854775807) (h2 : b = false → 0 ≤ y ∧ y ≤ 4294967295) :
    Calls Try.prog 115 #[.int .i64 op, .bool b, .int .i64 x, .int .i64 y] w fun e w' => e = .returned (.tuple #[.int .i64 (divi op b x y).1, .int .i64 (divi op b x y).2]) ∧ w = w' := by
  have H2 := Lib.hid h2
  clear h2
  cases b <;>
  go_enter Try.func115, Try.ntmps115
  all_goals (go_wp2_with (go_at_call 97; refine (sign_calls _ _ _).mono ?_; rintro e w' ⟨rfl, rfl⟩))
  all_goals
    simp only [beq_iff_eq, beq_eq_false_iff_ne, wrap_u64] at *
    have h2 := H2.out
    first
      | (exfalso; exact uns_ne ‹_› h0 h1 ‹_›)
      | (exfalso; exact sgn_ne (b := true) ‹_› h2 ‹_›)
      | (exfalso; exact sgn_ne (b := false) ‹_› (fun _ => h2 trivial) ‹_›)
      | (exfalso; simp_all; done)
      | (go_ret2; refine ⟨?_, rfl⟩; simp [divi, least, wrap64_uns, Int.tdiv_eq_ediv_of_nonneg (uns_nonneg _), Int.tmod_eq_emod_of_nonneg (uns_nonneg _), *]; try exact (Int.tmod_eq_emod_of_nonneg (by decide)).symm)
      | go_ways

theorem and_31 (n : Int) : Go.bits .and .u64 (uns n) 31 = n % 32 := by
  show IntKind.u64.wrap ((BitVec.ofInt 64 (uns n) &&& BitVec.ofInt 64 31).toNat : Int) = _
  have h : ((BitVec.ofInt 64 (uns n) &&& BitVec.ofInt 64 31).toNat : Int) = n % 32 := by
    rw [BitVec.toNat_and, BitVec.toNat_ofInt, BitVec.toNat_ofInt]
    have e : ((31 : Int) % ((2 ^ 64 : Nat) : Int)).toNat = 2 ^ 5 - 1 := by decide
    rw [e, Nat.and_two_pow_sub_one_eq_mod]
    unfold uns
    omega
  rw [h, wrap_u64, uns]; omega
theorem and_63 (n : Int) : Go.bits .and .u64 (uns n) 63 = n % 64 := by
  show IntKind.u64.wrap ((BitVec.ofInt 64 (uns n) &&& BitVec.ofInt 64 63).toNat : Int) = _
  have h : ((BitVec.ofInt 64 (uns n) &&& BitVec.ofInt 64 63).toNat : Int) = n % 64 := by
    rw [BitVec.toNat_and, BitVec.toNat_ofInt, BitVec.toNat_ofInt]
    have e : ((63 : Int) % ((2 ^ 64 : Nat) : Int)).toNat = 2 ^ 6 - 1 := by decide
    rw [e, Nat.and_two_pow_sub_one_eq_mod]
    unfold uns
    omega
  rw [h, wrap_u64, uns]; omega
theorem iand_31 (n : Int) : Go.bits .and .i64 n 31 = n % 32 := by
  show IntKind.i64.wrap ((BitVec.ofInt 64 n &&& BitVec.ofInt 64 31).toNat : Int) = _
  have h : ((BitVec.ofInt 64 n &&& BitVec.ofInt 64 31).toNat : Int) = n % 32 := by
    rw [BitVec.toNat_and, BitVec.toNat_ofInt, BitVec.toNat_ofInt]
    have e : ((31 : Int) % ((2 ^ 64 : Nat) : Int)).toNat = 2 ^ 5 - 1 := by decide
    rw [e, Nat.and_two_pow_sub_one_eq_mod]
    omega
  rw [h, IntKind.wrap_i64]; omega
theorem iand_63 (n : Int) : Go.bits .and .i64 n 63 = n % 64 := by
  show IntKind.i64.wrap ((BitVec.ofInt 64 n &&& BitVec.ofInt 64 63).toNat : Int) = _
  have h : ((BitVec.ofInt 64 n &&& BitVec.ofInt 64 63).toNat : Int) = n % 64 := by
    rw [BitVec.toNat_and, BitVec.toNat_ofInt, BitVec.toNat_ofInt]
    have e : ((63 : Int) % ((2 ^ 64 : Nat) : Int)).toNat = 2 ^ 6 - 1 := by decide
    rw [e, Nat.and_two_pow_sub_one_eq_mod]
    omega
  rw [h, IntKind.wrap_i64]; omega

/-- x, of 32 bits, turned to the left -/
def rot32 (x n : Int) : Int := Go.bits .or .u32 (x * 2 ^ (n % 32).toNat % 4294967296) (x / 2 ^ (32 - n % 32).toNat)
def rot64 (x n : Int) : Int := Go.bits .or .u64 (uns (x * 2 ^ (n % 64).toNat)) (x / 2 ^ (64 - n % 64).toNat)

theorem rot32_calls (x n : Int) (w : World) :
    Calls Try.prog 112 #[.int .u32 x, .int .i64 n] w fun e w' => e = .returned (.int .u32 (rot32 x n)) ∧ w = w' := by
  have hm : Go.bits .and .u64 (IntKind.u64.wrap n) 31 = n % 32 := by rw [wrap_u64]; exact and_31 n
  have h0 : 0 ≤ n % 32 := by omega
  have h1 : n % 32 ≤ 31 := by omega
  have h2 : 0 ≤ 32 - n % 32 := by omega
  go_enter Try.func112, Try.ntmps112
  go_wp2
  go_ret
  exact ⟨rfl, rfl⟩

theorem rot64_calls (x n : Int) (w : World) :
    Calls Try.prog 114 #[.int .u64 x, .int .i64 n] w fun e w' => e = .returned (.int .u64 (rot64 x n)) ∧ w = w' := by
  have hm : Go.bits .and .u64 (IntKind.u64.wrap n) 63 = n % 64 := by rw [wrap_u64]; exact and_63 n
  have h0 : 0 ≤ n % 64 := by omega
  have h1 : n % 64 ≤ 63 := by omega
  have h2 : 0 ≤ 64 - n % 64 := by omega
  go_enter Try.func114, Try.ntmps114
  go_wp2
  go_ret
  refine ⟨?_, rfl⟩
  simp [rot64, wrap_u64]

theorem turn32_calls (x n : Int) (w : World) (p : Addr) (hp : w.cell? p = some (.int .i64 x)) :
    Calls Try.prog 111 #[.int .i64 n, .pointer (some p)] w fun e w' => e = .returned (.int .i64 (wrap64 (rot32 (x % 4294967296) n))) ∧ w = w' := by
  go_enter Try.func111, Try.ntmps111
  go_wp2_with (go_at_call 112; refine (rot32_calls _ _ _).mono ?_; rintro e w' ⟨rfl, rfl⟩)
  go_ret
  exact ⟨rfl, rfl⟩

theorem turn64_calls (x n : Int) (w : World) (p : Addr) (hp : w.cell? p = some (.int .i64 x)) :
    Calls Try.prog 113 #[.int .i64 n, .pointer (some p)] w fun e w' => e = .returned (.int .i64 (wrap64 (rot64 (uns x) n))) ∧ w = w' := by
  rw [← wrap_u64]
  go_enter Try.func113, Try.ntmps113
  go_wp2_with (go_at_call 114; refine (rot64_calls _ _ _).mono ?_; rintro e w' ⟨rfl, rfl⟩)
  go_ret
  exact ⟨rfl, rfl⟩

def cnt (w : Bool) (y : Int) : Int := if w then y % 64 else y % 32

def reck (op : Int) (w : Bool) (x y : Int) : Int × Int :=
  if op = 106 then (wrap64 (x + y), 0)
  else if op = 107 then (wrap64 (x - y), 0)
  else if op = 108 then (wrap64 (x * y), 0)
  else if op = 113 then (Go.bits .and .i64 x y, 0)
  else if op = 114 then (Go.bits .or .i64 x y, 0)
  else if op = 115 then (Go.bits .xor .i64 x y, 0)
  else if op = 116 then (wrap64 (x * 2 ^ (cnt w y).toNat), 0)
  else if op = 117 then (sgn w x / 2 ^ (cnt w y).toNat, 0)
  else if op = 118 then (wrap64 (uns x / 2 ^ (cnt w y).toNat), 0)
  else if op = 119 then (if w then wrap64 (rot64 (uns x) (y % 64)) else wrap64 (rot32 (x % 4294967296) (y % 32)), 0)
  else if op = 120 then (if w then wrap64 (rot64 (uns x) (-(y % 64))) else wrap64 (rot32 (x % 4294967296) (-(y % 32))), 0)
  else divi op w x y

theorem reck_rets (op : Int) (b : Bool) (x y : Int) (u t : Int) (h : reck op b x y = (u, t)) {W W' : World} (hw : Below W.heap.size W W') :
    Ending.returned (.tuple #[.int .i64 u, .int .i64 t]) = Ending.returned (.tuple #[.int .i64 (reck op b x y).1, .int .i64 (reck op b x y).2]) ∧ Below W.heap.size W W' := by
  rw [h]; exact ⟨rfl, hw⟩

set_option maxHeartbeats 4000000 in
theorem reckon_wide (op : Int) (x y : Int) (w : World) (h0 : -9223372036854775808 ≤ y) (h1 : y ≤ 9223372036854775807) :
    Calls Try.prog 100 #[.int .i64 op, .bool true, .int .i64 x, .int .i64 y] w fun e w' => e = .returned (.tuple #[.int .i64 (reck op true x y).1, .int .i64 (reck op true x y).2]) ∧ Below w.heap.size w w' := by
  have hm : Go.bits .and .i64 y 63 = y % 64 := iand_63 y
  have g0 : 0 ≤ y % 64 := by omega
  have g1 : y % 64 ≤ 63 := by omega
  go_enter Try.func100, Try.ntmps100
  go_wp2_with (first
    | (go_at_call 113; refine (turn64_calls x _ _ _ (by go_simp)).mono ?_; rintro e w' ⟨rfl, rfl⟩)
    | (go_at_call 97; refine (sign_calls _ _ _).mono ?_; rintro e w' ⟨rfl, rfl⟩)
    | (go_at_call 115; refine (divide_calls _ _ _ _ _ (by assumption) (by assumption) (by intro h; cases h)).mono ?_; rintro e w' ⟨rfl, rfl⟩))
  all_goals
    simp only [beq_iff_eq, beq_eq_false_iff_ne, wrap_u64] at *
    go_ret2
    refine reck_rets _ _ _ _ _ _ ?_ ((Below.refl _ _).alloc (Nat.le_refl _) _)
    simp [reck, cnt, *]

set_option maxHeartbeats 4000000 in
theorem reckon_slim (op : Int) (x y : Int) (w : World) (h0 : 0 ≤ y) (h1 : y ≤ 4294967295) :
    Calls Try.prog 100 #[.int .i64 op, .bool false, .int .i64 x, .int .i64 y] w fun e w' => e = .returned (.tuple #[.int .i64 (reck op false x y).1, .int .i64 (reck op false x y).2]) ∧ Below w.heap.size w w' := by
  have hm : Go.bits .and .i64 y 31 = y % 32 := iand_31 y
  have g0 : 0 ≤ y % 32 := by omega
  have g1 : y % 32 ≤ 31 := by omega
  go_enter Try.func100, Try.ntmps100
  go_wp2_with (first
    | (go_at_call 111; refine (turn32_calls x _ _ _ (by go_simp)).mono ?_; rintro e w' ⟨rfl, rfl⟩)
    | (go_at_call 97; refine (sign_calls _ _ _).mono ?_; rintro e w' ⟨rfl, rfl⟩)
    | (go_at_call 115; refine (divide_calls _ _ _ _ _ (by omega) (by omega) (by intro h; omega)).mono ?_; rintro e w' ⟨rfl, rfl⟩))
  all_goals
    simp only [beq_iff_eq, beq_eq_false_iff_ne, wrap_u64] at *
    go_ret2
    refine reck_rets _ _ _ _ _ _ ?_ ((Below.refl _ _).alloc (Nat.le_refl _) _)
    simp [reck, cnt, *]

theorem reckon_calls (op : Int) (b : Bool) (x y : Int) (w : World) (h0 : -9223372036854775808 ≤ y) (h1 : y ≤ 9223372036854775807) (h2 : b = false → 0 ≤ y ∧ y ≤ 4294967295) :
    Calls Try.prog 100 #[.int .i64 op, .bool b, .int .i64 x, .int .i64 y] w fun e w' => e = .returned (.tuple #[.int .i64 (reck op b x y).1, .int .i64 (reck op b x y).2]) ∧ Below w.heap.size w w' := by
  cases b
  · exact reckon_slim op x y w (h2 rfl).1 (h2 rfl).2
  · exact reckon_wide op x y w h0 h1

def wideB (op : Int) : Bool := (arity op).2.1 == 1
def toB (op : Int) : Bool := (arity op).2.2.1 == 1

def eval (op a b : Int) : Int × Int :=
  if (arity op).2.2.2 = false then (0, 0)
  else if op = 167 ∨ op = 173 then (trim (toB op) (trim (wideB op) a), 0)
  else if op = 172 then (trim (toB op) (sgn false (trim (wideB op) a)), 0)
  else if op ≤ 79 then (tell (cmp op (wideB op) (trim (wideB op) a) (trim (wideB op) b)), 0)
  else if op ≤ 90 then (tell (cmp (op - 80 + 69) (wideB op) (trim (wideB op) a) (trim (wideB op) b)), 0)
  else if op ≥ 124 then (trim (toB op) (reck (op - 124 + 106) (wideB op) (trim (wideB op) a) (trim (wideB op) b)).1, (reck (op - 124 + 106) (wideB op) (trim (wideB op) a) (trim (wideB op) b)).2)
  else (trim (toB op) (reck op (wideB op) (trim (wideB op) a) (trim (wideB op) b)).1, (reck op (wideB op) (trim (wideB op) a) (trim (wideB op) b)).2)

theorem eval_rets (op x y : Int) (u t : Int) (h : eval op x y = (u, t)) {W W' : World} (hw : Below W.heap.size W W') :
    Ending.returned (.tuple #[.int .i64 u, .int .i64 t]) = Ending.returned (.tuple #[.int .i64 (eval op x y).1, .int .i64 (eval op x y).2]) ∧ Below W.heap.size W W' := by
  rw [h]; exact ⟨rfl, hw⟩

theorem trim_range (b : Bool) (v : Int) (h0 : -9223372036854775808 ≤ v) (h1 : v ≤ 9223372036854775807) : -9223372036854775808 ≤ trim b v ∧ trim b v ≤ 9223372036854775807 ∧ (b = false → 0 ≤ trim b v ∧ trim b v ≤ 4294967295) := by
  cases b
  · simp [trim]; omega
  · simp [trim]; omega

theorem arity_ok {op : Int} (h : (arity op).2.2.2 = true) : 69 ≤ op ∧ op ≤ 173 := by
  unfold arity at h
  repeat' split at h
  all_goals first | omega | (simp at h)

theorem eval_no (op x y : Int) (w : World) (h : (arity op).2.2.2 = false) :
    Calls Try.prog 81 #[.int .i64 op, .int .i64 x, .int .i64 y] w fun e w' => e = .returned (.tuple #[.int .i64 (eval op x y).1, .int .i64 (eval op x y).2]) ∧ Below w.heap.size w w' := by
  have he : eval op x y = (0, 0) := by simp [eval, h]
  have He := Lib.hid he
  clear he
  go_enter Try.func81, Try.ntmps81
  go_wp2_with (go_at_call 78; refine (arity_calls _ _).mono ?_; rintro e w' ⟨rfl, hb⟩)
  go_ret2
  exact eval_rets _ _ _ _ _ He.out hb

set_option maxHeartbeats 4000000 in
theorem eval_yes (op x y : Int) (w : World) (h : (arity op).2.2.2 = true) (h0 : -9223372036854775808 ≤ y) (h1 : y ≤ 9223372036854775807) :
    Calls Try.prog 81 #[.int .i64 op, .int .i64 x, .int .i64 y] w fun e w' => e = .returned (.tuple #[.int .i64 (eval op x y).1, .int .i64 (eval op x y).2]) ∧ Below w.heap.size w w' := by
  obtain ⟨o0, o1⟩ := arity_ok h
  obtain ⟨t0, t1, t2⟩ := trim_range (wideB op) y h0 h1
  have T2 := Lib.hid t2
  clear t2
  have HW : Hid (wideB op = ((arity op).2.1 == 1)) := Lib.hid rfl
  have HT : Hid (toB op = ((arity op).2.2.1 == 1)) := Lib.hid rfl
  have hwb : ((arity op).2.1 == 1) = wideB op := rfl
  have htb : ((arity op).2.2.1 == 1) = toB op := rfl
  go_enter Try.func81, Try.ntmps81
  go_wp2_with (first
    | (go_at_call 78; refine (arity_calls _ _).mono ?_; rintro e w' ⟨rfl, hb⟩)
    | (go_at_call 96; refine (trim_calls _ _ _).mono ?_; rintro e w' ⟨rfl, rfl⟩)
    | (go_at_call 97; refine (sign_calls _ _ _).mono ?_; rintro e w' ⟨rfl, rfl⟩)
    | (go_at_call 98; refine (tell_calls _ _).mono ?_; rintro e w' ⟨rfl, rfl⟩)
    | (go_at_call 99; refine (compare_calls _ _ _ _ _).mono ?_; rintro e w' ⟨rfl, rfl⟩)
    | (go_at_call 100; refine (reckon_calls _ _ _ _ _ (by assumption) (by assumption) T2.out).mono ?_; rintro e w' ⟨rfl, hb2⟩))
  all_goals
    go_ret2
    refine eval_rets _ _ _ _ _ ?_ (by first | exact hb | exact hb.trans (hb2.mono hb.size))
    simp only [beq_iff_eq, beq_eq_false_iff_ne] at *
    first
      | (subst_vars; simp [eval, *]; done)
      | (have e1 : ¬ op ≤ 79 := by omega
         simp [eval, *]; done)
      | (have e1 : ¬ op ≤ 79 := by omega
         have e2 : ¬ op ≤ 90 := by omega
         simp [eval, *]; done)
      | (have e1 : ¬ op ≤ 79 := by omega
         have e2 : ¬ op ≤ 90 := by omega
         have e3 : ¬ 124 ≤ op := by omega
         simp [eval, *]; done)
      | (simp [eval, *]; done)

theorem eval_calls (op x y : Int) (w : World) (h0 : -9223372036854775808 ≤ y) (h1 : y ≤ 9223372036854775807) :
    Calls Try.prog 81 #[.int .i64 op, .int .i64 x, .int .i64 y] w fun e w' => e = .returned (.tuple #[.int .i64 (eval op x y).1, .int .i64 (eval op x y).2]) ∧ Below w.heap.size w w' := by
  cases h : (arity op).2.2.2
  · exact eval_no op x y w h
  · exact eval_yes op x y w h h0 h1

end Go.Proofs.Ytdcmeefeinppnaa.Word
