/- The reference of chapter 2 reckons what package word does: XWordRef, XWordPure, XWordBits, XWordEq in one. -/
import Derived.Test.YtdcmeefeinppnaaWord
namespace Go.Proofs.Ytdcmeefeinppnaa.Word
open Go.RowKit
set_option linter.unusedVariables false
set_option linter.unusedSimpArgs false

set_option maxHeartbeats 2000000 in
theorem ref_arity_calls (n : Int) (w : World) :
    Calls Try.prog 102 #[.int .i64 n] w fun e w' => e = .returned (.tuple #[.int .i64 (arity n).1, .int .i64 (arity n).2.1, .int .i64 (arity n).2.2.1, .bool (arity n).2.2.2]) ∧ w = w' := by
  go_enter Try.func102, Try.ntmps102
  go_wp2
  all_goals
    obtain ⟨q, hq⟩ : ∃ q, q = arity n := ⟨_, rfl⟩
    rw [← hq]
    simp only [beq_iff_eq, beq_eq_false_iff_ne] at *
    unfold arity at hq
    repeat' split at hq
    all_goals first
      | (exfalso; omega)
      | (subst hq
         exact bodyPost_ret (by simp [results, Try.results102, go_sem]) rfl ⟨rfl, rfl⟩)

theorem ref_trim_calls (b : Bool) (v : Int) (w : World) :
    Calls Try.prog 116 #[.bool b, .int .i64 v] w fun e w' => e = .returned (.int .i64 (trim b v)) ∧ w = w' := by
  cases b
  · go_enter Try.func116, Try.ntmps116
    go_wp2
    go_ret
    simp [trim, and_low]
  · go_enter Try.func116, Try.ntmps116
    go_wp2
    go_ret
    simp [trim]

def rsg (b : Bool) (v : Int) : Int := if b = false ∧ 2147483648 ≤ v then wrap64 (v - 4294967296) else v

theorem rsg_sgn (b : Bool) (v : Int) (h : b = false → 0 ≤ v ∧ v ≤ 4294967295) : rsg b v = sgn b v := by
  cases b
  · have := h rfl
    simp only [rsg, sgn, true_and, if_false, Bool.false_eq_true]
    unfold wrap32 wrap64
    split <;> omega
  · simp [rsg, sgn]

theorem ref_signed_calls (b : Bool) (v : Int) (w : World) :
    Calls Try.prog 118 #[.bool b, .int .i64 v] w fun e w' => e = .returned (.int .i64 (rsg b v)) ∧ w = w' := by
  cases b
  · go_enter Try.func118, Try.ntmps118
    go_wp2
    all_goals
      go_ret
      refine ⟨?_, rfl⟩
      simp [rsg]
      first | omega | (split <;> first | rfl | (exfalso; omega))
  · go_enter Try.func118, Try.ntmps118
    go_wp2
    go_ret
    simp [rsg]

theorem ref_below_calls (x y : Int) (w : World) :
    Calls Try.prog 123 #[.int .i64 x, .int .i64 y] w fun e w' => e = .returned (.bool (decide (uns x < uns y))) ∧ w = w' := by
  go_enter Try.func123, Try.ntmps123
  go_wp2
  go_ret
  simp [wrap_u64]

theorem ref_truth_calls (b : Bool) (w : World) :
    Calls Try.prog 122 #[.bool b] w fun e w' => e = .returned (.int .i64 (tell b)) ∧ w = w' := by
  cases b
  all_goals
    go_enter Try.func122, Try.ntmps122
    go_wp2
    go_ret
    simp [tell]

def rcmp (k : Int) (b : Bool) (x y : Int) : Int :=
  if k = 0 then tell (x == 0)
  else if k = 1 then tell (x == y)
  else if k = 2 then tell (x != y)
  else if k = 3 then tell (decide (rsg b x < rsg b y))
  else if k = 4 then tell (decide (uns x < uns y))
  else if k = 5 then tell (decide (rsg b y < rsg b x))
  else if k = 6 then tell (decide (uns y < uns x))
  else if k = 7 then tell (decide (rsg b x ≤ rsg b y))
  else if k = 8 then tell (!decide (uns y < uns x))
  else if k = 9 then tell (decide (rsg b y ≤ rsg b x))
  else tell (!decide (uns x < uns y))

set_option maxHeartbeats 2000000 in
theorem ref_compared_calls (k : Int) (b : Bool) (x y : Int) (w : World) :
    Calls Try.prog 117 #[.int .i64 k, .bool b, .int .i64 x, .int .i64 y] w fun e w' => e = .returned (.int .i64 (rcmp k b x y)) ∧ w = w' := by
  go_enter Try.func117, Try.ntmps117
  go_wp2_with (first
    | (go_at_call 118; refine (ref_signed_calls _ _ _).mono ?_; rintro e w' ⟨rfl, rfl⟩)
    | (go_at_call 123; refine (ref_below_calls _ _ _).mono ?_; rintro e w' ⟨rfl, rfl⟩)
    | (go_at_call 122; refine (ref_truth_calls _ _).mono ?_; rintro e w' ⟨rfl, rfl⟩))
  all_goals
    simp only [beq_iff_eq, beq_eq_false_iff_ne] at *
    go_ret
    refine ⟨?_, rfl⟩
    first
      | (subst_vars; simp [rcmp]; done)
      | simp [rcmp, *]

def rdiv (k : Int) (b : Bool) (x y : Int) : Int × Int :=
  if y = 0 then (0, 2)
  else if k = 1 then (wrap64 (uns x / uns y), 0)
  else if k = 3 then (wrap64 (uns x % uns y), 0)
  else if rsg b x = least b ∧ rsg b y = -1 then (if k = 0 then (0, 3) else (0, 0))
  else if k = 0 then (wrap64 ((rsg b x).tdiv (rsg b y)), 0)
  else ((rsg b x).tmod (rsg b y), 0)

theorem rsg_ne {b : Bool} {y : Int} (h : y ≠ 0) (h0 : b = false → 0 ≤ y ∧ y ≤ 4294967295) : rsg b y ≠ 0 := by
  rw [rsg_sgn b y h0]; exact sgn_ne h h0

set_option maxHeartbeats 4000000 in
theorem ref_divided_calls (k : Int) (b : Bool) (x y : Int) (w : World) (h0 : -9223372036854775808 ≤ y) (h1 : y ≤ 9223372036854775807) (h2 : b = false → 0 ≤ y ∧ y ≤ 4294967295) :
    Calls Try.prog 119 #[.int .i64 k, .bool b, .int .i64 x, .int .i64 y] w fun e w' => e = .returned (.tuple #[.int .i64 (rdiv k b x y).1, .int .i64 (rdiv k b x y).2]) ∧ w = w' := by
  have H2 := Lib.hid h2
  clear h2
  cases b <;>
  go_enter Try.func119, Try.ntmps119
  all_goals (go_wp2_with (go_at_call 118; refine (ref_signed_calls _ _ _).mono ?_; rintro e w' ⟨rfl, rfl⟩))
  all_goals
    simp only [beq_iff_eq, beq_eq_false_iff_ne, wrap_u64] at *
    have h2 := H2.out
    first
      | (exfalso; exact uns_ne ‹_› h0 h1 ‹_›)
      | (exfalso; exact rsg_ne (b := true) ‹_› h2 ‹_›)
      | (exfalso; exact rsg_ne (b := false) ‹_› (fun _ => h2 trivial) ‹_›)
      | (exfalso; simp_all; done)
      | (go_ret2; refine ⟨?_, rfl⟩; simp [rdiv, least, wrap64_uns, Int.tdiv_eq_ediv_of_nonneg (uns_nonneg _), Int.tmod_eq_emod_of_nonneg (uns_nonneg _), *]; try exact (Int.tmod_eq_emod_of_nonneg (by decide)).symm)
      | go_ways

def rshi (k : Int) (b : Bool) (x y : Int) : Int :=
  let z := if b then 64 else 32
  let n := cnt b y
  if k = 0 then wrap64 (uns x * 2 ^ n.toNat)
  else if k = 1 then rsg b x / 2 ^ n.toNat
  else if k = 2 then wrap64 (uns x / 2 ^ n.toNat)
  else if k = 3 then wrap64 (Go.bits .or .u64 (uns (uns x * 2 ^ n.toNat)) (if n = 0 then 0 else uns x / 2 ^ (z - n).toNat))
  else wrap64 (Go.bits .or .u64 (uns x / 2 ^ n.toNat) (if n = 0 then 0 else uns (uns x * 2 ^ (z - n).toNat)))

set_option maxHeartbeats 4000000 in
theorem ref_shifted_calls (k : Int) (b : Bool) (x y : Int) (w : World) :
    Calls Try.prog 120 #[.int .i64 k, .bool b, .int .i64 x, .int .i64 y] w fun e w' => e = .returned (.int .i64 (rshi k b x y)) ∧ w = w' := by
  have hm : Go.bits .and .i64 y 31 = y % 32 := iand_31 y
  have hm2 : Go.bits .and .i64 y 63 = y % 64 := iand_63 y
  have g0 : 0 ≤ y % 32 := by omega
  have g1 : y % 32 ≤ 31 := by omega
  have g2 : 0 ≤ y % 64 := by omega
  have g3 : y % 64 ≤ 63 := by omega
  have hm3 : Go.bits .and .i64 (32 - y % 32) 63 = 32 - y % 32 := by rw [iand_63]; omega
  have hm4 : Go.bits .and .i64 (64 - y % 64) 63 = (64 - y % 64) % 64 := iand_63 _
  have g4 : 0 ≤ 32 - y % 32 := by omega
  have g5 : 0 ≤ (64 - y % 64) % 64 := by omega
  have g6 : (64 - y % 64) % 64 ≤ 63 := by omega
  cases b <;>
  go_enter Try.func120, Try.ntmps120
  all_goals (go_wp2_with (go_at_call 118; refine (ref_signed_calls _ _ _).mono ?_; rintro e w' ⟨rfl, rfl⟩))
  all_goals
    simp only [beq_iff_eq, beq_eq_false_iff_ne, wrap_u64] at *
    go_ret
    refine ⟨?_, rfl⟩
    first
      | (simp [rshi, cnt, wrap64_uns, *]; done)
      | (have e1 : -(y % 64) % 64 = 64 - y % 64 := by omega
         simp [rshi, cnt, wrap64_uns, *]; done)

def reval (op a b : Int) : Int × Int :=
  if (arity op).2.2.2 = false then (0, 0)
  else
    let x := trim (wideB op) a
    let y := trim (wideB op) b
    let r : Int × Int :=
      if 69 ≤ op ∧ op ≤ 79 then (rcmp (op - 69) (wideB op) x y, 0)
      else if 80 ≤ op ∧ op ≤ 90 then (rcmp (op - 80) (wideB op) x y, 0)
      else if op = 167 ∨ op = 173 then (x, 0)
      else if op = 172 then (rsg false x, 0)
      else
        let k := if wideB op then op - 124 else op - 106
        if k = 0 then (wrap64 (x + y), 0)
        else if k = 1 then (wrap64 (x - y), 0)
        else if k = 2 then (wrap64 (x * y), 0)
        else if k ≤ 6 then rdiv (k - 3) (wideB op) x y
        else if k = 7 then (Go.bits .and .i64 x y, 0)
        else if k = 8 then (Go.bits .or .i64 x y, 0)
        else if k = 9 then (Go.bits .xor .i64 x y, 0)
        else (rshi (k - 10) (wideB op) x y, 0)
    (trim (toB op) r.1, r.2)

theorem reval_no (op x y : Int) (w : World) (h : (arity op).2.2.2 = false) :
    Calls Try.prog 103 #[.int .i64 op, .int .i64 x, .int .i64 y] w fun e w' => e = .returned (.tuple #[.int .i64 (reval op x y).1, .int .i64 (reval op x y).2]) ∧ w = w' := by
  have he : reval op x y = (0, 0) := by simp [reval, h]
  have He := Lib.hid he
  clear he
  go_enter Try.func103, Try.ntmps103
  go_wp2_with (go_at_call 102; refine (ref_arity_calls _ _).mono ?_; rintro e w' ⟨rfl, rfl⟩)
  go_ret2
  rw [He.out]
  exact ⟨rfl, rfl⟩

theorem reval_rets (op x y : Int) (u t : Int) (h : reval op x y = (u, t)) {W : World} :
    Ending.returned (.tuple #[.int .i64 u, .int .i64 t]) = Ending.returned (.tuple #[.int .i64 (reval op x y).1, .int .i64 (reval op x y).2]) ∧ W = W := by
  rw [h]; exact ⟨rfl, rfl⟩

set_option maxHeartbeats 8000000 in
theorem reval_yes (op x y : Int) (w : World) (h : (arity op).2.2.2 = true) (h0 : -9223372036854775808 ≤ y) (h1 : y ≤ 9223372036854775807) :
    Calls Try.prog 103 #[.int .i64 op, .int .i64 x, .int .i64 y] w fun e w' => e = .returned (.tuple #[.int .i64 (reval op x y).1, .int .i64 (reval op x y).2]) ∧ w = w' := by
  obtain ⟨o0, o1⟩ := arity_ok h
  obtain ⟨t0, t1, t2⟩ := trim_range (wideB op) y h0 h1
  have T2 := Lib.hid t2
  clear t2
  have hwb : ((arity op).2.1 == 1) = wideB op := rfl
  have htb : ((arity op).2.2.1 == 1) = toB op := rfl
  cases hw : wideB op
  all_goals
    rw [hw] at t0 t1 hwb
    have T3 : wideB op = false → 0 ≤ trim (wideB op) y ∧ trim (wideB op) y ≤ 4294967295 := T2.out
    rw [hw] at T3
    have HW := Lib.hid hw
    have T4 := Lib.hid T3
    clear hw T2 T3
    go_enter Try.func103, Try.ntmps103
    go_wp2_with (first
      | (go_at_call 102; refine (ref_arity_calls _ _).mono ?_; rintro e w' ⟨rfl, rfl⟩)
      | (go_at_call 116; refine (ref_trim_calls _ _ _).mono ?_; rintro e w' ⟨rfl, rfl⟩)
      | (go_at_call 118; refine (ref_signed_calls _ _ _).mono ?_; rintro e w' ⟨rfl, rfl⟩)
      | (go_at_call 117; refine (ref_compared_calls _ _ _ _ _).mono ?_; rintro e w' ⟨rfl, rfl⟩)
      | (go_at_call 120; refine (ref_shifted_calls _ _ _ _ _).mono ?_; rintro e w' ⟨rfl, rfl⟩)
      | (go_at_call 119; refine (ref_divided_calls _ _ _ _ _ (by assumption) (by assumption) (by intro hq; first | exact T4.out hq | exact T4.out trivial)).mono ?_; rintro e w' ⟨rfl, rfl⟩))
  all_goals
    have hw := HW.out
    simp only [beq_iff_eq, beq_eq_false_iff_ne] at *
    first
      | (go_ret2; refine reval_rets _ _ _ _ _ ?_)
      | go_ways
    have e0 : 69 ≤ op := by omega
    first
      | (subst_vars; simp [reval, *]; done)
      | (simp [reval, *]; done)
      | (have e1 : ¬ op ≤ 79 := by omega
         simp [reval, *]; done)
      | (have e1 : ¬ op ≤ 79 := by omega
         have e2 : ¬ op ≤ 90 := by omega
         simp [reval, *]; done)
      | (have e1 : ¬ op ≤ 79 := by omega
         have e2 : ¬ op ≤ 90 := by omega
         obtain rfl | rfl := ‹op = 167 ∨ op = 173› <;> simp [reval, *] <;> done)
      | (have e1 : ¬ op ≤ 79 := by omega
         have e2 : ¬ op ≤ 90 := by omega
         have e3 : ¬ op - 106 ≤ 6 := by omega
         simp [reval, *]; done)
      | (have e1 : ¬ op ≤ 79 := by omega
         have e2 : ¬ op ≤ 90 := by omega
         have e3 : ¬ op - 124 ≤ 6 := by omega
         simp [reval, *]; done)
      | go_ways

theorem reval_calls (op x y : Int) (w : World) (h0 : -9223372036854775808 ≤ y) (h1 : y ≤ 9223372036854775807) :
    Calls Try.prog 103 #[.int .i64 op, .int .i64 x, .int .i64 y] w fun e w' => e = .returned (.tuple #[.int .i64 (reval op x y).1, .int .i64 (reval op x y).2]) ∧ w = w' := by
  cases h : (arity op).2.2.2
  · exact reval_no op x y w h
  · exact reval_yes op x y w h h0 h1

end Go.Proofs.Ytdcmeefeinppnaa.Word
namespace Go.Proofs.Ytdcmeefeinppnaa.Word
open Go.RowKit
set_option linter.unusedVariables false
set_option linter.unusedSimpArgs false

def I64 (x : Int) : Prop := -9223372036854775808 ≤ x ∧ x ≤ 9223372036854775807
theorem wrap64_I (x : Int) : I64 (wrap64 x) := by unfold wrap64 I64; omega
theorem i64_wf {x : Int} (h : (Lit.int .i64 x).wf = true) : I64 x := by
  simp [Lit.wf, IntKind.has, IntKind.min, IntKind.max, IntKind.bits, IntKind.signed] at h
  unfold I64; omega

def opw (op : Int) (w : Bool) : Int := if w then (if 106 ≤ op then op - 106 + 124 else op - 69 + 80) else op
def val (op : Int) (w : Bool) (a b : Int) : Int := (eval (opw op w) a b).1
/-- z at a width -/
def tr (w : Bool) (z : Int) : Int := trim w (wrap64 z)
/-- z and z' are the same but for whole turns -/
def cong (w : Bool) (z z' : Int) : Prop := if w then (z - z') % 18446744073709551616 = 0 else (z - z') % 4294967296 = 0

theorem tr_false (z : Int) : tr false z = z % 4294967296 := by simp [tr, trim]; unfold wrap64; omega
theorem tr_true (z : Int) : tr true z = wrap64 z := by simp [tr, trim]

theorem tr_cong {w : Bool} {z z' : Int} (h : cong w z z') : tr w z = tr w z' := by
  cases w
  · simp only [cong, Bool.false_eq_true, if_false] at h
    rw [tr_false, tr_false]; omega
  · simp only [cong, if_true] at h
    rw [tr_true, tr_true]; unfold wrap64; omega
theorem cong_tr (w : Bool) (z : Int) : cong w (tr w z) z := by
  cases w
  · simp only [cong, Bool.false_eq_true, if_false]; rw [tr_false]; omega
  · simp only [cong, if_true]; rw [tr_true]; unfold wrap64; omega
theorem cong_refl (w : Bool) (z : Int) : cong w z z := by cases w <;> simp [cong]
theorem cong_symm {w : Bool} {a b : Int} (h : cong w a b) : cong w b a := by cases w <;> simp only [cong, Bool.false_eq_true, if_false, if_true] at * <;> omega
theorem cong_trans {w : Bool} {a b c : Int} (h : cong w a b) (k : cong w b c) : cong w a c := by cases w <;> simp only [cong, Bool.false_eq_true, if_false, if_true] at * <;> omega
theorem cong_add {w : Bool} {a b c d : Int} (h : cong w a b) (k : cong w c d) : cong w (a + c) (b + d) := by cases w <;> simp only [cong, Bool.false_eq_true, if_false, if_true] at * <;> omega
theorem cong_sub {w : Bool} {a b c d : Int} (h : cong w a b) (k : cong w c d) : cong w (a - c) (b - d) := by cases w <;> simp only [cong, Bool.false_eq_true, if_false, if_true] at * <;> omega
theorem cong_mul {w : Bool} {a b c d : Int} (h : cong w a b) (k : cong w c d) : cong w (a * c) (b * d) := by
  have e : a * c - b * d = (a - b) * c + b * (c - d) := by rw [Int.sub_mul, Int.mul_sub]; omega
  have fa : ∀ M : Int, (a - b) % M = 0 → (c - d) % M = 0 → (a * c - b * d) % M = 0 := fun M h1 h2 => by
    rw [e]
    exact Int.emod_eq_zero_of_dvd (Int.dvd_add (Int.dvd_mul_of_dvd_left (Int.dvd_of_emod_eq_zero h1)) (Int.dvd_mul_of_dvd_right (Int.dvd_of_emod_eq_zero h2)))
  cases w <;> simp only [cong, Bool.false_eq_true, if_false, if_true] at * <;> exact fa _ h k
theorem cong_trim (w : Bool) (z : Int) : cong w (trim w z) z := by
  cases w
  · simp only [cong, Bool.false_eq_true, if_false, trim]; omega
  · simp [cong, trim]
theorem cong_wrap (w : Bool) (z : Int) : cong w (wrap64 z) z := by
  cases w <;> simp only [cong, Bool.false_eq_true, if_false, if_true] <;> unfold wrap64 <;> omega
theorem cong_sgn (w : Bool) (z : Int) : cong w (sgn w z) z := by
  cases w <;> simp only [cong, Bool.false_eq_true, if_false, if_true, sgn, wrap32] <;> omega
theorem cong_uns (w : Bool) (z : Int) : cong w (uns z) z := by
  cases w <;> simp only [cong, Bool.false_eq_true, if_false, if_true, uns] <;> omega

theorem trim_trim (w : Bool) (z : Int) : trim w (trim w z) = trim w z := by cases w <;> simp [trim]
theorem trim_tr (w : Bool) (z : Int) : trim w (tr w z) = tr w z := trim_trim w _
theorem tr_trim {w : Bool} {a : Int} (h : I64 a) : tr w (trim w a) = trim w a := by
  unfold I64 at h
  cases w
  · rw [tr_false]; simp only [trim, Bool.false_eq_true, if_false]; omega
  · rw [tr_true]; simp only [trim, if_true]; unfold wrap64; omega
theorem tr_I (w : Bool) (z : Int) : I64 (tr w z) := by
  unfold I64; cases w
  · rw [tr_false]; omega
  · rw [tr_true]; unfold wrap64; omega
theorem trim_I {w : Bool} {a : Int} (h : I64 a) : I64 (trim w a) := by
  unfold I64 at *; cases w <;> simp only [trim, Bool.false_eq_true, if_false, if_true] <;> omega
theorem trim_narrow (a : Int) : 0 ≤ trim false a ∧ trim false a ≤ 4294967295 := by simp only [trim, Bool.false_eq_true, if_false]; omega
theorem trim_true (a : Int) : trim true a = a := by simp [trim]

theorem eval_reck (w : Bool) (k a b : Int) (h0 : 106 ≤ k) (h1 : k ≤ 120) :
    eval (opw k w) a b = (trim w (reck k w (trim w a) (trim w b)).1, (reck k w (trim w a) (trim w b)).2) := by
  cases w
  · have ha : arity k = (2, 0, 0, true) := by
      unfold arity; rw [if_neg (by omega), if_neg (by omega), if_pos (by omega)]
    have e1 : ¬ (k = 167 ∨ k = 173) := by omega
    have e2 : ¬ k = 172 := by omega
    have e3 : ¬ k ≤ 79 := by omega
    have e4 : ¬ k ≤ 90 := by omega
    have e5 : ¬ k ≥ 124 := by omega
    simp only [opw, Bool.false_eq_true, if_false]
    unfold eval
    have hw : wideB k = false := by simp [wideB, ha]
    have ht : toB k = false := by simp [toB, ha]
    rw [hw, ht, ha]
    rw [if_neg (by simp), if_neg e1, if_neg e2, if_neg e3, if_neg e4, if_neg e5]
  · have e0 : opw k true = k - 106 + 124 := by simp [opw]; omega
    rw [e0]
    have ha : arity (k - 106 + 124) = (2, 1, 1, true) := by
      unfold arity; rw [if_neg (by omega), if_neg (by omega), if_neg (by omega), if_neg (by omega), if_pos (by omega)]
    have e1 : ¬ (k - 106 + 124 = 167 ∨ k - 106 + 124 = 173) := by omega
    have e2 : ¬ k - 106 + 124 = 172 := by omega
    have e3 : ¬ k - 106 + 124 ≤ 79 := by omega
    have e4 : ¬ k - 106 + 124 ≤ 90 := by omega
    have e5 : k - 106 + 124 ≥ 124 := by omega
    unfold eval
    have hw : wideB (k - 106 + 124) = true := by simp [wideB, ha]
    have ht : toB (k - 106 + 124) = true := by simp [toB, ha]
    rw [hw, ht, ha]
    rw [if_neg (by simp), if_neg e1, if_neg e2, if_neg e3, if_neg e4, if_pos e5]
    have e6 : k - 106 + 124 - 124 + 106 = k := by omega
    rw [e6]

theorem eval_cmp (w : Bool) (k a b : Int) (h0 : 69 ≤ k) (h1 : k ≤ 79) :
    eval (opw k w) a b = (tell (cmp k w (trim w a) (trim w b)), 0) := by
  cases w
  · have ha : (arity k).2.1 = 0 ∧ (arity k).2.2.2 = true := by
      unfold arity
      by_cases hk : k = 69
      · rw [if_pos hk]; exact ⟨rfl, rfl⟩
      · rw [if_neg hk, if_neg (by omega), if_pos (by omega)]; exact ⟨rfl, rfl⟩
    have e1 : ¬ (k = 167 ∨ k = 173) := by omega
    have e2 : ¬ k = 172 := by omega
    simp only [opw, Bool.false_eq_true, if_false]
    unfold eval
    have hw : wideB k = false := by simp [wideB, ha.1]
    rw [hw, ha.2]
    rw [if_neg (by simp), if_neg e1, if_neg e2, if_pos h1]
  · have e0 : opw k true = k - 69 + 80 := by simp [opw]; omega
    rw [e0]
    have ha : (arity (k - 69 + 80)).2.1 = 1 ∧ (arity (k - 69 + 80)).2.2.2 = true := by
      unfold arity
      by_cases hk : k = 69
      · rw [if_neg (by omega), if_pos (by omega)]; exact ⟨rfl, rfl⟩
      · rw [if_neg (by omega), if_neg (by omega), if_neg (by omega), if_pos (by omega)]; exact ⟨rfl, rfl⟩
    have e1 : ¬ (k - 69 + 80 = 167 ∨ k - 69 + 80 = 173) := by omega
    have e2 : ¬ k - 69 + 80 = 172 := by omega
    have e3 : ¬ k - 69 + 80 ≤ 79 := by omega
    have e4 : k - 69 + 80 ≤ 90 := by omega
    unfold eval
    have hw : wideB (k - 69 + 80) = true := by simp [wideB, ha.1]
    rw [hw, ha.2]
    rw [if_neg (by simp), if_neg e1, if_neg e2, if_neg e3, if_pos e4]
    have e6 : k - 69 + 80 - 80 + 69 = k := by omega
    rw [e6]

theorem val_add (w : Bool) (a b : Int) : val 106 w a b = tr w (trim w a + trim w b) := by
  unfold val; rw [eval_reck w 106 a b (by decide) (by decide)]; rfl
theorem val_sub (w : Bool) (a b : Int) : val 107 w a b = tr w (trim w a - trim w b) := by
  unfold val; rw [eval_reck w 107 a b (by decide) (by decide)]; rfl
theorem val_mul (w : Bool) (a b : Int) : val 108 w a b = tr w (trim w a * trim w b) := by
  unfold val; rw [eval_reck w 108 a b (by decide) (by decide)]; rfl

/-! The law WordSums -/
theorem sums_back (w : Bool) (a b : Int) (ha : I64 a) : val 107 w (val 106 w a b) b = trim w a := by
  rw [val_sub, val_add, trim_tr]
  refine Eq.trans (tr_cong (cong_trans (cong_sub (cong_tr w _) (cong_refl w _)) ?_)) (tr_trim ha)
  have e : trim w a + trim w b - trim w b = trim w a := by omega
  rw [e]; exact cong_refl w _
theorem sums_turn (w : Bool) (a b : Int) : val 106 w a b = val 106 w (trim w b) (trim w a) := by
  rw [val_add, val_add, trim_trim, trim_trim, Int.add_comm]
theorem sums_more (w : Bool) (a p : Int) : val 106 w (tr w p) a = tr w (p + trim w a) := by
  rw [val_add, trim_tr]; exact tr_cong (cong_add (cong_tr w _) (cong_refl w _))
theorem sums_mul (w : Bool) (a n : Int) (h0 : 0 ≤ n) (h1 : n ≤ 50) : val 108 w a n = tr w (n * trim w a) := by
  rw [val_mul]
  have e : trim w n = n := by cases w <;> simp only [trim, Bool.false_eq_true, if_false, if_true]; omega
  rw [e, Int.mul_comm]
theorem mul_comm' (w : Bool) (a b : Int) : val 108 w a b = val 108 w b a := by rw [val_mul, val_mul, Int.mul_comm]

/-! The law WordDivides -/
theorem opw_divs : True := trivial

theorem val_div (w : Bool) (k a b : Int) (h0 : 109 ≤ k) (h1 : k ≤ 112) : eval (opw k w) a b = (trim w (divi k w (trim w a) (trim w b)).1, (divi k w (trim w a) (trim w b)).2) := by
  rw [eval_reck w k a b (by omega) (by omega)]
  have e : reck k w (trim w a) (trim w b) = divi k w (trim w a) (trim w b) := by
    unfold reck
    rw [if_neg (by omega), if_neg (by omega), if_neg (by omega), if_neg (by omega), if_neg (by omega), if_neg (by omega), if_neg (by omega), if_neg (by omega), if_neg (by omega), if_neg (by omega), if_neg (by omega)]
  rw [e]

theorem div_zero (w : Bool) (k a b : Int) (h0 : 109 ≤ k) (h1 : k ≤ 112) (h : trim w b = 0) : eval (opw k w) a b = (0, 2) := by
  rw [val_div w k a b h0 h1, h]
  simp only [divi, if_true]
  cases w <;> rfl

theorem divU (w : Bool) (a b : Int) (h : trim w b ≠ 0) : eval (opw 110 w) a b = (tr w (uns (trim w a) / uns (trim w b)), 0) := by
  rw [val_div w 110 a b (by decide) (by decide)]
  simp [divi, h, tr]
theorem remU (w : Bool) (a b : Int) (h : trim w b ≠ 0) : eval (opw 112 w) a b = (tr w (uns (trim w a) % uns (trim w b)), 0) := by
  rw [val_div w 112 a b (by decide) (by decide)]
  simp [divi, h, tr]
def over (w : Bool) (a b : Int) : Prop := sgn w (trim w a) = least w ∧ sgn w (trim w b) = -1
theorem divS_over (w : Bool) (a b : Int) (h : trim w b ≠ 0) (o : over w a b) : eval (opw 109 w) a b = (0, 3) := by
  rw [val_div w 109 a b (by decide) (by decide)]
  unfold over at o
  simp [divi, h, o]
  cases w <;> rfl
theorem remS_over (w : Bool) (a b : Int) (h : trim w b ≠ 0) (o : over w a b) : eval (opw 111 w) a b = (0, 0) := by
  rw [val_div w 111 a b (by decide) (by decide)]
  unfold over at o
  simp [divi, h, o]
  cases w <;> rfl
theorem divS (w : Bool) (a b : Int) (h : trim w b ≠ 0) (o : ¬ over w a b) : eval (opw 109 w) a b = (tr w ((sgn w (trim w a)).tdiv (sgn w (trim w b))), 0) := by
  rw [val_div w 109 a b (by decide) (by decide)]
  unfold over at o
  simp only [divi]
  rw [if_neg h, if_neg (by decide), if_neg (by decide), if_neg o]; simp [tr]
theorem remS (w : Bool) (a b : Int) (h : trim w b ≠ 0) (o : ¬ over w a b) : eval (opw 111 w) a b = (trim w ((sgn w (trim w a)).tmod (sgn w (trim w b))), 0) := by
  rw [val_div w 111 a b (by decide) (by decide)]
  unfold over at o
  simp only [divi]
  rw [if_neg h, if_neg (by decide), if_neg (by decide), if_neg o, if_neg (by decide)]

/-- quotient times divisor and the rest -/
theorem back_of (w : Bool) (a b q r : Int) (ha : I64 a) (A B Q R : Int) (hA : cong w A (trim w a)) (hB : cong w B (trim w b)) (hQ : cong w q Q) (hR : cong w r R) (e : Q * B + R = A) (hq : trim w q = q) (hr : trim w r = r) :
    val 106 w (val 108 w q b) r = trim w a := by
  rw [val_add, val_mul, trim_tr, hq, hr]
  refine Eq.trans (tr_cong (cong_trans (cong_add (cong_tr w _) (cong_refl w _)) ?_)) (tr_trim ha)
  refine cong_trans (cong_add (cong_mul hQ (cong_symm hB)) hR) ?_
  rw [e]; exact hA

theorem divU_back (w : Bool) (a b : Int) (ha : I64 a) (h : trim w b ≠ 0) :
    val 106 w (val 108 w (eval (opw 110 w) a b).1 b) (eval (opw 112 w) a b).1 = trim w a := by
  rw [divU w a b h, remU w a b h]
  exact back_of w a b _ _ ha (uns (trim w a)) (uns (trim w b)) (uns (trim w a) / uns (trim w b)) (uns (trim w a) % uns (trim w b)) (cong_uns w _) (cong_uns w _) (cong_tr w _) (cong_tr w _)
    (by rw [Int.mul_comm]; exact Int.mul_ediv_add_emod _ _) (trim_tr w _) (trim_tr w _)

theorem divS_back (w : Bool) (a b : Int) (ha : I64 a) (h : trim w b ≠ 0) (o : ¬ over w a b) :
    val 106 w (val 108 w (eval (opw 109 w) a b).1 b) (eval (opw 111 w) a b).1 = trim w a := by
  rw [divS w a b h o, remS w a b h o]
  exact back_of w a b _ _ ha (sgn w (trim w a)) (sgn w (trim w b)) ((sgn w (trim w a)).tdiv (sgn w (trim w b))) ((sgn w (trim w a)).tmod (sgn w (trim w b))) (cong_sgn w _) (cong_sgn w _) (cong_tr w _) (cong_trim w _)
    (by rw [Int.mul_comm]; exact Int.mul_tdiv_add_tmod _ _) (trim_tr w _) (trim_trim w _)

theorem uns_narrow {z : Int} (h : 0 ≤ z ∧ z ≤ 4294967295) : uns z = z := by unfold uns; omega
theorem uns_tr (w : Bool) (z : Int) (h0 : 0 ≤ z) (h1 : w = false → z ≤ 4294967295) (h2 : z ≤ 18446744073709551615) : uns (tr w z) = z := by
  cases w
  · have := h1 rfl; rw [tr_false]; unfold uns; omega
  · rw [tr_true]; unfold uns wrap64; omega
theorem rem_less (w : Bool) (a b : Int) (hb : I64 b) (h : trim w b ≠ 0) : val 73 w (eval (opw 112 w) a b).1 b = 1 := by
  rw [remU w a b h]
  unfold val
  rw [eval_cmp w 73 _ b (by decide) (by decide), trim_tr]
  have hV : 0 < uns (trim w b) ∧ uns (trim w b) ≤ 18446744073709551615 ∧ (w = false → uns (trim w b) ≤ 4294967295) := by
    have hn := uns_ne (y := trim w b) h (trim_I hb).1 (trim_I hb).2
    have hp := uns_nonneg (trim w b)
    refine ⟨by omega, by unfold uns; omega, fun hw => ?_⟩
    subst hw
    have := trim_narrow b
    rw [uns_narrow this]; exact this.2
  obtain ⟨v0, v1, v2⟩ := hV
  have hm := Int.emod_nonneg (uns (trim w a)) (by omega : uns (trim w b) ≠ 0)
  have hl := Int.emod_lt_of_pos (uns (trim w a)) v0
  have e : uns (tr w (uns (trim w a) % uns (trim w b))) = uns (trim w a) % uns (trim w b) := by
    refine uns_tr w _ hm (fun hw => ?_) (by omega)
    have := v2 hw; omega
  have e2 : cmp 73 w (tr w (uns (trim w a) % uns (trim w b))) (trim w b) = true := by
    simp [cmp, e]; exact hl
  rw [e2]; rfl

/-! The law WordCompares -/
theorem val_cmp (w : Bool) (k a b : Int) (h0 : 69 ≤ k) (h1 : k ≤ 79) : val k w a b = tell (cmp k w (trim w a) (trim w b)) := by
  unfold val; rw [eval_cmp w k a b h0 h1]

theorem sgn_inj (w : Bool) (a b : Int) : sgn w (trim w a) = sgn w (trim w b) ↔ trim w a = trim w b := by
  cases w
  · have := trim_narrow a
    have := trim_narrow b
    simp only [sgn, wrap32, Bool.false_eq_true, if_false]; omega
  · simp [sgn]
theorem uns_inj (w : Bool) (a b : Int) (ha : I64 a) (hb : I64 b) : uns (trim w a) = uns (trim w b) ↔ trim w a = trim w b := by
  have := trim_I (w := w) ha
  have := trim_I (w := w) hb
  unfold uns I64 at *; omega

theorem compares_s (w : Bool) (a b : Int) : val 72 w a b + val 74 w a b + val 70 w a b = 1 ∧ val 76 w a b = 1 - val 74 w a b ∧ val 78 w a b = 1 - val 72 w a b ∧ val 74 w a b = val 72 w b a := by
  rw [val_cmp w 72 a b (by decide) (by decide), val_cmp w 74 a b (by decide) (by decide), val_cmp w 70 a b (by decide) (by decide), val_cmp w 76 a b (by decide) (by decide), val_cmp w 78 a b (by decide) (by decide), val_cmp w 72 b a (by decide) (by decide)]
  have hi := sgn_inj w a b
  simp only [cmp, tell]
  by_cases h1 : sgn w (trim w a) < sgn w (trim w b)
  · have h2 : ¬ sgn w (trim w b) < sgn w (trim w a) := by omega
    have h3 : ¬ trim w a = trim w b := fun h => by rw [h] at h1; omega
    simp [h1, h2, h3]
  · by_cases h2 : sgn w (trim w b) < sgn w (trim w a)
    · have h3 : ¬ trim w a = trim w b := fun h => by rw [h] at h2; omega
      simp [h1, h2, h3]
    · have h3 : trim w a = trim w b := hi.1 (by omega)
      simp [h3]
theorem compares_u (w : Bool) (a b : Int) (ha : I64 a) (hb : I64 b) : val 73 w a b + val 75 w a b + val 70 w a b = 1 ∧ val 77 w a b = 1 - val 75 w a b ∧ val 79 w a b = 1 - val 73 w a b ∧ val 75 w a b = val 73 w b a := by
  rw [val_cmp w 73 a b (by decide) (by decide), val_cmp w 75 a b (by decide) (by decide), val_cmp w 70 a b (by decide) (by decide), val_cmp w 77 a b (by decide) (by decide), val_cmp w 79 a b (by decide) (by decide), val_cmp w 73 b a (by decide) (by decide)]
  have hi := uns_inj w a b ha hb
  simp only [cmp, tell]
  by_cases h1 : uns (trim w a) < uns (trim w b)
  · have h2 : ¬ uns (trim w b) < uns (trim w a) := by omega
    have h3 : ¬ trim w a = trim w b := fun h => by rw [h] at h1; omega
    simp [h1, h2, h3]
  · by_cases h2 : uns (trim w b) < uns (trim w a)
    · have h3 : ¬ trim w a = trim w b := fun h => by rw [h] at h2; omega
      simp [h1, h2, h3]
    · have h3 : trim w a = trim w b := hi.1 (by omega)
      simp [h3]
theorem val_eq (w : Bool) (a b : Int) : val 70 w a b = if trim w a = trim w b then 1 else 0 := by
  rw [val_cmp w 70 a b (by decide) (by decide)]
  simp only [cmp, tell]
  by_cases h : trim w a = trim w b <;> simp [h]
theorem val_ne (w : Bool) (a b : Int) : val 71 w a b = 1 - val 70 w a b := by
  rw [val_eq, val_cmp w 71 a b (by decide) (by decide)]
  simp only [cmp, tell]
  by_cases h : trim w a = trim w b <;> simp [h]
theorem val_eqz (w : Bool) (a b : Int) : val 69 w a b = val 70 w a 0 := by
  have e0 : trim w 0 = 0 := by cases w <;> rfl
  rw [val_eq, val_cmp w 69 a b (by decide) (by decide), e0]
  simp only [cmp, tell]
  by_cases h : trim w a = 0 <;> simp [h]
theorem val_bit (w : Bool) (a b : Int) : val 70 w a b = 0 ∨ val 70 w a b = 1 := by
  rw [val_eq]; by_cases h : trim w a = trim w b <;> simp [h]

end Go.Proofs.Ytdcmeefeinppnaa.Word
namespace Go.Proofs.Ytdcmeefeinppnaa.Word
open Go.RowKit
set_option linter.unusedVariables false
set_option linter.unusedSimpArgs false

/-! Bits -/
def B (k : Nat) (x : Int) : BitVec k := BitVec.ofInt k x
theorem B_nat (k : Nat) (n : Nat) : B k (n : Int) = BitVec.ofNat k n := by unfold B; exact BitVec.ofInt_natCast k n
theorem B_toNat {k : Nat} (z : BitVec k) : B k ((z.toNat : Nat) : Int) = z := by rw [B_nat]; simp
theorem B64_wrap (z : Int) : B 64 (wrap64 z) = B 64 z := by
  apply BitVec.eq_of_toNat_eq; unfold B; rw [BitVec.toNat_ofInt, BitVec.toNat_ofInt]; unfold wrap64; omega
theorem B32_wrap (z : Int) : B 32 (wrap64 z) = B 32 z := by
  apply BitVec.eq_of_toNat_eq; unfold B; rw [BitVec.toNat_ofInt, BitVec.toNat_ofInt]; unfold wrap64; omega
theorem B64_uns (z : Int) : B 64 (uns z) = B 64 z := by
  apply BitVec.eq_of_toNat_eq; unfold B; rw [BitVec.toNat_ofInt, BitVec.toNat_ofInt]; unfold uns; omega
theorem B32_uns (z : Int) : B 32 (uns z) = B 32 z := by
  apply BitVec.eq_of_toNat_eq; unfold B; rw [BitVec.toNat_ofInt, BitVec.toNat_ofInt]; unfold uns; omega
theorem B32_low (z : Int) : B 32 (z % 4294967296) = B 32 z := by
  apply BitVec.eq_of_toNat_eq; unfold B; rw [BitVec.toNat_ofInt, BitVec.toNat_ofInt]; omega
theorem B32_trim (z : Int) : B 32 (trim false z) = B 32 z := by simpa [trim] using B32_low z
theorem B32_of (z : Int) : B 32 z = (B 64 z).setWidth 32 := by
  apply BitVec.eq_of_toNat_eq; unfold B; rw [BitVec.toNat_setWidth, BitVec.toNat_ofInt, BitVec.toNat_ofInt]; omega
theorem B64_inj {x y : Int} (hx : I64 x) (hy : I64 y) (h : B 64 x = B 64 y) : x = y := by
  have h' := congrArg BitVec.toNat h
  unfold B at h'; rw [BitVec.toNat_ofInt, BitVec.toNat_ofInt] at h'; unfold I64 at *; omega
theorem B32_inj {x y : Int} (hx : 0 ≤ x ∧ x ≤ 4294967295) (hy : 0 ≤ y ∧ y ≤ 4294967295) (h : B 32 x = B 32 y) : x = y := by
  have h' := congrArg BitVec.toNat h
  unfold B at h'; rw [BitVec.toNat_ofInt, BitVec.toNat_ofInt] at h'; omega
theorem B64_and (x y : Int) : B 64 (Go.bits .and .i64 x y) = B 64 x &&& B 64 y := by
  show B 64 (IntKind.i64.wrap ((BitVec.ofInt 64 x &&& BitVec.ofInt 64 y).toNat : Int)) = _
  rw [IntWalk.i64_left, B64_wrap, B_toNat]; rfl
theorem B64_or (x y : Int) : B 64 (Go.bits .or .i64 x y) = B 64 x ||| B 64 y := by
  show B 64 (IntKind.i64.wrap ((BitVec.ofInt 64 x ||| BitVec.ofInt 64 y).toNat : Int)) = _
  rw [IntWalk.i64_left, B64_wrap, B_toNat]; rfl
theorem B64_xor (x y : Int) : B 64 (Go.bits .xor .i64 x y) = B 64 x ^^^ B 64 y := by
  show B 64 (IntKind.i64.wrap ((BitVec.ofInt 64 x ^^^ BitVec.ofInt 64 y).toNat : Int)) = _
  rw [IntWalk.i64_left, B64_wrap, B_toNat]; rfl
theorem B64_oru (x y : Int) : B 64 (Go.bits .or .u64 x y) = B 64 x ||| B 64 y := by
  show B 64 (IntKind.u64.wrap ((BitVec.ofInt 64 x ||| BitVec.ofInt 64 y).toNat : Int)) = _
  rw [wrap_u64, B64_uns, B_toNat]; rfl
theorem B32_oru (x y : Int) : B 32 (Go.bits .or .u32 x y) = B 32 x ||| B 32 y := by
  show B 32 (IntKind.u32.wrap ((BitVec.ofInt 32 x ||| BitVec.ofInt 32 y).toNat : Int)) = _
  rw [IntKind.wrap_u32, B32_low, B_toNat]; rfl
theorem B32_and (x y : Int) : B 32 (Go.bits .and .i64 x y) = B 32 x &&& B 32 y := by rw [B32_of, B64_and, B32_of, B32_of, BitVec.setWidth_and]
theorem B32_or (x y : Int) : B 32 (Go.bits .or .i64 x y) = B 32 x ||| B 32 y := by rw [B32_of, B64_or, B32_of, B32_of, BitVec.setWidth_or]
theorem B32_xor (x y : Int) : B 32 (Go.bits .xor .i64 x y) = B 32 x ^^^ B 32 y := by rw [B32_of, B64_xor, B32_of, B32_of, BitVec.setWidth_xor]
theorem B32_or64 (x y : Int) : B 32 (Go.bits .or .u64 x y) = B 32 x ||| B 32 y := by rw [B32_of, B64_oru, B32_of, B32_of, BitVec.setWidth_or]
theorem B_add (k : Nat) (x y : Int) : B k (x + y) = B k x + B k y := by unfold B; exact BitVec.ofInt_add x y
theorem B_mul (k : Nat) (x y : Int) : B k (x * y) = B k x * B k y := by unfold B; exact BitVec.ofInt_mul x y
theorem B_shl (k : Nat) (x : Int) (n : Nat) : B k (x * 2 ^ n) = B k x <<< n := by
  have e : (2 : Int) ^ n = ((2 ^ n : Nat) : Int) := by simp
  rw [B_mul, e, B_nat, ← BitVec.mul_twoPow_eq_shiftLeft]
  have e2 : BitVec.ofNat k (2 ^ n) = BitVec.twoPow k n := by apply BitVec.eq_of_toNat_eq; simp [BitVec.toNat_twoPow]
  rw [e2]
theorem B64_shr (x : Int) (n : Nat) : B 64 (uns x / 2 ^ n) = B 64 x >>> n := by
  apply BitVec.eq_of_toNat_eq
  have e : uns x = (((B 64 x).toNat : Nat) : Int) := by unfold B uns; rw [BitVec.toNat_ofInt]; omega
  have e2 : (2 : Int) ^ n = ((2 ^ n : Nat) : Int) := by simp
  rw [e, e2, ← Int.natCast_ediv, B_nat, BitVec.toNat_ofNat, BitVec.toNat_ushiftRight, Nat.shiftRight_eq_div_pow]
  exact Nat.mod_eq_of_lt (Nat.lt_of_le_of_lt (Nat.div_le_self _ _) (B 64 x).isLt)
theorem B32_shr (x : Int) (h : 0 ≤ x ∧ x ≤ 4294967295) (n : Nat) : B 32 (x / 2 ^ n) = B 32 x >>> n := by
  apply BitVec.eq_of_toNat_eq
  have e : x = (((B 32 x).toNat : Nat) : Int) := by unfold B; rw [BitVec.toNat_ofInt]; omega
  have e2 : (2 : Int) ^ n = ((2 ^ n : Nat) : Int) := by simp
  conv => lhs; rw [e]
  rw [e2, ← Int.natCast_ediv, B_nat, BitVec.toNat_ofNat, BitVec.toNat_ushiftRight, Nat.shiftRight_eq_div_pow]
  exact Nat.mod_eq_of_lt (Nat.lt_of_le_of_lt (Nat.div_le_self _ _) (B 32 x).isLt)

theorem B_rot32 (x n : Int) (h : 0 ≤ x ∧ x ≤ 4294967295) : B 32 (rot32 x n) = (B 32 x).rotateLeft (n % 32).toNat := by
  unfold rot32
  have h1 : (n % 32).toNat < 32 := by omega
  have h2 : (32 - n % 32).toNat = 32 - (n % 32).toNat := by omega
  rw [B32_oru, B32_low, B_shl, B32_shr x h, BitVec.rotateLeft_def, Nat.mod_eq_of_lt h1, h2]
theorem B_rot64 (x n : Int) : B 64 (rot64 (uns x) n) = (B 64 x).rotateLeft (n % 64).toNat := by
  unfold rot64
  have h1 : (n % 64).toNat < 64 := by omega
  have h2 : (64 - n % 64).toNat = 64 - (n % 64).toNat := by omega
  rw [B64_oru, B64_uns, B_shl, B64_uns, B64_shr x, BitVec.rotateLeft_def, Nat.mod_eq_of_lt h1, h2]

theorem rot_back {k : Nat} (x : BitVec k) (r s : Nat) (hr : r < k) (hs : s < k) (h : r + s = k ∨ r = 0 ∧ s = 0) : (x.rotateLeft r).rotateLeft s = x := by
  apply BitVec.eq_of_getLsbD_eq
  intro i hi
  rw [BitVec.getLsbD_rotateLeft, BitVec.getLsbD_rotateLeft, BitVec.getLsbD_rotateLeft, Nat.mod_eq_of_lt hr, Nat.mod_eq_of_lt hs]
  by_cases h1 : i < s
  · rcases h with h | ⟨rfl, rfl⟩
    · have e1 : ¬ k - s + i < r := by omega
      have e2 : k - s + i < k := by omega
      have e3 : k - s + i - r = i := by omega
      simp [h1, e1, e2, e3]
    · omega
  · rcases h with h | ⟨rfl, rfl⟩
    · have e1 : i - s < r := by omega
      have e3 : k - r + (i - s) = i := by omega
      simp [h1, e1, e3, hi]
    · simp [hi]

theorem bv_and_add_or {k : Nat} (a b : BitVec k) : (a &&& b) + (a ||| b) = a + b := by
  have h1 : a ||| b = (a &&& ~~~b) + b := by
    rw [BitVec.add_eq_or_of_and_eq_zero]
    · apply BitVec.eq_of_getLsbD_eq; intro i hi; simp [hi]; cases a[i] <;> cases b[i] <;> rfl
    · apply BitVec.eq_of_getLsbD_eq; intro i hi; simp +contextual [hi]
  have h2 : a = (a &&& b) + (a &&& ~~~b) := by
    rw [BitVec.add_eq_or_of_and_eq_zero]
    · apply BitVec.eq_of_getLsbD_eq; intro i hi; simp [hi]; cases a[i] <;> cases b[i] <;> rfl
    · apply BitVec.eq_of_getLsbD_eq; intro i hi; simp +contextual [hi]
  rw [h1, ← BitVec.add_assoc, ← h2]

theorem reck_106 (w : Bool) (x y : Int) : (reck 106 w x y).1 = wrap64 (x + y) := by simp [reck]
theorem reck_113 (w : Bool) (x y : Int) : (reck 113 w x y).1 = Go.bits .and .i64 x y := by simp [reck]
theorem reck_114 (w : Bool) (x y : Int) : (reck 114 w x y).1 = Go.bits .or .i64 x y := by simp [reck]
theorem reck_115 (w : Bool) (x y : Int) : (reck 115 w x y).1 = Go.bits .xor .i64 x y := by simp [reck]
theorem reck_116 (w : Bool) (x y : Int) : (reck 116 w x y).1 = wrap64 (x * 2 ^ (cnt w y).toNat) := by simp [reck]
theorem reck_118 (w : Bool) (x y : Int) : (reck 118 w x y).1 = wrap64 (uns x / 2 ^ (cnt w y).toNat) := by simp [reck]
theorem reck_119n (x y : Int) : (reck 119 false x y).1 = wrap64 (rot32 (x % 4294967296) (y % 32)) := by simp [reck]
theorem reck_120n (x y : Int) : (reck 120 false x y).1 = wrap64 (rot32 (x % 4294967296) (-(y % 32))) := by simp [reck]
theorem reck_119w (x y : Int) : (reck 119 true x y).1 = wrap64 (rot64 (uns x) (y % 64)) := by simp [reck]
theorem reck_120w (x y : Int) : (reck 120 true x y).1 = wrap64 (rot64 (uns x) (-(y % 64))) := by simp [reck]
theorem cnt_n (y : Int) : cnt false y = y % 32 := by simp [cnt]
theorem cnt_w (y : Int) : cnt true y = y % 64 := by simp [cnt]

/-- the bits of a value at its width -/
theorem val_I (k : Int) (w : Bool) (a b : Int) (h0 : 106 ≤ k) (h1 : k ≤ 120) : w = false → 0 ≤ val k w a b ∧ val k w a b ≤ 4294967295 := by
  intro hw; subst hw; unfold val; rw [eval_reck false k a b h0 h1]; exact trim_narrow _
theorem val_trim (k : Int) (w : Bool) (a b : Int) (h0 : 106 ≤ k) (h1 : k ≤ 120) : trim w (val k w a b) = val k w a b := by
  unfold val; rw [eval_reck w k a b h0 h1]; exact trim_trim w _

theorem nB (k : Int) (a b : Int) (h0 : 106 ≤ k) (h1 : k ≤ 120) : B 32 (val k false a b) = B 32 (reck k false (trim false a) (trim false b)).1 := by
  unfold val; rw [eval_reck false k a b h0 h1]; exact B32_trim _
theorem wB (k : Int) (a b : Int) (h0 : 106 ≤ k) (h1 : k ≤ 120) : val k true a b = (reck k true a b).1 := by
  unfold val; rw [eval_reck true k a b h0 h1]; simp [trim]
theorem n_and (a b : Int) : B 32 (val 113 false a b) = B 32 a &&& B 32 b := by
  rw [nB 113 a b (by decide) (by decide), reck_113, B32_and, B32_trim, B32_trim]
theorem n_or (a b : Int) : B 32 (val 114 false a b) = B 32 a ||| B 32 b := by
  rw [nB 114 a b (by decide) (by decide), reck_114, B32_or, B32_trim, B32_trim]
theorem n_xor (a b : Int) : B 32 (val 115 false a b) = B 32 a ^^^ B 32 b := by
  rw [nB 115 a b (by decide) (by decide), reck_115, B32_xor, B32_trim, B32_trim]
theorem n_add (a b : Int) : B 32 (val 106 false a b) = B 32 a + B 32 b := by
  rw [nB 106 a b (by decide) (by decide), reck_106, B32_wrap, B_add, B32_trim, B32_trim]
theorem n_shl (a b : Int) : B 32 (val 116 false a b) = B 32 a <<< (b % 32).toNat := by
  have e : trim false b % 32 = b % 32 := by simp only [trim, Bool.false_eq_true, if_false]; omega
  rw [nB 116 a b (by decide) (by decide), reck_116, cnt_n, B32_wrap, B_shl, B32_trim, e]
theorem n_shr (a b : Int) : B 32 (val 118 false a b) = B 32 a >>> (b % 32).toNat := by
  have e : trim false b % 32 = b % 32 := by simp only [trim, Bool.false_eq_true, if_false]; omega
  rw [nB 118 a b (by decide) (by decide), reck_118, cnt_n, B32_wrap, uns_narrow (trim_narrow a), B32_shr _ (trim_narrow a), B32_trim, e]
theorem n_rotl (a b : Int) : B 32 (val 119 false a b) = (B 32 a).rotateLeft (b % 32).toNat := by
  have e : trim false b % 32 % 32 = b % 32 := by simp only [trim, Bool.false_eq_true, if_false]; omega
  have e2 : trim false a % 4294967296 = trim false a := by have := trim_narrow a; omega
  rw [nB 119 a b (by decide) (by decide), reck_119n, B32_wrap, e2, B_rot32 _ _ (trim_narrow a), B32_trim, e]
theorem n_rotr (a b : Int) : B 32 (val 120 false a b) = (B 32 a).rotateLeft (-(b % 32) % 32).toNat := by
  have e : -(trim false b % 32) % 32 = -(b % 32) % 32 := by simp only [trim, Bool.false_eq_true, if_false]; omega
  have e2 : trim false a % 4294967296 = trim false a := by have := trim_narrow a; omega
  rw [nB 120 a b (by decide) (by decide), reck_120n, B32_wrap, e2, B_rot32 _ _ (trim_narrow a), B32_trim, e]
theorem w_and (a b : Int) : B 64 (val 113 true a b) = B 64 a &&& B 64 b := by
  rw [wB 113 a b (by decide) (by decide), reck_113, B64_and]
theorem w_or (a b : Int) : B 64 (val 114 true a b) = B 64 a ||| B 64 b := by
  rw [wB 114 a b (by decide) (by decide), reck_114, B64_or]
theorem w_xor (a b : Int) : B 64 (val 115 true a b) = B 64 a ^^^ B 64 b := by
  rw [wB 115 a b (by decide) (by decide), reck_115, B64_xor]
theorem w_add (a b : Int) : B 64 (val 106 true a b) = B 64 a + B 64 b := by
  rw [wB 106 a b (by decide) (by decide), reck_106, B64_wrap, B_add]
theorem w_shl (a b : Int) : B 64 (val 116 true a b) = B 64 a <<< (b % 64).toNat := by
  rw [wB 116 a b (by decide) (by decide), reck_116, cnt_w, B64_wrap, B_shl]
theorem w_shr (a b : Int) : B 64 (val 118 true a b) = B 64 a >>> (b % 64).toNat := by
  rw [wB 118 a b (by decide) (by decide), reck_118, cnt_w, B64_wrap, B64_shr]
theorem w_rotl (a b : Int) : B 64 (val 119 true a b) = (B 64 a).rotateLeft (b % 64).toNat := by
  have e : b % 64 % 64 = b % 64 := by omega
  rw [wB 119 a b (by decide) (by decide), reck_119w, B64_wrap, B_rot64, e]
theorem w_rotr (a b : Int) : B 64 (val 120 true a b) = (B 64 a).rotateLeft (-(b % 64) % 64).toNat := by
  rw [wB 120 a b (by decide) (by decide), reck_120w, B64_wrap, B_rot64]
theorem bits_I (o : BinOp) (x y : Int) : I64 (Go.bits o .i64 x y) := by
  show I64 (IntKind.i64.wrap _)
  rw [IntWalk.i64_left]; exact wrap64_I _
theorem w_I (k : Int) (a b : Int) (h : k = 106 ∨ k = 113 ∨ k = 114 ∨ k = 115 ∨ k = 116 ∨ k = 118 ∨ k = 119 ∨ k = 120) : I64 (val k true a b) := by
  rw [wB k a b (by omega) (by omega)]
  rcases h with rfl | rfl | rfl | rfl | rfl | rfl | rfl | rfl
  · rw [reck_106]; exact wrap64_I _
  · rw [reck_113]; exact bits_I _ _ _
  · rw [reck_114]; exact bits_I _ _ _
  · rw [reck_115]; exact bits_I _ _ _
  · rw [reck_116]; exact wrap64_I _
  · rw [reck_118]; exact wrap64_I _
  · rw [reck_119w]; exact wrap64_I _
  · rw [reck_120w]; exact wrap64_I _
theorem shift_again {k : Nat} (x : BitVec k) (n : Nat) : ((x <<< n) >>> n) <<< n = x <<< n := by
  apply BitVec.eq_of_getLsbD_eq
  intro i hi
  simp only [BitVec.getLsbD_shiftLeft, BitVec.getLsbD_ushiftRight]
  by_cases h : i < n
  · simp [h]
  · have e : n + (i - n) = i := by omega
    simp [h, e, hi]
theorem bv_xor_and_or {k : Nat} (a b : BitVec k) : (a &&& b) ^^^ (a ||| b) = a ^^^ b := by
  apply BitVec.eq_of_getLsbD_eq; intro i hi; simp; cases a.getLsbD i <;> cases b.getLsbD i <;> rfl
theorem bv_xor_back {k : Nat} (a b : BitVec k) : (a ^^^ b) ^^^ b = a := by
  apply BitVec.eq_of_getLsbD_eq; intro i hi; simp

/-! The law WordTurns -/
theorem turns_rot (w : Bool) (a b : Int) (ha : I64 a) : val 120 w (val 119 w a b) b = trim w a := by
  cases w
  · refine B32_inj (val_I 120 false _ b (by decide) (by decide) rfl) (trim_narrow a) ?_
    rw [n_rotr, n_rotl, B32_trim]
    exact rot_back _ _ _ (by omega) (by omega) (by omega)
  · refine B64_inj (w_I 120 _ b (by decide)) (trim_I ha) ?_
    rw [w_rotr, w_rotl, trim_true]
    exact rot_back _ _ _ (by omega) (by omega) (by omega)
theorem turns_shift (w : Bool) (a b : Int) : val 116 w (val 118 w (val 116 w a b) b) b = val 116 w a b := by
  cases w
  · refine B32_inj (val_I 116 false _ b (by decide) (by decide) rfl) (val_I 116 false a b (by decide) (by decide) rfl) ?_
    rw [n_shl, n_shr, n_shl]; exact shift_again _ _
  · refine B64_inj (w_I 116 _ b (by decide)) (w_I 116 a b (by decide)) ?_
    rw [w_shl, w_shr, w_shl]; exact shift_again _ _
theorem turns_xor (w : Bool) (a b : Int) : val 115 w (val 113 w a b) (val 114 w a b) = val 115 w a b := by
  cases w
  · refine B32_inj (val_I 115 false _ _ (by decide) (by decide) rfl) (val_I 115 false a b (by decide) (by decide) rfl) ?_
    rw [n_xor, n_and, n_or, n_xor]; exact bv_xor_and_or _ _
  · refine B64_inj (w_I 115 _ _ (by decide)) (w_I 115 a b (by decide)) ?_
    rw [w_xor, w_and, w_or, w_xor]; exact bv_xor_and_or _ _
theorem turns_back (w : Bool) (a b : Int) (ha : I64 a) : val 115 w (val 115 w a b) b = trim w a := by
  cases w
  · refine B32_inj (val_I 115 false _ _ (by decide) (by decide) rfl) (trim_narrow a) ?_
    rw [n_xor, n_xor, B32_trim]; exact bv_xor_back _ _
  · refine B64_inj (w_I 115 _ _ (by decide)) (trim_I ha) ?_
    rw [w_xor, w_xor, trim_true]; exact bv_xor_back _ _
theorem turns_add (w : Bool) (a b : Int) : val 106 w (val 113 w a b) (val 114 w a b) = val 106 w a b := by
  cases w
  · refine B32_inj (val_I 106 false _ _ (by decide) (by decide) rfl) (val_I 106 false a b (by decide) (by decide) rfl) ?_
    rw [n_add, n_and, n_or, n_add]; exact bv_and_add_or _ _
  · refine B64_inj (w_I 106 _ _ (by decide)) (w_I 106 a b (by decide)) ?_
    rw [w_add, w_and, w_or, w_add]; exact bv_and_add_or _ _

end Go.Proofs.Ytdcmeefeinppnaa.Word
namespace Go.Proofs.Ytdcmeefeinppnaa.Word
open Go.RowKit
set_option linter.unusedVariables false
set_option linter.unusedSimpArgs false

theorem rcmp_cmp (k : Int) (w : Bool) (x y : Int) (h0 : 0 ≤ k) (h1 : k ≤ 10) (hx : w = false → 0 ≤ x ∧ x ≤ 4294967295) (hy : w = false → 0 ≤ y ∧ y ≤ 4294967295) :
    rcmp k w x y = tell (cmp (k + 69) w x y) := by
  have hk : k = 0 ∨ k = 1 ∨ k = 2 ∨ k = 3 ∨ k = 4 ∨ k = 5 ∨ k = 6 ∨ k = 7 ∨ k = 8 ∨ k = 9 ∨ k = 10 := by omega
  have d : ∀ p q : Int, decide (p ≤ q) = !decide (q < p) := fun p q => by
    by_cases h : p ≤ q
    · have : ¬ q < p := by omega
      simp [h, this]
    · have : q < p := by omega
      simp [h, this]
  have sx := rsg_sgn w x hx
  have sy := rsg_sgn w y hy
  rcases hk with rfl | rfl | rfl | rfl | rfl | rfl | rfl | rfl | rfl | rfl | rfl
  all_goals simp [rcmp, cmp, sx, sy, d, bne]

theorem rdiv_divi (k : Int) (w : Bool) (x y : Int) (h0 : 0 ≤ k) (h1 : k ≤ 3) (hx : w = false → 0 ≤ x ∧ x ≤ 4294967295) (hy : w = false → 0 ≤ y ∧ y ≤ 4294967295) :
    rdiv k w x y = divi (k + 109) w x y := by
  have hk : k = 0 ∨ k = 1 ∨ k = 2 ∨ k = 3 := by omega
  have sx := rsg_sgn w x hx
  have sy := rsg_sgn w y hy
  rcases hk with rfl | rfl | rfl | rfl
  all_goals simp [rdiv, divi, sx, sy]

theorem tell_trim (w : Bool) (b : Bool) : trim w (tell b) = tell b := by cases w <;> cases b <;> rfl

theorem or_zero_u (x : Int) : B 64 (Go.bits .or .u64 x 0) = B 64 x := by
  rw [B64_oru]; have : B 64 0 = 0#64 := rfl
  rw [this]; simp
theorem or_zero_n (x : Int) : B 32 (Go.bits .or .u64 x 0) = B 32 x := by
  rw [B32_of, or_zero_u, ← B32_of]
theorem zero_or_n (x : Int) : B 32 (Go.bits .or .u64 x 0) = B 32 x := or_zero_n x

theorem shr_k (k : Nat) (x : BitVec k) : x >>> k = 0#k := by
  apply BitVec.eq_of_getLsbD_eq; intro i hi; simp

theorem rshi_n3 (x y : Int) (hx : 0 ≤ x ∧ x ≤ 4294967295) : B 32 (rshi 3 false x y) = (B 32 x).rotateLeft (y % 32).toNat := by
  have hs : (y % 32).toNat < 32 := by omega
  have e : rshi 3 false x y = wrap64 (Go.bits .or .u64 (uns (uns x * 2 ^ (y % 32).toNat)) (if y % 32 = 0 then 0 else uns x / 2 ^ (32 - y % 32).toNat)) := by simp [rshi, cnt]
  rw [e, B32_wrap, B32_or64, B32_uns, B_shl, B32_uns, BitVec.rotateLeft_def, Nat.mod_eq_of_lt hs]
  by_cases h : y % 32 = 0
  · rw [if_pos h, h]
    have e1 : B 32 0 = 0#32 := rfl
    have e2 : (B 32 x) >>> (32 - (0 : Int).toNat) = 0#32 := shr_k 32 _
    rw [e1, e2]
  · have h2 : (32 - y % 32).toNat = 32 - (y % 32).toNat := by omega
    rw [if_neg h, uns_narrow hx, B32_shr x hx, h2]
theorem rshi_n4 (x y : Int) (hx : 0 ≤ x ∧ x ≤ 4294967295) : B 32 (rshi 4 false x y) = (B 32 x).rotateLeft (-(y % 32) % 32).toNat := by
  have e : rshi 4 false x y = wrap64 (Go.bits .or .u64 (uns x / 2 ^ (y % 32).toNat) (if y % 32 = 0 then 0 else uns (uns x * 2 ^ (32 - y % 32).toNat))) := by simp [rshi, cnt]
  have hs : (-(y % 32) % 32).toNat < 32 := by omega
  rw [e, B32_wrap, B32_or64, uns_narrow hx, B32_shr x hx, BitVec.rotateLeft_def, Nat.mod_eq_of_lt hs]
  by_cases h : y % 32 = 0
  · rw [if_pos h, h]
    have e1 : B 32 0 = 0#32 := rfl
    have e0 : (-(0 : Int) % 32).toNat = 0 := rfl
    have e2 : (B 32 x) >>> (32 - 0) = 0#32 := shr_k 32 _
    rw [e0, e1, e2]; simp
  · have h2 : (-(y % 32) % 32).toNat = (32 - y % 32).toNat := by omega
    have h3 : 32 - (32 - y % 32).toNat = (y % 32).toNat := by omega
    rw [if_neg h, B32_uns, B_shl, h2, h3, BitVec.or_comm]
theorem rshi_w3 (x y : Int) : B 64 (rshi 3 true x y) = (B 64 x).rotateLeft (y % 64).toNat := by
  have hs : (y % 64).toNat < 64 := by omega
  have e : rshi 3 true x y = wrap64 (Go.bits .or .u64 (uns (uns x * 2 ^ (y % 64).toNat)) (if y % 64 = 0 then 0 else uns x / 2 ^ (64 - y % 64).toNat)) := by simp [rshi, cnt]
  rw [e, B64_wrap, B64_oru, B64_uns, B_shl, B64_uns, BitVec.rotateLeft_def, Nat.mod_eq_of_lt hs]
  by_cases h : y % 64 = 0
  · rw [if_pos h, h]
    have e1 : B 64 0 = 0#64 := rfl
    have e2 : (B 64 x) >>> (64 - (0 : Int).toNat) = 0#64 := shr_k 64 _
    rw [e1, e2]
  · have h2 : (64 - y % 64).toNat = 64 - (y % 64).toNat := by omega
    rw [if_neg h, B64_shr x, h2]
theorem rshi_w4 (x y : Int) : B 64 (rshi 4 true x y) = (B 64 x).rotateLeft (-(y % 64) % 64).toNat := by
  have e : rshi 4 true x y = wrap64 (Go.bits .or .u64 (uns x / 2 ^ (y % 64).toNat) (if y % 64 = 0 then 0 else uns (uns x * 2 ^ (64 - y % 64).toNat))) := by simp [rshi, cnt]
  have hs : (-(y % 64) % 64).toNat < 64 := by omega
  rw [e, B64_wrap, B64_oru, B64_shr x, BitVec.rotateLeft_def, Nat.mod_eq_of_lt hs]
  by_cases h : y % 64 = 0
  · rw [if_pos h, h]
    have e1 : B 64 0 = 0#64 := rfl
    have e0 : (-(0 : Int) % 64).toNat = 0 := rfl
    have e2 : (B 64 x) >>> (64 - 0) = 0#64 := shr_k 64 _
    rw [e0, e1, e2]; simp
  · have h2 : (-(y % 64) % 64).toNat = (64 - y % 64).toNat := by omega
    have h3 : 64 - (64 - y % 64).toNat = (y % 64).toNat := by omega
    rw [if_neg h, B64_uns, B_shl, B64_uns, h2, h3, BitVec.or_comm]

/-- The shifts: at their width the same. -/
theorem rshi_reck (k : Int) (w : Bool) (a b : Int) (h0 : 0 ≤ k) (h1 : k ≤ 4) (ha : I64 a) (hb : I64 b) :
    trim w (rshi k w (trim w a) (trim w b)) = trim w (reck (k + 116) w (trim w a) (trim w b)).1 := by
  have hk : k = 0 ∨ k = 1 ∨ k = 2 ∨ k = 3 ∨ k = 4 := by omega
  rcases hk with rfl | rfl | rfl | rfl | rfl
  · have e : rshi 0 w (trim w a) (trim w b) = wrap64 (uns (trim w a) * 2 ^ (cnt w (trim w b)).toNat) := by simp [rshi]
    rw [show (0 : Int) + 116 = 116 from by omega]
    rw [e, reck_116]
    exact tr_cong (cong_mul (cong_uns w _) (cong_refl w _))
  · have e : rshi 1 w (trim w a) (trim w b) = rsg w (trim w a) / 2 ^ (cnt w (trim w b)).toNat := by simp [rshi]
    have e2 : (reck 117 w (trim w a) (trim w b)).1 = sgn w (trim w a) / 2 ^ (cnt w (trim w b)).toNat := by simp [reck]
    rw [show (1 : Int) + 116 = 117 from by omega]
    rw [e, e2, rsg_sgn w _ (fun hw => by subst hw; exact trim_narrow a)]
  · have e : rshi 2 w (trim w a) (trim w b) = wrap64 (uns (trim w a) / 2 ^ (cnt w (trim w b)).toNat) := by simp [rshi]
    rw [show (2 : Int) + 116 = 118 from by omega]
    rw [e, reck_118]
  · rw [show (3 : Int) + 116 = 119 from by omega]
    cases w
    · refine B32_inj (trim_narrow _) (trim_narrow _) ?_
      have e2 : trim false a % 4294967296 = trim false a := by have := trim_narrow a; omega
      have e3 : trim false b % 32 % 32 = trim false b % 32 := by omega
      rw [B32_trim, B32_trim, rshi_n3 _ _ (trim_narrow a), reck_119n, B32_wrap, e2, B_rot32 _ _ (trim_narrow a), e3]
    · simp only [trim_true]
      have e3 : b % 64 % 64 = b % 64 := by omega
      refine B64_inj ?_ ?_ ?_
      · have e : rshi 3 true a b = wrap64 (Go.bits .or .u64 (uns (uns (a) * 2 ^ (b % 64).toNat)) (if b % 64 = 0 then 0 else uns (a) / 2 ^ (64 - b % 64).toNat)) := by simp [rshi, cnt]
        rw [e]; exact wrap64_I _
      · rw [reck_119w]; exact wrap64_I _
      · rw [rshi_w3, reck_119w, B64_wrap, B_rot64, e3]
  · rw [show (4 : Int) + 116 = 120 from by omega]
    cases w
    · refine B32_inj (trim_narrow _) (trim_narrow _) ?_
      have e2 : trim false a % 4294967296 = trim false a := by have := trim_narrow a; omega
      rw [B32_trim, B32_trim, rshi_n4 _ _ (trim_narrow a), reck_120n, B32_wrap, e2, B_rot32 _ _ (trim_narrow a)]
    · simp only [trim_true]
      refine B64_inj ?_ ?_ ?_
      · have e : rshi 4 true a b = wrap64 (Go.bits .or .u64 (uns (a) / 2 ^ (b % 64).toNat) (if b % 64 = 0 then 0 else uns (uns (a) * 2 ^ (64 - b % 64).toNat))) := by simp [rshi, cnt]
        rw [e]; exact wrap64_I _
      · rw [reck_120w]; exact wrap64_I _
      · rw [rshi_w4, reck_120w, B64_wrap, B_rot64]

def rmid (k : Int) (w : Bool) (x y : Int) : Int × Int :=
  if k = 0 then (wrap64 (x + y), 0)
  else if k = 1 then (wrap64 (x - y), 0)
  else if k = 2 then (wrap64 (x * y), 0)
  else if k ≤ 6 then rdiv (k - 3) w x y
  else if k = 7 then (Go.bits .and .i64 x y, 0)
  else if k = 8 then (Go.bits .or .i64 x y, 0)
  else if k = 9 then (Go.bits .xor .i64 x y, 0)
  else (rshi (k - 10) w x y, 0)

theorem rmid_reck (k : Int) (w : Bool) (a b : Int) (h0 : 0 ≤ k) (h1 : k ≤ 14) (ha : I64 a) (hb : I64 b) :
    (trim w (rmid k w (trim w a) (trim w b)).1, (rmid k w (trim w a) (trim w b)).2) = (trim w (reck (k + 106) w (trim w a) (trim w b)).1, (reck (k + 106) w (trim w a) (trim w b)).2) := by
  by_cases c0 : k = 0
  · subst c0; simp [rmid, reck]
  by_cases c1 : k = 1
  · subst c1; simp [rmid, reck]
  by_cases c2 : k = 2
  · subst c2; simp [rmid, reck]
  by_cases c6 : k ≤ 6
  · have e1 : rmid k w (trim w a) (trim w b) = rdiv (k - 3) w (trim w a) (trim w b) := by
      unfold rmid; rw [if_neg c0, if_neg c1, if_neg c2, if_pos c6]
    have e2 : reck (k + 106) w (trim w a) (trim w b) = divi (k + 106) w (trim w a) (trim w b) := by
      unfold reck
      rw [if_neg (by omega), if_neg (by omega), if_neg (by omega), if_neg (by omega), if_neg (by omega), if_neg (by omega), if_neg (by omega), if_neg (by omega), if_neg (by omega), if_neg (by omega), if_neg (by omega)]
    have e3 := rdiv_divi (k - 3) w (trim w a) (trim w b) (by omega) (by omega) (fun hw => by subst hw; exact trim_narrow a) (fun hw => by subst hw; exact trim_narrow b)
    have e4 : k - 3 + 109 = k + 106 := by omega
    rw [e4] at e3
    rw [e1, e2, e3]
  by_cases c7 : k = 7
  · subst c7; simp [rmid, reck]
  by_cases c8 : k = 8
  · subst c8; simp [rmid, reck]
  by_cases c9 : k = 9
  · subst c9; simp [rmid, reck]
  have e1 : rmid k w (trim w a) (trim w b) = (rshi (k - 10) w (trim w a) (trim w b), 0) := by
    unfold rmid; rw [if_neg c0, if_neg c1, if_neg c2, if_neg c6, if_neg c7, if_neg c8, if_neg c9]
  have e3 := rshi_reck (k - 10) w a b (by omega) (by omega) ha hb
  have e4 : k - 10 + 116 = k + 106 := by omega
  rw [e4] at e3
  have e5 : (reck (k + 106) w (trim w a) (trim w b)).2 = 0 := by
    have hk : k = 10 ∨ k = 11 ∨ k = 12 ∨ k = 13 ∨ k = 14 := by omega
    rcases hk with rfl | rfl | rfl | rfl | rfl <;> simp [reck]
  rw [e1, e5, ← e3]

theorem reval_eq (op a b : Int) (ha : I64 a) (hb : I64 b) : reval op a b = eval op a b := by
  cases hok : (arity op).2.2.2
  · simp [reval, eval, hok]
  · have hr := arity_ok hok
    by_cases c1 : op ≤ 79
    · have e : eval op a b = eval (opw op false) a b := by simp [opw]
      have hw : wideB op = false := by
        unfold wideB arity
        by_cases c : op = 69
        · rw [if_pos c]; rfl
        · rw [if_neg c, if_neg (by omega), if_pos (by omega)]; rfl
      rw [e, eval_cmp false op a b (by omega) c1]
      unfold reval
      rw [hok, hw, if_neg (by simp : ¬ (true = false))]
      have e3 := rcmp_cmp (op - 69) false (trim false a) (trim false b) (by omega) (by omega) (fun _ => trim_narrow a) (fun _ => trim_narrow b)
      have e4 : op - 69 + 69 = op := by omega
      rw [e4] at e3
      have c : 69 ≤ op ∧ op ≤ 79 := by omega
      simp only [c, and_self, if_true, e3, tell_trim]
    by_cases c2 : op ≤ 90
    · have hge : 80 ≤ op := by
        by_cases h : 80 ≤ op
        · exact h
        · omega
      have e : eval op a b = eval (opw (op - 11) true) a b := by
        have : opw (op - 11) true = op := by unfold opw; rw [if_pos rfl, if_neg (by omega)]; omega
        rw [this]
      have hw : wideB op = true := by
        unfold wideB arity
        by_cases c : op = 80
        · rw [if_neg (by omega), if_pos c]; rfl
        · rw [if_neg (by omega), if_neg c, if_neg (by omega), if_pos (by omega)]; rfl
      rw [e, eval_cmp true (op - 11) a b (by omega) (by omega)]
      unfold reval
      rw [hok, hw, if_neg (by simp : ¬ (true = false))]
      have e3 := rcmp_cmp (op - 80) true (trim true a) (trim true b) (by omega) (by omega) (fun h => by cases h) (fun h => by cases h)
      have e4 : op - 80 + 69 = op - 11 := by omega
      rw [e4] at e3
      have c : ¬ (69 ≤ op ∧ op ≤ 79) := by omega
      have c' : 80 ≤ op ∧ op ≤ 90 := by omega
      simp only [c, c', and_self, if_true, if_false, e3, tell_trim]
    by_cases c3 : op = 167 ∨ op = 173
    · have d1 : ¬ (69 ≤ op ∧ op ≤ 79) := by omega
      have d2 : ¬ (80 ≤ op ∧ op ≤ 90) := by omega
      unfold reval eval
      rw [hok, if_neg (by simp : ¬ (true = false)), if_neg (by simp : ¬ (true = false)), if_pos c3]
      simp only [d1, d2, if_false, c3, if_true]
    by_cases c4 : op = 172
    · subst c4
      have hw : wideB 172 = false := by simp [wideB, arity]
      unfold reval eval
      rw [hok, if_neg (by simp : ¬ (true = false)), if_neg (by simp : ¬ (true = false)), if_neg (by decide : ¬ ((172 : Int) = 167 ∨ (172 : Int) = 173)), if_pos rfl, hw]
      have e := rsg_sgn false (trim false a) (fun _ => trim_narrow a)
      simp [e]
    have ha3 : (106 ≤ op ∧ op ≤ 120) ∨ (124 ≤ op ∧ op ≤ 138) := by
      unfold arity at hok
      rw [if_neg (by omega), if_neg (by omega)] at hok
      by_cases h : (70 ≤ op ∧ op ≤ 79) ∨ (106 ≤ op ∧ op ≤ 120)
      · omega
      · rw [if_neg h, if_neg (by omega)] at hok
        by_cases h2 : 124 ≤ op ∧ op ≤ 138
        · omega
        · rw [if_neg h2, if_neg (by omega), if_neg (by omega)] at hok
          simp at hok
    have d1 : ¬ (69 ≤ op ∧ op ≤ 79) := by omega
    have d2 : ¬ (80 ≤ op ∧ op ≤ 90) := by omega
    rcases ha3 with h | h
    · have e : eval op a b = eval (opw op false) a b := by simp [opw]
      have har : arity op = (2, 0, 0, true) := by
        unfold arity; rw [if_neg (by omega), if_neg (by omega), if_pos (by omega)]
      have hw : wideB op = false := by simp [wideB, har]
      have ht : toB op = false := by simp [toB, har]
      rw [e, eval_reck false op a b (by omega) (by omega)]
      have e2 := rmid_reck (op - 106) false a b (by omega) (by omega) ha hb
      have e4 : op - 106 + 106 = op := by omega
      rw [e4] at e2
      rw [← e2]
      unfold reval
      rw [hok, hw, ht, if_neg (by simp : ¬ (true = false))]
      simp only [d1, d2, c3, c4, if_false, Bool.false_eq_true]
      rfl
    · have e : eval op a b = eval (opw (op - 18) true) a b := by
        have : opw (op - 18) true = op := by unfold opw; rw [if_pos rfl, if_pos (by omega)]; omega
        rw [this]
      have har : arity op = (2, 1, 1, true) := by
        unfold arity; rw [if_neg (by omega), if_neg (by omega), if_neg (by omega), if_neg (by omega), if_pos (by omega)]
      have hw : wideB op = true := by simp [wideB, har]
      have ht : toB op = true := by simp [toB, har]
      rw [e, eval_reck true (op - 18) a b (by omega) (by omega)]
      have e2 := rmid_reck (op - 124) true a b (by omega) (by omega) ha hb
      have e4 : op - 124 + 106 = op - 18 := by omega
      rw [e4] at e2
      rw [← e2]
      unfold reval
      rw [hok, hw, ht, if_neg (by simp : ¬ (true = false))]
      simp only [d1, d2, c3, c4, if_false, if_true]
      rfl

end Go.Proofs.Ytdcmeefeinppnaa.Word
