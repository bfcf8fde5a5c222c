/- The walks of package oublietteref02: each function of it reckons what the plain functions below say. -/
import Derived.Test.YtobopkkdjkjafaaWord
namespace Go.Proofs.Ytobopkkdjkjafaa.Word
open Go.RowKit
set_option linter.unusedVariables false
set_option linter.unusedSimpArgs false

set_option maxHeartbeats 2000000 in
theorem ref_arity_calls (n : Int) (w : World) :
    Calls Try.prog 29 #[.int .i64 n] w fun e w' => e = .returned (.tuple #[.int .i64 (arity n).1, .int .i64 (arity n).2.1, .int .i64 (arity n).2.2.1, .bool (arity n).2.2.2]) ∧ w = w' := by
  go_enter Try.func29, Try.ntmps29
  go_wp2
  all_goals
    obtain ⟨q, hq⟩ : ∃ q, q = arity n := ⟨_, rfl⟩
    rw [← hq]
    simp only [beq_iff_eq, beq_eq_false_iff_ne] at *
    unfold arity at hq
    repeat' split at hq
    all_goals first
      | (exfalso; omega)
      | (subst hq
         exact bodyPost_ret (by simp [results, Try.results29, go_sem]) rfl ⟨rfl, rfl⟩)

theorem ref_trim_calls (b : Bool) (v : Int) (w : World) :
    Calls Try.prog 31 #[.bool b, .int .i64 v] w fun e w' => e = .returned (.int .i64 (trim b v)) ∧ w = w' := by
  cases b
  · go_enter Try.func31, Try.ntmps31
    go_wp2
    go_ret
    simp [trim, and_low]
  · go_enter Try.func31, Try.ntmps31
    go_wp2
    go_ret
    simp [trim]

def rsg (b : Bool) (v : Int) : Int := if b = false ∧ 2147483648 ≤ v then wrap64 (v - 4294967296) else v

theorem rsg_sgn (b : Bool) (v : Int) (h : b = false → 0 ≤ v ∧ v ≤ 4294967295) : rsg b v = sgn b v := by
  cases b
  · have := h rfl
    simp only [rsg, sgn, true_and, if_false, Bool.false_eq_true]
    unfold wrap32 wrap64
    split <;> omega
  · simp [rsg, sgn]

theorem ref_signed_calls (b : Bool) (v : Int) (w : World) :
    Calls Try.prog 46 #[.bool b, .int .i64 v] w fun e w' => e = .returned (.int .i64 (rsg b v)) ∧ w = w' := by
  cases b
  · go_enter Try.func46, Try.ntmps46
    go_wp2
    all_goals
      go_ret
      refine ⟨?_, rfl⟩
      simp [rsg]
      first | omega | (split <;> first | rfl | (exfalso; omega))
  · go_enter Try.func46, Try.ntmps46
    go_wp2
    go_ret
    simp [rsg]

theorem ref_below_calls (x y : Int) (w : World) :
    Calls Try.prog 56 #[.int .i64 x, .int .i64 y] w fun e w' => e = .returned (.bool (decide (uns x < uns y))) ∧ w = w' := by
  go_enter Try.func56, Try.ntmps56
  go_wp2
  go_ret
  simp [wrap_u64]

theorem ref_truth_calls (b : Bool) (w : World) :
    Calls Try.prog 55 #[.bool b] w fun e w' => e = .returned (.int .i64 (tell b)) ∧ w = w' := by
  cases b
  all_goals
    go_enter Try.func55, Try.ntmps55
    go_wp2
    go_ret
    simp [tell]

def rcmp (k : Int) (b : Bool) (x y : Int) : Int :=
  if k = 0 then tell (x == 0)
  else if k = 1 then tell (x == y)
  else if k = 2 then tell (x != y)
  else if k = 3 then tell (decide (rsg b x < rsg b y))
  else if k = 4 then tell (decide (uns x < uns y))
  else if k = 5 then tell (decide (rsg b y < rsg b x))
  else if k = 6 then tell (decide (uns y < uns x))
  else if k = 7 then tell (decide (rsg b x ≤ rsg b y))
  else if k = 8 then tell (!decide (uns y < uns x))
  else if k = 9 then tell (decide (rsg b y ≤ rsg b x))
  else tell (!decide (uns x < uns y))

set_option maxHeartbeats 2000000 in
theorem ref_compared_calls (k : Int) (b : Bool) (x y : Int) (w : World) :
    Calls Try.prog 45 #[.int .i64 k, .bool b, .int .i64 x, .int .i64 y] w fun e w' => e = .returned (.int .i64 (rcmp k b x y)) ∧ w = w' := by
  go_enter Try.func45, Try.ntmps45
  go_wp2_with (first
    | (go_at_call 46; refine (ref_signed_calls _ _ _).mono ?_; rintro e w' ⟨rfl, rfl⟩)
    | (go_at_call 56; refine (ref_below_calls _ _ _).mono ?_; rintro e w' ⟨rfl, rfl⟩)
    | (go_at_call 55; refine (ref_truth_calls _ _).mono ?_; rintro e w' ⟨rfl, rfl⟩))
  all_goals
    simp only [beq_iff_eq, beq_eq_false_iff_ne] at *
    go_ret
    refine ⟨?_, rfl⟩
    first
      | (subst_vars; simp [rcmp]; done)
      | simp [rcmp, *]

def rdiv (k : Int) (b : Bool) (x y : Int) : Int × Int :=
  if y = 0 then (0, 2)
  else if k = 1 then (wrap64 (uns x / uns y), 0)
  else if k = 3 then (wrap64 (uns x % uns y), 0)
  else if rsg b x = least b ∧ rsg b y = -1 then (if k = 0 then (0, 3) else (0, 0))
  else if k = 0 then (wrap64 ((rsg b x).tdiv (rsg b y)), 0)
  else ((rsg b x).tmod (rsg b y), 0)

theorem rsg_ne {b : Bool} {y : Int} (h : y ≠ 0) (h0 : b = false → 0 ≤ y ∧ y ≤ 4294967295) : rsg b y ≠ 0 := by
  rw [rsg_sgn b y h0]; exact sgn_ne h h0

set_option maxHeartbeats 4000000 in
theorem ref_divided_calls (k : Int) (b : Bool) (x y : Int) (w : World) (h0 : -9223372036854775808 ≤ y) (h1 : y ≤ 9223372036854775807) (h2 : b = false → 0 ≤ y ∧ y ≤ 4294967295) :
    Calls Try.prog 47 #[.int .i64 k, .bool b, .int .i64 x, .int .i64 y] w fun e w' => e = .returned (.tuple #[.int .i64 (rdiv k b x y).1, .int .i64 (rdiv k b x y).2]) ∧ w = w' := by
  have H2 := Lib.hid h2
  clear h2
  cases b <;>
  go_enter Try.func47, Try.ntmps47
  all_goals (go_wp2_with (go_at_call 46; refine (ref_signed_calls _ _ _).mono ?_; rintro e w' ⟨rfl, rfl⟩))
  all_goals
    simp only [beq_iff_eq, beq_eq_false_iff_ne, wrap_u64] at *
    have h2 := H2.out
    first
      | (exfalso; exact uns_ne ‹_› h0 h1 ‹_›)
      | (exfalso; exact rsg_ne (b := true) ‹_› h2 ‹_›)
      | (exfalso; exact rsg_ne (b := false) ‹_› (fun _ => h2 trivial) ‹_›)
      | (exfalso; simp_all; done)
      | (go_ret2; refine ⟨?_, rfl⟩; simp [rdiv, least, wrap64_uns, Int.tdiv_eq_ediv_of_nonneg (uns_nonneg _), Int.tmod_eq_emod_of_nonneg (uns_nonneg _), *]; try exact (Int.tmod_eq_emod_of_nonneg (by decide)).symm)
      | go_ways

def rshi (k : Int) (b : Bool) (x y : Int) : Int :=
  let z := if b then 64 else 32
  let n := cnt b y
  if k = 0 then wrap64 (uns x * 2 ^ n.toNat)
  else if k = 1 then rsg b x / 2 ^ n.toNat
  else if k = 2 then wrap64 (uns x / 2 ^ n.toNat)
  else if k = 3 then wrap64 (Go.bits .or .u64 (uns (uns x * 2 ^ n.toNat)) (if n = 0 then 0 else uns x / 2 ^ (z - n).toNat))
  else wrap64 (Go.bits .or .u64 (uns x / 2 ^ n.toNat) (if n = 0 then 0 else uns (uns x * 2 ^ (z - n).toNat)))

set_option maxHeartbeats 4000000 in
theorem ref_shifted_calls (k : Int) (b : Bool) (x y : Int) (w : World) :
    Calls Try.prog 48 #[.int .i64 k, .bool b, .int .i64 x, .int .i64 y] w fun e w' => e = .returned (.int .i64 (rshi k b x y)) ∧ w = w' := by
  have hm : Go.bits .and .i64 y 31 = y % 32 := iand_31 y
  have hm2 : Go.bits .and .i64 y 63 = y % 64 := iand_63 y
  have g0 : 0 ≤ y % 32 := by omega
  have g1 : y % 32 ≤ 31 := by omega
  have g2 : 0 ≤ y % 64 := by omega
  have g3 : y % 64 ≤ 63 := by omega
  have hm3 : Go.bits .and .i64 (32 - y % 32) 63 = 32 - y % 32 := by rw [iand_63]; omega
  have hm4 : Go.bits .and .i64 (64 - y % 64) 63 = (64 - y % 64) % 64 := iand_63 _
  have g4 : 0 ≤ 32 - y % 32 := by omega
  have g5 : 0 ≤ (64 - y % 64) % 64 := by omega
  have g6 : (64 - y % 64) % 64 ≤ 63 := by omega
  cases b <;>
  go_enter Try.func48, Try.ntmps48
  all_goals (go_wp2_with (go_at_call 46; refine (ref_signed_calls _ _ _).mono ?_; rintro e w' ⟨rfl, rfl⟩))
  all_goals
    simp only [beq_iff_eq, beq_eq_false_iff_ne, wrap_u64] at *
    go_ret
    refine ⟨?_, rfl⟩
    first
      | (simp [rshi, cnt, wrap64_uns, *]; done)
      | (have e1 : -(y % 64) % 64 = 64 - y % 64 := by omega
         simp [rshi, cnt, wrap64_uns, *]; done)

def reval (op a b : Int) : Int × Int :=
  if (arity op).2.2.2 = false then (0, 0)
  else
    let x := trim (wideB op) a
    let y := trim (wideB op) b
    let r : Int × Int :=
      if 69 ≤ op ∧ op ≤ 79 then (rcmp (op - 69) (wideB op) x y, 0)
      else if 80 ≤ op ∧ op ≤ 90 then (rcmp (op - 80) (wideB op) x y, 0)
      else if op = 167 ∨ op = 173 then (x, 0)
      else if op = 172 then (rsg false x, 0)
      else
        let k := if wideB op then op - 124 else op - 106
        if k = 0 then (wrap64 (x + y), 0)
        else if k = 1 then (wrap64 (x - y), 0)
        else if k = 2 then (wrap64 (x * y), 0)
        else if k ≤ 6 then rdiv (k - 3) (wideB op) x y
        else if k = 7 then (Go.bits .and .i64 x y, 0)
        else if k = 8 then (Go.bits .or .i64 x y, 0)
        else if k = 9 then (Go.bits .xor .i64 x y, 0)
        else (rshi (k - 10) (wideB op) x y, 0)
    (trim (toB op) r.1, r.2)

theorem reval_no (op x y : Int) (w : World) (h : (arity op).2.2.2 = false) :
    Calls Try.prog 27 #[.int .i64 op, .int .i64 x, .int .i64 y] w fun e w' => e = .returned (.tuple #[.int .i64 (reval op x y).1, .int .i64 (reval op x y).2]) ∧ w = w' := by
  have he : reval op x y = (0, 0) := by simp [reval, h]
  have He := Lib.hid he
  clear he
  go_enter Try.func27, Try.ntmps27
  go_wp2_with (go_at_call 29; refine (ref_arity_calls _ _).mono ?_; rintro e w' ⟨rfl, rfl⟩)
  go_ret2
  rw [He.out]
  exact ⟨rfl, rfl⟩

theorem reval_rets (op x y : Int) (u t : Int) (h : reval op x y = (u, t)) {W : World} :
    Ending.returned (.tuple #[.int .i64 u, .int .i64 t]) = Ending.returned (.tuple #[.int .i64 (reval op x y).1, .int .i64 (reval op x y).2]) ∧ W = W := by
  rw [h]; exact ⟨rfl, rfl⟩

set_option maxHeartbeats 8000000 in
theorem reval_yes (op x y : Int) (w : World) (h : (arity op).2.2.2 = true) (h0 : -9223372036854775808 ≤ y) (h1 : y ≤ 9223372036854775807) :
    Calls Try.prog 27 #[.int .i64 op, .int .i64 x, .int .i64 y] w fun e w' => e = .returned (.tuple #[.int .i64 (reval op x y).1, .int .i64 (reval op x y).2]) ∧ w = w' := by
  obtain ⟨o0, o1⟩ := arity_ok h
  obtain ⟨t0, t1, t2⟩ := trim_range (wideB op) y h0 h1
  have T2 := Lib.hid t2
  clear t2
  have hwb : ((arity op).2.1 == 1) = wideB op := rfl
  have htb : ((arity op).2.2.1 == 1) = toB op := rfl
  cases hw : wideB op
  all_goals
    rw [hw] at t0 t1 hwb
    have T3 : wideB op = false → 0 ≤ trim (wideB op) y ∧ trim (wideB op) y ≤ 4294967295 := T2.out
    rw [hw] at T3
    have HW := Lib.hid hw
    have T4 := Lib.hid T3
    clear hw T2 T3
    go_enter Try.func27, Try.ntmps27
    go_wp2_with (first
      | (go_at_call 29; refine (ref_arity_calls _ _).mono ?_; rintro e w' ⟨rfl, rfl⟩)
      | (go_at_call 31; refine (ref_trim_calls _ _ _).mono ?_; rintro e w' ⟨rfl, rfl⟩)
      | (go_at_call 46; refine (ref_signed_calls _ _ _).mono ?_; rintro e w' ⟨rfl, rfl⟩)
      | (go_at_call 45; refine (ref_compared_calls _ _ _ _ _).mono ?_; rintro e w' ⟨rfl, rfl⟩)
      | (go_at_call 48; refine (ref_shifted_calls _ _ _ _ _).mono ?_; rintro e w' ⟨rfl, rfl⟩)
      | (go_at_call 47; refine (ref_divided_calls _ _ _ _ _ (by assumption) (by assumption) (by intro hq; first | exact T4.out hq | exact T4.out trivial)).mono ?_; rintro e w' ⟨rfl, rfl⟩))
  all_goals
    have hw := HW.out
    simp only [beq_iff_eq, beq_eq_false_iff_ne] at *
    first
      | (go_ret2; refine reval_rets _ _ _ _ _ ?_)
      | go_ways
    have e0 : 69 ≤ op := by omega
    first
      | (subst_vars; simp [reval, *]; done)
      | (simp [reval, *]; done)
      | (have e1 : ¬ op ≤ 79 := by omega
         simp [reval, *]; done)
      | (have e1 : ¬ op ≤ 79 := by omega
         have e2 : ¬ op ≤ 90 := by omega
         simp [reval, *]; done)
      | (have e1 : ¬ op ≤ 79 := by omega
         have e2 : ¬ op ≤ 90 := by omega
         obtain rfl | rfl := ‹op = 167 ∨ op = 173› <;> simp [reval, *] <;> done)
      | (have e1 : ¬ op ≤ 79 := by omega
         have e2 : ¬ op ≤ 90 := by omega
         have e3 : ¬ op - 106 ≤ 6 := by omega
         simp [reval, *]; done)
      | (have e1 : ¬ op ≤ 79 := by omega
         have e2 : ¬ op ≤ 90 := by omega
         have e3 : ¬ op - 124 ≤ 6 := by omega
         simp [reval, *]; done)
      | go_ways

theorem reval_calls (op x y : Int) (w : World) (h0 : -9223372036854775808 ≤ y) (h1 : y ≤ 9223372036854775807) :
    Calls Try.prog 27 #[.int .i64 op, .int .i64 x, .int .i64 y] w fun e w' => e = .returned (.tuple #[.int .i64 (reval op x y).1, .int .i64 (reval op x y).2]) ∧ w = w' := by
  cases h : (arity op).2.2.2
  · exact reval_no op x y w h
  · exact reval_yes op x y w h h0 h1

end Go.Proofs.Ytobopkkdjkjafaa.Word
