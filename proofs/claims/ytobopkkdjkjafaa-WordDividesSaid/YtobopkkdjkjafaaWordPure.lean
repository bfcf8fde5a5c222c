/- Plain facts on what package word reckons: no program in sight. -/
import Derived.Test.YtobopkkdjkjafaaWordRef
namespace Go.Proofs.Ytobopkkdjkjafaa.Word
open Go.RowKit
set_option linter.unusedVariables false
set_option linter.unusedSimpArgs false

def I64 (x : Int) : Prop := -9223372036854775808 ≤ x ∧ x ≤ 9223372036854775807
theorem wrap64_I (x : Int) : I64 (wrap64 x) := by unfold wrap64 I64; omega
theorem i64_wf {x : Int} (h : (Lit.int .i64 x).wf = true) : I64 x := by
  simp [Lit.wf, IntKind.has, IntKind.min, IntKind.max, IntKind.bits, IntKind.signed] at h
  unfold I64; omega

def opw (op : Int) (w : Bool) : Int := if w then (if 106 ≤ op then op - 106 + 124 else op - 69 + 80) else op
def val (op : Int) (w : Bool) (a b : Int) : Int := (eval (opw op w) a b).1
/-- z at a width -/
def tr (w : Bool) (z : Int) : Int := trim w (wrap64 z)
/-- z and z' are the same but for whole turns -/
def cong (w : Bool) (z z' : Int) : Prop := if w then (z - z') % 18446744073709551616 = 0 else (z - z') % 4294967296 = 0

theorem tr_false (z : Int) : tr false z = z % 4294967296 := by simp [tr, trim]; unfold wrap64; omega
theorem tr_true (z : Int) : tr true z = wrap64 z := by simp [tr, trim]

theorem tr_cong {w : Bool} {z z' : Int} (h : cong w z z') : tr w z = tr w z' := by
  cases w
  · simp only [cong, Bool.false_eq_true, if_false] at h
    rw [tr_false, tr_false]; omega
  · simp only [cong, if_true] at h
    rw [tr_true, tr_true]; unfold wrap64; omega
theorem cong_tr (w : Bool) (z : Int) : cong w (tr w z) z := by
  cases w
  · simp only [cong, Bool.false_eq_true, if_false]; rw [tr_false]; omega
  · simp only [cong, if_true]; rw [tr_true]; unfold wrap64; omega
theorem cong_refl (w : Bool) (z : Int) : cong w z z := by cases w <;> simp [cong]
theorem cong_symm {w : Bool} {a b : Int} (h : cong w a b) : cong w b a := by cases w <;> simp only [cong, Bool.false_eq_true, if_false, if_true] at * <;> omega
theorem cong_trans {w : Bool} {a b c : Int} (h : cong w a b) (k : cong w b c) : cong w a c := by cases w <;> simp only [cong, Bool.false_eq_true, if_false, if_true] at * <;> omega
theorem cong_add {w : Bool} {a b c d : Int} (h : cong w a b) (k : cong w c d) : cong w (a + c) (b + d) := by cases w <;> simp only [cong, Bool.false_eq_true, if_false, if_true] at * <;> omega
theorem cong_sub {w : Bool} {a b c d : Int} (h : cong w a b) (k : cong w c d) : cong w (a - c) (b - d) := by cases w <;> simp only [cong, Bool.false_eq_true, if_false, if_true] at * <;> omega
theorem cong_mul {w : Bool} {a b c d : Int} (h : cong w a b) (k : cong w c d) : cong w (a * c) (b * d) := by
  have e : a * c - b * d = (a - b) * c + b * (c - d) := by rw [Int.sub_mul, Int.mul_sub]; omega
  have fa : ∀ M : Int, (a - b) % M = 0 → (c - d) % M = 0 → (a * c - b * d) % M = 0 := fun M h1 h2 => by
    rw [e]
    exact Int.emod_eq_zero_of_dvd (Int.dvd_add (Int.dvd_mul_of_dvd_left (Int.dvd_of_emod_eq_zero h1)) (Int.dvd_mul_of_dvd_right (Int.dvd_of_emod_eq_zero h2)))
  cases w <;> simp only [cong, Bool.false_eq_true, if_false, if_true] at * <;> exact fa _ h k
theorem cong_trim (w : Bool) (z : Int) : cong w (trim w z) z := by
  cases w
  · simp only [cong, Bool.false_eq_true, if_false, trim]; omega
  · simp [cong, trim]
theorem cong_wrap (w : Bool) (z : Int) : cong w (wrap64 z) z := by
  cases w <;> simp only [cong, Bool.false_eq_true, if_false, if_true] <;> unfold wrap64 <;> omega
theorem cong_sgn (w : Bool) (z : Int) : cong w (sgn w z) z := by
  cases w <;> simp only [cong, Bool.false_eq_true, if_false, if_true, sgn, wrap32] <;> omega
theorem cong_uns (w : Bool) (z : Int) : cong w (uns z) z := by
  cases w <;> simp only [cong, Bool.false_eq_true, if_false, if_true, uns] <;> omega

theorem trim_trim (w : Bool) (z : Int) : trim w (trim w z) = trim w z := by cases w <;> simp [trim]
theorem trim_tr (w : Bool) (z : Int) : trim w (tr w z) = tr w z := trim_trim w _
theorem tr_trim {w : Bool} {a : Int} (h : I64 a) : tr w (trim w a) = trim w a := by
  unfold I64 at h
  cases w
  · rw [tr_false]; simp only [trim, Bool.false_eq_true, if_false]; omega
  · rw [tr_true]; simp only [trim, if_true]; unfold wrap64; omega
theorem tr_I (w : Bool) (z : Int) : I64 (tr w z) := by
  unfold I64; cases w
  · rw [tr_false]; omega
  · rw [tr_true]; unfold wrap64; omega
theorem trim_I {w : Bool} {a : Int} (h : I64 a) : I64 (trim w a) := by
  unfold I64 at *; cases w <;> simp only [trim, Bool.false_eq_true, if_false, if_true] <;> omega
theorem trim_narrow (a : Int) : 0 ≤ trim false a ∧ trim false a ≤ 4294967295 := by simp only [trim, Bool.false_eq_true, if_false]; omega
theorem trim_true (a : Int) : trim true a = a := by simp [trim]

theorem eval_reck (w : Bool) (k a b : Int) (h0 : 106 ≤ k) (h1 : k ≤ 120) :
    eval (opw k w) a b = (trim w (reck k w (trim w a) (trim w b)).1, (reck k w (trim w a) (trim w b)).2) := by
  cases w
  · have ha : arity k = (2, 0, 0, true) := by
      unfold arity; rw [if_neg (by omega), if_neg (by omega), if_pos (by omega)]
    have e1 : ¬ (k = 167 ∨ k = 173) := by omega
    have e2 : ¬ k = 172 := by omega
    have e3 : ¬ k ≤ 79 := by omega
    have e4 : ¬ k ≤ 90 := by omega
    have e5 : ¬ k ≥ 124 := by omega
    simp only [opw, Bool.false_eq_true, if_false]
    unfold eval
    have hw : wideB k = false := by simp [wideB, ha]
    have ht : toB k = false := by simp [toB, ha]
    rw [hw, ht, ha]
    rw [if_neg (by simp), if_neg e1, if_neg e2, if_neg e3, if_neg e4, if_neg e5]
  · have e0 : opw k true = k - 106 + 124 := by simp [opw]; omega
    rw [e0]
    have ha : arity (k - 106 + 124) = (2, 1, 1, true) := by
      unfold arity; rw [if_neg (by omega), if_neg (by omega), if_neg (by omega), if_neg (by omega), if_pos (by omega)]
    have e1 : ¬ (k - 106 + 124 = 167 ∨ k - 106 + 124 = 173) := by omega
    have e2 : ¬ k - 106 + 124 = 172 := by omega
    have e3 : ¬ k - 106 + 124 ≤ 79 := by omega
    have e4 : ¬ k - 106 + 124 ≤ 90 := by omega
    have e5 : k - 106 + 124 ≥ 124 := by omega
    unfold eval
    have hw : wideB (k - 106 + 124) = true := by simp [wideB, ha]
    have ht : toB (k - 106 + 124) = true := by simp [toB, ha]
    rw [hw, ht, ha]
    rw [if_neg (by simp), if_neg e1, if_neg e2, if_neg e3, if_neg e4, if_pos e5]
    have e6 : k - 106 + 124 - 124 + 106 = k := by omega
    rw [e6]

theorem eval_cmp (w : Bool) (k a b : Int) (h0 : 69 ≤ k) (h1 : k ≤ 79) :
    eval (opw k w) a b = (tell (cmp k w (trim w a) (trim w b)), 0) := by
  cases w
  · have ha : (arity k).2.1 = 0 ∧ (arity k).2.2.2 = true := by
      unfold arity
      by_cases hk : k = 69
      · rw [if_pos hk]; exact ⟨rfl, rfl⟩
      · rw [if_neg hk, if_neg (by omega), if_pos (by omega)]; exact ⟨rfl, rfl⟩
    have e1 : ¬ (k = 167 ∨ k = 173) := by omega
    have e2 : ¬ k = 172 := by omega
    simp only [opw, Bool.false_eq_true, if_false]
    unfold eval
    have hw : wideB k = false := by simp [wideB, ha.1]
    rw [hw, ha.2]
    rw [if_neg (by simp), if_neg e1, if_neg e2, if_pos h1]
  · have e0 : opw k true = k - 69 + 80 := by simp [opw]; omega
    rw [e0]
    have ha : (arity (k - 69 + 80)).2.1 = 1 ∧ (arity (k - 69 + 80)).2.2.2 = true := by
      unfold arity
      by_cases hk : k = 69
      · rw [if_neg (by omega), if_pos (by omega)]; exact ⟨rfl, rfl⟩
      · rw [if_neg (by omega), if_neg (by omega), if_neg (by omega), if_pos (by omega)]; exact ⟨rfl, rfl⟩
    have e1 : ¬ (k - 69 + 80 = 167 ∨ k - 69 + 80 = 173) := by omega
    have e2 : ¬ k - 69 + 80 = 172 := by omega
    have e3 : ¬ k - 69 + 80 ≤ 79 := by omega
    have e4 : k - 69 + 80 ≤ 90 := by omega
    unfold eval
    have hw : wideB (k - 69 + 80) = true := by simp [wideB, ha.1]
    rw [hw, ha.2]
    rw [if_neg (by simp), if_neg e1, if_neg e2, if_neg e3, if_pos e4]
    have e6 : k - 69 + 80 - 80 + 69 = k := by omega
    rw [e6]

theorem val_add (w : Bool) (a b : Int) : val 106 w a b = tr w (trim w a + trim w b) := by
  unfold val; rw [eval_reck w 106 a b (by decide) (by decide)]; rfl
theorem val_sub (w : Bool) (a b : Int) : val 107 w a b = tr w (trim w a - trim w b) := by
  unfold val; rw [eval_reck w 107 a b (by decide) (by decide)]; rfl
theorem val_mul (w : Bool) (a b : Int) : val 108 w a b = tr w (trim w a * trim w b) := by
  unfold val; rw [eval_reck w 108 a b (by decide) (by decide)]; rfl

/-! The law WordSums -/
theorem sums_back (w : Bool) (a b : Int) (ha : I64 a) : val 107 w (val 106 w a b) b = trim w a := by
  rw [val_sub, val_add, trim_tr]
  refine Eq.trans (tr_cong (cong_trans (cong_sub (cong_tr w _) (cong_refl w _)) ?_)) (tr_trim ha)
  have e : trim w a + trim w b - trim w b = trim w a := by omega
  rw [e]; exact cong_refl w _
theorem sums_turn (w : Bool) (a b : Int) : val 106 w a b = val 106 w (trim w b) (trim w a) := by
  rw [val_add, val_add, trim_trim, trim_trim, Int.add_comm]
theorem sums_more (w : Bool) (a p : Int) : val 106 w (tr w p) a = tr w (p + trim w a) := by
  rw [val_add, trim_tr]; exact tr_cong (cong_add (cong_tr w _) (cong_refl w _))
theorem sums_mul (w : Bool) (a n : Int) (h0 : 0 ≤ n) (h1 : n ≤ 50) : val 108 w a n = tr w (n * trim w a) := by
  rw [val_mul]
  have e : trim w n = n := by cases w <;> simp only [trim, Bool.false_eq_true, if_false, if_true]; omega
  rw [e, Int.mul_comm]
theorem mul_comm' (w : Bool) (a b : Int) : val 108 w a b = val 108 w b a := by rw [val_mul, val_mul, Int.mul_comm]

/-! The law WordDivides -/
theorem opw_divs : True := trivial

theorem val_div (w : Bool) (k a b : Int) (h0 : 109 ≤ k) (h1 : k ≤ 112) : eval (opw k w) a b = (trim w (divi k w (trim w a) (trim w b)).1, (divi k w (trim w a) (trim w b)).2) := by
  rw [eval_reck w k a b (by omega) (by omega)]
  have e : reck k w (trim w a) (trim w b) = divi k w (trim w a) (trim w b) := by
    unfold reck
    rw [if_neg (by omega), if_neg (by omega), if_neg (by omega), if_neg (by omega), if_neg (by omega), if_neg (by omega), if_neg (by omega), if_neg (by omega), if_neg (by omega), if_neg (by omega), if_neg (by omega)]
  rw [e]

theorem div_zero (w : Bool) (k a b : Int) (h0 : 109 ≤ k) (h1 : k ≤ 112) (h : trim w b = 0) : eval (opw k w) a b = (0, 2) := by
  rw [val_div w k a b h0 h1, h]
  simp only [divi, if_true]
  cases w <;> rfl

theorem divU (w : Bool) (a b : Int) (h : trim w b ≠ 0) : eval (opw 110 w) a b = (tr w (uns (trim w a) / uns (trim w b)), 0) := by
  rw [val_div w 110 a b (by decide) (by decide)]
  simp [divi, h, tr]
theorem remU (w : Bool) (a b : Int) (h : trim w b ≠ 0) : eval (opw 112 w) a b = (tr w (uns (trim w a) % uns (trim w b)), 0) := by
  rw [val_div w 112 a b (by decide) (by decide)]
  simp [divi, h, tr]
def over (w : Bool) (a b : Int) : Prop := sgn w (trim w a) = least w ∧ sgn w (trim w b) = -1
theorem divS_over (w : Bool) (a b : Int) (h : trim w b ≠ 0) (o : over w a b) : eval (opw 109 w) a b = (0, 3) := by
  rw [val_div w 109 a b (by decide) (by decide)]
  unfold over at o
  simp [divi, h, o]
  cases w <;> rfl
theorem remS_over (w : Bool) (a b : Int) (h : trim w b ≠ 0) (o : over w a b) : eval (opw 111 w) a b = (0, 0) := by
  rw [val_div w 111 a b (by decide) (by decide)]
  unfold over at o
  simp [divi, h, o]
  cases w <;> rfl
theorem divS (w : Bool) (a b : Int) (h : trim w b ≠ 0) (o : ¬ over w a b) : eval (opw 109 w) a b = (tr w ((sgn w (trim w a)).tdiv (sgn w (trim w b))), 0) := by
  rw [val_div w 109 a b (by decide) (by decide)]
  unfold over at o
  simp only [divi]
  rw [if_neg h, if_neg (by decide), if_neg (by decide), if_neg o]; simp [tr]
theorem remS (w : Bool) (a b : Int) (h : trim w b ≠ 0) (o : ¬ over w a b) : eval (opw 111 w) a b = (trim w ((sgn w (trim w a)).tmod (sgn w (trim w b))), 0) := by
  rw [val_div w 111 a b (by decide) (by decide)]
  unfold over at o
  simp only [divi]
  rw [if_neg h, if_neg (by decide), if_neg (by decide), if_neg o, if_neg (by decide)]

/-- quotient times divisor and the rest -/
theorem back_of (w : Bool) (a b q r : Int) (ha : I64 a) (A B Q R : Int) (hA : cong w A (trim w a)) (hB : cong w B (trim w b)) (hQ : cong w q Q) (hR : cong w r R) (e : Q * B + R = A) (hq : trim w q = q) (hr : trim w r = r) :
    val 106 w (val 108 w q b) r = trim w a := by
  rw [val_add, val_mul, trim_tr, hq, hr]
  refine Eq.trans (tr_cong (cong_trans (cong_add (cong_tr w _) (cong_refl w _)) ?_)) (tr_trim ha)
  refine cong_trans (cong_add (cong_mul hQ (cong_symm hB)) hR) ?_
  rw [e]; exact hA

theorem divU_back (w : Bool) (a b : Int) (ha : I64 a) (h : trim w b ≠ 0) :
    val 106 w (val 108 w (eval (opw 110 w) a b).1 b) (eval (opw 112 w) a b).1 = trim w a := by
  rw [divU w a b h, remU w a b h]
  exact back_of w a b _ _ ha (uns (trim w a)) (uns (trim w b)) (uns (trim w a) / uns (trim w b)) (uns (trim w a) % uns (trim w b)) (cong_uns w _) (cong_uns w _) (cong_tr w _) (cong_tr w _)
    (by rw [Int.mul_comm]; exact Int.mul_ediv_add_emod _ _) (trim_tr w _) (trim_tr w _)

theorem divS_back (w : Bool) (a b : Int) (ha : I64 a) (h : trim w b ≠ 0) (o : ¬ over w a b) :
    val 106 w (val 108 w (eval (opw 109 w) a b).1 b) (eval (opw 111 w) a b).1 = trim w a := by
  rw [divS w a b h o, remS w a b h o]
  exact back_of w a b _ _ ha (sgn w (trim w a)) (sgn w (trim w b)) ((sgn w (trim w a)).tdiv (sgn w (trim w b))) ((sgn w (trim w a)).tmod (sgn w (trim w b))) (cong_sgn w _) (cong_sgn w _) (cong_tr w _) (cong_trim w _)
    (by rw [Int.mul_comm]; exact Int.mul_tdiv_add_tmod _ _) (trim_tr w _) (trim_trim w _)

theorem uns_narrow {z : Int} (h : 0 ≤ z ∧ z ≤ 4294967295) : uns z = z := by unfold uns; omega
theorem uns_tr (w : Bool) (z : Int) (h0 : 0 ≤ z) (h1 : w = false → z ≤ 4294967295) (h2 : z ≤ 18446744073709551615) : uns (tr w z) = z := by
  cases w
  · have := h1 rfl; rw [tr_false]; unfold uns; omega
  · rw [tr_true]; unfold uns wrap64; omega
theorem rem_less (w : Bool) (a b : Int) (hb : I64 b) (h : trim w b ≠ 0) : val 73 w (eval (opw 112 w) a b).1 b = 1 := by
  rw [remU w a b h]
  unfold val
  rw [eval_cmp w 73 _ b (by decide) (by decide), trim_tr]
  have hV : 0 < uns (trim w b) ∧ uns (trim w b) ≤ 18446744073709551615 ∧ (w = false → uns (trim w b) ≤ 4294967295) := by
    have hn := uns_ne (y := trim w b) h (trim_I hb).1 (trim_I hb).2
    have hp := uns_nonneg (trim w b)
    refine ⟨by omega, by unfold uns; omega, fun hw => ?_⟩
    subst hw
    have := trim_narrow b
    rw [uns_narrow this]; exact this.2
  obtain ⟨v0, v1, v2⟩ := hV
  have hm := Int.emod_nonneg (uns (trim w a)) (by omega : uns (trim w b) ≠ 0)
  have hl := Int.emod_lt_of_pos (uns (trim w a)) v0
  have e : uns (tr w (uns (trim w a) % uns (trim w b))) = uns (trim w a) % uns (trim w b) := by
    refine uns_tr w _ hm (fun hw => ?_) (by omega)
    have := v2 hw; omega
  have e2 : cmp 73 w (tr w (uns (trim w a) % uns (trim w b))) (trim w b) = true := by
    simp [cmp, e]; exact hl
  rw [e2]; rfl

/-! The law WordCompares -/
theorem val_cmp (w : Bool) (k a b : Int) (h0 : 69 ≤ k) (h1 : k ≤ 79) : val k w a b = tell (cmp k w (trim w a) (trim w b)) := by
  unfold val; rw [eval_cmp w k a b h0 h1]

theorem sgn_inj (w : Bool) (a b : Int) : sgn w (trim w a) = sgn w (trim w b) ↔ trim w a = trim w b := by
  cases w
  · have := trim_narrow a
    have := trim_narrow b
    simp only [sgn, wrap32, Bool.false_eq_true, if_false]; omega
  · simp [sgn]
theorem uns_inj (w : Bool) (a b : Int) (ha : I64 a) (hb : I64 b) : uns (trim w a) = uns (trim w b) ↔ trim w a = trim w b := by
  have := trim_I (w := w) ha
  have := trim_I (w := w) hb
  unfold uns I64 at *; omega

theorem compares_s (w : Bool) (a b : Int) : val 72 w a b + val 74 w a b + val 70 w a b = 1 ∧ val 76 w a b = 1 - val 74 w a b ∧ val 78 w a b = 1 - val 72 w a b ∧ val 74 w a b = val 72 w b a := by
  rw [val_cmp w 72 a b (by decide) (by decide), val_cmp w 74 a b (by decide) (by decide), val_cmp w 70 a b (by decide) (by decide), val_cmp w 76 a b (by decide) (by decide), val_cmp w 78 a b (by decide) (by decide), val_cmp w 72 b a (by decide) (by decide)]
  have hi := sgn_inj w a b
  simp only [cmp, tell]
  by_cases h1 : sgn w (trim w a) < sgn w (trim w b)
  · have h2 : ¬ sgn w (trim w b) < sgn w (trim w a) := by omega
    have h3 : ¬ trim w a = trim w b := fun h => by rw [h] at h1; omega
    simp [h1, h2, h3]
  · by_cases h2 : sgn w (trim w b) < sgn w (trim w a)
    · have h3 : ¬ trim w a = trim w b := fun h => by rw [h] at h2; omega
      simp [h1, h2, h3]
    · have h3 : trim w a = trim w b := hi.1 (by omega)
      simp [h3]
theorem compares_u (w : Bool) (a b : Int) (ha : I64 a) (hb : I64 b) : val 73 w a b + val 75 w a b + val 70 w a b = 1 ∧ val 77 w a b = 1 - val 75 w a b ∧ val 79 w a b = 1 - val 73 w a b ∧ val 75 w a b = val 73 w b a := by
  rw [val_cmp w 73 a b (by decide) (by decide), val_cmp w 75 a b (by decide) (by decide), val_cmp w 70 a b (by decide) (by decide), val_cmp w 77 a b (by decide) (by decide), val_cmp w 79 a b (by decide) (by decide), val_cmp w 73 b a (by decide) (by decide)]
  have hi := uns_inj w a b ha hb
  simp only [cmp, tell]
  by_cases h1 : uns (trim w a) < uns (trim w b)
  · have h2 : ¬ uns (trim w b) < uns (trim w a) := by omega
    have h3 : ¬ trim w a = trim w b := fun h => by rw [h] at h1; omega
    simp [h1, h2, h3]
  · by_cases h2 : uns (trim w b) < uns (trim w a)
    · have h3 : ¬ trim w a = trim w b := fun h => by rw [h] at h2; omega
      simp [h1, h2, h3]
    · have h3 : trim w a = trim w b := hi.1 (by omega)
      simp [h3]
theorem val_eq (w : Bool) (a b : Int) : val 70 w a b = if trim w a = trim w b then 1 else 0 := by
  rw [val_cmp w 70 a b (by decide) (by decide)]
  simp only [cmp, tell]
  by_cases h : trim w a = trim w b <;> simp [h]
theorem val_ne (w : Bool) (a b : Int) : val 71 w a b = 1 - val 70 w a b := by
  rw [val_eq, val_cmp w 71 a b (by decide) (by decide)]
  simp only [cmp, tell]
  by_cases h : trim w a = trim w b <;> simp [h]
theorem val_eqz (w : Bool) (a b : Int) : val 69 w a b = val 70 w a 0 := by
  have e0 : trim w 0 = 0 := by cases w <;> rfl
  rw [val_eq, val_cmp w 69 a b (by decide) (by decide), e0]
  simp only [cmp, tell]
  by_cases h : trim w a = 0 <;> simp [h]
theorem val_bit (w : Bool) (a b : Int) : val 70 w a b = 0 ∨ val 70 w a b = 1 := by
  rw [val_eq]; by_cases h : trim w a = trim w b <;> simp [h]

end Go.Proofs.Ytobopkkdjkjafaa.Word
