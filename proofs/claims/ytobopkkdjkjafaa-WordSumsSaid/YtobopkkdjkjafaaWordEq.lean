/- Package word and the document's own answer reckon the same: no program in sight. -/
import Derived.Test.YtobopkkdjkjafaaWordBits
namespace Go.Proofs.Ytobopkkdjkjafaa.Word
open Go.RowKit
set_option linter.unusedVariables false
set_option linter.unusedSimpArgs false

theorem rcmp_cmp (k : Int) (w : Bool) (x y : Int) (h0 : 0 ≤ k) (h1 : k ≤ 10) (hx : w = false → 0 ≤ x ∧ x ≤ 4294967295) (hy : w = false → 0 ≤ y ∧ y ≤ 4294967295) :
    rcmp k w x y = tell (cmp (k + 69) w x y) := by
  have hk : k = 0 ∨ k = 1 ∨ k = 2 ∨ k = 3 ∨ k = 4 ∨ k = 5 ∨ k = 6 ∨ k = 7 ∨ k = 8 ∨ k = 9 ∨ k = 10 := by omega
  have d : ∀ p q : Int, decide (p ≤ q) = !decide (q < p) := fun p q => by
    by_cases h : p ≤ q
    · have : ¬ q < p := by omega
      simp [h, this]
    · have : q < p := by omega
      simp [h, this]
  have sx := rsg_sgn w x hx
  have sy := rsg_sgn w y hy
  rcases hk with rfl | rfl | rfl | rfl | rfl | rfl | rfl | rfl | rfl | rfl | rfl
  all_goals simp [rcmp, cmp, sx, sy, d, bne]

theorem rdiv_divi (k : Int) (w : Bool) (x y : Int) (h0 : 0 ≤ k) (h1 : k ≤ 3) (hx : w = false → 0 ≤ x ∧ x ≤ 4294967295) (hy : w = false → 0 ≤ y ∧ y ≤ 4294967295) :
    rdiv k w x y = divi (k + 109) w x y := by
  have hk : k = 0 ∨ k = 1 ∨ k = 2 ∨ k = 3 := by omega
  have sx := rsg_sgn w x hx
  have sy := rsg_sgn w y hy
  rcases hk with rfl | rfl | rfl | rfl
  all_goals simp [rdiv, divi, sx, sy]

theorem tell_trim (w : Bool) (b : Bool) : trim w (tell b) = tell b := by cases w <;> cases b <;> rfl

theorem or_zero_u (x : Int) : B 64 (Go.bits .or .u64 x 0) = B 64 x := by
  rw [B64_oru]; have : B 64 0 = 0#64 := rfl
  rw [this]; simp
theorem or_zero_n (x : Int) : B 32 (Go.bits .or .u64 x 0) = B 32 x := by
  rw [B32_of, or_zero_u, ← B32_of]
theorem zero_or_n (x : Int) : B 32 (Go.bits .or .u64 x 0) = B 32 x := or_zero_n x

theorem shr_k (k : Nat) (x : BitVec k) : x >>> k = 0#k := by
  apply BitVec.eq_of_getLsbD_eq; intro i hi; simp

theorem rshi_n3 (x y : Int) (hx : 0 ≤ x ∧ x ≤ 4294967295) : B 32 (rshi 3 false x y) = (B 32 x).rotateLeft (y % 32).toNat := by
  have hs : (y % 32).toNat < 32 := by omega
  have e : rshi 3 false x y = wrap64 (Go.bits .or .u64 (uns (uns x * 2 ^ (y % 32).toNat)) (if y % 32 = 0 then 0 else uns x / 2 ^ (32 - y % 32).toNat)) := by simp [rshi, cnt]
  rw [e, B32_wrap, B32_or64, B32_uns, B_shl, B32_uns, BitVec.rotateLeft_def, Nat.mod_eq_of_lt hs]
  by_cases h : y % 32 = 0
  · rw [if_pos h, h]
    have e1 : B 32 0 = 0#32 := rfl
    have e2 : (B 32 x) >>> (32 - (0 : Int).toNat) = 0#32 := shr_k 32 _
    rw [e1, e2]
  · have h2 : (32 - y % 32).toNat = 32 - (y % 32).toNat := by omega
    rw [if_neg h, uns_narrow hx, B32_shr x hx, h2]
theorem rshi_n4 (x y : Int) (hx : 0 ≤ x ∧ x ≤ 4294967295) : B 32 (rshi 4 false x y) = (B 32 x).rotateLeft (-(y % 32) % 32).toNat := by
  have e : rshi 4 false x y = wrap64 (Go.bits .or .u64 (uns x / 2 ^ (y % 32).toNat) (if y % 32 = 0 then 0 else uns (uns x * 2 ^ (32 - y % 32).toNat))) := by simp [rshi, cnt]
  have hs : (-(y % 32) % 32).toNat < 32 := by omega
  rw [e, B32_wrap, B32_or64, uns_narrow hx, B32_shr x hx, BitVec.rotateLeft_def, Nat.mod_eq_of_lt hs]
  by_cases h : y % 32 = 0
  · rw [if_pos h, h]
    have e1 : B 32 0 = 0#32 := rfl
    have e0 : (-(0 : Int) % 32).toNat = 0 := rfl
    have e2 : (B 32 x) >>> (32 - 0) = 0#32 := shr_k 32 _
    rw [e0, e1, e2]; simp
  · have h2 : (-(y % 32) % 32).toNat = (32 - y % 32).toNat := by omega
    have h3 : 32 - (32 - y % 32).toNat = (y % 32).toNat := by omega
    rw [if_neg h, B32_uns, B_shl, h2, h3, BitVec.or_comm]
theorem rshi_w3 (x y : Int) : B 64 (rshi 3 true x y) = (B 64 x).rotateLeft (y % 64).toNat := by
  have hs : (y % 64).toNat < 64 := by omega
  have e : rshi 3 true x y = wrap64 (Go.bits .or .u64 (uns (uns x * 2 ^ (y % 64).toNat)) (if y % 64 = 0 then 0 else uns x / 2 ^ (64 - y % 64).toNat)) := by simp [rshi, cnt]
  rw [e, B64_wrap, B64_oru, B64_uns, B_shl, B64_uns, BitVec.rotateLeft_def, Nat.mod_eq_of_lt hs]
  by_cases h : y % 64 = 0
  · rw [if_pos h, h]
    have e1 : B 64 0 = 0#64 := rfl
    have e2 : (B 64 x) >>> (64 - (0 : Int).toNat) = 0#64 := shr_k 64 _
    rw [e1, e2]
  · have h2 : (64 - y % 64).toNat = 64 - (y % 64).toNat := by omega
    rw [if_neg h, B64_shr x, h2]
theorem rshi_w4 (x y : Int) : B 64 (rshi 4 true x y) = (B 64 x).rotateLeft (-(y % 64) % 64).toNat := by
  have e : rshi 4 true x y = wrap64 (Go.bits .or .u64 (uns x / 2 ^ (y % 64).toNat) (if y % 64 = 0 then 0 else uns (uns x * 2 ^ (64 - y % 64).toNat))) := by simp [rshi, cnt]
  have hs : (-(y % 64) % 64).toNat < 64 := by omega
  rw [e, B64_wrap, B64_oru, B64_shr x, BitVec.rotateLeft_def, Nat.mod_eq_of_lt hs]
  by_cases h : y % 64 = 0
  · rw [if_pos h, h]
    have e1 : B 64 0 = 0#64 := rfl
    have e0 : (-(0 : Int) % 64).toNat = 0 := rfl
    have e2 : (B 64 x) >>> (64 - 0) = 0#64 := shr_k 64 _
    rw [e0, e1, e2]; simp
  · have h2 : (-(y % 64) % 64).toNat = (64 - y % 64).toNat := by omega
    have h3 : 64 - (64 - y % 64).toNat = (y % 64).toNat := by omega
    rw [if_neg h, B64_uns, B_shl, B64_uns, h2, h3, BitVec.or_comm]

/-- The shifts: at their width the same. -/
theorem rshi_reck (k : Int) (w : Bool) (a b : Int) (h0 : 0 ≤ k) (h1 : k ≤ 4) (ha : I64 a) (hb : I64 b) :
    trim w (rshi k w (trim w a) (trim w b)) = trim w (reck (k + 116) w (trim w a) (trim w b)).1 := by
  have hk : k = 0 ∨ k = 1 ∨ k = 2 ∨ k = 3 ∨ k = 4 := by omega
  rcases hk with rfl | rfl | rfl | rfl | rfl
  · have e : rshi 0 w (trim w a) (trim w b) = wrap64 (uns (trim w a) * 2 ^ (cnt w (trim w b)).toNat) := by simp [rshi]
    rw [show (0 : Int) + 116 = 116 from by omega]
    rw [e, reck_116]
    exact tr_cong (cong_mul (cong_uns w _) (cong_refl w _))
  · have e : rshi 1 w (trim w a) (trim w b) = rsg w (trim w a) / 2 ^ (cnt w (trim w b)).toNat := by simp [rshi]
    have e2 : (reck 117 w (trim w a) (trim w b)).1 = sgn w (trim w a) / 2 ^ (cnt w (trim w b)).toNat := by simp [reck]
    rw [show (1 : Int) + 116 = 117 from by omega]
    rw [e, e2, rsg_sgn w _ (fun hw => by subst hw; exact trim_narrow a)]
  · have e : rshi 2 w (trim w a) (trim w b) = wrap64 (uns (trim w a) / 2 ^ (cnt w (trim w b)).toNat) := by simp [rshi]
    rw [show (2 : Int) + 116 = 118 from by omega]
    rw [e, reck_118]
  · rw [show (3 : Int) + 116 = 119 from by omega]
    cases w
    · refine B32_inj (trim_narrow _) (trim_narrow _) ?_
      have e2 : trim false a % 4294967296 = trim false a := by have := trim_narrow a; omega
      have e3 : trim false b % 32 % 32 = trim false b % 32 := by omega
      rw [B32_trim, B32_trim, rshi_n3 _ _ (trim_narrow a), reck_119n, B32_wrap, e2, B_rot32 _ _ (trim_narrow a), e3]
    · simp only [trim_true]
      have e3 : b % 64 % 64 = b % 64 := by omega
      refine B64_inj ?_ ?_ ?_
      · have e : rshi 3 true a b = wrap64 (Go.bits .or .u64 (uns (uns (a) * 2 ^ (b % 64).toNat)) (if b % 64 = 0 then 0 else uns (a) / 2 ^ (64 - b % 64).toNat)) := by simp [rshi, cnt]
        rw [e]; exact wrap64_I _
      · rw [reck_119w]; exact wrap64_I _
      · rw [rshi_w3, reck_119w, B64_wrap, B_rot64, e3]
  · rw [show (4 : Int) + 116 = 120 from by omega]
    cases w
    · refine B32_inj (trim_narrow _) (trim_narrow _) ?_
      have e2 : trim false a % 4294967296 = trim false a := by have := trim_narrow a; omega
      rw [B32_trim, B32_trim, rshi_n4 _ _ (trim_narrow a), reck_120n, B32_wrap, e2, B_rot32 _ _ (trim_narrow a)]
    · simp only [trim_true]
      refine B64_inj ?_ ?_ ?_
      · have e : rshi 4 true a b = wrap64 (Go.bits .or .u64 (uns (a) / 2 ^ (b % 64).toNat) (if b % 64 = 0 then 0 else uns (uns (a) * 2 ^ (64 - b % 64).toNat))) := by simp [rshi, cnt]
        rw [e]; exact wrap64_I _
      · rw [reck_120w]; exact wrap64_I _
      · rw [rshi_w4, reck_120w, B64_wrap, B_rot64]

def rmid (k : Int) (w : Bool) (x y : Int) : Int × Int :=
  if k = 0 then (wrap64 (x + y), 0)
  else if k = 1 then (wrap64 (x - y), 0)
  else if k = 2 then (wrap64 (x * y), 0)
  else if k ≤ 6 then rdiv (k - 3) w x y
  else if k = 7 then (Go.bits .and .i64 x y, 0)
  else if k = 8 then (Go.bits .or .i64 x y, 0)
  else if k = 9 then (Go.bits .xor .i64 x y, 0)
  else (rshi (k - 10) w x y, 0)

theorem rmid_reck (k : Int) (w : Bool) (a b : Int) (h0 : 0 ≤ k) (h1 : k ≤ 14) (ha : I64 a) (hb : I64 b) :
    (trim w (rmid k w (trim w a) (trim w b)).1, (rmid k w (trim w a) (trim w b)).2) = (trim w (reck (k + 106) w (trim w a) (trim w b)).1, (reck (k + 106) w (trim w a) (trim w b)).2) := by
  by_cases c0 : k = 0
  · subst c0; simp [rmid, reck]
  by_cases c1 : k = 1
  · subst c1; simp [rmid, reck]
  by_cases c2 : k = 2
  · subst c2; simp [rmid, reck]
  by_cases c6 : k ≤ 6
  · have e1 : rmid k w (trim w a) (trim w b) = rdiv (k - 3) w (trim w a) (trim w b) := by
      unfold rmid; rw [if_neg c0, if_neg c1, if_neg c2, if_pos c6]
    have e2 : reck (k + 106) w (trim w a) (trim w b) = divi (k + 106) w (trim w a) (trim w b) := by
      unfold reck
      rw [if_neg (by omega), if_neg (by omega), if_neg (by omega), if_neg (by omega), if_neg (by omega), if_neg (by omega), if_neg (by omega), if_neg (by omega), if_neg (by omega), if_neg (by omega), if_neg (by omega)]
    have e3 := rdiv_divi (k - 3) w (trim w a) (trim w b) (by omega) (by omega) (fun hw => by subst hw; exact trim_narrow a) (fun hw => by subst hw; exact trim_narrow b)
    have e4 : k - 3 + 109 = k + 106 := by omega
    rw [e4] at e3
    rw [e1, e2, e3]
  by_cases c7 : k = 7
  · subst c7; simp [rmid, reck]
  by_cases c8 : k = 8
  · subst c8; simp [rmid, reck]
  by_cases c9 : k = 9
  · subst c9; simp [rmid, reck]
  have e1 : rmid k w (trim w a) (trim w b) = (rshi (k - 10) w (trim w a) (trim w b), 0) := by
    unfold rmid; rw [if_neg c0, if_neg c1, if_neg c2, if_neg c6, if_neg c7, if_neg c8, if_neg c9]
  have e3 := rshi_reck (k - 10) w a b (by omega) (by omega) ha hb
  have e4 : k - 10 + 116 = k + 106 := by omega
  rw [e4] at e3
  have e5 : (reck (k + 106) w (trim w a) (trim w b)).2 = 0 := by
    have hk : k = 10 ∨ k = 11 ∨ k = 12 ∨ k = 13 ∨ k = 14 := by omega
    rcases hk with rfl | rfl | rfl | rfl | rfl <;> simp [reck]
  rw [e1, e5, ← e3]

theorem reval_eq (op a b : Int) (ha : I64 a) (hb : I64 b) : reval op a b = eval op a b := by
  cases hok : (arity op).2.2.2
  · simp [reval, eval, hok]
  · have hr := arity_ok hok
    by_cases c1 : op ≤ 79
    · have e : eval op a b = eval (opw op false) a b := by simp [opw]
      have hw : wideB op = false := by
        unfold wideB arity
        by_cases c : op = 69
        · rw [if_pos c]; rfl
        · rw [if_neg c, if_neg (by omega), if_pos (by omega)]; rfl
      rw [e, eval_cmp false op a b (by omega) c1]
      unfold reval
      rw [hok, hw, if_neg (by simp : ¬ (true = false))]
      have e3 := rcmp_cmp (op - 69) false (trim false a) (trim false b) (by omega) (by omega) (fun _ => trim_narrow a) (fun _ => trim_narrow b)
      have e4 : op - 69 + 69 = op := by omega
      rw [e4] at e3
      have c : 69 ≤ op ∧ op ≤ 79 := by omega
      simp only [c, and_self, if_true, e3, tell_trim]
    by_cases c2 : op ≤ 90
    · have hge : 80 ≤ op := by
        by_cases h : 80 ≤ op
        · exact h
        · omega
      have e : eval op a b = eval (opw (op - 11) true) a b := by
        have : opw (op - 11) true = op := by unfold opw; rw [if_pos rfl, if_neg (by omega)]; omega
        rw [this]
      have hw : wideB op = true := by
        unfold wideB arity
        by_cases c : op = 80
        · rw [if_neg (by omega), if_pos c]; rfl
        · rw [if_neg (by omega), if_neg c, if_neg (by omega), if_pos (by omega)]; rfl
      rw [e, eval_cmp true (op - 11) a b (by omega) (by omega)]
      unfold reval
      rw [hok, hw, if_neg (by simp : ¬ (true = false))]
      have e3 := rcmp_cmp (op - 80) true (trim true a) (trim true b) (by omega) (by omega) (fun h => by cases h) (fun h => by cases h)
      have e4 : op - 80 + 69 = op - 11 := by omega
      rw [e4] at e3
      have c : ¬ (69 ≤ op ∧ op ≤ 79) := by omega
      have c' : 80 ≤ op ∧ op ≤ 90 := by omega
      simp only [c, c', and_self, if_true, if_false, e3, tell_trim]
    by_cases c3 : op = 167 ∨ op = 173
    · have d1 : ¬ (69 ≤ op ∧ op ≤ 79) := by omega
      have d2 : ¬ (80 ≤ op ∧ op ≤ 90) := by omega
      unfold reval eval
      rw [hok, if_neg (by simp : ¬ (true = false)), if_neg (by simp : ¬ (true = false)), if_pos c3]
      simp only [d1, d2, if_false, c3, if_true]
    by_cases c4 : op = 172
    · subst c4
      have hw : wideB 172 = false := by simp [wideB, arity]
      unfold reval eval
      rw [hok, if_neg (by simp : ¬ (true = false)), if_neg (by simp : ¬ (true = false)), if_neg (by decide : ¬ ((172 : Int) = 167 ∨ (172 : Int) = 173)), if_pos rfl, hw]
      have e := rsg_sgn false (trim false a) (fun _ => trim_narrow a)
      simp [e]
    have ha3 : (106 ≤ op ∧ op ≤ 120) ∨ (124 ≤ op ∧ op ≤ 138) := by
      unfold arity at hok
      rw [if_neg (by omega), if_neg (by omega)] at hok
      by_cases h : (70 ≤ op ∧ op ≤ 79) ∨ (106 ≤ op ∧ op ≤ 120)
      · omega
      · rw [if_neg h, if_neg (by omega)] at hok
        by_cases h2 : 124 ≤ op ∧ op ≤ 138
        · omega
        · rw [if_neg h2, if_neg (by omega), if_neg (by omega)] at hok
          simp at hok
    have d1 : ¬ (69 ≤ op ∧ op ≤ 79) := by omega
    have d2 : ¬ (80 ≤ op ∧ op ≤ 90) := by omega
    rcases ha3 with h | h
    · have e : eval op a b = eval (opw op false) a b := by simp [opw]
      have har : arity op = (2, 0, 0, true) := by
        unfold arity; rw [if_neg (by omega), if_neg (by omega), if_pos (by omega)]
      have hw : wideB op = false := by simp [wideB, har]
      have ht : toB op = false := by simp [toB, har]
      rw [e, eval_reck false op a b (by omega) (by omega)]
      have e2 := rmid_reck (op - 106) false a b (by omega) (by omega) ha hb
      have e4 : op - 106 + 106 = op := by omega
      rw [e4] at e2
      rw [← e2]
      unfold reval
      rw [hok, hw, ht, if_neg (by simp : ¬ (true = false))]
      simp only [d1, d2, c3, c4, if_false, Bool.false_eq_true]
      rfl
    · have e : eval op a b = eval (opw (op - 18) true) a b := by
        have : opw (op - 18) true = op := by unfold opw; rw [if_pos rfl, if_pos (by omega)]; omega
        rw [this]
      have har : arity op = (2, 1, 1, true) := by
        unfold arity; rw [if_neg (by omega), if_neg (by omega), if_neg (by omega), if_neg (by omega), if_pos (by omega)]
      have hw : wideB op = true := by simp [wideB, har]
      have ht : toB op = true := by simp [toB, har]
      rw [e, eval_reck true (op - 18) a b (by omega) (by omega)]
      have e2 := rmid_reck (op - 124) true a b (by omega) (by omega) ha hb
      have e4 : op - 124 + 106 = op - 18 := by omega
      rw [e4] at e2
      rw [← e2]
      unfold reval
      rw [hok, hw, ht, if_neg (by simp : ¬ (true = false))]
      simp only [d1, d2, c3, c4, if_false, if_true]
      rfl

end Go.Proofs.Ytobopkkdjkjafaa.Word
