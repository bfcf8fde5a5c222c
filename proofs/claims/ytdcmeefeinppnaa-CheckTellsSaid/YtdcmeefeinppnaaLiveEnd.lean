/- live.sets comes to an end: what is live only grows; what it comes to is what it reckons of itself. -/
import Derived.Test.YtdcmeefeinppnaaL16a
namespace Go.Proofs.Ytdcmeefeinppnaa.Live
open Go.RowKit Go.Proofs.YtdcmeefeinppnaaW.PrintWords Go.Proofs.YtdcmeefeinppnaaW.PrintLast Go.Proofs.YtdcmeefeinppnaaW.PrintMore Go.Proofs.Ytdcmeefeinppnaa.Ir
open Uses (uses)
set_option linter.unusedVariables false
set_option linter.unusedSimpArgs false

def bv (x : Int) : BitVec 64 := BitVec.ofInt 64 x
theorem bv_wrap64 (z : Int) : bv (wrap64 z) = bv z := by
  apply BitVec.eq_of_toNat_eq; unfold bv; rw [BitVec.toNat_ofInt, BitVec.toNat_ofInt]; unfold wrap64; omega
theorem bv_toNat (z : BitVec 64) : bv ((z.toNat : Nat) : Int) = z := by unfold bv; rw [BitVec.ofInt_natCast]; simp
theorem bv_or (x y : Int) : bv (Go.bits .or .i64 x y) = bv x ||| bv y := by
  show bv (IntKind.i64.wrap ((BitVec.ofInt 64 x ||| BitVec.ofInt 64 y).toNat : Int)) = _
  rw [IntWalk.i64_left, bv_wrap64, bv_toNat]; rfl
theorem bv_andNot (x y : Int) : bv (Go.bits .andNot .i64 x y) = bv x &&& ~~~ bv y := by
  show bv (IntKind.i64.wrap ((BitVec.ofInt 64 x &&& ~~~ BitVec.ofInt 64 y).toNat : Int)) = _
  rw [IntWalk.i64_left, bv_wrap64, bv_toNat]; rfl
/-- a number of 64 bits, as Go has it -/
def Can (x : Int) : Prop := -9223372036854775808 ≤ x ∧ x ≤ 9223372036854775807
theorem can_bits (op : BinOp) (x y : Int) : Can (Go.bits op .i64 x y) := by
  unfold Go.bits Can
  simp only
  rw [IntKind.wrap_i64]
  omega
theorem bv_inj {x y : Int} (hx : Can x) (hy : Can y) (h : bv x = bv y) : x = y := by
  have h' := congrArg BitVec.toNat h
  unfold bv at h'; rw [BitVec.toNat_ofInt, BitVec.toNat_ofInt] at h'; unfold Can at *; omega
/-- all that is in x is in y -/
def Sub (x y : Int) : Prop := ∀ i, (bv x).getLsbD i = true → (bv y).getLsbD i = true
theorem Sub.refl (x : Int) : Sub x x := fun _ h => h
theorem Sub.trans {x y z : Int} (h : Sub x y) (k : Sub y z) : Sub x z := fun i hi => k i (h i hi)
theorem Sub.or {x x' y y' : Int} (h : Sub x x') (k : Sub y y') : Sub (Go.bits .or .i64 x y) (Go.bits .or .i64 x' y') := by
  intro i hi
  rw [bv_or, BitVec.getLsbD_or, Bool.or_eq_true] at hi ⊢
  exact hi.imp (h i) (k i)
theorem Sub.clr {x x' : Int} (h : Sub x x') (d : Int) : Sub (clr x d) (clr x' d) := by
  unfold Live.clr
  split
  · intro i hi
    rw [bv_andNot, BitVec.getLsbD_and, Bool.and_eq_true] at hi ⊢
    exact ⟨h i hi.1, hi.2⟩
  · exact h
theorem Sub.orL {ah ah' : List Int} (h : ∀ k, Sub (rd ah k) (rd ah' k)) (l : List Int) : ∀ {s s' : Int}, Sub s s' → Sub (orL ah l s) (orL ah' l s') := by
  induction l with
  | nil => intro s s' hs; exact hs
  | cons k l ih => intro s s' hs; exact ih (Sub.or hs (h k))
theorem Sub.bitL (l : List Int) : ∀ {s s' : Int}, Sub s s' → Sub (bitL l s) (bitL l s') := by
  induction l with
  | nil => intro s s' hs; exact hs
  | cons k l ih => intro s s' hs; exact ih (Sub.or hs (Sub.refl _))
theorem Sub.step {c : Cod} {ws : List (List Int)} {ah ah' : List Int} (h : ∀ k, Sub (rd ah k) (rd ah' k)) (j : Nat) : Sub (stepT c ws ah j) (stepT c ws ah' j) :=
  Sub.bitL _ (Sub.clr (Sub.orL h _ (Sub.refl _)) _)
theorem toNat_le_of_sub {x y : Int} (h : Sub x y) : (bv x).toNat ≤ (bv y).toNat := by
  have e : bv x &&& bv y = bv x := by
    apply BitVec.eq_of_getLsbD_eq
    intro i hi
    rw [BitVec.getLsbD_and]
    cases hb : (bv x).getLsbD i with
    | false => rfl
    | true => rw [h i hb]; rfl
  rw [← e, BitVec.toNat_and]
  exact Nat.and_le_right
theorem toNat_lt_of_sub {x y : Int} (h : Sub x y) (hx : Can x) (hy : Can y) (hne : x ≠ y) : (bv x).toNat < (bv y).toNat := by
  refine Nat.lt_of_le_of_ne (toNat_le_of_sub h) (fun e => hne (bv_inj hx hy (BitVec.eq_of_toNat_eq e)))

def sumL (l : List Int) : Nat := (l.map fun x => (bv x).toNat).sum
theorem sumL_set (l : List Int) (v : Int) : ∀ j, j < l.length → sumL (l.set j v) + (bv (rd l j)).toNat = sumL l + (bv v).toNat := by
  induction l with
  | nil => intro j hj; simp at hj
  | cons x l ih =>
    intro j hj
    cases j with
    | zero => simp [sumL, rd]; omega
    | succ j =>
      have h := ih j (by simpa using hj)
      have e : rd (x :: l) ((j + 1 : Nat) : Int) = rd l j := by unfold rd; simp
      rw [e]
      simp only [List.set_cons_succ, sumL, List.map_cons, List.sum_cons] at h ⊢
      omega
theorem sumL_le (l : List Int) : sumL l ≤ l.length * 2 ^ 64 := by
  induction l with
  | nil => simp [sumL]
  | cons x l ih =>
    have := (bv x).isLt
    simp only [sumL, List.map_cons, List.sum_cons, List.length_cons] at ih ⊢
    rw [Nat.add_mul]
    omega
theorem rd_set (l : List Int) (j : Nat) (v : Int) (k : Int) (hj : j < l.length) : rd (l.set j v) k = if k.toNat = j then v else rd l k := by
  unfold rd
  rw [List.getD_eq_getElem?_getD, List.getElem?_set, List.getD_eq_getElem?_getD]
  by_cases h : k.toNat = j
  · rw [if_pos h.symm, if_pos h, if_pos (by omega)]; rfl
  · rw [if_neg (fun e => h e.symm), if_neg h]

theorem can_stepS (ws : List (List Int)) (ah : List Int) (j : Nat) : Can (stepS ws ah j) := by
  have key : ∀ (l : List Int) (s : Int), Can s → Can (orL ah l s) := by
    intro l
    induction l with
    | nil => intro s h; exact h
    | cons k l ih => intro s h; exact ih _ (can_bits _ _ _)
  exact key _ _ (by unfold Can; omega)
theorem can_stepT (c : Cod) (ws : List (List Int)) (ah : List Int) (j : Nat) : Can (stepT c ws ah j) := by
  have key : ∀ (l : List Int) (s : Int), Can s → Can (bitL l s) := by
    intro l
    induction l with
    | nil => intro s h; exact h
    | cons k l ih => intro s h; exact ih _ (can_bits _ _ _)
  refine key _ _ ?_
  unfold clr
  split
  · exact can_bits _ _ _
  · exact can_stepS _ _ _

/-- what a walk leaves -/
structure Grow (c : Cod) (ws : List (List Int)) (n : Nat) (ah : List Int) : Prop where
  len : ah.length = n
  can : ∀ k, Can (rd ah k)
  inf : ∀ j, j < n → Sub (rd ah j) (stepT c ws ah j)
theorem Grow.step {c : Cod} {ws : List (List Int)} {n : Nat} {ah : List Int} (h : Grow c ws n ah) {j : Nat} (hj : j < n) : Grow c ws n (ah.set j (stepT c ws ah j)) ∧ sumL ah ≤ sumL (ah.set j (stepT c ws ah j)) ∧ (stepT c ws ah j ≠ rd ah j → sumL ah < sumL (ah.set j (stepT c ws ah j))) := by
  have hl : j < ah.length := by rw [h.len]; exact hj
  have hsub : ∀ k, Sub (rd ah k) (rd (ah.set j (stepT c ws ah j)) k) := by
    intro k
    rw [rd_set _ _ _ _ hl]
    split
    · rename_i hk
      have hh := h.inf j hj
      by_cases hk0 : 0 ≤ k
      · have : k = (j : Int) := by omega
        rw [this]; exact hh
      · have hj0 : j = 0 := by omega
        subst hj0
        have : rd ah k = rd ah ((0 : Nat) : Int) := by unfold rd; rw [show k.toNat = 0 by omega]; rfl
        rw [this]; exact hh
    · exact Sub.refl _
  have hset := sumL_set ah (stepT c ws ah j) j hl
  refine ⟨⟨by rw [List.length_set]; exact h.len, fun k => ?_, fun i hi => ?_⟩, ?_, fun hne => ?_⟩
  · rw [rd_set _ _ _ _ hl]
    split
    · exact can_stepT _ _ _ _
    · exact h.can k
  · rw [rd_set _ _ _ _ hl]
    split
    · rename_i hij
      have : i = j := by simpa using hij
      rw [this]
      exact Sub.step hsub j
    · exact (h.inf i hi).trans (Sub.step hsub i)
  · have := toNat_le_of_sub (h.inf j hj); omega
  · have := toNat_lt_of_sub (h.inf j hj) (h.can j) (can_stepT _ _ _ _) (fun e => hne e.symm); omega

/-- one walk: from j on downwards -/
theorem pass_grows {c : Cod} {ws : List (List Int)} {n : Nat} : ∀ (j : Nat) (ah af : List Int) (ch : Bool), j ≤ n → Grow c ws n ah → af.length = n →
    Grow c ws n (passN c ws j ah af ch).1 ∧ (passN c ws j ah af ch).2.1.length = n ∧ sumL ah ≤ sumL (passN c ws j ah af ch).1 ∧ ((passN c ws j ah af ch).2.2 = true → ch = true ∨ sumL ah < sumL (passN c ws j ah af ch).1) ∧
    ((passN c ws j ah af ch).2.2 = false → ch = false ∧ (passN c ws j ah af ch).1 = ah ∧ (∀ i, i < j → rd ah i = stepT c ws ah i) ∧ (∀ i, i < j → rd (passN c ws j ah af ch).2.1 i = stepS ws ah i) ∧ ∀ i : Nat, j ≤ i → rd (passN c ws j ah af ch).2.1 i = rd af i) := by
  intro j
  induction j with
  | zero => intro ah af ch _ h hl; exact ⟨h, hl, Nat.le_refl _, fun hc => .inl hc, fun hc => ⟨hc, rfl, fun i hi => by omega, fun i hi => by omega, fun i _ => rfl⟩⟩
  | succ j ih =>
    intro ah af ch hj h hl
    obtain ⟨g1, g2, g3⟩ := h.step (show j < n by omega)
    obtain ⟨i1, i2, i3, i4, i5⟩ := ih (ah.set j (stepT c ws ah j)) (af.set j (stepS ws ah j)) (ch || stepT c ws ah j != rd ah j) (by omega) g1 (by rw [List.length_set]; exact hl)
    refine ⟨i1, i2, Nat.le_trans g2 i3, fun hc => ?_, fun hc => ?_⟩
    · rcases i4 hc with h1 | h1
      · rw [Bool.or_eq_true] at h1
        rcases h1 with h1 | h1
        · exact .inl h1
        · exact .inr (Nat.lt_of_lt_of_le (g3 (by simpa using h1)) i3)
      · exact .inr (Nat.lt_of_le_of_lt g2 h1)
    · obtain ⟨h1, h2, h3, h4, h5⟩ := i5 hc
      rw [Bool.or_eq_false_iff] at h1
      have he : stepT c ws ah j = rd ah j := by simpa using h1.2
      have hset : ah.set j (stepT c ws ah j) = ah := by
        rw [he]
        apply List.ext_getElem?
        intro i
        rw [List.getElem?_set]
        split
        · rename_i hij
          subst hij
          split
          · rename_i hlt
            unfold rd
            rw [Int.toNat_natCast, List.getD_eq_getElem?_getD, List.getElem?_eq_getElem hlt]; rfl
          · rename_i hlt
            rw [List.getElem?_eq_none (by omega)]
        · rfl
      rw [hset] at h3
      refine ⟨h1.1, h2.trans hset, fun i hi => ?_, fun i hi => ?_, fun i hi => ?_⟩
      · rcases Nat.lt_succ_iff_lt_or_eq.1 hi with hi | rfl
        · exact h3 i hi
        · exact he.symm
      · rcases Nat.lt_succ_iff_lt_or_eq.1 hi with hi | rfl
        · exact (h4 i hi).trans (by rw [hset])
        · show rd (passN c ws i _ _ _).2.1 i = _
          rw [h5 i (Nat.le_refl _), rd_set _ _ _ _ (by omega), if_pos (by simp)]
      · show rd (passN c ws j _ _ _).2.1 i = _
        rw [h5 i (by omega), rd_set _ _ _ _ (by omega), if_neg (by simp; omega)]

/-- it comes to an end, with what it reckons of itself -/
theorem iter_ends {c : Cod} {ws : List (List Int)} : ∀ (m : Nat) (ah af : List Int), c.body.length * 2 ^ 64 - sumL ah ≤ m → Grow c ws c.body.length ah → af.length = c.body.length →
    ∃ k rh rf, iterS c ws k ah af = some (rh, rf) ∧ rh.length = c.body.length ∧ rf.length = c.body.length ∧ (∀ i, i < c.body.length → rd rh i = stepT c ws rh i) ∧ ∀ i, i < c.body.length → rd rf i = stepS ws rh i := by
  intro m
  induction m with
  | zero =>
    intro ah af hm h hl
    obtain ⟨g1, g2, g3, g4, g5⟩ := pass_grows (ws := ws) c.body.length ah af false (Nat.le_refl _) h hl
    have hle := sumL_le (passN c ws c.body.length ah af false).1
    rw [g1.len] at hle
    by_cases hc : (passN c ws c.body.length ah af false).2.2 = true
    · rcases g4 hc with h1 | h1
      · cases h1
      · omega
    · replace hc : (passN c ws c.body.length ah af false).2.2 = false := by simpa using hc
      obtain ⟨_, h2, h3, h4, _⟩ := g5 hc
      exact ⟨1, _, _, by unfold iterS; rw [if_neg (by rw [hc]; simp)], g1.len, g2, by rw [h2]; exact h3, by rw [h2]; exact h4⟩
  | succ m ih =>
    intro ah af hm h hl
    obtain ⟨g1, g2, g3, g4, g5⟩ := pass_grows (ws := ws) c.body.length ah af false (Nat.le_refl _) h hl
    by_cases hc : (passN c ws c.body.length ah af false).2.2 = true
    · rcases g4 hc with h1 | h1
      · cases h1
      · obtain ⟨k, rh, rf, hk, hr⟩ := ih _ (passN c ws c.body.length ah af false).2.1 (by omega) g1 g2
        exact ⟨k + 1, rh, rf, by unfold iterS; rw [if_pos hc]; exact hk, hr⟩
    · replace hc : (passN c ws c.body.length ah af false).2.2 = false := by simpa using hc
      obtain ⟨_, h2, h3, h4, _⟩ := g5 hc
      exact ⟨1, _, _, by unfold iterS; rw [if_neg (by rw [hc]; simp)], g1.len, g2, by rw [h2]; exact h3, by rw [h2]; exact h4⟩
theorem rd_zeros (n : Nat) (k : Int) : rd (List.replicate n 0) k = 0 := by
  unfold rd
  rw [List.getD_eq_getElem?_getD, List.getElem?_replicate]
  split <;> rfl
theorem grow_zero (c : Cod) (ws : List (List Int)) (n : Nat) : Grow c ws n (List.replicate n 0) where
  len := by simp
  can := fun k => by rw [rd_zeros]; unfold Can; omega
  inf := fun j _ => by
    rw [rd_zeros]
    intro i hi
    have : bv 0 = 0 := rfl
    rw [this] at hi
    simp at hi
/-- what live.sets comes to, of any code -/
structure LiveIs (c : Cod) (ah af : List Int) : Prop where
  la : ah.length = c.body.length
  lf : af.length = c.body.length
  fa : ∀ i, i < c.body.length → rd ah i = stepT c (waysOf c) ah i
  ff : ∀ i, i < c.body.length → rd af i = stepS (waysOf c) ah i
theorem sets_ends (c : Cod) : ∃ ah af er, SetsIs c ah af er ∧ (er = 0 ∧ fits c = true ∧ LiveIs c ah af ∨ er = 4 ∧ fits c = false ∧ ah = [] ∧ af = []) := by
  by_cases hf : fits c = true
  · obtain ⟨k, rh, rf, hk, h1, h2, h3, h4⟩ := iter_ends (c := c) (ws := waysOf c) _ (List.replicate c.body.length 0) (List.replicate c.body.length 0) (Nat.le_refl _) (grow_zero _ _ _) (by simp)
    exact ⟨rh, rf, 0, ⟨fun _ => ⟨rfl, k, hk⟩, (fun h => by rw [hf] at h; cases h)⟩, .inl ⟨rfl, hf, h1, h2, h3, h4⟩⟩
  · replace hf : fits c = false := by simpa using hf
    exact ⟨[], [], 4, ⟨(fun h => by rw [hf] at h; cases h), fun _ => ⟨rfl, rfl, rfl⟩⟩, .inr ⟨rfl, hf, rfl, rfl⟩⟩
end Go.Proofs.Ytdcmeefeinppnaa.Live
namespace Go.Proofs.Ytdcmeefeinppnaa.Live
open Go.RowKit Go.Proofs.YtdcmeefeinppnaaW.PrintWords Go.Proofs.YtdcmeefeinppnaaW.PrintLast Go.Proofs.YtdcmeefeinppnaaW.PrintMore Go.Proofs.Ytdcmeefeinppnaa.Mem Go.Proofs.Ytdcmeefeinppnaa.Ir
set_option linter.unusedVariables false
set_option linter.unusedSimpArgs false
/-- the code's box -/
structure Rf (w W : World) (c : Cod) (A : Option Addr) (cap : Nat) : Prop where
  bel : Below w.heap.size w W
  sz : w.heap.size + 1 ≤ W.heap.size
  box : W.heap[w.heap.size]? = some (.cells (c.vals A cap) 24 (0, 0))
  code : CodeAt W c A cap
theorem Rf.below {w W W1 : World} {c : Cod} {A : Option Addr} {cap : Nat} (h : Rf w W c A cap) (hb : Below W.heap.size W W1) : Rf w W1 c A cap :=
  ⟨h.bel.trans (hb.mono (by have := h.sz; omega)), Nat.le_trans h.sz hb.size, blk_below h.box hb, h.code.below hb⟩
theorem Rf.alloc {w W : World} {c : Cod} {A : Option Addr} {cap : Nat} (h : Rf w W c A cap) (o : Obj) : Rf w (W.alloc o) c A cap := h.below ((Below.refl _ _).alloc (Nat.le_refl _) o)
theorem Rf.init {w : World} {c : Cod} {A : Option Addr} {cap : Nat} (h : CodeAt w c A cap) : Rf w (w.alloc (.cells (c.vals A cap) 24)) c A cap :=
  ⟨(Below.refl _ _).alloc (Nat.le_refl _) _, by simp, blk_new _ _, h.below ((Below.refl _ _).alloc (Nat.le_refl _) _)⟩
end Go.Proofs.Ytdcmeefeinppnaa.Live
