/- alloc.Alloc: code with one call more behind all else has the same places; code without calls, of few cells, needs no slots. -/
import Derived.Test.YtdcmeefeinppnaaApartPure
import Derived.Test.YtdcmeefeinppnaaInsPure
namespace Go.Proofs.Ytdcmeefeinppnaa.Live
open Go.RowKit Go.Proofs.YtdcmeefeinppnaaW.PrintWords Go.Proofs.YtdcmeefeinppnaaW.PrintLast Go.Proofs.YtdcmeefeinppnaaW.PrintMore Go.Proofs.Ytdcmeefeinppnaa.Mem Go.Proofs.Ytdcmeefeinppnaa.Ir
open Uses (uses sorted)
open MapOf (get put)
set_option linter.unusedVariables false
set_option linter.unusedSimpArgs false

/-- the call that is laid behind -/
def xCall : Ir := ⟨14, -1, 0, 0, 0, 0, 0⟩
def more (c : Cod) : Cod := ⟨c.cells, c.params, c.body ++ [xCall], c.labels⟩
theorem more_len (c : Cod) : (more c).body.length = c.body.length + 1 := by simp [more]
theorem more_at {c : Cod} {j : Nat} (h : j < c.body.length) : atIr (more c).body j = atIr c.body j := by
  unfold atIr more
  simp [List.getD_eq_getElem?_getD, List.getElem?_append, h]
theorem more_end (c : Cod) : atIr (more c).body c.body.length = xCall := by
  unfold atIr more
  simp [List.getD_eq_getElem?_getD]
theorem more_labs {c : Cod} : ∀ k, k ≤ c.body.length → labs (more c).body k = labs c.body k := by
  intro k
  induction k with
  | zero => intro _; rfl
  | succ k ih =>
    intro hk
    unfold labs
    rw [more_at (by omega), ih (by omega)]
theorem more_labs1 (c : Cod) : labs (more c).body (more c).body.length = labs c.body c.body.length := by
  rw [more_len]
  show (if (atIr (more c).body c.body.length).op = 9 then _ else labs (more c).body c.body.length) = _
  rw [more_end, if_neg (by decide), more_labs _ (Nat.le_refl _)]
theorem more_cnt {c : Cod} (n : Int) : ∀ k, k ≤ c.body.length → cnt (more c).body n k = cnt c.body n k := by
  intro k
  induction k with
  | zero => intro _; rfl
  | succ k ih =>
    intro hk
    unfold cnt
    rw [more_at (by omega), ih (by omega)]
theorem more_cnt1 (c : Cod) (n : Int) : cnt (more c).body n (more c).body.length = cnt c.body n c.body.length := by
  rw [more_len]
  show cnt (more c).body n c.body.length + (if (atIr (more c).body c.body.length).op = 9 ∧ _ then 1 else 0) = _
  rw [more_end, if_neg (fun h => absurd h.1 (by decide)), more_cnt _ _ (Nat.le_refl _)]; rfl
theorem uses_call : uses xCall.op xCall.a xCall.b xCall.c = [] := uses_none _ _ _ _ (by decide)
theorem defs_call : defs xCall = -1 := by decide
theorem more_fits {c : Cod} (hf : fits c = true) (hl : c.body.length ≤ 999) : fits (more c) = true := by
  have hh := fits_head hf
  unfold fits
  rw [Bool.and_eq_true, List.all_eq_true]
  refine ⟨?_, fun x hx => ?_⟩
  · have e : (more c).body.length = c.body.length + 1 := more_len c
    unfold headOk
    rw [e, show (more c).cells = c.cells from rfl, show (more c).params = c.params from rfl]
    simp only [Bool.not_eq_true', Bool.or_eq_false_iff, decide_eq_false_iff_not]
    omega
  · rcases List.mem_append.1 (show x ∈ c.body ++ [xCall] from hx) with h | h
    · obtain ⟨i, hi, rfl⟩ := List.getElem_of_mem h
      have h1 := fits_ir hf i hi
      have e : atIr c.body i = c.body[i] := by unfold atIr; simp [hi]
      rw [e] at h1
      unfold okIr at h1 ⊢
      rw [more_cnt1]
      exact h1
    · rw [List.mem_singleton.1 h]
      unfold okIr
      rw [uses_call, defs_call]
      have h2 : decide ((-1 : Int) ≥ (more c).cells) = false := decide_eq_false (by show ¬ (-1 : Int) ≥ c.cells; omega)
      rw [h2]
      rfl

/-! ### the sets -/
theorem orL_bit (ah : List Int) (i : Nat) : ∀ (l : List Int) (s : Int), (bv (orL ah l s)).getLsbD i = true ↔ (bv s).getLsbD i = true ∨ ∃ k ∈ l, (bv (rd ah k)).getLsbD i = true := by
  intro l
  induction l with
  | nil => intro s; simp [orL]
  | cons k l ih =>
    intro s
    show (bv (orL ah l (Go.bits .or .i64 s (rd ah k)))).getLsbD i = true ↔ _
    rw [ih, bv_or, BitVec.getLsbD_or, Bool.or_eq_true]
    simp only [List.mem_cons, exists_eq_or_imp]
    constructor
    · rintro ((h | h) | h)
      · exact .inl h
      · exact .inr (.inl h)
      · exact .inr (.inr h)
    · rintro (h | h | h)
      · exact .inl (.inl h)
      · exact .inl (.inr h)
      · exact .inr h
theorem can_orL (ah l : List Int) : ∀ s, Can s → Can (orL ah l s) := by
  induction l with
  | nil => intro s h; exact h
  | cons k l ih => intro s h; exact ih _ (can_bits _ _ _)
theorem eq_of_bits {x y : Int} (hx : Can x) (hy : Can y) (h : ∀ i, (bv x).getLsbD i = true ↔ (bv y).getLsbD i = true) : x = y :=
  bv_inj hx hy (BitVec.eq_of_getLsbD_eq (fun i _ => by rw [Bool.eq_iff_iff]; exact h i))
theorem can0 : Can 0 := by unfold Can; omega
theorem mem_next {c : Cod} {p : List (Int × Int)} {j : Nat} {x : Int} : x ∈ nextOf c p j ↔ x ∈ rawNext c p j := by
  unfold nextOf
  rw [Ins.compact_mem]
  unfold sorted
  rw [List.mem_mergeSort]
theorem mem_addTo {c : Cod} {xs : List Int} {k x : Int} {ok : Bool} : x ∈ addTo c xs k ok ↔ x ∈ xs ∨ (ok = true ∧ k < c.body.length ∧ x = k) := by
  unfold addTo
  split
  · rename_i h
    simp only [List.mem_append, List.mem_singleton]
    constructor
    · rintro (h1 | h1)
      · exact .inl h1
      · exact .inr ⟨h.1, h.2, h1⟩
    · rintro (h1 | h1)
      · exact .inl h1
      · exact .inr h1.2.2
  · rename_i h
    constructor
    · exact .inl
    · rintro (h1 | h1)
      · exact h1
      · exact absurd ⟨h1.1, h1.2.1⟩ h
/-- what may come behind, by one rule -/
def goes (c : Cod) (p : List (Int × Int)) (j : Nat) (x : Int) : Prop :=
  x < c.body.length ∧ (((atIr c.body j).op = 10 ∨ (atIr c.body j).op = 11 ∨ (atIr c.body j).op = 12) ∧ (get p (atIr c.body j).n).isSome = true ∧ x = (get p (atIr c.body j).n).getD 0 ∨
    ¬ ((atIr c.body j).op = 15 ∨ (atIr c.body j).op = 16 ∨ (atIr c.body j).op = 10) ∧ x = (j : Int) + 1)
theorem mem_goes {c : Cod} {p : List (Int × Int)} {j : Nat} {x : Int} : x ∈ nextOf c p j ↔ goes c p j x := by
  rw [mem_next]
  unfold rawNext goes
  simp only
  by_cases h1 : (atIr c.body j).op = 15 ∨ (atIr c.body j).op = 16
  · rw [if_pos h1]
    constructor
    · intro h; cases h
    · rintro ⟨_, h | h⟩ <;> omega
  · rw [if_neg h1]
    by_cases h2 : (atIr c.body j).op = 10
    · rw [if_pos h2, mem_addTo]
      constructor
      · rintro (h | ⟨a, b, rfl⟩)
        · cases h
        · exact ⟨b, .inl ⟨.inl h2, a, rfl⟩⟩
      · rintro ⟨a, ⟨_, b, rfl⟩ | ⟨b, _⟩⟩
        · exact .inr ⟨b, a, rfl⟩
        · omega
    · rw [if_neg h2]
      by_cases h3 : (atIr c.body j).op = 11 ∨ (atIr c.body j).op = 12
      · rw [if_pos h3, mem_addTo, mem_addTo]
        constructor
        · rintro ((h | ⟨a, b, rfl⟩) | ⟨a, b, rfl⟩)
          · cases h
          · exact ⟨b, .inl ⟨by omega, a, rfl⟩⟩
          · exact ⟨b, .inr ⟨by omega, rfl⟩⟩
        · rintro ⟨a, ⟨_, b, rfl⟩ | ⟨_, rfl⟩⟩
          · exact .inl (.inr ⟨b, a, rfl⟩)
          · exact .inr ⟨rfl, a, rfl⟩
      · rw [if_neg h3, mem_addTo]
        constructor
        · rintro (h | ⟨a, b, rfl⟩)
          · cases h
          · exact ⟨b, .inr ⟨by omega, rfl⟩⟩
        · rintro ⟨a, ⟨b, _⟩ | ⟨_, rfl⟩⟩
          · omega
          · exact .inr ⟨rfl, a, rfl⟩
theorem rd_snoc {ah : List Int} {x : Int} (h : x.toNat < ah.length) : rd (ah ++ [0]) x = rd ah x := by
  unfold rd
  simp [List.getD_eq_getElem?_getD, List.getElem?_append, h]
theorem rd_end (ah : List Int) : rd (ah ++ [0]) (ah.length : Int) = 0 := by unfold rd; simp
theorem more_stepS {c : Cod} {ah : List Int} (hl : ah.length = c.body.length) {j : Nat} (hj : j < c.body.length) : stepS (waysOf (more c)) (ah ++ [0]) j = stepS (waysOf c) ah j := by
  unfold stepS
  refine eq_of_bits (can_orL _ _ _ can0) (can_orL _ _ _ can0) (fun i => ?_)
  rw [orL_bit, orL_bit, ways_at hj, ways_at (show j < (more c).body.length by rw [more_len]; omega), more_labs1]
  refine or_congr Iff.rfl ⟨?_, ?_⟩
  · rintro ⟨k, hk, hb⟩
    rw [mem_goes] at hk
    obtain ⟨h1, h2⟩ := hk
    rw [more_at hj] at h2
    rw [more_len] at h1
    by_cases hkn : k = c.body.length
    · rw [hkn, ← hl, rd_end] at hb
      exact absurd hb (by show ¬ (bv 0).getLsbD i = true; unfold bv; simp)
    · refine ⟨k, mem_goes.2 ⟨by omega, h2⟩, ?_⟩
      rwa [rd_snoc (by omega)] at hb
  · rintro ⟨k, hk, hb⟩
    rw [mem_goes] at hk
    obtain ⟨h1, h2⟩ := hk
    refine ⟨k, mem_goes.2 ⟨by rw [more_len]; omega, by rw [more_at hj]; exact h2⟩, ?_⟩
    rwa [rd_snoc (by omega)]
theorem more_stepT {c : Cod} {ah : List Int} (hl : ah.length = c.body.length) {j : Nat} (hj : j < c.body.length) : stepT (more c) (waysOf (more c)) (ah ++ [0]) j = stepT c (waysOf c) ah j := by
  unfold stepT
  rw [more_at hj, more_stepS hl hj]
theorem more_stepS1 (c : Cod) (ah : List Int) : stepS (waysOf (more c)) ah c.body.length = 0 := by
  unfold stepS
  have h0 : nextOf (more c) (labs (more c).body (more c).body.length).1 c.body.length = [] := by
    apply List.eq_nil_iff_forall_not_mem.2
    intro x hx
    rw [mem_goes] at hx
    obtain ⟨h1, h2⟩ := hx
    rw [more_end] at h2
    rw [more_len] at h1
    rcases h2 with ⟨h2, _⟩ | ⟨_, rfl⟩
    · exact absurd h2 (by decide)
    · omega
  rw [ways_at (by rw [more_len]; omega), h0]; rfl
theorem more_stepT1 (c : Cod) (ah : List Int) : stepT (more c) (waysOf (more c)) ah c.body.length = 0 := by
  unfold stepT
  rw [more_end, more_stepS1]
  simp only [uses_call, defs_call]
  rfl
theorem set_snoc {ah : List Int} {j : Nat} (h : j < ah.length) (v : Int) : (ah ++ [0]).set j v = ah.set j v ++ [0] := by rw [List.set_append_left _ _ h]
theorem more_pass {c : Cod} : ∀ (j : Nat) (ah af : List Int) (ch : Bool), j ≤ c.body.length → ah.length = c.body.length → af.length = c.body.length →
    passN (more c) (waysOf (more c)) j (ah ++ [0]) (af ++ [0]) ch = ((passN c (waysOf c) j ah af ch).1 ++ [0], (passN c (waysOf c) j ah af ch).2.1 ++ [0], (passN c (waysOf c) j ah af ch).2.2) := by
  intro j
  induction j with
  | zero => intro ah af ch _ _ _; rfl
  | succ j ih =>
    intro ah af ch hj h1 h2
    unfold passN
    rw [more_stepT h1 (by omega), more_stepS h1 (by omega), set_snoc (by omega), set_snoc (by omega), rd_snoc (by rw [Int.toNat_natCast]; omega)]
    exact ih _ _ _ (by omega) (by rw [List.length_set]; exact h1) (by rw [List.length_set]; exact h2)
theorem more_pass1 {c : Cod} (ah af : List Int) (ch : Bool) (h1 : ah.length = c.body.length) (h2 : af.length = c.body.length) :
    passN (more c) (waysOf (more c)) (more c).body.length (ah ++ [0]) (af ++ [0]) ch = ((passN c (waysOf c) c.body.length ah af ch).1 ++ [0], (passN c (waysOf c) c.body.length ah af ch).2.1 ++ [0], (passN c (waysOf c) c.body.length ah af ch).2.2) := by
  rw [more_len]
  show passN (more c) (waysOf (more c)) c.body.length ((ah ++ [0]).set c.body.length (stepT (more c) (waysOf (more c)) (ah ++ [0]) c.body.length)) ((af ++ [0]).set c.body.length (stepS (waysOf (more c)) (ah ++ [0]) c.body.length)) (ch || stepT (more c) (waysOf (more c)) (ah ++ [0]) c.body.length != rd (ah ++ [0]) (c.body.length : Int)) = _
  rw [more_stepT1, more_stepS1]
  have e1 : (ah ++ [0]).set c.body.length 0 = ah ++ [0] := by rw [← h1]; simp
  have e2 : (af ++ [0]).set c.body.length 0 = af ++ [0] := by rw [← h2]; simp
  have e3 : rd (ah ++ [0]) (c.body.length : Int) = 0 := by rw [← h1]; exact rd_end ah
  rw [e1, e2, e3]
  simp only [bne_self_eq_false, Bool.or_false]
  exact more_pass _ ah af ch (Nat.le_refl _) h1 h2
theorem pass_len {c : Cod} {ws : List (List Int)} : ∀ (j : Nat) (ah af : List Int) (ch : Bool), (passN c ws j ah af ch).1.length = ah.length ∧ (passN c ws j ah af ch).2.1.length = af.length := by
  intro j
  induction j with
  | zero => intro ah af ch; exact ⟨rfl, rfl⟩
  | succ j ih =>
    intro ah af ch
    unfold passN
    obtain ⟨h1, h2⟩ := ih (ah.set j (stepT c ws ah j)) (af.set j (stepS ws ah j)) (ch || stepT c ws ah j != rd ah j)
    exact ⟨h1.trans (by simp), h2.trans (by simp)⟩
theorem more_iter {c : Cod} : ∀ (k : Nat) (ah af : List Int), ah.length = c.body.length → af.length = c.body.length →
    iterS (more c) (waysOf (more c)) k (ah ++ [0]) (af ++ [0]) = (iterS c (waysOf c) k ah af).map (fun x => (x.1 ++ [0], x.2 ++ [0])) := by
  intro k
  induction k with
  | zero => intro ah af _ _; rfl
  | succ k ih =>
    intro ah af h1 h2
    have hp := pass_len (c := c) (ws := waysOf c) c.body.length ah af false
    unfold iterS
    rw [more_pass1 ah af false h1 h2]
    simp only
    split
    · exact ih _ _ (hp.1.trans h1) (hp.2.trans h2)
    · rfl
theorem more_sets {c : Cod} {ah af : List Int} (hS : SetsIs c ah af 0) (hf : fits c = true) (hl : c.body.length ≤ 999) : SetsIs (more c) (ah ++ [0]) (af ++ [0]) 0 := by
  refine ⟨fun _ => ⟨rfl, ?_⟩, fun h => by rw [more_fits hf hl] at h; cases h⟩
  obtain ⟨_, k, hk⟩ := hS.yes hf
  refine ⟨k, ?_⟩
  rw [more_len, List.replicate_succ', more_iter k _ _ (by simp) (by simp), hk]
  rfl

/-! ### the places -/
theorem can_cross (c : Cod) (af : List Int) : ∀ k, Can (crossS c af k) := by
  intro k
  induction k with
  | zero => exact can0
  | succ k ih =>
    unfold crossS
    split
    · exact can_bits _ _ _
    · exact ih
theorem or_zero_right {x : Int} (h : Can x) : Go.bits .or .i64 x 0 = x :=
  eq_of_bits (can_bits _ _ _) h (fun i => by
    rw [bv_or, BitVec.getLsbD_or]
    have : (bv 0).getLsbD i = false := by unfold bv; simp
    rw [this, Bool.or_false])
theorem more_cross {c : Cod} {af : List Int} (hl : af.length = c.body.length) : ∀ k, k ≤ c.body.length → crossS (more c) (af ++ [0]) k = crossS c af k := by
  intro k
  induction k with
  | zero => intro _; rfl
  | succ k ih =>
    intro hk
    unfold crossS
    rw [more_at (by omega), ih (by omega), rd_snoc (by rw [Int.toNat_natCast]; omega)]
theorem more_cross1 {c : Cod} {af : List Int} (hl : af.length = c.body.length) : crossS (more c) (af ++ [0]) (more c).body.length = crossS c af c.body.length := by
  rw [more_len]
  show (if (atIr (more c).body c.body.length).op = 14 then Go.bits .or .i64 (crossS (more c) (af ++ [0]) c.body.length) (clr (rd (af ++ [0]) (c.body.length : Int)) (atIr (more c).body c.body.length).dst) else _) = _
  rw [more_end, if_pos (by decide), more_cross hl _ (Nat.le_refl _)]
  have e : rd (af ++ [0]) (c.body.length : Int) = 0 := by rw [← hl]; exact rd_end af
  rw [e]
  show Go.bits .or .i64 (crossS c af c.body.length) (clr 0 (-1)) = _
  rw [show clr 0 (-1) = 0 from if_neg (by decide), or_zero_right (can_cross _ _ _)]
theorem more_named {c : Cod} : ∀ k, k ≤ c.body.length → namedN (more c) k = namedN c k := by
  intro k
  induction k with
  | zero => intro _; rfl
  | succ k ih =>
    intro hk
    unfold namedN
    rw [more_at (by omega), ih (by omega)]
theorem more_named1 (c : Cod) : namedN (more c) (more c).body.length = namedN c c.body.length := by
  rw [more_len]
  show orD (bitL (uses (atIr (more c).body c.body.length).op (atIr (more c).body c.body.length).a (atIr (more c).body c.body.length).b (atIr (more c).body c.body.length).c) (namedN (more c) c.body.length)) (defs (atIr (more c).body c.body.length)) = _
  rw [more_end, uses_call, defs_call, more_named _ (Nat.le_refl _)]
  rfl
theorem more_dM {c : Cod} {af : List Int} {nn : Nat} (hl : af.length = c.body.length) : ∀ k, k ≤ c.body.length → dM (more c) (af ++ [0]) nn k = dM c af nn k := by
  intro k
  induction k with
  | zero => intro _; rfl
  | succ k ih =>
    intro hk
    unfold dM
    rw [more_at (by omega), ih (by omega), rd_snoc (by rw [Int.toNat_natCast]; omega)]
theorem more_dM1 {c : Cod} {af : List Int} {nn : Nat} (hl : af.length = c.body.length) : dM (more c) (af ++ [0]) nn (more c).body.length = dM c af nn c.body.length := by
  rw [more_len]
  show (if 0 ≤ defs (atIr (more c).body c.body.length) then _ else dM (more c) (af ++ [0]) nn c.body.length) = _
  rw [more_end, if_neg (by decide), more_dM hl _ (Nat.le_refl _)]
theorem more_pM {c : Cod} {ah : List Int} {nn : Nat} {m0 : List Int} : ∀ k, k ≤ 60 → pM (more c) (ah ++ [0]) nn m0 k = pM c ah nn m0 k := by
  intro k
  induction k with
  | zero => intro _; rfl
  | succ k ih =>
    intro hk
    unfold pM
    rw [ih (by omega)]
    show (if 0 < (ah ++ [0]).length ∧ inB (rd (ah ++ [0]) 0) (k : Int) = true then noteM nn (k : Int) (parS c) (pM c ah nn m0 k) else pM c ah nn m0 k) = _
    cases ah with
    | nil =>
      rw [if_neg, if_neg (by simp)]
      rintro ⟨_, h⟩
      have : rd (([] : List Int) ++ [0]) 0 = 0 := rfl
      rw [this, inB_zero] at h
      cases h
    | cons x ah =>
      have : rd ((x :: ah) ++ [0]) 0 = rd (x :: ah) 0 := rfl
      rw [this]
      simp
theorem more_places {c : Cod} {ah af : List Int} (hf : fits c = true) (hl : c.body.length ≤ 999) (hla : af.length = c.body.length) : placesOf (more c) (ah ++ [0]) (af ++ [0]) = placesOf c ah af := by
  have hh := fits_head hf
  unfold placesOf
  rw [if_pos hf, if_pos (more_fits hf hl)]
  show allocL (more c) (ah ++ [0]) (af ++ [0]) c.cells.toNat = _
  unfold allocL meetM
  rw [more_cross1 hla, more_named1, more_dM1 hla]
  show alL (pM (more c) (ah ++ [0]) c.cells.toNat (dM c af c.cells.toNat c.body.length) c.params.toNat) _ _ = _
  rw [more_pM _ (by omega)]

/-! ### few cells -/
theorem pigeon : ∀ (k : Nat) (p : Nat) (f : Nat → Int), (∀ q : Nat, q < p → ∃ i : Nat, i < k ∧ f i = (q : Int)) → p ≤ k := by
  intro k
  induction k with
  | zero =>
    intro p f h
    rcases Nat.eq_zero_or_pos p with h0 | h0
    · omega
    · obtain ⟨i, hi, _⟩ := h 0 h0; omega
  | succ k ih =>
    intro p f h
    rcases Nat.eq_zero_or_pos p with h0 | h0
    · omega
    have := ih (p - 1) (fun i => if f i > f k then f i - 1 else f i) (fun q hq => by
      by_cases hv : (q : Int) < f k
      · obtain ⟨i, hi, e⟩ := h q (by omega)
        have hik : i < k := by
          rcases Nat.lt_or_ge i k with h1 | h1
          · exact h1
          · obtain rfl : i = k := by omega
            omega
        exact ⟨i, hik, by show (if f i > f k then f i - 1 else f i) = _; rw [if_neg (by omega)]; exact e⟩
      · obtain ⟨i, hi, e⟩ := h (q + 1) (by omega)
        have hik : i < k := by
          rcases Nat.lt_or_ge i k with h1 | h1
          · exact h1
          · obtain rfl : i = k := by omega
            omega
        exact ⟨i, hik, by show (if f i > f k then f i - 1 else f i) = _; rw [if_pos (by omega)]; omega⟩)
    omega
theorem freeF_all {M : List (Int × Bool)} : ∀ (f : Nat) (p q : Int), p ≤ q → q < freeF M f p → (get M q).getD false = true := by
  intro f
  induction f with
  | zero => intro p q h1 h2; exact absurd h2 (by show ¬ q < p; omega)
  | succ f ih =>
    intro p q h1 h2
    unfold freeF at h2
    split at h2
    · rename_i ht
      by_cases e : q = p
      · rw [e]; exact ht
      · exact ih (p + 1) q (by omega) h2
    · omega
theorem placeOf_few {ms out : List Int} {k : Nat} : placeOf ms out 0 k ≤ (k : Int) := by
  unfold placeOf
  rw [if_neg (by rw [inB_zero]; simp)]
  obtain ⟨r, hr⟩ : ∃ r : Nat, freeF (tkM ms out (k : Int) k) 100 0 = (r : Int) := ⟨(freeF (tkM ms out (k : Int) k) 100 0).toNat, by have := freeF_ge (M := tkM ms out (k : Int) k) 100 0; omega⟩
  rw [hr]
  have := pigeon k r (fun i => rd out (i : Int)) (fun q hq => by
    obtain ⟨i, h1, _, h3⟩ := (tkM_get k).1 (freeF_all (M := tkM ms out (k : Int) k) 100 0 (q : Int) (by omega) (by rw [hr]; omega))
    exact ⟨i, h1, h3⟩)
  omega
theorem cross_none {c : Cod} {af : List Int} : ∀ k, (∀ i : Nat, i < k → (atIr c.body i).op ≠ 14) → crossS c af k = 0 := by
  intro k
  induction k with
  | zero => intro _; rfl
  | succ k ih =>
    intro h
    unfold crossS
    rw [if_neg (h k (by omega)), ih (fun i hi => h i (by omega))]
theorem slots_none {l : List Int} : ∀ k, (∀ i : Nat, i < k → rd l (i : Int) ≤ 5) → slotsF l k = 0 := by
  intro k
  induction k with
  | zero => intro _; rfl
  | succ k ih =>
    intro h
    unfold slotsF
    have := h k (by omega)
    rw [ih (fun i hi => h i (by omega)), if_neg (by omega)]
theorem few {c : Cod} {ah af : List Int} (hf : fits c = true) (h6 : c.cells ≤ 6) (hn : ∀ i : Nat, i < c.body.length → (atIr c.body i).op ≠ 14) : slotsF (placesOf c ah af) (placesOf c ah af).length = 0 := by
  have hh := fits_head hf
  unfold placesOf
  rw [if_pos hf]
  refine slots_none _ (fun i hi => ?_)
  rw [allocL_len] at hi
  rw [allocL_at hi, cross_none _ hn]
  split
  · have := placeOf_few (ms := meetM c ah af c.cells.toNat) (out := allocL c ah af c.cells.toNat) (k := i)
    omega
  · omega
end Go.Proofs.Ytdcmeefeinppnaa.Live
