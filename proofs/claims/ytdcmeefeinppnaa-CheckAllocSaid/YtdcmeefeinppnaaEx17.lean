/- The examples of chapter 17's statements. -/
import Derived.Test.YtdcmeefeinppnaaAlloc
import Derived.Test.YtdcmeefeinppnaaEx16
namespace Go.Proofs.Ytdcmeefeinppnaa.Live
open Go.RowKit Go.Proofs.YtdcmeefeinppnaaW.PrintWords Go.Proofs.YtdcmeefeinppnaaW.PrintLast Go.Proofs.YtdcmeefeinppnaaW.PrintMore Go.Proofs.Ytdcmeefeinppnaa.Mem Go.Proofs.Ytdcmeefeinppnaa.Ir
open Uses (uses UsesOut infoInt)
open MapOf (get put)
set_option linter.unusedVariables false
set_option linter.unusedSimpArgs false

theorem tkM_congr {ms o o' : List Int} {k : Int} : ∀ n : Nat, (∀ i : Nat, i < n → rd o (i : Int) = rd o' (i : Int)) → tkM ms o k n = tkM ms o' k n := by
  intro n
  induction n with
  | zero => intro _; rfl
  | succ n ih =>
    intro h
    unfold tkM
    rw [ih (fun i hi => h i (by omega)), h n (by omega)]
theorem placeOf_congr {ms o o' : List Int} {cr : Int} {k : Nat} (h : ∀ i : Nat, i < k → rd o (i : Int) = rd o' (i : Int)) : placeOf ms o cr k = placeOf ms o' cr k := by
  unfold placeOf
  rw [tkM_congr k h]
theorem alL_upto {ms : List Int} {cr s : Int} {nn : Nat} : ∀ j, j ≤ nn → ∀ k : Nat, k < nn → rd (alL (nn := nn) ms cr (memF s nn j)) (k : Int) = if k < j ∧ inB s (k : Int) = true then placeOf ms (alL (nn := nn) ms cr (memF s nn j)) cr k else -1 := by
  intro j
  induction j with
  | zero =>
    intro _ k hk
    rw [memF_zero, if_neg (by omega)]
    simp [alL, rd, hk]
  | succ j ih =>
    intro hj k hk
    have h1 := ih (by omega) k hk
    cases hb : inB s (j : Int) with
    | false =>
      rw [memF_no (by omega) hb, h1]
      by_cases hkj : k = j
      · subst hkj; rw [if_neg (by omega), if_neg (by rw [hb]; simp)]
      · by_cases hc : k < j ∧ inB s (k : Int) = true
        · rw [if_pos hc, if_pos ⟨by omega, hc.2⟩]
        · rw [if_neg hc, if_neg (fun e => hc ⟨by omega, e.2⟩)]
    | true =>
      rw [memF_yes (by omega) hb, alL_snoc]
      obtain ⟨o, ho⟩ : ∃ o, alL (nn := nn) ms cr (memF s nn j) = o := ⟨_, rfl⟩
      have hol : o.length = nn := by rw [← ho]; exact alL_len _ _ _
      rw [ho] at h1 ⊢
      have hput : ∀ i : Nat, i < nn → rd (putAt ms cr o j) (i : Int) = if j = i then placeOf ms o cr j else rd o (i : Int) := fun i hi => rd_setN i (by omega)
      show rd (putAt ms cr o j) (k : Int) = if _ then placeOf ms (putAt ms cr o j) cr k else -1
      have hcg : ∀ q : Nat, q ≤ j → placeOf ms (putAt ms cr o j) cr q = placeOf ms o cr q := fun q hq => placeOf_congr (fun i hi => by rw [hput i (by omega), if_neg (by omega)])
      rw [hput k hk]
      by_cases hkj : j = k
      · subst hkj
        rw [if_pos rfl, if_pos ⟨by omega, hb⟩, hcg j (Nat.le_refl _)]
      · rw [if_neg hkj, h1]
        by_cases hc : k < j ∧ inB s (k : Int) = true
        · rw [if_pos hc, if_pos ⟨by omega, hc.2⟩, hcg k (by omega)]
        · rw [if_neg hc, if_neg (fun e => hc ⟨by omega, e.2⟩)]
theorem allocL_at {c : Cod} {ah af : List Int} {nn k : Nat} (hk : k < nn) : rd (allocL c ah af nn) (k : Int) = if inB (namedN c c.body.length) (k : Int) = true then placeOf (meetM c ah af nn) (allocL c ah af nn) (crossS c af c.body.length) k else -1 := by
  unfold allocL
  rw [alL_upto nn (Nat.le_refl _) k hk]
  by_cases h : inB (namedN c c.body.length) (k : Int) = true
  · rw [if_pos ⟨hk, h⟩, if_pos h]
  · rw [if_neg (fun e => h e.2), if_neg h]
theorem allocL_len (c : Cod) (ah af : List Int) (nn : Nat) : (allocL c ah af nn).length = nn := alL_len _ _ _
theorem rd_take {l : List Int} {k i : Nat} (hi : i < k) : rd (l.take k) (i : Int) = rd l (i : Int) := by
  unfold rd
  simp only [Int.toNat_natCast, List.getD_eq_getElem?_getD]
  rw [List.getElem?_take, if_pos hi]
def placesOf (c : Cod) (ah af : List Int) : List Int := if fits c = true then allocL c ah af c.cells.toNat else []
set_option maxHeartbeats 2000000 in
theorem alloc_calls (c : Cod) (A : Option Addr) (cap : Nat) (w : World) (hC : CodeAt w c A cap) {ah af : List Int} {er : Int} (hS : SetsIs c ah af er) (hE : er = 0 ∧ fits c = true ∧ LiveIs c ah af ∨ er = 4 ∧ fits c = false ∧ ah = [] ∧ af = []) :
    Calls Try.prog 26 #[.agg (c.vals A cap)] w (AllocOut w (placesOf c ah af) er) := by
  rcases hE with ⟨rfl, hf, hl⟩ | ⟨rfl, hf, rfl, rfl⟩
  · have hh := fits_head hf
    have h := callsIn_wide.1 (alloc_yes 4 (Nat.le_refl _) c A cap w hC hS hf hl c.cells.toNat (by omega))
    unfold placesOf
    rw [if_pos hf]
    exact h
  · have he : placesOf c [] [] = [] := by unfold placesOf; rw [if_neg (by rw [hf]; simp)]
    rw [he]
    have HP := Aside0.mk (Rf.init hC)
    have HX := Aside0.mk (cross_calls c A cap _ HP.out.code hS (.inr ⟨rfl, hf, rfl, rfl⟩))
    unfold CrossOut at HX
    rw [hf, if_neg (by simp)] at HX
    clear hC hf he
    go_enter Try.func26, Try.ntmps26
    go_wp2_with fail
    refine HX.out.mono ?_
    rintro e w1 ⟨rfl, hb⟩
    have HQ := Aside0.mk (HP.out.below hb)
    clear hb HX HP
    go_wp2_with fail
    go_ret2
    exact ⟨_, rfl, Kd.R_nil _ _ _ _ _, HQ.out.bel.alloc HQ.out.bel.size _⟩
theorem places_le {c : Cod} {ah af : List Int} : (placesOf c ah af).length ≤ 60 ∧ ∀ k ∈ placesOf c ah af, -1 ≤ k ∧ k ≤ 66 := by
  unfold placesOf
  by_cases hf : fits c = true
  · rw [if_pos hf]
    have hh := fits_head hf
    have hl := allocL_len c ah af c.cells.toNat
    refine ⟨by omega, fun k hk => ?_⟩
    obtain ⟨i, hi, rfl⟩ := List.getElem_of_mem hk
    have h : Bd (allocL c ah af c.cells.toNat) := alL_bd _ _ _
    have h2 := h i hi
    have e : rd (allocL c ah af c.cells.toNat) (i : Int) = (allocL c ah af c.cells.toNat)[i] := by unfold rd; simp [hi]
    rw [e] at h2
    omega
  · rw [if_neg hf]; exact ⟨by decide, fun k hk => by cases hk⟩
set_option maxHeartbeats 1000000 in
theorem numbers17_calls (A B : Option Addr) (ca cb : Nat) (xs ys : List Int) (w : World) (hx : (Kd.int .i64).C w A xs.length xs) (hy : (Kd.int .i64).C w B ys.length ys) (hn : xs.length ≤ 100000) (hm : ys.length ≤ 100000) :
    Calls Try.prog 28 #[.slice A xs.length ca, .slice B ys.length cb] w fun e w' => e = .returned (.bool (decide (xs = ys))) ∧ Drawn0 w w' := by
  by_cases hl : xs.length = ys.length
  · have HX := Aside0.mk hx
    have HY := Aside0.mk hy
    have HL := Aside0.mk hl
    have hlb : ((xs.length : Int) != (ys.length : Int)) = false := by simp [hl]
    clear hx hy hl
    go_enter Try.func28, Try.ntmps28
    go_wp2_with fail
    go_loopw [5] (fun iv wr => ∃ k : Nat, k ≤ xs.length ∧ iv = .int .i64 k ∧ Aside0 (xs.take k = ys.take k) ∧ Drawn0 w wr) (fun iv _ => xs.length - (intOf iv).toNat)
    case atStart => exact ⟨0, Nat.zero_le _, rfl, ⟨rfl⟩, Drawn0.refl _⟩
    case round =>
      obtain ⟨k, hk, rfl, HT, HD⟩ := hrel
      obtain ⟨nd, rfl⟩ := HD.out
      by_cases hlt : k < xs.length
      · have hlt2 : k < ys.length := by rw [← HL.out]; exact hlt
        obtain ⟨ax, e, hcx⟩ := Kd.at_int HX.out (k : Int) (by omega) (by omega)
        subst e
        obtain ⟨ay, e, hcy⟩ := Kd.at_int HY.out (k : Int) (by omega) (by omega)
        subst e
        rw [Int.toNat_natCast] at hcx hcy
        have h0 : (0 : Int) ≤ k := by omega
        have h1 : (k : Int) < xs.length := by omega
        have h2 : (k : Int) < ys.length := by omega
        by_cases he : rd xs k = rd ys k
        · have heb : (rd xs (k : Int) != rd ys (k : Int)) = false := by simp [he]
          have HTN := Aside0.mk (take_eq HT.out hlt hlt2 he)
          clear he
          go_wp2_with fail
          go_quiet (fail)
          go_wp2_with fail
          go_roundw
          case rel => exact ⟨k + 1, by omega, by go_num, HTN, by first | exact ⟨⟨_, rfl⟩⟩ | exact ⟨⟨_, by rw [World.drewN_drewN]⟩⟩⟩
          case measure => simp [intOf]; omega
        · have heb : (rd xs (k : Int) != rd ys (k : Int)) = true := by simp [he]
          have HN : Aside0 (decide (xs = ys) = false) := ⟨decide_eq_false (fun h => he (by rw [h]))⟩
          clear he
          go_wp2_with fail
          go_quiet (fail)
          go_wp2_with fail
          go_ret
          exact ⟨by rw [HN.out]; rfl, by first | exact ⟨⟨_, rfl⟩⟩ | exact ⟨⟨_, by rw [World.drewN_drewN]⟩⟩⟩
      · have hkk : k = xs.length := by omega
        have HN : Aside0 (decide (xs = ys) = true) := ⟨decide_eq_true (by have h := HT.out; rw [hkk, List.take_length, HL.out, List.take_length] at h; exact h)⟩
        clear hkk
        go_wp2_with fail
        go_ret
        exact ⟨by rw [HN.out]; rfl, ⟨⟨_, rfl⟩⟩⟩
  · have hlb : ((xs.length : Int) != (ys.length : Int)) = true := by simp; omega
    have hd : decide (xs = ys) = false := decide_eq_false (fun h => hl (by rw [h]))
    rw [hd]
    clear hl hd
    go_enter Try.func28, Try.ntmps28
    go_wp2_with fail
    go_ret
    exact ⟨rfl, Drawn0.refl _⟩
theorem numbers17_same (A B : Option Addr) (ca cb : Nat) (xs : List Int) (w : World) (hx : (Kd.int .i64).C w A xs.length xs) (hy : (Kd.int .i64).C w B xs.length xs) (hn : xs.length ≤ 100000) :
    Calls Try.prog 28 #[.slice A xs.length ca, .slice B xs.length cb] w fun e w' => e = .returned (.bool true) ∧ Drawn0 w w' := by
  have h := numbers17_calls A B ca cb xs xs w hx hy hn hn
  rw [decide_eq_true rfl] at h
  exact h
end Go.Proofs.Ytdcmeefeinppnaa.Live
namespace Go.Proofs.Ytdcmeefeinppnaa.Live
open Go.RowKit Go.Proofs.YtdcmeefeinppnaaW.PrintWords Go.Proofs.YtdcmeefeinppnaaW.PrintLast Go.Proofs.YtdcmeefeinppnaaW.PrintMore Go.Proofs.Ytdcmeefeinppnaa.Mem Go.Proofs.Ytdcmeefeinppnaa.Ir
open Uses (uses)
set_option linter.unusedVariables false
set_option linter.unusedSimpArgs false

def namedU (c : Cod) (us : List (List Int)) : Nat → Int
  | 0 => wrap64 (wrap64 (2 ^ c.params.toNat) - 1)
  | k + 1 => orD (bitL (us.getD k []) (namedU c us k)) (defs (atIr c.body k))
theorem named_tab {c : Cod} {us : List (List Int)} (h : usesTab c = us) : ∀ k, k ≤ c.body.length → namedN c k = namedU c us k := by
  intro k
  induction k with
  | zero => intro _; rfl
  | succ k ih =>
    intro hk
    unfold namedN namedU
    rw [ih (by omega)]
    subst h
    unfold usesTab
    rw [List.getD_eq_getElem?_getD, List.getElem?_map, List.getElem?_range (by omega)]
    rfl
def placesU (c : Cod) (us : List (List Int)) (ah af : List Int) : List Int := alL (nn := c.cells.toNat) (meetM c ah af c.cells.toNat) (crossS c af c.body.length) (memF (namedU c us c.body.length) c.cells.toNat c.cells.toNat)
theorem places_tab {c : Cod} {us : List (List Int)} (h : usesTab c = us) (hf : fits c = true) (ah af : List Int) : placesOf c ah af = placesU c us ah af := by
  unfold placesOf placesU allocL
  rw [if_pos hf, named_tab h _ (Nat.le_refl _)]
def c1 : Cod := ⟨1, 0, [⟨1, 0, 0, 0, 0, 0, 0⟩, ⟨14, -1, 0, 0, 0, 0, 0⟩, ⟨15, 0, 0, 0, 0, 0, 0⟩], 0⟩
theorem us1 : usesTab c1 = [[], [], [0]] := by
  show [Uses.uses 1 0 0 0, Uses.uses 14 0 0 0, Uses.uses 15 0 0 0] = _
  rw [uses_none 1 0 0 0 (by omega), uses_none 14 0 0 0 (by omega), uses_one 15 0 0 0 (by omega)]
theorem ws1 : waysOf c1 = [[1], [2], []] := by kernel_rfl
theorem fits1 : fits c1 = true := (fits_tab us1).trans (by kernel_rfl)
theorem sets1 : SetsIs c1 [0, 1, 1] [1, 1, 0] 0 :=
  ⟨fun _ => ⟨rfl, 3, by rw [ws1, iter_tab us1]; kernel_rfl⟩, fun h => by rw [fits1] at h; cases h⟩
theorem iter_agree {c : Cod} {ws : List (List Int)} : ∀ (k k' : Nat) (ah af : List Int) {x y : List Int × List Int}, iterS c ws k ah af = some x → iterS c ws k' ah af = some y → x = y := by
  intro k
  induction k with
  | zero => intro k' ah af x y h; cases h
  | succ k ih =>
    intro k' ah af x y h h'
    cases k' with
    | zero => cases h'
    | succ k' =>
      unfold iterS at h h'
      split at h
      · rename_i hc
        rw [if_pos hc] at h'
        exact ih _ _ _ h h'
      · rename_i hc
        rw [if_neg hc] at h'
        exact Option.some.inj (h.symm.trans h')
theorem live_of {c : Cod} {ah af : List Int} (hS : SetsIs c ah af 0) (hf : fits c = true) : LiveIs c ah af := by
  obtain ⟨ah', af', er, HS, hE⟩ := sets_ends c
  rcases hE with ⟨rfl, _, hl⟩ | ⟨_, h, _⟩
  · obtain ⟨_, k, hk⟩ := hS.yes hf
    obtain ⟨_, k', hk'⟩ := HS.yes hf
    have e := iter_agree _ _ _ _ hk hk'
    cases e
    exact hl
  · rw [hf] at h; cases h
theorem places0 : placesOf c0 [0, 1, 3, 1] [1, 3, 1, 0] = [0, 1] := by rw [places_tab us0 fits0]; kernel_rfl
theorem places1 : placesOf c1 [0, 1, 1] [1, 1, 0] = [6] := by rw [places_tab us1 fits1]; kernel_rfl
theorem alloc_c0 (A : Option Addr) (w : World) (hC : CodeAt w c0 A 4) : Calls Try.prog 26 #[.agg (c0.vals A 4)] w (AllocOut w [0, 1] 0) := by
  have h := alloc_calls c0 A 4 w hC sets0 (.inl ⟨rfl, fits0, live_of sets0 fits0⟩)
  rw [places0] at h
  exact h
theorem alloc_c1 (A : Option Addr) (w : World) (hC : CodeAt w c1 A 3) : Calls Try.prog 26 #[.agg (c1.vals A 3)] w (AllocOut w [6] 0) := by
  have h := alloc_calls c1 A 3 w hC sets1 (.inl ⟨rfl, fits1, live_of sets1 fits1⟩)
  rw [places1] at h
  exact h
theorem code0 (w : World) : CodeAt (w.alloc (.cells #[.int .i64 1, .int .i64 0, .int .i64 0, .int .i64 0, .int .i64 0, .int .i64 0, .int .i64 0, .int .i64 1, .int .i64 1, .int .i64 0, .int .i64 0, .int .i64 0, .int .i64 0, .int .i64 0, .int .i64 3, .int .i64 0, .int .i64 0, .int .i64 1, .int .i64 0, .int .i64 0, .int .i64 0, .int .i64 15, .int .i64 0, .int .i64 0, .int .i64 0, .int .i64 0, .int .i64 0, .int .i64 0] 38)) c0 (some ⟨w.heap.size, 0, none⟩) 4 :=
  ⟨C_block c0.body (by decide) _ rfl (blk_new w _), by decide, by decide⟩
theorem code1 (w : World) : CodeAt (w.alloc (.cells #[.int .i64 1, .int .i64 0, .int .i64 0, .int .i64 0, .int .i64 0, .int .i64 0, .int .i64 0, .int .i64 14, .int .i64 (-1), .int .i64 0, .int .i64 0, .int .i64 0, .int .i64 0, .int .i64 0, .int .i64 15, .int .i64 0, .int .i64 0, .int .i64 0, .int .i64 0, .int .i64 0, .int .i64 0] 38)) c1 (some ⟨w.heap.size, 0, none⟩) 3 :=
  ⟨C_block c1.body (by decide) _ rfl (blk_new w _), by decide, by decide⟩
structure S17 (w W : World) (A1 A2 : Option Addr) : Prop where
  bel : Below w.heap.size w W
  r1 : (Kd.int .i64).C W A1 ([0, 1] : List Int).length [0, 1]
  r2 : (Kd.int .i64).C W A2 ([6] : List Int).length [6]
theorem S17.below {w W W1 : World} {A1 A2 : Option Addr} (h : S17 w W A1 A2) (hb : Below W.heap.size W W1) : S17 w W1 A1 A2 := ⟨h.bel.trans (hb.mono h.bel.size), Kd.C_below h.r1 hb, Kd.C_below h.r2 hb⟩
theorem S17.alloc {w W : World} {A1 A2 : Option Addr} (h : S17 w W A1 A2) (o : Obj) : S17 w (W.alloc o) A1 A2 := h.below ((Below.refl _ _).alloc (Nat.le_refl _) o)
set_option maxHeartbeats 1000000 in
theorem examples17_calls (w : World) : Calls Try.prog 25 #[] w fun e w' => e = .returned (.bool true) ∧ Below w.heap.size w w' := by
  have H0 := Aside0.mk (code0 w)
  have HB := Aside0.mk (below_alloc (Below.refl w.heap.size w) (.cells #[.int .i64 1, .int .i64 0, .int .i64 0, .int .i64 0, .int .i64 0, .int .i64 0, .int .i64 0, .int .i64 1, .int .i64 1, .int .i64 0, .int .i64 0, .int .i64 0, .int .i64 0, .int .i64 0, .int .i64 3, .int .i64 0, .int .i64 0, .int .i64 1, .int .i64 0, .int .i64 0, .int .i64 0, .int .i64 15, .int .i64 0, .int .i64 0, .int .i64 0, .int .i64 0, .int .i64 0, .int .i64 0] 38))
  go_enter Try.func25, Try.ntmps25
  go_wp2_with fail
  refine (alloc_c0 (x0 w) _ H0.out).mono ?_
  rintro e w1 ⟨v1, rfl, hR1, hb1⟩
  obtain ⟨A1, k1, rfl, _, hC1⟩ := Kd.R_reads hR1
  have HB1 := Aside0.mk (HB.out.trans (hb1.mono HB.out.size))
  have HC1 := Aside0.mk hC1
  clear hR1 hb1 hC1 H0 HB
  go_wp2_with fail
  refine (alloc_c1 (x0 w1) _ (code1 w1)).mono ?_
  rintro e w2 ⟨v2, rfl, hR2, hb2⟩
  obtain ⟨A2, k2, rfl, _, hC2⟩ := Kd.R_reads hR2
  have HS := Aside0.mk (show S17 w w2 A1 A2 from ⟨(below_alloc HB1.out _).trans (hb2.mono (below_alloc HB1.out _).size), Kd.C_below (Kd.C_alloc HC1.out _) hb2, hC2⟩)
  clear hR2 hb2 hC2 HB1 HC1
  go_wp2_with fail
  refine (numbers17_same A1 (x0 w2) k1 2 [0, 1] _ (HS.out.alloc _).r1 (C_ints [0, 1] (by decide) (blk_new _ _)) (by decide)).mono ?_
  rintro e w3 ⟨rfl, hd3⟩
  have HS3 := Aside0.mk ((HS.out.alloc (.cells #[.int .i64 0, .int .i64 1] 3)).below (drawn_below hd3))
  clear HS hd3
  go_wp2_with fail
  refine (numbers17_same A2 (x0 w3) k2 1 [6] _ (HS3.out.alloc _).r2 (C_ints [6] (by decide) (blk_new _ _)) (by decide)).mono ?_
  rintro e w4 ⟨rfl, hd4⟩
  have HS4 := Aside0.mk ((HS3.out.alloc (.cells #[.int .i64 6] 3)).below (drawn_below hd4))
  clear HS3 hd4
  go_wp2_with fail
  refine (slots_calls A2 k2 [6] _ HS4.out.r2 (by decide) (by decide)).mono ?_
  rintro e w5 ⟨rfl, rfl⟩
  go_wp2_with fail
  refine (slots_calls A1 k1 [0, 1] _ HS4.out.r1 (by decide) (by decide)).mono ?_
  rintro e w6 ⟨rfl, rfl⟩
  go_wp2_with fail
  go_ret
  exact ⟨rfl, HS4.out.bel⟩
end Go.Proofs.Ytdcmeefeinppnaa.Live
