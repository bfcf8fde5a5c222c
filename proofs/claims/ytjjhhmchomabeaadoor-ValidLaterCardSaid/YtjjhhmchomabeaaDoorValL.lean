/- What the law's own functions answer: told, one, examples. -/
import Derived.Test.YtjjhhmchomabeaaDoorValJ
namespace Go.Proofs.YtjjhhmchomabeaaDoor.Valid
open Go.RowKit Go.Proofs.YtjjhhmchomabeaaDoorW.PrintWords Go.Proofs.YtjjhhmchomabeaaDoorW.PrintLast Go.Proofs.YtjjhhmchomabeaaDoor.Mem Go.Proofs.YtjjhhmchomabeaaDoor.Nest
set_option linter.unusedVariables false
set_option linter.unusedSimpArgs false

/-- a module of one function that takes and brings nothing -/
def oneM (l : List T3) : Md := ⟨[([], [])], [], [(0, false, [], l)], 0, 0, [], []⟩
/-- a function's heights, or what is wrong -/
def heightsT (M : Md) (f : Int) : Except (Int × Int) (List Int) := match validT M with
  | some x => .error x
  | none => if f < 0 ∨ (M.funcs.length : Int) ≤ f then .error (3, 0) else oneT M f.toNat
theorem ex1 : validT (oneM [(65, 1, 0), (11, 0, 0)]) = some (3, 1) := by kernel_rfl
theorem ex2 : validT (oneM [(65, 1, 0), (240, 0, 0), (4, 0, 0), (11, 0, 0), (11, 0, 0)]) = some (3, 2) := by kernel_rfl
theorem ex3 : heightsT (oneM [(0, 0, 0), (106, 0, 0), (26, 0, 0), (11, 0, 0)]) 0 = .ok [0, -1, -1, -1] := by kernel_rfl
theorem ex4 : validT (oneM [(11, 0, 0)]) = none := by kernel_rfl
theorem num_loop (l0 l1 : List Int) (hl : l0.length = l1.length) (hm : l0.length ≤ 9223372036854775807) (r : Nat) : ∀ i, i + r = l0.length → YtjjhhmchomabeaaDoor.PValidCallee.oubliettelaw07_numbers.l0 (r + 1) l0 l1 (i : Int) = some (decide (l0.drop i = l1.drop i)) := by
  induction r with
  | zero =>
    intro i hi
    unfold YtjjhhmchomabeaaDoor.PValidCallee.oubliettelaw07_numbers.l0
    rw [if_neg (by omega)]
    have h1 : l0.drop i = [] := List.drop_eq_nil_of_le (by omega)
    have h2 : l1.drop i = [] := List.drop_eq_nil_of_le (by omega)
    rw [h1, h2]
    rfl
  | succ r ih =>
    intro i hi
    unfold YtjjhhmchomabeaaDoor.PValidCallee.oubliettelaw07_numbers.l0
    rw [if_pos (by omega), if_pos (by omega), if_pos (by omega)]
    have ha : i < l0.length := by omega
    have hb : i < l1.length := by omega
    have e0 : rd l0 (i : Int) = l0[i] := by unfold rd; rw [Int.toNat_natCast, List.getD_eq_getElem?_getD, List.getElem?_eq_getElem ha]; rfl
    have e1 : rd l1 (i : Int) = l1[i] := by unfold rd; rw [Int.toNat_natCast, List.getD_eq_getElem?_getD, List.getElem?_eq_getElem hb]; rfl
    rw [List.drop_eq_getElem_cons ha, List.drop_eq_getElem_cons hb, e0, e1]
    have hw : wrap64 ((i : Int) + 1) = ((i + 1 : Nat) : Int) := by
      have : wrap64 ((i : Int) + 1) = (i : Int) + 1 := by unfold wrap64; omega
      rw [this]
      omega
    by_cases h : l0[i] = l1[i]
    · rw [if_pos h, hw, ih (i + 1) (by omega)]
      refine congrArg some (decide_eq_decide.2 ?_)
      rw [List.cons.injEq]
      exact ⟨fun e => ⟨h, e⟩, fun e => e.2⟩
    · rw [if_neg h]
      refine congrArg some (decide_eq_false ?_).symm
      rw [List.cons.injEq]
      exact fun e => h e.1
theorem numbers_calls (A0 : Option Addr) (c0 : Nat) (l0 : List Int) (A1 : Option Addr) (c1 : Nat) (l1 : List Int) (w : World) (hr0 : (Kd.int .i64).C w A0 l0.length l0) (hc0 : l0.length ≤ c0) (hr1 : (Kd.int .i64).C w A1 l1.length l1) (hc1 : l1.length ≤ c1) :
    Calls Tryd.prog 13 #[.slice A0 l0.length c0, .slice A1 l1.length c1] w fun e w' => e = .returned (.bool (decide (l0 = l1))) ∧ Drawn0 w w' := by
  refine YtjjhhmchomabeaaDoor.PValidCallee.oubliettelaw07_numbers.calls (l0.length + 1) A0 c0 l0 A1 c1 l1 _ w hr0 hc0 hr1 hc1 ?_
  unfold YtjjhhmchomabeaaDoor.PValidCallee.oubliettelaw07_numbers.f
  by_cases h : l0.length = l1.length
  · rw [if_pos (by omega)]
    exact num_loop l0 l1 h hr0.2.1 l0.length 0 (by omega)
  · rw [if_neg (by omega)]
    have : l0 ≠ l1 := fun e => h (by rw [e])
    simp [this]
/-- errors.errorType is laid -/
def Laid (w : World) : Prop := w.cell? ⟨0, 0, none⟩ = some (.iface 112 (.agg #[.pointer (some ⟨1, 38, none⟩)]))
theorem Laid.below {w w1 : World} (h : Laid w) (hb : Below w.heap.size w w1) : Laid w1 := (hb.cell (World.block_lt_of_cell? _ _ h)).trans h
/-- errors.As at a fault: the variable behind it is set -/
theorem as_fault (e t : Addr) (old : Value) (w : World) (hg : Laid w) (ht0 : w.heap[t.block]? = some (.cells #[old] 65 (0, 0))) (hto : t = ⟨t.block, 0, none⟩) (B : Nat) (hB : B ≤ t.block) :
    Calls Tryd.prog 27 #[.iface 65 (.pointer (some e)), .iface 67 (.pointer (some t))] w fun ev w' => ev = .returned (.bool true) ∧ Below B w w' ∧ w'.heap[t.block]? = some (.cells #[.pointer (some e)] 65 (0, 0)) ∧ (∀ q, q < w.heap.size → q ≠ t.block → w'.heap[q]? = w.heap[q]?) := by
  rw [hto]
  have hlt := blk_lt ht0
  refine (As.as_hit e ⟨t.block, 0, none⟩ old w hg (blk_cell ht0 0) (blk_frozen ht0 0)).mono ?_
  rintro ev w' ⟨rfl, rfl⟩
  have hb := ((((Below.refl w.heap.size w).alloc (Nat.le_refl _) (.cells #[.pointer (some ⟨t.block, 0, none⟩)] 67)).alloc (by simp) (.cells #[.pointer (some ⟨1, 67, none⟩), .pointer (some ⟨w.heap.size, 0, none⟩), .int .u64 150] 95)).alloc (by simp; omega) (.cells #[.pointer (some ⟨1, 67, none⟩), .pointer (some ⟨w.heap.size, 0, none⟩), .int .u64 150] 95)).alloc (by simp; omega) (.cells #[.pointer (some e)] 65)
  refine ⟨rfl, ((hb.mono (by omega)).setCell (p := ⟨t.block, 0, none⟩) hB _), by simpa using blk_set (blk_below ht0 hb) 0 (.pointer (some e)), fun q hq hne => (Below.heap_setCell _ ⟨t.block, 0, none⟩ _ q hne).trans (hb.block q hq)⟩
theorem valid_none {M : Md} (h : validT M = none) : Fit M ∧ refsM M = true := by
  unfold validT at h
  split at h
  · cases h
  · split at h
    · cases h
    · rename_i h1 h2
      split at h
      · cases h
      · rename_i h3
        exact ⟨fits_zero.1 (by omega), by simpa using h3⟩
theorem refs_sg {M : Md} (h : refsM M = true) : M.funcs.all (sgB M) = true := by
  unfold refsM at h
  simp only [Bool.and_eq_true] at h
  exact h.1.2
theorem oneOut_drew {w w' : World} {r : Except (Int × Int) (List Int)} {e : Ending} (h : OneOut w r e w') (n : Nat) : OneOut w r e (w'.drewN n) := by
  obtain ⟨h1, h2⟩ := h
  refine ⟨pw_below_drewN h1 n, ?_⟩
  cases r with
  | error x => exact h2
  | ok l =>
    obtain ⟨v, e1, h3⟩ := h2
    exact ⟨v, e1, Kd.R_drewN h3 n⟩
set_option maxHeartbeats 4000000 in
set_option maxRecDepth 100000 in
theorem heights_calls (M : Md) (h : Hd) (f : Int) (w : World) (H : ModAt w h M) (HC : MCan M) (HL : Laid w) :
    Calls Tryd.prog 16 #[.agg (M.cells h), .int .i64 f] w (OneOut w (heightsT M f)) := by
  have HM := Aside0.mk H
  have HMC := Aside0.mk HC
  have HLD := Aside0.mk HL
  have hl3 := H.l3
  have hq3 := H.funcs.2.1
  have HF0 := Aside0.mk (show FW w M h (w.alloc (.cells (M.cells h) 29)) from ⟨below_alloc (Below.refl _ _) (Nat.le_refl _) _, blk_new _ _⟩)
  have hz0 := blk_cell HF0.out.box 0
  have hz1 := blk_cell HF0.out.box 1
  have hz2 := blk_cell HF0.out.box 2
  have hz3 := blk_cell HF0.out.box 3
  have hz4 := blk_cell HF0.out.box 4
  have hz5 := blk_cell HF0.out.box 5
  have hz6 := blk_cell HF0.out.box 6
  have HV := Aside0.mk (valid_calls M h (w.alloc (.cells (M.cells h) 29)) (H.below HF0.out.bel) HC)
  clear H HC HL
  go_enter Tryd.func16, Tryd.ntmps16
  go_wp2_with fail
  refine HV.out.mono ?_
  rintro e w1 ⟨hb, v, rfl, hv⟩
  have HF1 := Aside0.mk (HF0.out.below hb)
  clear HV hz0 hz1 hz2 hz3 hz4 hz5 hz6
  cases hvt : validT M with
  | some x =>
    obtain ⟨q, a⟩ := x
    rw [hvt] at hv
    obtain ⟨b, rfl, hbq, hbx⟩ := hv
    have HHT := Aside0.mk (show heightsT M f = .error (q, a) from by unfold heightsT; rw [hvt])
    have HB1 := Aside0.mk (And.intro (Nat.le_trans HF0.out.bel.size hbq) hbx)
    have HT := Aside0.mk (blk_new w1 (.cells #[.pointer none] 65))
    have HLW := Aside0.mk (HLD.out.below (HF1.out.bel.alloc HF1.out.bel.size (.cells #[.pointer none] 65)))
    have hblt := blk_lt hbx
    clear hb hbq hbx hvt
    go_wp2_with fail
    refine (as_fault ⟨b, 0, none⟩ ⟨w1.heap.size, 0, none⟩ (.pointer none) _ HLW.out HT.out rfl w1.heap.size (Nat.le_refl _)).mono ?_
    rintro e w2 ⟨rfl, hb2, ht2, hk2⟩
    have hc := blk_cell ht2 0
    have HO := Aside0.mk (show OneOut w (heightsT M f) (.returned (.tuple #[.slice none 0 0, fErr b])) w2 from by
      rw [HHT.out]
      refine ⟨(HF1.out.bel.alloc HF1.out.bel.size (.cells #[.pointer none] 65)).trans (hb2.mono HF1.out.bel.size), b, rfl, HB1.out.1, ?_⟩
      exact (hk2 b (by simp; omega) (by show b ≠ w1.heap.size; omega)).trans (blk_alloc HB1.out.2 _))
    clear hb2 hk2 ht2
    go_wp2_with fail
    go_quiet (fail)
    go_wp2_with fail
    go_ret2
    exact oneOut_drew HO.out _
  | none =>
    rw [hvt] at hv
    obtain rfl := hv
    obtain ⟨hfit, href⟩ := valid_none hvt
    have HHT := Aside0.mk (show heightsT M f = (if f < 0 ∨ (M.funcs.length : Int) ≤ f then .error (3, 0) else oneT M f.toNat) from by unfold heightsT; rw [hvt])
    have HFIT := Aside0.mk hfit
    have HSG := Aside0.mk (refs_sg href)
    have HT := Aside0.mk (HF1.out.below (below_alloc (Below.refl _ _) (Nat.le_refl _) (.cells #[.pointer none] 65)))
    have hz0 := blk_cell HT.out.box 0
    have hz1 := blk_cell HT.out.box 1
    have hz2 := blk_cell HT.out.box 2
    have hz3 := blk_cell HT.out.box 3
    have hz4 := blk_cell HT.out.box 4
    have hz5 := blk_cell HT.out.box 5
    have hz6 := blk_cell HT.out.box 6
    clear hb hvt hfit href
    by_cases hf0 : f < 0
    · have HE := Aside0.mk (show heightsT M f = .error (3, 0) from by rw [HHT.out, if_pos (.inl hf0)])
      go_wp2_with (first | (go_at_call 27; refine (As.as_nil _ _).mono ?_; rintro e wq ⟨rfl, rfl⟩) | (go_at_call 25; refine (fault_calls 3 0 _).mono ?_; rintro e wq ⟨rfl, rfl⟩))
      go_ret2
      rw [HE.out]
      exact ⟨HT.out.bel.alloc HT.out.bel.size _, _, rfl, by have := HT.out.bel.size; simpa using this, by simpa using blk_new (w1.alloc (.cells #[.pointer none] 65)) (fBox 3 0)⟩
    · by_cases hfl : (M.funcs.length : Int) ≤ f
      · have HE := Aside0.mk (show heightsT M f = .error (3, 0) from by rw [HHT.out, if_pos (.inr hfl)])
        go_wp2_with (first | (go_at_call 27; refine (As.as_nil _ _).mono ?_; rintro e wq ⟨rfl, rfl⟩) | (go_at_call 25; refine (fault_calls 3 0 _).mono ?_; rintro e wq ⟨rfl, rfl⟩))
        go_ret2
        rw [HE.out]
        exact ⟨HT.out.bel.alloc HT.out.bel.size _, _, rfl, by have := HT.out.bel.size; simpa using this, by simpa using blk_new (w1.alloc (.cells #[.pointer none] 65)) (fBox 3 0)⟩
      · obtain ⟨k, rfl⟩ := Int.eq_ofNat_of_zero_le (show 0 ≤ f by omega)
        have hk : k < M.funcs.length := by omega
        have HE := Aside0.mk (show heightsT M (k : Int) = oneT M k from by rw [HHT.out, if_neg (by omega), Int.toNat_natCast])
        have HONE := Aside0.mk (one_calls M h k _ (HM.out.below HT.out.bel) HFIT.out.fine hk (by have := ((limM_iff M).1 HFIT.out.lim).1.2.2.1; omega) (HFIT.out.fnok HMC.out HSG.out k hk))
        go_wp2_with (first | (go_at_call 27; refine (As.as_nil _ _).mono ?_; rintro e wq ⟨rfl, rfl⟩) | fail)
        refine HONE.out.mono ?_
        intro e w2 hh
        have HH := Aside0.mk hh
        clear hh HONE
        cases ho : oneT M k with
        | error x =>
          obtain ⟨q, a⟩ := x
          rw [ho] at HH HE
          obtain ⟨hb2, b, rfl, hbq, hbx⟩ := HH.out
          have HO := Aside0.mk (And.intro (HT.out.bel.trans (hb2.mono HT.out.bel.size)) (And.intro (Nat.le_trans HT.out.bel.size hbq) hbx))
          clear hb2 hbq hbx HH
          go_wp2_with fail
          go_ret2
          rw [HE.out]
          exact ⟨HO.out.1, b, rfl, HO.out.2.1, HO.out.2.2⟩
        | ok l =>
          rw [ho] at HH HE
          obtain ⟨hb2, vl, rfl, hR⟩ := HH.out
          have HO := Aside0.mk (And.intro (HT.out.bel.trans (hb2.mono HT.out.bel.size)) (Kd.R_lower hR HT.out.bel.size))
          clear hb2 hR HH
          go_wp2_with fail
          go_ret2
          rw [HE.out]
          exact ⟨HO.out.1, vl, rfl, HO.out.2⟩
end Go.Proofs.YtjjhhmchomabeaaDoor.Valid
namespace Go.Proofs.YtjjhhmchomabeaaDoor.Valid
open Go.RowKit Go.Proofs.YtjjhhmchomabeaaDoorW.PrintWords Go.Proofs.YtjjhhmchomabeaaDoorW.PrintLast Go.Proofs.YtjjhhmchomabeaaDoor.Mem Go.Proofs.YtjjhhmchomabeaaDoor.Nest
set_option linter.unusedVariables false
set_option linter.unusedSimpArgs false

theorem told_nil (w : World) : Calls Tryd.prog 18 #[.nilIface] w fun e w' => e = .returned (.tuple #[.int .i64 0, .int .i64 0]) ∧ w' = w := by
  go_enter Tryd.func18, Tryd.ntmps18
  go_wp2_with fail
  go_ret2
  exact ⟨rfl, rfl⟩
set_option maxHeartbeats 4000000 in
set_option maxRecDepth 100000 in
theorem told_fault (b : Nat) (q a : Int) (w : World) (hq : q ≠ 0) (hb : w.heap[b]? = some (.cells (fCells q a) 69 (0, 0))) (HL : Laid w) :
    Calls Tryd.prog 18 #[fErr b] w fun e w' => e = .returned (.tuple #[.int .i64 q, .int .i64 a]) ∧ Below w.heap.size w w' := by
  have hlt := blk_lt hb
  have hq0 : (q == 0) = false := beq_eq_false_iff_ne.2 hq
  have HT := Aside0.mk (blk_new w (.cells #[.pointer none] 65))
  have HB := Aside0.mk (below_alloc (Below.refl w.heap.size w) (Nat.le_refl _) (.cells #[.pointer none] 65))
  have HLW := Aside0.mk (HL.below HB.out)
  have HBX := Aside0.mk (blk_alloc hb (.cells #[.pointer none] 65))
  have HLT := Aside0.mk hlt
  clear hb HL hlt
  go_enter Tryd.func18, Tryd.ntmps18
  go_wp2_with fail
  refine (as_fault ⟨b, 0, none⟩ ⟨w.heap.size, 0, none⟩ (.pointer none) _ HLW.out HT.out rfl w.heap.size (Nat.le_refl _)).mono ?_
  rintro e w2 ⟨rfl, hb2, ht2, hk2⟩
  have hc := blk_cell ht2 0
  have hbx2 := (hk2 b (by have := HLT.out; simp; omega) (by have := HLT.out; show b ≠ w.heap.size; omega)).trans HBX.out
  have hx0 := blk_cell hbx2 0
  have hx1 := blk_cell hbx2 1
  have hx2 := blk_cell hbx2 2
  have HB2 := Aside0.mk (HB.out.trans hb2)
  clear hb2 hk2 ht2 hbx2
  go_wp2_with (go_at_call 24; refine (As.is_fault b q _ hx2).mono ?_; rintro e wq ⟨rfl, rfl⟩)
  go_quiet (fail)
  go_wp2_with fail
  go_ret2
  exact ⟨rfl, pw_below_drewN HB2.out _⟩
theorem nilRow {α : Type} (d : Kd α) (w : World) : d.C w none 0 [] := ⟨rfl, by decide, fun h => absurd h (by decide)⟩
theorem slice_K {α : Type} {e : Nat} {d : Kd α} {xs : List α} {w : World} {B : Option Addr} {c : Nat} (h1 : xs.length ≤ c) (h2 : d.C w B xs.length xs) : (Kd.slice e d).K w xs [.slice B xs.length c] := ⟨B, c, rfl, h1, h2⟩
theorem one_row {α : Type} {d : Kd α} {w : World} {g : Nat} {x : α} {cs : List Value} {t : TypeId} (hb : w.heap[g]? = some (.cells cs.toArray t (0, 0))) (hs : cs.length = d.sz) (hK : d.K w x cs) : d.C w (some ⟨g, 0, none⟩) 1 [x] :=
  ⟨rfl, by decide, fun _ => ⟨_, rfl, fun j p hp => by
    cases j with
    | zero =>
      cases hp
      refine ⟨cs, hs, hK, fun i u hu => ?_⟩
      have h1 : (⟨g, 0, none⟩ : Addr).add (0 * d.sz + i) = ⟨g, i, none⟩ := by rw [Nat.zero_mul, Nat.zero_add]; unfold Addr.add; split <;> simp_all
      rw [h1, blk_cell hb i]
      simpa using hu
    | succ j => simp at hp⟩⟩
theorem mod_one {W : World} {gs gf : Nat} {A : Option Addr} {c : Nat} {l : List T3} (hs : W.heap[gs]? = some (.cells #[.slice none 0 0, .slice none 0 0] 32 (0, 0))) (hf : W.heap[gf]? = some (.cells #[.int .i64 0, .bool false, .slice none 0 0, .slice A l.length c] 43 (0, 0))) (hC : k3.C W A l.length l) (hc : l.length ≤ c) :
    ModAt W ⟨some ⟨gs, 0, none⟩, none, some ⟨gf, 0, none⟩, none, none, 1, 0, 1, 0, 0⟩ (oneM l) where
  sigs := one_row (cs := [.slice none 0 0, .slice none 0 0]) hs rfl ⟨[_], [_], rfl, slice_K (xs := ([] : List Int)) (Nat.le_refl _) (nilRow _ _), slice_K (xs := ([] : List Int)) (Nat.le_refl _) (nilRow _ _)⟩
  imports := nilRow _ _
  funcs := one_row (cs := [.int .i64 0, .bool false, .slice none 0 0, .slice A l.length c]) hf rfl ⟨[_], _, rfl, rfl, [_], _, rfl, rfl, [_], [_], rfl, slice_K (xs := ([] : List Int)) (Nat.le_refl _) (nilRow _ _), slice_K hc hC⟩
  globals := nilRow _ _
  data := nilRow _ _
  l1 := Nat.le_refl _
  l2 := Nat.le_refl _
  l3 := Nat.le_refl _
  l4 := Nat.le_refl _
  l5 := Nat.le_refl _
set_option maxHeartbeats 4000000 in
set_option maxRecDepth 100000 in
theorem oneL_calls (A : Option Addr) (c : Nat) (l : List T3) (w : World) (hC : k3.C w A l.length l) (hc : l.length ≤ c) :
    Calls Tryd.prog 22 #[.slice A l.length c] w fun e w' => ∃ h, e = .returned (.agg ((oneM l).cells h)) ∧ ModAt w' h (oneM l) ∧ Below w.heap.size w w' := by
  have HC := Aside0.mk hC
  clear hC
  go_enter Tryd.func22, Tryd.ntmps22
  go_wp2_with fail
  obtain ⟨W, hW⟩ : ∃ W, W = ((w.alloc (.cells #[.slice (some ⟨w.heap.size + 1, 0, none⟩) 1 1, .slice none 0 0, .slice (some ⟨w.heap.size + 1 + 1, 0, none⟩) 1 1, .int .i64 0, .int .i64 0, .slice none 0 0, .slice none 0 0] 29)).alloc (.cells #[.slice none 0 0, .slice none 0 0] 32)).alloc (.cells #[.int .i64 0, .bool false, .slice none 0 0, .slice A l.length c] 43) := ⟨_, rfl⟩
  rw [← hW]
  have hm : W.heap[w.heap.size]? = some (.cells #[.slice (some ⟨w.heap.size + 1, 0, none⟩) 1 1, .slice none 0 0, .slice (some ⟨w.heap.size + 1 + 1, 0, none⟩) 1 1, .int .i64 0, .int .i64 0, .slice none 0 0, .slice none 0 0] 29 (0, 0)) := by rw [hW]; exact blk_alloc (blk_alloc (blk_new _ _) _) _
  have hs : W.heap[w.heap.size + 1]? = some (.cells #[.slice none 0 0, .slice none 0 0] 32 (0, 0)) := by rw [hW]; exact blk_alloc (by simpa using blk_new (w.alloc _) (.cells #[.slice none 0 0, .slice none 0 0] 32)) _
  have hf : W.heap[w.heap.size + 1 + 1]? = some (.cells #[.int .i64 0, .bool false, .slice none 0 0, .slice A l.length c] 43 (0, 0)) := by rw [hW]; simpa using blk_new ((w.alloc _).alloc _) (.cells #[.int .i64 0, .bool false, .slice none 0 0, .slice A l.length c] 43)
  have hb : Below w.heap.size w W := by rw [hW]; exact (((Below.refl _ _).alloc (Nat.le_refl _) _).alloc (by simp) _).alloc (by simp; omega) _
  clear hW
  have hz0 := blk_cell hm 0
  have hz1 := blk_cell hm 1
  have hz2 := blk_cell hm 2
  have hz3 := blk_cell hm 3
  have hz4 := blk_cell hm 4
  have hz5 := blk_cell hm 5
  have hz6 := blk_cell hm 6
  refine bodyPost_ret (v := .agg ((oneM l).cells ⟨some ⟨w.heap.size + 1, 0, none⟩, none, some ⟨w.heap.size + 1 + 1, 0, none⟩, none, none, 1, 0, 1, 0, 0⟩)) (by simp [results, Tryd.results22, go_sem, hz0, hz1, hz2, hz3, hz4, hz5, hz6, oneM]) rfl ?_
  exact ⟨_, rfl, mod_one hs hf (Kd.C_below HC.out hb) hc, hb⟩
theorem lit_ints (W : World) (l : List Int) (hl : l.length ≤ 100) : (Kd.int .i64).C (W.alloc (.cells (l.map (Value.int .i64)).toArray 3)) (some ⟨W.heap.size, 0, none⟩) l.length l :=
  ⟨rfl, by omega, fun _ => ⟨_, rfl, fun j p hp => ⟨[.int .i64 p], rfl, rfl, fun i u hu => by
    have hi : i = 0 := by have := (List.getElem?_eq_some_iff.1 hu).1; simp at this; omega
    subst hi
    have h1 : (⟨W.heap.size, 0, none⟩ : Addr).add (j * (Kd.int .i64).sz + 0) = ⟨W.heap.size, j, none⟩ := by
      show (⟨W.heap.size, 0, none⟩ : Addr).add (j * 1 + 0) = _
      unfold Addr.add
      split <;> simp_all
    rw [h1, blk_cell (blk_new W _) j]
    simp at hu
    simp [hp, hu]⟩⟩⟩
theorem can_one (l : List T3) (h : ∀ x ∈ l, -9223372036854775808 ≤ x.2.1 ∧ x.2.1 < 9223372036854775808) : MCan (oneM l) := by
  refine ⟨fun g hg => ?_, fun f hf => ?_, fun g hg => by cases hg⟩
  · rcases List.mem_singleton.1 hg with rfl
    exact ⟨fun t ht => (by cases ht), fun t ht => (by cases ht)⟩
  · rcases List.mem_singleton.1 hf with rfl
    exact ⟨fun t ht => (by cases ht), h⟩
abbrev x3 (x : T3) : List Value := [.int .i64 x.1, .int .i64 x.2.1, .int .i64 x.2.2]
theorem flat3 (l : List T3) : ∀ (j : Nat) (p : T3), l[j]? = some p → ∀ (i : Nat) (u : Value), (x3 p)[i]? = some u → (l.flatMap x3)[j * 3 + i]? = some u := by
  induction l with
  | nil => intro j p h; simp at h
  | cons x l ih =>
    intro j p h i u hu
    have hi : i < 3 := (List.getElem?_eq_some_iff.1 hu).1
    rw [List.flatMap_cons]
    cases j with
    | zero =>
      cases h
      rw [Nat.zero_mul, Nat.zero_add, List.getElem?_append_left (by exact hi)]
      exact hu
    | succ j =>
      rw [List.getElem?_append_right (by show 3 ≤ _; omega)]
      have h1 : (j + 1) * 3 + i - (x3 x).length = j * 3 + i := by show (j + 1) * 3 + i - 3 = _; omega
      rw [h1]
      exact ih j p h i u hu
theorem k3_lit {W : World} {g : Nat} {t : TypeId} (l : List T3) (hl : l.length ≤ 100) (hb : W.heap[g]? = some (.cells (l.flatMap x3).toArray t (0, 0))) : k3.C W (some ⟨g, 0, none⟩) l.length l :=
  ⟨rfl, by omega, fun _ => ⟨_, rfl, fun j p hp => ⟨x3 p, rfl, ⟨[_], _, rfl, rfl, [_], [_], rfl, rfl, rfl⟩, fun i u hu => by
    have h1 : (⟨g, 0, none⟩ : Addr).add (j * k3.sz + i) = ⟨g, j * 3 + i, none⟩ := by
      show (⟨g, 0, none⟩ : Addr).add (j * 3 + i) = _
      unfold Addr.add
      split <;> simp_all
    rw [h1, blk_cell hb (j * 3 + i)]
    have h2 := flat3 l j p hp i u hu
    simpa using h2⟩⟩⟩
set_option maxHeartbeats 8000000 in
set_option maxRecDepth 100000 in
theorem examples_calls (w : World) (hl : Laid w) : Calls Tryd.prog 10 #[] w fun e w' => e = .returned (.bool true) ∧ Below w.heap.size w w' := by
  have HL := Aside0.mk hl
  clear hl
  obtain ⟨w0, hw0⟩ : ∃ w0, w0 = (w.alloc (xObj (65, 1, 0))).alloc (xObj (11, 0, 0)) := ⟨_, rfl⟩
  have HXA := Aside0.mk (show w0.heap[w.heap.size]? = some (xObj (65, 1, 0)) from by rw [hw0]; exact blk_alloc (blk_new _ _) _)
  have HXE := Aside0.mk (show w0.heap[w.heap.size + 1]? = some (xObj (11, 0, 0)) from by rw [hw0]; simpa using blk_new (w.alloc (xObj (65, 1, 0))) (xObj (11, 0, 0)))
  have HW := Aside0.mk (show Below w.heap.size w w0 from by rw [hw0]; exact (below_alloc (Below.refl _ _) (Nat.le_refl _) _).alloc (by simp) _)
  have HB0 := Aside0.mk (Below.refl w0.heap.size w0)
  have hp0 := blk_cell HXA.out 0
  have hp1 := blk_cell HXA.out 1
  have hp2 := blk_cell HXA.out 2
  have he0 := blk_cell HXE.out 0
  have he1 := blk_cell HXE.out 1
  have he2 := blk_cell HXE.out 2
  go_enter Tryd.func10, Tryd.ntmps10
  go_upto_region 3 with (fail)
  rw [← hw0]
  clear hw0
  have HR1 := Aside0.mk (k3_lit [(65, 1, 0), (11, 0, 0)] (by decide) (blk_new w0 (.cells #[.int .i64 65, .int .i64 1, .int .i64 0, .int .i64 11, .int .i64 0, .int .i64 0] 45)))
  have HA1 := Aside0.mk (HB0.out.trans (Below.mono (below_alloc (Below.refl _ _) (Nat.le_refl _) (.cells #[.int .i64 65, .int .i64 1, .int .i64 0, .int .i64 11, .int .i64 0, .int .i64 0] 45)) HB0.out.size))
  go_wp2_with fail
  refine (oneL_calls (some ⟨w0.heap.size, 0, none⟩) 2 [(65, 1, 0), (11, 0, 0)] _ HR1.out (by decide)).mono ?_
  rintro e m1 ⟨h1, rfl, hM1, hm1⟩
  have HM1 := Aside0.mk hM1
  have HC1 := Aside0.mk (HA1.out.trans (Below.mono hm1 HA1.out.size))
  clear hM1 hm1
  go_wp2_with fail
  refine (valid_calls (oneM [(65, 1, 0), (11, 0, 0)]) h1 _ HM1.out (can_one _ (by decide))).mono ?_
  rw [ex1]
  rintro e v1 ⟨hb1, x1, rfl, hx1⟩
  have HD1 := Aside0.mk (HC1.out.trans (Below.mono hb1 HC1.out.size))
  clear hb1
  clear hp0 hp1 hp2 he0 he1 he2
  obtain ⟨b1, rfl, _, hy1⟩ := hx1
  have HT1 := Aside0.mk (told_fault b1 3 1 v1 (by decide) hy1 (HL.out.below ((HW.out.trans (HD1.out.mono HW.out.size)))))
  clear hy1
  go_wp2_with fail
  refine HT1.out.mono ?_
  rintro e w1 ⟨rfl, hb⟩
  have HB1 := Aside0.mk (HD1.out.trans (Below.mono hb HD1.out.size))
  have hp0 := blk_cell (blk_below HXA.out HB1.out) 0
  have hp1 := blk_cell (blk_below HXA.out HB1.out) 1
  have hp2 := blk_cell (blk_below HXA.out HB1.out) 2
  have he0 := blk_cell (blk_below HXE.out HB1.out) 0
  have he1 := blk_cell (blk_below HXE.out HB1.out) 1
  have he2 := blk_cell (blk_below HXE.out HB1.out) 2
  clear hb HT1 HD1
  have HR2 := Aside0.mk (k3_lit [(65, 1, 0), (240, 0, 0), (4, 0, 0), (11, 0, 0), (11, 0, 0)] (by decide) (blk_new w1 (.cells #[.int .i64 65, .int .i64 1, .int .i64 0, .int .i64 240, .int .i64 0, .int .i64 0, .int .i64 4, .int .i64 0, .int .i64 0, .int .i64 11, .int .i64 0, .int .i64 0, .int .i64 11, .int .i64 0, .int .i64 0] 45)))
  have HA2 := Aside0.mk (HB1.out.trans (Below.mono (below_alloc (Below.refl _ _) (Nat.le_refl _) (.cells #[.int .i64 65, .int .i64 1, .int .i64 0, .int .i64 240, .int .i64 0, .int .i64 0, .int .i64 4, .int .i64 0, .int .i64 0, .int .i64 11, .int .i64 0, .int .i64 0, .int .i64 11, .int .i64 0, .int .i64 0] 45)) HB1.out.size))
  go_wp2_with fail
  refine (oneL_calls (some ⟨w1.heap.size, 0, none⟩) 5 [(65, 1, 0), (240, 0, 0), (4, 0, 0), (11, 0, 0), (11, 0, 0)] _ HR2.out (by decide)).mono ?_
  rintro e m2 ⟨h2, rfl, hM2, hm2⟩
  have HM2 := Aside0.mk hM2
  have HC2 := Aside0.mk (HA2.out.trans (Below.mono hm2 HA2.out.size))
  clear hM2 hm2
  go_wp2_with fail
  refine (valid_calls (oneM [(65, 1, 0), (240, 0, 0), (4, 0, 0), (11, 0, 0), (11, 0, 0)]) h2 _ HM2.out (can_one _ (by decide))).mono ?_
  rw [ex2]
  rintro e v2 ⟨hb2, x2, rfl, hx2⟩
  have HD2 := Aside0.mk (HC2.out.trans (Below.mono hb2 HC2.out.size))
  clear hb2
  clear hp0 hp1 hp2 he0 he1 he2
  obtain ⟨b2, rfl, _, hy2⟩ := hx2
  have HT2 := Aside0.mk (told_fault b2 3 2 v2 (by decide) hy2 (HL.out.below ((HW.out.trans (HD2.out.mono HW.out.size)))))
  clear hy2
  go_wp2_with fail
  refine HT2.out.mono ?_
  rintro e w2 ⟨rfl, hb⟩
  have HB2 := Aside0.mk (HD2.out.trans (Below.mono hb HD2.out.size))
  have hp0 := blk_cell (blk_below HXA.out HB2.out) 0
  have hp1 := blk_cell (blk_below HXA.out HB2.out) 1
  have hp2 := blk_cell (blk_below HXA.out HB2.out) 2
  have he0 := blk_cell (blk_below HXE.out HB2.out) 0
  have he1 := blk_cell (blk_below HXE.out HB2.out) 1
  have he2 := blk_cell (blk_below HXE.out HB2.out) 2
  clear hb HT2 HD2
  have HR3 := Aside0.mk (k3_lit [(0, 0, 0), (106, 0, 0), (26, 0, 0), (11, 0, 0)] (by decide) (blk_new w2 (.cells #[.int .i64 0, .int .i64 0, .int .i64 0, .int .i64 106, .int .i64 0, .int .i64 0, .int .i64 26, .int .i64 0, .int .i64 0, .int .i64 11, .int .i64 0, .int .i64 0] 45)))
  have HA3 := Aside0.mk (HB2.out.trans (Below.mono (below_alloc (Below.refl _ _) (Nat.le_refl _) (.cells #[.int .i64 0, .int .i64 0, .int .i64 0, .int .i64 106, .int .i64 0, .int .i64 0, .int .i64 26, .int .i64 0, .int .i64 0, .int .i64 11, .int .i64 0, .int .i64 0] 45)) HB2.out.size))
  go_wp2_with fail
  refine (oneL_calls (some ⟨w2.heap.size, 0, none⟩) 4 [(0, 0, 0), (106, 0, 0), (26, 0, 0), (11, 0, 0)] _ HR3.out (by decide)).mono ?_
  rintro e m3 ⟨h3, rfl, hM3, hm3⟩
  have HM3 := Aside0.mk hM3
  have HC3 := Aside0.mk (HA3.out.trans (Below.mono hm3 HA3.out.size))
  clear hM3 hm3
  go_wp2_with fail
  refine (heights_calls (oneM [(0, 0, 0), (106, 0, 0), (26, 0, 0), (11, 0, 0)]) h3 0 _ HM3.out (can_one _ (by decide)) (HL.out.below (HW.out.trans (HC3.out.mono HW.out.size)))).mono ?_
  rw [ex3]
  rintro e w3 ⟨hb, vv, rfl, hR⟩
  clear hp0 hp1 hp2 he0 he1 he2
  have HB3 := Aside0.mk (HC3.out.trans (Below.mono hb HC3.out.size))
  have hp0 := blk_cell (blk_below HXA.out HB3.out) 0
  have hp1 := blk_cell (blk_below HXA.out HB3.out) 1
  have hp2 := blk_cell (blk_below HXA.out HB3.out) 2
  have he0 := blk_cell (blk_below HXE.out HB3.out) 0
  have he1 := blk_cell (blk_below HXE.out HB3.out) 1
  have he2 := blk_cell (blk_below HXE.out HB3.out) 2
  have HO := Aside0.mk (Kd.R_alloc hR (.cells #[.int .i64 0, .int .i64 (-1), .int .i64 (-1), .int .i64 (-1)] 3))
  obtain ⟨Ah, ch, eh⟩ := Kd.R_slice hR
  subst eh
  have HON := Aside0.mk (Kd.R_reads' HO.out)
  have HQ := Aside0.mk (lit_ints w3 [0, -1, -1, -1] (by decide))
  have HB4 := Aside0.mk (HB3.out.trans ((below_alloc (Below.refl _ _) (Nat.le_refl _) (.cells #[.int .i64 0, .int .i64 (-1), .int .i64 (-1), .int .i64 (-1)] 3)).mono HB3.out.size))
  clear hb hR HO
  go_wp2_with fail
  refine (numbers_calls Ah ch [0, -1, -1, -1] (some ⟨w3.heap.size, 0, none⟩) 4 [0, -1, -1, -1] _ HON.out.2.2 HON.out.2.1 HQ.out (by decide)).mono ?_
  rintro e w5 ⟨rfl, hdr⟩
  clear hp0 hp1 hp2 he0 he1 he2
  have HB5 := Aside0.mk (HB4.out.trans (Below.mono hdr.below HB4.out.size))
  have hp0 := blk_cell (blk_below HXA.out HB5.out) 0
  have hp1 := blk_cell (blk_below HXA.out HB5.out) 1
  have hp2 := blk_cell (blk_below HXA.out HB5.out) 2
  have he0 := blk_cell (blk_below HXE.out HB5.out) 0
  have he1 := blk_cell (blk_below HXE.out HB5.out) 1
  have he2 := blk_cell (blk_below HXE.out HB5.out) 2
  clear hdr
  rw [decide_eq_true (rfl : ([0, -1, -1, -1] : List Int) = [0, -1, -1, -1])]
  have HR6 := Aside0.mk (k3_lit [(11, 0, 0)] (by decide) (blk_new w5 (.cells #[.int .i64 11, .int .i64 0, .int .i64 0] 45)))
  have HA6 := Aside0.mk (HB5.out.trans (Below.mono (below_alloc (Below.refl _ _) (Nat.le_refl _) (.cells #[.int .i64 11, .int .i64 0, .int .i64 0] 45)) HB5.out.size))
  go_wp2_with fail
  refine (oneL_calls (some ⟨w5.heap.size, 0, none⟩) 1 [(11, 0, 0)] _ HR6.out (by decide)).mono ?_
  rintro e m6 ⟨h6, rfl, hM6, hm6⟩
  have HM6 := Aside0.mk hM6
  have HC6 := Aside0.mk (HA6.out.trans (Below.mono hm6 HA6.out.size))
  clear hM6 hm6
  go_wp2_with fail
  refine (valid_calls (oneM [(11, 0, 0)]) h6 _ HM6.out (can_one _ (by decide))).mono ?_
  rw [ex4]
  rintro e v6 ⟨hb6, x6, rfl, hx6⟩
  have HD6 := Aside0.mk (HC6.out.trans (Below.mono hb6 HC6.out.size))
  clear hb6
  obtain rfl := hx6
  go_wp2_with fail
  go_ret
  exact ⟨rfl, HW.out.trans (HD6.out.mono HW.out.size)⟩
end Go.Proofs.YtjjhhmchomabeaaDoor.Valid
