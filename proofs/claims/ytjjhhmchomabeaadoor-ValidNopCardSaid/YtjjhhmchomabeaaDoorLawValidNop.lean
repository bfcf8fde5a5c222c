/- With a Nop laid in anywhere a module is as valid as before, and the heights of all other instructions stay (ValidNop): whatever the module and the two numbers are, the law returns true. -/
import Derived.Test.YtjjhhmchomabeaaDoorValNopP
import Derived.Test.YtjjhhmchomabeaaDoorModAt
import Derived.Test.YtjjhhmchomabeaaDoorCards
import Derived.Test.YtjjhhmchomabeaaDoorTie
import Derived.ChangeSame
import Derived.ChangeVars
import Derived.JoinedOf
import Derived.RowKit
import Derived.RowKitTokens
import Derived.LaidLaws
import Derived.LaidHandle
import Derived.Stop.Joined
import Derived.SevenTiedAt
namespace Go.Proofs.YtjjhhmchomabeaaDoor.Valid
open Go.RowKit Go.Proofs.YtjjhhmchomabeaaDoorW.PrintWords Go.Proofs.YtjjhhmchomabeaaDoorW.PrintLast Go.Proofs.YtjjhhmchomabeaaDoor.Mem Go.Proofs.YtjjhhmchomabeaaDoor.Nest
set_option linter.unusedVariables false
set_option linter.unusedSimpArgs false

section
variable (M : Md) (h : Hd) (f a : Int) (w : World)
set_option maxHeartbeats 4000000 in
set_option maxRecDepth 100000 in
theorem ValidNop_bad (H : ModAt w h M) (C : MCan M) (hf : Can f) (ha : Can a) (hl : Laid w) {q at_ : Int} (hv : validT M = some (q, at_)) :
    Calls Tryd.prog 4 #[.agg (M.cells h), .int .i64 f, .int .i64 a] w fun e w' => e = .returned (.bool true) ∧ Below w.heap.size w w' := by
  have HM := Aside0.mk H
  have HMC := Aside0.mk C
  have HCF := Aside0.mk hf
  have HCA := Aside0.mk ha
  have HF0 := Aside0.mk (show FW w M h (w.alloc (.cells (M.cells h) 29)) from ⟨below_alloc (Below.refl _ _) (Nat.le_refl _) _, blk_new _ _⟩)
  have HL := Aside0.mk (hl.below HF0.out.bel)
  have hl3 := H.l3
  have hq3 := H.funcs.2.1
  have HV := Aside0.mk hv
  clear H C hf ha hl hv
  go_enter Tryd.func4, Tryd.ntmps4
  go_wp2_with fail
  refine (examples_calls _ HL.out).mono ?_
  rintro e w1 ⟨rfl, hb1⟩
  have HF1 := Aside0.mk (HF0.out.below hb1)
  have HL1 := Aside0.mk (HL.out.below hb1)
  have hz0 := blk_cell HF1.out.box 0
  have hz1 := blk_cell HF1.out.box 1
  have hz2 := blk_cell HF1.out.box 2
  have hz3 := blk_cell HF1.out.box 3
  have hz4 := blk_cell HF1.out.box 4
  have hz5 := blk_cell HF1.out.box 5
  have hz6 := blk_cell HF1.out.box 6
  clear hb1 HF0 HL
  go_wp2_with fail
  refine (valid_calls M h _ (HM.out.below HF1.out.bel) HMC.out).mono ?_
  rw [HV.out]
  rintro e w2 ⟨hb2, v, rfl, b, rfl, _, _⟩
  have HF2 := Aside0.mk (HF1.out.below hb2)
  clear hz0 hz1 hz2 hz3 hz4 hz5 hz6 hb2
  have hz0 := blk_cell HF2.out.box 0
  have hz1 := blk_cell HF2.out.box 1
  have hz2 := blk_cell HF2.out.box 2
  have hz3 := blk_cell HF2.out.box 3
  have hz4 := blk_cell HF2.out.box 4
  have hz5 := blk_cell HF2.out.box 5
  have hz6 := blk_cell HF2.out.box 6
  go_wp2_with fail
  go_ret
  exact ⟨rfl, HF2.out.bel⟩
set_option maxHeartbeats 4000000 in
set_option maxRecDepth 100000 in
theorem ValidNop_none (H : ModAt w h M) (C : MCan M) (hf : Can f) (ha : Can a) (hl : Laid w) (hv : validT M = none) (hn : ((M.funcs.length : Int) == 0) = true) :
    Calls Tryd.prog 4 #[.agg (M.cells h), .int .i64 f, .int .i64 a] w fun e w' => e = .returned (.bool true) ∧ Below w.heap.size w w' := by
  have HM := Aside0.mk H
  have HMC := Aside0.mk C
  have HCF := Aside0.mk hf
  have HCA := Aside0.mk ha
  have HF0 := Aside0.mk (show FW w M h (w.alloc (.cells (M.cells h) 29)) from ⟨below_alloc (Below.refl _ _) (Nat.le_refl _) _, blk_new _ _⟩)
  have HL := Aside0.mk (hl.below HF0.out.bel)
  have hl3 := H.l3
  have hq3 := H.funcs.2.1
  have HV := Aside0.mk hv
  clear H C hf ha hl hv
  go_enter Tryd.func4, Tryd.ntmps4
  go_wp2_with fail
  refine (examples_calls _ HL.out).mono ?_
  rintro e w1 ⟨rfl, hb1⟩
  have HF1 := Aside0.mk (HF0.out.below hb1)
  have HL1 := Aside0.mk (HL.out.below hb1)
  have hz0 := blk_cell HF1.out.box 0
  have hz1 := blk_cell HF1.out.box 1
  have hz2 := blk_cell HF1.out.box 2
  have hz3 := blk_cell HF1.out.box 3
  have hz4 := blk_cell HF1.out.box 4
  have hz5 := blk_cell HF1.out.box 5
  have hz6 := blk_cell HF1.out.box 6
  clear hb1 HF0 HL
  go_wp2_with fail
  refine (valid_calls M h _ (HM.out.below HF1.out.bel) HMC.out).mono ?_
  rw [HV.out]
  rintro e w2 ⟨hb2, v, rfl, rfl⟩
  have HF2 := Aside0.mk (HF1.out.below hb2)
  have HL2 := Aside0.mk (HL1.out.below hb2)
  clear hz0 hz1 hz2 hz3 hz4 hz5 hz6 hb2
  have hz0 := blk_cell HF2.out.box 0
  have hz1 := blk_cell HF2.out.box 1
  have hz2 := blk_cell HF2.out.box 2
  have hz3 := blk_cell HF2.out.box 3
  have hz4 := blk_cell HF2.out.box 4
  have hz5 := blk_cell HF2.out.box 5
  have hz6 := blk_cell HF2.out.box 6
  go_wp2_with fail
  go_ret
  exact ⟨rfl, HF2.out.bel⟩
set_option maxHeartbeats 4000000 in
set_option maxRecDepth 100000 in
theorem ValidNop_full (H : ModAt w h M) (C : MCan M) (hf : Can f) (ha : Can a) (hl : Laid w) (hv : validT M = none) (hn : 0 < M.funcs.length) (hfew : M.funcs.length ≤ 8) (hne : (M.funcs.getD (pickN f M.funcs.length) zF).2.2.2 ≠ []) (h200 : (M.funcs.getD (pickN f M.funcs.length) zF).2.2.2.length ≤ 200) (hfull : 200 ≤ (M.funcs.getD (pickN f M.funcs.length) zF).2.2.2.length) :
    Calls Tryd.prog 4 #[.agg (M.cells h), .int .i64 f, .int .i64 a] w fun e w' => e = .returned (.bool true) ∧ Below w.heap.size w w' := by
  have HM := Aside0.mk H
  have HMC := Aside0.mk C
  have HCF := Aside0.mk hf
  have HCA := Aside0.mk ha
  have HF0 := Aside0.mk (show FW w M h (w.alloc (.cells (M.cells h) 29)) from ⟨below_alloc (Below.refl _ _) (Nat.le_refl _) _, blk_new _ _⟩)
  have HL := Aside0.mk (hl.below HF0.out.bel)
  have hl3 := H.l3
  have hq3 := H.funcs.2.1
  have HV := Aside0.mk hv
  clear H C hf ha hl hv
  go_enter Tryd.func4, Tryd.ntmps4
  go_wp2_with fail
  refine (examples_calls _ HL.out).mono ?_
  rintro e w1 ⟨rfl, hb1⟩
  have HF1 := Aside0.mk (HF0.out.below hb1)
  have HL1 := Aside0.mk (HL.out.below hb1)
  have hz0 := blk_cell HF1.out.box 0
  have hz1 := blk_cell HF1.out.box 1
  have hz2 := blk_cell HF1.out.box 2
  have hz3 := blk_cell HF1.out.box 3
  have hz4 := blk_cell HF1.out.box 4
  have hz5 := blk_cell HF1.out.box 5
  have hz6 := blk_cell HF1.out.box 6
  clear hb1 HF0 HL
  go_wp2_with fail
  refine (valid_calls M h _ (HM.out.below HF1.out.bel) HMC.out).mono ?_
  rw [HV.out]
  rintro e w2 ⟨hb2, v, rfl, rfl⟩
  have HF2 := Aside0.mk (HF1.out.below hb2)
  have HL2 := Aside0.mk (HL1.out.below hb2)
  clear hz0 hz1 hz2 hz3 hz4 hz5 hz6 hb2
  have hz0 := blk_cell HF2.out.box 0
  have hz1 := blk_cell HF2.out.box 1
  have hz2 := blk_cell HF2.out.box 2
  have hz3 := blk_cell HF2.out.box 3
  have hz4 := blk_cell HF2.out.box 4
  have hz5 := blk_cell HF2.out.box 5
  have hz6 := blk_cell HF2.out.box 6
  have hnb : ((M.funcs.length : Int) == 0) = false := beq_eq_false_iff_ne.2 (by omega)
  have hkl := pick_lt (c := f) hn
  obtain ⟨k, hk⟩ : ∃ k, pickN f M.funcs.length = k := ⟨_, rfl⟩
  rw [hk] at hkl hne h200 hfull
  go_wp2_with (go_at_call 15; refine (pick_calls f M.funcs.length HCF.out hn (by omega) _).mono ?_; rintro e wq ⟨rfl, hwq⟩; subst wq; rw [hk]; refine Hold.out ?_)
  refine Hold.mk ?_
  obtain ⟨ad, B1, k1, B2, k2, hA, hx0, hx1, hx2, hx3, hk1, hk2, hC1, hC2⟩ := at_func HM.out.funcs k hkl
  have HMA := Aside0.mk (show ModAt w { h with a3 := some ad } M from by rw [← hA]; exact HM.out)
  have hx3 := (HF2.out.bel.cell (World.block_lt_of_cell? _ _ hx3)).trans hx3
  have HC2 := Aside0.mk hC2
  obtain ⟨L, hL⟩ : ∃ L, (M.funcs.getD k zF).2.2.2 = L := ⟨_, rfl⟩
  rw [hL] at hx3 hne h200 hfull hk2 HC2
  have hlpos : 0 < L.length := List.length_pos_iff.2 hne
  obtain ⟨b2, hb2, _⟩ := HC2.out.2.2 hlpos
  subst hb2
  have hlz : ((L.length : Int) == 0) = false := beq_eq_false_iff_ne.2 (by omega)
  have hkz : decide (k < M.funcs.length) = true := by simpa using hkl
  have HLL := Aside0.mk hL
  have HKK := Aside0.mk hk
  clear hL hx0 hx1 hx2 hC1 hC2 hk1 hk hne
  have hfb : decide (200 ≤ L.length) = true := by simpa using hfull
  have hpos : decide (0 < L.length) = true := by simp; omega
  go_wp2_with fail
  go_ret
  exact ⟨rfl, HF2.out.bel⟩
set_option maxHeartbeats 4000000 in
set_option maxRecDepth 100000 in
theorem ValidNop_main (H : ModAt w h M) (C : MCan M) (hf : Can f) (ha : Can a) (hl : Laid w) (hv : validT M = none) (hn : 0 < M.funcs.length) (hfew : M.funcs.length ≤ 8) (hne : (M.funcs.getD (pickN f M.funcs.length) zF).2.2.2 ≠ []) (h200 : (M.funcs.getD (pickN f M.funcs.length) zF).2.2.2.length ≤ 200) (hfull : (M.funcs.getD (pickN f M.funcs.length) zF).2.2.2.length < 200) :
    Calls Tryd.prog 4 #[.agg (M.cells h), .int .i64 f, .int .i64 a] w fun e w' => e = .returned (.bool true) ∧ Below w.heap.size w w' := by
  have HM := Aside0.mk H
  have HMC := Aside0.mk C
  have HCF := Aside0.mk hf
  have HCA := Aside0.mk ha
  have HF0 := Aside0.mk (show FW w M h (w.alloc (.cells (M.cells h) 29)) from ⟨below_alloc (Below.refl _ _) (Nat.le_refl _) _, blk_new _ _⟩)
  have HL := Aside0.mk (hl.below HF0.out.bel)
  have hl3 := H.l3
  have hq3 := H.funcs.2.1
  have HV := Aside0.mk hv
  clear H C hf ha hl hv
  go_enter Tryd.func4, Tryd.ntmps4
  go_wp2_with fail
  refine (examples_calls _ HL.out).mono ?_
  rintro e w1 ⟨rfl, hb1⟩
  have HF1 := Aside0.mk (HF0.out.below hb1)
  have HL1 := Aside0.mk (HL.out.below hb1)
  have hz0 := blk_cell HF1.out.box 0
  have hz1 := blk_cell HF1.out.box 1
  have hz2 := blk_cell HF1.out.box 2
  have hz3 := blk_cell HF1.out.box 3
  have hz4 := blk_cell HF1.out.box 4
  have hz5 := blk_cell HF1.out.box 5
  have hz6 := blk_cell HF1.out.box 6
  clear hb1 HF0 HL
  go_wp2_with fail
  refine (valid_calls M h _ (HM.out.below HF1.out.bel) HMC.out).mono ?_
  rw [HV.out]
  rintro e w2 ⟨hb2, v, rfl, rfl⟩
  have HF2 := Aside0.mk (HF1.out.below hb2)
  have HL2 := Aside0.mk (HL1.out.below hb2)
  clear hz0 hz1 hz2 hz3 hz4 hz5 hz6 hb2
  have hz0 := blk_cell HF2.out.box 0
  have hz1 := blk_cell HF2.out.box 1
  have hz2 := blk_cell HF2.out.box 2
  have hz3 := blk_cell HF2.out.box 3
  have hz4 := blk_cell HF2.out.box 4
  have hz5 := blk_cell HF2.out.box 5
  have hz6 := blk_cell HF2.out.box 6
  have hnb : ((M.funcs.length : Int) == 0) = false := beq_eq_false_iff_ne.2 (by omega)
  have hkl := pick_lt (c := f) hn
  obtain ⟨k, hk⟩ : ∃ k, pickN f M.funcs.length = k := ⟨_, rfl⟩
  rw [hk] at hkl hne h200 hfull
  go_wp2_with (go_at_call 15; refine (pick_calls f M.funcs.length HCF.out hn (by omega) _).mono ?_; rintro e wq ⟨rfl, hwq⟩; subst wq; rw [hk]; refine Hold.out ?_)
  refine Hold.mk ?_
  obtain ⟨ad, B1, k1, B2, k2, hA, hx0, hx1, hx2, hx3, hk1, hk2, hC1, hC2⟩ := at_func HM.out.funcs k hkl
  have HMA := Aside0.mk (show ModAt w { h with a3 := some ad } M from by rw [← hA]; exact HM.out)
  have hx3 := (HF2.out.bel.cell (World.block_lt_of_cell? _ _ hx3)).trans hx3
  have HC2 := Aside0.mk hC2
  obtain ⟨L, hL⟩ : ∃ L, (M.funcs.getD k zF).2.2.2 = L := ⟨_, rfl⟩
  rw [hL] at hx3 hne h200 hfull hk2 HC2
  have hlpos : 0 < L.length := List.length_pos_iff.2 hne
  obtain ⟨b2, hb2, _⟩ := HC2.out.2.2 hlpos
  subst hb2
  have hlz : ((L.length : Int) == 0) = false := beq_eq_false_iff_ne.2 (by omega)
  have hkz : decide (k < M.funcs.length) = true := by simpa using hkl
  have HLL := Aside0.mk hL
  have HKK := Aside0.mk hk
  clear hL hx0 hx1 hx2 hC1 hC2 hk1 hk hne
  have hfb : decide (200 ≤ L.length) = false := by simp; omega
  have hfb2 : decide (200 ≤ (L.length : Int)) = false := by simp; omega
  go_wp2_with (go_at_call 15; refine (pick_calls a L.length HCA.out hlpos (by omega) _).mono ?_; rintro e wq ⟨rfl, hwq⟩; subst wq; refine Hold.out ?_)
  refine Hold.mk ?_
  have hpl := pick_lt (c := a) hlpos
  obtain ⟨p, hp⟩ : ∃ p, pickN a L.length = p := ⟨_, rfl⟩
  rw [hp] at hpl ⊢
  have hp0 : (0 : Int) ≤ (p : Int) := by omega
  have hp1 : (p : Int) ≤ (L.length : Int) := by omega
  have hp2 : (p : Int) ≤ (k2 : Int) := by omega
  clear hp
  go_wp2_with ((with_reducible refine gate_builtin (b := .append) (xs := #[.tmp 56, .tmp 59]) rfl ?_); at_builtin; refine Hold.out ?_)
  refine Hold.mk ?_
  refine wp_rowI (ys := L.take p) ⟨Ui.init _⟩ rfl (.tmp 56) (.tmp 59) rfl (some b2) p k2 rfl rfl ?_ ?_ p (L.take p) rfl ?_ ?_
  · have := Kd.C_take (Kd.C_below HC2.out HF2.out.bel) (m := p) (by omega); rw [List.length_take, Nat.min_eq_left (by omega)] at this; exact this
  · simp; omega
  · simp; omega
  intro A1 c1 w3 HU1
  go_wp2_with (first
    | ((with_reducible refine gate_builtin (b := .append) (xs := #[.tmp 61, .tmp 63]) rfl ?_); at_builtin; refine wp_rowI (ys := [(1, 0, 0)]) ⟨HU1.out.below ((Below.refl _ _).alloc (Nat.le_refl _) _)⟩ rfl (.tmp 61) (.tmp 63) rfl (some ⟨w3.heap.size, 0, none⟩) 1 1 rfl rfl (k3_lit [(1, 0, 0)] (by simp) (blk_new _ _)) (by simp; omega) (p + 1) (L.take p ++ [(1, 0, 0)]) rfl (by simp; omega) ?_; intro A2 c2 w4 HU2)
    | ((with_reducible refine gate_builtin (b := .append) (xs := #[.tmp 65, .tmp 68]) rfl ?_); at_builtin; refine Hold.out ?_))
  refine Hold.mk ?_
  have HF4 := Aside0.mk (HF2.out.below HU2.out.bel)
  refine wp_rowI (ys := L.drop p) HU2 rfl (.tmp 65) (.tmp 68) rfl _ _ _ rfl rfl ?_ ?_ (L.length + 1) (insL L p (1, 0, 0)) ?_ ?_ ?_
  · have hd := Kd.C_drop (Kd.C_below HC2.out HF4.out.bel) (m := p) (by omega) hk2
    rw [if_neg (by omega), List.length_drop] at hd
    have hs : kInstr.sz = 3 := rfl
    rw [hs] at hd
    exact hd
  · simp; omega
  · unfold insL
    simp
  · exact insL_len (by omega)
  intro A3 c3 w5 HU3
  have HF5 := Aside0.mk (HF2.out.below HU3.out.bel)
  have HL5 := Aside0.mk (HL2.out.below HU3.out.bel)
  clear hz0 hz1 hz2 hz3 hz4 hz5 hz6 hx3 HU1 HU2 HF4
  have hz0 := blk_cell HF5.out.box 0
  have hz1 := blk_cell HF5.out.box 1
  have hz2 := blk_cell HF5.out.box 2
  have hz3 := blk_cell HF5.out.box 3
  have hz4 := blk_cell HF5.out.box 4
  have hz5 := blk_cell HF5.out.box 5
  have hz6 := blk_cell HF5.out.box 6
  clear hq3
  obtain ⟨hs, gs, e1, e2, e3, e4, e7, e5, e6⟩ : ∃ hs gs, heightsT M k = .ok hs ∧ heightsT (withL M k (insL L p (1, 0, 0))) k = .ok gs ∧ gs.length = hs.length + 1 ∧ p < hs.length ∧ hs.length ≤ 200 ∧ rd gs p = rd hs p ∧ gs.take p ++ gs.drop (p + 1) = hs := by
    have := nop_rows (a := p) hkl HV.out (by rw [HLL.out]; exact hfull) (by rw [HLL.out]; exact hpl)
    rwa [HLL.out] at this
  have HE1 := Aside0.mk e1
  have HE2 := Aside0.mk e2
  have HE3 := Aside0.mk e3
  have HE4 := Aside0.mk e4
  have HE5 := Aside0.mk e5
  have HE6 := Aside0.mk e6
  have HE7 := Aside0.mk e7
  clear e1 e2 e3 e4 e5 e6 e7
  obtain ⟨L1, hL1⟩ : ∃ L1, insL L p (1, 0, 0) = L1 := ⟨_, rfl⟩
  have HMC7 := Aside0.mk (show MCan (withL M k (insL L p (1, 0, 0))) from by have := insL_can (a := p) (x := (1, 0, 0)) HMC.out hkl (show Can 0 from ⟨by omega, by omega⟩); rwa [HLL.out] at this)
  rw [hL1] at HE2 HU3 HMC7
  have HLN := Aside0.mk (show L1.length = L.length + 1 by rw [← hL1]; exact insL_len (by omega))
  clear hL1
  have hq := heights_calls M { h with a3 := some ad } k w5 (HMA.out.below HF5.out.bel) HMC.out HL5.out
  dsimp only [Md.cells] at hq
  go_wp2_with fail
  refine hq.mono ?_
  clear hq
  rw [HE1.out]
  rintro e w6 ⟨hb6, v6, rfl, hR6⟩
  obtain ⟨A6, c6, rfl, hc6, hC6⟩ := Kd.R_reads hR6
  have HF6 := Aside0.mk (HF5.out.below hb6)
  have HL6 := Aside0.mk (HL5.out.below hb6)
  have HU6 := Aside0.mk (HU3.out.below hb6)
  have HC6 := Aside0.mk hC6
  clear hR6 hC6 hb6 HF5 HL5 HU3 hz0 hz1 hz2 hz3 hz4 hz5 hz6
  have hz0 := blk_cell HF6.out.box 0
  have hz1 := blk_cell HF6.out.box 1
  have hz2 := blk_cell HF6.out.box 2
  have hz3 := blk_cell HF6.out.box 3
  have hz4 := blk_cell HF6.out.box 4
  have hz5 := blk_cell HF6.out.box 5
  have hz6 := blk_cell HF6.out.box 6
  have hwc := with_calls M { h with a3 := some ad } k A3 c3 L1 w6 (HMA.out.below HF6.out.bel) hkl hfew (Kd.R_reads' HU6.out.row).2.2 (by rw [HLN.out]; exact (Kd.R_reads' HU6.out.row).2.1)
  dsimp only [Md.cells] at hwc
  rw [HLN.out] at hwc
  go_wp2_with fail
  refine hwc.mono ?_
  clear hwc
  rintro e w7 ⟨hb7, h7, rfl, hM7⟩
  have HF7 := Aside0.mk (HF6.out.bel.trans (hb7.mono HF6.out.bel.size))
  have HL7 := Aside0.mk (HL6.out.below hb7)
  have HC7 := Aside0.mk (Kd.C_below HC6.out hb7)
  have HM7 := Aside0.mk hM7
  clear hb7 hM7 HF6 HL6 HC6 hz0 hz1 hz2 hz3 hz4 hz5 hz6
  go_wp2_with fail
  refine (heights_calls (withL M k L1) h7 k w7 HM7.out HMC7.out HL7.out).mono ?_
  rw [HE2.out]
  rintro e w8 ⟨hb8, v8, rfl, hR8⟩
  obtain ⟨A8, c8, rfl, hc8, hC8⟩ := Kd.R_reads hR8
  have HF8 := Aside0.mk (HF7.out.trans (hb8.mono HF7.out.size))
  have hc7 := Kd.C_below HC7.out hb8
  obtain ⟨⟨hq0, hq1, hq2, hq3, hq4⟩, hl1, hx1, hx2, hcn, hl2, hpc, hpl2, hq5, hw1, hw2, hb1, hb3⟩ := nop_arith HE3.out HE4.out HE7.out hc8
  have hpg := HE4.out
  have hpg2 : p < gs.length := hpc
  obtain ⟨a6, h6, hx6⟩ := Kd.at_int hc7 (p : Int) hp0 (Int.ofNat_lt.2 hpg)
  obtain ⟨a8, h8, hx8⟩ := Kd.at_int hC8 (p : Int) hp0 (Int.ofNat_lt.2 hpg2)
  rw [HE5.out] at hx8
  subst h6
  subst h8
  rw [Int.toNat_natCast] at hx6 hx8
  have HC8 := Aside0.mk (And.intro hc7 hC8)
  obtain ⟨t, ht⟩ : ∃ t, rd hs (p : Int) = t := ⟨_, rfl⟩
  rw [ht] at hx6 hx8
  have hb2 : (t == t) = true := by simp
  have HL1 := Aside0.mk hl1
  have HX1 := Aside0.mk hx1
  have HX2 := Aside0.mk hx2
  have HL2' := Aside0.mk hl2
  clear hb8 hR8 hC8 hc7 ht hl1 hx1 hx2 hl2 HF7 HL7 HC7
  go_wp2_with fail
  go_quiet (fail)
  have HQ5 := Aside0.mk hq5
  clear hw1 hw2 hb1 hb3 hq5
  have hT := Kd.C_take (Kd.C_below HC8.out.2 (pw_below_drewN (Below.refl _ _) nq)) (m := p) hpl2
  rw [HL1.out] at hT
  have HT := Aside0.mk hT
  have hD := Kd.C_drop (Kd.C_below HC8.out.2 (pw_below_drewN (Below.refl _ _) nq)) (m := p + 1) hpc hc8
  rw [if_neg hcn, HL2'.out] at hD
  have hsz : (Kd.int .i64).sz = 1 := rfl
  rw [hsz, Nat.mul_one] at hD
  have HD := Aside0.mk hD
  clear hT hD hsz
  go_upto_region 19 with ((with_reducible refine gate_builtin (b := .append) (xs := #[.tmp 110, .tmp 113]) rfl ?_); at_builtin; refine wp_rowN (ys := gs.take p) ⟨Un.init _⟩ rfl (.tmp 110) (.tmp 113) rfl (some a8) p c8 rfl rfl HT.out HX1.out p (gs.take p) rfl HL1.out ?_; intro A1 c1 w9 HV1)
  have hq5 := HQ5.out
  go_wp2_with (first
    | ((with_reducible refine gate_builtin (b := .append) (xs := #[.tmp 115, .tmp 119]) rfl ?_); at_builtin; refine Hold.out ?_)
    | fail)
  refine Hold.mk ?_
  refine wp_rowN (ys := gs.drop (p + 1)) HV1 rfl (.tmp 115) (.tmp 119) rfl (some (a8.add (p + 1))) (gs.length - (p + 1)) (c8 - (p + 1)) rfl rfl (Kd.C_below HD.out HV1.out.bel) HX2.out hs.length hs HE6.out rfl ?_
  intro A9 c9 w10 HV2
  have hb10 : Below w8.heap.size w8 w10 := (pw_below_drewN (Below.refl _ _) nq).trans (HV2.out.bel.mono (by simp))
  have HR2 := Aside0.mk (Kd.R_reads' HV2.out.row)
  have hnum := numbers_calls A9 c9 hs (some a6) c6 hs w10 HR2.out.2.2 HR2.out.2.1 (Kd.C_below HC8.out.1 hb10) hc6
  rw [decide_eq_true (rfl : hs = hs)] at hnum
  have HF10 := Aside0.mk (HF8.out.trans (hb10.mono HF8.out.size))
  clear hb10 hq0 hq1 hq2 hq3 hq4 hq5
  go_wp2_with fail
  refine hnum.mono ?_
  rintro e w11 ⟨rfl, hd11⟩
  have HB11 := Aside0.mk (HF10.out.trans (hd11.below.mono HF10.out.size))
  clear hnum hd11
  go_wp2_with fail
  go_ret
  exact ⟨rfl, HB11.out⟩
theorem ValidNop_walk (H : ModAt w h M) (C : MCan M) (hf : Can f) (ha : Can a) (hl : Laid w) :
    Calls Tryd.prog 4 #[.agg (M.cells h), .int .i64 f, .int .i64 a] w fun e w' => e = .returned (.bool true) ∧ Below w.heap.size w w' := by
  cases hv : validT M with
  | some x => exact ValidNop_bad M h f a w H C hf ha hl (q := x.1) (at_ := x.2) hv
  | none =>
    by_cases hn : M.funcs.length = 0
    · exact ValidNop_none M h f a w H C hf ha hl hv (by rw [hn]; rfl)
    · have hk := pick_lt (c := f) (show 0 < M.funcs.length by omega)
      obtain ⟨h200, _, _, _, hne, _⟩ := valid_body hv hk
      have hfew := ((limM_iff M).1 (valid_none hv).1.lim).1.2.2.1
      by_cases hfull : 200 ≤ (M.funcs.getD (pickN f M.funcs.length) zF).2.2.2.length
      · exact ValidNop_full M h f a w H C hf ha hl hv (by omega) hfew hne h200 hfull
      · exact ValidNop_main M h f a w H C hf ha hl hv (by omega) hfew hne h200 (by omega)
end
end Go.Proofs.YtjjhhmchomabeaaDoor.Valid
namespace Go.Proofs.YtjjhhmchomabeaaDoor.ValidNop
open Go.ChangeShapes Go.WideShapes Go.RowKit Go.Proofs.YtjjhhmchomabeaaDoorW.PrintWords Go.Proofs.YtjjhhmchomabeaaDoor.Valid
set_option linter.unusedVariables false
set_option linter.unusedSimpArgs false

/-! ### the row -/
theorem own : ownKnob Tryd.prog.godebug = none := by kernel_rfl
theorem et : Tryd.prog.globalNamed "errors.errorType" = some 0 := by kernel_rfl
theorem rt : (Tryd.prog.cutTypes.find? (·.1 == "internal/reflectlite.rtype")).map (·.2) = some 112 := by kernel_rfl
theorem oneRow : ((List.range 174).filter fun t => Tryd.prog.rowNamed t [101, 114, 114, 111, 114]) = [38] := by kernel_rfl
theorem size : Tryd.prog.types.size = 174 := by kernel_rfl
theorem handle_of_laid {W : World} (h : laidMetH Tryd.prog [("errors.errorType", Rows.laid_errors_errorType)] W) : Laid W := by
  have h' : laidMet Tryd.prog [] W ∧ handlesMet Tryd.prog [("errors.errorType", Rows.laid_errors_errorType)] W := h
  obtain ⟨name, u, ty, e1, e2, e3, e4, e5⟩ := h'.2 _ (List.mem_singleton.2 rfl)
  have en : name = [101, 114, 114, 111, 114] := (Option.some.inj e1).symm
  subst en
  obtain rfl := Option.some.inj (rt.symm.trans e2)
  have hm : ty ∈ (List.range 174).filter fun t => Tryd.prog.rowNamed t [101, 114, 114, 111, 114] := List.mem_filter.2 ⟨List.mem_range.2 (by rw [← size]; exact e3), e4⟩
  rw [oneRow] at hm
  obtain rfl := List.mem_singleton.1 hm
  have hh : typeHandle Tryd.prog 38 = .pointer (some ⟨1, 38, none⟩) := by kernel_rfl
  rw [hh] at e5
  unfold Laid
  simpa using World.var?_cell et e5 0
noncomputable def laidWorld (os : Os) : World :=
  let w0 := World.holding Tryd.prog os ⟨#[], #[], []⟩
  { w0 with heap := w0.heap.modify 0 fun
      | .cells _ t frozen => .cells #[.iface 112 (.agg #[.pointer (some ⟨1, 38, none⟩)])] t frozen
      | o => o }
theorem laidWorld_met (os : Os) (args : Array Value) : laidMetH Tryd.prog [("errors.errorType", Rows.laid_errors_errorType)] ((laidWorld os).forCall (fun _ _ => 0) ⟨#[], args, []⟩).memory :=
  laidMetH_of_parts (laidMet_nil _ _) (by kernel_rfl)
theorem can_wf {n : Int} (h : (Lit.int .i64 n).wf = true) : Valid.Can n := by
  simp [Lit.wf, IntKind.has, IntKind.min, IntKind.max, IntKind.bits, IntKind.signed] at h
  unfold Valid.Can
  omega
set_option maxRecDepth 100000 in
theorem lifted (os : Os) (started : os.Started) (H : Type) (enc : TypeId × Value → H) :
    ReturnsInHanded {} Tryd.checked os 4 .any (fun w args => (Rows.validNopSpec.pre enc Tryd.prog Tryd.f4 [] false w args ∧ laidMetH Tryd.prog [("errors.errorType", Rows.laid_errors_errorType)] w) ∧ sizedMet enc Tryd.prog Tryd.f4 (OpenSpec.ofChange Rows.validNopSpec) false w args)
      (Rows.validNopSpec.post enc Tryd.prog Tryd.f4 false true false false) := by
  refine returnsInHanded_of_change_and (C := Tryd.checked) (X := fun w _ => laidMetH Tryd.prog [("errors.errorType", Rows.laid_errors_errorType)] w) (fun _ _ _ hh h => h.of_heap hh) own started (by kernel_rfl) Tryd.func4
    (ChangeSpec.witness_at (enc := enc) (C := Tryd.checked) (os := os) (X := fun w _ => laidMetH Tryd.prog [("errors.errorType", Rows.laid_errors_errorType)] w) false (laidWorld os) #[.agg #[.slice none 0 0, .slice none 0 0, .slice none 0 0, .int .i64 0, .int .i64 0, .slice none 0 0, .slice none 0 0], .int .i64 0, .int .i64 0] 9 rfl (by kernel_rfl) (by kernel_rfl) (by kernel_rfl) (by kernel_rfl) (by kernel_rfl) (laidWorld_met os _)) ?_
  intro W base args ds gs before hval0 hW _ hsz0 hL _
  have hval : ∀ (j : Nat) t v, Tryd.f4.params[j]? = some t → args[j]? = some v → Value.okWide Tryd.prog W .any base t v := hval0
  have hW' := hW
  obtain ⟨p, q, hA0, hV0, rfl, hfz, hnd⟩ := hW
  have hA : DataW.TrodAll enc Tryd.prog W 0 (fun _ => true) true Tryd.f4.params.toList args.toList ds p := hA0
  have hV : DataW.TrodVars enc Tryd.prog W (fun _ => true) [] gs q := hV0
  rw [Tryd.params4] at hA hval
  obtain ⟨v0, vs0, d0, ds0, p0, q0, hargs, rfl, rfl, h0, r0⟩ := trodAll_cons hA
  obtain ⟨v1, vs1, d1, ds1, p1, q1, rfl, rfl, rfl, h1, r1⟩ := trodAll_cons r0
  obtain ⟨v2, vs2, d2, ds2, p2, q2, rfl, rfl, rfl, h2, r2⟩ := trodAll_cons r1
  obtain ⟨rfl, rfl, rfl⟩ := trodAll_nil r2
  obtain rfl : args = #[v0, v1, v2] := by cases args; simp_all
  obtain ⟨a1, rfl, rfl, rfl, w1⟩ := open_int Tryd.underlying3 (hval 1 3 v1 rfl rfl) h1
  obtain ⟨a2, rfl, rfl, rfl, w2⟩ := open_int Tryd.underlying3 (hval 2 3 v2 rfl rfl) h2
  have hg := handle_of_laid hL
  obtain ⟨rfl, rfl⟩ : gs = [] ∧ q = [] := by
    cases gs with
    | nil => exact ⟨rfl, hV⟩
    | cons g r => exact absurd hV (by intro h; cases h)
  obtain ⟨cs1, rfl, _⟩ := okWide_struct Tryd.underlying29 (hval 0 29 v0 rfl rfl)
  obtain ⟨M, hd, rfl, hMod, k1, k2, k3⟩ := ModRow.read_mod h0
  have hC : Valid.MCan M := ⟨fun g hg => ⟨fun t ht => can_wf ((k1 g hg).1 t ht), fun t ht => can_wf ((k1 g hg).2 t ht)⟩, fun f hf => ⟨fun t ht => can_wf ((k2 f hf).1 t ht), fun x hx => can_wf ((k2 f hf).2 x hx)⟩, fun g hg => can_wf (k3 g hg)⟩
  have e1 : Rows.validNopSpec.fn H ([d0, .lit (.int .i64 a1), .lit (.int .i64 a2)] ++ []) = { results := [.lit (.bool true)], args := [d0, .lit (.int .i64 a1), .lit (.int .i64 a2)] } := by simp [Rows.validNopSpec]
  refine (ValidNop_walk M hd a1 a2 W hMod hC (can_wf w1) (can_wf w2) hg).mono fun e W' ⟨he, hw⟩ => ?_
  subst he
  refine ⟨_, rfl, _, _, _, [], p0 ++ [], [], hW', ?_, ?_, ?_, hw.frame _, fun h => by cases h⟩
  · rw [e1]; exact trodAll_mk1 (shut_bool Tryd.underlying4 true)
  · rw [e1]; exact trodAll_mk3 (ModRow.back_mod h0 hw) (shut_int Tryd.underlying3 w1) (shut_int Tryd.underlying3 w2)
  · rw [e1]; rfl
theorem row_holds : Rows.ValidNopSaid :=
  OpenClaim.holds_of_wide 4 Tryd.f4 rfl rfl rfl rfl rfl rfl rfl ⟨rfl, rfl, rfl, rfl, rfl⟩ rfl rfl rfl rfl rfl (by kernel_rfl) Tryd.func4 (by kernel_rfl)
    (of_decide_eq_true (by kernel_rfl)) (by unfold Func.isWrapper; rw [if_neg (of_decide_eq_false (by kernel_rfl))]; exact ⟨rfl, rfl⟩)
    (fun os started H enc _ => lifted os started H enc)
/-- ValidNop, tied to the program's text. -/
theorem validNop_holds : Rows.ValidNopCardSaid :=
  Claim7.holds_tied_plain_at .later [] [.handle] true (true, "a375214d61d745cf21eebd2106e1b8edc3a89ab9356fe3b512f1620f8a12f14f") true
    row_holds (fun _ h => by cases h) (by kernel_rfl) (fun _ h => by cases h) validNop_row_tie rfl ⟨rfl, rfl⟩ (by kernel_rfl) rfl
    (fun f fn hf hfn => by
      obtain rfl : f = 4 := Option.some.inj ((show Tryd.prog.funcNamed "oubliette/oubliettelaw07.ValidNop" = some 4 by kernel_rfl).symm.trans hf) |>.symm
      obtain rfl : fn = Tryd.f4 := (Option.some.inj (Tryd.func4.symm.trans hfn)).symm
      exact ⟨by kernel_rfl, fun j t ht => by
        rw [Tryd.params4] at ht
        have h3 : t = 29 ∨ t = 3 := by
          rcases j with _ | _ | _ | j
          · exact .inl (by simpa using ht.symm)
          · exact .inr (by simpa using ht.symm)
          · exact .inr (by simpa using ht.symm)
          · simp at ht
        rcases h3 with rfl | rfl
        · exact (show Tryd.prog.wantsStandIn 29 = false by kernel_rfl)
        · exact (show Tryd.prog.wantsStandIn 3 = false by kernel_rfl)⟩)
    (by kernel_rfl)
end Go.Proofs.YtjjhhmchomabeaaDoor.ValidNop
namespace Go.Proofs.YtjjhhmchomabeaaDoor
/-- The card, under a short name, for the claim. -/
theorem validNop_holds : Rows.ValidNopCardSaid := ValidNop.validNop_holds
end Go.Proofs.YtjjhhmchomabeaaDoor
#print axioms Go.Proofs.YtjjhhmchomabeaaDoor.validNop_holds
