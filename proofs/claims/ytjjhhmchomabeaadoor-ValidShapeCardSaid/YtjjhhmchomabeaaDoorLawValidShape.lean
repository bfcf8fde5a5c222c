/- What is valid has indices that there are, memories that there are where they are used, and data that lie within them; a height is -1 to 16 (ValidShape): whatever the module is, the law returns true. -/
import Derived.Test.YtjjhhmchomabeaaDoorValShP
import Derived.Test.YtjjhhmchomabeaaDoorModAt
import Derived.Test.YtjjhhmchomabeaaDoorCards
import Derived.Test.YtjjhhmchomabeaaDoorTie
import Derived.ChangeSame
import Derived.ChangeVars
import Derived.JoinedOf
import Derived.RowKit
import Derived.RowKitTokens
import Derived.LaidLaws
import Derived.LaidHandle
import Derived.Stop.Joined
import Derived.SevenTiedAt
namespace Go.Proofs.YtjjhhmchomabeaaDoor.Valid
open Go.RowKit Go.Proofs.YtjjhhmchomabeaaDoorW.PrintWords Go.Proofs.YtjjhhmchomabeaaDoorW.PrintLast Go.Proofs.YtjjhhmchomabeaaDoor.Mem Go.Proofs.YtjjhhmchomabeaaDoor.Nest
set_option linter.unusedVariables false
set_option linter.unusedSimpArgs false

theorem box_new {w W : World} {M : Md} {h : Hd} (H : Aside0 (FW w M h W)) (cs : Array Value) (t : TypeId) : (W.alloc (.cells cs t)).heap[W.heap.size]? = some (.cells cs t (0, 0)) := blk_new W _
section
variable (M : Md) (h : Hd) (w : World)
set_option maxHeartbeats 4000000 in
set_option maxRecDepth 100000 in
theorem ValidShape_bad (H : ModAt w h M) (C : MCan M) (hl : Laid w) {q at_ : Int} (hv : validT M = some (q, at_)) :
    Calls Tryd.prog 7 #[.agg (M.cells h)] w fun e w' => e = .returned (.bool true) ∧ Below w.heap.size w w' := by
  have HM := Aside0.mk H
  have HMC := Aside0.mk C
  have HF0 := Aside0.mk (show FW w M h (w.alloc (.cells (M.cells h) 29)) from ⟨below_alloc (Below.refl _ _) (Nat.le_refl _) _, blk_new _ _⟩)
  have HL := Aside0.mk (hl.below HF0.out.bel)
  have HV := Aside0.mk hv
  have hl1 := H.l1
  have hl3 := H.l3
  have hl4 := H.l4
  have hl5 := H.l5
  clear H C hl hv
  go_enter Tryd.func7, Tryd.ntmps7
  go_wp2_with fail
  refine (examples_calls _ HL.out).mono ?_
  rintro e w1 ⟨rfl, hb1⟩
  have HF1 := Aside0.mk (HF0.out.below hb1)
  have HL1 := Aside0.mk (HL.out.below hb1)
  have hz0 := blk_cell HF1.out.box 0
  have hz1 := blk_cell HF1.out.box 1
  have hz2 := blk_cell HF1.out.box 2
  have hz3 := blk_cell HF1.out.box 3
  have hz4 := blk_cell HF1.out.box 4
  have hz5 := blk_cell HF1.out.box 5
  have hz6 := blk_cell HF1.out.box 6
  clear hb1 HF0 HL
  go_wp2_with fail
  refine (valid_calls M h _ (HM.out.below HF1.out.bel) HMC.out).mono ?_
  rw [HV.out]
  rintro e w2 ⟨hb2, v, rfl, b, rfl, _, _⟩
  have HF2 := Aside0.mk (HF1.out.below hb2)
  clear hz0 hz1 hz2 hz3 hz4 hz5 hz6 hb2
  have hz0 := blk_cell HF2.out.box 0
  have hz1 := blk_cell HF2.out.box 1
  have hz2 := blk_cell HF2.out.box 2
  have hz3 := blk_cell HF2.out.box 3
  have hz4 := blk_cell HF2.out.box 4
  have hz5 := blk_cell HF2.out.box 5
  have hz6 := blk_cell HF2.out.box 6
  go_wp2_with fail
  go_ret
  exact ⟨rfl, HF2.out.bel⟩
set_option maxHeartbeats 4000000 in
set_option maxRecDepth 100000 in
theorem ValidShape_main (H : ModAt w h M) (C : MCan M) (hl : Laid w) (hv : validT M = none) :
    Calls Tryd.prog 7 #[.agg (M.cells h)] w fun e w' => e = .returned (.bool true) ∧ Below w.heap.size w w' := by
  obtain ⟨a1, a2, a3, a4, a5, c1, c2, c3, c4, c5⟩ := h
  have HM := Aside0.mk H
  have HMC := Aside0.mk C
  have HF0 := Aside0.mk (show FW w M ⟨a1, a2, a3, a4, a5, c1, c2, c3, c4, c5⟩ (w.alloc (.cells (M.cells ⟨a1, a2, a3, a4, a5, c1, c2, c3, c4, c5⟩) 29)) from ⟨below_alloc (Below.refl _ _) (Nat.le_refl _) _, blk_new _ _⟩)
  have HL := Aside0.mk (hl.below HF0.out.bel)
  have HV := Aside0.mk hv
  have hl1 := H.l1
  have hl3 := H.l3
  have hl4 := H.l4
  have hl5 := H.l5
  dsimp only at hl1 hl3 hl4 hl5
  clear H C hl hv
  go_enter Tryd.func7, Tryd.ntmps7
  go_wp2_with fail
  refine (examples_calls _ HL.out).mono ?_
  rintro e w1 ⟨rfl, hb1⟩
  have HF1 := Aside0.mk (HF0.out.below hb1)
  have HL1 := Aside0.mk (HL.out.below hb1)
  have hz0 := blk_cell HF1.out.box 0
  have hz1 := blk_cell HF1.out.box 1
  have hz2 := blk_cell HF1.out.box 2
  have hz3 := blk_cell HF1.out.box 3
  have hz4 := blk_cell HF1.out.box 4
  have hz5 := blk_cell HF1.out.box 5
  have hz6 := blk_cell HF1.out.box 6
  clear hb1 HF0 HL
  go_wp2_with fail
  refine (valid_calls M ⟨a1, a2, a3, a4, a5, c1, c2, c3, c4, c5⟩ _ (HM.out.below HF1.out.bel) HMC.out).mono ?_
  rw [HV.out]
  rintro e w2 ⟨hb2, v, rfl, rfl⟩
  have HF2 := Aside0.mk (HF1.out.below hb2)
  have HL2 := Aside0.mk (HL1.out.below hb2)
  clear hz0 hz1 hz2 hz3 hz4 hz5 hz6 hb2 HL1
  have HFIT := Aside0.mk (valid_none HV.out).1
  have hlim := (limM_iff M).1 HFIT.out.lim
  have h8f : M.funcs.length ≤ 8 := hlim.1.2.2.1
  have h8d : M.data.length ≤ 8 := hlim.1.2.2.2.2
  clear hlim
  go_wp2_with fail
  go_loopw [4] (fun iv wr => ∃ k : Nat, k ≤ M.data.length ∧ iv = .int .i64 k ∧ Aside0 (FW w M ⟨a1, a2, a3, a4, a5, c1, c2, c3, c4, c5⟩ wr) ∧ Aside0 (Laid wr)) (fun iv _ => M.data.length - (intOf iv).toNat)
  case atStart => exact ⟨0, Nat.zero_le _, rfl, HF2, HL2⟩
  case round =>
    obtain ⟨k, hk, rfl, HFK, HLK⟩ := hrel
    clear HF2 HL2 HF1
    have hz0 := blk_cell HFK.out.box 0
    have hz1 := blk_cell HFK.out.box 1
    have hz2 := blk_cell HFK.out.box 2
    have hz3 := blk_cell HFK.out.box 3
    have hz4 := blk_cell HFK.out.box 4
    have hz5 := blk_cell HFK.out.box 5
    have hz6 := blk_cell HFK.out.box 6
    by_cases hlt : k < M.data.length
    · obtain ⟨ad, ha, hv0, hv1, hv2⟩ := at_data (HM.out.below HFK.out.bel).data k hlt
      dsimp only at ha
      subst ha
      obtain ⟨⟨dm, da, db⟩, hel⟩ : ∃ el, M.data.getD k zD = el := ⟨_, rfl⟩
      have HDM := Aside0.mk (show (dm, da, db) ∈ M.data by rw [← hel]; exact getD_mem _ _ _ hlt)
      rw [hel] at hv0 hv1 hv2
      dsimp only at hv0 hv1 hv2
      have HLD := Aside0.mk (show liesD M (dm, da, db) = true from by
        have h := (valid_none HV.out).2
        unfold refsM at h
        simp only [Bool.and_eq_true, List.all_eq_true] at h
        exact h.2 _ HDM.out)
      have HFE := Aside0.mk (HFK.out.below (below_alloc (Below.refl _ _) (Nat.le_refl _) (.cells #[.int .i64 dm, .int .i64 da, .string db] 54)))
      have HLE := Aside0.mk (HLK.out.below (below_alloc (Below.refl _ _) (Nat.le_refl _) (.cells #[.int .i64 dm, .int .i64 da, .string db] 54)))
      have hbx := box_new HFK #[.int .i64 dm, .int .i64 da, .string db] 54
      have hy0 := blk_cell hbx 0
      have hy1 := blk_cell hbx 1
      have hy2 := blk_cell hbx 2
      clear hel hbx
      have hdm : dm = 0 ∨ dm = 1 := by
        have h := HFIT.out.argAll.2.2.2.2 (dm, da, db) HDM.out
        unfold dataB at h
        simp only [Bool.and_eq_true, Bool.or_eq_true, decide_eq_true_eq] at h
        exact h.1
      have hg0 := blk_cell HFE.out.box 0
      have hg1 := blk_cell HFE.out.box 1
      have hg2 := blk_cell HFE.out.box 2
      have hg3 := blk_cell HFE.out.box 3
      have hg4 := blk_cell HFE.out.box 4
      have hg5 := blk_cell HFE.out.box 5
      have hg6 := blk_cell HFE.out.box 6
      rcases hdm with rfl | rfl
      · skip
        rcases c1 : (M.m0 == 0) with _ | _
        · have c1b : (M.m0 != 0) = true := by show (!(M.m0 == 0)) = _; rw [c1]; rfl
          have hrg : 3 ≤ M.m0 ∧ M.m0 ≤ 12 := by have h := ((limM_iff M).1 HFIT.out.lim).2.2.2.1; have h2 : M.m0 ≠ 0 := (fun e => by rw [e] at c1; cases c1); omega
          obtain ⟨hlo, hhi⟩ := hrg
          have c2 : wrap64 (da + (db.size : Int)) ≤ wrap64 (2 ^ (M.m0).toNat) := by
            have h := HLD.out
            unfold liesD memOf at h
            simp only [Bool.and_eq_true, decide_eq_true_eq] at h
            exact h.2
          have c3 : decide (wrap64 (da + (db.size : Int)) > wrap64 (2 ^ (M.m0).toNat)) = false := decide_eq_false (Int.not_lt.2 c2)
          clear c2
          go_wp2_with fail
          go_quiet (fail)
          go_wp2_with fail
          go_roundw
          case rel => exact ⟨k + 1, by omega, by go_num, Aside0.mk (HFE.out.below (pw_below_drewN (Below.refl _ _) _)), Aside0.mk (HLE.out.below (pw_below_drewN (Below.refl _ _) _))⟩
          case measure => simp [intOf]; omega
        · exfalso
          have h := HLD.out
          unfold liesD memOf at h
          simp [c1] at h
      · skip
        rcases c1 : (M.m1 == 0) with _ | _
        · have c1b : (M.m1 != 0) = true := by show (!(M.m1 == 0)) = _; rw [c1]; rfl
          have hrg : 3 ≤ M.m1 ∧ M.m1 ≤ 12 := by have h := ((limM_iff M).1 HFIT.out.lim).2.2.2.2; have h2 : M.m1 ≠ 0 := (fun e => by rw [e] at c1; cases c1); omega
          obtain ⟨hlo, hhi⟩ := hrg
          have c2 : wrap64 (da + (db.size : Int)) ≤ wrap64 (2 ^ (M.m1).toNat) := by
            have h := HLD.out
            unfold liesD memOf at h
            simp only [Bool.and_eq_true, decide_eq_true_eq] at h
            exact h.2
          have c3 : decide (wrap64 (da + (db.size : Int)) > wrap64 (2 ^ (M.m1).toNat)) = false := decide_eq_false (Int.not_lt.2 c2)
          clear c2
          go_wp2_with fail
          go_quiet (fail)
          go_wp2_with fail
          go_roundw
          case rel => exact ⟨k + 1, by omega, by go_num, Aside0.mk (HFE.out.below (pw_below_drewN (Below.refl _ _) _)), Aside0.mk (HLE.out.below (pw_below_drewN (Below.refl _ _) _))⟩
          case measure => simp [intOf]; omega
        · exfalso
          have h := HLD.out
          unfold liesD memOf at h
          simp [c1] at h
    · have HFD := HFK
      have HLD := HLK
      go_wp2_with fail
      clear hlt hk HFK HLK hz0 hz1 hz2 hz3 hz4 hz5 hz6
      go_loopw [6] (fun iv wr => ∃ i : Nat, i ≤ M.funcs.length ∧ iv = .int .i64 i ∧ Aside0 (FW w M ⟨a1, a2, a3, a4, a5, c1, c2, c3, c4, c5⟩ wr) ∧ Aside0 (Laid wr)) (fun iv _ => M.funcs.length - (intOf iv).toNat)
      case atStart => exact ⟨0, Nat.zero_le _, rfl, HFD, HLD⟩
      case round =>
        obtain ⟨i, hi, rfl, HFI, HLI⟩ := hrel
        clear HFD HLD
        have hz0 := blk_cell HFI.out.box 0
        have hz1 := blk_cell HFI.out.box 1
        have hz2 := blk_cell HFI.out.box 2
        have hz3 := blk_cell HFI.out.box 3
        have hz4 := blk_cell HFI.out.box 4
        have hz5 := blk_cell HFI.out.box 5
        have hz6 := blk_cell HFI.out.box 6
        by_cases hlt : i < M.funcs.length
        · obtain ⟨ad, B1, k1, B2, k2, hA, hx0, hx1, hx2, hx3, hk1, hk2, hC1, hC2⟩ := at_func HM.out.funcs i hlt
          dsimp only at hA
          subst hA
          have hx0 := (HFI.out.bel.cell (World.block_lt_of_cell? _ _ hx0)).trans hx0
          have hx1 := (HFI.out.bel.cell (World.block_lt_of_cell? _ _ hx1)).trans hx1
          have hx2 := (HFI.out.bel.cell (World.block_lt_of_cell? _ _ hx2)).trans hx2
          have hx3 := (HFI.out.bel.cell (World.block_lt_of_cell? _ _ hx3)).trans hx3
          obtain ⟨⟨sg, tr, loc, L⟩, hF⟩ : ∃ F, M.funcs.getD i zF = F := ⟨_, rfl⟩
          have HFF := Aside0.mk hF
          have HMEM := Aside0.mk (show (sg, tr, loc, L) ∈ M.funcs by rw [← hF]; exact getD_mem _ _ _ hlt)
          obtain ⟨hs, q1, q2, q3, q4⟩ := shape_heights HMC.out HV.out hlt
          have hsg0 : 0 ≤ sg := by
            have O := HFIT.out.fnok HMC.out (refs_sg (valid_none HV.out).2) i hlt
            rw [hF] at O
            exact O.sig.1
          have hl200 : L.length ≤ 200 := by have := (valid_body HV.out hlt).1; rw [hF] at this; exact this
          have hl8 : loc.length ≤ 8 := by
            have O := HFIT.out.fnok HMC.out (refs_sg (valid_none HV.out).2) i hlt
            rw [hF] at O
            exact O.locs
          rw [hF] at hx0 hx1 hx2 hx3 hk1 hk2 hC1 hC2 q2 q4
          dsimp only at hx0 hx1 hx2 hx3 hk1 hk2 hC1 hC2 q2 q4
          obtain ⟨sn, rfl⟩ := Int.eq_ofNat_of_zero_le hsg0
          have hsl : sn < M.sigs.length := by omega
          obtain ⟨ad1, D1, j1, D2, j2, hA1, hs0, hs1, hj1, hj2, _, _⟩ := at_sig HM.out.sigs sn hsl
          dsimp only at hA1
          subst hA1
          have hp4 : (M.sigs.getD sn zS).1.length ≤ 4 := ((limM_iff M).1 HFIT.out.lim).2.1 _ (getD_mem _ _ _ hsl)
          obtain ⟨S, hS⟩ : ∃ S, M.sigs.getD sn zS = S := ⟨_, rfl⟩
          have HSS := Aside0.mk hS
          rw [hS] at hs0 hs1 hj1 hj2 hp4
          have HS0 := Aside0.mk hs0
          clear hS hs0 hs1 hj2
          have HQ1 := Aside0.mk q1
          have HQ3 := Aside0.mk q3
          have HC2 := Aside0.mk hC2
          have HFX := Aside0.mk (HFI.out.below (below_alloc (Below.refl _ _) (Nat.le_refl _) (.cells #[.int .i64 sn, .bool tr, .slice B1 loc.length k1, .slice B2 L.length k2] 43)))
          have HLX := Aside0.mk (HLI.out.below (below_alloc (Below.refl _ _) (Nat.le_refl _) (.cells #[.int .i64 sn, .bool tr, .slice B1 loc.length k1, .slice B2 L.length k2] 43)))
          have HBX := Aside0.mk (box_new HFI #[.int .i64 sn, .bool tr, .slice B1 loc.length k1, .slice B2 L.length k2] 43)
          have hq := heights_calls M _ i _ (HM.out.below HFX.out.bel) HMC.out HLX.out
          dsimp only [Md.cells] at hq
          rw [HQ1.out] at hq
          have hg0 := blk_cell HFX.out.box 0
          have hg1 := blk_cell HFX.out.box 1
          have hg2 := blk_cell HFX.out.box 2
          have hg3 := blk_cell HFX.out.box 3
          have hg4 := blk_cell HFX.out.box 4
          have hg5 := blk_cell HFX.out.box 5
          have hg6 := blk_cell HFX.out.box 6
          clear hF q1 q3 hC1 hC2 hsg0
          go_wp2_with fail
          refine hq.mono ?_
          rintro e w6 ⟨hb6, v6, rfl, hR6⟩
          obtain ⟨A6, c6, rfl, hc6, hC6⟩ := Kd.R_reads hR6
          rw [q2] at hc6 hC6
          have HF6 := Aside0.mk (HFX.out.below hb6)
          have HB6 := Aside0.mk (blk_below HBX.out hb6)
          have HH6 := Aside0.mk hC6
          have HL6 := Aside0.mk (HLX.out.below hb6)
          have hf0 := blk_cell HB6.out 0
          have hf1 := blk_cell HB6.out 1
          have hf2 := blk_cell HB6.out 2
          have hf3 := blk_cell HB6.out 3
          clear hq hR6 hC6 hb6 HFI HLI HFX HLX HBX hx0 hx1 hx2 hx3 hk1 hz0 hz1 hz2 hz3 hz4 hz5 hz6 hg0 hg1 hg2 hg3 hg4 hg5 hg6
          rw [q2]
          have hz0 := blk_cell HF6.out.box 0
          have hz1 := blk_cell HF6.out.box 1
          have hz2 := blk_cell HF6.out.box 2
          have hz3 := blk_cell HF6.out.box 3
          have hz4 := blk_cell HF6.out.box 4
          have hz5 := blk_cell HF6.out.box 5
          have hz6 := blk_cell HF6.out.box 6
          have hs1 : decide (M.sigs.length ≤ sn) = false := decide_eq_false (by omega)
          have hs2 : decide ((M.sigs.length : Int) ≤ (sn : Int)) = false := decide_eq_false (by omega)
          have hs0 := (HF6.out.bel.cell (World.block_lt_of_cell? _ _ HS0.out)).trans HS0.out
          obtain ⟨mn, hmn⟩ : ∃ mn : Int, (S.1.length : Int) + (loc.length : Int) = mn := ⟨_, rfl⟩
          have hw1 : wrap64 ((S.1.length : Int) + (loc.length : Int)) = mn := by unfold wrap64; omega
          have hw2 : IntKind.i64.wrap ((S.1.length : Int) + (loc.length : Int)) = mn := by rw [IntWalk.i64_left]; exact hw1
          have HMN := Aside0.mk hmn
          clear hmn q2
          go_wp2_with fail
          go_quiet (fail)
          rename_i nq _
          have HF7 := Aside0.mk (HF6.out.below (pw_below_drewN (Below.refl _ _) nq))
          have HB7 := Aside0.mk (blk_below HB6.out (pw_below_drewN (Below.refl _ _) nq))
          have HH7 := Aside0.mk (Kd.C_below HH6.out (pw_below_drewN (Below.refl _ _) nq))
          have HL7 := Aside0.mk (HL6.out.below (pw_below_drewN (Below.refl _ _) nq))
          clear HF6 HB6 HH6 HL6 hs0 hw1 hw2 hs1 hs2 hf0 hf1 hf2 hf3 hz0 hz1 hz2 hz3 hz4 hz5 hz6
          go_wp2_with fail
          go_loopw [11] (fun tv wl => ∃ t : Nat, t ≤ L.length ∧ tv = .int .i64 t ∧ Aside0 (FW w M ⟨some ad1, a2, some ad, a4, a5, c1, c2, c3, c4, c5⟩ wl) ∧ Aside0 (Laid wl) ∧ Aside0 (wl.heap[wr.heap.size]? = some (.cells #[.int .i64 sn, .bool tr, .slice B1 loc.length k1, .slice B2 L.length k2] 43 (0, 0))) ∧ Aside0 ((Kd.int .i64).C wl A6 L.length hs)) (fun tv _ => L.length - (intOf tv).toNat)
          case atStart => exact ⟨0, Nat.zero_le _, rfl, HF7, HL7, HB7, HH7⟩
          case round =>
            obtain ⟨t, ht, rfl, HFT, HLT, HBT, HHT⟩ := hrel
            clear HF7 HB7 HH7 HL7
            have hz0 := blk_cell HFT.out.box 0
            have hz1 := blk_cell HFT.out.box 1
            have hz2 := blk_cell HFT.out.box 2
            have hz3 := blk_cell HFT.out.box 3
            have hz4 := blk_cell HFT.out.box 4
            have hz5 := blk_cell HFT.out.box 5
            have hz6 := blk_cell HFT.out.box 6
            have hf0 := blk_cell HBT.out 0
            have hf1 := blk_cell HBT.out 1
            have hf2 := blk_cell HBT.out 2
            have hf3 := blk_cell HBT.out 3
            by_cases htl : t < L.length
            · obtain ⟨a2, e2, hy0, hy1, hy2⟩ := at_k3 (Kd.C_below HC2.out HFT.out.bel) (t : Int) (by omega) (by omega)
              subst e2
              rw [Int.toNat_natCast] at hy0 hy1 hy2
              have hxm : at3 L (t : Int) ∈ L := by unfold at3; rw [Int.toNat_natCast]; exact getD_mem _ _ _ htl
              obtain ⟨⟨op, n, m⟩, hx⟩ : ∃ x, at3 L (t : Int) = x := ⟨_, rfl⟩
              rw [hx] at hy0 hy1 hy2 hxm
              dsimp only at hy0 hy1 hy2
              have HCN := Aside0.mk ((HMC.out.funcs _ HMEM.out).2 _ hxm)
              have HSH := Aside0.mk (shape_instr HMC.out HV.out hlt (x := (op, n, m)) (by rw [HFF.out]; exact hxm))
              rw [HFF.out] at HSH
              obtain ⟨a6, e6, hx6⟩ := Kd.at_int HHT.out (t : Int) (by omega) (by omega)
              subst e6
              rw [Int.toNat_natCast] at hx6
              have h16 := HQ3.out (rd hs (t : Int)) (by unfold rd; rw [Int.toNat_natCast]; exact getD_mem _ _ _ (by have := Kd.C_len HHT.out; omega))
              obtain ⟨tv, htv⟩ : ∃ tv, rd hs (t : Int) = tv := ⟨_, rfl⟩
              rw [htv] at hx6 h16
              have hlo : decide (tv < -1) = false := decide_eq_false (by omega)
              have hhi : decide (tv > 16) = false := decide_eq_false (by omega)
              have HFA := Aside0.mk (HFT.out.below (below_alloc (Below.refl _ _) (Nat.le_refl _) (.cells #[.int .i64 op, .int .i64 n, .int .i64 m] 45)))
              have HLA := Aside0.mk (HLT.out.below (below_alloc (Below.refl _ _) (Nat.le_refl _) (.cells #[.int .i64 op, .int .i64 n, .int .i64 m] 45)))
              have HBA := Aside0.mk (blk_alloc HBT.out (.cells #[.int .i64 op, .int .i64 n, .int .i64 m] 45))
              have HHA := Aside0.mk (Kd.C_alloc HHT.out (.cells #[.int .i64 op, .int .i64 n, .int .i64 m] 45))
              have HXA := Aside0.mk (box_new HFT #[.int .i64 op, .int .i64 n, .int .i64 m] 45)
              have hx6a := cell_al hx6 (.cells #[.int .i64 op, .int .i64 n, .int .i64 m] 45)
              have HX6 := Aside0.mk hx6a
              have hb1 := blk_cell HXA.out 1
              have hca := callee_calls M _ n w _ HM.out HFA.out.bel HCN.out
              dsimp only [Md.cells] at hca
              have hg0 := blk_cell HFA.out.box 0
              have hg1 := blk_cell HFA.out.box 1
              have hg2 := blk_cell HFA.out.box 2
              have hg3 := blk_cell HFA.out.box 3
              have hg4 := blk_cell HFA.out.box 4
              have hg5 := blk_cell HFA.out.box 5
              have hg6 := blk_cell HFA.out.box 6
              clear hx hxm h16 htv hx6 hx6a
              go_wp2_with fail
              refine hca.mono ?_
              clear hca
              obtain ⟨⟨⟨sp, sr⟩, ho, tr2, ok⟩, hr⟩ : ∃ r, callee M n = r := ⟨_, rfl⟩
              rw [hr]
              have HOK := Aside0.mk (show op = 16 → ok = true from fun e => by have := HSH.out.call e; dsimp only at this; rw [hr] at this; exact this)
              rintro e w5 ⟨hb5, E1, i1, E2, i2, rfl, hi1, hi2, hE1, hE2⟩
              have HF5 := Aside0.mk ((HFA.out.below hb5).below (below_alloc (Below.refl _ _) (Nat.le_refl _) (.cells #[.slice E1 sp.length i1, .slice E2 sr.length i2] 32)))
              have HL5 := Aside0.mk ((HLA.out.below hb5).below (below_alloc (Below.refl _ _) (Nat.le_refl _) (.cells #[.slice E1 sp.length i1, .slice E2 sr.length i2] 32)))
              have HB5 := Aside0.mk (blk_alloc (blk_below HBA.out hb5) (.cells #[.slice E1 sp.length i1, .slice E2 sr.length i2] 32))
              have HH5 := Aside0.mk (Kd.C_alloc (Kd.C_below HHA.out hb5) (.cells #[.slice E1 sp.length i1, .slice E2 sr.length i2] 32))
              have hbx := blk_alloc (blk_below HXA.out hb5) (.cells #[.slice E1 sp.length i1, .slice E2 sr.length i2] 32)
              have hc0 := blk_cell hbx 0
              have hc1 := blk_cell hbx 1
              have hc2 := blk_cell hbx 2
              have hx6 := cell_al ((hb5.cell (World.block_lt_of_cell? _ _ HX6.out)).trans HX6.out) (.cells #[.slice E1 sp.length i1, .slice E2 sr.length i2] 32)
              clear hb5 hE1 hE2 hr hbx hb1 hg0 hg1 hg2 hg3 hg4 hg5 hg6 HFA HLA HBA HHA HXA HX6 HFT HLT HBT HHT hy0 hy1 hy2 hf0 hf1 hf2 hf3 hz0 hz1 hz2 hz3 hz4 hz5 hz6
              have hz0 := blk_cell HF5.out.box 0
              have hz1 := blk_cell HF5.out.box 1
              have hz2 := blk_cell HF5.out.box 2
              have hz3 := blk_cell HF5.out.box 3
              have hz4 := blk_cell HF5.out.box 4
              have hz5 := blk_cell HF5.out.box 5
              have hz6 := blk_cell HF5.out.box 6
              have hSH := HSH.out
              have hOK := HOK.out
              clear HSH HOK
              by_cases h32 : op = 32
              · subst h32
                have hn := hSH.loc (by simp)
                dsimp only at hn
                rw [Int.toNat_natCast, HSS.out, Int.natCast_add, HMN.out] at hn
                have hc : decide (n ≥ mn) = false := decide_eq_false (by omega)
                clear hSH hOK hn
                go_wp2_with fail
                go_roundw
                case rel => exact ⟨t + 1, by omega, by go_num, HF5, HL5, HB5, HH5⟩
                case measure => simp [intOf]; omega
              by_cases h33 : op = 33
              · subst h33
                have hn := hSH.loc (by simp)
                dsimp only at hn
                rw [Int.toNat_natCast, HSS.out, Int.natCast_add, HMN.out] at hn
                have hc : decide (n ≥ mn) = false := decide_eq_false (by omega)
                clear hSH hOK hn
                go_wp2_with fail
                go_roundw
                case rel => exact ⟨t + 1, by omega, by go_num, HF5, HL5, HB5, HH5⟩
                case measure => simp [intOf]; omega
              by_cases h34 : op = 34
              · subst h34
                have hn := hSH.loc (by simp)
                dsimp only at hn
                rw [Int.toNat_natCast, HSS.out, Int.natCast_add, HMN.out] at hn
                have hc : decide (n ≥ mn) = false := decide_eq_false (by omega)
                clear hSH hOK hn
                go_wp2_with fail
                go_roundw
                case rel => exact ⟨t + 1, by omega, by go_num, HF5, HL5, HB5, HH5⟩
                case measure => simp [intOf]; omega
              by_cases h35 : op = 35
              · subst h35
                have hn := hSH.glob (by simp)
                dsimp only at hn
                have hc : decide (n ≥ (M.globals.length : Int)) = false := decide_eq_false (by omega)
                clear hSH hOK hn
                go_wp2_with fail
                go_roundw
                case rel => exact ⟨t + 1, by omega, by go_num, HF5, HL5, HB5, HH5⟩
                case measure => simp [intOf]; omega
              by_cases h36 : op = 36
              · subst h36
                have hn := hSH.glob (by simp)
                dsimp only at hn
                have hc : decide (n ≥ (M.globals.length : Int)) = false := decide_eq_false (by omega)
                clear hSH hOK hn
                go_wp2_with fail
                go_roundw
                case rel => exact ⟨t + 1, by omega, by go_num, HF5, HL5, HB5, HH5⟩
                case measure => simp [intOf]; omega
              by_cases h40 : op = 40
              · subst h40
                obtain ⟨hm, h01⟩ := hSH.mem (by simp)
                dsimp only at hm h01
                clear hSH hOK
                rcases h01 with rfl | rfl
                · have hc : (M.m0 == 0) = false := beq_eq_false_iff_ne.2 hm
                  clear hm
                  go_wp2_with fail
                  go_roundw
                  case rel => exact ⟨t + 1, by omega, by go_num, HF5, HL5, HB5, HH5⟩
                  case measure => simp [intOf]; omega
                · have hc : (M.m1 == 0) = false := beq_eq_false_iff_ne.2 hm
                  clear hm
                  go_wp2_with fail
                  go_roundw
                  case rel => exact ⟨t + 1, by omega, by go_num, HF5, HL5, HB5, HH5⟩
                  case measure => simp [intOf]; omega
              by_cases h41 : op = 41
              · subst h41
                obtain ⟨hm, h01⟩ := hSH.mem (by simp)
                dsimp only at hm h01
                clear hSH hOK
                rcases h01 with rfl | rfl
                · have hc : (M.m0 == 0) = false := beq_eq_false_iff_ne.2 hm
                  clear hm
                  go_wp2_with fail
                  go_roundw
                  case rel => exact ⟨t + 1, by omega, by go_num, HF5, HL5, HB5, HH5⟩
                  case measure => simp [intOf]; omega
                · have hc : (M.m1 == 0) = false := beq_eq_false_iff_ne.2 hm
                  clear hm
                  go_wp2_with fail
                  go_roundw
                  case rel => exact ⟨t + 1, by omega, by go_num, HF5, HL5, HB5, HH5⟩
                  case measure => simp [intOf]; omega
              by_cases h54 : op = 54
              · subst h54
                obtain ⟨hm, h01⟩ := hSH.mem (by simp)
                dsimp only at hm h01
                clear hSH hOK
                rcases h01 with rfl | rfl
                · have hc : (M.m0 == 0) = false := beq_eq_false_iff_ne.2 hm
                  clear hm
                  go_wp2_with fail
                  go_roundw
                  case rel => exact ⟨t + 1, by omega, by go_num, HF5, HL5, HB5, HH5⟩
                  case measure => simp [intOf]; omega
                · have hc : (M.m1 == 0) = false := beq_eq_false_iff_ne.2 hm
                  clear hm
                  go_wp2_with fail
                  go_roundw
                  case rel => exact ⟨t + 1, by omega, by go_num, HF5, HL5, HB5, HH5⟩
                  case measure => simp [intOf]; omega
              by_cases h55 : op = 55
              · subst h55
                obtain ⟨hm, h01⟩ := hSH.mem (by simp)
                dsimp only at hm h01
                clear hSH hOK
                rcases h01 with rfl | rfl
                · have hc : (M.m0 == 0) = false := beq_eq_false_iff_ne.2 hm
                  clear hm
                  go_wp2_with fail
                  go_roundw
                  case rel => exact ⟨t + 1, by omega, by go_num, HF5, HL5, HB5, HH5⟩
                  case measure => simp [intOf]; omega
                · have hc : (M.m1 == 0) = false := beq_eq_false_iff_ne.2 hm
                  clear hm
                  go_wp2_with fail
                  go_roundw
                  case rel => exact ⟨t + 1, by omega, by go_num, HF5, HL5, HB5, HH5⟩
                  case measure => simp [intOf]; omega
              by_cases h16 : op = 16
              · subst h16
                have hc := hOK rfl
                subst hc
                clear hSH hOK
                go_wp2_with fail
                go_roundw
                case rel => exact ⟨t + 1, by omega, by go_num, HF5, HL5, HB5, HH5⟩
                case measure => simp [intOf]; omega
              have g32 : (op == 32) = false := beq_eq_false_iff_ne.2 h32
              have g33 : (op == 33) = false := beq_eq_false_iff_ne.2 h33
              have g34 : (op == 34) = false := beq_eq_false_iff_ne.2 h34
              have g35 : (op == 35) = false := beq_eq_false_iff_ne.2 h35
              have g36 : (op == 36) = false := beq_eq_false_iff_ne.2 h36
              have g40 : (op == 40) = false := beq_eq_false_iff_ne.2 h40
              have g41 : (op == 41) = false := beq_eq_false_iff_ne.2 h41
              have g54 : (op == 54) = false := beq_eq_false_iff_ne.2 h54
              have g55 : (op == 55) = false := beq_eq_false_iff_ne.2 h55
              have g16 : (op == 16) = false := beq_eq_false_iff_ne.2 h16
              clear hSH hOK h32 h33 h34 h35 h36 h40 h41 h54 h55 h16
              go_wp2_with fail
              go_roundw
              case rel => exact ⟨t + 1, by omega, by go_num, HF5, HL5, HB5, HH5⟩
              case measure => simp [intOf]; omega
            · have HFE := HFT
              have HLE := HLT
              go_wp2_with fail
              go_roundw
              case rel => exact ⟨i + 1, by omega, by go_num, HFE, HLE⟩
              case measure => simp [intOf]; omega
        · go_wp2_with fail
          go_ret
          exact ⟨rfl, HFI.out.bel⟩
theorem ValidShape_walk (H : ModAt w h M) (C : MCan M) (hl : Laid w) :
    Calls Tryd.prog 7 #[.agg (M.cells h)] w fun e w' => e = .returned (.bool true) ∧ Below w.heap.size w w' := by
  cases hv : validT M with
  | some x => exact ValidShape_bad M h w H C hl (q := x.1) (at_ := x.2) hv
  | none => exact ValidShape_main M h w H C hl hv
end
end Go.Proofs.YtjjhhmchomabeaaDoor.Valid
namespace Go.Proofs.YtjjhhmchomabeaaDoor.ValidShape
open Go.ChangeShapes Go.WideShapes Go.RowKit Go.Proofs.YtjjhhmchomabeaaDoorW.PrintWords Go.Proofs.YtjjhhmchomabeaaDoor.Valid
set_option linter.unusedVariables false
set_option linter.unusedSimpArgs false

/-! ### the row -/
theorem own : ownKnob Tryd.prog.godebug = none := by kernel_rfl
theorem et : Tryd.prog.globalNamed "errors.errorType" = some 0 := by kernel_rfl
theorem rt : (Tryd.prog.cutTypes.find? (·.1 == "internal/reflectlite.rtype")).map (·.2) = some 112 := by kernel_rfl
theorem oneRow : ((List.range 174).filter fun t => Tryd.prog.rowNamed t [101, 114, 114, 111, 114]) = [38] := by kernel_rfl
theorem size : Tryd.prog.types.size = 174 := by kernel_rfl
theorem handle_of_laid {W : World} (h : laidMetH Tryd.prog [("errors.errorType", Rows.laid_errors_errorType)] W) : Laid W := by
  have h' : laidMet Tryd.prog [] W ∧ handlesMet Tryd.prog [("errors.errorType", Rows.laid_errors_errorType)] W := h
  obtain ⟨name, u, ty, e1, e2, e3, e4, e5⟩ := h'.2 _ (List.mem_singleton.2 rfl)
  have en : name = [101, 114, 114, 111, 114] := (Option.some.inj e1).symm
  subst en
  obtain rfl := Option.some.inj (rt.symm.trans e2)
  have hm : ty ∈ (List.range 174).filter fun t => Tryd.prog.rowNamed t [101, 114, 114, 111, 114] := List.mem_filter.2 ⟨List.mem_range.2 (by rw [← size]; exact e3), e4⟩
  rw [oneRow] at hm
  obtain rfl := List.mem_singleton.1 hm
  have hh : typeHandle Tryd.prog 38 = .pointer (some ⟨1, 38, none⟩) := by kernel_rfl
  rw [hh] at e5
  unfold Laid
  simpa using World.var?_cell et e5 0
noncomputable def laidWorld (os : Os) : World :=
  let w0 := World.holding Tryd.prog os ⟨#[], #[], []⟩
  { w0 with heap := w0.heap.modify 0 fun
      | .cells _ t frozen => .cells #[.iface 112 (.agg #[.pointer (some ⟨1, 38, none⟩)])] t frozen
      | o => o }
theorem laidWorld_met (os : Os) (args : Array Value) : laidMetH Tryd.prog [("errors.errorType", Rows.laid_errors_errorType)] ((laidWorld os).forCall (fun _ _ => 0) ⟨#[], args, []⟩).memory :=
  laidMetH_of_parts (laidMet_nil _ _) (by kernel_rfl)
theorem can_wf {n : Int} (h : (Lit.int .i64 n).wf = true) : Valid.Can n := by
  simp [Lit.wf, IntKind.has, IntKind.min, IntKind.max, IntKind.bits, IntKind.signed] at h
  unfold Valid.Can
  omega
set_option maxRecDepth 100000 in
theorem lifted (os : Os) (started : os.Started) (H : Type) (enc : TypeId × Value → H) :
    ReturnsInHanded {} Tryd.checked os 7 .any (fun w args => (Rows.validShapeSpec.pre enc Tryd.prog Tryd.f7 [] false w args ∧ laidMetH Tryd.prog [("errors.errorType", Rows.laid_errors_errorType)] w) ∧ sizedMet enc Tryd.prog Tryd.f7 (OpenSpec.ofChange Rows.validShapeSpec) false w args)
      (Rows.validShapeSpec.post enc Tryd.prog Tryd.f7 false true false false) := by
  refine returnsInHanded_of_change_and (C := Tryd.checked) (X := fun w _ => laidMetH Tryd.prog [("errors.errorType", Rows.laid_errors_errorType)] w) (fun _ _ _ hh h => h.of_heap hh) own started (by kernel_rfl) Tryd.func7
    (ChangeSpec.witness_at (enc := enc) (C := Tryd.checked) (os := os) (X := fun w _ => laidMetH Tryd.prog [("errors.errorType", Rows.laid_errors_errorType)] w) false (laidWorld os) #[.agg #[.slice none 0 0, .slice none 0 0, .slice none 0 0, .int .i64 0, .int .i64 0, .slice none 0 0, .slice none 0 0]] 7 rfl (by kernel_rfl) (by kernel_rfl) (by kernel_rfl) (by kernel_rfl) (by kernel_rfl) (laidWorld_met os _)) ?_
  intro W base args ds gs before hval0 hW _ hsz0 hL _
  have hval : ∀ (j : Nat) t v, Tryd.f7.params[j]? = some t → args[j]? = some v → Value.okWide Tryd.prog W .any base t v := hval0
  have hW' := hW
  obtain ⟨p, q, hA0, hV0, rfl, hfz, hnd⟩ := hW
  have hA : DataW.TrodAll enc Tryd.prog W 0 (fun _ => true) true Tryd.f7.params.toList args.toList ds p := hA0
  have hV : DataW.TrodVars enc Tryd.prog W (fun _ => true) [] gs q := hV0
  rw [Tryd.params7] at hA hval
  obtain ⟨v0, vs0, d0, ds0, p0, q0, hargs, rfl, rfl, h0, r0⟩ := trodAll_cons hA
  obtain ⟨rfl, rfl, rfl⟩ := trodAll_nil r0
  obtain rfl : args = #[v0] := by cases args; simp_all
  have hg := handle_of_laid hL
  obtain ⟨rfl, rfl⟩ : gs = [] ∧ q = [] := by
    cases gs with
    | nil => exact ⟨rfl, hV⟩
    | cons g r => exact absurd hV (by intro h; cases h)
  obtain ⟨cs1, rfl, _⟩ := okWide_struct Tryd.underlying29 (hval 0 29 v0 rfl rfl)
  obtain ⟨M, hd, rfl, hMod, k1, k2, k3⟩ := ModRow.read_mod h0
  have hC : Valid.MCan M := ⟨fun g hg => ⟨fun t ht => can_wf ((k1 g hg).1 t ht), fun t ht => can_wf ((k1 g hg).2 t ht)⟩, fun f hf => ⟨fun t ht => can_wf ((k2 f hf).1 t ht), fun x hx => can_wf ((k2 f hf).2 x hx)⟩, fun g hg => can_wf (k3 g hg)⟩
  have e1 : Rows.validShapeSpec.fn H ([d0] ++ []) = { results := [.lit (.bool true)], args := [d0] } := by simp [Rows.validShapeSpec]
  refine (ValidShape_walk M hd W hMod hC hg).mono fun e W' ⟨he, hw⟩ => ?_
  subst he
  refine ⟨_, rfl, _, _, _, [], p0, [], by rw [List.append_nil] at hW'; exact hW', ?_, ?_, ?_, hw.frame _, fun h => by cases h⟩
  · rw [e1]; exact trodAll_mk1 (shut_bool Tryd.underlying4 true)
  · rw [e1]; exact trodAll_mk1 (ModRow.back_mod h0 hw) 
  · rw [e1]; rfl
theorem row_holds : Rows.ValidShapeSaid :=
  OpenClaim.holds_of_wide 7 Tryd.f7 rfl rfl rfl rfl rfl rfl rfl ⟨rfl, rfl, rfl, rfl, rfl⟩ rfl rfl rfl rfl rfl (by kernel_rfl) Tryd.func7 (by kernel_rfl)
    (of_decide_eq_true (by kernel_rfl)) (by unfold Func.isWrapper; rw [if_neg (of_decide_eq_false (by kernel_rfl))]; exact ⟨rfl, rfl⟩)
    (fun os started H enc _ => lifted os started H enc)
/-- ValidShape, tied to the program's text. -/
theorem validShape_holds : Rows.ValidShapeCardSaid :=
  Claim7.holds_tied_plain_at .later [] [.handle] true (true, "a375214d61d745cf21eebd2106e1b8edc3a89ab9356fe3b512f1620f8a12f14f") true
    row_holds (fun _ h => by cases h) (by kernel_rfl) (fun _ h => by cases h) validShape_row_tie rfl ⟨rfl, rfl⟩ (by kernel_rfl) rfl
    (fun f fn hf hfn => by
      obtain rfl : f = 7 := Option.some.inj ((show Tryd.prog.funcNamed "oubliette/oubliettelaw07.ValidShape" = some 7 by kernel_rfl).symm.trans hf) |>.symm
      obtain rfl : fn = Tryd.f7 := (Option.some.inj (Tryd.func7.symm.trans hfn)).symm
      exact ⟨by kernel_rfl, fun j t ht => by
        rw [Tryd.params7] at ht
        have h3 : t = 29 := by
          rcases j with _ | j
          · simpa using ht.symm
          · simp at ht
        subst h3
        exact (show Tryd.prog.wantsStandIn 29 = false by kernel_rfl)⟩)
    (by kernel_rfl)
end Go.Proofs.YtjjhhmchomabeaaDoor.ValidShape
namespace Go.Proofs.YtjjhhmchomabeaaDoor
/-- The card, under a short name, for the claim. -/
theorem validShape_holds : Rows.ValidShapeCardSaid := ValidShape.validShape_holds
end Go.Proofs.YtjjhhmchomabeaaDoor
#print axioms Go.Proofs.YtjjhhmchomabeaaDoor.validShape_holds
