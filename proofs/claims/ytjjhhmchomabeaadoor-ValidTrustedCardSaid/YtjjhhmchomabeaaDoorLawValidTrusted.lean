/- If all of its functions are trusted a valid module is valid; none that is valid has a Declassify in a function that is not trusted, nor a call of a trusted one there (ValidTrusted): whatever the module is, the law returns true. -/
import Derived.Test.YtjjhhmchomabeaaDoorValTrP
import Derived.Test.YtjjhhmchomabeaaDoorModAt
import Derived.Test.YtjjhhmchomabeaaDoorCards
import Derived.Test.YtjjhhmchomabeaaDoorTie
import Derived.ChangeSame
import Derived.ChangeVars
import Derived.JoinedOf
import Derived.RowKit
import Derived.RowKitTokens
import Derived.LaidLaws
import Derived.LaidHandle
import Derived.Stop.Joined
import Derived.SevenTiedAt
namespace Go.Proofs.YtjjhhmchomabeaaDoor.Valid
open Go.RowKit Go.Proofs.YtjjhhmchomabeaaDoorW.PrintWords Go.Proofs.YtjjhhmchomabeaaDoorW.PrintLast Go.Proofs.YtjjhhmchomabeaaDoor.Mem Go.Proofs.YtjjhhmchomabeaaDoor.Nest
set_option linter.unusedVariables false
set_option linter.unusedSimpArgs false

theorem box_new {w W : World} {M : Md} {h : Hd} (H : Aside0 (FW w M h W)) (cs : Array Value) (t : TypeId) : (W.alloc (.cells cs t)).heap[W.heap.size]? = some (.cells cs t (0, 0)) := blk_new W _
theorem fw_set {w W : World} {M : Md} {h : Hd} (H : Aside0 (FW w M h W)) {g : Nat} (hg : w.heap.size ≤ g) (hn : w.heap.size ≠ g) (o : Nat) (v : Value) : FW w M h (W.setCell ⟨g, o, none⟩ v) := ⟨H.out.bel.setCell (p := ⟨g, o, none⟩) hg v, blk_far H.out.box hn v⟩
theorem trust_mod {W : World} {M : Md} {h : Hd} {A : Option Addr} {c e b : Nat} {ok : Nat → Prop} (H : ModAt W h M) (hN : Kd.N kFunc e W b ok (.slice A M.funcs.length c) (M.funcs.map trF)) : ModAt W { h with a3 := A, c3 := c } (trustM M) :=
  have hr := Kd.N_reads' hN
  ⟨H.sigs, H.imports, hr.2.2, H.globals, H.data, H.l1, H.l2, by show (M.funcs.map trF).length ≤ c; rw [List.length_map]; exact hr.2.1, H.l4, H.l5⟩
section
variable (M : Md) (h : Hd) (w : World)
set_option maxHeartbeats 4000000 in
set_option maxRecDepth 100000 in
theorem ValidTrusted_bad (H : ModAt w h M) (C : MCan M) (hl : Laid w) {q at_ : Int} (hv : validT M = some (q, at_)) :
    Calls Tryd.prog 6 #[.agg (M.cells h)] w fun e w' => e = .returned (.bool true) ∧ Below w.heap.size w w' := by
  have HM := Aside0.mk H
  have HMC := Aside0.mk C
  have HF0 := Aside0.mk (show FW w M h (w.alloc (.cells (M.cells h) 29)) from ⟨below_alloc (Below.refl _ _) (Nat.le_refl _) _, blk_new _ _⟩)
  have HL := Aside0.mk (hl.below HF0.out.bel)
  have hl3 := H.l3
  have hq3 := H.funcs.2.1
  have HV := Aside0.mk hv
  clear H C hl hv
  go_enter Tryd.func6, Tryd.ntmps6
  go_wp2_with fail
  refine (examples_calls _ HL.out).mono ?_
  rintro e w1 ⟨rfl, hb1⟩
  have HF1 := Aside0.mk (HF0.out.below hb1)
  have HL1 := Aside0.mk (HL.out.below hb1)
  have hz0 := blk_cell HF1.out.box 0
  have hz1 := blk_cell HF1.out.box 1
  have hz2 := blk_cell HF1.out.box 2
  have hz3 := blk_cell HF1.out.box 3
  have hz4 := blk_cell HF1.out.box 4
  have hz5 := blk_cell HF1.out.box 5
  have hz6 := blk_cell HF1.out.box 6
  clear hb1 HF0 HL
  go_wp2_with fail
  refine (valid_calls M h _ (HM.out.below HF1.out.bel) HMC.out).mono ?_
  rw [HV.out]
  rintro e w2 ⟨hb2, v, rfl, b, rfl, _, _⟩
  have HF2 := Aside0.mk (HF1.out.below hb2)
  clear hz0 hz1 hz2 hz3 hz4 hz5 hz6 hb2
  have hz0 := blk_cell HF2.out.box 0
  have hz1 := blk_cell HF2.out.box 1
  have hz2 := blk_cell HF2.out.box 2
  have hz3 := blk_cell HF2.out.box 3
  have hz4 := blk_cell HF2.out.box 4
  have hz5 := blk_cell HF2.out.box 5
  have hz6 := blk_cell HF2.out.box 6
  go_wp2_with fail
  go_ret
  exact ⟨rfl, HF2.out.bel⟩
set_option maxHeartbeats 4000000 in
set_option maxRecDepth 100000 in
theorem ValidTrusted_main (H : ModAt w h M) (C : MCan M) (hl : Laid w) (hv : validT M = none) (hfew : M.funcs.length ≤ 8) :
    Calls Tryd.prog 6 #[.agg (M.cells h)] w fun e w' => e = .returned (.bool true) ∧ Below w.heap.size w w' := by
  have HM := Aside0.mk H
  have HMC := Aside0.mk C
  have HF0 := Aside0.mk (show FW w M h (w.alloc (.cells (M.cells h) 29)) from ⟨below_alloc (Below.refl _ _) (Nat.le_refl _) _, blk_new _ _⟩)
  have HL := Aside0.mk (hl.below HF0.out.bel)
  have hl3 := H.l3
  have hq3 := H.funcs.2.1
  have HV := Aside0.mk hv
  clear H C hl hv
  go_enter Tryd.func6, Tryd.ntmps6
  go_wp2_with fail
  refine (examples_calls _ HL.out).mono ?_
  rintro e w1 ⟨rfl, hb1⟩
  have HF1 := Aside0.mk (HF0.out.below hb1)
  have HL1 := Aside0.mk (HL.out.below hb1)
  have hz0 := blk_cell HF1.out.box 0
  have hz1 := blk_cell HF1.out.box 1
  have hz2 := blk_cell HF1.out.box 2
  have hz3 := blk_cell HF1.out.box 3
  have hz4 := blk_cell HF1.out.box 4
  have hz5 := blk_cell HF1.out.box 5
  have hz6 := blk_cell HF1.out.box 6
  clear hb1 HF0 HL
  go_wp2_with fail
  refine (valid_calls M h _ (HM.out.below HF1.out.bel) HMC.out).mono ?_
  rw [HV.out]
  rintro e w2 ⟨hb2, v, rfl, rfl⟩
  have HF2 := Aside0.mk (HF1.out.below hb2)
  clear hz0 hz1 hz2 hz3 hz4 hz5 hz6 hb2
  have hz0 := blk_cell HF2.out.box 0
  have hz1 := blk_cell HF2.out.box 1
  have hz2 := blk_cell HF2.out.box 2
  have hz3 := blk_cell HF2.out.box 3
  have hz4 := blk_cell HF2.out.box 4
  have hz5 := blk_cell HF2.out.box 5
  have hz6 := blk_cell HF2.out.box 6
  have HR := Aside0.mk (Kd.F_below (Kd.C_F heap_func HM.out.funcs) HF2.out.bel)
  go_wp2_with ((with_reducible refine gate_builtin (b := .append) (xs := #[.const (.slice none 0 0), .tmp 20]) rfl ?_); at_builtin; refine Kd.N_append_rows kFunc (w0 := w) (W := w2) w.heap.size rfl (.const (.slice none 0 0)) (.tmp 20) 24 43 (.agg #[.int .i64 0, .bool false, .slice none 0 0, .slice none 0 0]) 64 rfl Tryd.underlying24 infoFn rfl (by decide) (by decide) (.slice none 0 0) [] M.funcs h.a3 M.funcs.length h.c3 (fun _ => True) (fun q => q < w.heap.size) rfl rfl (Kd.N_nil _ _ _ _ _) HR.out (fun q hq => ⟨trivial, by simp [Value.ownBlock]⟩) (fun q hq => trivial) HF2.out.bel HF2.out.bel.size (by simp; omega) ?_; intro v1 w3 hN hB hg hat; rw [List.nil_append] at hN; refine Hold.out ?_)
  refine Hold.mk ?_
  obtain ⟨A, c, rfl, hlc, hC⟩ := Kd.N_reads hN
  have HF3 := Aside0.mk (show FW w M h w3 from ⟨hB, blk_grown HF2.out.box hg (by simp [Value.ownBlock])⟩)
  have HN3 := Aside0.mk hN
  clear hN hB hg hat hC HF2 HR hz0 hz1 hz2 hz3 hz4 hz5 hz6
  go_wp2_with fail
  go_loopw [5] (fun iv wr => ∃ i : Nat, i ≤ M.funcs.length ∧ iv = .int .i64 i ∧ Aside0 (FW w M h wr) ∧ Aside0 (Kd.N kFunc 43 wr w.heap.size (fun _ => True) (.slice A M.funcs.length c) M.funcs)) (fun iv _ => M.funcs.length - (intOf iv).toNat)
  case atStart => exact ⟨0, Nat.zero_le _, rfl, HF3, HN3⟩
  case round =>
    obtain ⟨i, hi, rfl, HFI, HNI⟩ := hrel
    clear HF3 HN3
    by_cases hlt : i < M.funcs.length
    · go_wp2_with fail
      have hin := HNI.out
      have hr := Kd.N_reads' hin
      obtain ⟨ad, B1, k1, B2, k2, hA, hx0, hx1, hx2, hx3, hk1, hk2, hC1, hC2⟩ := at_func hr.2.2 i hlt
      subst hA
      have hl200 : (M.funcs.getD i zF).2.2.2.length ≤ 200 := (valid_body HV.out hlt).1
      clear hx0 hx2 hk1 hk2 hC1 hin hr hx1 hx3 hC2
      go_loopw [6] (fun kv wl => ∃ k : Nat, k ≤ (M.funcs.getD i zF).2.2.2.length ∧ kv = .int .i64 k ∧ Aside0 (FW w M h wl) ∧ Aside0 (Kd.N kFunc 43 wl w.heap.size (fun _ => True) (.slice (some ad) M.funcs.length c) M.funcs)) (fun kv _ => (M.funcs.getD i zF).2.2.2.length - (intOf kv).toNat)
      case atStart => exact ⟨0, Nat.zero_le _, rfl, HFI, HNI⟩
      case round =>
        obtain ⟨k, hk, rfl, HFK, HNK⟩ := hrel
        clear HFI HNI
        have hr := Kd.N_reads' HNK.out
        obtain ⟨ad2, B1, k1, B2, k2, hA, hx0, hx1, hx2, hx3, hk1, hk2, hC1, hC2⟩ := at_func hr.2.2 i hlt
        obtain rfl : ad = ad2 := Option.some.inj hA
        have HMEM := Aside0.mk (getD_mem zF M.funcs i hlt)
        obtain ⟨F, hF⟩ : ∃ F, M.funcs.getD i zF = F := ⟨_, rfl⟩
        have HFF := Aside0.mk hF
        rw [hF] at hk hx1 hx3 hk2 hC2 HMEM hl200
        clear hA hx0 hx2 hk1 hC1 hr
        by_cases hkl : k < F.2.2.2.length
        · obtain ⟨a2, e2, hy0, hy1, hy2⟩ := at_k3 hC2 (k : Int) (by omega) (by omega)
          subst e2
          rw [Int.toNat_natCast] at hy0 hy1 hy2
          have HX := Aside0.mk (show at3 F.2.2.2 (k : Int) ∈ F.2.2.2 from by unfold at3; rw [Int.toNat_natCast]; exact getD_mem _ _ _ hkl)
          obtain ⟨⟨op, n, m⟩, hx⟩ : ∃ x, at3 F.2.2.2 (k : Int) = x := ⟨_, rfl⟩
          rw [hx] at hy0 hy1 hy2 HX
          dsimp only at hy0 hy1 hy2
          have HCN := Aside0.mk ((HMC.out.funcs F HMEM.out).2 _ HX.out)
          obtain ⟨L, hL⟩ : ∃ L, F.2.2.2 = L := ⟨_, rfl⟩
          rw [hL] at hx3 hkl hk2 hl200
          have HLL := Aside0.mk hL
          have hx1a := cell_al hx1 (.cells #[.int .i64 op, .int .i64 n, .int .i64 m] 45)
          have HFA := Aside0.mk (HFK.out.below (below_alloc (Below.refl _ _) (Nat.le_refl _) (.cells #[.int .i64 op, .int .i64 n, .int .i64 m] 45)))
          have HNA := Aside0.mk (Kd.N_alloc HNK.out (.cells #[.int .i64 op, .int .i64 n, .int .i64 m] 45))
          have HBX := Aside0.mk (box_new HFK #[.int .i64 op, .int .i64 n, .int .i64 m] 45)
          clear hL hC2 hk hF hx
          cases htr : F.2.1 with
          | true =>
            rw [htr] at hx1a hx1
            go_wp2_with fail
            go_roundw
            case rel => exact ⟨k + 1, by rw [HFF.out, HLL.out]; omega, by go_num, HFA, HNA⟩
            case measure => rw [HFF.out, HLL.out]; simp [intOf]; omega
          | false =>
            rw [htr] at hx1a hx1
            have HTN := Aside0.mk (trusted_no HV.out hlt (by rw [HFF.out]; exact htr) (x := (op, n, m)) (by rw [HFF.out]; exact HX.out))
            clear htr
            have hb1 := blk_cell HBX.out 1
            have hca := callee_calls M h n w _ HM.out HFA.out.bel HCN.out
            have hz0 := blk_cell HFA.out.box 0
            have hz1 := blk_cell HFA.out.box 1
            have hz2 := blk_cell HFA.out.box 2
            have hz3 := blk_cell HFA.out.box 3
            have hz4 := blk_cell HFA.out.box 4
            have hz5 := blk_cell HFA.out.box 5
            have hz6 := blk_cell HFA.out.box 6
            go_wp2_with fail
            refine hca.mono ?_
            clear hca
            obtain ⟨⟨⟨sp, sr⟩, ho, tr, ok⟩, hr⟩ : ∃ r, callee M n = r := ⟨_, rfl⟩
            rw [hr] at HTN ⊢
            dsimp only at HTN
            rintro e w5 ⟨hb5, D1, j1, D2, j2, rfl, hj1, hj2, hD1, hD2⟩
            have HF5 := Aside0.mk ((HFA.out.below hb5).below (below_alloc (Below.refl _ _) (Nat.le_refl _) (.cells #[.slice D1 sp.length j1, .slice D2 sr.length j2] 32)))
            have HN5 := Aside0.mk (Kd.N_alloc (Kd.N_below HNA.out hb5) (.cells #[.slice D1 sp.length j1, .slice D2 sr.length j2] 32))
            have hbx := blk_alloc (blk_below HBX.out hb5) (.cells #[.slice D1 sp.length j1, .slice D2 sr.length j2] 32)
            have hc0 := blk_cell hbx 0
            have hb41 := HTN.out.1
            have hb16 := HTN.out.2
            clear hb5 hD1 hD2 hr hbx hb1 hz0 hz1 hz2 hz3 hz4 hz5 hz6 HFA HNA HBX hx1 hx1a hx3 hy0 hy1 hy2 HTN
            rcases c16 : (op == 16) with _ | _
            · clear hb16
              go_wp2_with fail
              go_roundw
              case rel => exact ⟨k + 1, by rw [HFF.out, HLL.out]; omega, by go_num, HF5, HN5⟩
              case measure => rw [HFF.out, HLL.out]; simp [intOf]; omega
            · rw [c16, Bool.true_and] at hb16
              subst hb16
              go_wp2_with fail
              go_roundw
              case rel => exact ⟨k + 1, by rw [HFF.out, HLL.out]; omega, by go_num, HF5, HN5⟩
              case measure => rw [HFF.out, HLL.out]; simp [intOf]; omega
        · have HFE := HFK
          have HNE := HNK
          go_wp2_with fail
          go_roundw
          case rel => exact ⟨i + 1, by omega, by go_num, HFE, HNE⟩
          case measure => simp [intOf]; omega
    · have HFE := HFI
      have HNE := HNI
      go_wp2_with fail
      go_loopw [12] (fun jv wl => ∃ j : Nat, j ≤ M.funcs.length ∧ jv = .int .i64 j ∧ Aside0 (FW w M h wl) ∧ Aside0 (Kd.N kFunc 43 wl w.heap.size (fun _ => True) (.slice A M.funcs.length c) (trFirst j M.funcs))) (fun jv _ => M.funcs.length - (intOf jv).toNat)
      case atStart => exact ⟨0, Nat.zero_le _, rfl, HFE, by rw [trFirst_zero]; exact HNE⟩
      case round =>
        obtain ⟨j, hj, rfl, HFJ, HNJ⟩ := hrel
        clear HFI HNI HFE HNE
        by_cases hjl : j < M.funcs.length
        · obtain ⟨g, cap, e, hgb, hgs, _⟩ := Kd.N_form HNJ.out (by rw [trFirst_len]; omega)
          injection e with e1 e2 e3
          subst e1
          clear e2 e3
          obtain ⟨⟨u, hu⟩, hfz, hN2, hg2⟩ := fn_trust HNJ.out j hjl
          rw [trFirst_set hjl] at hN2
          have hne := Kd.N_ne HNJ.out HFJ.out.box (by decide)
          have hng : w.heap.size ≠ g := fun e => hne (by simp [Value.ownBlock, e])
          have HNX := Aside0.mk hN2
          have HFX := Aside0.mk (fw_set HFJ hgb hng (j * 4 + 1) (.bool true))
          clear hne hng hN2 hg2 hgs
          go_wp2_with fail
          go_roundw
          case rel => exact ⟨j + 1, by omega, by go_num, HFX, HNX⟩
          case measure => simp [intOf]; omega
        · have hjj : j = M.funcs.length := by omega
          have HN8 := Aside0.mk (show Kd.N kFunc 43 _ w.heap.size (fun _ => True) (.slice A M.funcs.length c) (M.funcs.map trF) from by have := HNJ.out; rw [hjj, trFirst_all] at this; exact this)
          have HB9 := Aside0.mk (HFJ.out.bel.alloc HFJ.out.bel.size (.cells #[.slice h.a1 M.sigs.length h.c1, .slice h.a2 M.imports.length h.c2, .slice A M.funcs.length c, .int .i64 M.m0, .int .i64 M.m1, .slice h.a4 M.globals.length h.c4, .slice h.a5 M.data.length h.c5] 29))
          have HM9 := Aside0.mk (trust_mod (HM.out.below HB9.out) (Kd.N_alloc HN8.out (.cells #[.slice h.a1 M.sigs.length h.c1, .slice h.a2 M.imports.length h.c2, .slice A M.funcs.length c, .int .i64 M.m0, .int .i64 M.m1, .slice h.a4 M.globals.length h.c4, .slice h.a5 M.data.length h.c5] 29)))
          have hvc := valid_calls (trustM M) { h with a3 := A, c3 := c } _ HM9.out (trust_can HMC.out)
          have hl9 : (trustM M).funcs.length = M.funcs.length := List.length_map ..
          have hs9 : (trustM M).sigs = M.sigs := rfl
          have hi9 : (trustM M).imports = M.imports := rfl
          have hg9 : (trustM M).globals = M.globals := rfl
          have hd9 : (trustM M).data = M.data := rfl
          have h09 : (trustM M).m0 = M.m0 := rfl
          have h19 : (trustM M).m1 = M.m1 := rfl
          dsimp only [Md.cells] at hvc
          rw [hl9, hs9, hi9, hg9, hd9, h09, h19, trust_valid HV.out] at hvc
          clear hs9 hi9 hg9 hd9 h09 h19
          have hz0 := blk_cell HFJ.out.box 0
          have hz1 := blk_cell HFJ.out.box 1
          have hz2 := blk_cell HFJ.out.box 2
          have hz3 := blk_cell HFJ.out.box 3
          have hz4 := blk_cell HFJ.out.box 4
          have hz5 := blk_cell HFJ.out.box 5
          have hz6 := blk_cell HFJ.out.box 6
          clear hl9 hjj HM9 HN8 HNJ
          go_wp2_with fail
          refine hvc.mono ?_
          rintro e w9 ⟨hb9, v9, rfl, rfl⟩
          have HB10 := Aside0.mk (HB9.out.trans (hb9.mono HB9.out.size))
          clear hvc hb9
          go_wp2_with fail
          go_ret
          exact ⟨rfl, HB10.out⟩
theorem ValidTrusted_walk (H : ModAt w h M) (C : MCan M) (hl : Laid w) :
    Calls Tryd.prog 6 #[.agg (M.cells h)] w fun e w' => e = .returned (.bool true) ∧ Below w.heap.size w w' := by
  cases hv : validT M with
  | some x => exact ValidTrusted_bad M h w H C hl (q := x.1) (at_ := x.2) hv
  | none => exact ValidTrusted_main M h w H C hl hv ((limM_iff M).1 (valid_none hv).1.lim).1.2.2.1
end
end Go.Proofs.YtjjhhmchomabeaaDoor.Valid
namespace Go.Proofs.YtjjhhmchomabeaaDoor.ValidTrusted
open Go.ChangeShapes Go.WideShapes Go.RowKit Go.Proofs.YtjjhhmchomabeaaDoorW.PrintWords Go.Proofs.YtjjhhmchomabeaaDoor.Valid
set_option linter.unusedVariables false
set_option linter.unusedSimpArgs false

/-! ### the row -/
theorem own : ownKnob Tryd.prog.godebug = none := by kernel_rfl
theorem et : Tryd.prog.globalNamed "errors.errorType" = some 0 := by kernel_rfl
theorem rt : (Tryd.prog.cutTypes.find? (·.1 == "internal/reflectlite.rtype")).map (·.2) = some 112 := by kernel_rfl
theorem oneRow : ((List.range 174).filter fun t => Tryd.prog.rowNamed t [101, 114, 114, 111, 114]) = [38] := by kernel_rfl
theorem size : Tryd.prog.types.size = 174 := by kernel_rfl
theorem handle_of_laid {W : World} (h : laidMetH Tryd.prog [("errors.errorType", Rows.laid_errors_errorType)] W) : Laid W := by
  have h' : laidMet Tryd.prog [] W ∧ handlesMet Tryd.prog [("errors.errorType", Rows.laid_errors_errorType)] W := h
  obtain ⟨name, u, ty, e1, e2, e3, e4, e5⟩ := h'.2 _ (List.mem_singleton.2 rfl)
  have en : name = [101, 114, 114, 111, 114] := (Option.some.inj e1).symm
  subst en
  obtain rfl := Option.some.inj (rt.symm.trans e2)
  have hm : ty ∈ (List.range 174).filter fun t => Tryd.prog.rowNamed t [101, 114, 114, 111, 114] := List.mem_filter.2 ⟨List.mem_range.2 (by rw [← size]; exact e3), e4⟩
  rw [oneRow] at hm
  obtain rfl := List.mem_singleton.1 hm
  have hh : typeHandle Tryd.prog 38 = .pointer (some ⟨1, 38, none⟩) := by kernel_rfl
  rw [hh] at e5
  unfold Laid
  simpa using World.var?_cell et e5 0
noncomputable def laidWorld (os : Os) : World :=
  let w0 := World.holding Tryd.prog os ⟨#[], #[], []⟩
  { w0 with heap := w0.heap.modify 0 fun
      | .cells _ t frozen => .cells #[.iface 112 (.agg #[.pointer (some ⟨1, 38, none⟩)])] t frozen
      | o => o }
theorem laidWorld_met (os : Os) (args : Array Value) : laidMetH Tryd.prog [("errors.errorType", Rows.laid_errors_errorType)] ((laidWorld os).forCall (fun _ _ => 0) ⟨#[], args, []⟩).memory :=
  laidMetH_of_parts (laidMet_nil _ _) (by kernel_rfl)
theorem can_wf {n : Int} (h : (Lit.int .i64 n).wf = true) : Valid.Can n := by
  simp [Lit.wf, IntKind.has, IntKind.min, IntKind.max, IntKind.bits, IntKind.signed] at h
  unfold Valid.Can
  omega
set_option maxRecDepth 100000 in
theorem lifted (os : Os) (started : os.Started) (H : Type) (enc : TypeId × Value → H) :
    ReturnsInHanded {} Tryd.checked os 6 .any (fun w args => (Rows.validTrustedSpec.pre enc Tryd.prog Tryd.f6 [] false w args ∧ laidMetH Tryd.prog [("errors.errorType", Rows.laid_errors_errorType)] w) ∧ sizedMet enc Tryd.prog Tryd.f6 (OpenSpec.ofChange Rows.validTrustedSpec) false w args)
      (Rows.validTrustedSpec.post enc Tryd.prog Tryd.f6 false true false false) := by
  refine returnsInHanded_of_change_and (C := Tryd.checked) (X := fun w _ => laidMetH Tryd.prog [("errors.errorType", Rows.laid_errors_errorType)] w) (fun _ _ _ hh h => h.of_heap hh) own started (by kernel_rfl) Tryd.func6
    (ChangeSpec.witness_at (enc := enc) (C := Tryd.checked) (os := os) (X := fun w _ => laidMetH Tryd.prog [("errors.errorType", Rows.laid_errors_errorType)] w) false (laidWorld os) #[.agg #[.slice none 0 0, .slice none 0 0, .slice none 0 0, .int .i64 0, .int .i64 0, .slice none 0 0, .slice none 0 0]] 7 rfl (by kernel_rfl) (by kernel_rfl) (by kernel_rfl) (by kernel_rfl) (by kernel_rfl) (laidWorld_met os _)) ?_
  intro W base args ds gs before hval0 hW _ hsz0 hL _
  have hval : ∀ (j : Nat) t v, Tryd.f6.params[j]? = some t → args[j]? = some v → Value.okWide Tryd.prog W .any base t v := hval0
  have hW' := hW
  obtain ⟨p, q, hA0, hV0, rfl, hfz, hnd⟩ := hW
  have hA : DataW.TrodAll enc Tryd.prog W 0 (fun _ => true) true Tryd.f6.params.toList args.toList ds p := hA0
  have hV : DataW.TrodVars enc Tryd.prog W (fun _ => true) [] gs q := hV0
  rw [Tryd.params6] at hA hval
  obtain ⟨v0, vs0, d0, ds0, p0, q0, hargs, rfl, rfl, h0, r0⟩ := trodAll_cons hA
  obtain ⟨rfl, rfl, rfl⟩ := trodAll_nil r0
  obtain rfl : args = #[v0] := by cases args; simp_all
  have hg := handle_of_laid hL
  obtain ⟨rfl, rfl⟩ : gs = [] ∧ q = [] := by
    cases gs with
    | nil => exact ⟨rfl, hV⟩
    | cons g r => exact absurd hV (by intro h; cases h)
  obtain ⟨cs1, rfl, _⟩ := okWide_struct Tryd.underlying29 (hval 0 29 v0 rfl rfl)
  obtain ⟨M, hd, rfl, hMod, k1, k2, k3⟩ := ModRow.read_mod h0
  have hC : Valid.MCan M := ⟨fun g hg => ⟨fun t ht => can_wf ((k1 g hg).1 t ht), fun t ht => can_wf ((k1 g hg).2 t ht)⟩, fun f hf => ⟨fun t ht => can_wf ((k2 f hf).1 t ht), fun x hx => can_wf ((k2 f hf).2 x hx)⟩, fun g hg => can_wf (k3 g hg)⟩
  have e1 : Rows.validTrustedSpec.fn H ([d0] ++ []) = { results := [.lit (.bool true)], args := [d0] } := by simp [Rows.validTrustedSpec]
  refine (ValidTrusted_walk M hd W hMod hC hg).mono fun e W' ⟨he, hw⟩ => ?_
  subst he
  refine ⟨_, rfl, _, _, _, [], p0, [], by rw [List.append_nil] at hW'; exact hW', ?_, ?_, ?_, hw.frame _, fun h => by cases h⟩
  · rw [e1]; exact trodAll_mk1 (shut_bool Tryd.underlying4 true)
  · rw [e1]; exact trodAll_mk1 (ModRow.back_mod h0 hw) 
  · rw [e1]; rfl
theorem row_holds : Rows.ValidTrustedSaid :=
  OpenClaim.holds_of_wide 6 Tryd.f6 rfl rfl rfl rfl rfl rfl rfl ⟨rfl, rfl, rfl, rfl, rfl⟩ rfl rfl rfl rfl rfl (by kernel_rfl) Tryd.func6 (by kernel_rfl)
    (of_decide_eq_true (by kernel_rfl)) (by unfold Func.isWrapper; rw [if_neg (of_decide_eq_false (by kernel_rfl))]; exact ⟨rfl, rfl⟩)
    (fun os started H enc _ => lifted os started H enc)
/-- ValidTrusted, tied to the program's text. -/
theorem validTrusted_holds : Rows.ValidTrustedCardSaid :=
  Claim7.holds_tied_plain_at .later [] [.handle] true (true, "a375214d61d745cf21eebd2106e1b8edc3a89ab9356fe3b512f1620f8a12f14f") true
    row_holds (fun _ h => by cases h) (by kernel_rfl) (fun _ h => by cases h) validTrusted_row_tie rfl ⟨rfl, rfl⟩ (by kernel_rfl) rfl
    (fun f fn hf hfn => by
      obtain rfl : f = 6 := Option.some.inj ((show Tryd.prog.funcNamed "oubliette/oubliettelaw07.ValidTrusted" = some 6 by kernel_rfl).symm.trans hf) |>.symm
      obtain rfl : fn = Tryd.f6 := (Option.some.inj (Tryd.func6.symm.trans hfn)).symm
      exact ⟨by kernel_rfl, fun j t ht => by
        rw [Tryd.params6] at ht
        have h3 : t = 29 := by
          rcases j with _ | j
          · simpa using ht.symm
          · simp at ht
        subst h3
        exact (show Tryd.prog.wantsStandIn 29 = false by kernel_rfl)⟩)
    (by kernel_rfl)
end Go.Proofs.YtjjhhmchomabeaaDoor.ValidTrusted
namespace Go.Proofs.YtjjhhmchomabeaaDoor
/-- The card, under a short name, for the claim. -/
theorem validTrusted_holds : Rows.ValidTrustedCardSaid := ValidTrusted.validTrusted_holds
end Go.Proofs.YtjjhhmchomabeaaDoor
#print axioms Go.Proofs.YtjjhhmchomabeaaDoor.validTrusted_holds
