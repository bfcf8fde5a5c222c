/- The row CheckTells: the statement returns true for every argument, and the arguments read as before. No conditions. -/
import Derived.Test.YtdcmeefeinppnaaEx18
import Derived.Test.YtdcmeefeinppnaaCut
import Derived.Test.YtdcmeefeinppnaaRefF
import Derived.Test.YtdcmeefeinppnaaIntsRow
namespace Go.Proofs.Ytdcmeefeinppnaa.Check
open Go.RowKit Go.Proofs.YtdcmeefeinppnaaW.PrintWords Go.Proofs.YtdcmeefeinppnaaW.PrintLast Go.Proofs.YtdcmeefeinppnaaW.PrintMore Go.Proofs.Ytdcmeefeinppnaa.Mem Go.Proofs.Ytdcmeefeinppnaa.Ir Go.Proofs.Ytdcmeefeinppnaa.Live Go.Proofs.Ytdcmeefeinppnaa.Rsem
set_option linter.unusedVariables false
set_option linter.unusedSimpArgs false

attribute [local go_sem] max2_int min2_int max_two min_two
set_option maxHeartbeats 2000000 in
set_option maxRecDepth 100000 in
theorem tells_walk18 (cells params labels : Int) (L : List Ir) (A : Option Addr) (cap : Nat) (l : List Int) (B : Option Addr) (capB : Nat) (ps : List Int) (D : Option Addr) (capD : Nat) (w : World) (hC : kIr.C w A L.length L) (hcap : L.length ≤ cap) (hlit : ∀ i : Nat, i < L.length → Live.Can (atIr L i).n) (hB : (Kd.int .i64).C w B l.length l) (hcapB : l.length ≤ capB) (hD : (Kd.int .i64).C w D ps.length ps) (hpc : CanL ps) :
    Calls Try.prog 9 #[.agg #[.int .i64 cells, .int .i64 params, .slice A L.length cap, .int .i64 labels], .slice B l.length capB, .slice D ps.length capD] w fun e w' => e = .returned (.bool true) ∧ Below w.heap.size w w' := by
  obtain ⟨L', hL⟩ : ∃ L', L' = L.take 100 := ⟨_, rfl⟩
  have hmin : (if (100 : Int) < (L.length : Int) then 100 else (L.length : Int)) = (L'.length : Int) := min_cut L L' 100 hL
  have hm0 : (0 : Int) ≤ (L'.length : Int) := by omega
  have hmc : (L'.length : Int) ≤ (cap : Int) := by rw [hL, List.length_take]; omega
  have hsm : L'.length ≤ 100 := by rw [hL, List.length_take]; omega
  have HC := Aside0.mk hC
  have HL := Aside0.mk hL
  have HLIT := Aside0.mk (show ∀ i : Nat, i < L'.length → Live.Can (atIr L' i).n from fun i hi => by
    rw [hL] at hi ⊢
    rw [atIr_take hi]
    exact hlit i (by rw [List.length_take] at hi; omega))
  have HROW := Aside0.mk hB
  have HRD := Aside0.mk hD
  have HPC := Aside0.mk hpc
  have hbx0 := blk_new w (.cells #[.int .i64 cells, .int .i64 params, .slice A L.length cap, .int .i64 labels] 24)
  have HB := Aside0.mk ((Below.refl w.heap.size w).alloc (Nat.le_refl _) (.cells #[.int .i64 cells, .int .i64 params, .slice A L.length cap, .int .i64 labels] 24))
  have HX := Aside0.mk hbx0
  clear hC hL hbx0 hB hlit hD hpc
  go_enter Try.func9, Try.ntmps9
  go_wp2_with fail
  refine (examples_calls _).mono ?_
  rintro e w1 ⟨rfl, hb1⟩
  have hbx := blk_below HX.out hb1
  have hc0 := blk_cell hbx 0
  have hc1 := blk_cell hbx 1
  have hc2 := blk_cell hbx 2
  have hc3 := blk_cell hbx 3
  have hf2 := blk_frozen hbx 2
  have HCUT := Aside0.mk (Bx.cut (HB.out.trans (hb1.mono HB.out.size)) (by have := hb1.size; simpa using this) hbx HC.out hcap 100 HL.out (by omega))
  obtain ⟨ah, af, er, HS, hE⟩ := sets_ends ⟨cells, params, L', labels⟩
  have HS := Aside0.mk HS
  have HE := Aside0.mk hE
  clear hbx hb1 HB HX HL hE
  go_wp2_with fail
  refine (check_calls ⟨cells, params, L', labels⟩ A cap l B capB ps D capD _ HCUT.out.code HLIT.out (Kd.C_below HROW.out HCUT.out.bel) hcapB (Kd.C_below HRD.out HCUT.out.bel) HPC.out HS.out HE.out).mono ?_
  unfold ExOut2
  rintro e w2 ⟨rfl, hb2⟩
  have HB2 := Aside0.mk (HCUT.out.below hb2)
  clear hc0 hc1 hc2 hc3 hf2 hb2 HCUT hmin hm0 hmc HC hcap
  obtain ⟨c, hcd⟩ : ∃ c, Cod.mk cells params L' labels = c := ⟨_, rfl⟩
  rw [hcd] at HS HE HB2 ⊢
  replace hsm : c.body.length ≤ 100 := by rw [← hcd]; exact hsm
  replace HLIT := Aside0.mk (show ∀ i : Nat, i < c.body.length → Live.Can (atIr c.body i).n from by rw [← hcd]; exact HLIT.out)
  clear hcd
  have hbx0 := blk_cell HB2.out.box 0
  have hbx1 := blk_cell HB2.out.box 1
  have hbx2 := blk_cell HB2.out.box 2
  have hbx3 := blk_cell HB2.out.box 3
  have HRC := Aside0.mk (RefE.rcheck_calls c A cap l B capB ps D capD _ HB2.out.code HLIT.out (Kd.C_below HROW.out HB2.out.bel) (Kd.C_below HRD.out HB2.out.bel) HPC.out HS.out HE.out)
  obtain ⟨r, hr⟩ : ∃ r, checkS c ah af l ps = r := ⟨_, rfl⟩
  rw [hr] at HRC ⊢
  obtain ⟨r1, r2, r3⟩ := r
  unfold ExOut2 at HRC
  clear hr
  go_wp2_with fail
  refine HRC.out.mono ?_
  rintro e w3 ⟨rfl, hb3⟩
  have HB3 := Aside0.mk (HB2.out.below hb3)
  clear hb3 HRC HB2 hbx0 hbx1 hbx2 hbx3
  have hbx0 := blk_cell HB3.out.box 0
  have hbx1 := blk_cell HB3.out.box 1
  have hbx2 := blk_cell HB3.out.box 2
  have hbx3 := blk_cell HB3.out.box 3
  have HR1 := Aside0.mk (fun W hb => right_calls c A cap l B capB W (HB3.out.below hb).code (Kd.C_below HROW.out (HB3.out.below hb).bel) hcapB HS.out HE.out)
  have HR2 := Aside0.mk (fun W hb => RefE.rright_calls c A cap l B capB W (HB3.out.below hb).code (Kd.C_below HROW.out (HB3.out.below hb).bel) HS.out HE.out)
  obtain ⟨q, hq⟩ : ∃ q, rightB c ah af l = q := ⟨_, rfl⟩
  rw [hq] at HR1 HR2
  clear hq HS HE HROW HRD HPC HLIT
  go_wp2_with fail
  go_region_held3 (fun w' => w'.cell? ⟨w.heap.size, 0, none⟩ = some (.int .i64 c.cells) ∧ w'.cell? ⟨w.heap.size, 1, none⟩ = some (.int .i64 c.params) ∧ w'.cell? ⟨w.heap.size, 2, none⟩ = some (.slice A c.body.length cap) ∧ w'.cell? ⟨w.heap.size, 3, none⟩ = some (.int .i64 c.labels)) (go_keep)
    (first
      | (go_at_call 39; refine (HR1.out _ (drew_below _)).mono ?_; rintro e w7 ⟨rfl, hb7⟩; have HG7 := Aside0.mk ((drew_below w3).trans (hb7.mono (drew_below w3).size)); have hs0 := blk_cell (HB3.out.below HG7.out).box 0; have hs1 := blk_cell (HB3.out.below HG7.out).box 1; have hs2 := blk_cell (HB3.out.below HG7.out).box 2; have hs3 := blk_cell (HB3.out.below HG7.out).box 3; clear hb7)
      | (go_at_call 40; refine (HR2.out _ HG7.out).mono ?_; rintro e w8 ⟨rfl, hb8⟩; have HG8 := Aside0.mk (HG7.out.trans (hb8.mono HG7.out.size)); have ht0 := blk_cell (HB3.out.below HG8.out).box 0; have ht1 := blk_cell (HB3.out.below HG8.out).box 1; have ht2 := blk_cell (HB3.out.below HG8.out).box 2; have ht3 := blk_cell (HB3.out.below HG8.out).box 3; clear hb8))
  have HD := Aside0.mk (HB3.out.below HG8.out).bel
  clear hs0 hs1 hs2 hs3 ht0 ht1 ht2 ht3 hbx0 hbx1 hbx2 hbx3
  go_wp2_with fail
  go_ret
  exact ⟨rfl, HD.out⟩
end Go.Proofs.Ytdcmeefeinppnaa.Check
namespace Go.Proofs.Ytdcmeefeinppnaa.checkTells
open Go.ChangeShapes Go.WideShapes Go.ChangeAt Go.RowKit Go.Proofs.YtdcmeefeinppnaaW.PrintWords Go.Proofs.YtdcmeefeinppnaaW.PrintLast Go.Proofs.Ytdcmeefeinppnaa.CodeRow
set_option linter.unusedVariables false
set_option linter.unusedSimpArgs false
theorem own : ownKnob Try.prog.godebug = none := by kernel_rfl
set_option maxRecDepth 100000 in
theorem lifted (os : Os) (started : os.Started) (H : Type) (enc : TypeId × Value → H) :
    ReturnsInHanded {} Try.checked os 9 .any (Rows.checkTellsSpec.pre6 enc Try.prog Try.f9 Rows.checkTellsRow.domain false) (Rows.checkTellsSpec.post enc Try.prog Try.f9 false true false false) := by
  refine returnsInHanded_of_change_sized (C := Try.checked) own started (by kernel_rfl) Try.func9
    (ChangeSpec.witness6 (enc := enc) (C := Try.checked) false ⟨#[], #[.agg #[.int .i64 0, .int .i64 0, .slice none 0 0, .int .i64 0], .slice none 0 0, .slice none 0 0], []⟩ 8 (by kernel_rfl) (by kernel_rfl) (by kernel_rfl) (by kernel_rfl)) ?_
  intro W base args ds gs before hval0 hW hcnd hsz0 _
  have hval : ∀ (j : Nat) t v, Try.f9.params[j]? = some t → args[j]? = some v → Value.okWide Try.prog W .any base t v := hval0
  have hW' := hW
  obtain ⟨p, q, hA0, hV, rfl, hfz, hnd⟩ := hW
  have hA : DataW.TrodAll enc Try.prog W 0 (fun _ => true) true Try.f9.params.toList args.toList ds p := hA0
  rw [Try.params9] at hA hval
  obtain ⟨v0, vs0, d0, ds0, p0, q0, hargs, rfl, rfl, h0, r0⟩ := trodAll_cons hA
  obtain ⟨v1, vs1, d1, ds1, p1, q1, rfl, rfl, rfl, h1, r1⟩ := trodAll_cons r0
  obtain ⟨v2, vs2, d2, ds2, p2, q2, rfl, rfl, rfl, h2, r2⟩ := trodAll_cons r1
  obtain ⟨rfl, rfl, rfl⟩ := trodAll_nil r2
  obtain rfl : args = #[v0, v1, v2] := by cases args; simp_all
  obtain ⟨rfl, rfl⟩ := trodVars_none hV
  obtain ⟨cs0, rfl, _⟩ := okWide_struct Try.underlying24 (hval 0 24 v0 rfl rfl)
  obtain ⟨cells0, params0, labels0, L0, A0, cap0, rfl, hC0, hc0, hl0⟩ := open_code_n h0
  obtain ⟨A1, len1, cap1, rfl⟩ := okWide_slice Try.underlying26 (hval 1 26 v1 rfl rfl)
  obtain ⟨l1, rfl, hc1, hC1, hw1⟩ := open_ints h1
  obtain ⟨A2, len2, cap2, rfl⟩ := okWide_slice Try.underlying26 (hval 2 26 v2 rfl rfl)
  obtain ⟨l2, rfl, hc2, hC2, hw2⟩ := open_ints h2
  clear hA0 hval0 hsz0
  refine (Check.tells_walk18 cells0 params0 labels0 L0 A0 cap0 l1 A1 cap1 l2 A2 cap2 W hC0 hc0 hl0 hC1 hc1 hC2 (Rsem.canL_of hw2)).mono fun e W' ⟨he, bel⟩ => ?_
  subst he
  exact ⟨_, rfl, _, _, _, [], _, [], hW', trodAll_mk1 (shut_bool Try.underlying4 _), (trodAll_cons_mk (back_code h0 bel) (trodAll_cons_mk (back_ints h1 bel) (trodAll_cons_mk (back_ints h2 bel) trodAll_mk0))), rfl, bel.frame _, fun h => by cases h⟩
theorem over : Rows.checkTellsRow.holds Try.pinned (OpenSpec.ofChange Rows.checkTellsSpec) :=
  OpenClaim.holds_of_wide 9 Try.f9 rfl rfl rfl rfl rfl rfl rfl ⟨rfl, rfl, rfl, rfl, rfl⟩ rfl rfl rfl rfl rfl (by kernel_rfl) Try.func9 (by kernel_rfl)
    (of_decide_eq_true (by kernel_rfl)) (by unfold Func.isWrapper; first | (rw [if_pos (by decide +kernel)]; kernel_rfl) | (rw [if_neg (by decide +kernel)]; exact ⟨rfl, rfl⟩))
    (fun os started H enc _ => lifted os started H enc)
theorem proved : Rows.CheckTellsSaid := over
#print axioms proved
end Go.Proofs.Ytdcmeefeinppnaa.checkTells
namespace Go.Proofs.Ytdcmeefeinppnaa
/-- The row, under a short name, for the claim. -/
theorem checkTells_holds : Rows.CheckTellsSaid := checkTells.proved
end Go.Proofs.Ytdcmeefeinppnaa
