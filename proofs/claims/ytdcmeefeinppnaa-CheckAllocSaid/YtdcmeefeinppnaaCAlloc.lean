/- CheckAlloc: the walk of the statement. -/
import Derived.Test.YtdcmeefeinppnaaEx18
import Derived.Test.YtdcmeefeinppnaaFlows
namespace Go.Proofs.Ytdcmeefeinppnaa.Check
open Go.RowKit Go.Proofs.YtdcmeefeinppnaaW.PrintWords Go.Proofs.YtdcmeefeinppnaaW.PrintLast Go.Proofs.YtdcmeefeinppnaaW.PrintMore Go.Proofs.Ytdcmeefeinppnaa.Mem Go.Proofs.Ytdcmeefeinppnaa.Ir Go.Proofs.Ytdcmeefeinppnaa.Live Go.Proofs.Ytdcmeefeinppnaa.Rsem
open Uses (uses infoInt)
set_option linter.unusedVariables false
set_option linter.unusedSimpArgs false

/-- alloc's places are right -/
theorem right_alloc {c : Cod} {ah af : List Int} (hS : SetsIs c ah af 0) (hf : fits c = true) (hl : LiveIs c ah af) : RightIs c ah af (placesOf c ah af) := by
  have hh := fits_head hf
  have ha := apart hS hf hl
  have hP : placesOf c ah af = allocL c ah af c.cells.toNat := by unfold placesOf; rw [if_pos hf]
  have hbd : Bd (placesOf c ah af) := by rw [hP]; exact alL_bd _ _ _
  have hlen := ha.len
  refine ⟨hf, ha.len, fun a hal => ?_, fun a b hal hb he => ?_⟩
  · have h1 := hbd a hal
    refine ⟨by omega, by omega, ?_, ?_⟩
    · rw [ha.nm a hal]
      by_cases h0 : 0 ≤ rd (placesOf c ah af) (a : Int)
      · rw [decide_eq_true h0, Bool.true_and]; exact decide_eq_false (by omega)
      · rw [decide_eq_false h0]; rfl
    · cases hb : inB (crossS c af c.body.length) (a : Int) with
      | false => rfl
      | true =>
        have := ha.cr a hal hb
        rw [Bool.true_and]; exact decide_eq_false (by omega)
  · cases hc : clashB c ah af (a : Int) (b : Int) with
    | false => rfl
    | true => exact absurd he (ha.cl a b hal hb hc)
theorem rd_setN2 {l : List Int} {a : Nat} (ha : a < l.length) (v : Int) (k : Nat) : rd (l.set a v) (k : Int) = if k = a then v else rd l (k : Int) := by
  have h := rd_setI (cs := l) (k := (a : Int)) (by omega) v (k : Int)
  rw [show setI l (a : Int) v = l.set a v from by unfold setI; rw [Int.toNat_natCast]] at h
  rw [h, Int.toNat_natCast, Int.toNat_natCast]
/-- two cells that clash in one place: they are not -/
theorem right_one {c : Cod} {ah af l : List Int} {a b : Nat} (ha : a < l.length) (hb : b < l.length) (hab : a ≠ b) (hc : clashB c ah af (a : Int) (b : Int) = true) : rightB c ah af (l.set a (rd l (b : Int))) = false := by
  have e : rd (l.set a (rd l (b : Int))) (a : Int) = rd (l.set a (rd l (b : Int))) (b : Int) := by
    rw [rd_setN2 ha, rd_setN2 ha, if_pos rfl, if_neg (fun h => hab h.symm)]
  rcases Nat.lt_or_ge b a with h1 | h1
  · exact right_at (a := a) (by rw [List.length_set]; exact ha) (row_clash h1 e hc)
  · refine right_at (a := b) (by rw [List.length_set]; exact hb) (row_clash (b := a) (by omega) e.symm ?_)
    rw [clash_sym (by omega)]
    exact hc
/-- a cell in no place: they are right if it is not named -/
theorem right_none {c : Cod} {ah af l : List Int} {a : Nat} (hS : SetsIs c ah af 0) (hL : LiveIs c ah af) (h : RightIs c ah af l) (ha : a < l.length) : rightB c ah af (l.set a (-1)) = !(inB (namedN c c.body.length) (a : Int)) := by
  have hh := fits_head h.fit
  have hlen := h.len
  cases hn : inB (namedN c c.body.length) (a : Int) with
  | true =>
    refine right_at (a := a) (by rw [List.length_set]; exact ha) ?_
    unfold rowB
    rw [rd_setN2 ha, if_pos rfl, hn]
    simp
  | false =>
    have hcr : inB (crossS c af c.body.length) (a : Int) = false := by
      cases hc : inB (crossS c af c.body.length) (a : Int) with
      | false => rfl
      | true =>
        have := inB_sub (cross_named hS h.fit hL _ (Nat.le_refl _)) (show a < 64 by omega) hc
        rw [hn] at this; cases this
    refine right_of ⟨h.fit, by rw [List.length_set]; exact h.len, fun k hk => ?_, fun k j hk hj he => ?_⟩
    · rw [List.length_set] at hk
      have ho := h.one k hk
      by_cases e : k = a
      · subst e
        refine ⟨by rw [rd_setN2 ha, if_pos rfl]; decide, by rw [rd_setN2 ha, if_pos rfl]; decide, by rw [hn]; rfl, by rw [hcr]; rfl⟩
      · exact ⟨by rw [rd_setN2 ha, if_neg e]; exact ho.lo, by rw [rd_setN2 ha, if_neg e]; exact ho.hi, by rw [rd_setN2 ha, if_neg e]; exact ho.nm, by rw [rd_setN2 ha, if_neg e]; exact ho.cr⟩
    · rw [List.length_set] at hk
      cases hc : clashB c ah af (k : Int) (j : Int) with
      | false => rfl
      | true =>
        have hcn := clash_named hS h.fit hL (show k < 60 by omega) (show j < 60 by omega) hc
        have h1 : k ≠ a := fun e => by rw [e, hn] at hcn; cases hcn.1
        have h2 : j ≠ a := fun e => by rw [e, hn] at hcn; cases hcn.2
        rw [rd_setN2 ha, rd_setN2 ha, if_neg h1, if_neg h2] at he
        rw [h.two k j hk hj he] at hc
        cases hc
attribute [local go_sem] max2_int min2_int max_two min_two
theorem clash_val2 {c : Cod} {ah af : List Int} {a b : Nat} (ha : (a : Int) < c.cells) (hb : (b : Int) < c.cells) : clashR c ah af 0 (a : Int) (b : Int) = (!(decide (a = b)) && clashB c ah af (a : Int) (b : Int), 0) := by
  unfold clashR clashBad
  rw [if_neg (by simp; omega)]
  by_cases e : a = b
  · subst e
    rw [if_pos rfl, decide_eq_true rfl]; rfl
  · rw [if_neg (by omega), decide_eq_false e]; rfl
theorem right_calls_n {n : Nat} (c : Cod) (A : Option Addr) (cap : Nat) (l : List Int) (hn : l.length = n) (B : Option Addr) (capB : Nat) (w : World) (hC : CodeAt w c A cap) (hB : (Kd.int .i64).C w B l.length l) (hcapB : l.length ≤ capB) {ah af : List Int} {er : Int} (hS : SetsIs c ah af er) (hE : er = 0 ∧ fits c = true ∧ LiveIs c ah af ∨ er = 4 ∧ fits c = false ∧ ah = [] ∧ af = []) :
    Calls Try.prog 39 #[.agg (c.vals A cap), .slice B n capB] w (RightOut w (rightB c ah af l)) := by
  subst hn
  exact right_calls c A cap l B capB w hC hB hcapB hS hE
theorem sign_in (k : Int) (h0 : -9223372036854775808 ≤ k) (h1 : k ≤ 9223372036854775807) : ∃ M : Int, 0 ≤ M ∧ M ≤ 9223372036854775807 ∧ ((k < 0 ∧ -(k + 1) = M) ∨ (¬ k < 0 ∧ k = M)) := by
  by_cases hk : k < 0
  · exact ⟨-(k + 1), by omega, by omega, .inl ⟨hk, rfl⟩⟩
  · exact ⟨k, by omega, by omega, .inr ⟨hk, rfl⟩⟩
set_option maxHeartbeats 16000000 in
set_option maxRecDepth 100000 in
theorem alloc_walk (cells params labels : Int) (L : List Ir) (A : Option Addr) (cap : Nat) (a b : Int) (w : World) (hC : kIr.C w A L.length L) (hcap : L.length ≤ cap) (ha0 : -9223372036854775808 ≤ a) (ha1 : a ≤ 9223372036854775807) (hb0 : -9223372036854775808 ≤ b) (hb1 : b ≤ 9223372036854775807) :
    Calls Try.prog 12 #[.agg #[.int .i64 cells, .int .i64 params, .slice A L.length cap, .int .i64 labels], .int .i64 a, .int .i64 b] w fun e w' => e = .returned (.bool true) ∧ Below w.heap.size w w' := by
  obtain ⟨L', hL⟩ : ∃ L', L' = L.take 100 := ⟨_, rfl⟩
  have hmin : (if (100 : Int) < (L.length : Int) then 100 else (L.length : Int)) = (L'.length : Int) := min_cut L L' 100 hL
  have hm0 : (0 : Int) ≤ (L'.length : Int) := by omega
  have hmc : (L'.length : Int) ≤ (cap : Int) := by rw [hL, List.length_take]; omega
  have hsm : L'.length ≤ 100 := by rw [hL, List.length_take]; omega
  have HC := Aside0.mk hC
  have HL := Aside0.mk hL
  have hbx0 := blk_new w (.cells #[.int .i64 cells, .int .i64 params, .slice A L.length cap, .int .i64 labels] 24)
  have HB := Aside0.mk ((Below.refl w.heap.size w).alloc (Nat.le_refl _) (.cells #[.int .i64 cells, .int .i64 params, .slice A L.length cap, .int .i64 labels] 24))
  have HX := Aside0.mk hbx0
  clear hC hL hbx0
  go_enter Try.func12, Try.ntmps12
  go_wp2_with fail
  refine (examples_calls _).mono ?_
  rintro e w1 ⟨rfl, hb1⟩
  have hbx := blk_below HX.out hb1
  have hc0 := blk_cell hbx 0
  have hc1 := blk_cell hbx 1
  have hc2 := blk_cell hbx 2
  have hc3 := blk_cell hbx 3
  have hf2 := blk_frozen hbx 2
  have HCUT := Aside0.mk (Bx.cut (HB.out.trans (hb1.mono HB.out.size)) (by have := hb1.size; simpa using this) hbx HC.out hcap 100 HL.out (by omega))
  obtain ⟨ah, af, er, HS, hE⟩ := sets_ends ⟨cells, params, L', labels⟩
  have HS := Aside0.mk HS
  have HE := Aside0.mk hE
  clear hbx hb1 HB HX HL hE
  go_wp2_with fail
  refine (alloc_calls ⟨cells, params, L', labels⟩ A cap _ HCUT.out.code HS.out HE.out).mono ?_
  rintro e w2 ⟨v2, rfl, hR2, hb2⟩
  obtain ⟨Ap, cp, rfl, hcp, hCp⟩ := Kd.R_reads hR2
  have HB2 := Aside0.mk (HCUT.out.below hb2)
  have HCP := Aside0.mk hCp
  clear hc0 hc1 hc2 hc3 hf2 hb2 HCUT hmin hm0 hmc HC hcap hR2 hCp
  obtain ⟨c, hcd⟩ : ∃ c, Cod.mk cells params L' labels = c := ⟨_, rfl⟩
  rw [hcd] at HS HE HB2 HCP hcp ⊢
  clear hcd
  have hbx0 := blk_cell HB2.out.box 0
  have hbx1 := blk_cell HB2.out.box 1
  have hbx2 := blk_cell HB2.out.box 2
  have hbx3 := blk_cell HB2.out.box 3
  rcases HE.out with ⟨rfl, hf, hl⟩ | ⟨rfl, hf, rfl, rfl⟩
  · have HF := Aside0.mk hf
    have HLI := Aside0.mk hl
    have hra := right_alloc HS.out hf hl
    have HRA := Aside0.mk hra
    obtain ⟨P, hP⟩ : ∃ P, placesOf c ah af = P := ⟨_, rfl⟩
    rw [hP] at HCP hcp hra HRA ⊢
    have HPL := Aside0.mk hra.len
    have hh := fits_head hf
    have hp60 : P.length ≤ 60 := by have := hra.len; omega
    have HRL := Aside0.mk (fun W hb => right_calls c A cap P Ap cp W (HB2.out.code.below hb) (Kd.C_below HCP.out hb) hcp HS.out (.inl ⟨rfl, HF.out, HLI.out⟩))
    rw [right_of hra] at HRL
    clear hP hra hh hf hl HE
    by_cases hz : P.length = 0
    · have hz' : (c.cells == 0) = true := by rw [← HPL.out, hz]; rfl
      clear hz
      go_wp2_with fail
      refine (HRL.out _ (Below.refl _ _)).mono ?_
      rintro e w3 ⟨rfl, hb3⟩
      have HD := Aside0.mk (HB2.out.below hb3).bel
      clear hb3 hbx0 hbx1 hbx2 hbx3
      go_wp2_with fail
      go_ret
      exact ⟨rfl, HD.out⟩
    have hz' : (c.cells == 0) = false := beq_eq_false_iff_ne.2 (by have := HPL.out; omega)
    have hpl' : ((P.length : Int) != c.cells) = false := by rw [HPL.out]; simp
    have hc1 : 1 ≤ c.cells := by have := HPL.out; omega
    have hc60 : c.cells ≤ 60 := by have := HPL.out; omega
    obtain ⟨a1, ha10, ha11, hsa⟩ := sign_in a ha0 ha1
    obtain ⟨b1, hb10, hb11, hsb⟩ := sign_in b hb0 hb1
    go_upto_if 53 with (fail)
    go_cut [1] (fun s1 wx => s1 = .int .i64 a1 ∧ wx = w2)
    case first =>
      rcases hsa with ⟨hk, hs⟩ | ⟨hk, hs⟩
      · go_wp2_with fail
        go_meet
        exact ⟨rfl, rfl⟩
      · subst hs
        go_wp2_with fail
        go_meet
        exact ⟨rfl, rfl⟩
    case rest =>
      obtain ⟨rfl, rfl⟩ := hcut
      go_upto_if 58 with (fail)
      go_cut [2] (fun s2 wx => s2 = .int .i64 b1 ∧ wx = wc)
      case first =>
        rcases hsb with ⟨hk, hs⟩ | ⟨hk, hs⟩
        · go_wp2_with fail
          go_meet
          exact ⟨rfl, rfl⟩
        · subst hs
          go_wp2_with fail
          go_meet
          exact ⟨rfl, rfl⟩
      case rest =>
        obtain ⟨rfl, rfl⟩ := hcut
        clear hsa hsb
        obtain ⟨pa, hpa⟩ : ∃ pa : Nat, a1 % c.cells = (pa : Int) := ⟨(a1 % c.cells).toNat, by have := Int.emod_nonneg a1 (show c.cells ≠ 0 by omega); omega⟩
        obtain ⟨pb, hpb⟩ : ∃ pb : Nat, b1 % c.cells = (pb : Int) := ⟨(b1 % c.cells).toNat, by have := Int.emod_nonneg b1 (show c.cells ≠ 0 by omega); omega⟩
        have hpal : pa < P.length := by have := Int.emod_lt_of_pos a1 (show 0 < c.cells by omega); have := HPL.out; omega
        have hpbl : pb < P.length := by have := Int.emod_lt_of_pos b1 (show 0 < c.cells by omega); have := HPL.out; omega
        have HCV := Aside0.mk (clash_val2 (ah := ah) (af := af) (c := c) (a := pa) (b := pb) (by have := HPL.out; omega) (by have := HPL.out; omega))
        obtain ⟨cb, hcb⟩ : ∃ cb, (!(decide (pa = pb)) && clashB c ah af (pa : Int) (pb : Int)) = cb := ⟨_, rfl⟩
        rw [hcb] at HCV
        have HCB := Aside0.mk hcb
        have HNM := Aside0.mk (fun W hc => named_calls c A cap W hc)
        unfold NamedOut at HNM
        rw [if_pos HF.out, if_pos HF.out] at HNM
        obtain ⟨nm, hnm⟩ : ∃ nm, namedN c c.body.length = nm := ⟨_, rfl⟩
        rw [hnm] at HNM
        have HNN := Aside0.mk hnm
        clear hcb hnm
        go_wp2_with fail
        refine (clash_calls HS.out (fun _ => HLI.out.lf) (fun _ => (fits_head HF.out).2.1) A cap _ _ _ HB2.out.code).mono ?_
        rw [HCV.out]
        rintro e w3 ⟨rfl, hb3⟩
        have HQ3 := Aside0.mk hb3
        have HB3 := Aside0.mk (HB2.out.below hb3)
        clear hb3 hbx0 hbx1 hbx2 hbx3
        have hbx0 := blk_cell HB3.out.box 0
        have hbx1 := blk_cell HB3.out.box 1
        have hbx2 := blk_cell HB3.out.box 2
        have hbx3 := blk_cell HB3.out.box 3
        go_wp2_with fail
        refine (HNM.out _ HB3.out.code).mono ?_
        rintro e w4 ⟨rfl, hb4⟩
        have HQ4 := Aside0.mk (HQ3.out.trans (hb4.mono HQ3.out.size))
        have HB4 := Aside0.mk (HB3.out.below hb4)
        clear hb4 hbx0 hbx1 hbx2 hbx3
        have hd1 : (0 : Int) ≤ (pa : Int) := by omega
        have hd2 : (0 : Int) ≤ (pb : Int) := by omega
        have hd3 : (pa : Int) < (P.length : Int) := by omega
        have hd4 : (pb : Int) < (P.length : Int) := by omega
        go_wp2_with (first
          | ((with_reducible refine gate_builtin (b := .append) (xs := #[.const (.slice none 0 0), .tmp 82]) rfl ?_); at_builtin; refine Kd.R_append_row (Value.int .i64) 0 (w0 := w4) (World.heap w4).size rfl (.const (.slice none 0 0)) (.tmp 82) 26 3 (.int .i64 0) 8 rfl Try.underlying26 infoInt rfl (by decide) (.slice none 0 0) [] P Ap P.length cp (fun _ => True) rfl rfl (fun _ _ => trivial) (Kd.R_nil _ _ _ _ _) (Kd.C_below HCP.out HQ4.out) (Below.refl _ _) (Nat.le_refl _) (by simp; omega) ?_; intro vq w5 hO hb hg hat; rw [List.nil_append] at hO; obtain ⟨gm, cm, eq, hgb, hgl, csq, hcl⟩ := Kd.R_form hO (by omega); subst eq; obtain ⟨qa, za⟩ := Kd.R_cell (0 : Int) hO (pa : Int) (by omega) (by omega); obtain ⟨qb, zb⟩ := Kd.R_cell (0 : Int) hO (pb : Int) (by omega) (by omega); rw [Int.toNat_natCast] at qa za qb zb; replace qb : World.cell? _ ⟨gm, pb, none⟩ = some (.int .i64 (rd P (pb : Int))) := qb; have HQ5 := Aside0.mk (show Below wc.heap.size wc (w5.setCell ⟨gm, pa, none⟩ (.int .i64 (rd P (pb : Int)))) from HQ4.out.trans ((hb.setCell (p := ⟨gm, pa, none⟩) hgb (.int .i64 (rd P (pb : Int)))).mono HQ4.out.size)); have HM5 := Aside0.mk (Kd.R_reads' (Kd.R_put hO (pa : Int) (rd P (pb : Int))).1); clear hO hb hg hat hgb hgl hcl)
          | ((with_reducible refine gate_builtin (b := .append) (xs := #[.const (.slice none 0 0), .tmp 91]) rfl ?_); at_builtin; refine Kd.R_append_row (Value.int .i64) 0 (w0 := (w5.setCell ⟨gm, pa, none⟩ (.int .i64 (rd P (pb : Int))))) (World.heap (w5.setCell ⟨gm, pa, none⟩ (.int .i64 (rd P (pb : Int))))).size rfl (.const (.slice none 0 0)) (.tmp 91) 26 3 (.int .i64 0) 8 rfl Try.underlying26 infoInt rfl (by decide) (.slice none 0 0) [] P Ap P.length cp (fun _ => True) rfl rfl (fun _ _ => trivial) (Kd.R_nil _ _ _ _ _) (Kd.C_below HCP.out HQ5.out) (Below.refl _ _) (Nat.le_refl _) (by simp; omega) ?_; intro vq w6 hO hb hg hat; rw [List.nil_append] at hO; obtain ⟨gn, cn, eq, hgb, hgl, csq, hcl⟩ := Kd.R_form hO (by omega); subst eq; obtain ⟨ra, ya⟩ := Kd.R_cell (0 : Int) hO (pa : Int) (by omega) (by omega); rw [Int.toNat_natCast] at ra ya; have HBN := Aside0.mk (hb.setCell (p := ⟨gn, pa, none⟩) hgb (.int .i64 (-1))); have HN6 := Aside0.mk (Kd.R_reads' (Kd.R_put hO (pa : Int) (-1)).1); clear hO hb hg hat hgb hgl hcl))
        have HQ6 := Aside0.mk (HQ5.out.trans (HBN.out.mono HQ5.out.size))
        have HMC := Aside0.mk (show (Kd.int .i64).C (w6.setCell ⟨gn, pa, none⟩ (.int .i64 (-1))) (some ⟨gm, 0, none⟩) (P.set pa (rd P (pb : Int))).length (P.set pa (rd P (pb : Int))) from by have h := Kd.C_below HM5.out.2.2 HBN.out; rw [Int.toNat_natCast] at h; exact h)
        have HMcap := HM5.out.2.1
        have HNcap := HN6.out.2.1
        have HNC := Aside0.mk (show (Kd.int .i64).C (w6.setCell ⟨gn, pa, none⟩ (.int .i64 (-1))) (some ⟨gn, 0, none⟩) (P.set pa (-1)).length (P.set pa (-1)) from by have h := HN6.out.2.2; rw [Int.toNat_natCast] at h; exact h)
        obtain ⟨wf, hwf⟩ : ∃ wf, w6.setCell ⟨gn, pa, none⟩ (.int .i64 (-1)) = wf := ⟨_, rfl⟩
        rw [hwf] at HQ6 HMC HNC ⊢
        clear hwf qa za qb zb ra ya HBN HM5 HN6 HQ5 HQ4 HQ3 HB3 HB4 HCV HNM
        have HBF := Aside0.mk (HB2.out.below HQ6.out)
        have hbx0 := blk_cell HBF.out.box 0
        have hbx1 := blk_cell HBF.out.box 1
        have hbx2 := blk_cell HBF.out.box 2
        have hbx3 := blk_cell HBF.out.box 3
        have HR1 := Aside0.mk (fun W (hb : Below wf.heap.size wf W) => HRL.out W (HQ6.out.trans (hb.mono HQ6.out.size)))
        have HR2 := Aside0.mk (fun W (hb : Below wf.heap.size wf W) => right_calls_n (n := P.length) c A cap (P.set pa (rd P (pb : Int))) (by simp) (some ⟨gm, 0, none⟩) cm W (HBF.out.code.below hb) (Kd.C_below HMC.out hb) (by rw [List.length_set]; exact HMcap) HS.out (.inl ⟨rfl, HF.out, HLI.out⟩))
        have HR3 := Aside0.mk (fun W (hb : Below wf.heap.size wf W) => right_calls_n (n := P.length) c A cap (P.set pa (-1)) (by simp) (some ⟨gn, 0, none⟩) cn W (HBF.out.code.below hb) (Kd.C_below HNC.out hb) (by rw [List.length_set]; exact HNcap) HS.out (.inl ⟨rfl, HF.out, HLI.out⟩))
        rw [right_none HS.out HLI.out HRA.out hpal, HNN.out] at HR3
        cases cb with
        | true =>
          have hcc : pa ≠ pb ∧ clashB c ah af (pa : Int) (pb : Int) = true := by
            have h := HCB.out
            rw [Bool.and_eq_true, Bool.not_eq_true', decide_eq_false_iff_not] at h
            exact h
          rw [right_one hpal hpbl hcc.1 hcc.2] at HR2
          clear hcc HCB
          cases hb : inB nm (pa : Int) with
          | true =>
            rw [hb] at HR3
            have h0 : (Go.bits .and .i64 (nm / 2 ^ pa) 1 == 0) = false := by
              have h := (inB_ne nm pa).trans hb
              simpa using h
            clear hb
            go_region_held3 (fun w' => w'.cell? ⟨w.heap.size, 0, none⟩ = some (.int .i64 c.cells) ∧ w'.cell? ⟨w.heap.size, 1, none⟩ = some (.int .i64 c.params) ∧ w'.cell? ⟨w.heap.size, 2, none⟩ = some (.slice A c.body.length cap) ∧ w'.cell? ⟨w.heap.size, 3, none⟩ = some (.int .i64 c.labels)) (go_keep)
              (first
                | (go_at_call 39; first
                    | (refine (HR3.out _ HG8.out).mono ?_; rintro e w9 ⟨rfl, hb9⟩; have HG9 := Aside0.mk (HG8.out.trans (hb9.mono HG8.out.size)); have hu0 := blk_cell (HBF.out.below HG9.out).box 0; have hu1 := blk_cell (HBF.out.below HG9.out).box 1; have hu2 := blk_cell (HBF.out.below HG9.out).box 2; have hu3 := blk_cell (HBF.out.below HG9.out).box 3; clear hb9)
                    | (refine (HR2.out _ HG7.out).mono ?_; rintro e w8 ⟨rfl, hb8⟩; have HG8 := Aside0.mk (HG7.out.trans (hb8.mono HG7.out.size)); have ht0 := blk_cell (HBF.out.below HG8.out).box 0; have ht1 := blk_cell (HBF.out.below HG8.out).box 1; have ht2 := blk_cell (HBF.out.below HG8.out).box 2; have ht3 := blk_cell (HBF.out.below HG8.out).box 3; clear hb8)
                    | (refine (HR1.out _ (drew_below _)).mono ?_; rintro e w7 ⟨rfl, hb7⟩; have HG7 := Aside0.mk ((drew_below wf).trans (hb7.mono (drew_below wf).size)); have hs0 := blk_cell (HBF.out.below HG7.out).box 0; have hs1 := blk_cell (HBF.out.below HG7.out).box 1; have hs2 := blk_cell (HBF.out.below HG7.out).box 2; have hs3 := blk_cell (HBF.out.below HG7.out).box 3; clear hb7)))
            have HD := Aside0.mk (HBF.out.below HG9.out).bel
            clear ht0 ht1 ht2 ht3 hu0 hu1 hu2 hu3 hs0 hs1 hs2 hs3 hbx0 hbx1 hbx2 hbx3
            go_wp2_with fail
            go_ret
            exact ⟨rfl, HD.out⟩
          | false =>
            rw [hb] at HR3
            have h0 : (Go.bits .and .i64 (nm / 2 ^ pa) 1 == 0) = true := by
              have h := (inB_ne nm pa).trans hb
              simpa using h
            clear hb
            go_region_held3 (fun w' => w'.cell? ⟨w.heap.size, 0, none⟩ = some (.int .i64 c.cells) ∧ w'.cell? ⟨w.heap.size, 1, none⟩ = some (.int .i64 c.params) ∧ w'.cell? ⟨w.heap.size, 2, none⟩ = some (.slice A c.body.length cap) ∧ w'.cell? ⟨w.heap.size, 3, none⟩ = some (.int .i64 c.labels)) (go_keep)
              (first
                | (go_at_call 39; first
                    | (refine (HR3.out _ HG8.out).mono ?_; rintro e w9 ⟨rfl, hb9⟩; have HG9 := Aside0.mk (HG8.out.trans (hb9.mono HG8.out.size)); have hu0 := blk_cell (HBF.out.below HG9.out).box 0; have hu1 := blk_cell (HBF.out.below HG9.out).box 1; have hu2 := blk_cell (HBF.out.below HG9.out).box 2; have hu3 := blk_cell (HBF.out.below HG9.out).box 3; clear hb9)
                    | (refine (HR2.out _ HG7.out).mono ?_; rintro e w8 ⟨rfl, hb8⟩; have HG8 := Aside0.mk (HG7.out.trans (hb8.mono HG7.out.size)); have ht0 := blk_cell (HBF.out.below HG8.out).box 0; have ht1 := blk_cell (HBF.out.below HG8.out).box 1; have ht2 := blk_cell (HBF.out.below HG8.out).box 2; have ht3 := blk_cell (HBF.out.below HG8.out).box 3; clear hb8)
                    | (refine (HR1.out _ (drew_below _)).mono ?_; rintro e w7 ⟨rfl, hb7⟩; have HG7 := Aside0.mk ((drew_below wf).trans (hb7.mono (drew_below wf).size)); have hs0 := blk_cell (HBF.out.below HG7.out).box 0; have hs1 := blk_cell (HBF.out.below HG7.out).box 1; have hs2 := blk_cell (HBF.out.below HG7.out).box 2; have hs3 := blk_cell (HBF.out.below HG7.out).box 3; clear hb7)))
            have HD := Aside0.mk (HBF.out.below HG9.out).bel
            clear ht0 ht1 ht2 ht3 hu0 hu1 hu2 hu3 hs0 hs1 hs2 hs3 hbx0 hbx1 hbx2 hbx3
            go_wp2_with fail
            go_ret
            exact ⟨rfl, HD.out⟩
        | false =>
          clear HR2 HCB
          cases hb : inB nm (pa : Int) with
          | true =>
            rw [hb] at HR3
            have h0 : (Go.bits .and .i64 (nm / 2 ^ pa) 1 == 0) = false := by
              have h := (inB_ne nm pa).trans hb
              simpa using h
            clear hb
            go_wp2_with fail
            refine wp_region_held_drew (S := (fun w' => w'.cell? ⟨w.heap.size, 0, none⟩ = some (.int .i64 c.cells) ∧ w'.cell? ⟨w.heap.size, 1, none⟩ = some (.int .i64 c.params) ∧ w'.cell? ⟨w.heap.size, 2, none⟩ = some (.slice A c.body.length cap) ∧ w'.cell? ⟨w.heap.size, 3, none⟩ = some (.int .i64 c.labels))) (by kernel_rfl) (by go_keep) (fun hHeld => ?_)
            refine wpAnyH_take (i := 0) (v := .bool true) rfl (by kernel_rfl) (by kernel_rfl) (by kernel_rfl) (fun _ _ _ h => h) (Or.inl ⟨by rfl, fun _ _ => rfl⟩) (by assumption) ?_
            simp only [Act.put, List.getElem_toArray, List.getElem_cons_succ, List.getElem_cons_zero, List.setIfInBounds_toArray, List.set_cons_zero, List.set_cons_succ]
            refine wpAnyH_take (i := 1) (v := .bool true) rfl (by kernel_rfl) (by kernel_rfl) (by kernel_rfl) (fun _ _ _ h => h) (Or.inl ⟨by rfl, fun _ _ => rfl⟩) (by assumption) ?_
            simp only [Act.put, List.getElem_toArray, List.getElem_cons_succ, List.getElem_cons_zero, List.setIfInBounds_toArray, List.set_cons_zero, List.set_cons_succ]
            refine wpAnyH_take (i := 2) (v := .int .i64 0) rfl (by kernel_rfl) (by kernel_rfl) (by kernel_rfl) (fun _ _ _ h => h) (Or.inl ⟨by rfl, fun _ _ => rfl⟩) (by assumption) ?_
            simp only [Act.put, List.getElem_toArray, List.getElem_cons_succ, List.getElem_cons_zero, List.setIfInBounds_toArray, List.set_cons_zero, List.set_cons_succ]
            refine wpAnyH_take (i := 3) (v := .bool true) rfl (by kernel_rfl) (by kernel_rfl) (by kernel_rfl) (fun _ _ _ h => h) (Or.inl ⟨by rfl, fun _ _ => rfl⟩) (by assumption) ?_
            simp only [Act.put, List.getElem_toArray, List.getElem_cons_succ, List.getElem_cons_zero, List.setIfInBounds_toArray, List.set_cons_zero, List.set_cons_succ]
            refine wpAnyH_take (i := 4) (v := .bool true) rfl (by kernel_rfl) (by kernel_rfl) (by kernel_rfl) (fun _ _ _ h => h) (Or.inl ⟨by rfl, fun _ _ => rfl⟩) (by assumption) ?_
            simp only [Act.put, List.getElem_toArray, List.getElem_cons_succ, List.getElem_cons_zero, List.setIfInBounds_toArray, List.set_cons_zero, List.set_cons_succ]
            refine wpAnyH_take (i := 5) (v := .bool true) rfl (by kernel_rfl) (by kernel_rfl) (by kernel_rfl) (fun _ _ _ h => h) (Or.inl ⟨by rfl, fun _ _ => rfl⟩) (by assumption) ?_
            simp only [Act.put, List.getElem_toArray, List.getElem_cons_succ, List.getElem_cons_zero, List.setIfInBounds_toArray, List.set_cons_zero, List.set_cons_succ]
            refine wpAnyH_take (i := 6) (v := .int .i64 0) rfl (by kernel_rfl) (by kernel_rfl) (by kernel_rfl) (fun _ _ _ h => h) (Or.inl ⟨by rfl, fun _ _ => rfl⟩) (by assumption) ?_
            simp only [Act.put, List.getElem_toArray, List.getElem_cons_succ, List.getElem_cons_zero, List.setIfInBounds_toArray, List.set_cons_zero, List.set_cons_succ]
            refine wpAnyH_take (i := 7) (v := .bool true) rfl (by kernel_rfl) (by kernel_rfl) (by kernel_rfl) (fun _ _ _ h => h) (Or.inl ⟨by rfl, fun _ _ => rfl⟩) (by assumption) ?_
            simp only [Act.put, List.getElem_toArray, List.getElem_cons_succ, List.getElem_cons_zero, List.setIfInBounds_toArray, List.set_cons_zero, List.set_cons_succ]
            refine wpAnyH_take (i := 8) (v := .bool true) rfl (by kernel_rfl) (by kernel_rfl) (by kernel_rfl) (fun _ _ _ h => h) (Or.inl ⟨by rfl, fun _ _ => rfl⟩) (by assumption) ?_
            simp only [Act.put, List.getElem_toArray, List.getElem_cons_succ, List.getElem_cons_zero, List.setIfInBounds_toArray, List.set_cons_zero, List.set_cons_succ]
            refine wpAnyH_take (i := 9) (v := .bool true) rfl (by kernel_rfl) (by kernel_rfl) (by kernel_rfl) (fun _ _ _ h => h) (Or.inl ⟨by rfl, fun _ _ => rfl⟩) (by assumption) ?_
            simp only [Act.put, List.getElem_toArray, List.getElem_cons_succ, List.getElem_cons_zero, List.setIfInBounds_toArray, List.set_cons_zero, List.set_cons_succ]
            refine wpAnyH_take (i := 10) (v := .agg #[.int .i64 c.cells, .int .i64 c.params, .slice A c.body.length cap, .int .i64 c.labels]) rfl (by kernel_rfl) (by kernel_rfl) (by kernel_rfl) (fun _ _ _ h => h) (Or.inl ⟨by rfl, fun w' hSw => ?_⟩) (by assumption) ?_
            · obtain ⟨q0, q1, q2, q3⟩ := hSw
              clear hHeld
              go_simp
            simp only [Act.put, List.getElem_toArray, List.getElem_cons_succ, List.getElem_cons_zero, List.setIfInBounds_toArray, List.set_cons_zero, List.set_cons_succ]
            refine wpAnyH_take (i := 11) (v := .slice Ap P.length cp) rfl (by kernel_rfl) (by kernel_rfl) (by kernel_rfl) (fun _ _ _ h => h) (Or.inl ⟨by rfl, fun _ _ => rfl⟩) (by assumption) ?_
            simp only [Act.put, List.getElem_toArray, List.getElem_cons_succ, List.getElem_cons_zero, List.setIfInBounds_toArray, List.set_cons_zero, List.set_cons_succ]
            refine wpAnyH_ready (rs := [12]) (by kernel_rfl) (by simp) ?_
            refine AllReadyH.cons rfl (fun K hK => ?_) AllReadyH.nil
            go_simp
            (go_at_call 39; refine (HR1.out _ (drew_below _)).mono ?_; rintro e w7 ⟨rfl, hb⟩)
            have HG7 := Aside0.mk ((drew_below wf).trans (hb.mono (drew_below wf).size))
            have ha70 := blk_cell (HBF.out.below HG7.out).box 0
            have ha71 := blk_cell (HBF.out.below HG7.out).box 1
            have ha72 := blk_cell (HBF.out.below HG7.out).box 2
            have ha73 := blk_cell (HBF.out.below HG7.out).box 3
            clear hb
            go_wp2_with fail
            refine hK.out _ _ (by go_keep) (fun hHeld7 => ?_)
            clear hK
            refine wpAnyH_take (i := 13) (v := .bool true) rfl (by kernel_rfl) (by kernel_rfl) (by kernel_rfl) (fun _ _ _ h => h) (Or.inl ⟨by rfl, fun _ _ => rfl⟩) (by assumption) ?_
            simp only [Act.put, List.getElem_toArray, List.getElem_cons_succ, List.getElem_cons_zero, List.setIfInBounds_toArray, List.set_cons_zero, List.set_cons_succ]
            refine wpAnyH_take (i := 14) (v := .bool true) rfl (by kernel_rfl) (by kernel_rfl) (by kernel_rfl) (fun _ _ _ h => h) (Or.inl ⟨by rfl, fun _ _ => rfl⟩) (by assumption) ?_
            simp only [Act.put, List.getElem_toArray, List.getElem_cons_succ, List.getElem_cons_zero, List.setIfInBounds_toArray, List.set_cons_zero, List.set_cons_succ]
            refine wpAnyH_take (i := 15) (v := .bool false) rfl (by kernel_rfl) (by kernel_rfl) (by kernel_rfl) (fun _ _ _ h => h) (Or.inl ⟨by rfl, fun _ _ => rfl⟩) (by assumption) ?_
            simp only [Act.put, List.getElem_toArray, List.getElem_cons_succ, List.getElem_cons_zero, List.setIfInBounds_toArray, List.set_cons_zero, List.set_cons_succ]
            refine wpAnyH_take (i := 16) (v := .bool true) rfl (by kernel_rfl) (by kernel_rfl) (by kernel_rfl) (fun _ _ _ h => h) (Or.inl ⟨by rfl, fun _ _ => rfl⟩) (by assumption) ?_
            simp only [Act.put, List.getElem_toArray, List.getElem_cons_succ, List.getElem_cons_zero, List.setIfInBounds_toArray, List.set_cons_zero, List.set_cons_succ]
            refine wpAnyH_take (i := 17) (v := .bool true) rfl (by kernel_rfl) (by kernel_rfl) (by kernel_rfl) (fun _ _ _ h => h) (Or.inl ⟨by rfl, fun _ _ => rfl⟩) (by assumption) ?_
            simp only [Act.put, List.getElem_toArray, List.getElem_cons_succ, List.getElem_cons_zero, List.setIfInBounds_toArray, List.set_cons_zero, List.set_cons_succ]
            refine wpAnyH_take (i := 18) (v := undef) rfl (by kernel_rfl) (by kernel_rfl) (by kernel_rfl) (fun _ _ _ h => h) (Or.inr ⟨by kernel_rfl, rfl⟩) (by assumption) ?_
            simp only [Act.put, List.getElem_toArray, List.getElem_cons_succ, List.getElem_cons_zero, List.setIfInBounds_toArray, List.set_cons_zero, List.set_cons_succ]
            refine wpAnyH_take (i := 19) (v := undef) rfl (by kernel_rfl) (by kernel_rfl) (by kernel_rfl) (fun _ _ _ h => h) (Or.inr ⟨by kernel_rfl, rfl⟩) (by assumption) ?_
            simp only [Act.put, List.getElem_toArray, List.getElem_cons_succ, List.getElem_cons_zero, List.setIfInBounds_toArray, List.set_cons_zero, List.set_cons_succ]
            refine wpAnyH_take (i := 20) (v := undef) rfl (by kernel_rfl) (by kernel_rfl) (by kernel_rfl) (fun _ _ _ h => h) (Or.inr ⟨by kernel_rfl, rfl⟩) (by assumption) ?_
            simp only [Act.put, List.getElem_toArray, List.getElem_cons_succ, List.getElem_cons_zero, List.setIfInBounds_toArray, List.set_cons_zero, List.set_cons_succ]
            refine wpAnyH_take (i := 21) (v := undef) rfl (by kernel_rfl) (by kernel_rfl) (by kernel_rfl) (fun _ _ _ h => h) (Or.inr ⟨by kernel_rfl, rfl⟩) (by assumption) ?_
            simp only [Act.put, List.getElem_toArray, List.getElem_cons_succ, List.getElem_cons_zero, List.setIfInBounds_toArray, List.set_cons_zero, List.set_cons_succ]
            refine wpAnyH_take (i := 22) (v := .bool true) rfl (by kernel_rfl) (by kernel_rfl) (by kernel_rfl) (fun _ _ _ h => h) (Or.inl ⟨by rfl, fun _ _ => rfl⟩) (by assumption) ?_
            simp only [Act.put, List.getElem_toArray, List.getElem_cons_succ, List.getElem_cons_zero, List.setIfInBounds_toArray, List.set_cons_zero, List.set_cons_succ]
            refine wpAnyH_take (i := 23) (v := .bool true) rfl (by kernel_rfl) (by kernel_rfl) (by kernel_rfl) (fun _ _ _ h => h) (Or.inl ⟨by rfl, fun _ _ => rfl⟩) (by assumption) ?_
            simp only [Act.put, List.getElem_toArray, List.getElem_cons_succ, List.getElem_cons_zero, List.setIfInBounds_toArray, List.set_cons_zero, List.set_cons_succ]
            refine wpAnyH_take (i := 24) (v := .bool true) rfl (by kernel_rfl) (by kernel_rfl) (by kernel_rfl) (fun _ _ _ h => h) (Or.inl ⟨by rfl, fun _ _ => rfl⟩) (by assumption) ?_
            simp only [Act.put, List.getElem_toArray, List.getElem_cons_succ, List.getElem_cons_zero, List.setIfInBounds_toArray, List.set_cons_zero, List.set_cons_succ]
            refine wpAnyH_take (i := 25) (v := .agg #[.int .i64 c.cells, .int .i64 c.params, .slice A c.body.length cap, .int .i64 c.labels]) rfl (by kernel_rfl) (by kernel_rfl) (by kernel_rfl) (fun _ _ _ h => h) (Or.inl ⟨by rfl, fun w' hSw => ?_⟩) (by assumption) ?_
            · obtain ⟨q0, q1, q2, q3⟩ := hSw
              clear hHeld
              go_simp
            simp only [Act.put, List.getElem_toArray, List.getElem_cons_succ, List.getElem_cons_zero, List.setIfInBounds_toArray, List.set_cons_zero, List.set_cons_succ]
            refine wpAnyH_take (i := 26) (v := .slice (some ⟨gn, 0, none⟩) P.length cn) rfl (by kernel_rfl) (by kernel_rfl) (by kernel_rfl) (fun _ _ _ h => h) (Or.inl ⟨by rfl, fun _ _ => rfl⟩) (by assumption) ?_
            simp only [Act.put, List.getElem_toArray, List.getElem_cons_succ, List.getElem_cons_zero, List.setIfInBounds_toArray, List.set_cons_zero, List.set_cons_succ]
            refine wpAnyH_take (i := 28) (v := .int .i64 nm) rfl (by kernel_rfl) (by kernel_rfl) (by kernel_rfl) (fun _ _ _ h => h) (Or.inl ⟨by rfl, fun _ _ => rfl⟩) (by assumption) ?_
            simp only [Act.put, List.getElem_toArray, List.getElem_cons_succ, List.getElem_cons_zero, List.setIfInBounds_toArray, List.set_cons_zero, List.set_cons_succ]
            refine wpAnyH_take (i := 29) (v := .int .i64 (pa : Int)) rfl (by kernel_rfl) (by kernel_rfl) (by kernel_rfl) (fun _ _ _ h => h) (Or.inl ⟨by rfl, fun _ _ => rfl⟩) (by assumption) ?_
            simp only [Act.put, List.getElem_toArray, List.getElem_cons_succ, List.getElem_cons_zero, List.setIfInBounds_toArray, List.set_cons_zero, List.set_cons_succ]
            refine wpAnyH_take (i := 30) (v := .int .i64 (nm / 2 ^ pa)) rfl (by kernel_rfl) (by kernel_rfl) (by kernel_rfl) (fun _ _ _ h => h) (Or.inl ⟨by rfl, fun w' hSw => ?_⟩) (by assumption) ?_
            · obtain ⟨q0, q1, q2, q3⟩ := hSw
              clear hHeld
              go_simp
            simp only [Act.put, List.getElem_toArray, List.getElem_cons_succ, List.getElem_cons_zero, List.setIfInBounds_toArray, List.set_cons_zero, List.set_cons_succ]
            refine wpAnyH_take (i := 31) (v := .int .i64 (Go.bits .and .i64 (nm / 2 ^ pa) 1)) rfl (by kernel_rfl) (by kernel_rfl) (by kernel_rfl) (fun _ _ _ h => h) (Or.inl ⟨by rfl, fun _ _ => rfl⟩) (by assumption) ?_
            simp only [Act.put, List.getElem_toArray, List.getElem_cons_succ, List.getElem_cons_zero, List.setIfInBounds_toArray, List.set_cons_zero, List.set_cons_succ]
            refine wpAnyH_take (i := 32) (v := .bool false) rfl (by kernel_rfl) (by kernel_rfl) (by kernel_rfl) (fun _ _ _ h => h) (Or.inl ⟨by rfl, fun w' hSw => ?_⟩) (by assumption) ?_
            · obtain ⟨q0, q1, q2, q3⟩ := hSw
              clear hHeld
              go_simp
            simp only [Act.put, List.getElem_toArray, List.getElem_cons_succ, List.getElem_cons_zero, List.setIfInBounds_toArray, List.set_cons_zero, List.set_cons_succ]
            refine wpAnyH_ready (rs := [27]) (by kernel_rfl) (by simp) ?_
            refine AllReadyH.cons rfl (fun K hK => ?_) AllReadyH.nil
            go_simp
            (go_at_call 39; refine (HR3.out _ HG7.out).mono ?_; rintro e w9 ⟨rfl, hb⟩)
            have HG9 := Aside0.mk (HG7.out.trans (hb.mono HG7.out.size))
            have ha90 := blk_cell (HBF.out.below HG9.out).box 0
            have ha91 := blk_cell (HBF.out.below HG9.out).box 1
            have ha92 := blk_cell (HBF.out.below HG9.out).box 2
            have ha93 := blk_cell (HBF.out.below HG9.out).box 3
            clear hb
            go_wp2_with fail
            refine hK.out _ _ (by go_keep) (fun hHeld9 => ?_)
            clear hK
            refine wpAnyH_take (i := 33) (v := .bool true) rfl (by kernel_rfl) (by kernel_rfl) (by kernel_rfl) (fun _ _ _ h => h) (Or.inl ⟨by rfl, fun _ _ => rfl⟩) (by assumption) ?_
            simp only [Act.put, List.getElem_toArray, List.getElem_cons_succ, List.getElem_cons_zero, List.setIfInBounds_toArray, List.set_cons_zero, List.set_cons_succ]
            refine wpAnyH_take (i := 34) (v := .bool true) rfl (by kernel_rfl) (by kernel_rfl) (by kernel_rfl) (fun _ _ _ h => h) (Or.inl ⟨by rfl, fun _ _ => rfl⟩) (by assumption) ?_
            simp only [Act.put, List.getElem_toArray, List.getElem_cons_succ, List.getElem_cons_zero, List.setIfInBounds_toArray, List.set_cons_zero, List.set_cons_succ]
            refine wpAnyH_take (i := 35) (v := .bool true) rfl (by kernel_rfl) (by kernel_rfl) (by kernel_rfl) (fun _ _ _ h => h) (Or.inl ⟨by rfl, fun _ _ => rfl⟩) (by assumption) ?_
            simp only [Act.put, List.getElem_toArray, List.getElem_cons_succ, List.getElem_cons_zero, List.setIfInBounds_toArray, List.set_cons_zero, List.set_cons_succ]
            refine wpAnyH_done (by kernel_rfl) ?_ _
            have HD := Aside0.mk (HBF.out.below HG9.out).bel
            clear ha70 ha71 ha72 ha73 ha90 ha91 ha92 ha93 hbx0 hbx1 hbx2 hbx3
            go_wp2_with fail
            go_ret
            exact ⟨rfl, HD.out⟩
          | false =>
            rw [hb] at HR3
            have h0 : (Go.bits .and .i64 (nm / 2 ^ pa) 1 == 0) = true := by
              have h := (inB_ne nm pa).trans hb
              simpa using h
            clear hb
            go_wp2_with fail
            refine wp_region_held_drew (S := (fun w' => w'.cell? ⟨w.heap.size, 0, none⟩ = some (.int .i64 c.cells) ∧ w'.cell? ⟨w.heap.size, 1, none⟩ = some (.int .i64 c.params) ∧ w'.cell? ⟨w.heap.size, 2, none⟩ = some (.slice A c.body.length cap) ∧ w'.cell? ⟨w.heap.size, 3, none⟩ = some (.int .i64 c.labels))) (by kernel_rfl) (by go_keep) (fun hHeld => ?_)
            refine wpAnyH_take (i := 0) (v := .bool true) rfl (by kernel_rfl) (by kernel_rfl) (by kernel_rfl) (fun _ _ _ h => h) (Or.inl ⟨by rfl, fun _ _ => rfl⟩) (by assumption) ?_
            simp only [Act.put, List.getElem_toArray, List.getElem_cons_succ, List.getElem_cons_zero, List.setIfInBounds_toArray, List.set_cons_zero, List.set_cons_succ]
            refine wpAnyH_take (i := 1) (v := .bool true) rfl (by kernel_rfl) (by kernel_rfl) (by kernel_rfl) (fun _ _ _ h => h) (Or.inl ⟨by rfl, fun _ _ => rfl⟩) (by assumption) ?_
            simp only [Act.put, List.getElem_toArray, List.getElem_cons_succ, List.getElem_cons_zero, List.setIfInBounds_toArray, List.set_cons_zero, List.set_cons_succ]
            refine wpAnyH_take (i := 2) (v := .int .i64 0) rfl (by kernel_rfl) (by kernel_rfl) (by kernel_rfl) (fun _ _ _ h => h) (Or.inl ⟨by rfl, fun _ _ => rfl⟩) (by assumption) ?_
            simp only [Act.put, List.getElem_toArray, List.getElem_cons_succ, List.getElem_cons_zero, List.setIfInBounds_toArray, List.set_cons_zero, List.set_cons_succ]
            refine wpAnyH_take (i := 3) (v := .bool true) rfl (by kernel_rfl) (by kernel_rfl) (by kernel_rfl) (fun _ _ _ h => h) (Or.inl ⟨by rfl, fun _ _ => rfl⟩) (by assumption) ?_
            simp only [Act.put, List.getElem_toArray, List.getElem_cons_succ, List.getElem_cons_zero, List.setIfInBounds_toArray, List.set_cons_zero, List.set_cons_succ]
            refine wpAnyH_take (i := 4) (v := .bool true) rfl (by kernel_rfl) (by kernel_rfl) (by kernel_rfl) (fun _ _ _ h => h) (Or.inl ⟨by rfl, fun _ _ => rfl⟩) (by assumption) ?_
            simp only [Act.put, List.getElem_toArray, List.getElem_cons_succ, List.getElem_cons_zero, List.setIfInBounds_toArray, List.set_cons_zero, List.set_cons_succ]
            refine wpAnyH_take (i := 5) (v := .bool true) rfl (by kernel_rfl) (by kernel_rfl) (by kernel_rfl) (fun _ _ _ h => h) (Or.inl ⟨by rfl, fun _ _ => rfl⟩) (by assumption) ?_
            simp only [Act.put, List.getElem_toArray, List.getElem_cons_succ, List.getElem_cons_zero, List.setIfInBounds_toArray, List.set_cons_zero, List.set_cons_succ]
            refine wpAnyH_take (i := 6) (v := .int .i64 0) rfl (by kernel_rfl) (by kernel_rfl) (by kernel_rfl) (fun _ _ _ h => h) (Or.inl ⟨by rfl, fun _ _ => rfl⟩) (by assumption) ?_
            simp only [Act.put, List.getElem_toArray, List.getElem_cons_succ, List.getElem_cons_zero, List.setIfInBounds_toArray, List.set_cons_zero, List.set_cons_succ]
            refine wpAnyH_take (i := 7) (v := .bool true) rfl (by kernel_rfl) (by kernel_rfl) (by kernel_rfl) (fun _ _ _ h => h) (Or.inl ⟨by rfl, fun _ _ => rfl⟩) (by assumption) ?_
            simp only [Act.put, List.getElem_toArray, List.getElem_cons_succ, List.getElem_cons_zero, List.setIfInBounds_toArray, List.set_cons_zero, List.set_cons_succ]
            refine wpAnyH_take (i := 8) (v := .bool true) rfl (by kernel_rfl) (by kernel_rfl) (by kernel_rfl) (fun _ _ _ h => h) (Or.inl ⟨by rfl, fun _ _ => rfl⟩) (by assumption) ?_
            simp only [Act.put, List.getElem_toArray, List.getElem_cons_succ, List.getElem_cons_zero, List.setIfInBounds_toArray, List.set_cons_zero, List.set_cons_succ]
            refine wpAnyH_take (i := 9) (v := .bool true) rfl (by kernel_rfl) (by kernel_rfl) (by kernel_rfl) (fun _ _ _ h => h) (Or.inl ⟨by rfl, fun _ _ => rfl⟩) (by assumption) ?_
            simp only [Act.put, List.getElem_toArray, List.getElem_cons_succ, List.getElem_cons_zero, List.setIfInBounds_toArray, List.set_cons_zero, List.set_cons_succ]
            refine wpAnyH_take (i := 10) (v := .agg #[.int .i64 c.cells, .int .i64 c.params, .slice A c.body.length cap, .int .i64 c.labels]) rfl (by kernel_rfl) (by kernel_rfl) (by kernel_rfl) (fun _ _ _ h => h) (Or.inl ⟨by rfl, fun w' hSw => ?_⟩) (by assumption) ?_
            · obtain ⟨q0, q1, q2, q3⟩ := hSw
              clear hHeld
              go_simp
            simp only [Act.put, List.getElem_toArray, List.getElem_cons_succ, List.getElem_cons_zero, List.setIfInBounds_toArray, List.set_cons_zero, List.set_cons_succ]
            refine wpAnyH_take (i := 11) (v := .slice Ap P.length cp) rfl (by kernel_rfl) (by kernel_rfl) (by kernel_rfl) (fun _ _ _ h => h) (Or.inl ⟨by rfl, fun _ _ => rfl⟩) (by assumption) ?_
            simp only [Act.put, List.getElem_toArray, List.getElem_cons_succ, List.getElem_cons_zero, List.setIfInBounds_toArray, List.set_cons_zero, List.set_cons_succ]
            refine wpAnyH_ready (rs := [12]) (by kernel_rfl) (by simp) ?_
            refine AllReadyH.cons rfl (fun K hK => ?_) AllReadyH.nil
            go_simp
            (go_at_call 39; refine (HR1.out _ (drew_below _)).mono ?_; rintro e w7 ⟨rfl, hb⟩)
            have HG7 := Aside0.mk ((drew_below wf).trans (hb.mono (drew_below wf).size))
            have ha70 := blk_cell (HBF.out.below HG7.out).box 0
            have ha71 := blk_cell (HBF.out.below HG7.out).box 1
            have ha72 := blk_cell (HBF.out.below HG7.out).box 2
            have ha73 := blk_cell (HBF.out.below HG7.out).box 3
            clear hb
            go_wp2_with fail
            refine hK.out _ _ (by go_keep) (fun hHeld7 => ?_)
            clear hK
            refine wpAnyH_take (i := 13) (v := .bool true) rfl (by kernel_rfl) (by kernel_rfl) (by kernel_rfl) (fun _ _ _ h => h) (Or.inl ⟨by rfl, fun _ _ => rfl⟩) (by assumption) ?_
            simp only [Act.put, List.getElem_toArray, List.getElem_cons_succ, List.getElem_cons_zero, List.setIfInBounds_toArray, List.set_cons_zero, List.set_cons_succ]
            refine wpAnyH_take (i := 14) (v := .bool true) rfl (by kernel_rfl) (by kernel_rfl) (by kernel_rfl) (fun _ _ _ h => h) (Or.inl ⟨by rfl, fun _ _ => rfl⟩) (by assumption) ?_
            simp only [Act.put, List.getElem_toArray, List.getElem_cons_succ, List.getElem_cons_zero, List.setIfInBounds_toArray, List.set_cons_zero, List.set_cons_succ]
            refine wpAnyH_take (i := 15) (v := .bool false) rfl (by kernel_rfl) (by kernel_rfl) (by kernel_rfl) (fun _ _ _ h => h) (Or.inl ⟨by rfl, fun _ _ => rfl⟩) (by assumption) ?_
            simp only [Act.put, List.getElem_toArray, List.getElem_cons_succ, List.getElem_cons_zero, List.setIfInBounds_toArray, List.set_cons_zero, List.set_cons_succ]
            refine wpAnyH_take (i := 16) (v := .bool true) rfl (by kernel_rfl) (by kernel_rfl) (by kernel_rfl) (fun _ _ _ h => h) (Or.inl ⟨by rfl, fun _ _ => rfl⟩) (by assumption) ?_
            simp only [Act.put, List.getElem_toArray, List.getElem_cons_succ, List.getElem_cons_zero, List.setIfInBounds_toArray, List.set_cons_zero, List.set_cons_succ]
            refine wpAnyH_take (i := 17) (v := .bool true) rfl (by kernel_rfl) (by kernel_rfl) (by kernel_rfl) (fun _ _ _ h => h) (Or.inl ⟨by rfl, fun _ _ => rfl⟩) (by assumption) ?_
            simp only [Act.put, List.getElem_toArray, List.getElem_cons_succ, List.getElem_cons_zero, List.setIfInBounds_toArray, List.set_cons_zero, List.set_cons_succ]
            refine wpAnyH_take (i := 18) (v := undef) rfl (by kernel_rfl) (by kernel_rfl) (by kernel_rfl) (fun _ _ _ h => h) (Or.inr ⟨by kernel_rfl, rfl⟩) (by assumption) ?_
            simp only [Act.put, List.getElem_toArray, List.getElem_cons_succ, List.getElem_cons_zero, List.setIfInBounds_toArray, List.set_cons_zero, List.set_cons_succ]
            refine wpAnyH_take (i := 19) (v := undef) rfl (by kernel_rfl) (by kernel_rfl) (by kernel_rfl) (fun _ _ _ h => h) (Or.inr ⟨by kernel_rfl, rfl⟩) (by assumption) ?_
            simp only [Act.put, List.getElem_toArray, List.getElem_cons_succ, List.getElem_cons_zero, List.setIfInBounds_toArray, List.set_cons_zero, List.set_cons_succ]
            refine wpAnyH_take (i := 20) (v := undef) rfl (by kernel_rfl) (by kernel_rfl) (by kernel_rfl) (fun _ _ _ h => h) (Or.inr ⟨by kernel_rfl, rfl⟩) (by assumption) ?_
            simp only [Act.put, List.getElem_toArray, List.getElem_cons_succ, List.getElem_cons_zero, List.setIfInBounds_toArray, List.set_cons_zero, List.set_cons_succ]
            refine wpAnyH_take (i := 21) (v := undef) rfl (by kernel_rfl) (by kernel_rfl) (by kernel_rfl) (fun _ _ _ h => h) (Or.inr ⟨by kernel_rfl, rfl⟩) (by assumption) ?_
            simp only [Act.put, List.getElem_toArray, List.getElem_cons_succ, List.getElem_cons_zero, List.setIfInBounds_toArray, List.set_cons_zero, List.set_cons_succ]
            refine wpAnyH_take (i := 22) (v := .bool true) rfl (by kernel_rfl) (by kernel_rfl) (by kernel_rfl) (fun _ _ _ h => h) (Or.inl ⟨by rfl, fun _ _ => rfl⟩) (by assumption) ?_
            simp only [Act.put, List.getElem_toArray, List.getElem_cons_succ, List.getElem_cons_zero, List.setIfInBounds_toArray, List.set_cons_zero, List.set_cons_succ]
            refine wpAnyH_take (i := 23) (v := .bool true) rfl (by kernel_rfl) (by kernel_rfl) (by kernel_rfl) (fun _ _ _ h => h) (Or.inl ⟨by rfl, fun _ _ => rfl⟩) (by assumption) ?_
            simp only [Act.put, List.getElem_toArray, List.getElem_cons_succ, List.getElem_cons_zero, List.setIfInBounds_toArray, List.set_cons_zero, List.set_cons_succ]
            refine wpAnyH_take (i := 24) (v := .bool true) rfl (by kernel_rfl) (by kernel_rfl) (by kernel_rfl) (fun _ _ _ h => h) (Or.inl ⟨by rfl, fun _ _ => rfl⟩) (by assumption) ?_
            simp only [Act.put, List.getElem_toArray, List.getElem_cons_succ, List.getElem_cons_zero, List.setIfInBounds_toArray, List.set_cons_zero, List.set_cons_succ]
            refine wpAnyH_take (i := 25) (v := .agg #[.int .i64 c.cells, .int .i64 c.params, .slice A c.body.length cap, .int .i64 c.labels]) rfl (by kernel_rfl) (by kernel_rfl) (by kernel_rfl) (fun _ _ _ h => h) (Or.inl ⟨by rfl, fun w' hSw => ?_⟩) (by assumption) ?_
            · obtain ⟨q0, q1, q2, q3⟩ := hSw
              clear hHeld
              go_simp
            simp only [Act.put, List.getElem_toArray, List.getElem_cons_succ, List.getElem_cons_zero, List.setIfInBounds_toArray, List.set_cons_zero, List.set_cons_succ]
            refine wpAnyH_take (i := 26) (v := .slice (some ⟨gn, 0, none⟩) P.length cn) rfl (by kernel_rfl) (by kernel_rfl) (by kernel_rfl) (fun _ _ _ h => h) (Or.inl ⟨by rfl, fun _ _ => rfl⟩) (by assumption) ?_
            simp only [Act.put, List.getElem_toArray, List.getElem_cons_succ, List.getElem_cons_zero, List.setIfInBounds_toArray, List.set_cons_zero, List.set_cons_succ]
            refine wpAnyH_take (i := 28) (v := .int .i64 nm) rfl (by kernel_rfl) (by kernel_rfl) (by kernel_rfl) (fun _ _ _ h => h) (Or.inl ⟨by rfl, fun _ _ => rfl⟩) (by assumption) ?_
            simp only [Act.put, List.getElem_toArray, List.getElem_cons_succ, List.getElem_cons_zero, List.setIfInBounds_toArray, List.set_cons_zero, List.set_cons_succ]
            refine wpAnyH_take (i := 29) (v := .int .i64 (pa : Int)) rfl (by kernel_rfl) (by kernel_rfl) (by kernel_rfl) (fun _ _ _ h => h) (Or.inl ⟨by rfl, fun _ _ => rfl⟩) (by assumption) ?_
            simp only [Act.put, List.getElem_toArray, List.getElem_cons_succ, List.getElem_cons_zero, List.setIfInBounds_toArray, List.set_cons_zero, List.set_cons_succ]
            refine wpAnyH_take (i := 30) (v := .int .i64 (nm / 2 ^ pa)) rfl (by kernel_rfl) (by kernel_rfl) (by kernel_rfl) (fun _ _ _ h => h) (Or.inl ⟨by rfl, fun w' hSw => ?_⟩) (by assumption) ?_
            · obtain ⟨q0, q1, q2, q3⟩ := hSw
              clear hHeld
              go_simp
            simp only [Act.put, List.getElem_toArray, List.getElem_cons_succ, List.getElem_cons_zero, List.setIfInBounds_toArray, List.set_cons_zero, List.set_cons_succ]
            refine wpAnyH_take (i := 31) (v := .int .i64 (Go.bits .and .i64 (nm / 2 ^ pa) 1)) rfl (by kernel_rfl) (by kernel_rfl) (by kernel_rfl) (fun _ _ _ h => h) (Or.inl ⟨by rfl, fun _ _ => rfl⟩) (by assumption) ?_
            simp only [Act.put, List.getElem_toArray, List.getElem_cons_succ, List.getElem_cons_zero, List.setIfInBounds_toArray, List.set_cons_zero, List.set_cons_succ]
            refine wpAnyH_take (i := 32) (v := .bool true) rfl (by kernel_rfl) (by kernel_rfl) (by kernel_rfl) (fun _ _ _ h => h) (Or.inl ⟨by rfl, fun w' hSw => ?_⟩) (by assumption) ?_
            · obtain ⟨q0, q1, q2, q3⟩ := hSw
              clear hHeld
              go_simp
            simp only [Act.put, List.getElem_toArray, List.getElem_cons_succ, List.getElem_cons_zero, List.setIfInBounds_toArray, List.set_cons_zero, List.set_cons_succ]
            refine wpAnyH_ready (rs := [27]) (by kernel_rfl) (by simp) ?_
            refine AllReadyH.cons rfl (fun K hK => ?_) AllReadyH.nil
            go_simp
            (go_at_call 39; refine (HR3.out _ HG7.out).mono ?_; rintro e w9 ⟨rfl, hb⟩)
            have HG9 := Aside0.mk (HG7.out.trans (hb.mono HG7.out.size))
            have ha90 := blk_cell (HBF.out.below HG9.out).box 0
            have ha91 := blk_cell (HBF.out.below HG9.out).box 1
            have ha92 := blk_cell (HBF.out.below HG9.out).box 2
            have ha93 := blk_cell (HBF.out.below HG9.out).box 3
            clear hb
            go_wp2_with fail
            refine hK.out _ _ (by go_keep) (fun hHeld9 => ?_)
            clear hK
            refine wpAnyH_take (i := 33) (v := .bool true) rfl (by kernel_rfl) (by kernel_rfl) (by kernel_rfl) (fun _ _ _ h => h) (Or.inl ⟨by rfl, fun _ _ => rfl⟩) (by assumption) ?_
            simp only [Act.put, List.getElem_toArray, List.getElem_cons_succ, List.getElem_cons_zero, List.setIfInBounds_toArray, List.set_cons_zero, List.set_cons_succ]
            refine wpAnyH_take (i := 34) (v := .bool true) rfl (by kernel_rfl) (by kernel_rfl) (by kernel_rfl) (fun _ _ _ h => h) (Or.inl ⟨by rfl, fun _ _ => rfl⟩) (by assumption) ?_
            simp only [Act.put, List.getElem_toArray, List.getElem_cons_succ, List.getElem_cons_zero, List.setIfInBounds_toArray, List.set_cons_zero, List.set_cons_succ]
            refine wpAnyH_take (i := 35) (v := .bool true) rfl (by kernel_rfl) (by kernel_rfl) (by kernel_rfl) (fun _ _ _ h => h) (Or.inl ⟨by rfl, fun _ _ => rfl⟩) (by assumption) ?_
            simp only [Act.put, List.getElem_toArray, List.getElem_cons_succ, List.getElem_cons_zero, List.setIfInBounds_toArray, List.set_cons_zero, List.set_cons_succ]
            refine wpAnyH_done (by kernel_rfl) ?_ _
            have HD := Aside0.mk (HBF.out.below HG9.out).bel
            clear ha70 ha71 ha72 ha73 ha90 ha91 ha92 ha93 hbx0 hbx1 hbx2 hbx3
            go_wp2_with fail
            go_ret
            exact ⟨rfl, HD.out⟩
  · clear hf
    go_wp2_with fail
    go_ret
    exact ⟨rfl, HB2.out.bel⟩
end Go.Proofs.Ytdcmeefeinppnaa.Check
