/- LiveChanges: the walk of the statement. -/
import Derived.Test.YtdcmeefeinppnaaFlows
import Derived.Test.YtdcmeefeinppnaaSim
namespace Go.Proofs.Ytdcmeefeinppnaa.Rsem
open Go.RowKit Go.Proofs.YtdcmeefeinppnaaW.PrintWords Go.Proofs.YtdcmeefeinppnaaW.PrintLast Go.Proofs.YtdcmeefeinppnaaW.PrintMore Go.Proofs.Ytdcmeefeinppnaa.Mem Go.Proofs.Ytdcmeefeinppnaa.Ir Go.Proofs.Ytdcmeefeinppnaa.Live
set_option linter.unusedVariables false
set_option linter.unusedSimpArgs false

/-- which cell: a raw number, turned -/
def pickN (k : Int) (n : Nat) : Int := (if k < 0 then -(k + 1) else k) % (n : Int)
theorem pickN_in (k : Int) {n : Nat} (h : 0 < n) : 0 ≤ pickN k n ∧ pickN k n < n := ⟨Int.emod_nonneg _ (by omega), Int.emod_lt_of_pos _ (by omega)⟩
theorem pick_slot {k : Int} {n q : Nat} (h : pickN k n = (q : Int)) (hn : 0 < n) : (k < 0 ∧ -((k + 1).tmod (n : Int)) = (q : Int)) ∨ (¬ k < 0 ∧ k % (n : Int) = (q : Int)) := by
  unfold pickN at h
  by_cases hk : k < 0
  · rw [if_pos hk] at h
    refine .inl ⟨hk, ?_⟩
    rw [← Int.neg_tmod, Int.tmod_eq_emod_of_nonneg (by omega)]
    exact h
  · rw [if_neg hk] at h
    exact .inr ⟨hk, h⟩
theorem canL_of {cs : List Int} (h : ∀ k ∈ cs, -9223372036854775808 ≤ k ∧ k ≤ 9223372036854775807) : CanL cs := fun i => by
  unfold rd
  rw [List.getD_eq_getElem?_getD]
  cases hx : cs[i.toNat]? with
  | none => exact ⟨by decide, by decide⟩
  | some v => exact h v (List.mem_of_getElem? hx)
theorem wf_range {n : Int} (h : (Lit.int .i64 n).wf = true) : -9223372036854775808 ≤ n ∧ n ≤ 9223372036854775807 := by
  unfold Lit.wf at h
  simp only [Bool.and_eq_true, decide_eq_true_eq] at h
  exact h
theorem exec_fits {w : World} {c : Cod} {cs : List Int} {e : Ending} {w' : World} (h : ExecOut w c cs e w') (hf : fitsR c cs.length = true) : ∃ v, e = .returned (.tuple #[v, .int .i64 (execS c cs).2.1, .int .i64 (execS c cs).2.2, .int .i64 0]) ∧ (Kd.int .i64).R 3 w' w.heap.size (fun _ => True) v (execS c cs).1 ∧ Below w.heap.size w w' := by
  unfold ExecOut at h
  rw [if_pos hf] at h
  exact h
theorem exec_odd {w : World} {c : Cod} {cs : List Int} {e : Ending} {w' : World} (h : ExecOut w c cs e w') (hf : fitsR c cs.length = false) : e = .returned (.tuple #[.slice none 0 0, .int .i64 0, .int .i64 0, .int .i64 4]) ∧ Below w.heap.size w w' := by
  unfold ExecOut at h
  rw [if_neg (by rw [hf]; simp)] at h
  exact h
theorem atIr_take {L : List Ir} {m : Nat} {i : Nat} (h : i < (L.take m).length) : atIr (L.take m) i = atIr L i := by
  unfold atIr
  rw [List.getD_eq_getElem?_getD, List.getD_eq_getElem?_getD, List.getElem?_take, if_pos (by rw [List.length_take] at h; omega)]
theorem canL_set {cs : List Int} (h : CanL cs) {k v : Int} (hk : 0 ≤ k ∧ k < cs.length) (hv : Live.Can v) : CanL (cs.set k.toNat v) := h.set hk hv
attribute [local go_sem] max2_int min2_int max_two min_two

set_option maxHeartbeats 4000000 in
set_option maxRecDepth 100000 in
theorem changes_walk (cells params labels : Int) (L : List Ir) (A : Option Addr) (cap : Nat) (cs : List Int) (B : Option Addr) (capB : Nat) (k v : Int) (w : World) (hC : kIr.C w A L.length L) (hcap : L.length ≤ cap) (hlit : ∀ i : Nat, i < L.length → Live.Can (atIr L i).n)
    (hB : (Kd.int .i64).C w B cs.length cs) (hn : cs.length * 8 ≤ 140737488351232) (hcan : CanL cs) (hk0 : -9223372036854775808 ≤ k) (hk1 : k ≤ 9223372036854775807) (hv : Live.Can v) :
    Calls Try.prog 8 #[.agg #[.int .i64 cells, .int .i64 params, .slice A L.length cap, .int .i64 labels], .slice B cs.length capB, .int .i64 k, .int .i64 v] w fun e w' => e = .returned (.bool true) ∧ Below w.heap.size w w' := by
  obtain ⟨L', hL⟩ : ∃ L', L' = L.take 100 := ⟨_, rfl⟩
  have hmin : (if (100 : Int) < (L.length : Int) then 100 else (L.length : Int)) = (L'.length : Int) := min_cut L L' 100 hL
  have hm0 : (0 : Int) ≤ (L'.length : Int) := by omega
  have hmc : (L'.length : Int) ≤ (cap : Int) := by rw [hL, List.length_take]; omega
  have hsm : L'.length ≤ 100 := by rw [hL, List.length_take]; omega
  have HC := Aside0.mk hC
  have HL := Aside0.mk hL
  have HLIT := Aside0.mk (show ∀ i : Nat, i < L'.length → Live.Can (atIr L' i).n from fun i hi => by
    rw [hL] at hi ⊢
    rw [atIr_take hi]
    exact hlit i (by rw [List.length_take] at hi; omega))
  have HROW := Aside0.mk hB
  have HCAN := Aside0.mk hcan
  have HV := Aside0.mk hv
  have hbx0 := blk_new w (.cells #[.int .i64 cells, .int .i64 params, .slice A L.length cap, .int .i64 labels] 24)
  have HB := Aside0.mk ((Below.refl w.heap.size w).alloc (Nat.le_refl _) (.cells #[.int .i64 cells, .int .i64 params, .slice A L.length cap, .int .i64 labels] 24))
  have HX := Aside0.mk hbx0
  have HPK := Aside0.mk (fun (h : 0 < cs.length) => pickN_in k h)
  clear hC hL hbx0 hlit hB hcan hv
  go_enter Try.func8, Try.ntmps8
  go_wp2_with fail
  refine (examples_calls _).mono ?_
  rintro e w1 ⟨rfl, hb1⟩
  have hbx := blk_below HX.out hb1
  have hc0 := blk_cell hbx 0
  have hc1 := blk_cell hbx 1
  have hc2 := blk_cell hbx 2
  have hc3 := blk_cell hbx 3
  have hf2 := blk_frozen hbx 2
  have HCUT := Aside0.mk (Bx.cut (HB.out.trans (hb1.mono HB.out.size)) (by have := hb1.size; simpa using this) hbx HC.out hcap 100 HL.out (by omega))
  obtain ⟨ah, af, er, HS, hE⟩ := sets_ends ⟨cells, params, L', labels⟩
  have HS := Aside0.mk HS
  have HE := Aside0.mk hE
  clear hbx hb1 HB HX HL hE
  go_wp2_with fail
  refine (ahead_calls HS.out A cap _ HCUT.out.code).mono ?_
  rintro e w2 ⟨v1, rfl, hR1, hb2⟩
  obtain ⟨Af, cf, rfl, hcf, hCf⟩ := Kd.R_reads hR1
  have HB2 := Aside0.mk (HCUT.out.below hb2)
  have HCf := Aside0.mk hCf
  clear hc0 hc1 hc2 hc3 hf2 hR1 hb2 hCf HCUT hmin hm0 hmc HC hcap
  obtain ⟨c, hcd⟩ : ∃ c, Cod.mk cells params L' labels = c := ⟨_, rfl⟩
  rw [hcd] at HS HE HB2
  replace hsm : c.body.length ≤ 100 := by rw [← hcd]; exact hsm
  replace HLIT := Aside0.mk (show ∀ i : Nat, i < c.body.length → Live.Can (atIr c.body i).n from by rw [← hcd]; exact HLIT.out)
  clear hcd
  have hbx0 := blk_cell HB2.out.box 0
  have hbx1 := blk_cell HB2.out.box 1
  have hbx2 := blk_cell HB2.out.box 2
  have hbx3 := blk_cell HB2.out.box 3
  go_wp2_with fail
  refine (exec_calls c A cap B capB cs _ HB2.out.code (Kd.C_below HROW.out HB2.out.bel) (by omega) HCAN.out HLIT.out).mono ?_
  by_cases hfit : fitsR c cs.length = true
  · intro e w3 hx
    obtain ⟨vv, rfl, hR, hb⟩ := exec_fits hx hfit
    obtain ⟨Av, cv, rfl⟩ := Kd.R_slice hR
    obtain ⟨X, hX⟩ : ∃ X, execS c cs = X := ⟨_, rfl⟩
    have HXE := Aside0.mk hX
    have HFIT := Aside0.mk hfit
    have HB3 := Aside0.mk (HB2.out.below hb)
    have HCf3 := Aside0.mk (Kd.C_below HCf.out hb)
    have hcc := of_decide_eq_true (show decide ((cs.length : Int) = c.cells) = true from by unfold fitsR at hfit; rw [Bool.and_eq_true] at hfit; exact hfit.2)
    have HCC := Aside0.mk hcc
    rw [hX]
    clear hx hR hb hX hfit hcc hbx0 hbx1 hbx2 hbx3 HB2 HCf
    rcases HE.out with ⟨rfl, hfl, hl⟩ | ⟨rfl, hfl, rfl, rfl⟩
    · have HLV := Aside0.mk (LiveAt.mk hfl hl)
      have HLA := Aside0.mk hl.la
      have hc60 : c.cells ≤ 60 := (fits_head hfl).2.1
      rw [hl.la]
      clear hl hfl HE
      by_cases hz : c.body.length = 0
      · rw [hz]
        go_wp2_with fail
        go_ret
        exact ⟨rfl, HB3.out.bel⟩
      by_cases hz2 : cs.length = 0
      · have hz' : ((c.body.length : Int) == 0) = false := beq_eq_false_iff_ne.2 (by omega)
        rw [hz2]
        go_wp2_with fail
        go_ret
        exact ⟨rfl, HB3.out.bel⟩
      have hz' : ((c.body.length : Int) == 0) = false := beq_eq_false_iff_ne.2 (by omega)
      have hz2' : ((cs.length : Int) == 0) = false := beq_eq_false_iff_ne.2 (by omega)
      obtain ⟨p0, p1⟩ := HPK.out (by omega)
      obtain ⟨q, hq⟩ : ∃ q : Nat, pickN k cs.length = (q : Int) := ⟨(pickN k cs.length).toNat, by omega⟩
      have hql : q < cs.length := by omega
      have hq60 : q < 60 := by have := HCC.out; omega
      have hsl := pick_slot hq (by omega)
      have hbl := HLA.out
      obtain ⟨ad, ea, ha0⟩ := Kd.at_int HCf3.out 0 (by omega) (by omega)
      subst ea
      replace ha0 : w3.cell? ad = some (.int .i64 (rd ah 0)) := ha0
      clear p0 p1 hbl hq
      have hpos : 0 < c.body.length := by omega
      have hposc : 0 < cs.length := by omega
      have HON := Aside0.mk (inB_one (rd ah 0) q)
      rcases hsl with ⟨hkn, hse⟩ | ⟨hkn, hse⟩
      all_goals
        by_cases hbit : inB (rd ah 0) (q : Int) = true
        · rw [hbit] at HON
          have hon := HON.out
          go_wp2_with fail
          go_ret
          exact ⟨rfl, HB3.out.bel⟩
        replace hbit : inB (rd ah 0) (q : Int) = false := by simpa using hbit
        rw [hbit] at HON
        have hon := HON.out
        have HBIT := Aside0.mk hbit
        clear hbit
        go_wp2_with ((with_reducible refine gate_builtin (b := .append) (xs := #[.const (.slice none 0 0), .tmp 77]) rfl ?_); at_builtin; refine Kd.R_append_row (Value.int .i64) 0 (w0 := w3) w3.heap.size rfl (.const (.slice none 0 0)) (.tmp 77) 26 3 (.int .i64 0) 8 rfl Try.underlying26 Uses.infoInt rfl (by decide) (.slice none 0 0) [] cs B cs.length capB (fun _ => True) rfl rfl (fun _ _ => trivial) (Kd.R_nil _ _ _ _ _) (Kd.C_below HROW.out HB3.out.bel) (Below.refl _ _) (Nat.le_refl _) (by simp; omega) ?_; intro v4 w4 hO hb4 hg4 hat4; rw [List.nil_append] at hO; obtain ⟨g, c4, e4, hgb, hgl, cells4, hcl⟩ := Kd.R_form hO (by omega); subst e4; obtain ⟨qd, zd⟩ := Kd.R_cell (0 : Int) hO (q : Int) (by omega) (by omega); rw [Int.toNat_natCast] at qd zd; have HO4 := Aside0.mk hO; have HB5 := Aside0.mk (HB3.out.below (hb4.setCell (p := ⟨g, q, none⟩) hgb (.int .i64 v))); have hbx0 := blk_cell HB5.out.box 0; have hbx1 := blk_cell HB5.out.box 1; have hbx2 := blk_cell HB5.out.box 2; have hbx3 := blk_cell HB5.out.box 3; clear hO hb4 hg4 hat4 hcl hgl hgb)
        have HR5 := Aside0.mk (show (Kd.int .i64).R 3 (w4.setCell ⟨g, q, none⟩ (.int .i64 v)) w3.heap.size (fun _ => True) (.slice (some ⟨g, 0, none⟩) cs.length c4) (setI cs q v) from (Kd.R_put HO4.out (q : Int) v).1)
        clear qd zd ha0 HO4 HCf3
        obtain ⟨ds, hds⟩ : ∃ ds, setI cs q v = ds := ⟨_, rfl⟩
        have hdl : ds.length = cs.length := by rw [← hds]; exact setI_len _ _ _
        have HDL := Aside0.mk hdl
        have HCD := Aside0.mk (show CanL ds from by rw [← hds]; exact HCAN.out.set (by omega) HV.out)
        have HSAME := Aside0.mk (show (execS c cs).2 = (execS c ds).2 from changes c ah af HLV.out cs ds (by rw [← HCC.out]; exact HFIT.out) HCC.out (by rw [hdl]; exact HCC.out) (fun _ k hk hl => by
          rw [← hds, rd_setI (by omega)]
          by_cases hkq : (k : Int).toNat = (q : Int).toNat
          · have e : k = q := by omega
            rw [e, HBIT.out] at hl
            cases hl
          · rw [if_neg hkq]))
        rw [hds] at HR5
        clear hds hdl
        have HCR := Aside0.mk ((Kd.R_reads' HR5.out).2.2)
        have HE := exec_calls c A cap (some ⟨g, 0, none⟩) c4 ds _ HB5.out.code HCR.out (by rw [HDL.out]; omega) HCD.out HLIT.out
        rw [HDL.out] at HE
        refine HE.mono ?_
        intro e w6 hx
        obtain ⟨v6, rfl, hR, hb⟩ := exec_fits hx (by rw [HDL.out]; exact HFIT.out)
        have HB6 := Aside0.mk (HB5.out.below hb)
        have hs6 := HSAME.out
        rw [HXE.out] at hs6
        rw [← hs6]
        clear HE hx hR hb hs6 hbx0 hbx1 hbx2 hbx3 HB5
        go_wp2_with fail
        go_ret
        exact ⟨rfl, HB6.out.bel⟩
    · go_wp2_with fail
      go_ret
      exact ⟨rfl, HB3.out.bel⟩
  · replace hfit : fitsR c cs.length = false := by simpa using hfit
    intro e w3 hx
    obtain ⟨rfl, hb⟩ := exec_odd hx hfit
    have HB3 := Aside0.mk (HB2.out.below hb)
    clear hx hb hbx0 hbx1 hbx2 hbx3 HB2 hfit
    rcases HE.out with ⟨rfl, hfl, hl⟩ | ⟨rfl, hfl, rfl, rfl⟩
    · clear hfl hl HE
      go_wp2_with fail
      go_ret
      exact ⟨rfl, HB3.out.bel⟩
    · go_wp2_with fail
      go_ret
      exact ⟨rfl, HB3.out.bel⟩
end Go.Proofs.Ytdcmeefeinppnaa.Rsem
