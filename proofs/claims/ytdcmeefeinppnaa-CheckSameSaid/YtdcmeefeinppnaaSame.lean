/- CheckSame: the walk of the statement. -/
import Derived.Test.YtdcmeefeinppnaaEx18
import Derived.Test.YtdcmeefeinppnaaFlows
namespace Go.Proofs.Ytdcmeefeinppnaa.Check
open Go.RowKit Go.Proofs.YtdcmeefeinppnaaW.PrintWords Go.Proofs.YtdcmeefeinppnaaW.PrintLast Go.Proofs.YtdcmeefeinppnaaW.PrintMore Go.Proofs.Ytdcmeefeinppnaa.Mem Go.Proofs.Ytdcmeefeinppnaa.Ir Go.Proofs.Ytdcmeefeinppnaa.Live Go.Proofs.Ytdcmeefeinppnaa.Rsem
open Uses (uses infoInt)
set_option linter.unusedVariables false
set_option linter.unusedSimpArgs false

def cellV (ps : List Int) (other : Int) (i : Nat) : Int := if i < ps.length then rd ps (i : Int) else other
def cellsOf (ps : List Int) (other : Int) (n : Nat) : List Int := (List.range n).map (cellV ps other)
theorem cellsOf_succ (ps : List Int) (other : Int) (n : Nat) : cellsOf ps other (n + 1) = cellsOf ps other n ++ [cellV ps other n] := by
  unfold cellsOf
  rw [List.range_succ, List.map_append]
  rfl
theorem cellsOf_len (ps : List Int) (other : Int) (n : Nat) : (cellsOf ps other n).length = n := by simp [cellsOf]
theorem cellsOf_rd {ps : List Int} {other : Int} {n k : Nat} (h : k < n) : rd (cellsOf ps other n) (k : Int) = cellV ps other k := by
  unfold rd cellsOf
  rw [Int.toNat_natCast, List.getD_eq_getElem?_getD, List.getElem?_map, List.getElem?_range h]
  rfl
theorem cellsOf_can {ps : List Int} {other : Int} (hp : CanL ps) (ho : Live.Can other) (n : Nat) : CanL (cellsOf ps other n) := canL_of fun k hk => by
  unfold cellsOf at hk
  obtain ⟨i, _, rfl⟩ := List.mem_map.1 hk
  unfold cellV
  split
  · exact hp _
  · exact ho
/-- what is live ahead of the first instruction are parameters -/
theorem live_low {x : Int} {p k : Nat} (h : x / 2 ^ p = 0) (hk : inB x (k : Int) = true) : k < p := by
  by_cases hlt : k < p
  · exact hlt
  · exfalso
    rw [inB_mod, decide_eq_true_iff] at hk
    have e : (2 : Int) ^ k = 2 ^ p * 2 ^ (k - p) := by rw [← Int.pow_add]; congr 1; omega
    rw [e, ← Int.ediv_ediv_of_nonneg (Int.le_of_lt (Int.pow_pos (by decide))), h] at hk
    simp at hk
theorem exec_calls_n {c : Cod} {n : Int} (hcn : c.cells = n) (A : Option Addr) (cap : Nat) (B : Option Addr) (capB : Nat) (cs : List Int) (w : World) (hC : CodeAt w c A cap) (hB : (Kd.int .i64).C w B cs.length cs) (hn : cs.length * 8 ≤ 140737488355328) (hc : CanL cs) (hl : ∀ i : Nat, i < c.body.length → Live.Can (atIr c.body i).n) :
    Calls Try.prog 35 #[.agg #[.int .i64 n, .int .i64 c.params, .slice A c.body.length cap, .int .i64 c.labels], .slice B cs.length capB] w (ExecOut w c cs) := by
  subst hcn
  exact exec_calls c A cap B capB cs w hC hB hn hc hl
attribute [local go_sem] max2_int min2_int max_two min_two
set_option maxHeartbeats 8000000 in
set_option maxRecDepth 100000 in
theorem same_walk (cells params labels : Int) (L : List Ir) (A : Option Addr) (cap : Nat) (l : List Int) (B : Option Addr) (capB : Nat) (ps : List Int) (D : Option Addr) (capD : Nat) (other : Int) (w : World) (hC : kIr.C w A L.length L) (hcap : L.length ≤ cap) (hlit : ∀ i : Nat, i < L.length → Live.Can (atIr L i).n) (hB : (Kd.int .i64).C w B l.length l) (hcapB : l.length ≤ capB) (hD : (Kd.int .i64).C w D ps.length ps) (hpc : CanL ps) (hoc : Live.Can other) :
    Calls Try.prog 11 #[.agg #[.int .i64 cells, .int .i64 params, .slice A L.length cap, .int .i64 labels], .slice B l.length capB, .slice D ps.length capD, .int .i64 other] w fun e w' => e = .returned (.bool true) ∧ Below w.heap.size w w' := by
  obtain ⟨L', hL⟩ : ∃ L', L' = L.take 100 := ⟨_, rfl⟩
  have hmin : (if (100 : Int) < (L.length : Int) then 100 else (L.length : Int)) = (L'.length : Int) := min_cut L L' 100 hL
  have hm0 : (0 : Int) ≤ (L'.length : Int) := by omega
  have hmc : (L'.length : Int) ≤ (cap : Int) := by rw [hL, List.length_take]; omega
  have hsm : L'.length ≤ 100 := by rw [hL, List.length_take]; omega
  have HC := Aside0.mk hC
  have HL := Aside0.mk hL
  have HLIT := Aside0.mk (show ∀ i : Nat, i < L'.length → Live.Can (atIr L' i).n from fun i hi => by
    rw [hL] at hi ⊢
    rw [atIr_take hi]
    exact hlit i (by rw [List.length_take] at hi; omega))
  have HROW := Aside0.mk hB
  have HRD := Aside0.mk hD
  have HPC := Aside0.mk hpc
  have HOC := Aside0.mk hoc
  have hbx0 := blk_new w (.cells #[.int .i64 cells, .int .i64 params, .slice A L.length cap, .int .i64 labels] 24)
  have HB := Aside0.mk ((Below.refl w.heap.size w).alloc (Nat.le_refl _) (.cells #[.int .i64 cells, .int .i64 params, .slice A L.length cap, .int .i64 labels] 24))
  have HX := Aside0.mk hbx0
  clear hC hL hbx0 hB hlit hD hpc hoc
  go_enter Try.func11, Try.ntmps11
  go_wp2_with fail
  refine (examples_calls _).mono ?_
  rintro e w1 ⟨rfl, hb1⟩
  have hbx := blk_below HX.out hb1
  have hc0 := blk_cell hbx 0
  have hc1 := blk_cell hbx 1
  have hc2 := blk_cell hbx 2
  have hc3 := blk_cell hbx 3
  have hf2 := blk_frozen hbx 2
  have HCUT := Aside0.mk (Bx.cut (HB.out.trans (hb1.mono HB.out.size)) (by have := hb1.size; simpa using this) hbx HC.out hcap 100 HL.out (by omega))
  obtain ⟨ah, af, er, HS, hE⟩ := sets_ends ⟨cells, params, L', labels⟩
  have HS := Aside0.mk HS
  have HE := Aside0.mk hE
  clear hbx hb1 HB HX HL hE
  go_wp2_with fail
  refine (right_calls ⟨cells, params, L', labels⟩ A cap l B capB _ HCUT.out.code (Kd.C_below HROW.out HCUT.out.bel) hcapB HS.out HE.out).mono ?_
  rintro e w2 ⟨rfl, hb2⟩
  have HB2 := Aside0.mk (HCUT.out.below hb2)
  clear hc0 hc1 hc2 hc3 hf2 hb2 HCUT hmin hm0 hmc HC hcap
  obtain ⟨c, hcd⟩ : ∃ c, Cod.mk cells params L' labels = c := ⟨_, rfl⟩
  rw [hcd] at HS HE HB2 ⊢
  replace hsm : c.body.length ≤ 100 := by rw [← hcd]; exact hsm
  replace HLIT := Aside0.mk (show ∀ i : Nat, i < c.body.length → Live.Can (atIr c.body i).n from by rw [← hcd]; exact HLIT.out)
  clear hcd
  have hbx0 := blk_cell HB2.out.box 0
  have hbx1 := blk_cell HB2.out.box 1
  have hbx2 := blk_cell HB2.out.box 2
  have hbx3 := blk_cell HB2.out.box 3
  cases hr : rightB c ah af l with
  | false =>
    clear hr
    go_wp2_with fail
    go_ret
    exact ⟨rfl, HB2.out.bel⟩
  | true =>
    have HRI := Aside0.mk (right_is hr)
    have HRB := Aside0.mk hr
    have hh := fits_head HRI.out.fit
    have hE0 : er = 0 ∧ LiveIs c ah af := by
      rcases HE.out with ⟨h1, _, h3⟩ | ⟨_, h2, _⟩
      · exact ⟨h1, h3⟩
      · rw [HRI.out.fit] at h2; cases h2
    obtain ⟨rfl, hLI⟩ := hE0
    have HLI := Aside0.mk hLI
    have hl60 : l.length ≤ 60 := by have h1 := HRI.out.len; omega
    clear hr hLI
    by_cases hp : (ps.length : Int) = c.params
    · have hne : ((ps.length : Int) != c.params) = false := by simpa using hp
      have HP := Aside0.mk hp
      have hps60 : ps.length ≤ 60 := by omega
      obtain ⟨nn, hnn⟩ : ∃ nn : Nat, c.cells = (nn : Int) := ⟨c.cells.toNat, by omega⟩
      have hn60 : nn ≤ 60 := by omega
      have hpn : ps.length ≤ nn := by omega
      have HN := Aside0.mk hnn
      clear hp hh hnn
      go_wp2_with fail
      refine (ahead_calls HS.out A cap _ HB2.out.code).mono ?_
      rintro e w3 ⟨v1, rfl, hR1, hb3⟩
      obtain ⟨Af, cf, rfl, hcf, hCf⟩ := Kd.R_reads hR1
      have HB3 := Aside0.mk (HB2.out.below hb3)
      have HCf := Aside0.mk hCf
      have HLA := Aside0.mk HLI.out.la
      rw [HLI.out.la]
      clear hbx0 hbx1 hbx2 hbx3 hR1 hb3 hCf HB2
      have hbx0 := blk_cell HB3.out.box 0
      have hbx1 := blk_cell HB3.out.box 1
      have hbx2 := blk_cell HB3.out.box 2
      have hbx3 := blk_cell HB3.out.box 3
      have hsmn : c.body.length ≤ 100 := hsm
      by_cases hz : c.body.length = 0
      · have HLOW := Aside0.mk (fun (h : 0 < c.body.length) (k : Nat) (_ : inB (rd ah 0) (k : Int) = true) => (show k < ps.length by omega))
        have hz2 : decide ((0 : Int) < (c.body.length : Int)) = false := decide_eq_false (by omega)
        have hz3 : decide (0 < c.body.length) = false := decide_eq_false (by omega)
        clear hz
        go_wp2_with fail
        go_quiet (fail)
        have HBQ := Aside0.mk (pw_below_drewN (Below.refl w3.heap.size w3) nq)
        clear hz2 hz3
        go_wp2_with fail
        clear hbx0 hbx1 hbx2 hbx3
        go_loopw [12, 13] (fun mv iv wr => ∃ (i : Nat) (Am : Option Addr) (cm : Nat), i ≤ nn ∧ iv = .int .i64 i ∧ mv = .slice Am i cm ∧ Aside0 (Below w3.heap.size w3 wr) ∧ Aside0 ((Kd.int .i64).R 3 wr w3.heap.size (fun _ => True) (.slice Am i cm) (cellsOf ps other i))) (fun _ iv _ => nn - (intOf iv).toNat)
        case atStart => exact ⟨0, none, 0, Nat.zero_le _, rfl, rfl, HBQ, ⟨Kd.R_nil _ _ _ _ _⟩⟩
        case round =>
          obtain ⟨i, Am, cm, hi, rfl, rfl, HBW, HRM⟩ := hrel
          have hbc := blk_cell (HB3.out.below HBW.out).box 0
          replace hbc : World.cell? _ ⟨w.heap.size, 0, none⟩ = some (.int .i64 c.cells) := hbc
          rw [HN.out] at hbc
          by_cases hlt : i < nn
          · have HCS := Aside0.mk (cellsOf_succ ps other i)
            have HCL := Aside0.mk (cellsOf_len ps other (i + 1))
            by_cases hip : i < ps.length
            · have HCV := Aside0.mk (show cellV ps other i = rd ps (i : Int) from if_pos hip)
              obtain ⟨adp, ep, hxp⟩ := Kd.at_int (Kd.C_below (Kd.C_below HRD.out HB3.out.bel) HBW.out) (i : Int) (by omega) (by omega)
              subst ep
              rw [Int.toNat_natCast] at hxp
              go_wp2_with ((with_reducible refine gate_builtin (b := .append) (xs := #[.tmp 84, .tmp 86]) rfl ?_); at_builtin; refine Kd.R_append (Kd.int .i64) (w0 := w3) (W := _) w3.heap.size rfl (.tmp 84) (.tmp 86) 26 3 (.int .i64 0) 8 rfl Try.underlying26 infoInt rfl (by decide) (by omega) (.slice Am i cm) (cellsOf ps other i) (rd ps (i : Int)) [.int .i64 (rd ps (i : Int))] (fun _ => True) (fun _ => False) rfl rfl rfl (fun _ h => h.elim) (fun _ _ => trivial) HRM.out HBW.out HBW.out.size (by rw [cellsOf_len]; omega) ?_; intro v6 w6 hO hb6 hg6 hat6; obtain ⟨A6, c6, e6⟩ := Kd.R_slice hO; subst e6; have HO6 := Aside0.mk hO; have HB6 := Aside0.mk hb6; clear hO hb6 hg6 hat6)
              go_roundw
              case rel => exact ⟨i + 1, A6, c6, by omega, by go_num, by simp [cellsOf_len], HB6, ⟨by have h := HO6.out; rw [List.length_append, cellsOf_len, List.length_singleton] at h; rw [HCS.out, HCV.out]; exact h⟩⟩
              case measure => simp [intOf]; omega
            · have HCV := Aside0.mk (show cellV ps other i = other from if_neg hip)
              go_wp2_with ((with_reducible refine gate_builtin (b := .append) (xs := #[.tmp 84, .tmp 86]) rfl ?_); at_builtin; refine Kd.R_append (Kd.int .i64) (w0 := w3) (W := _) w3.heap.size rfl (.tmp 84) (.tmp 86) 26 3 (.int .i64 0) 8 rfl Try.underlying26 infoInt rfl (by decide) (by omega) (.slice Am i cm) (cellsOf ps other i) (other) [.int .i64 (other)] (fun _ => True) (fun _ => False) rfl rfl rfl (fun _ h => h.elim) (fun _ _ => trivial) HRM.out HBW.out HBW.out.size (by rw [cellsOf_len]; omega) ?_; intro v6 w6 hO hb6 hg6 hat6; obtain ⟨A6, c6, e6⟩ := Kd.R_slice hO; subst e6; have HO6 := Aside0.mk hO; have HB6 := Aside0.mk hb6; clear hO hb6 hg6 hat6)
              go_roundw
              case rel => exact ⟨i + 1, A6, c6, by omega, by go_num, by simp [cellsOf_len], HB6, ⟨by have h := HO6.out; rw [List.length_append, cellsOf_len, List.length_singleton] at h; rw [HCS.out, HCV.out]; exact h⟩⟩
              case measure => simp [intOf]; omega
          · have hie : i = nn := by omega
            subst hie
            clear hi hlt
            have HB9 := Aside0.mk (HB3.out.below HBW.out)
            have hbx1 := blk_cell HB9.out.box 1
            have hbx2 := blk_cell HB9.out.box 2
            have hbx3 := blk_cell HB9.out.box 3
            obtain ⟨-, hcm, hCm⟩ := Kd.R_reads' HRM.out
            have HX9 := Aside0.mk (exec_calls_n HN.out A cap Am cm (cellsOf ps other i) _ HB9.out.code hCm (by rw [cellsOf_len]; omega) (cellsOf_can HPC.out HOC.out i) HLIT.out)
            rw [cellsOf_len] at HX9
            go_wp2_with fail
            refine HX9.out.mono ?_
            by_cases hfit : fitsR c (i : Int) = true
            · intro e w7 hx
              obtain ⟨v7, rfl, hR7, hb7⟩ := exec_fits hx (by rw [cellsOf_len]; exact hfit)
              obtain ⟨A7, c7, rfl⟩ := Kd.R_slice hR7
              have HBA := Aside0.mk (HB9.out.below hb7)
              have HOV := Aside0.mk (over_same (cs := cellsOf ps other i) HRI.out HS.out HLI.out (by rw [HN.out]; exact hfit) HP.out (by rw [cellsOf_len]; exact HN.out.symm) (fun k hk => by rw [cellsOf_rd (by omega)]; exact if_pos hk) (fun h k hk hl => HLOW.out h k hl))
              have HCK := Aside0.mk (check_calls c A cap l B capB ps D capD _ HBA.out.code HLIT.out (Kd.C_below HROW.out HBA.out.bel) hcapB (Kd.C_below HRD.out HBA.out.bel) HPC.out HS.out (.inl ⟨rfl, HRI.out.fit, HLI.out⟩))
              have HCS := Aside0.mk (show checkS c ah af l ps = ((execS c (cellsOf ps other i)).2.1, (execS c (cellsOf ps other i)).2.2, 0) from by unfold checkS; rw [if_pos ⟨HRB.out, HP.out, by rw [HN.out]; exact hfit⟩, HOV.out])
              rw [HCS.out] at HCK
              clear hx hR7 hb7 hfit hbc hbx1 hbx2 hbx3 HX9 HCS HOV
              have hbx0 := blk_cell HBA.out.box 0
              have hbx1 := blk_cell HBA.out.box 1
              have hbx2 := blk_cell HBA.out.box 2
              have hbx3 := blk_cell HBA.out.box 3
              go_wp2_with fail
              refine HCK.out.mono ?_
              rintro e w8 ⟨rfl, hb8⟩
              have HD := Aside0.mk (HBA.out.below hb8).bel
              clear hb8 hbx0 hbx1 hbx2 hbx3 HBA HCK
              go_wp2_with fail
              go_ret
              exact ⟨rfl, HD.out⟩
            · replace hfit : fitsR c (i : Int) = false := by simpa using hfit
              intro e w7 hx
              obtain ⟨rfl, hb7⟩ := exec_odd hx (by rw [cellsOf_len]; exact hfit)
              have HBA := Aside0.mk (HB9.out.below hb7)
              have HCK := Aside0.mk (check_calls c A cap l B capB ps D capD _ HBA.out.code HLIT.out (Kd.C_below HROW.out HBA.out.bel) hcapB (Kd.C_below HRD.out HBA.out.bel) HPC.out HS.out (.inl ⟨rfl, HRI.out.fit, HLI.out⟩))
              have HCS := Aside0.mk (show checkS c ah af l ps = (0, 0, 4) from by unfold checkS; rw [if_neg (fun e => by have h := e.2.2; rw [HN.out, hfit] at h; cases h)])
              rw [HCS.out] at HCK
              clear hx hb7 hfit hbc hbx1 hbx2 hbx3 HX9 HCS
              have hbx0 := blk_cell HBA.out.box 0
              have hbx1 := blk_cell HBA.out.box 1
              have hbx2 := blk_cell HBA.out.box 2
              have hbx3 := blk_cell HBA.out.box 3
              go_wp2_with fail
              refine HCK.out.mono ?_
              rintro e w8 ⟨rfl, hb8⟩
              have HD := Aside0.mk (HBA.out.below hb8).bel
              clear hb8 hbx0 hbx1 hbx2 hbx3 HBA HCK
              go_wp2_with fail
              go_ret
              exact ⟨rfl, HD.out⟩
      · have hz2 : decide ((0 : Int) < (c.body.length : Int)) = true := decide_eq_true (by omega)
        have hz3 : decide (0 < c.body.length) = true := decide_eq_true (by omega)
        have hpos : 0 < c.body.length := by omega
        obtain ⟨ad, ea, ha0⟩ := Kd.at_int HCf.out 0 (by omega) (by have := HLA.out; omega)
        subst ea
        replace ha0 : w3.cell? ad = some (.int .i64 (rd ah 0)) := ha0
        have hpp : c.params = (ps.length : Int) := HP.out.symm
        have hpar0 : 0 ≤ c.params := by omega
        have hpar1 : c.params ≤ 60 := by omega
        have hpn2 : c.params.toNat = ps.length := by omega
        by_cases hsh : rd ah 0 / 2 ^ ps.length = 0
        · have HLOW := Aside0.mk (fun (h : 0 < c.body.length) (k : Nat) (hk : inB (rd ah 0) (k : Int) = true) => live_low hsh hk)
          have hshb : (rd ah 0 / 2 ^ ps.length != 0) = false := by simp [hsh]
          clear hsh hz
          go_wp2_with fail
          go_quiet (fail)
          have HBQ := Aside0.mk (pw_below_drewN (Below.refl w3.heap.size w3) nq)
          clear hz2 hz3 hpos ha0 hpp hpar0 hpar1 hpn2 hshb
          go_wp2_with fail
          clear hbx0 hbx1 hbx2 hbx3
          go_loopw [12, 13] (fun mv iv wr => ∃ (i : Nat) (Am : Option Addr) (cm : Nat), i ≤ nn ∧ iv = .int .i64 i ∧ mv = .slice Am i cm ∧ Aside0 (Below w3.heap.size w3 wr) ∧ Aside0 ((Kd.int .i64).R 3 wr w3.heap.size (fun _ => True) (.slice Am i cm) (cellsOf ps other i))) (fun _ iv _ => nn - (intOf iv).toNat)
          case atStart => exact ⟨0, none, 0, Nat.zero_le _, rfl, rfl, HBQ, ⟨Kd.R_nil _ _ _ _ _⟩⟩
          case round =>
            obtain ⟨i, Am, cm, hi, rfl, rfl, HBW, HRM⟩ := hrel
            have hbc := blk_cell (HB3.out.below HBW.out).box 0
            replace hbc : World.cell? _ ⟨w.heap.size, 0, none⟩ = some (.int .i64 c.cells) := hbc
            rw [HN.out] at hbc
            by_cases hlt : i < nn
            · have HCS := Aside0.mk (cellsOf_succ ps other i)
              have HCL := Aside0.mk (cellsOf_len ps other (i + 1))
              by_cases hip : i < ps.length
              · have HCV := Aside0.mk (show cellV ps other i = rd ps (i : Int) from if_pos hip)
                obtain ⟨adp, ep, hxp⟩ := Kd.at_int (Kd.C_below (Kd.C_below HRD.out HB3.out.bel) HBW.out) (i : Int) (by omega) (by omega)
                subst ep
                rw [Int.toNat_natCast] at hxp
                go_wp2_with ((with_reducible refine gate_builtin (b := .append) (xs := #[.tmp 84, .tmp 86]) rfl ?_); at_builtin; refine Kd.R_append (Kd.int .i64) (w0 := w3) (W := _) w3.heap.size rfl (.tmp 84) (.tmp 86) 26 3 (.int .i64 0) 8 rfl Try.underlying26 infoInt rfl (by decide) (by omega) (.slice Am i cm) (cellsOf ps other i) (rd ps (i : Int)) [.int .i64 (rd ps (i : Int))] (fun _ => True) (fun _ => False) rfl rfl rfl (fun _ h => h.elim) (fun _ _ => trivial) HRM.out HBW.out HBW.out.size (by rw [cellsOf_len]; omega) ?_; intro v6 w6 hO hb6 hg6 hat6; obtain ⟨A6, c6, e6⟩ := Kd.R_slice hO; subst e6; have HO6 := Aside0.mk hO; have HB6 := Aside0.mk hb6; clear hO hb6 hg6 hat6)
                go_roundw
                case rel => exact ⟨i + 1, A6, c6, by omega, by go_num, by simp [cellsOf_len], HB6, ⟨by have h := HO6.out; rw [List.length_append, cellsOf_len, List.length_singleton] at h; rw [HCS.out, HCV.out]; exact h⟩⟩
                case measure => simp [intOf]; omega
              · have HCV := Aside0.mk (show cellV ps other i = other from if_neg hip)
                go_wp2_with ((with_reducible refine gate_builtin (b := .append) (xs := #[.tmp 84, .tmp 86]) rfl ?_); at_builtin; refine Kd.R_append (Kd.int .i64) (w0 := w3) (W := _) w3.heap.size rfl (.tmp 84) (.tmp 86) 26 3 (.int .i64 0) 8 rfl Try.underlying26 infoInt rfl (by decide) (by omega) (.slice Am i cm) (cellsOf ps other i) (other) [.int .i64 (other)] (fun _ => True) (fun _ => False) rfl rfl rfl (fun _ h => h.elim) (fun _ _ => trivial) HRM.out HBW.out HBW.out.size (by rw [cellsOf_len]; omega) ?_; intro v6 w6 hO hb6 hg6 hat6; obtain ⟨A6, c6, e6⟩ := Kd.R_slice hO; subst e6; have HO6 := Aside0.mk hO; have HB6 := Aside0.mk hb6; clear hO hb6 hg6 hat6)
                go_roundw
                case rel => exact ⟨i + 1, A6, c6, by omega, by go_num, by simp [cellsOf_len], HB6, ⟨by have h := HO6.out; rw [List.length_append, cellsOf_len, List.length_singleton] at h; rw [HCS.out, HCV.out]; exact h⟩⟩
                case measure => simp [intOf]; omega
            · have hie : i = nn := by omega
              subst hie
              clear hi hlt
              have HB9 := Aside0.mk (HB3.out.below HBW.out)
              have hbx1 := blk_cell HB9.out.box 1
              have hbx2 := blk_cell HB9.out.box 2
              have hbx3 := blk_cell HB9.out.box 3
              obtain ⟨-, hcm, hCm⟩ := Kd.R_reads' HRM.out
              have HX9 := Aside0.mk (exec_calls_n HN.out A cap Am cm (cellsOf ps other i) _ HB9.out.code hCm (by rw [cellsOf_len]; omega) (cellsOf_can HPC.out HOC.out i) HLIT.out)
              rw [cellsOf_len] at HX9
              go_wp2_with fail
              refine HX9.out.mono ?_
              by_cases hfit : fitsR c (i : Int) = true
              · intro e w7 hx
                obtain ⟨v7, rfl, hR7, hb7⟩ := exec_fits hx (by rw [cellsOf_len]; exact hfit)
                obtain ⟨A7, c7, rfl⟩ := Kd.R_slice hR7
                have HBA := Aside0.mk (HB9.out.below hb7)
                have HOV := Aside0.mk (over_same (cs := cellsOf ps other i) HRI.out HS.out HLI.out (by rw [HN.out]; exact hfit) HP.out (by rw [cellsOf_len]; exact HN.out.symm) (fun k hk => by rw [cellsOf_rd (by omega)]; exact if_pos hk) (fun h k hk hl => HLOW.out h k hl))
                have HCK := Aside0.mk (check_calls c A cap l B capB ps D capD _ HBA.out.code HLIT.out (Kd.C_below HROW.out HBA.out.bel) hcapB (Kd.C_below HRD.out HBA.out.bel) HPC.out HS.out (.inl ⟨rfl, HRI.out.fit, HLI.out⟩))
                have HCS := Aside0.mk (show checkS c ah af l ps = ((execS c (cellsOf ps other i)).2.1, (execS c (cellsOf ps other i)).2.2, 0) from by unfold checkS; rw [if_pos ⟨HRB.out, HP.out, by rw [HN.out]; exact hfit⟩, HOV.out])
                rw [HCS.out] at HCK
                clear hx hR7 hb7 hfit hbc hbx1 hbx2 hbx3 HX9 HCS HOV
                have hbx0 := blk_cell HBA.out.box 0
                have hbx1 := blk_cell HBA.out.box 1
                have hbx2 := blk_cell HBA.out.box 2
                have hbx3 := blk_cell HBA.out.box 3
                go_wp2_with fail
                refine HCK.out.mono ?_
                rintro e w8 ⟨rfl, hb8⟩
                have HD := Aside0.mk (HBA.out.below hb8).bel
                clear hb8 hbx0 hbx1 hbx2 hbx3 HBA HCK
                go_wp2_with fail
                go_ret
                exact ⟨rfl, HD.out⟩
              · replace hfit : fitsR c (i : Int) = false := by simpa using hfit
                intro e w7 hx
                obtain ⟨rfl, hb7⟩ := exec_odd hx (by rw [cellsOf_len]; exact hfit)
                have HBA := Aside0.mk (HB9.out.below hb7)
                have HCK := Aside0.mk (check_calls c A cap l B capB ps D capD _ HBA.out.code HLIT.out (Kd.C_below HROW.out HBA.out.bel) hcapB (Kd.C_below HRD.out HBA.out.bel) HPC.out HS.out (.inl ⟨rfl, HRI.out.fit, HLI.out⟩))
                have HCS := Aside0.mk (show checkS c ah af l ps = (0, 0, 4) from by unfold checkS; rw [if_neg (fun e => by have h := e.2.2; rw [HN.out, hfit] at h; cases h)])
                rw [HCS.out] at HCK
                clear hx hb7 hfit hbc hbx1 hbx2 hbx3 HX9 HCS
                have hbx0 := blk_cell HBA.out.box 0
                have hbx1 := blk_cell HBA.out.box 1
                have hbx2 := blk_cell HBA.out.box 2
                have hbx3 := blk_cell HBA.out.box 3
                go_wp2_with fail
                refine HCK.out.mono ?_
                rintro e w8 ⟨rfl, hb8⟩
                have HD := Aside0.mk (HBA.out.below hb8).bel
                clear hb8 hbx0 hbx1 hbx2 hbx3 HBA HCK
                go_wp2_with fail
                go_ret
                exact ⟨rfl, HD.out⟩
        · have hshb : (rd ah 0 / 2 ^ ps.length != 0) = true := by simp [hsh]
          clear hsh hz
          go_wp2_with fail
          go_quiet (fail)
          have HD := Aside0.mk (HB3.out.below (pw_below_drewN (Below.refl w3.heap.size w3) nq)).bel
          clear hz2 hz3 hpos ha0 hpp hpar0 hpar1 hpn2 hshb
          go_wp2_with fail
          go_ret
          exact ⟨rfl, HD.out⟩
    · have hne : ((ps.length : Int) != c.params) = true := by simpa using hp
      clear hp
      go_wp2_with fail
      go_ret
      exact ⟨rfl, HB2.out.bel⟩
end Go.Proofs.Ytdcmeefeinppnaa.Check
