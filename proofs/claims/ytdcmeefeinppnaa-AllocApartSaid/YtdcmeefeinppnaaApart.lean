/- AllocApart: the walk of the statement. -/
import Derived.Test.YtdcmeefeinppnaaApartPure
namespace Go.Proofs.Ytdcmeefeinppnaa.Live
open Go.RowKit Go.Proofs.YtdcmeefeinppnaaW.PrintWords Go.Proofs.YtdcmeefeinppnaaW.PrintLast Go.Proofs.YtdcmeefeinppnaaW.PrintMore Go.Proofs.Ytdcmeefeinppnaa.Mem Go.Proofs.Ytdcmeefeinppnaa.Ir
open Uses (uses)
set_option linter.unusedVariables false
set_option linter.unusedSimpArgs false

structure Pw (w W : World) (c : Cod) (A : Option Addr) (cap : Nat) (Ap : Option Addr) (P : List Int) : Prop where
  b : Bx w W c A cap
  r : (Kd.int .i64).C W Ap P.length P
theorem Pw.below {w W W1 : World} {c : Cod} {A : Option Addr} {cap : Nat} {Ap : Option Addr} {P : List Int} (h : Pw w W c A cap Ap P) (hb : Below W.heap.size W W1) : Pw w W1 c A cap Ap P := ⟨h.b.below hb, Kd.C_below h.r hb⟩
theorem clash_in {c : Cod} {ah af : List Int} (hS : SetsIs c ah af 0) (hf : fits c = true) (hl : LiveIs c ah af) (A : Option Addr) (cap : Nat) {a b : Nat} (ha : (a : Int) < c.cells) (hb : b < a) (W : World) (hC : CodeAt W c A cap) :
    Calls Try.prog 24 #[.agg (c.vals A cap), .int .i64 a, .int .i64 b] W fun e w' => e = .returned (.tuple #[.bool (clashB c ah af (a : Int) (b : Int)), .int .i64 0]) ∧ Below W.heap.size W w' := by
  have hh := fits_head hf
  have h := clash_calls hS (fun _ => hl.lf) (fun _ => hh.2.1) A cap a b W hC
  have hbad : clashBad c 0 (a : Int) (b : Int) = false := by unfold clashBad; simp; omega
  unfold ClashOut at h
  rw [show clashR c ah af 0 (a : Int) (b : Int) = (clashB c ah af (a : Int) (b : Int), 0) by unfold clashR; rw [hbad, if_neg (by simp), if_neg (by omega)]] at h
  exact h
attribute [local go_sem] max2_int min2_int max_two min_two undef

set_option maxHeartbeats 4000000 in
set_option maxRecDepth 100000 in
theorem apart_walk (cells params labels : Int) (L : List Ir) (A : Option Addr) (cap : Nat) (w : World) (hC : kIr.C w A L.length L) (hcap : L.length ≤ cap) :
    Calls Try.prog 7 #[.agg #[.int .i64 cells, .int .i64 params, .slice A L.length cap, .int .i64 labels]] w fun e w' => e = .returned (.bool true) ∧ Below w.heap.size w w' := by
  obtain ⟨L', hL⟩ : ∃ L', L' = L.take 100 := ⟨_, rfl⟩
  have hmin : (if (100 : Int) < (L.length : Int) then 100 else (L.length : Int)) = (L'.length : Int) := min_cut L L' 100 hL
  have hm0 : (0 : Int) ≤ (L'.length : Int) := by omega
  have hmc : (L'.length : Int) ≤ (cap : Int) := by rw [hL, List.length_take]; omega
  have hsm : L'.length ≤ 100 := by rw [hL, List.length_take]; omega
  have HC := Aside0.mk hC
  have HL := Aside0.mk hL
  have hbx0 := blk_new w (.cells #[.int .i64 cells, .int .i64 params, .slice A L.length cap, .int .i64 labels] 24)
  have HB := Aside0.mk ((Below.refl w.heap.size w).alloc (Nat.le_refl _) (.cells #[.int .i64 cells, .int .i64 params, .slice A L.length cap, .int .i64 labels] 24))
  have HX := Aside0.mk hbx0
  clear hC hL hbx0
  go_enter Try.func7, Try.ntmps7
  go_wp2_with fail
  refine (examples17_calls _).mono ?_
  rintro e w1 ⟨rfl, hb1⟩
  have hbx := blk_below HX.out hb1
  have hc0 := blk_cell hbx 0
  have hc1 := blk_cell hbx 1
  have hc2 := blk_cell hbx 2
  have hc3 := blk_cell hbx 3
  have hf2 := blk_frozen hbx 2
  have HCUT := Aside0.mk (Bx.cut (HB.out.trans (hb1.mono HB.out.size)) (by have := hb1.size; simpa using this) hbx HC.out hcap 100 HL.out (by omega))
  obtain ⟨ah, af, er, HS, hE⟩ := sets_ends ⟨cells, params, L', labels⟩
  have HS := Aside0.mk HS
  have HE := Aside0.mk hE
  clear hbx hb1 HB HX HL hE
  go_wp2_with fail
  refine (alloc_calls _ A cap _ HCUT.out.code HS.out HE.out).mono ?_
  rintro e w2 ⟨v1, rfl, hR1, hb2⟩
  obtain ⟨Ap, cp, rfl, hcp, hCp⟩ := Kd.R_reads hR1
  have HP2 := Aside0.mk (show Pw w w2 _ A cap Ap _ from ⟨HCUT.out.below hb2, hCp⟩)
  clear hc0 hc1 hc2 hc3 hf2 hR1 hb2 hCp HCUT hmin hm0 hmc HC hcap
  obtain ⟨c, hcd⟩ : ∃ c, Cod.mk cells params L' labels = c := ⟨_, rfl⟩
  rw [hcd] at HS HE HP2 ⊢
  replace hsm : c.body.length ≤ 100 := by rw [← hcd]; exact hsm
  clear hcd
  have HPL := Aside0.mk (places_le (c := c) (ah := ah) (af := af))
  rcases HE.out with ⟨rfl, hfit, hl⟩ | ⟨rfl, hfit, rfl, rfl⟩
  · have HAP := Aside0.mk (apart HS.out hfit hl)
    have hh := fits_head hfit
    obtain ⟨P, hP⟩ : ∃ P, placesOf c ah af = P := ⟨_, rfl⟩
    rw [hP] at HP2 HPL HAP ⊢
    clear hP
    have HCR := Aside0.mk (fun (W : World) (h : CodeAt W c A cap) => cross_calls c A cap W h HS.out HE.out)
    have HNM := Aside0.mk (fun (W : World) (h : CodeAt W c A cap) => named_calls c A cap W h)
    unfold CrossOut at HCR
    unfold NamedOut at HNM
    rw [hfit] at HCR HNM
    simp only [if_true] at HCR HNM
    have HCLS := Aside0.mk (fun (a b : Nat) (ha : (a : Int) < c.cells) (hb : b < a) (W : World) (h : CodeAt W c A cap) => clash_in HS.out hfit hl A cap ha hb W h)
    have HA0 := Aside0.mk HAP.out.len
    have HAN := Aside0.mk HAP.out.nm
    have HAC := Aside0.mk HAP.out.cr
    have HAL := Aside0.mk HAP.out.le
    have HAX := Aside0.mk HAP.out.cl
    obtain ⟨cr, hcr⟩ : ∃ cr, crossS c af c.body.length = cr := ⟨_, rfl⟩
    obtain ⟨nm, hnm⟩ : ∃ nm, namedN c c.body.length = nm := ⟨_, rfl⟩
    obtain ⟨CB, hCB⟩ : ∃ CB : Int → Int → Bool, clashB c ah af = CB := ⟨_, rfl⟩
    rw [hcr] at HCR HAC
    rw [hnm] at HNM HAN
    rw [hCB] at HCLS HAX
    clear hcr hnm hCB HAP HE hfit hl HS
    have hpl : P.length ≤ 60 := HPL.out.1
    have hlc : ((P.length : Int) != c.cells) = false := by have := HA0.out; simp; omega
    clear HPL
    obtain ⟨hc0, hc60, _, _, _⟩ := hh
    have hbx0 := blk_cell HP2.out.b.box 0
    have hbx1 := blk_cell HP2.out.b.box 1
    have hbx2 := blk_cell HP2.out.b.box 2
    have hbx3 := blk_cell HP2.out.b.box 3
    go_wp2_with fail
    refine (HCR.out _ HP2.out.b.code).mono ?_
    rintro e w3 ⟨rfl, hb3⟩
    have HP3 := Aside0.mk (HP2.out.below hb3)
    clear hbx0 hbx1 hbx2 hbx3 HP2 hb3 HCR
    have hbx0 := blk_cell HP3.out.b.box 0
    have hbx1 := blk_cell HP3.out.b.box 1
    have hbx2 := blk_cell HP3.out.b.box 2
    have hbx3 := blk_cell HP3.out.b.box 3
    go_wp2_with fail
    refine (HNM.out _ HP3.out.b.code).mono ?_
    rintro e w4 ⟨rfl, hb4⟩
    have HP4 := Aside0.mk (HP3.out.below hb4)
    clear hbx0 hbx1 hbx2 hbx3 HP3 hb4 HNM
    have hbx0 := blk_cell HP4.out.b.box 0
    go_wp2_with fail
    clear hbx0
    go_loopw [10] (fun iv wr => ∃ k : Nat, k ≤ P.length ∧ iv = .int .i64 k ∧ Aside0 (Pw w wr c A cap Ap P)) (fun iv _ => P.length - (intOf iv).toNat)
    case atStart => exact ⟨0, Nat.zero_le _, rfl, HP4⟩
    case round =>
      obtain ⟨k, hk, rfl, HQ⟩ := hrel
      clear HP4
      by_cases hlt : k < P.length
      · obtain ⟨adw, e, hqc⟩ := Kd.at_int HQ.out.r (k : Int) (by omega) (by omega)
        subst e
        rw [Int.toNat_natCast] at hqc
        have hbx0 := blk_cell HQ.out.b.box 0
        have g1 := inB_one nm k
        have g2 := inB_one cr k
        have g3 := HAN.out k hlt
        have g4 := HAC.out k hlt
        have g5 : decide (5 + c.cells + 6 < rd P (k : Int)) = false := decide_eq_false (by have := HAL.out k hlt; omega)
        rw [g3] at g1
        have HKK := Aside0.mk (show (k : Int) < c.cells by have := HA0.out; omega)
        cases hbn : decide (0 ≤ rd P (k : Int)) with
        | true =>
          rw [hbn] at g1
          cases hbc : inB cr (k : Int) with
          | true =>
            have g6 : decide (rd P (k : Int) < 6) = false := decide_eq_false (by have := g4 hbc; omega)
            rw [hbc] at g2
            clear g3 g4 hbc
            go_wp2_with fail
            go_quiet (fail)
            go_wp2_with fail
            have HQ2 := Aside0.mk (HQ.out.below (pw_below_drewN (Below.refl _ _) nq))
            clear hqc hbx0 HQ
            go_loopw [11] (fun jv w5 => ∃ j : Nat, j ≤ k ∧ jv = .int .i64 j ∧ Aside0 (Pw w w5 c A cap (some adw) P)) (fun jv _ => k - (intOf jv).toNat)
            case atStart => exact ⟨0, Nat.zero_le _, rfl, HQ2⟩
            case round =>
              obtain ⟨j, hj, rfl, HR⟩ := hrel
              clear HQ2
              by_cases hjk : j < k
              · have hbx0 := blk_cell HR.out.b.box 0
                have hbx1 := blk_cell HR.out.b.box 1
                have hbx2 := blk_cell HR.out.b.box 2
                have hbx3 := blk_cell HR.out.b.box 3
                go_wp2_with fail
                refine (HCLS.out k j HKK.out hjk _ HR.out.b.code).mono ?_
                rintro e w6 ⟨rfl, hb6⟩
                have HR6 := Aside0.mk (HR.out.below hb6)
                clear hbx0 hbx1 hbx2 hbx3 hb6 HR
                obtain ⟨ad1, e1, hq1⟩ := Kd.at_int HR6.out.r (k : Int) (by omega) (by omega)
                cases e1
                obtain ⟨ad2, e2, hq2⟩ := Kd.at_int HR6.out.r (j : Int) (by omega) (by omega)
                cases e2
                rw [Int.toNat_natCast] at hq1 hq2
                have hjl : (j : Int) < (P.length : Int) := by omega
                cases hcb : CB (k : Int) (j : Int) with
                | true =>
                  have hne : (rd P (k : Int) == rd P (j : Int)) = false := beq_eq_false_iff_ne.2 (HAX.out k j hlt hjk hcb)
                  clear hcb
                  go_wp2_with fail
                  go_quiet (fail)
                  go_wp2_with fail
                  have HR7 := Aside0.mk (HR6.out.below (pw_below_drewN (Below.refl _ _) nq))
                  clear hq1 hq2
                  first
                    | (go_roundw; (case rel => exact ⟨j + 1, by omega, by go_num, HR7⟩); (case measure => (simp [intOf]; omega)))
                    | (refine ⟨?_, (by simp [intOf]; omega)⟩; (repeat apply Exists.intro); refine ⟨?_, rfl⟩; exact ⟨j + 1, by omega, by go_num, HR7⟩)
                | false =>
                  clear hcb
                  go_wp2_with fail
                  go_quiet (fail)
                  go_wp2_with fail
                  have HR7 := Aside0.mk (HR6.out.below (pw_below_drewN (Below.refl _ _) nq))
                  clear hq1 hq2
                  first
                    | (go_roundw; (case rel => exact ⟨j + 1, by omega, by go_num, HR7⟩); (case measure => (simp [intOf]; omega)))
                    | (refine ⟨?_, (by simp [intOf]; omega)⟩; (repeat apply Exists.intro); refine ⟨?_, rfl⟩; exact ⟨j + 1, by omega, by go_num, HR7⟩)
              · go_wp2_with fail
                first
                  | (go_roundw; (case rel => exact ⟨k + 1, by omega, by go_num, HR⟩); (case measure => (simp [intOf]; omega)))
                  | (refine ⟨?_, (by simp [intOf]; omega)⟩; (repeat apply Exists.intro); refine ⟨?_, rfl⟩; exact ⟨k + 1, by omega, by go_num, HR⟩)
          | false =>
            rw [hbc] at g2
            clear g3 g4 hbc
            go_wp2_with fail
            go_quiet (fail)
            go_wp2_with fail
            have HQ2 := Aside0.mk (HQ.out.below (pw_below_drewN (Below.refl _ _) nq))
            clear hqc hbx0 HQ
            go_loopw [11] (fun jv w5 => ∃ j : Nat, j ≤ k ∧ jv = .int .i64 j ∧ Aside0 (Pw w w5 c A cap (some adw) P)) (fun jv _ => k - (intOf jv).toNat)
            case atStart => exact ⟨0, Nat.zero_le _, rfl, HQ2⟩
            case round =>
              obtain ⟨j, hj, rfl, HR⟩ := hrel
              clear HQ2
              by_cases hjk : j < k
              · have hbx0 := blk_cell HR.out.b.box 0
                have hbx1 := blk_cell HR.out.b.box 1
                have hbx2 := blk_cell HR.out.b.box 2
                have hbx3 := blk_cell HR.out.b.box 3
                go_wp2_with fail
                refine (HCLS.out k j HKK.out hjk _ HR.out.b.code).mono ?_
                rintro e w6 ⟨rfl, hb6⟩
                have HR6 := Aside0.mk (HR.out.below hb6)
                clear hbx0 hbx1 hbx2 hbx3 hb6 HR
                obtain ⟨ad1, e1, hq1⟩ := Kd.at_int HR6.out.r (k : Int) (by omega) (by omega)
                cases e1
                obtain ⟨ad2, e2, hq2⟩ := Kd.at_int HR6.out.r (j : Int) (by omega) (by omega)
                cases e2
                rw [Int.toNat_natCast] at hq1 hq2
                have hjl : (j : Int) < (P.length : Int) := by omega
                cases hcb : CB (k : Int) (j : Int) with
                | true =>
                  have hne : (rd P (k : Int) == rd P (j : Int)) = false := beq_eq_false_iff_ne.2 (HAX.out k j hlt hjk hcb)
                  clear hcb
                  go_wp2_with fail
                  go_quiet (fail)
                  go_wp2_with fail
                  have HR7 := Aside0.mk (HR6.out.below (pw_below_drewN (Below.refl _ _) nq))
                  clear hq1 hq2
                  first
                    | (go_roundw; (case rel => exact ⟨j + 1, by omega, by go_num, HR7⟩); (case measure => (simp [intOf]; omega)))
                    | (refine ⟨?_, (by simp [intOf]; omega)⟩; (repeat apply Exists.intro); refine ⟨?_, rfl⟩; exact ⟨j + 1, by omega, by go_num, HR7⟩)
                | false =>
                  clear hcb
                  go_wp2_with fail
                  go_quiet (fail)
                  go_wp2_with fail
                  have HR7 := Aside0.mk (HR6.out.below (pw_below_drewN (Below.refl _ _) nq))
                  clear hq1 hq2
                  first
                    | (go_roundw; (case rel => exact ⟨j + 1, by omega, by go_num, HR7⟩); (case measure => (simp [intOf]; omega)))
                    | (refine ⟨?_, (by simp [intOf]; omega)⟩; (repeat apply Exists.intro); refine ⟨?_, rfl⟩; exact ⟨j + 1, by omega, by go_num, HR7⟩)
              · go_wp2_with fail
                first
                  | (go_roundw; (case rel => exact ⟨k + 1, by omega, by go_num, HR⟩); (case measure => (simp [intOf]; omega)))
                  | (refine ⟨?_, (by simp [intOf]; omega)⟩; (repeat apply Exists.intro); refine ⟨?_, rfl⟩; exact ⟨k + 1, by omega, by go_num, HR⟩)
        | false =>
          rw [hbn] at g1
          cases hbc : inB cr (k : Int) with
          | true =>
            have g6 : decide (rd P (k : Int) < 6) = false := decide_eq_false (by have := g4 hbc; omega)
            rw [hbc] at g2
            clear g3 g4 hbc
            go_wp2_with fail
            go_quiet (fail)
            go_wp2_with fail
            have HQ2 := Aside0.mk (HQ.out.below (pw_below_drewN (Below.refl _ _) nq))
            clear hqc hbx0 HQ
            go_loopw [11] (fun jv w5 => ∃ j : Nat, j ≤ k ∧ jv = .int .i64 j ∧ Aside0 (Pw w w5 c A cap (some adw) P)) (fun jv _ => k - (intOf jv).toNat)
            case atStart => exact ⟨0, Nat.zero_le _, rfl, HQ2⟩
            case round =>
              obtain ⟨j, hj, rfl, HR⟩ := hrel
              clear HQ2
              by_cases hjk : j < k
              · have hbx0 := blk_cell HR.out.b.box 0
                have hbx1 := blk_cell HR.out.b.box 1
                have hbx2 := blk_cell HR.out.b.box 2
                have hbx3 := blk_cell HR.out.b.box 3
                go_wp2_with fail
                refine (HCLS.out k j HKK.out hjk _ HR.out.b.code).mono ?_
                rintro e w6 ⟨rfl, hb6⟩
                have HR6 := Aside0.mk (HR.out.below hb6)
                clear hbx0 hbx1 hbx2 hbx3 hb6 HR
                obtain ⟨ad1, e1, hq1⟩ := Kd.at_int HR6.out.r (k : Int) (by omega) (by omega)
                cases e1
                obtain ⟨ad2, e2, hq2⟩ := Kd.at_int HR6.out.r (j : Int) (by omega) (by omega)
                cases e2
                rw [Int.toNat_natCast] at hq1 hq2
                have hjl : (j : Int) < (P.length : Int) := by omega
                cases hcb : CB (k : Int) (j : Int) with
                | true =>
                  have hne : (rd P (k : Int) == rd P (j : Int)) = false := beq_eq_false_iff_ne.2 (HAX.out k j hlt hjk hcb)
                  clear hcb
                  go_wp2_with fail
                  go_quiet (fail)
                  go_wp2_with fail
                  have HR7 := Aside0.mk (HR6.out.below (pw_below_drewN (Below.refl _ _) nq))
                  clear hq1 hq2
                  first
                    | (go_roundw; (case rel => exact ⟨j + 1, by omega, by go_num, HR7⟩); (case measure => (simp [intOf]; omega)))
                    | (refine ⟨?_, (by simp [intOf]; omega)⟩; (repeat apply Exists.intro); refine ⟨?_, rfl⟩; exact ⟨j + 1, by omega, by go_num, HR7⟩)
                | false =>
                  clear hcb
                  go_wp2_with fail
                  go_quiet (fail)
                  go_wp2_with fail
                  have HR7 := Aside0.mk (HR6.out.below (pw_below_drewN (Below.refl _ _) nq))
                  clear hq1 hq2
                  first
                    | (go_roundw; (case rel => exact ⟨j + 1, by omega, by go_num, HR7⟩); (case measure => (simp [intOf]; omega)))
                    | (refine ⟨?_, (by simp [intOf]; omega)⟩; (repeat apply Exists.intro); refine ⟨?_, rfl⟩; exact ⟨j + 1, by omega, by go_num, HR7⟩)
              · go_wp2_with fail
                first
                  | (go_roundw; (case rel => exact ⟨k + 1, by omega, by go_num, HR⟩); (case measure => (simp [intOf]; omega)))
                  | (refine ⟨?_, (by simp [intOf]; omega)⟩; (repeat apply Exists.intro); refine ⟨?_, rfl⟩; exact ⟨k + 1, by omega, by go_num, HR⟩)
          | false =>
            rw [hbc] at g2
            clear g3 g4 hbc
            go_wp2_with fail
            go_quiet (fail)
            go_wp2_with fail
            have HQ2 := Aside0.mk (HQ.out.below (pw_below_drewN (Below.refl _ _) nq))
            clear hqc hbx0 HQ
            go_loopw [11] (fun jv w5 => ∃ j : Nat, j ≤ k ∧ jv = .int .i64 j ∧ Aside0 (Pw w w5 c A cap (some adw) P)) (fun jv _ => k - (intOf jv).toNat)
            case atStart => exact ⟨0, Nat.zero_le _, rfl, HQ2⟩
            case round =>
              obtain ⟨j, hj, rfl, HR⟩ := hrel
              clear HQ2
              by_cases hjk : j < k
              · have hbx0 := blk_cell HR.out.b.box 0
                have hbx1 := blk_cell HR.out.b.box 1
                have hbx2 := blk_cell HR.out.b.box 2
                have hbx3 := blk_cell HR.out.b.box 3
                go_wp2_with fail
                refine (HCLS.out k j HKK.out hjk _ HR.out.b.code).mono ?_
                rintro e w6 ⟨rfl, hb6⟩
                have HR6 := Aside0.mk (HR.out.below hb6)
                clear hbx0 hbx1 hbx2 hbx3 hb6 HR
                obtain ⟨ad1, e1, hq1⟩ := Kd.at_int HR6.out.r (k : Int) (by omega) (by omega)
                cases e1
                obtain ⟨ad2, e2, hq2⟩ := Kd.at_int HR6.out.r (j : Int) (by omega) (by omega)
                cases e2
                rw [Int.toNat_natCast] at hq1 hq2
                have hjl : (j : Int) < (P.length : Int) := by omega
                cases hcb : CB (k : Int) (j : Int) with
                | true =>
                  have hne : (rd P (k : Int) == rd P (j : Int)) = false := beq_eq_false_iff_ne.2 (HAX.out k j hlt hjk hcb)
                  clear hcb
                  go_wp2_with fail
                  go_quiet (fail)
                  go_wp2_with fail
                  have HR7 := Aside0.mk (HR6.out.below (pw_below_drewN (Below.refl _ _) nq))
                  clear hq1 hq2
                  first
                    | (go_roundw; (case rel => exact ⟨j + 1, by omega, by go_num, HR7⟩); (case measure => (simp [intOf]; omega)))
                    | (refine ⟨?_, (by simp [intOf]; omega)⟩; (repeat apply Exists.intro); refine ⟨?_, rfl⟩; exact ⟨j + 1, by omega, by go_num, HR7⟩)
                | false =>
                  clear hcb
                  go_wp2_with fail
                  go_quiet (fail)
                  go_wp2_with fail
                  have HR7 := Aside0.mk (HR6.out.below (pw_below_drewN (Below.refl _ _) nq))
                  clear hq1 hq2
                  first
                    | (go_roundw; (case rel => exact ⟨j + 1, by omega, by go_num, HR7⟩); (case measure => (simp [intOf]; omega)))
                    | (refine ⟨?_, (by simp [intOf]; omega)⟩; (repeat apply Exists.intro); refine ⟨?_, rfl⟩; exact ⟨j + 1, by omega, by go_num, HR7⟩)
              · go_wp2_with fail
                first
                  | (go_roundw; (case rel => exact ⟨k + 1, by omega, by go_num, HR⟩); (case measure => (simp [intOf]; omega)))
                  | (refine ⟨?_, (by simp [intOf]; omega)⟩; (repeat apply Exists.intro); refine ⟨?_, rfl⟩; exact ⟨k + 1, by omega, by go_num, HR⟩)
      · go_wp2_with fail
        go_ret
        exact ⟨rfl, HQ.out.b.bel⟩
  · have HFC := Aside0.mk (fun (W : World) (h : CodeAt W c A cap) => fits_calls c A cap W h)
    rw [hfit] at HFC
    clear HE hfit HS HPL
    have hbx0 := blk_cell HP2.out.b.box 0
    have hbx1 := blk_cell HP2.out.b.box 1
    have hbx2 := blk_cell HP2.out.b.box 2
    have hbx3 := blk_cell HP2.out.b.box 3
    go_wp2_with fail
    refine (HFC.out _ HP2.out.b.code).mono ?_
    rintro e w3 ⟨rfl, hb3⟩
    have HP3 := Aside0.mk (HP2.out.below hb3)
    clear hbx0 hbx1 hbx2 hbx3 HP2 hb3 HFC
    go_wp2_with fail
    go_ret
    exact ⟨rfl, HP3.out.b.bel⟩
end Go.Proofs.Ytdcmeefeinppnaa.Live
