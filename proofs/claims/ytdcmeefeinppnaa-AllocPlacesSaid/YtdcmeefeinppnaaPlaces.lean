/- AllocPlaces: the walk of the statement. -/
import Derived.Test.YtdcmeefeinppnaaRAlloc
namespace Go.Proofs.Ytdcmeefeinppnaa.Live
open Go.RowKit Go.Proofs.YtdcmeefeinppnaaW.PrintWords Go.Proofs.YtdcmeefeinppnaaW.PrintLast Go.Proofs.YtdcmeefeinppnaaW.PrintMore Go.Proofs.Ytdcmeefeinppnaa.Mem Go.Proofs.Ytdcmeefeinppnaa.Ir
open Uses (uses)
set_option linter.unusedVariables false
set_option linter.unusedSimpArgs false

structure Pw (w W : World) (c : Cod) (A : Option Addr) (cap : Nat) (Ap : Option Addr) (P : List Int) : Prop where
  b : Bx w W c A cap
  r : (Kd.int .i64).C W Ap P.length P
theorem Pw.below {w W W1 : World} {c : Cod} {A : Option Addr} {cap : Nat} {Ap : Option Addr} {P : List Int} (h : Pw w W c A cap Ap P) (hb : Below W.heap.size W W1) : Pw w W1 c A cap Ap P := ⟨h.b.below hb, Kd.C_below h.r hb⟩
attribute [local go_sem] max2_int min2_int max_two min_two undef

set_option maxHeartbeats 4000000 in
set_option maxRecDepth 100000 in
theorem places_walk (cells params labels : Int) (L : List Ir) (A : Option Addr) (cap : Nat) (l : List Int) (Al : Option Addr) (capl : Nat) (w : World) (hC : kIr.C w A L.length L) (hcap : L.length ≤ cap) (hl : (Kd.int .i64).C w Al l.length l) (hlc : l.length ≤ capl) (hlw : ∀ k ∈ l, k ≤ 9223372036854775807) :
    Calls Try.prog 5 #[.agg #[.int .i64 cells, .int .i64 params, .slice A L.length cap, .int .i64 labels], .slice Al l.length capl] w fun e w' => e = .returned (.bool true) ∧ Below w.heap.size w w' := by
  obtain ⟨L', hL⟩ : ∃ L', L' = L.take 100 := ⟨_, rfl⟩
  have hmin : (if (100 : Int) < (L.length : Int) then 100 else (L.length : Int)) = (L'.length : Int) := min_cut L L' 100 hL
  have hm0 : (0 : Int) ≤ (L'.length : Int) := by omega
  have hmc : (L'.length : Int) ≤ (cap : Int) := by rw [hL, List.length_take]; omega
  have hsm : L'.length ≤ 100 := by rw [hL, List.length_take]; omega
  have HC := Aside0.mk hC
  have HL := Aside0.mk hL
  have HLL := Aside0.mk hl
  have HLW := Aside0.mk hlw
  have hbx0 := blk_new w (.cells #[.int .i64 cells, .int .i64 params, .slice A L.length cap, .int .i64 labels] 24)
  have HB := Aside0.mk ((Below.refl w.heap.size w).alloc (Nat.le_refl _) (.cells #[.int .i64 cells, .int .i64 params, .slice A L.length cap, .int .i64 labels] 24))
  have HX := Aside0.mk hbx0
  clear hC hL hbx0 hl hlw
  go_enter Try.func5, Try.ntmps5
  go_wp2_with fail
  refine (examples17_calls _).mono ?_
  rintro e w1 ⟨rfl, hb1⟩
  have hbx := blk_below HX.out hb1
  have hc0 := blk_cell hbx 0
  have hc1 := blk_cell hbx 1
  have hc2 := blk_cell hbx 2
  have hc3 := blk_cell hbx 3
  have hf2 := blk_frozen hbx 2
  have HCUT := Aside0.mk (Bx.cut (HB.out.trans (hb1.mono HB.out.size)) (by have := hb1.size; simpa using this) hbx HC.out hcap 100 HL.out (by omega))
  obtain ⟨ah, af, er, HS, hE⟩ := sets_ends ⟨cells, params, L', labels⟩
  have HS := Aside0.mk HS
  have HE := Aside0.mk hE
  clear hbx hb1 HB HX HL hE
  go_wp2_with fail
  refine (alloc_calls _ A cap _ HCUT.out.code HS.out HE.out).mono ?_
  rintro e w2 ⟨v1, rfl, hR1, hb2⟩
  obtain ⟨Ap, cp, rfl, hcp, hCp⟩ := Kd.R_reads hR1
  have HP2 := Aside0.mk (show Pw w w2 _ A cap Ap _ from ⟨HCUT.out.below hb2, hCp⟩)
  clear hc0 hc1 hc2 hc3 hf2 hR1 hb2 hCp HCUT hmin hm0 hmc HC hcap
  obtain ⟨c, hcd⟩ : ∃ c, Cod.mk cells params L' labels = c := ⟨_, rfl⟩
  rw [hcd] at HS HE HP2 ⊢
  replace hsm : c.body.length ≤ 100 := by rw [← hcd]; exact hsm
  clear hcd
  have HPL := Aside0.mk (places_le (c := c) (ah := ah) (af := af))
  obtain ⟨P, hP⟩ : ∃ P, placesOf c ah af = P := ⟨_, rfl⟩
  have HRA := Aside0.mk (fun (W : World) (h : CodeAt W c A cap) => ralloc_calls c A cap W h HS.out HE.out)
  rw [hP] at HP2 HPL HRA ⊢
  clear hP
  have hbx0 := blk_cell HP2.out.b.box 0
  have hbx1 := blk_cell HP2.out.b.box 1
  have hbx2 := blk_cell HP2.out.b.box 2
  have hbx3 := blk_cell HP2.out.b.box 3
  have hpl : P.length ≤ 60 := HPL.out.1
  clear HPL
  go_wp2_with fail
  refine (HRA.out _ HP2.out.b.code).mono ?_
  rintro e w3 ⟨v2, rfl, hR2, hb3⟩
  obtain ⟨Bp, cbp, rfl, hcb, hCb⟩ := Kd.R_reads hR2
  have HP3 := Aside0.mk (HP2.out.below hb3)
  have HC3 := Aside0.mk hCb
  clear hbx0 hbx1 hbx2 hbx3 hR2 hb3 hCb HP2 HRA
  go_wp2_with fail
  refine (numbers17_same Ap Bp cp cbp P _ HP3.out.r HC3.out (by omega)).mono ?_
  rintro e w4 ⟨rfl, hd4⟩
  have HP4 := Aside0.mk (HP3.out.b.below (drawn_below hd4))
  clear HP3 HC3 hd4
  have hbx0 := blk_cell HP4.out.box 0
  have hbx1 := blk_cell HP4.out.box 1
  have hbx2 := blk_cell HP4.out.box 2
  have hbx3 := blk_cell HP4.out.box 3
  go_wp2_with fail
  refine (cross_calls c A cap _ HP4.out.code HS.out HE.out).mono ?_
  unfold CrossOut
  obtain ⟨cr, hcr⟩ : ∃ cr, (if fits c = true then crossS c af c.body.length else 0) = cr := ⟨_, rfl⟩
  have HRC := Aside0.mk (fun (W : World) (h : CodeAt W c A cap) => rcross_calls c A cap W h HS.out HE.out)
  unfold CrossOut at HRC
  rw [hcr] at HRC ⊢
  clear hcr
  rintro e w5 ⟨rfl, hb5⟩
  have HP5 := Aside0.mk (HP4.out.below hb5)
  clear hbx0 hbx1 hbx2 hbx3 HP4 hb5
  have hbx0 := blk_cell HP5.out.box 0
  have hbx1 := blk_cell HP5.out.box 1
  have hbx2 := blk_cell HP5.out.box 2
  have hbx3 := blk_cell HP5.out.box 3
  go_wp2_with fail
  refine (HRC.out _ HP5.out.code).mono ?_
  rintro e w6 ⟨rfl, hb6⟩
  have HP6 := Aside0.mk (HP5.out.below hb6)
  clear hbx0 hbx1 hbx2 hbx3 HP5 hb6 HRC
  have hbx0 := blk_cell HP6.out.box 0
  have hbx1 := blk_cell HP6.out.box 1
  have hbx2 := blk_cell HP6.out.box 2
  have hbx3 := blk_cell HP6.out.box 3
  go_wp2_with fail
  refine (named_calls c A cap _ HP6.out.code).mono ?_
  have her : (if fits c = true then (0 : Int) else 4) = er := by rcases HE.out with ⟨h1, h2, _⟩ | ⟨h1, h2, _⟩ <;> rw [h1, h2] <;> rfl
  unfold NamedOut
  rw [her]
  obtain ⟨nm, hnm⟩ : ∃ nm, (if fits c = true then namedN c c.body.length else 0) = nm := ⟨_, rfl⟩
  have HRN := Aside0.mk (fun (W : World) (h : CodeAt W c A cap) => rnamed_calls c A cap W h)
  unfold NamedOut at HRN
  rw [hnm] at HRN ⊢
  clear hnm her
  rintro e w7 ⟨rfl, hb7⟩
  have HP7 := Aside0.mk (HP6.out.below hb7)
  clear hbx0 hbx1 hbx2 hbx3 HP6 hb7
  have hbx0 := blk_cell HP7.out.box 0
  have hbx1 := blk_cell HP7.out.box 1
  have hbx2 := blk_cell HP7.out.box 2
  have hbx3 := blk_cell HP7.out.box 3
  go_wp2_with fail
  refine (HRN.out _ HP7.out.code).mono ?_
  rintro e w8 ⟨rfl, hb8⟩
  have HP8 := Aside0.mk (HP7.out.below hb8)
  clear hbx0 hbx1 hbx2 hbx3 HP7 hb8 HRN
  obtain ⟨l', hl'⟩ : ∃ l', l' = l.take 100 := ⟨_, rfl⟩
  have hmin : (if (100 : Int) < (l.length : Int) then 100 else (l.length : Int)) = (l'.length : Int) := by rw [hl', List.length_take]; split <;> omega
  have hm0 : (0 : Int) ≤ (l'.length : Int) := by omega
  have hmc : (l'.length : Int) ≤ (capl : Int) := by rw [hl', List.length_take]; omega
  have hsl : l'.length ≤ 100 := by rw [hl', List.length_take]; omega
  have HLW' := Aside0.mk (show ∀ k ∈ l', k ≤ 9223372036854775807 from fun k hk => HLW.out k (by rw [hl'] at hk; exact List.mem_of_mem_take hk))
  have HLC := Aside0.mk (show (Kd.int .i64).C w8 Al l'.length l' from by
    rw [hl']
    by_cases h : 100 ≤ l.length
    · exact Kd.C_below (Kd.C_take HLL.out h) HP8.out.bel
    · rw [List.take_of_length_le (by omega)]; exact Kd.C_below HLL.out HP8.out.bel)
  clear hl' HLW HLL
  go_wp2_with fail
  go_loop [19] (fun iv => ∃ k : Nat, k ≤ l'.length ∧ iv = .int .i64 k ∧ Aside0 (∀ j : Nat, j < k → -1099511627776 ≤ rd l' (j : Int))) (fun iv => l'.length - (intOf iv).toNat)
  case atStart => exact ⟨0, Nat.zero_le _, rfl, ⟨fun j hj => absurd hj (Nat.not_lt_zero _)⟩⟩
  case round =>
    obtain ⟨k, hk, rfl, HALL⟩ := hrel
    by_cases hlt : k < l'.length
    · obtain ⟨adw, e, hqc⟩ := Kd.at_int HLC.out (k : Int) (by omega) (by omega)
      subst e
      rw [Int.toNat_natCast] at hqc
      by_cases hlo : rd l' (k : Int) < -1099511627776
      · have hlb : decide (rd l' (k : Int) < -1099511627776) = true := decide_eq_true hlo
        clear hlo
        go_wp2_with fail
        go_ret
        exact ⟨rfl, HP8.out.bel⟩
      · have hlb : decide (rd l' (k : Int) < -1099511627776) = false := decide_eq_false hlo
        have HAN := Aside0.mk (show ∀ j : Nat, j < k + 1 → -1099511627776 ≤ rd l' (j : Int) from fun j hj => by rcases Nat.lt_or_ge j k with h | h; exact HALL.out j h; (have : j = k := by omega); rw [this]; omega)
        clear hlo
        go_wp2_with fail
        go_round
        case rel => exact ⟨k + 1, by omega, by go_num, HAN⟩
        case measure => simp [intOf]; omega
    · have HIN := Aside0.mk (show ∀ x ∈ l', -1099511627776 ≤ x ∧ x ≤ 9223372036854775807 from fun x hx => ⟨by
        obtain ⟨i, hi, rfl⟩ := List.getElem_of_mem hx
        have h := HALL.out i (by omega)
        have e : rd l' (i : Int) = l'[i] := by unfold rd; simp [hi]
        omega, HLW'.out x hx⟩)
      have HS1 := Aside0.mk (slots_calls Al capl l' w8 HLC.out (by omega) HIN.out)
      have HS2 := Aside0.mk (rslots_calls Al capl l' w8 HLC.out (by omega) HIN.out)
      clear HALL
      rcases HE.out with ⟨rfl, hfit, _⟩ | ⟨rfl, hfit, rfl, rfl⟩
      · rw [hfit]
        clear HE
        go_wp2_with fail
        refine HS1.out.mono ?_
        rintro e w9 ⟨rfl, rfl⟩
        go_wp2_with fail
        refine HS2.out.mono ?_
        rintro e w10 ⟨rfl, rfl⟩
        go_wp2_with fail
        go_ret
        exact ⟨rfl, HP8.out.bel⟩
      · rw [hfit]
        clear HE
        go_wp2_with fail
        refine HS1.out.mono ?_
        rintro e w9 ⟨rfl, rfl⟩
        go_wp2_with fail
        refine HS2.out.mono ?_
        rintro e w10 ⟨rfl, rfl⟩
        go_wp2_with fail
        go_ret
        exact ⟨rfl, HP8.out.bel⟩
end Go.Proofs.Ytdcmeefeinppnaa.Live
