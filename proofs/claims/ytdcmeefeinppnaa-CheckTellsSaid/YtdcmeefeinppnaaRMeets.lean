/- The reference's Meets and taken. -/
import Derived.Test.YtdcmeefeinppnaaCut
import Derived.Test.YtdcmeefeinppnaaRBothW
import Derived.Test.YtdcmeefeinppnaaBits
import Derived.Test.YtdcmeefeinppnaaNamed
import Derived.Test.YtdcmeefeinppnaaRUses
namespace Go.Proofs.Ytdcmeefeinppnaa.Live
open Go.RowKit Go.Proofs.YtdcmeefeinppnaaW.PrintWords Go.Proofs.YtdcmeefeinppnaaW.PrintLast Go.Proofs.YtdcmeefeinppnaaW.PrintMore Go.Proofs.Ytdcmeefeinppnaa.Mem Go.Proofs.Ytdcmeefeinppnaa.Ir
open Uses (uses)
set_option linter.unusedVariables false
set_option linter.unusedSimpArgs false

theorem both_calls (c : Cod) (A : Option Addr) (cap : Nat) (w : World) (hC : CodeAt w c A cap) {ah af : List Int} {er : Int} (hS : SetsIs c ah af er) (hE : er = 0 ∧ fits c = true ∧ LiveIs c ah af ∨ er = 4 ∧ fits c = false ∧ ah = [] ∧ af = []) :
    Calls Try.prog 16 #[.agg (c.vals A cap)] w (BothOut w ah af (fits c)) := by
  rcases hE with ⟨h1, h2, h3⟩ | ⟨h1, h2, rfl, rfl⟩
  · obtain ⟨_, k, hk⟩ := hS.yes h2
    rw [h2]
    exact both_yes c A cap w hC h2 ah af h3 k hk
  · rw [h2]
    exact both_no c A cap w hC h2
end Go.Proofs.Ytdcmeefeinppnaa.Live
namespace Go.Proofs.Ytdcmeefeinppnaa.Live
open Go.RowKit Go.Proofs.YtdcmeefeinppnaaW.PrintWords Go.Proofs.YtdcmeefeinppnaaW.PrintLast Go.Proofs.YtdcmeefeinppnaaW.PrintMore Go.Proofs.Ytdcmeefeinppnaa.Mem Go.Proofs.Ytdcmeefeinppnaa.Ir
open Uses (uses UsesOut)
set_option linter.unusedVariables false
set_option linter.unusedSimpArgs false

set_option maxHeartbeats 8000000 in
set_option maxRecDepth 100000 in
theorem rnamed_calls (c : Cod) (A : Option Addr) (cap : Nat) (w : World) (hC : CodeAt w c A cap) :
    Calls Try.prog 32 #[.agg (c.vals A cap)] w (NamedOut w c (.bool (fits c))) := by
  have HP := Aside0.mk (Rf.init hC)
  have hs := hC.small
  clear hC
  unfold NamedOut
  cases hf : fits c with
  | false =>
    rw [if_neg (by simp)]
    go_enter Try.func32, Try.ntmps32
    go_wp2_with (go_at_call 21; refine (rfits_calls c A cap _ HP.out.code).mono ?_; rw [hf]; rintro e w1 ⟨rfl, hb⟩; have HD := Aside0.mk (HP.out.below hb).bel; clear hb)
    go_ret2
    exact ⟨rfl, HD.out⟩
  | true =>
    rw [if_pos rfl]
    have HF := Aside0.mk hf
    have hh := fits_head hf
    have hp0 : 0 ≤ c.params := hh.2.2.1
    have hp60 : c.params < 64 := by omega
    go_enter Try.func32, Try.ntmps32
    go_wp2_with (go_at_call 21; refine (rfits_calls c A cap _ HP.out.code).mono ?_; rw [hf]; rintro e w1 ⟨rfl, hb⟩; have HQ := Aside0.mk (HP.out.below hb); have hb1 := blk_cell HQ.out.box 1; clear hb)
    clear hb1 HP hf
    go_loopw [5, 6] (fun sv iv wr => ∃ k : Nat, k ≤ c.body.length ∧ iv = .int .i64 k ∧ sv = .int .i64 (namedN c k) ∧ Aside0 (Rf w wr c A cap)) (fun _ iv _ => c.body.length - (intOf iv).toNat)
    case atStart => exact ⟨0, Nat.zero_le _, rfl, rfl, HQ⟩
    case round =>
      obtain ⟨k, hk, rfl, rfl, HQ1⟩ := hrel
      clear HQ
      have hb2 := blk_cell HQ1.out.box 2
      by_cases hlt : k < c.body.length
      · obtain ⟨ad, e, hx0, hx1, hx2, hx3, hx4, hx5, hx6⟩ := at_ir HQ1.out.code.row k hlt
        subst e
        have HU := Aside0.mk (uses_in HF.out hlt)
        have HDF := Aside0.mk (okIr_def (fits_ir HF.out k hlt))
        have HNX := Aside0.mk (show namedN c (k + 1) = orD (bitL (uses (atIr c.body k).op (atIr c.body k).a (atIr c.body k).b (atIr c.body k).c) (namedN c k)) (defs (atIr c.body k)) from rfl)
        have HX := Aside0.mk (fun (W : World) => ruses_calls (atIr c.body k).op (atIr c.body k).dst (atIr c.body k).a (atIr c.body k).b (atIr c.body k).c (atIr c.body k).n (atIr c.body k).m W)
        have HDX := Aside0.mk (fun (W : World) => rdefs_calls (atIr c.body k) W)
        have hul := uses_len (atIr c.body k).op (atIr c.body k).a (atIr c.body k).b (atIr c.body k).c
        obtain ⟨l, hl⟩ : ∃ l, uses (atIr c.body k).op (atIr c.body k).a (atIr c.body k).b (atIr c.body k).c = l := ⟨_, rfl⟩
        obtain ⟨d, hd⟩ : ∃ d, defs (atIr c.body k) = d := ⟨_, rfl⟩
        rw [hl] at HU HNX HX hul
        rw [hd] at HDF HNX HDX
        clear hl hd
        go_wp2_with fail
        refine (HX.out _).mono ?_
        rintro e w2 ⟨v2, rfl, hR, hb⟩
        obtain ⟨A2, c2, rfl, hc2, hC2⟩ := Kd.R_reads hR
        have HQ2 := Aside0.mk (And.intro (HQ1.out.below hb) hC2)
        clear hR hb hC2 HX hb2 hx0 hx1 hx2 hx3 hx4 hx5 hx6
        go_wp2_with fail
        go_loop [5, 8] (fun sv jv => ∃ q : Nat, q ≤ l.length ∧ jv = .int .i64 q ∧ sv = .int .i64 (bitL (l.take q) (namedN c k))) (fun _ jv => l.length - (intOf jv).toNat)
        case atStart => exact ⟨0, Nat.zero_le _, rfl, rfl⟩
        case round =>
          obtain ⟨q, hq, rfl, rfl⟩ := hrel
          by_cases hql : q < l.length
          · obtain ⟨adw, e, hqc⟩ := Kd.at_int HQ2.out.2 (q : Int) (by omega) (by omega)
            subst e
            rw [Int.toNat_natCast] at hqc
            obtain ⟨h0, h1⟩ := HU.out _ (rd_mem hql)
            have h60 : rd l (q : Int) < 64 := by omega
            have HSN := Aside0.mk (show bitL (l.take (q + 1)) (namedN c k) = Go.bits .or .i64 (bitL (l.take q) (namedN c k)) (wrap64 (2 ^ (rd l (q : Int)).toNat)) by rw [take_snoc hql, bitL_snoc, shl_bit (by omega)])
            go_wp2_with fail
            go_round
            case rel => exact ⟨q + 1, by omega, by go_num, by rw [HSN.out]⟩
            case measure => simp [intOf]; omega
          · have HQE := Aside0.mk (show bitL (l.take q) (namedN c k) = bitL l (namedN c k) by rw [show q = l.length by omega, List.take_length])
            have hb2 := blk_cell HQ2.out.1.box 2
            obtain ⟨ad', e', hx0, hx1, hx2, hx3, hx4, hx5, hx6⟩ := at_ir HQ2.out.1.code.row k hlt
            cases e'
            rw [HQE.out]
            by_cases hge : 0 ≤ d
            · have hgb : decide (0 ≤ d) = true := decide_eq_true hge
              have hd60 : d < 64 := by have := HDF.out; omega
              have HSN := Aside0.mk (show orD (bitL l (namedN c k)) d = Go.bits .or .i64 (bitL l (namedN c k)) (wrap64 (2 ^ d.toNat)) by unfold orD; rw [if_pos hge, shl_bit (by omega)])
              clear HQE
              go_wp2_with (go_at_call 42; refine (HDX.out _).mono ?_; rintro e w3 ⟨rfl, hb⟩; have HQ3 := Aside0.mk (HQ2.out.1.below hb); clear hb)
              go_roundw
              case rel => exact ⟨k + 1, by omega, by go_num, by rw [HNX.out, HSN.out], HQ3⟩
              case measure => simp [intOf]; omega
            · have hgb : decide (0 ≤ d) = false := decide_eq_false hge
              have HSN := Aside0.mk (show orD (bitL l (namedN c k)) d = bitL l (namedN c k) by unfold orD; rw [if_neg hge])
              clear hge HQE
              go_wp2_with (go_at_call 42; refine (HDX.out _).mono ?_; rintro e w3 ⟨rfl, hb⟩; have HQ3 := Aside0.mk (HQ2.out.1.below hb); clear hb)
              go_roundw
              case rel => exact ⟨k + 1, by omega, by go_num, by rw [HNX.out, HSN.out], HQ3⟩
              case measure => simp [intOf]; omega
      · have HK := Aside0.mk (show k = c.body.length by omega)
        go_wp2_with fail
        go_ret2
        exact ⟨by rw [HK.out]; rfl, HQ1.out.bel⟩
end Go.Proofs.Ytdcmeefeinppnaa.Live
namespace Go.Proofs.Ytdcmeefeinppnaa.Live
open Go.RowKit Go.Proofs.YtdcmeefeinppnaaW.PrintWords Go.Proofs.YtdcmeefeinppnaaW.PrintLast Go.Proofs.YtdcmeefeinppnaaW.PrintMore Go.Proofs.Ytdcmeefeinppnaa.Mem Go.Proofs.Ytdcmeefeinppnaa.Ir
open Uses (uses UsesOut)
set_option linter.unusedVariables false
set_option linter.unusedSimpArgs false

def meetsR (c : Cod) (ah af : List Int) (a b : Nat) : Bool := decide (a ≠ b) && clashB c ah af (a : Int) (b : Int)
structure Me (w W : World) (c : Cod) (A : Option Addr) (cap : Nat) (Aa Af : Option Addr) (ah af : List Int) : Prop where
  f : Rf w W c A cap
  ra : (Kd.int .i64).C W Aa ah.length ah
  rf : (Kd.int .i64).C W Af af.length af
theorem Me.below {w W W1 : World} {c : Cod} {A : Option Addr} {cap : Nat} {Aa Af : Option Addr} {ah af : List Int} (h : Me w W c A cap Aa Af ah af) (hb : Below W.heap.size W W1) : Me w W1 c A cap Aa Af ah af := ⟨h.f.below hb, Kd.C_below h.ra hb, Kd.C_below h.rf hb⟩
set_option maxHeartbeats 8000000 in
set_option maxRecDepth 100000 in
theorem meets_calls (c : Cod) (A Aa Af : Option Addr) (cap ca cf : Nat) (ah af : List Int) (a b : Nat) (w : World) (hC : CodeAt w c A cap) (ra : (Kd.int .i64).C w Aa ah.length ah) (rf : (Kd.int .i64).C w Af af.length af) (hlf : af.length = c.body.length) (ha : a < 60) (hb : b < 60) :
    Calls Try.prog 76 #[.agg (c.vals A cap), .slice Af af.length cf, .slice Aa ah.length ca, .int .i64 a, .int .i64 b] w fun e w' => e = .returned (.bool (meetsR c ah af a b)) ∧ Below w.heap.size w w' := by
  have hs := hC.small
  have HP := Aside0.mk (show Me w (w.alloc (.cells (c.vals A cap) 24)) c A cap Aa Af ah af from ⟨Rf.init hC, Kd.C_alloc ra _, Kd.C_alloc rf _⟩)
  have HLF := Aside0.mk hlf
  clear hC ra rf hlf
  by_cases hab : a = b
  · subst hab
    have he : meetsR c ah af a a = false := by simp [meetsR]
    rw [he]
    go_enter Try.func76, Try.ntmps76
    go_wp2_with fail
    go_ret
    exact ⟨rfl, HP.out.f.bel⟩
  · have he : meetsR c ah af a b = clashB c ah af (a : Int) (b : Int) := by simp [meetsR, hab]
    have habb : ((a : Int) == (b : Int)) = false := by simp; omega
    have HAB := Aside0.mk hab
    rw [he]
    clear he hab
    obtain ⟨R, hR⟩ : ∃ R, clashB c ah af (a : Int) (b : Int) = R := ⟨_, rfl⟩
    have HR := Aside0.mk hR
    rw [hR]
    clear hR
    have ha60 : (a : Int) < 64 := by omega
    have hb60 : (b : Int) < 64 := by omega
    go_enter Try.func76, Try.ntmps76
    go_wp2_with fail
    go_loopw [11, 12] (fun iv _ wr => ∃ k : Nat, k ≤ c.body.length ∧ iv = .int .i64 k ∧ (∀ j, j < k → cl c af (a : Int) (b : Int) j = false) ∧ Aside0 (Me w wr c A cap Aa Af ah af)) (fun iv _ _ => c.body.length - (intOf iv).toNat)
    case atStart => exact ⟨0, Nat.zero_le _, rfl, (fun j hj => absurd hj (Nat.not_lt_zero _)), HP⟩
    case round =>
      obtain ⟨k, hk, rfl, hall, HQ⟩ := hrel
      have HALL := Aside0.mk hall
      clear HP hall
      have hb2 := blk_cell HQ.out.f.box 2
      by_cases hlt : k < c.body.length
      · obtain ⟨ad, e, hx0, hx1, hx2, hx3, hx4, hx5, hx6⟩ := at_ir HQ.out.f.code.row k hlt
        subst e
        have hkl : (k : Int) < af.length := by rw [HLF.out]; omega
        obtain ⟨adf, ef, hqf⟩ := Kd.at_int HQ.out.rf (k : Int) (by omega) hkl
        subst ef
        rw [Int.toNat_natCast] at hqf
        have HDX := Aside0.mk (fun (W : World) => rdefs_calls (atIr c.body k) W)
        have HCL := Aside0.mk (show cl c af (a : Int) (b : Int) k = if defs (atIr c.body k) = (a : Int) then inB (rd af (k : Int)) (b : Int) else if defs (atIr c.body k) = (b : Int) then inB (rd af (k : Int)) (a : Int) else false from rfl)
        obtain ⟨d, hd⟩ : ∃ d, defs (atIr c.body k) = d := ⟨_, rfl⟩
        rw [hd] at HDX HCL
        clear hd
        have hia := inB_one (rd af (k : Int)) a
        have hib := inB_one (rd af (k : Int)) b
        obtain ⟨ba, hba⟩ : ∃ ba, inB (rd af (k : Int)) (a : Int) = ba := ⟨_, rfl⟩
        obtain ⟨bb, hbb⟩ : ∃ bb, inB (rd af (k : Int)) (b : Int) = bb := ⟨_, rfl⟩
        rw [hba] at hia HCL
        rw [hbb] at hib HCL
        clear hba hbb
        have HYES : cl c af (a : Int) (b : Int) k = true → R = true := fun h => by
          rw [← HR.out]; unfold clashB
          rw [any_true hlt h]; rfl
        have HY := Aside0.mk HYES
        clear HYES
        by_cases hda : d = (a : Int)
        · rw [if_pos hda] at HCL
          have h1 : (d == (a : Int)) = true := by simpa using hda
          have h2 : (d == (b : Int)) = false := by have := HAB.out; simp; omega
          clear hda
          cases bb with
          | true =>
            have hRt := HY.out HCL.out
            subst hRt
            go_wp2_with (go_at_call 42; refine (HDX.out _).mono ?_; rintro e w3 ⟨rfl, hb⟩; have HQ3 := Aside0.mk (HQ.out.below hb); obtain ⟨ad3, e3, hq3⟩ := Kd.at_int HQ3.out.rf (k : Int) (by omega) hkl; cases e3; rw [Int.toNat_natCast] at hq3; clear hb)
            go_ret
            exact ⟨rfl, HQ3.out.f.bel⟩
          | false =>
            go_wp2_with (go_at_call 42; refine (HDX.out _).mono ?_; rintro e w3 ⟨rfl, hb⟩; have HQ3 := Aside0.mk (HQ.out.below hb); obtain ⟨ad3, e3, hq3⟩ := Kd.at_int HQ3.out.rf (k : Int) (by omega) hkl; cases e3; rw [Int.toNat_natCast] at hq3; clear hb)
            go_roundw
            case rel => exact ⟨k + 1, by omega, by go_num, (fun j hj => by rcases Nat.lt_or_ge j k with h | h; exact HALL.out j h; (have : j = k := by omega); rw [this]; exact HCL.out), HQ3⟩
            case measure => simp [intOf]; omega
        · rw [if_neg hda] at HCL
          have h1 : (d == (a : Int)) = false := by simpa using hda
          clear hda
          by_cases hdb : d = (b : Int)
          · rw [if_pos hdb] at HCL
            have h2 : (d == (b : Int)) = true := by simpa using hdb
            clear hdb
            cases ba with
            | true =>
              have hRt := HY.out HCL.out
              subst hRt
              go_wp2_with (go_at_call 42; refine (HDX.out _).mono ?_; rintro e w3 ⟨rfl, hb⟩; have HQ3 := Aside0.mk (HQ.out.below hb); obtain ⟨ad3, e3, hq3⟩ := Kd.at_int HQ3.out.rf (k : Int) (by omega) hkl; cases e3; rw [Int.toNat_natCast] at hq3; clear hb)
              go_ret
              exact ⟨rfl, HQ3.out.f.bel⟩
            | false =>
              go_wp2_with (go_at_call 42; refine (HDX.out _).mono ?_; rintro e w3 ⟨rfl, hb⟩; have HQ3 := Aside0.mk (HQ.out.below hb); obtain ⟨ad3, e3, hq3⟩ := Kd.at_int HQ3.out.rf (k : Int) (by omega) hkl; cases e3; rw [Int.toNat_natCast] at hq3; clear hb)
              go_roundw
              case rel => exact ⟨k + 1, by omega, by go_num, (fun j hj => by rcases Nat.lt_or_ge j k with h | h; exact HALL.out j h; (have : j = k := by omega); rw [this]; exact HCL.out), HQ3⟩
              case measure => simp [intOf]; omega
          · rw [if_neg hdb] at HCL
            have h2 : (d == (b : Int)) = false := by simpa using hdb
            clear hdb
            go_wp2_with (go_at_call 42; refine (HDX.out _).mono ?_; rintro e w3 ⟨rfl, hb⟩; have HQ3 := Aside0.mk (HQ.out.below hb); clear hb)
            go_roundw
            case rel => exact ⟨k + 1, by omega, by go_num, (fun j hj => by rcases Nat.lt_or_ge j k with h | h; exact HALL.out j h; (have : j = k := by omega); rw [this]; exact HCL.out), HQ3⟩
            case measure => simp [intOf]; omega
      · have hRR : R = (decide (0 < ah.length) && decide ((if (a : Int) < (b : Int) then (b : Int) else (a : Int)) < c.params) && (inB (rd ah 0) (a : Int) || inB (rd ah 0) (b : Int))) := by
          rw [← HR.out]; unfold clashB; rw [any_false (fun j hj => HALL.out j (by omega))]; rfl
        have hb1 := blk_cell HQ.out.f.box 1
        have hia := inB_one (rd ah 0) a
        have hib := inB_one (rd ah 0) b
        by_cases h0 : ah.length = 0
        · have hz : ((ah.length : Int) == 0) = true := beq_iff_eq.2 (by omega)
          have hRf : R = false := by rw [hRR, h0]; rfl
          clear hRR
          subst hRf
          go_wp2_with fail
          go_ret
          exact ⟨rfl, HQ.out.f.bel⟩
        · have hz : ((ah.length : Int) == 0) = false := beq_eq_false_iff_ne.2 (by omega)
          have h0b : decide (0 < ah.length) = true := decide_eq_true (by omega)
          rw [h0b, Bool.true_and] at hRR
          by_cases hpa : c.params ≤ (a : Int)
          · have hp1 : decide (c.params ≤ (a : Int)) = true := decide_eq_true hpa
            have hRf : R = false := by
              rw [hRR, show decide ((if (a : Int) < (b : Int) then (b : Int) else (a : Int)) < c.params) = false by (simp only [decide_eq_false_iff_not]; split <;> omega)]; rfl
            clear hRR hpa
            subst hRf
            go_wp2_with fail
            go_ret
            exact ⟨rfl, HQ.out.f.bel⟩
          · have hp1 : decide (c.params ≤ (a : Int)) = false := decide_eq_false hpa
            by_cases hpb : c.params ≤ (b : Int)
            · have hp2 : decide (c.params ≤ (b : Int)) = true := decide_eq_true hpb
              have hRf : R = false := by
                rw [hRR, show decide ((if (a : Int) < (b : Int) then (b : Int) else (a : Int)) < c.params) = false by (simp only [decide_eq_false_iff_not]; split <;> omega)]; rfl
              clear hRR hpa hpb
              subst hRf
              go_wp2_with fail
              go_ret
              exact ⟨rfl, HQ.out.f.bel⟩
            · have hp2 : decide (c.params ≤ (b : Int)) = false := decide_eq_false hpb
              rw [show decide ((if (a : Int) < (b : Int) then (b : Int) else (a : Int)) < c.params) = true by (simp only [decide_eq_true_eq]; split <;> omega), Bool.true_and] at hRR
              obtain ⟨ada, ea, hqa⟩ := Kd.at_int HQ.out.ra (0 : Int) (by omega) (by omega)
              subst ea
              have hqb : wr.cell? ada = some (.int .i64 (rd ah 0)) := by
                have h := hqa
                rw [show ((0 : Int).toNat) = 0 from rfl, show ada.add 0 = ada from by unfold Addr.add; simp] at h
                exact h
              clear hpa hpb
              have h0n : 0 < ah.length := by omega
              subst hRR
              cases hva : inB (rd ah 0) (a : Int) with
              | true =>
                rw [hva] at hia
                go_wp2_with fail
                go_ret
                exact ⟨by rw [hva]; rfl, HQ.out.f.bel⟩
              | false =>
                rw [hva] at hia
                go_wp2_with fail
                go_ret
                exact ⟨by rw [hva]; rfl, HQ.out.f.bel⟩

/-! ### taken, the reference's places -/
def takenR (c : Cod) (ah af l : List Int) (k : Nat) (p : Int) : Nat → Bool
  | 0 => false
  | i + 1 => takenR c ah af l k p i || (decide (rd l (i : Int) = p) && meetsR c ah af i k)
theorem takenR_up {c : Cod} {ah af l : List Int} {k : Nat} {p : Int} {i : Nat} (h : takenR c ah af l k p i = true) : ∀ j, i ≤ j → takenR c ah af l k p j = true := by
  intro j hj
  induction j with
  | zero => obtain rfl : i = 0 := by omega
            exact h
  | succ j ih =>
    rcases Nat.lt_or_ge i (j + 1) with h1 | h1
    · unfold takenR; rw [ih (by omega)]; rfl
    · obtain rfl : i = j + 1 := by omega
      exact h
set_option maxHeartbeats 8000000 in
set_option maxRecDepth 100000 in
theorem taken_calls (c : Cod) (A Aa Af Al : Option Addr) (cap ca cf cl : Nat) (ah af l : List Int) (k : Nat) (p : Int) (w : World) (hC : CodeAt w c A cap) (ra : (Kd.int .i64).C w Aa ah.length ah) (rf : (Kd.int .i64).C w Af af.length af) (rl : (Kd.int .i64).C w Al l.length l) (hlf : af.length = c.body.length) (hk : k < 60) (hl : l.length ≤ 60) :
    Calls Try.prog 57 #[.agg (c.vals A cap), .slice Af af.length cf, .slice Aa ah.length ca, .slice Al l.length cl, .int .i64 k, .int .i64 p] w fun e w' => e = .returned (.bool (takenR c ah af l k p l.length)) ∧ Below w.heap.size w w' := by
  have HP := Aside0.mk (And.intro (show Me w (w.alloc (.cells (c.vals A cap) 24)) c A cap Aa Af ah af from ⟨Rf.init hC, Kd.C_alloc ra _, Kd.C_alloc rf _⟩) (Kd.C_alloc rl (.cells (c.vals A cap) 24)))
  have HLF := Aside0.mk hlf
  clear hC ra rf rl hlf
  obtain ⟨R, hR⟩ : ∃ R, takenR c ah af l k p l.length = R := ⟨_, rfl⟩
  have HR := Aside0.mk hR
  rw [hR]
  clear hR
  go_enter Try.func57, Try.ntmps57
  go_wp2_with fail
  go_loopw [13] (fun iv wr => ∃ q : Nat, q ≤ l.length ∧ iv = .int .i64 q ∧ takenR c ah af l k p q = false ∧ Aside0 (Me w wr c A cap Aa Af ah af ∧ (Kd.int .i64).C wr Al l.length l)) (fun iv _ => l.length - (intOf iv).toNat)
  case atStart => exact ⟨0, Nat.zero_le _, rfl, rfl, HP⟩
  case round =>
    obtain ⟨q, hq, rfl, hall, HQ⟩ := hrel
    have HALL := Aside0.mk hall
    clear HP hall
    by_cases hlt : q < l.length
    · obtain ⟨adw, e, hqc⟩ := Kd.at_int HQ.out.2 (q : Int) (by omega) (by omega)
      subst e
      rw [Int.toNat_natCast] at hqc
      have HN := Aside0.mk (show takenR c ah af l k p (q + 1) = (takenR c ah af l k p q || (decide (rd l (q : Int) = p) && meetsR c ah af q k)) from rfl)
      rw [HALL.out, Bool.false_or] at HN
      by_cases hp : rd l (q : Int) = p
      · have hpb : (rd l (q : Int) == p) = true := beq_iff_eq.2 hp
        rw [decide_eq_true hp, Bool.true_and] at HN
        have hc0 := blk_cell HQ.out.1.f.box 0
        have hc1 := blk_cell HQ.out.1.f.box 1
        have hc2 := blk_cell HQ.out.1.f.box 2
        have hc3 := blk_cell HQ.out.1.f.box 3
        clear hp
        cases hm : meetsR c ah af q k with
        | true =>
          have hRt : R = true := by rw [← HR.out]; exact takenR_up (HN.out.trans hm) _ (by omega)
          subst hRt
          have HM := Aside0.mk hm
          clear hm
          go_wp2_with (go_at_call 76; refine (meets_calls c A Aa Af cap ca cf ah af q k _ HQ.out.1.f.code HQ.out.1.ra HQ.out.1.rf HLF.out (by omega) hk).mono ?_; rw [HM.out]; rintro e w3 ⟨rfl, hb⟩; have HQ3 := Aside0.mk (HQ.out.1.below hb); clear hb)
          go_ret
          exact ⟨rfl, HQ3.out.f.bel⟩
        | false =>
          have HM := Aside0.mk hm
          clear hm
          go_wp2_with (go_at_call 76; refine (meets_calls c A Aa Af cap ca cf ah af q k _ HQ.out.1.f.code HQ.out.1.ra HQ.out.1.rf HLF.out (by omega) hk).mono ?_; rw [HM.out]; rintro e w3 ⟨rfl, hb⟩; have HQ3 := Aside0.mk (And.intro (HQ.out.1.below hb) (Kd.C_below HQ.out.2 hb)); clear hb)
          clear hc0 hc1 hc2 hc3
          go_roundw
          case rel => exact ⟨q + 1, by omega, by go_num, HN.out.trans HM.out, HQ3⟩
          case measure => simp [intOf]; omega
      · have hpb : (rd l (q : Int) == p) = false := beq_eq_false_iff_ne.2 hp
        rw [decide_eq_false hp, Bool.false_and] at HN
        clear hp
        go_wp2_with fail
        go_roundw
        case rel => exact ⟨q + 1, by omega, by go_num, HN.out, HQ⟩
        case measure => simp [intOf]; omega
    · have hRf : R = false := by rw [← HR.out, show l.length = q by omega]; exact HALL.out
      subst hRf
      go_wp2_with fail
      go_ret
      exact ⟨rfl, HQ.out.1.f.bel⟩
section
attribute [local go_sem] max2_int min2_int max_two min_two
set_option maxHeartbeats 4000000 in
theorem rcross_calls (c : Cod) (A : Option Addr) (cap : Nat) (w : World) (hC : CodeAt w c A cap) {ah af : List Int} {er : Int} (hS : SetsIs c ah af er) (hE : er = 0 ∧ fits c = true ∧ LiveIs c ah af ∨ er = 4 ∧ fits c = false ∧ ah = [] ∧ af = []) :
    Calls Try.prog 30 #[.agg (c.vals A cap)] w (CrossOut w c af (.bool (fits c))) := by
  have HP := Aside0.mk (Rf.init hC)
  have hs := hC.small
  have HB := Aside0.mk (both_calls c A cap _ HP.out.code hS hE)
  clear hC
  unfold CrossOut
  rcases hE with ⟨rfl, hf, hl⟩ | ⟨rfl, hf, rfl, rfl⟩
  · rw [if_pos hf, hf]
    rw [hf] at HB
    have HF := Aside0.mk hf
    have HL := Aside0.mk hl
    clear hf hl
    go_enter Try.func30, Try.ntmps30
    go_wp2_with (go_at_call 16; refine HB.out.mono ?_; rintro e w1 ⟨Af, cf, Aa, ca, rfl, hCf, hCa, hb⟩; have HQ := Aside0.mk (And.intro (HP.out.below hb) hCf); clear hb hCf hCa)
    clear HP HB
    have hb2 := blk_cell HQ.out.1.box 2
    go_loop [7, 8] (fun sv iv => ∃ k : Nat, k ≤ c.body.length ∧ iv = .int .i64 k ∧ sv = .int .i64 (crossS c af k)) (fun _ iv => c.body.length - (intOf iv).toNat)
    case atStart => exact ⟨0, Nat.zero_le _, rfl, rfl⟩
    case round =>
      obtain ⟨k, hk, rfl, rfl⟩ := hrel
      by_cases hlt : k < c.body.length
      · obtain ⟨ad, e, hx0, hx1, hx2, hx3, hx4, hx5, hx6⟩ := at_ir HQ.out.1.code.row k hlt
        subst e
        have hkl : (k : Int) < af.length := by rw [HL.out.lf]; omega
        obtain ⟨adf, ef, hq⟩ := Kd.at_int HQ.out.2 (k : Int) (by omega) hkl
        subst ef
        rw [Int.toNat_natCast] at hq
        by_cases h14 : (atIr c.body k).op = 14
        · have hd60 := dst_lt HF.out hlt h14
          have HCR := Aside0.mk (show crossS c af (k + 1) = Go.bits .or .i64 (crossS c af k) (clr (rd af (k : Int)) (atIr c.body k).dst) from if_pos h14)
          rw [h14] at hx0
          by_cases hd : 0 ≤ (atIr c.body k).dst
          · have hdb := decide_eq_true hd
            have HCL := Aside0.mk (show clr (rd af (k : Int)) (atIr c.body k).dst = Go.bits .andNot .i64 (rd af (k : Int)) (wrap64 (2 ^ (atIr c.body k).dst.toNat)) by unfold clr; rw [if_pos hd, shl_bit (by omega)])
            clear h14
            go_wp2_with fail
            go_round
            case rel => exact ⟨k + 1, by omega, by go_num, by rw [HCR.out, HCL.out]⟩
            case measure => simp [intOf]; omega
          · have hdb := decide_eq_false hd
            have HCL := Aside0.mk (show clr (rd af (k : Int)) (atIr c.body k).dst = rd af (k : Int) by unfold clr; rw [if_neg hd])
            clear h14
            go_wp2_with fail
            go_round
            case rel => exact ⟨k + 1, by omega, by go_num, by rw [HCR.out, HCL.out]⟩
            case measure => simp [intOf]; omega
        · have h14b : ((atIr c.body k).op != 14) = true := by simpa using h14
          have HCR := Aside0.mk (show crossS c af (k + 1) = crossS c af k from if_neg h14)
          clear h14
          go_wp2_with fail
          go_round
          case rel => exact ⟨k + 1, by omega, by go_num, by rw [HCR.out]⟩
          case measure => simp [intOf]; omega
      · have HK := Aside0.mk (show k = c.body.length by omega)
        go_wp2_with fail
        go_ret2
        exact ⟨by rw [HK.out]; rfl, HQ.out.1.bel⟩
  · rw [if_neg (by rw [hf]; simp), hf]
    rw [hf] at HB
    go_enter Try.func30, Try.ntmps30
    go_wp2_with (go_at_call 16; refine HB.out.mono ?_; rintro e w1 ⟨Af, cf, Aa, ca, rfl, hCf, hCa, hb⟩; have HD := Aside0.mk (HP.out.below hb).bel; clear hb hCf hCa)
    go_ret2
    exact ⟨rfl, HD.out⟩

theorem rslots_calls (A : Option Addr) (cap : Nat) (l : List Int) (w : World) (hC : (Kd.int .i64).C w A l.length l) (hl : l.length ≤ 1000) (h : ∀ k ∈ l, -1099511627776 ≤ k ∧ k ≤ 9223372036854775807) :
    Calls Try.prog 34 #[.slice A l.length cap] w fun e w' => e = .returned (.int .i64 (slotsF l l.length)) ∧ w = w' := by
  have HC := Aside0.mk hC
  have HU := Aside0.mk h
  clear hC h
  go_enter Try.func34, Try.ntmps34
  go_wp2_with fail
  go_loop [3, 4] (fun sv iv => ∃ q : Nat, q ≤ l.length ∧ iv = .int .i64 q ∧ sv = .int .i64 (slotsF l q)) (fun _ iv => l.length - (intOf iv).toNat)
  case atStart => exact ⟨0, Nat.zero_le _, rfl, rfl⟩
  case round =>
    obtain ⟨q, hq, rfl, rfl⟩ := hrel
    by_cases hql : q < l.length
    · obtain ⟨adw, e, hqc⟩ := Kd.at_int HC.out (q : Int) (by omega) (by omega)
      subst e
      rw [Int.toNat_natCast] at hqc
      obtain ⟨h0, h1⟩ := HU.out _ (rd_mem hql)
      have HSN := Aside0.mk (show slotsF l (q + 1) = if slotsF l q < rd l (q : Int) - 5 then rd l (q : Int) - 5 else slotsF l q from rfl)
      go_wp2_with fail
      go_round
      case rel => exact ⟨q + 1, by omega, by go_num, by rw [HSN.out]⟩
      case measure => simp [intOf]; omega
    · have hse : slotsF l q = slotsF l l.length := by rw [show q = l.length by omega]
      rw [hse]
      clear hse
      go_wp2_with fail
      go_ret
      exact ⟨rfl, rfl⟩
end
end Go.Proofs.Ytdcmeefeinppnaa.Live
