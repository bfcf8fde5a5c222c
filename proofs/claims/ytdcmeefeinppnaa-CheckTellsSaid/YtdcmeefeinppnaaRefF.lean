/- The reference's chapter 18: Exec. -/
import Derived.Test.YtdcmeefeinppnaaRMeets
import Derived.Test.YtdcmeefeinppnaaRight
import Derived.Test.YtdcmeefeinppnaaRefC
import Derived.Test.YtdcmeefeinppnaaCheckF
namespace Go.Proofs.Ytdcmeefeinppnaa.RefE
open Go.RowKit Go.Proofs.YtdcmeefeinppnaaW.PrintWords Go.Proofs.YtdcmeefeinppnaaW.PrintLast Go.Proofs.YtdcmeefeinppnaaW.PrintMore Go.Proofs.Ytdcmeefeinppnaa.Mem Go.Proofs.Ytdcmeefeinppnaa.Ir Go.Proofs.Ytdcmeefeinppnaa.Live
open Uses (uses)
set_option linter.unusedVariables false
set_option linter.unusedSimpArgs false

set_option maxHeartbeats 4000000 in
theorem rclash_calls {c : Cod} {ah af : List Int} (hS : SetsIs c ah af 0) (hf : fits c = true) (hl : LiveIs c ah af) (A : Option Addr) (cap : Nat) (a b : Nat) (w : World) (hC : CodeAt w c A cap) (ha : (a : Int) < c.cells) (hb : (b : Int) < c.cells) (hab : b < a) :
    Calls Try.prog 67 #[.agg (c.vals A cap), .int .i64 a, .int .i64 b] w fun e w' => e = .returned (.tuple #[.bool (clashB c ah af (a : Int) (b : Int)), .bool true]) ∧ Below w.heap.size w w' := by
  have HP := Aside0.mk (Rf.init hC)
  have HB := Aside0.mk (both_calls c A cap _ HP.out.code hS (.inl ⟨rfl, hf, hl⟩))
  rw [hf] at HB
  have hh := fits_head hf
  have ha60 : a < 60 := by omega
  have hb60 : b < 60 := by omega
  have HLF := Aside0.mk hl.lf
  have HM := Aside0.mk (show meetsR c ah af a b = clashB c ah af (a : Int) (b : Int) by simp [meetsR]; intro e; omega)
  have g1 : decide ((a : Int) < 0) = false := decide_eq_false (by omega)
  have g2 : decide ((b : Int) < 0) = false := decide_eq_false (by omega)
  have g3 : decide (c.cells ≤ (a : Int)) = false := decide_eq_false (by omega)
  have g4 : decide (c.cells ≤ (b : Int)) = false := decide_eq_false (by omega)
  clear hC hS hf hl hh ha hb hab
  go_enter Try.func67, Try.ntmps67
  go_wp2_with (first
    | (go_at_call 16; refine HB.out.mono ?_; rintro e w3 ⟨A1, c1, A2, c2, rfl, hr1, hr2, hb⟩; have HR1 := Aside0.mk hr1; have HR2 := Aside0.mk hr2; have HP3 := Aside0.mk (HP.out.below hb); have hbx0 := blk_cell HP3.out.box 0; have hbx1 := blk_cell HP3.out.box 1; have hbx2 := blk_cell HP3.out.box 2; have hbx3 := blk_cell HP3.out.box 3; clear hb hr1 hr2)
    | (go_at_call 76; refine (meets_calls c A A2 A1 cap _ _ ah af a b _ HP3.out.code HR2.out HR1.out HLF.out ha60 hb60).mono ?_; rw [HM.out]; rintro e w4 ⟨rfl, hb⟩; have HP4 := Aside0.mk (HP3.out.below hb); clear hb))
  go_ret2
  exact ⟨rfl, HP4.out.bel⟩
set_option maxHeartbeats 8000000 in
set_option maxRecDepth 100000 in
theorem rright_calls (c : Cod) (A : Option Addr) (cap : Nat) (l : List Int) (B : Option Addr) (capB : Nat) (w : World) (hC : CodeAt w c A cap) (hB : (Kd.int .i64).C w B l.length l) {ah af : List Int} {er : Int} (hS : SetsIs c ah af er) (hE : er = 0 ∧ fits c = true ∧ LiveIs c ah af ∨ er = 4 ∧ fits c = false ∧ ah = [] ∧ af = []) :
    Calls Try.prog 40 #[.agg (c.vals A cap), .slice B l.length capB] w (RightOut w (rightB c ah af l)) := by
  have HP := Aside0.mk (Rf.init hC)
  have HROW := Aside0.mk hB
  have hs := hC.small
  have HS := Aside0.mk hS
  have HN := Aside0.mk (rnamed_calls c A cap)
  have HCR := Aside0.mk (fun w h => rcross_calls c A cap w h hS hE)
  clear hC hB hS
  rcases hE with ⟨rfl, hf, hl⟩ | ⟨rfl, hf, rfl, rfl⟩
  · have HF := Aside0.mk hf
    have HLI := Aside0.mk hl
    unfold NamedOut at HN
    unfold CrossOut at HCR
    rw [hf] at HN HCR
    simp only [if_true] at HN HCR
    have hh := fits_head hf
    have hc60 := hh.2.1
    clear hh
    by_cases hcl : (l.length : Int) = c.cells
    · have hclb : ((l.length : Int) != c.cells) = false := by simp [hcl]
      have HCL := Aside0.mk hcl
      have HL60 := Aside0.mk (show l.length ≤ 60 by omega)
      clear hcl hf hl hc60
      obtain ⟨nm, hnm⟩ : ∃ nm, namedN c c.body.length = nm := ⟨_, rfl⟩
      obtain ⟨cr, hcr⟩ : ∃ cr, crossS c af c.body.length = cr := ⟨_, rfl⟩
      have HNM := Aside0.mk hnm
      have HCRS := Aside0.mk hcr
      rw [hnm] at HN
      rw [hcr] at HCR
      clear hnm hcr
      go_enter Try.func40, Try.ntmps40
      go_wp2_with (first
        | (go_at_call 32; refine (HN.out _ HP.out.code).mono ?_; rintro e w1 ⟨rfl, hb⟩; have H1 := Aside0.mk (HP.out.below hb); have hbx0 := blk_cell H1.out.box 0; have hbx1 := blk_cell H1.out.box 1; have hbx2 := blk_cell H1.out.box 2; have hbx3 := blk_cell H1.out.box 3; clear hb HP)
        | (go_at_call 30; refine (HCR.out _ H1.out.code).mono ?_; rintro e w2 ⟨rfl, hb⟩; have H2 := Aside0.mk (H1.out.below hb); clear hb H1 hbx0 hbx1 hbx2 hbx3 HN HCR))
      go_loopw [9] (fun iv wr => ∃ a : Nat, a ≤ l.length ∧ iv = .int .i64 a ∧ Aside0 (RowsOk c ah af l a) ∧ Aside0 (Rf w wr c A cap)) (fun iv _ => l.length - (intOf iv).toNat)
      case atStart => exact ⟨0, Nat.zero_le _, rfl, ⟨⟨fun j hj => by omega⟩⟩, H2⟩
      case round =>
        obtain ⟨a, hag, rfl, HR, HQ⟩ := hrel
        clear H2
        by_cases hlt : a < l.length
        · obtain ⟨ad, e, hx⟩ := Kd.at_int (Kd.C_below HROW.out HQ.out.bel) (a : Int) (by omega) (by omega)
          subst e
          rw [Int.toNat_natCast] at hx
          obtain ⟨p, hp⟩ : ∃ p, rd l (a : Int) = p := ⟨_, rfl⟩
          rw [hp] at hx
          have HPP := Aside0.mk hp
          clear hp
          have hl60 := HL60.out
          have ha60 : a < 60 := by omega
          clear hl60
          by_cases h1 : p < -1
          · have g1 := decide_eq_true h1
            have HO := Aside0.mk (show rowB c ah af l a = false from by unfold rowB; rw [HPP.out, g1]; rfl)
            clear h1
            go_wp2_with fail
            go_ret
            exact ⟨by rw [right_at hlt HO.out]; rfl, HQ.out.bel⟩
          have g1 := decide_eq_false h1
          by_cases h2 : 65 < p
          · have g2 := decide_eq_true h2
            have HO := Aside0.mk (show rowB c ah af l a = false from by unfold rowB; rw [HPP.out, g2]; simp)
            clear h1 h2
            go_wp2_with fail
            go_ret
            exact ⟨by rw [right_at hlt HO.out]; rfl, HQ.out.bel⟩
          have g2 := decide_eq_false h2
          by_cases h3 : (inB nm (a : Int) && decide (p < 0)) = true
          · have HO := Aside0.mk (show rowB c ah af l a = false from by unfold rowB; rw [HPP.out, HNM.out, h3]; simp)
            rw [Bool.and_eq_true] at h3
            have g3 := h3.2
            have g4 := (inB_one nm a).trans h3.1
            clear h1 h2 h3
            go_wp2_with fail
            go_ret
            exact ⟨by rw [right_at hlt HO.out]; rfl, HQ.out.bel⟩
          replace h3 : (inB nm (a : Int) && decide (p < 0)) = false := by simpa using h3
          by_cases h4 : (inB cr (a : Int) && decide (p < 6)) = true
          · have HO := Aside0.mk (show rowB c ah af l a = false from by unfold rowB; rw [HPP.out, HCRS.out, h4]; simp)
            rw [Bool.and_eq_true] at h4
            have g7 := h4.2
            have g6 := (inB_one cr a).trans h4.1
            cases hbn : inB nm (a : Int) with
            | true =>
              have g4 := (inB_one nm a).trans hbn
              have g5 : decide (p < 0) = false := by rw [hbn, Bool.true_and] at h3; exact h3
              clear h1 h2 h3 h4 hbn
              go_wp2_with fail
              go_ret
              exact ⟨by rw [right_at hlt HO.out]; rfl, HQ.out.bel⟩
            | false =>
              have g4 := (inB_one nm a).trans hbn
              clear h1 h2 h3 h4 hbn
              go_wp2_with fail
              go_ret
              exact ⟨by rw [right_at hlt HO.out]; rfl, HQ.out.bel⟩
          replace h4 : (inB cr (a : Int) && decide (p < 6)) = false := by simpa using h4
          have HONE := Aside0.mk (show OneOk c af l a from ⟨by rw [HPP.out]; exact h1, by rw [HPP.out]; exact h2, by rw [HPP.out, HNM.out]; exact h3, by rw [HPP.out, HCRS.out]; exact h4⟩)
          cases hbn : inB nm (a : Int)
          all_goals cases hbc : inB cr (a : Int)
          all_goals
            have g4 := (inB_one nm a).trans hbn
            have g6 := (inB_one cr a).trans hbc
            first
              | (have g7 : decide (p < 6) = false := by (rw [hbc, Bool.true_and] at h4; exact h4))
              | skip
            first
              | (have g5 : decide (p < 0) = false := by (rw [hbn, Bool.true_and] at h3; exact h3))
              | skip
            clear h1 h2 h3 h4 hbn hbc
            go_wp2_with fail
            go_loopw [10] (fun jv wl => ∃ b : Nat, b ≤ a ∧ jv = .int .i64 b ∧ Aside0 (InnerOk c ah af l a b) ∧ Aside0 (Rf w wl c A cap)) (fun jv _ => a - (intOf jv).toNat)
            case atStart => exact ⟨0, Nat.zero_le _, rfl, ⟨⟨fun j hj => by omega⟩⟩, HQ⟩
            case round =>
              obtain ⟨b, hbg, rfl, HI, HQ2⟩ := hrel
              clear HQ
              by_cases hlb : b < a
              · have hla : b < l.length := by omega
                obtain ⟨ad2, e2, hx2⟩ := Kd.at_int (Kd.C_below HROW.out HQ2.out.bel) (b : Int) (by omega) (by omega)
                cases e2
                rw [Int.toNat_natCast] at hx2
                have hbx0 := blk_cell HQ2.out.box 0
                have hbx1 := blk_cell HQ2.out.box 1
                have hbx2 := blk_cell HQ2.out.box 2
                have hbx3 := blk_cell HQ2.out.box 3
                obtain ⟨q, hq⟩ : ∃ q, rd l (b : Int) = q := ⟨_, rfl⟩
                rw [hq] at hx2
                have HQQ := Aside0.mk hq
                clear hq hx hx2
                have HCC := Aside0.mk (rclash_calls HS.out HF.out HLI.out A cap a b _ HQ2.out.code (by have := HCL.out; omega) (by have := HCL.out; omega) hlb)
                cases hcl : clashB c ah af (a : Int) (b : Int) with
                | true =>
                  rw [hcl] at HCC
                  go_wp2_with (go_at_call 67; refine HCC.out.mono ?_; rintro e w5 ⟨rfl, hb⟩; have HQ3 := Aside0.mk (HQ2.out.below hb); clear hb)
                  obtain ⟨ad3, e3, hy⟩ := Kd.at_int (Kd.C_below HROW.out HQ3.out.bel) (a : Int) (by omega) (by omega)
                  cases e3
                  rw [Int.toNat_natCast, HPP.out] at hy
                  obtain ⟨ad4, e4, hy2⟩ := Kd.at_int (Kd.C_below HROW.out HQ3.out.bel) (b : Int) (by omega) (by omega)
                  cases e4
                  rw [Int.toNat_natCast, HQQ.out] at hy2
                  by_cases hpq : p = q
                  · have HO := Aside0.mk (row_clash (c := c) (ah := ah) (af := af) (l := l) hlb (by rw [HPP.out, HQQ.out, hpq]) hcl)
                    have hpb : (p == q) = true := by simpa using hpq
                    clear hcl hpq
                    go_quiet (fail)
                    go_wp2_with fail
                    go_ret
                    exact ⟨by rw [right_at hlt HO.out]; rfl, (HQ3.out.below (pw_below_drewN (Below.refl _ _) _)).bel⟩
                  · have HNX := Aside0.mk (HI.out.next (b := b) (fun e => absurd (by rw [HPP.out, HQQ.out] at e; exact e) hpq))
                    have hpb : (p == q) = false := by simpa using hpq
                    clear hcl hpq
                    go_quiet (fail)
                    go_wp2_with fail
                    go_roundw
                    case rel => exact ⟨b + 1, by omega, by go_num, HNX, ⟨HQ3.out.below (pw_below_drewN (Below.refl _ _) _)⟩⟩
                    case measure => simp [intOf]; omega
                | false =>
                  rw [hcl] at HCC
                  have HNX := Aside0.mk (HI.out.next (b := b) (fun _ => hcl))
                  clear hcl
                  go_wp2_with (go_at_call 67; refine HCC.out.mono ?_; rintro e w5 ⟨rfl, hb⟩; have HQ3 := Aside0.mk (HQ2.out.below hb); clear hb)
                  go_quiet (fail)
                  go_wp2_with fail
                  go_roundw
                  case rel => exact ⟨b + 1, by omega, by go_num, HNX, ⟨HQ3.out.below (pw_below_drewN (Below.refl _ _) _)⟩⟩
                  case measure => simp [intOf]; omega
              · obtain rfl : b = a := by omega
                go_wp2_with fail
                go_roundw
                case rel => exact ⟨b + 1, by omega, by go_num, ⟨HR.out.next (row_yes HONE.out HI.out)⟩, HQ2⟩
                case measure => simp [intOf]; omega
        · have hae : a = l.length := by omega
          subst hae
          go_wp2_with fail
          go_ret
          exact ⟨by rw [right_all HF.out HCL.out HR.out]; rfl, HQ.out.bel⟩
    · have hclb : ((l.length : Int) != c.cells) = true := by simp [hcl]
      have HO := Aside0.mk (show rightB c ah af l = false from by unfold rightB; rw [decide_eq_false hcl]; simp)
      clear hcl hf hl hc60
      go_enter Try.func40, Try.ntmps40
      go_wp2_with (go_at_call 32; refine (HN.out _ HP.out.code).mono ?_; rintro e w1 ⟨rfl, hb⟩; have H1 := Aside0.mk (HP.out.below hb); have hbx0 := blk_cell H1.out.box 0; clear hb HP)
      go_ret
      exact ⟨by rw [HO.out]; rfl, H1.out.bel⟩
  · unfold NamedOut at HN
    rw [hf] at HN
    have HO := Aside0.mk (show rightB c [] [] l = false from by unfold rightB; rw [hf]; rfl)
    clear hf
    go_enter Try.func40, Try.ntmps40
    go_wp2_with (go_at_call 32; refine (HN.out _ HP.out.code).mono ?_; rintro e w1 ⟨rfl, hb⟩; have H1 := Aside0.mk (HP.out.below hb); clear hb HP)
    go_ret
    exact ⟨by rw [HO.out]; rfl, H1.out.bel⟩
end Go.Proofs.Ytdcmeefeinppnaa.RefE
namespace Go.Proofs.Ytdcmeefeinppnaa.RefE
open Go.RowKit Go.Proofs.YtdcmeefeinppnaaW.PrintWords Go.Proofs.YtdcmeefeinppnaaW.PrintLast Go.Proofs.YtdcmeefeinppnaaW.PrintMore Go.Proofs.Ytdcmeefeinppnaa.Mem Go.Proofs.Ytdcmeefeinppnaa.Ir Go.Proofs.Ytdcmeefeinppnaa.Live Go.Proofs.Ytdcmeefeinppnaa.Rsem
open Go.Proofs.Ytdcmeefeinppnaa.Check
open Uses (uses infoInt)
set_option linter.unusedVariables false
set_option linter.unusedSimpArgs false

structure Ov2 (w W : World) (c : Cod) (A : Option Addr) (cap : Nat) (v : Value) (L : List Ir) : Prop where
  o : Ov w W c A cap (w.heap.size + 2) v L
  rb : W.heap[w.heap.size + 1]? = some (.cells #[.int .i64 0, .int .i64 0, .slice none 0 0, .int .i64 0] 24 (0, 0))
section
variable {w W W1 : World} {c : Cod} {A : Option Addr} {cap : Nat} {v v1 : Value} {L L1 : List Ir}
theorem Ov2.below (h : Ov2 w W c A cap v L) (hb : Below W.heap.size W W1) : Ov2 w W1 c A cap v L := ⟨h.o.below hb, blk_below h.rb hb⟩
theorem Ov2.push (h : Ov2 w W c A cap v L) (hg : W.grownBy W1 v.ownBlock) (hr : kIr.R 38 W1 (w.heap.size + 2 + 1) (fun _ => True) v1 L1) : Ov2 w (W1.setCell ⟨w.heap.size + 2, 2, none⟩ v1) c A cap v1 L1 := by
  have hb : ∀ k, v.ownBlock = some k → w.heap.size + 2 + 1 ≤ k := fun k hk => Kd.R_base h.o.row k hk
  exact ⟨h.o.push hg hr, blk_far (blk_grown h.rb hg (fun e => by have := hb _ e.symm; omega)) (by show w.heap.size + 1 ≠ w.heap.size + 2; omega) _⟩
theorem ov2_init (w : World) (c : Cod) (A : Option Addr) (cap : Nat) : Ov2 w (((w.alloc (.cells (c.vals A cap) 24)).alloc (.cells #[.int .i64 0, .int .i64 0, .slice none 0 0, .int .i64 0] 24)).alloc (.cells #[.int .i64 66, .int .i64 c.params, .slice none 0 0, .int .i64 c.labels] 24)) c A cap (.slice none 0 0) [] := by
  have h1 := blk_new w (.cells (c.vals A cap) 24)
  have h2 := blk_new (w.alloc (.cells (c.vals A cap) 24)) (.cells #[.int .i64 0, .int .i64 0, .slice none 0 0, .int .i64 0] 24)
  have h := ov_init (c := c) (A := A) (cap := cap) (below_alloc (below_alloc (Below.refl w.heap.size w) (.cells (c.vals A cap) 24)) (.cells #[.int .i64 0, .int .i64 0, .slice none 0 0, .int .i64 0] 24)) (blk_alloc h1 _)
  have e : ((w.alloc (.cells (c.vals A cap) 24)).alloc (.cells #[.int .i64 0, .int .i64 0, .slice none 0 0, .int .i64 0] 24)).heap.size = w.heap.size + 2 := by simp
  rw [e] at h
  refine ⟨h, blk_alloc ?_ _⟩
  simpa using h2
theorem kir_far {W : World} {base : Nat} {v : Value} {L : List Ir} (h : kIr.R 38 W base (fun _ => True) v L) (p : Addr) (hp : p.block < base) (u : Value) : kIr.R 38 (W.setCell p u) base (fun _ => True) v L :=
  Kd.R_mono (Kd.R_far (p := p) (Kd.R_bound h) (fun k hk => by have := hk.2.1; show k ≠ p.block; omega) u) (fun _ _ => trivial)
theorem Ov2.ret (h : Ov2 w W c A cap v L) :
    kIr.R 38 ((((W.setCell ⟨w.heap.size + 1, 0, none⟩ (.int .i64 66)).setCell ⟨w.heap.size + 1, 1, none⟩ (.int .i64 c.params)).setCell ⟨w.heap.size + 1, 2, none⟩ v).setCell ⟨w.heap.size + 1, 3, none⟩ (.int .i64 c.labels)) (w.heap.size + 1) (fun _ => True) v L ∧
    Below w.heap.size w ((((W.setCell ⟨w.heap.size + 1, 0, none⟩ (.int .i64 66)).setCell ⟨w.heap.size + 1, 1, none⟩ (.int .i64 c.params)).setCell ⟨w.heap.size + 1, 2, none⟩ v).setCell ⟨w.heap.size + 1, 3, none⟩ (.int .i64 c.labels)) ∧
    ((((W.setCell ⟨w.heap.size + 1, 0, none⟩ (.int .i64 66)).setCell ⟨w.heap.size + 1, 1, none⟩ (.int .i64 c.params)).setCell ⟨w.heap.size + 1, 2, none⟩ v).setCell ⟨w.heap.size + 1, 3, none⟩ (.int .i64 c.labels)).heap[w.heap.size + 1]? = some (.cells #[.int .i64 66, .int .i64 c.params, v, .int .i64 c.labels] 24 (0, 0)) := by
  refine ⟨Kd.R_lower (kir_far (kir_far (kir_far (kir_far h.o.row _ ?_ _) _ ?_ _) _ ?_ _) _ ?_ _) (by omega), (((h.o.bel.setCell ?_ _).setCell ?_ _).setCell ?_ _).setCell ?_ _, ?_⟩
  all_goals first | (show w.heap.size + 1 < w.heap.size + 2 + 1; omega) | (show w.heap.size ≤ w.heap.size + 1; omega) | skip
  have h1 := blk_set (blk_set (blk_set (blk_set h.rb 0 (.int .i64 66)) 1 (.int .i64 c.params)) 2 v) 3 (.int .i64 c.labels)
  simpa using h1
end
def RenOut (w : World) (c : Cod) (l : List Int) (e : Ending) (w' : World) : Prop :=
  ∃ A6 n6 c6, e = .returned (.agg #[.int .i64 66, .int .i64 c.params, .slice A6 n6 c6, .int .i64 c.labels]) ∧ kIr.R 38 w' (w.heap.size + 1) (fun _ => True) (.slice A6 n6 c6) (c.body.map (ren (fun j => rd l j))) ∧ Below w.heap.size w w'
set_option maxHeartbeats 16000000 in
set_option maxRecDepth 100000 in
theorem renamed_calls (c : Cod) (A : Option Addr) (cap : Nat) (l : List Int) (B : Option Addr) (capB : Nat) (w : World) (hC : CodeAt w c A cap) (hB : (Kd.int .i64).C w B l.length l) {ah af : List Int} (hri : RightIs c ah af l) (hR : fitsR c c.cells = true) :
    Calls Try.prog 66 #[.agg (c.vals A cap), .slice B l.length capB] w (RenOut w c l) := by
  have HRI := Aside0.mk hri
  have HC := Aside0.mk hC
  have HRB := Aside0.mk hB
  have hsm := hC.small
  have hh := fits_head HRI.out.fit
  have hl60 : l.length ≤ 60 := by have := HRI.out.len; omega
  have HR := Aside0.mk hR
  have HO := Aside0.mk (ov2_init w c A cap)
  clear hC hB hri hh hR
  go_enter Try.func66, Try.ntmps66
  go_wp2_with fail
  go_loopw [6] (fun iv wr => ∃ k : Nat, k ≤ c.body.length ∧ iv = .int .i64 k ∧ Aside0 (∃ v, Ov2 w wr c A cap v ((c.body.take k).map (ren (fun j => rd l j))))) (fun iv _ => c.body.length - (intOf iv).toNat)
  case atStart => exact ⟨0, Nat.zero_le _, rfl, ⟨⟨_, HO.out⟩⟩⟩
  case round =>
    obtain ⟨k, hk, rfl, HQ0⟩ := hrel
    clear HO
    by_cases hlt : k < c.body.length
    · obtain ⟨v0, hv0⟩ := HQ0.out
      clear HQ0
      obtain ⟨A0, c0, e0⟩ := Kd.R_slice hv0.o.row
      subst e0
      have HQ := Aside0.mk hv0
      have hbc2 := blk_cell hv0.o.box 2
      clear hv0
      obtain ⟨adc, ec, hx0, hx1, hx2, hx3, hx4, hx5, hx6⟩ := at_ir (Kd.C_below HC.out.row HQ.out.o.bel) k hlt
      subst ec
      have HOK := Aside0.mk (okR_at HR.out hlt)
      have HU := Aside0.mk (fun k hk => HRI.out.use hlt (k := k) hk)
      have HDS := Aside0.mk (fun h0 => HRI.out.dst hlt h0)
      have HDR := Aside0.mk (okR_dst HOK.out)
      have HTS := Aside0.mk (take_succ hlt (fun j => rd l j))
      obtain ⟨x, hx⟩ : ∃ x, atIr c.body k = x := ⟨_, rfl⟩
      rw [hx] at hx0 hx1 hx2 hx3 hx4 hx5 hx6 HOK HU HDS HDR HTS
      clear hx
      obtain ⟨op, dst, a, b, cc, n, m⟩ := x
      have hkinds := kinds_of HOK.out
      have hwl : w.heap.size ≤ wr.heap.size := HQ.out.o.bel.size
      have hbl : w.heap.size + 2 < wr.heap.size := blk_lt HQ.out.o.ov
      have hsz : ((c.body.take k).map (ren (fun j => rd l j))).length ≤ 90000 := by rw [List.length_map, List.length_take]; omega
      obtain ⟨L0, hL0⟩ : ∃ L0, (c.body.take k).map (ren (fun j => rd l j)) = L0 := ⟨_, rfl⟩
      rw [hL0] at hsz HQ HTS
      clear hL0
      simp only at hkinds
      rcases hkinds with rfl | rfl | rfl | rfl | rfl | rfl | rfl | rfl | rfl | rfl
      · have hraw : Uses.raw 1 a b cc = [] := by simp [Uses.raw]
        have hus := uses_nil (op := 1) (a := a) (b := b) (c := cc) hraw
        have hD := Aside0.mk (show defs ⟨1, dst, a, b, cc, n, m⟩ = dst from by simp [defs])
        have hd0 : 0 ≤ dst := (HDR.out (by simp)).1
        have hdl : dst < l.length := by have h := HDS.out (by show 0 ≤ defs ⟨1, dst, a, b, cc, n, m⟩; rw [hD.out]; exact hd0); rw [show defs (Ir.mk 1 dst a b cc n m) = dst from hD.out] at h; exact h.1
        obtain ⟨bB, oB, eB, hbB, hcB⟩ := row_addr HRB.out (by omega)
        subst eB
        have hbW : bB < wr.heap.size := by omega
        have HCB := Aside0.mk hcB
        clear hcB
        have HRN := Aside0.mk (show ren (fun j => rd l j) ⟨1, dst, a, b, cc, n, m⟩ = ⟨1, rd l dst, a, b, cc, n, m⟩ from by simp [ren, defs, Uses.raw, hd0])
        obtain ⟨us, hu⟩ : ∃ us, uses 1 a b cc = us := ⟨_, rfl⟩
        rw [hu] at hus
        have HUS := Aside0.mk hu
        subst hus
        clear hu hraw
        go_wp2_with (first
          | (go_at_call 44; refine (ruses_calls _ _ _ _ _ _ _ _).mono ?_; rw [HUS.out]; rintro e w3 ⟨v3, rfl, hR, hb⟩; obtain ⟨A3, c3, e3⟩ := Kd.R_slice hR; subst e3; have HB3 := Aside0.mk ((below_alloc (Below.refl wr.heap.size wr) (.cells (Ir.vals ⟨1, dst, a, b, cc, n, m⟩) 38)).trans (hb.mono (by simp))); have hxb := blk_below (blk_new wr (.cells (Ir.vals ⟨1, dst, a, b, cc, n, m⟩) 38)) hb; have HX3 := Aside0.mk hxb; have hy0 := blk_cell hxb 0; have hy1 := blk_cell hxb 1; have hy2 := blk_cell hxb 2; have hy3 := blk_cell hxb 3; have hy4 := blk_cell hxb 4; have hy5 := blk_cell hxb 5; have hy6 := blk_cell hxb 6; clear hR hb hxb)
          | (go_at_call 42; refine (rdefs_calls' hD.out _).mono ?_; rintro e w4 ⟨rfl, hb⟩; have HB4 := Aside0.mk (HB3.out.trans (hb.mono HB3.out.size)); have hxb := blk_below HX3.out hb; have hz0 := blk_cell hxb 0; have hz1 := blk_cell hxb 1; have hz2 := blk_cell hxb 2; have hz3 := blk_cell hxb 3; have hz4 := blk_cell hxb 4; have hz5 := blk_cell hxb 5; have hz6 := blk_cell hxb 6; have hf1 := blk_frozen hxb 1; have hf2 := blk_frozen hxb 2; have hf3 := blk_frozen hxb 3; have hf4 := blk_frozen hxb 4; have hldst := (HB4.out.cell (p := ⟨bB, oB + dst.toNat, none⟩) hbW).trans ((HQ.out.o.bel.cell (p := ⟨bB, oB + dst.toNat, none⟩) hbB).trans (HCB.out dst (by omega) (by omega))); have H5 := Aside0.mk (HQ.out.below (show Below wr.heap.size wr (World.setCell w4 ⟨wr.heap.size, 1, none⟩ (.int .i64 (rd l dst))) from (Below.setCell (p := ⟨wr.heap.size, 1, none⟩) HB4.out (Nat.le_refl _) (.int .i64 (rd l dst))))); have HSZW := Aside0.mk (show (World.setCell w4 ⟨wr.heap.size, 1, none⟩ (.int .i64 (rd l dst))).heap.size = w4.heap.size from by simp); have hq0 := blk_cell H5.out.o.ov 2; have hq1 := blk_frozen H5.out.o.ov 2; clear hb hxb hy0 hy1 hy2 hy3 hy4 hy5 hy6 hx0 hx1 hx2 hx3 hx4 hx5 hx6)
          | ((with_reducible refine gate_builtin (b := .append) (xs := #[.tmp 82, .tmp 84]) rfl ?_); at_builtin; refine Kd.R_append kIr (w0 := (World.setCell w4 ⟨wr.heap.size, 1, none⟩ (.int .i64 (rd l dst)))) (w.heap.size + 2 + 1) rfl (.tmp 82) (.tmp 84) 22 38 (.agg (zIr.vals)) 56 rfl Try.underlying22 infoIr rfl (by decide) (by omega) (.slice A0 L0.length c0) L0 (Ir.mk (1) (rd l dst) (a) (b) (cc) (n) (m)) [.int .i64 (1), .int .i64 (rd l dst), .int .i64 (a), .int .i64 (b), .int .i64 (cc), .int .i64 (n), .int .i64 (m)] (fun _ => True) (fun _ => False) rfl (by first | rfl | (rw [HSZW.out]; rfl)) (ir_M (Ir.mk (1) (rd l dst) (a) (b) (cc) (n) (m))) (fun _ h => h.elim) (fun _ _ => trivial) H5.out.o.row (Below.refl _ _) (by have := blk_lt H5.out.o.ov; omega) (by omega) ?_; intro v6 w6 hO hB hg hat; obtain ⟨A6, c6, e6⟩ := Kd.R_slice hO; subst e6; have H6 := Aside0.mk (H5.out.push hg hO); have hq2 := blk_cell (blk_grown H5.out.o.ov hg (fun e => by have := Kd.R_base H5.out.o.row _ e.symm; omega)) 2; have hqf := blk_frozen (blk_grown H5.out.o.ov hg (fun e => by have := Kd.R_base H5.out.o.row _ e.symm; omega)) 2; clear hO hB hg hat))
        go_roundw
        case rel => exact ⟨k + 1, by omega, by go_num, ⟨⟨_, by rw [HTS.out, HRN.out]; have h := H6.out; simp only [List.length_append, List.length_singleton] at h; exact h⟩⟩⟩
        case measure => simp [intOf]; omega
      · have hraw : Uses.raw 2 a b cc = [a] := by simp [Uses.raw]
        have hus := uses_pos (op := 2) (a := a) (b := b) (c := cc) (by rw [hraw]; simp)
        have hur : ∀ j, j ∈ [a] → 0 ≤ j ∧ j < l.length ∧ 0 ≤ rd l j ∧ rd l j < 66 := fun j hj => HU.out j (by show j ∈ Uses.raw 2 a b cc; rw [hraw]; exact hj)
        have hD := Aside0.mk (show defs ⟨2, dst, a, b, cc, n, m⟩ = dst from by simp [defs])
        have hd0 : 0 ≤ dst := (HDR.out (by simp)).1
        have hdl : dst < l.length := by have h := HDS.out (by show 0 ≤ defs ⟨2, dst, a, b, cc, n, m⟩; rw [hD.out]; exact hd0); rw [show defs (Ir.mk 2 dst a b cc n m) = dst from hD.out] at h; exact h.1
        have ha0 : 0 ≤ a := (hur a (by simp)).1
        have hal : a < l.length := (hur a (by simp)).2.1
        obtain ⟨bB, oB, eB, hbB, hcB⟩ := row_addr HRB.out (by omega)
        subst eB
        have hbW : bB < wr.heap.size := by omega
        have HCB := Aside0.mk hcB
        clear hcB
        have HRN := Aside0.mk (show ren (fun j => rd l j) ⟨2, dst, a, b, cc, n, m⟩ = ⟨2, rd l dst, rd l a, b, cc, n, m⟩ from by simp [ren, defs, Uses.raw, hd0])
        obtain ⟨us, hu⟩ : ∃ us, uses 2 a b cc = us := ⟨_, rfl⟩
        rw [hu] at hus
        have HUS := Aside0.mk hu
        have husI : (0 : Int) < (us.length : Int) := by omega
        clear hu hraw hur
        go_wp2_with (first
          | (go_at_call 44; refine (ruses_calls _ _ _ _ _ _ _ _).mono ?_; rw [HUS.out]; rintro e w3 ⟨v3, rfl, hR, hb⟩; obtain ⟨A3, c3, e3⟩ := Kd.R_slice hR; subst e3; have HB3 := Aside0.mk ((below_alloc (Below.refl wr.heap.size wr) (.cells (Ir.vals ⟨2, dst, a, b, cc, n, m⟩) 38)).trans (hb.mono (by simp))); have hxb := blk_below (blk_new wr (.cells (Ir.vals ⟨2, dst, a, b, cc, n, m⟩) 38)) hb; have HX3 := Aside0.mk hxb; have hy0 := blk_cell hxb 0; have hy1 := blk_cell hxb 1; have hy2 := blk_cell hxb 2; have hy3 := blk_cell hxb 3; have hy4 := blk_cell hxb 4; have hy5 := blk_cell hxb 5; have hy6 := blk_cell hxb 6; clear hR hb hxb)
          | (go_at_call 42; refine (rdefs_calls' hD.out _).mono ?_; rintro e w4 ⟨rfl, hb⟩; have HB4 := Aside0.mk (HB3.out.trans (hb.mono HB3.out.size)); have hxb := blk_below HX3.out hb; have hz0 := blk_cell hxb 0; have hz1 := blk_cell hxb 1; have hz2 := blk_cell hxb 2; have hz3 := blk_cell hxb 3; have hz4 := blk_cell hxb 4; have hz5 := blk_cell hxb 5; have hz6 := blk_cell hxb 6; have hf1 := blk_frozen hxb 1; have hf2 := blk_frozen hxb 2; have hf3 := blk_frozen hxb 3; have hf4 := blk_frozen hxb 4; have hldst := (HB4.out.cell (p := ⟨bB, oB + dst.toNat, none⟩) hbW).trans ((HQ.out.o.bel.cell (p := ⟨bB, oB + dst.toNat, none⟩) hbB).trans (HCB.out dst (by omega) (by omega))); have hla := (HB4.out.cell (p := ⟨bB, oB + a.toNat, none⟩) hbW).trans ((HQ.out.o.bel.cell (p := ⟨bB, oB + a.toNat, none⟩) hbB).trans (HCB.out a (by omega) (by omega))); have H5 := Aside0.mk (HQ.out.below (show Below wr.heap.size wr (World.setCell (World.setCell w4 ⟨wr.heap.size, 1, none⟩ (.int .i64 (rd l dst))) ⟨wr.heap.size, 2, none⟩ (.int .i64 (rd l a))) from (Below.setCell (p := ⟨wr.heap.size, 2, none⟩) (Below.setCell (p := ⟨wr.heap.size, 1, none⟩) HB4.out (Nat.le_refl _) (.int .i64 (rd l dst))) (Nat.le_refl _) (.int .i64 (rd l a))))); have HSZW := Aside0.mk (show (World.setCell (World.setCell w4 ⟨wr.heap.size, 1, none⟩ (.int .i64 (rd l dst))) ⟨wr.heap.size, 2, none⟩ (.int .i64 (rd l a))).heap.size = w4.heap.size from by simp); have hq0 := blk_cell H5.out.o.ov 2; have hq1 := blk_frozen H5.out.o.ov 2; clear hb hxb hy0 hy1 hy2 hy3 hy4 hy5 hy6 hx0 hx1 hx2 hx3 hx4 hx5 hx6)
          | ((with_reducible refine gate_builtin (b := .append) (xs := #[.tmp 82, .tmp 84]) rfl ?_); at_builtin; refine Kd.R_append kIr (w0 := (World.setCell (World.setCell w4 ⟨wr.heap.size, 1, none⟩ (.int .i64 (rd l dst))) ⟨wr.heap.size, 2, none⟩ (.int .i64 (rd l a)))) (w.heap.size + 2 + 1) rfl (.tmp 82) (.tmp 84) 22 38 (.agg (zIr.vals)) 56 rfl Try.underlying22 infoIr rfl (by decide) (by omega) (.slice A0 L0.length c0) L0 (Ir.mk (2) (rd l dst) (rd l a) (b) (cc) (n) (m)) [.int .i64 (2), .int .i64 (rd l dst), .int .i64 (rd l a), .int .i64 (b), .int .i64 (cc), .int .i64 (n), .int .i64 (m)] (fun _ => True) (fun _ => False) rfl (by first | rfl | (rw [HSZW.out]; rfl)) (ir_M (Ir.mk (2) (rd l dst) (rd l a) (b) (cc) (n) (m))) (fun _ h => h.elim) (fun _ _ => trivial) H5.out.o.row (Below.refl _ _) (by have := blk_lt H5.out.o.ov; omega) (by omega) ?_; intro v6 w6 hO hB hg hat; obtain ⟨A6, c6, e6⟩ := Kd.R_slice hO; subst e6; have H6 := Aside0.mk (H5.out.push hg hO); have hq2 := blk_cell (blk_grown H5.out.o.ov hg (fun e => by have := Kd.R_base H5.out.o.row _ e.symm; omega)) 2; have hqf := blk_frozen (blk_grown H5.out.o.ov hg (fun e => by have := Kd.R_base H5.out.o.row _ e.symm; omega)) 2; clear hO hB hg hat))
        go_roundw
        case rel => exact ⟨k + 1, by omega, by go_num, ⟨⟨_, by rw [HTS.out, HRN.out]; have h := H6.out; simp only [List.length_append, List.length_singleton] at h; exact h⟩⟩⟩
        case measure => simp [intOf]; omega
      · have hraw : Uses.raw 3 a b cc = [b, a] := by simp [Uses.raw]
        have hus := uses_pos (op := 3) (a := a) (b := b) (c := cc) (by rw [hraw]; simp)
        have hur : ∀ j, j ∈ [b, a] → 0 ≤ j ∧ j < l.length ∧ 0 ≤ rd l j ∧ rd l j < 66 := fun j hj => HU.out j (by show j ∈ Uses.raw 3 a b cc; rw [hraw]; exact hj)
        have hD := Aside0.mk (show defs ⟨3, dst, a, b, cc, n, m⟩ = dst from by simp [defs])
        have hd0 : 0 ≤ dst := (HDR.out (by simp)).1
        have hdl : dst < l.length := by have h := HDS.out (by show 0 ≤ defs ⟨3, dst, a, b, cc, n, m⟩; rw [hD.out]; exact hd0); rw [show defs (Ir.mk 3 dst a b cc n m) = dst from hD.out] at h; exact h.1
        have ha0 : 0 ≤ a := (hur a (by simp)).1
        have hal : a < l.length := (hur a (by simp)).2.1
        have hb0 : 0 ≤ b := (hur b (by simp)).1
        have hbl : b < l.length := (hur b (by simp)).2.1
        obtain ⟨bB, oB, eB, hbB, hcB⟩ := row_addr HRB.out (by omega)
        subst eB
        have hbW : bB < wr.heap.size := by omega
        have HCB := Aside0.mk hcB
        clear hcB
        have HRN := Aside0.mk (show ren (fun j => rd l j) ⟨3, dst, a, b, cc, n, m⟩ = ⟨3, rd l dst, rd l a, rd l b, cc, n, m⟩ from by simp [ren, defs, Uses.raw, hd0])
        obtain ⟨us, hu⟩ : ∃ us, uses 3 a b cc = us := ⟨_, rfl⟩
        rw [hu] at hus
        have HUS := Aside0.mk hu
        have husI : (0 : Int) < (us.length : Int) := by omega
        clear hu hraw hur
        go_wp2_with (first
          | (go_at_call 44; refine (ruses_calls _ _ _ _ _ _ _ _).mono ?_; rw [HUS.out]; rintro e w3 ⟨v3, rfl, hR, hb⟩; obtain ⟨A3, c3, e3⟩ := Kd.R_slice hR; subst e3; have HB3 := Aside0.mk ((below_alloc (Below.refl wr.heap.size wr) (.cells (Ir.vals ⟨3, dst, a, b, cc, n, m⟩) 38)).trans (hb.mono (by simp))); have hxb := blk_below (blk_new wr (.cells (Ir.vals ⟨3, dst, a, b, cc, n, m⟩) 38)) hb; have HX3 := Aside0.mk hxb; have hy0 := blk_cell hxb 0; have hy1 := blk_cell hxb 1; have hy2 := blk_cell hxb 2; have hy3 := blk_cell hxb 3; have hy4 := blk_cell hxb 4; have hy5 := blk_cell hxb 5; have hy6 := blk_cell hxb 6; clear hR hb hxb)
          | (go_at_call 42; refine (rdefs_calls' hD.out _).mono ?_; rintro e w4 ⟨rfl, hb⟩; have HB4 := Aside0.mk (HB3.out.trans (hb.mono HB3.out.size)); have hxb := blk_below HX3.out hb; have hz0 := blk_cell hxb 0; have hz1 := blk_cell hxb 1; have hz2 := blk_cell hxb 2; have hz3 := blk_cell hxb 3; have hz4 := blk_cell hxb 4; have hz5 := blk_cell hxb 5; have hz6 := blk_cell hxb 6; have hf1 := blk_frozen hxb 1; have hf2 := blk_frozen hxb 2; have hf3 := blk_frozen hxb 3; have hf4 := blk_frozen hxb 4; have hldst := (HB4.out.cell (p := ⟨bB, oB + dst.toNat, none⟩) hbW).trans ((HQ.out.o.bel.cell (p := ⟨bB, oB + dst.toNat, none⟩) hbB).trans (HCB.out dst (by omega) (by omega))); have hla := (HB4.out.cell (p := ⟨bB, oB + a.toNat, none⟩) hbW).trans ((HQ.out.o.bel.cell (p := ⟨bB, oB + a.toNat, none⟩) hbB).trans (HCB.out a (by omega) (by omega))); have hlb := (HB4.out.cell (p := ⟨bB, oB + b.toNat, none⟩) hbW).trans ((HQ.out.o.bel.cell (p := ⟨bB, oB + b.toNat, none⟩) hbB).trans (HCB.out b (by omega) (by omega))); have H5 := Aside0.mk (HQ.out.below (show Below wr.heap.size wr (World.setCell (World.setCell (World.setCell w4 ⟨wr.heap.size, 1, none⟩ (.int .i64 (rd l dst))) ⟨wr.heap.size, 2, none⟩ (.int .i64 (rd l a))) ⟨wr.heap.size, 3, none⟩ (.int .i64 (rd l b))) from (Below.setCell (p := ⟨wr.heap.size, 3, none⟩) (Below.setCell (p := ⟨wr.heap.size, 2, none⟩) (Below.setCell (p := ⟨wr.heap.size, 1, none⟩) HB4.out (Nat.le_refl _) (.int .i64 (rd l dst))) (Nat.le_refl _) (.int .i64 (rd l a))) (Nat.le_refl _) (.int .i64 (rd l b))))); have HSZW := Aside0.mk (show (World.setCell (World.setCell (World.setCell w4 ⟨wr.heap.size, 1, none⟩ (.int .i64 (rd l dst))) ⟨wr.heap.size, 2, none⟩ (.int .i64 (rd l a))) ⟨wr.heap.size, 3, none⟩ (.int .i64 (rd l b))).heap.size = w4.heap.size from by simp); have hq0 := blk_cell H5.out.o.ov 2; have hq1 := blk_frozen H5.out.o.ov 2; clear hb hxb hy0 hy1 hy2 hy3 hy4 hy5 hy6 hx0 hx1 hx2 hx3 hx4 hx5 hx6)
          | ((with_reducible refine gate_builtin (b := .append) (xs := #[.tmp 82, .tmp 84]) rfl ?_); at_builtin; refine Kd.R_append kIr (w0 := (World.setCell (World.setCell (World.setCell w4 ⟨wr.heap.size, 1, none⟩ (.int .i64 (rd l dst))) ⟨wr.heap.size, 2, none⟩ (.int .i64 (rd l a))) ⟨wr.heap.size, 3, none⟩ (.int .i64 (rd l b)))) (w.heap.size + 2 + 1) rfl (.tmp 82) (.tmp 84) 22 38 (.agg (zIr.vals)) 56 rfl Try.underlying22 infoIr rfl (by decide) (by omega) (.slice A0 L0.length c0) L0 (Ir.mk (3) (rd l dst) (rd l a) (rd l b) (cc) (n) (m)) [.int .i64 (3), .int .i64 (rd l dst), .int .i64 (rd l a), .int .i64 (rd l b), .int .i64 (cc), .int .i64 (n), .int .i64 (m)] (fun _ => True) (fun _ => False) rfl (by first | rfl | (rw [HSZW.out]; rfl)) (ir_M (Ir.mk (3) (rd l dst) (rd l a) (rd l b) (cc) (n) (m))) (fun _ h => h.elim) (fun _ _ => trivial) H5.out.o.row (Below.refl _ _) (by have := blk_lt H5.out.o.ov; omega) (by omega) ?_; intro v6 w6 hO hB hg hat; obtain ⟨A6, c6, e6⟩ := Kd.R_slice hO; subst e6; have H6 := Aside0.mk (H5.out.push hg hO); have hq2 := blk_cell (blk_grown H5.out.o.ov hg (fun e => by have := Kd.R_base H5.out.o.row _ e.symm; omega)) 2; have hqf := blk_frozen (blk_grown H5.out.o.ov hg (fun e => by have := Kd.R_base H5.out.o.row _ e.symm; omega)) 2; clear hO hB hg hat))
        go_roundw
        case rel => exact ⟨k + 1, by omega, by go_num, ⟨⟨_, by rw [HTS.out, HRN.out]; have h := H6.out; simp only [List.length_append, List.length_singleton] at h; exact h⟩⟩⟩
        case measure => simp [intOf]; omega
      · have hraw : Uses.raw 4 a b cc = [cc, b, a] := by simp [Uses.raw]
        have hus := uses_pos (op := 4) (a := a) (b := b) (c := cc) (by rw [hraw]; simp)
        have hur : ∀ j, j ∈ [cc, b, a] → 0 ≤ j ∧ j < l.length ∧ 0 ≤ rd l j ∧ rd l j < 66 := fun j hj => HU.out j (by show j ∈ Uses.raw 4 a b cc; rw [hraw]; exact hj)
        have hD := Aside0.mk (show defs ⟨4, dst, a, b, cc, n, m⟩ = dst from by simp [defs])
        have hd0 : 0 ≤ dst := (HDR.out (by simp)).1
        have hdl : dst < l.length := by have h := HDS.out (by show 0 ≤ defs ⟨4, dst, a, b, cc, n, m⟩; rw [hD.out]; exact hd0); rw [show defs (Ir.mk 4 dst a b cc n m) = dst from hD.out] at h; exact h.1
        have ha0 : 0 ≤ a := (hur a (by simp)).1
        have hal : a < l.length := (hur a (by simp)).2.1
        have hb0 : 0 ≤ b := (hur b (by simp)).1
        have hbl : b < l.length := (hur b (by simp)).2.1
        have hcc0 : 0 ≤ cc := (hur cc (by simp)).1
        have hccl : cc < l.length := (hur cc (by simp)).2.1
        obtain ⟨bB, oB, eB, hbB, hcB⟩ := row_addr HRB.out (by omega)
        subst eB
        have hbW : bB < wr.heap.size := by omega
        have HCB := Aside0.mk hcB
        clear hcB
        have HRN := Aside0.mk (show ren (fun j => rd l j) ⟨4, dst, a, b, cc, n, m⟩ = ⟨4, rd l dst, rd l a, rd l b, rd l cc, n, m⟩ from by simp [ren, defs, Uses.raw, hd0])
        obtain ⟨us, hu⟩ : ∃ us, uses 4 a b cc = us := ⟨_, rfl⟩
        rw [hu] at hus
        have HUS := Aside0.mk hu
        have husI : (0 : Int) < (us.length : Int) := by omega
        clear hu hraw hur
        go_wp2_with (first
          | (go_at_call 44; refine (ruses_calls _ _ _ _ _ _ _ _).mono ?_; rw [HUS.out]; rintro e w3 ⟨v3, rfl, hR, hb⟩; obtain ⟨A3, c3, e3⟩ := Kd.R_slice hR; subst e3; have HB3 := Aside0.mk ((below_alloc (Below.refl wr.heap.size wr) (.cells (Ir.vals ⟨4, dst, a, b, cc, n, m⟩) 38)).trans (hb.mono (by simp))); have hxb := blk_below (blk_new wr (.cells (Ir.vals ⟨4, dst, a, b, cc, n, m⟩) 38)) hb; have HX3 := Aside0.mk hxb; have hy0 := blk_cell hxb 0; have hy1 := blk_cell hxb 1; have hy2 := blk_cell hxb 2; have hy3 := blk_cell hxb 3; have hy4 := blk_cell hxb 4; have hy5 := blk_cell hxb 5; have hy6 := blk_cell hxb 6; clear hR hb hxb)
          | (go_at_call 42; refine (rdefs_calls' hD.out _).mono ?_; rintro e w4 ⟨rfl, hb⟩; have HB4 := Aside0.mk (HB3.out.trans (hb.mono HB3.out.size)); have hxb := blk_below HX3.out hb; have hz0 := blk_cell hxb 0; have hz1 := blk_cell hxb 1; have hz2 := blk_cell hxb 2; have hz3 := blk_cell hxb 3; have hz4 := blk_cell hxb 4; have hz5 := blk_cell hxb 5; have hz6 := blk_cell hxb 6; have hf1 := blk_frozen hxb 1; have hf2 := blk_frozen hxb 2; have hf3 := blk_frozen hxb 3; have hf4 := blk_frozen hxb 4; have hldst := (HB4.out.cell (p := ⟨bB, oB + dst.toNat, none⟩) hbW).trans ((HQ.out.o.bel.cell (p := ⟨bB, oB + dst.toNat, none⟩) hbB).trans (HCB.out dst (by omega) (by omega))); have hla := (HB4.out.cell (p := ⟨bB, oB + a.toNat, none⟩) hbW).trans ((HQ.out.o.bel.cell (p := ⟨bB, oB + a.toNat, none⟩) hbB).trans (HCB.out a (by omega) (by omega))); have hlb := (HB4.out.cell (p := ⟨bB, oB + b.toNat, none⟩) hbW).trans ((HQ.out.o.bel.cell (p := ⟨bB, oB + b.toNat, none⟩) hbB).trans (HCB.out b (by omega) (by omega))); have hlcc := (HB4.out.cell (p := ⟨bB, oB + cc.toNat, none⟩) hbW).trans ((HQ.out.o.bel.cell (p := ⟨bB, oB + cc.toNat, none⟩) hbB).trans (HCB.out cc (by omega) (by omega))); have H5 := Aside0.mk (HQ.out.below (show Below wr.heap.size wr (World.setCell (World.setCell (World.setCell (World.setCell w4 ⟨wr.heap.size, 1, none⟩ (.int .i64 (rd l dst))) ⟨wr.heap.size, 2, none⟩ (.int .i64 (rd l a))) ⟨wr.heap.size, 3, none⟩ (.int .i64 (rd l b))) ⟨wr.heap.size, 4, none⟩ (.int .i64 (rd l cc))) from (Below.setCell (p := ⟨wr.heap.size, 4, none⟩) (Below.setCell (p := ⟨wr.heap.size, 3, none⟩) (Below.setCell (p := ⟨wr.heap.size, 2, none⟩) (Below.setCell (p := ⟨wr.heap.size, 1, none⟩) HB4.out (Nat.le_refl _) (.int .i64 (rd l dst))) (Nat.le_refl _) (.int .i64 (rd l a))) (Nat.le_refl _) (.int .i64 (rd l b))) (Nat.le_refl _) (.int .i64 (rd l cc))))); have HSZW := Aside0.mk (show (World.setCell (World.setCell (World.setCell (World.setCell w4 ⟨wr.heap.size, 1, none⟩ (.int .i64 (rd l dst))) ⟨wr.heap.size, 2, none⟩ (.int .i64 (rd l a))) ⟨wr.heap.size, 3, none⟩ (.int .i64 (rd l b))) ⟨wr.heap.size, 4, none⟩ (.int .i64 (rd l cc))).heap.size = w4.heap.size from by simp); have hq0 := blk_cell H5.out.o.ov 2; have hq1 := blk_frozen H5.out.o.ov 2; clear hb hxb hy0 hy1 hy2 hy3 hy4 hy5 hy6 hx0 hx1 hx2 hx3 hx4 hx5 hx6)
          | ((with_reducible refine gate_builtin (b := .append) (xs := #[.tmp 82, .tmp 84]) rfl ?_); at_builtin; refine Kd.R_append kIr (w0 := (World.setCell (World.setCell (World.setCell (World.setCell w4 ⟨wr.heap.size, 1, none⟩ (.int .i64 (rd l dst))) ⟨wr.heap.size, 2, none⟩ (.int .i64 (rd l a))) ⟨wr.heap.size, 3, none⟩ (.int .i64 (rd l b))) ⟨wr.heap.size, 4, none⟩ (.int .i64 (rd l cc)))) (w.heap.size + 2 + 1) rfl (.tmp 82) (.tmp 84) 22 38 (.agg (zIr.vals)) 56 rfl Try.underlying22 infoIr rfl (by decide) (by omega) (.slice A0 L0.length c0) L0 (Ir.mk (4) (rd l dst) (rd l a) (rd l b) (rd l cc) (n) (m)) [.int .i64 (4), .int .i64 (rd l dst), .int .i64 (rd l a), .int .i64 (rd l b), .int .i64 (rd l cc), .int .i64 (n), .int .i64 (m)] (fun _ => True) (fun _ => False) rfl (by first | rfl | (rw [HSZW.out]; rfl)) (ir_M (Ir.mk (4) (rd l dst) (rd l a) (rd l b) (rd l cc) (n) (m))) (fun _ h => h.elim) (fun _ _ => trivial) H5.out.o.row (Below.refl _ _) (by have := blk_lt H5.out.o.ov; omega) (by omega) ?_; intro v6 w6 hO hB hg hat; obtain ⟨A6, c6, e6⟩ := Kd.R_slice hO; subst e6; have H6 := Aside0.mk (H5.out.push hg hO); have hq2 := blk_cell (blk_grown H5.out.o.ov hg (fun e => by have := Kd.R_base H5.out.o.row _ e.symm; omega)) 2; have hqf := blk_frozen (blk_grown H5.out.o.ov hg (fun e => by have := Kd.R_base H5.out.o.row _ e.symm; omega)) 2; clear hO hB hg hat))
        go_roundw
        case rel => exact ⟨k + 1, by omega, by go_num, ⟨⟨_, by rw [HTS.out, HRN.out]; have h := H6.out; simp only [List.length_append, List.length_singleton] at h; exact h⟩⟩⟩
        case measure => simp [intOf]; omega
      · have hraw : Uses.raw 9 a b cc = [] := by simp [Uses.raw]
        have hus := uses_nil (op := 9) (a := a) (b := b) (c := cc) hraw
        have hD := Aside0.mk (show defs ⟨9, dst, a, b, cc, n, m⟩ = -1 from by simp [defs])
        have HRN := Aside0.mk (show ren (fun j => rd l j) ⟨9, dst, a, b, cc, n, m⟩ = ⟨9, dst, a, b, cc, n, m⟩ from by simp [ren, defs, Uses.raw])
        obtain ⟨us, hu⟩ : ∃ us, uses 9 a b cc = us := ⟨_, rfl⟩
        rw [hu] at hus
        have HUS := Aside0.mk hu
        subst hus
        clear hu hraw
        go_wp2_with (first
          | (go_at_call 44; refine (ruses_calls _ _ _ _ _ _ _ _).mono ?_; rw [HUS.out]; rintro e w3 ⟨v3, rfl, hR, hb⟩; obtain ⟨A3, c3, e3⟩ := Kd.R_slice hR; subst e3; have HB3 := Aside0.mk ((below_alloc (Below.refl wr.heap.size wr) (.cells (Ir.vals ⟨9, dst, a, b, cc, n, m⟩) 38)).trans (hb.mono (by simp))); have hxb := blk_below (blk_new wr (.cells (Ir.vals ⟨9, dst, a, b, cc, n, m⟩) 38)) hb; have HX3 := Aside0.mk hxb; have hy0 := blk_cell hxb 0; have hy1 := blk_cell hxb 1; have hy2 := blk_cell hxb 2; have hy3 := blk_cell hxb 3; have hy4 := blk_cell hxb 4; have hy5 := blk_cell hxb 5; have hy6 := blk_cell hxb 6; clear hR hb hxb)
          | (go_at_call 42; refine (rdefs_calls' hD.out _).mono ?_; rintro e w4 ⟨rfl, hb⟩; have HB4 := Aside0.mk (HB3.out.trans (hb.mono HB3.out.size)); have hxb := blk_below HX3.out hb; have hz0 := blk_cell hxb 0; have hz1 := blk_cell hxb 1; have hz2 := blk_cell hxb 2; have hz3 := blk_cell hxb 3; have hz4 := blk_cell hxb 4; have hz5 := blk_cell hxb 5; have hz6 := blk_cell hxb 6; have hf1 := blk_frozen hxb 1; have hf2 := blk_frozen hxb 2; have hf3 := blk_frozen hxb 3; have hf4 := blk_frozen hxb 4; have H5 := Aside0.mk (HQ.out.below (show Below wr.heap.size wr w4 from HB4.out)); have HSZW := Aside0.mk (show w4.heap.size = w4.heap.size from by simp); have hq0 := blk_cell H5.out.o.ov 2; have hq1 := blk_frozen H5.out.o.ov 2; clear hb hxb hy0 hy1 hy2 hy3 hy4 hy5 hy6 hx0 hx1 hx2 hx3 hx4 hx5 hx6)
          | ((with_reducible refine gate_builtin (b := .append) (xs := #[.tmp 82, .tmp 84]) rfl ?_); at_builtin; refine Kd.R_append kIr (w0 := w4) (w.heap.size + 2 + 1) rfl (.tmp 82) (.tmp 84) 22 38 (.agg (zIr.vals)) 56 rfl Try.underlying22 infoIr rfl (by decide) (by omega) (.slice A0 L0.length c0) L0 (Ir.mk (9) (dst) (a) (b) (cc) (n) (m)) [.int .i64 (9), .int .i64 (dst), .int .i64 (a), .int .i64 (b), .int .i64 (cc), .int .i64 (n), .int .i64 (m)] (fun _ => True) (fun _ => False) rfl (by first | rfl | (rw [HSZW.out]; rfl)) (ir_M (Ir.mk (9) (dst) (a) (b) (cc) (n) (m))) (fun _ h => h.elim) (fun _ _ => trivial) H5.out.o.row (Below.refl _ _) (by have := blk_lt H5.out.o.ov; omega) (by omega) ?_; intro v6 w6 hO hB hg hat; obtain ⟨A6, c6, e6⟩ := Kd.R_slice hO; subst e6; have H6 := Aside0.mk (H5.out.push hg hO); have hq2 := blk_cell (blk_grown H5.out.o.ov hg (fun e => by have := Kd.R_base H5.out.o.row _ e.symm; omega)) 2; have hqf := blk_frozen (blk_grown H5.out.o.ov hg (fun e => by have := Kd.R_base H5.out.o.row _ e.symm; omega)) 2; clear hO hB hg hat))
        go_roundw
        case rel => exact ⟨k + 1, by omega, by go_num, ⟨⟨_, by rw [HTS.out, HRN.out]; have h := H6.out; simp only [List.length_append, List.length_singleton] at h; exact h⟩⟩⟩
        case measure => simp [intOf]; omega
      · have hraw : Uses.raw 10 a b cc = [] := by simp [Uses.raw]
        have hus := uses_nil (op := 10) (a := a) (b := b) (c := cc) hraw
        have hD := Aside0.mk (show defs ⟨10, dst, a, b, cc, n, m⟩ = -1 from by simp [defs])
        have HRN := Aside0.mk (show ren (fun j => rd l j) ⟨10, dst, a, b, cc, n, m⟩ = ⟨10, dst, a, b, cc, n, m⟩ from by simp [ren, defs, Uses.raw])
        obtain ⟨us, hu⟩ : ∃ us, uses 10 a b cc = us := ⟨_, rfl⟩
        rw [hu] at hus
        have HUS := Aside0.mk hu
        subst hus
        clear hu hraw
        go_wp2_with (first
          | (go_at_call 44; refine (ruses_calls _ _ _ _ _ _ _ _).mono ?_; rw [HUS.out]; rintro e w3 ⟨v3, rfl, hR, hb⟩; obtain ⟨A3, c3, e3⟩ := Kd.R_slice hR; subst e3; have HB3 := Aside0.mk ((below_alloc (Below.refl wr.heap.size wr) (.cells (Ir.vals ⟨10, dst, a, b, cc, n, m⟩) 38)).trans (hb.mono (by simp))); have hxb := blk_below (blk_new wr (.cells (Ir.vals ⟨10, dst, a, b, cc, n, m⟩) 38)) hb; have HX3 := Aside0.mk hxb; have hy0 := blk_cell hxb 0; have hy1 := blk_cell hxb 1; have hy2 := blk_cell hxb 2; have hy3 := blk_cell hxb 3; have hy4 := blk_cell hxb 4; have hy5 := blk_cell hxb 5; have hy6 := blk_cell hxb 6; clear hR hb hxb)
          | (go_at_call 42; refine (rdefs_calls' hD.out _).mono ?_; rintro e w4 ⟨rfl, hb⟩; have HB4 := Aside0.mk (HB3.out.trans (hb.mono HB3.out.size)); have hxb := blk_below HX3.out hb; have hz0 := blk_cell hxb 0; have hz1 := blk_cell hxb 1; have hz2 := blk_cell hxb 2; have hz3 := blk_cell hxb 3; have hz4 := blk_cell hxb 4; have hz5 := blk_cell hxb 5; have hz6 := blk_cell hxb 6; have hf1 := blk_frozen hxb 1; have hf2 := blk_frozen hxb 2; have hf3 := blk_frozen hxb 3; have hf4 := blk_frozen hxb 4; have H5 := Aside0.mk (HQ.out.below (show Below wr.heap.size wr w4 from HB4.out)); have HSZW := Aside0.mk (show w4.heap.size = w4.heap.size from by simp); have hq0 := blk_cell H5.out.o.ov 2; have hq1 := blk_frozen H5.out.o.ov 2; clear hb hxb hy0 hy1 hy2 hy3 hy4 hy5 hy6 hx0 hx1 hx2 hx3 hx4 hx5 hx6)
          | ((with_reducible refine gate_builtin (b := .append) (xs := #[.tmp 82, .tmp 84]) rfl ?_); at_builtin; refine Kd.R_append kIr (w0 := w4) (w.heap.size + 2 + 1) rfl (.tmp 82) (.tmp 84) 22 38 (.agg (zIr.vals)) 56 rfl Try.underlying22 infoIr rfl (by decide) (by omega) (.slice A0 L0.length c0) L0 (Ir.mk (10) (dst) (a) (b) (cc) (n) (m)) [.int .i64 (10), .int .i64 (dst), .int .i64 (a), .int .i64 (b), .int .i64 (cc), .int .i64 (n), .int .i64 (m)] (fun _ => True) (fun _ => False) rfl (by first | rfl | (rw [HSZW.out]; rfl)) (ir_M (Ir.mk (10) (dst) (a) (b) (cc) (n) (m))) (fun _ h => h.elim) (fun _ _ => trivial) H5.out.o.row (Below.refl _ _) (by have := blk_lt H5.out.o.ov; omega) (by omega) ?_; intro v6 w6 hO hB hg hat; obtain ⟨A6, c6, e6⟩ := Kd.R_slice hO; subst e6; have H6 := Aside0.mk (H5.out.push hg hO); have hq2 := blk_cell (blk_grown H5.out.o.ov hg (fun e => by have := Kd.R_base H5.out.o.row _ e.symm; omega)) 2; have hqf := blk_frozen (blk_grown H5.out.o.ov hg (fun e => by have := Kd.R_base H5.out.o.row _ e.symm; omega)) 2; clear hO hB hg hat))
        go_roundw
        case rel => exact ⟨k + 1, by omega, by go_num, ⟨⟨_, by rw [HTS.out, HRN.out]; have h := H6.out; simp only [List.length_append, List.length_singleton] at h; exact h⟩⟩⟩
        case measure => simp [intOf]; omega
      · have hraw : Uses.raw 11 a b cc = [a] := by simp [Uses.raw]
        have hus := uses_pos (op := 11) (a := a) (b := b) (c := cc) (by rw [hraw]; simp)
        have hur : ∀ j, j ∈ [a] → 0 ≤ j ∧ j < l.length ∧ 0 ≤ rd l j ∧ rd l j < 66 := fun j hj => HU.out j (by show j ∈ Uses.raw 11 a b cc; rw [hraw]; exact hj)
        have hD := Aside0.mk (show defs ⟨11, dst, a, b, cc, n, m⟩ = -1 from by simp [defs])
        have ha0 : 0 ≤ a := (hur a (by simp)).1
        have hal : a < l.length := (hur a (by simp)).2.1
        obtain ⟨bB, oB, eB, hbB, hcB⟩ := row_addr HRB.out (by omega)
        subst eB
        have hbW : bB < wr.heap.size := by omega
        have HCB := Aside0.mk hcB
        clear hcB
        have HRN := Aside0.mk (show ren (fun j => rd l j) ⟨11, dst, a, b, cc, n, m⟩ = ⟨11, dst, rd l a, b, cc, n, m⟩ from by simp [ren, defs, Uses.raw])
        obtain ⟨us, hu⟩ : ∃ us, uses 11 a b cc = us := ⟨_, rfl⟩
        rw [hu] at hus
        have HUS := Aside0.mk hu
        have husI : (0 : Int) < (us.length : Int) := by omega
        clear hu hraw hur
        go_wp2_with (first
          | (go_at_call 44; refine (ruses_calls _ _ _ _ _ _ _ _).mono ?_; rw [HUS.out]; rintro e w3 ⟨v3, rfl, hR, hb⟩; obtain ⟨A3, c3, e3⟩ := Kd.R_slice hR; subst e3; have HB3 := Aside0.mk ((below_alloc (Below.refl wr.heap.size wr) (.cells (Ir.vals ⟨11, dst, a, b, cc, n, m⟩) 38)).trans (hb.mono (by simp))); have hxb := blk_below (blk_new wr (.cells (Ir.vals ⟨11, dst, a, b, cc, n, m⟩) 38)) hb; have HX3 := Aside0.mk hxb; have hy0 := blk_cell hxb 0; have hy1 := blk_cell hxb 1; have hy2 := blk_cell hxb 2; have hy3 := blk_cell hxb 3; have hy4 := blk_cell hxb 4; have hy5 := blk_cell hxb 5; have hy6 := blk_cell hxb 6; clear hR hb hxb)
          | (go_at_call 42; refine (rdefs_calls' hD.out _).mono ?_; rintro e w4 ⟨rfl, hb⟩; have HB4 := Aside0.mk (HB3.out.trans (hb.mono HB3.out.size)); have hxb := blk_below HX3.out hb; have hz0 := blk_cell hxb 0; have hz1 := blk_cell hxb 1; have hz2 := blk_cell hxb 2; have hz3 := blk_cell hxb 3; have hz4 := blk_cell hxb 4; have hz5 := blk_cell hxb 5; have hz6 := blk_cell hxb 6; have hf1 := blk_frozen hxb 1; have hf2 := blk_frozen hxb 2; have hf3 := blk_frozen hxb 3; have hf4 := blk_frozen hxb 4; have hla := (HB4.out.cell (p := ⟨bB, oB + a.toNat, none⟩) hbW).trans ((HQ.out.o.bel.cell (p := ⟨bB, oB + a.toNat, none⟩) hbB).trans (HCB.out a (by omega) (by omega))); have H5 := Aside0.mk (HQ.out.below (show Below wr.heap.size wr (World.setCell w4 ⟨wr.heap.size, 2, none⟩ (.int .i64 (rd l a))) from (Below.setCell (p := ⟨wr.heap.size, 2, none⟩) HB4.out (Nat.le_refl _) (.int .i64 (rd l a))))); have HSZW := Aside0.mk (show (World.setCell w4 ⟨wr.heap.size, 2, none⟩ (.int .i64 (rd l a))).heap.size = w4.heap.size from by simp); have hq0 := blk_cell H5.out.o.ov 2; have hq1 := blk_frozen H5.out.o.ov 2; clear hb hxb hy0 hy1 hy2 hy3 hy4 hy5 hy6 hx0 hx1 hx2 hx3 hx4 hx5 hx6)
          | ((with_reducible refine gate_builtin (b := .append) (xs := #[.tmp 82, .tmp 84]) rfl ?_); at_builtin; refine Kd.R_append kIr (w0 := (World.setCell w4 ⟨wr.heap.size, 2, none⟩ (.int .i64 (rd l a)))) (w.heap.size + 2 + 1) rfl (.tmp 82) (.tmp 84) 22 38 (.agg (zIr.vals)) 56 rfl Try.underlying22 infoIr rfl (by decide) (by omega) (.slice A0 L0.length c0) L0 (Ir.mk (11) (dst) (rd l a) (b) (cc) (n) (m)) [.int .i64 (11), .int .i64 (dst), .int .i64 (rd l a), .int .i64 (b), .int .i64 (cc), .int .i64 (n), .int .i64 (m)] (fun _ => True) (fun _ => False) rfl (by first | rfl | (rw [HSZW.out]; rfl)) (ir_M (Ir.mk (11) (dst) (rd l a) (b) (cc) (n) (m))) (fun _ h => h.elim) (fun _ _ => trivial) H5.out.o.row (Below.refl _ _) (by have := blk_lt H5.out.o.ov; omega) (by omega) ?_; intro v6 w6 hO hB hg hat; obtain ⟨A6, c6, e6⟩ := Kd.R_slice hO; subst e6; have H6 := Aside0.mk (H5.out.push hg hO); have hq2 := blk_cell (blk_grown H5.out.o.ov hg (fun e => by have := Kd.R_base H5.out.o.row _ e.symm; omega)) 2; have hqf := blk_frozen (blk_grown H5.out.o.ov hg (fun e => by have := Kd.R_base H5.out.o.row _ e.symm; omega)) 2; clear hO hB hg hat))
        go_roundw
        case rel => exact ⟨k + 1, by omega, by go_num, ⟨⟨_, by rw [HTS.out, HRN.out]; have h := H6.out; simp only [List.length_append, List.length_singleton] at h; exact h⟩⟩⟩
        case measure => simp [intOf]; omega
      · have hraw : Uses.raw 12 a b cc = [a] := by simp [Uses.raw]
        have hus := uses_pos (op := 12) (a := a) (b := b) (c := cc) (by rw [hraw]; simp)
        have hur : ∀ j, j ∈ [a] → 0 ≤ j ∧ j < l.length ∧ 0 ≤ rd l j ∧ rd l j < 66 := fun j hj => HU.out j (by show j ∈ Uses.raw 12 a b cc; rw [hraw]; exact hj)
        have hD := Aside0.mk (show defs ⟨12, dst, a, b, cc, n, m⟩ = -1 from by simp [defs])
        have ha0 : 0 ≤ a := (hur a (by simp)).1
        have hal : a < l.length := (hur a (by simp)).2.1
        obtain ⟨bB, oB, eB, hbB, hcB⟩ := row_addr HRB.out (by omega)
        subst eB
        have hbW : bB < wr.heap.size := by omega
        have HCB := Aside0.mk hcB
        clear hcB
        have HRN := Aside0.mk (show ren (fun j => rd l j) ⟨12, dst, a, b, cc, n, m⟩ = ⟨12, dst, rd l a, b, cc, n, m⟩ from by simp [ren, defs, Uses.raw])
        obtain ⟨us, hu⟩ : ∃ us, uses 12 a b cc = us := ⟨_, rfl⟩
        rw [hu] at hus
        have HUS := Aside0.mk hu
        have husI : (0 : Int) < (us.length : Int) := by omega
        clear hu hraw hur
        go_wp2_with (first
          | (go_at_call 44; refine (ruses_calls _ _ _ _ _ _ _ _).mono ?_; rw [HUS.out]; rintro e w3 ⟨v3, rfl, hR, hb⟩; obtain ⟨A3, c3, e3⟩ := Kd.R_slice hR; subst e3; have HB3 := Aside0.mk ((below_alloc (Below.refl wr.heap.size wr) (.cells (Ir.vals ⟨12, dst, a, b, cc, n, m⟩) 38)).trans (hb.mono (by simp))); have hxb := blk_below (blk_new wr (.cells (Ir.vals ⟨12, dst, a, b, cc, n, m⟩) 38)) hb; have HX3 := Aside0.mk hxb; have hy0 := blk_cell hxb 0; have hy1 := blk_cell hxb 1; have hy2 := blk_cell hxb 2; have hy3 := blk_cell hxb 3; have hy4 := blk_cell hxb 4; have hy5 := blk_cell hxb 5; have hy6 := blk_cell hxb 6; clear hR hb hxb)
          | (go_at_call 42; refine (rdefs_calls' hD.out _).mono ?_; rintro e w4 ⟨rfl, hb⟩; have HB4 := Aside0.mk (HB3.out.trans (hb.mono HB3.out.size)); have hxb := blk_below HX3.out hb; have hz0 := blk_cell hxb 0; have hz1 := blk_cell hxb 1; have hz2 := blk_cell hxb 2; have hz3 := blk_cell hxb 3; have hz4 := blk_cell hxb 4; have hz5 := blk_cell hxb 5; have hz6 := blk_cell hxb 6; have hf1 := blk_frozen hxb 1; have hf2 := blk_frozen hxb 2; have hf3 := blk_frozen hxb 3; have hf4 := blk_frozen hxb 4; have hla := (HB4.out.cell (p := ⟨bB, oB + a.toNat, none⟩) hbW).trans ((HQ.out.o.bel.cell (p := ⟨bB, oB + a.toNat, none⟩) hbB).trans (HCB.out a (by omega) (by omega))); have H5 := Aside0.mk (HQ.out.below (show Below wr.heap.size wr (World.setCell w4 ⟨wr.heap.size, 2, none⟩ (.int .i64 (rd l a))) from (Below.setCell (p := ⟨wr.heap.size, 2, none⟩) HB4.out (Nat.le_refl _) (.int .i64 (rd l a))))); have HSZW := Aside0.mk (show (World.setCell w4 ⟨wr.heap.size, 2, none⟩ (.int .i64 (rd l a))).heap.size = w4.heap.size from by simp); have hq0 := blk_cell H5.out.o.ov 2; have hq1 := blk_frozen H5.out.o.ov 2; clear hb hxb hy0 hy1 hy2 hy3 hy4 hy5 hy6 hx0 hx1 hx2 hx3 hx4 hx5 hx6)
          | ((with_reducible refine gate_builtin (b := .append) (xs := #[.tmp 82, .tmp 84]) rfl ?_); at_builtin; refine Kd.R_append kIr (w0 := (World.setCell w4 ⟨wr.heap.size, 2, none⟩ (.int .i64 (rd l a)))) (w.heap.size + 2 + 1) rfl (.tmp 82) (.tmp 84) 22 38 (.agg (zIr.vals)) 56 rfl Try.underlying22 infoIr rfl (by decide) (by omega) (.slice A0 L0.length c0) L0 (Ir.mk (12) (dst) (rd l a) (b) (cc) (n) (m)) [.int .i64 (12), .int .i64 (dst), .int .i64 (rd l a), .int .i64 (b), .int .i64 (cc), .int .i64 (n), .int .i64 (m)] (fun _ => True) (fun _ => False) rfl (by first | rfl | (rw [HSZW.out]; rfl)) (ir_M (Ir.mk (12) (dst) (rd l a) (b) (cc) (n) (m))) (fun _ h => h.elim) (fun _ _ => trivial) H5.out.o.row (Below.refl _ _) (by have := blk_lt H5.out.o.ov; omega) (by omega) ?_; intro v6 w6 hO hB hg hat; obtain ⟨A6, c6, e6⟩ := Kd.R_slice hO; subst e6; have H6 := Aside0.mk (H5.out.push hg hO); have hq2 := blk_cell (blk_grown H5.out.o.ov hg (fun e => by have := Kd.R_base H5.out.o.row _ e.symm; omega)) 2; have hqf := blk_frozen (blk_grown H5.out.o.ov hg (fun e => by have := Kd.R_base H5.out.o.row _ e.symm; omega)) 2; clear hO hB hg hat))
        go_roundw
        case rel => exact ⟨k + 1, by omega, by go_num, ⟨⟨_, by rw [HTS.out, HRN.out]; have h := H6.out; simp only [List.length_append, List.length_singleton] at h; exact h⟩⟩⟩
        case measure => simp [intOf]; omega
      · by_cases ha : 0 ≤ a
        · have hraw : Uses.raw 15 a b cc = [a] := by simp [Uses.raw, ha]
          have hus := uses_pos (op := 15) (a := a) (b := b) (c := cc) (by rw [hraw]; simp)
          have hur : ∀ j, j ∈ [a] → 0 ≤ j ∧ j < l.length ∧ 0 ≤ rd l j ∧ rd l j < 66 := fun j hj => HU.out j (by show j ∈ Uses.raw 15 a b cc; rw [hraw]; exact hj)
          have hD := Aside0.mk (show defs ⟨15, dst, a, b, cc, n, m⟩ = -1 from by simp [defs])
          have ha0 : 0 ≤ a := (hur a (by simp)).1
          have hal : a < l.length := (hur a (by simp)).2.1
          obtain ⟨bB, oB, eB, hbB, hcB⟩ := row_addr HRB.out (by omega)
          subst eB
          have hbW : bB < wr.heap.size := by omega
          have HCB := Aside0.mk hcB
          clear hcB
          have HRN := Aside0.mk (show ren (fun j => rd l j) ⟨15, dst, a, b, cc, n, m⟩ = ⟨15, dst, rd l a, b, cc, n, m⟩ from by simp [ren, defs, Uses.raw, ha])
          obtain ⟨us, hu⟩ : ∃ us, uses 15 a b cc = us := ⟨_, rfl⟩
          rw [hu] at hus
          have HUS := Aside0.mk hu
          have husI : (0 : Int) < (us.length : Int) := by omega
          clear hu hraw hur
          go_wp2_with (first
            | (go_at_call 44; refine (ruses_calls _ _ _ _ _ _ _ _).mono ?_; rw [HUS.out]; rintro e w3 ⟨v3, rfl, hR, hb⟩; obtain ⟨A3, c3, e3⟩ := Kd.R_slice hR; subst e3; have HB3 := Aside0.mk ((below_alloc (Below.refl wr.heap.size wr) (.cells (Ir.vals ⟨15, dst, a, b, cc, n, m⟩) 38)).trans (hb.mono (by simp))); have hxb := blk_below (blk_new wr (.cells (Ir.vals ⟨15, dst, a, b, cc, n, m⟩) 38)) hb; have HX3 := Aside0.mk hxb; have hy0 := blk_cell hxb 0; have hy1 := blk_cell hxb 1; have hy2 := blk_cell hxb 2; have hy3 := blk_cell hxb 3; have hy4 := blk_cell hxb 4; have hy5 := blk_cell hxb 5; have hy6 := blk_cell hxb 6; clear hR hb hxb)
            | (go_at_call 42; refine (rdefs_calls' hD.out _).mono ?_; rintro e w4 ⟨rfl, hb⟩; have HB4 := Aside0.mk (HB3.out.trans (hb.mono HB3.out.size)); have hxb := blk_below HX3.out hb; have hz0 := blk_cell hxb 0; have hz1 := blk_cell hxb 1; have hz2 := blk_cell hxb 2; have hz3 := blk_cell hxb 3; have hz4 := blk_cell hxb 4; have hz5 := blk_cell hxb 5; have hz6 := blk_cell hxb 6; have hf1 := blk_frozen hxb 1; have hf2 := blk_frozen hxb 2; have hf3 := blk_frozen hxb 3; have hf4 := blk_frozen hxb 4; have hla := (HB4.out.cell (p := ⟨bB, oB + a.toNat, none⟩) hbW).trans ((HQ.out.o.bel.cell (p := ⟨bB, oB + a.toNat, none⟩) hbB).trans (HCB.out a (by omega) (by omega))); have H5 := Aside0.mk (HQ.out.below (show Below wr.heap.size wr (World.setCell w4 ⟨wr.heap.size, 2, none⟩ (.int .i64 (rd l a))) from (Below.setCell (p := ⟨wr.heap.size, 2, none⟩) HB4.out (Nat.le_refl _) (.int .i64 (rd l a))))); have HSZW := Aside0.mk (show (World.setCell w4 ⟨wr.heap.size, 2, none⟩ (.int .i64 (rd l a))).heap.size = w4.heap.size from by simp); have hq0 := blk_cell H5.out.o.ov 2; have hq1 := blk_frozen H5.out.o.ov 2; clear hb hxb hy0 hy1 hy2 hy3 hy4 hy5 hy6 hx0 hx1 hx2 hx3 hx4 hx5 hx6)
            | ((with_reducible refine gate_builtin (b := .append) (xs := #[.tmp 82, .tmp 84]) rfl ?_); at_builtin; refine Kd.R_append kIr (w0 := (World.setCell w4 ⟨wr.heap.size, 2, none⟩ (.int .i64 (rd l a)))) (w.heap.size + 2 + 1) rfl (.tmp 82) (.tmp 84) 22 38 (.agg (zIr.vals)) 56 rfl Try.underlying22 infoIr rfl (by decide) (by omega) (.slice A0 L0.length c0) L0 (Ir.mk (15) (dst) (rd l a) (b) (cc) (n) (m)) [.int .i64 (15), .int .i64 (dst), .int .i64 (rd l a), .int .i64 (b), .int .i64 (cc), .int .i64 (n), .int .i64 (m)] (fun _ => True) (fun _ => False) rfl (by first | rfl | (rw [HSZW.out]; rfl)) (ir_M (Ir.mk (15) (dst) (rd l a) (b) (cc) (n) (m))) (fun _ h => h.elim) (fun _ _ => trivial) H5.out.o.row (Below.refl _ _) (by have := blk_lt H5.out.o.ov; omega) (by omega) ?_; intro v6 w6 hO hB hg hat; obtain ⟨A6, c6, e6⟩ := Kd.R_slice hO; subst e6; have H6 := Aside0.mk (H5.out.push hg hO); have hq2 := blk_cell (blk_grown H5.out.o.ov hg (fun e => by have := Kd.R_base H5.out.o.row _ e.symm; omega)) 2; have hqf := blk_frozen (blk_grown H5.out.o.ov hg (fun e => by have := Kd.R_base H5.out.o.row _ e.symm; omega)) 2; clear hO hB hg hat))
          go_roundw
          case rel => exact ⟨k + 1, by omega, by go_num, ⟨⟨_, by rw [HTS.out, HRN.out]; have h := H6.out; simp only [List.length_append, List.length_singleton] at h; exact h⟩⟩⟩
          case measure => simp [intOf]; omega
        · have hraw : Uses.raw 15 a b cc = [] := by simp [Uses.raw, ha]
          have hus := uses_nil (op := 15) (a := a) (b := b) (c := cc) hraw
          have hD := Aside0.mk (show defs ⟨15, dst, a, b, cc, n, m⟩ = -1 from by simp [defs])
          have HRN := Aside0.mk (show ren (fun j => rd l j) ⟨15, dst, a, b, cc, n, m⟩ = ⟨15, dst, a, b, cc, n, m⟩ from by simp [ren, defs, Uses.raw, ha])
          obtain ⟨us, hu⟩ : ∃ us, uses 15 a b cc = us := ⟨_, rfl⟩
          rw [hu] at hus
          have HUS := Aside0.mk hu
          subst hus
          clear hu hraw
          go_wp2_with (first
            | (go_at_call 44; refine (ruses_calls _ _ _ _ _ _ _ _).mono ?_; rw [HUS.out]; rintro e w3 ⟨v3, rfl, hR, hb⟩; obtain ⟨A3, c3, e3⟩ := Kd.R_slice hR; subst e3; have HB3 := Aside0.mk ((below_alloc (Below.refl wr.heap.size wr) (.cells (Ir.vals ⟨15, dst, a, b, cc, n, m⟩) 38)).trans (hb.mono (by simp))); have hxb := blk_below (blk_new wr (.cells (Ir.vals ⟨15, dst, a, b, cc, n, m⟩) 38)) hb; have HX3 := Aside0.mk hxb; have hy0 := blk_cell hxb 0; have hy1 := blk_cell hxb 1; have hy2 := blk_cell hxb 2; have hy3 := blk_cell hxb 3; have hy4 := blk_cell hxb 4; have hy5 := blk_cell hxb 5; have hy6 := blk_cell hxb 6; clear hR hb hxb)
            | (go_at_call 42; refine (rdefs_calls' hD.out _).mono ?_; rintro e w4 ⟨rfl, hb⟩; have HB4 := Aside0.mk (HB3.out.trans (hb.mono HB3.out.size)); have hxb := blk_below HX3.out hb; have hz0 := blk_cell hxb 0; have hz1 := blk_cell hxb 1; have hz2 := blk_cell hxb 2; have hz3 := blk_cell hxb 3; have hz4 := blk_cell hxb 4; have hz5 := blk_cell hxb 5; have hz6 := blk_cell hxb 6; have hf1 := blk_frozen hxb 1; have hf2 := blk_frozen hxb 2; have hf3 := blk_frozen hxb 3; have hf4 := blk_frozen hxb 4; have H5 := Aside0.mk (HQ.out.below (show Below wr.heap.size wr w4 from HB4.out)); have HSZW := Aside0.mk (show w4.heap.size = w4.heap.size from by simp); have hq0 := blk_cell H5.out.o.ov 2; have hq1 := blk_frozen H5.out.o.ov 2; clear hb hxb hy0 hy1 hy2 hy3 hy4 hy5 hy6 hx0 hx1 hx2 hx3 hx4 hx5 hx6)
            | ((with_reducible refine gate_builtin (b := .append) (xs := #[.tmp 82, .tmp 84]) rfl ?_); at_builtin; refine Kd.R_append kIr (w0 := w4) (w.heap.size + 2 + 1) rfl (.tmp 82) (.tmp 84) 22 38 (.agg (zIr.vals)) 56 rfl Try.underlying22 infoIr rfl (by decide) (by omega) (.slice A0 L0.length c0) L0 (Ir.mk (15) (dst) (a) (b) (cc) (n) (m)) [.int .i64 (15), .int .i64 (dst), .int .i64 (a), .int .i64 (b), .int .i64 (cc), .int .i64 (n), .int .i64 (m)] (fun _ => True) (fun _ => False) rfl (by first | rfl | (rw [HSZW.out]; rfl)) (ir_M (Ir.mk (15) (dst) (a) (b) (cc) (n) (m))) (fun _ h => h.elim) (fun _ _ => trivial) H5.out.o.row (Below.refl _ _) (by have := blk_lt H5.out.o.ov; omega) (by omega) ?_; intro v6 w6 hO hB hg hat; obtain ⟨A6, c6, e6⟩ := Kd.R_slice hO; subst e6; have H6 := Aside0.mk (H5.out.push hg hO); have hq2 := blk_cell (blk_grown H5.out.o.ov hg (fun e => by have := Kd.R_base H5.out.o.row _ e.symm; omega)) 2; have hqf := blk_frozen (blk_grown H5.out.o.ov hg (fun e => by have := Kd.R_base H5.out.o.row _ e.symm; omega)) 2; clear hO hB hg hat))
          go_roundw
          case rel => exact ⟨k + 1, by omega, by go_num, ⟨⟨_, by rw [HTS.out, HRN.out]; have h := H6.out; simp only [List.length_append, List.length_singleton] at h; exact h⟩⟩⟩
          case measure => simp [intOf]; omega
      · have hraw : Uses.raw 16 a b cc = [] := by simp [Uses.raw]
        have hus := uses_nil (op := 16) (a := a) (b := b) (c := cc) hraw
        have hD := Aside0.mk (show defs ⟨16, dst, a, b, cc, n, m⟩ = -1 from by simp [defs])
        have HRN := Aside0.mk (show ren (fun j => rd l j) ⟨16, dst, a, b, cc, n, m⟩ = ⟨16, dst, a, b, cc, n, m⟩ from by simp [ren, defs, Uses.raw])
        obtain ⟨us, hu⟩ : ∃ us, uses 16 a b cc = us := ⟨_, rfl⟩
        rw [hu] at hus
        have HUS := Aside0.mk hu
        subst hus
        clear hu hraw
        go_wp2_with (first
          | (go_at_call 44; refine (ruses_calls _ _ _ _ _ _ _ _).mono ?_; rw [HUS.out]; rintro e w3 ⟨v3, rfl, hR, hb⟩; obtain ⟨A3, c3, e3⟩ := Kd.R_slice hR; subst e3; have HB3 := Aside0.mk ((below_alloc (Below.refl wr.heap.size wr) (.cells (Ir.vals ⟨16, dst, a, b, cc, n, m⟩) 38)).trans (hb.mono (by simp))); have hxb := blk_below (blk_new wr (.cells (Ir.vals ⟨16, dst, a, b, cc, n, m⟩) 38)) hb; have HX3 := Aside0.mk hxb; have hy0 := blk_cell hxb 0; have hy1 := blk_cell hxb 1; have hy2 := blk_cell hxb 2; have hy3 := blk_cell hxb 3; have hy4 := blk_cell hxb 4; have hy5 := blk_cell hxb 5; have hy6 := blk_cell hxb 6; clear hR hb hxb)
          | (go_at_call 42; refine (rdefs_calls' hD.out _).mono ?_; rintro e w4 ⟨rfl, hb⟩; have HB4 := Aside0.mk (HB3.out.trans (hb.mono HB3.out.size)); have hxb := blk_below HX3.out hb; have hz0 := blk_cell hxb 0; have hz1 := blk_cell hxb 1; have hz2 := blk_cell hxb 2; have hz3 := blk_cell hxb 3; have hz4 := blk_cell hxb 4; have hz5 := blk_cell hxb 5; have hz6 := blk_cell hxb 6; have hf1 := blk_frozen hxb 1; have hf2 := blk_frozen hxb 2; have hf3 := blk_frozen hxb 3; have hf4 := blk_frozen hxb 4; have H5 := Aside0.mk (HQ.out.below (show Below wr.heap.size wr w4 from HB4.out)); have HSZW := Aside0.mk (show w4.heap.size = w4.heap.size from by simp); have hq0 := blk_cell H5.out.o.ov 2; have hq1 := blk_frozen H5.out.o.ov 2; clear hb hxb hy0 hy1 hy2 hy3 hy4 hy5 hy6 hx0 hx1 hx2 hx3 hx4 hx5 hx6)
          | ((with_reducible refine gate_builtin (b := .append) (xs := #[.tmp 82, .tmp 84]) rfl ?_); at_builtin; refine Kd.R_append kIr (w0 := w4) (w.heap.size + 2 + 1) rfl (.tmp 82) (.tmp 84) 22 38 (.agg (zIr.vals)) 56 rfl Try.underlying22 infoIr rfl (by decide) (by omega) (.slice A0 L0.length c0) L0 (Ir.mk (16) (dst) (a) (b) (cc) (n) (m)) [.int .i64 (16), .int .i64 (dst), .int .i64 (a), .int .i64 (b), .int .i64 (cc), .int .i64 (n), .int .i64 (m)] (fun _ => True) (fun _ => False) rfl (by first | rfl | (rw [HSZW.out]; rfl)) (ir_M (Ir.mk (16) (dst) (a) (b) (cc) (n) (m))) (fun _ h => h.elim) (fun _ _ => trivial) H5.out.o.row (Below.refl _ _) (by have := blk_lt H5.out.o.ov; omega) (by omega) ?_; intro v6 w6 hO hB hg hat; obtain ⟨A6, c6, e6⟩ := Kd.R_slice hO; subst e6; have H6 := Aside0.mk (H5.out.push hg hO); have hq2 := blk_cell (blk_grown H5.out.o.ov hg (fun e => by have := Kd.R_base H5.out.o.row _ e.symm; omega)) 2; have hqf := blk_frozen (blk_grown H5.out.o.ov hg (fun e => by have := Kd.R_base H5.out.o.row _ e.symm; omega)) 2; clear hO hB hg hat))
        go_roundw
        case rel => exact ⟨k + 1, by omega, by go_num, ⟨⟨_, by rw [HTS.out, HRN.out]; have h := H6.out; simp only [List.length_append, List.length_singleton] at h; exact h⟩⟩⟩
        case measure => simp [intOf]; omega
    · have hke : k = c.body.length := by omega
      subst hke
      obtain ⟨v0, hv0⟩ := HQ0.out
      rw [List.take_length] at hv0
      obtain ⟨A0, c0, e0⟩ := Kd.R_slice hv0.o.row
      subst e0
      have HPS := Aside0.mk hv0
      have hbc2 := blk_cell hv0.o.box 2
      have hq0 := blk_cell hv0.o.ov 0
      have hq1 := blk_cell hv0.o.ov 1
      have hq2 := blk_cell hv0.o.ov 2
      have hq3 := blk_cell hv0.o.ov 3
      have hr0 := blk_cell hv0.rb 0
      have hr1 := blk_cell hv0.rb 1
      have hr2 := blk_cell hv0.rb 2
      have hr3 := blk_cell hv0.rb 3
      have hf0 := blk_frozen hv0.rb 0
      have hf1 := blk_frozen hv0.rb 1
      have hf2 := blk_frozen hv0.rb 2
      have hf3 := blk_frozen hv0.rb 3
      clear hv0 HQ0
      go_wp2_with fail
      have HE := Aside0.mk HPS.out.ret
      rw [List.length_map] at HE
      obtain ⟨W4, hW4⟩ : ∃ W4, ((((wr.setCell ⟨w.heap.size + 1, 0, none⟩ (.int .i64 66)).setCell ⟨w.heap.size + 1, 1, none⟩ (.int .i64 c.params)).setCell ⟨w.heap.size + 1, 2, none⟩ (.slice A0 c.body.length c0)).setCell ⟨w.heap.size + 1, 3, none⟩ (.int .i64 c.labels)) = W4 := ⟨_, rfl⟩
      rw [hW4] at HE ⊢
      have k0 := blk_cell HE.out.2.2 0
      have k1 := blk_cell HE.out.2.2 1
      have k2 := blk_cell HE.out.2.2 2
      have k3 := blk_cell HE.out.2.2 3
      clear hq0 hq1 hq2 hq3 hr0 hr1 hr2 hr3 hf0 hf1 hf2 hf3
      refine bodyPost_ret (v := .agg #[.int .i64 66, .int .i64 c.params, .slice A0 c.body.length c0, .int .i64 c.labels]) (by simp [results, Try.results66, go_sem, k0, k1, k2, k3]) rfl ⟨A0, _, c0, rfl, HE.out.1, HE.out.2.1⟩
end Go.Proofs.Ytdcmeefeinppnaa.RefE
namespace Go.Proofs.Ytdcmeefeinppnaa.RefE
open Go.RowKit Go.Proofs.YtdcmeefeinppnaaW.PrintWords Go.Proofs.YtdcmeefeinppnaaW.PrintLast Go.Proofs.YtdcmeefeinppnaaW.PrintMore Go.Proofs.Ytdcmeefeinppnaa.Mem Go.Proofs.Ytdcmeefeinppnaa.Ir Go.Proofs.Ytdcmeefeinppnaa.Live Go.Proofs.Ytdcmeefeinppnaa.Rsem
open Go.Proofs.Ytdcmeefeinppnaa.Check
open Uses (uses infoInt)
set_option linter.unusedVariables false
set_option linter.unusedSimpArgs false

theorem rexec_fits {w : World} {c : Cod} {cs : List Int} {e : Ending} {w' : World} (h : RExOut w c cs e w') (hf : fitsR c cs.length = true) : ∃ v, e = .returned (.tuple #[v, .int .i64 (execS c cs).2.1, .int .i64 (execS c cs).2.2, .int .i64 0]) ∧ Below w.heap.size w w' := by
  unfold RExOut at h
  rw [if_pos hf] at h
  exact h
theorem rexec_odd {w : World} {c : Cod} {cs : List Int} {e : Ending} {w' : World} (h : RExOut w c cs e w') (hf : fitsR c cs.length = false) : e = .returned (.tuple #[.slice none 0 0, .int .i64 0, .int .i64 0, .int .i64 4]) ∧ Below w.heap.size w w' := by
  unfold RExOut at h
  rw [if_neg (by rw [hf]; simp)] at h
  exact h
theorem rexec_zero (c : Cod) (A : Option Addr) (cap nn : Nat) (hn : nn ≤ 1000) {w : World} (hC : CodeAt w c A cap) (hlit : ∀ i : Nat, i < c.body.length → Live.Can (atIr c.body i).n) (W : World) (g : Nat) (hb : Below w.heap.size w W) (hg : W.heap[g]? = some (.cells (Array.replicate nn (.int .i64 0)) 3 (0, 0))) :
    Calls Try.prog 65 #[.agg (c.vals A cap), .slice (some ⟨g, 0, none⟩) nn nn] W (RExOut W c (List.replicate nn 0)) := by
  have h := rexec_calls c A cap (some ⟨g, 0, none⟩) nn (List.replicate nn 0) W (hC.below hb) (by rw [List.length_replicate]; exact zeros_C (by omega) hg) (by rw [List.length_replicate]; omega) (canL_rep _ _ ⟨by decide, by decide⟩) hlit
  rw [List.length_replicate] at h
  exact h
theorem rzero_no (c : Cod) (A : Option Addr) (cap nn : Nat) (hn : nn ≤ 1000) {w : World} (hC : CodeAt w c A cap) (hlit : ∀ i : Nat, i < c.body.length → Live.Can (atIr c.body i).n) (hR : fitsR c (nn : Int) = false) (W : World) (g : Nat) (hb : Below w.heap.size w W) (hg : W.heap[g]? = some (.cells (Array.replicate nn (.int .i64 0)) 3 (0, 0))) :
    Calls Try.prog 65 #[.agg (c.vals A cap), .slice (some ⟨g, 0, none⟩) nn nn] W fun e w' => e = .returned (.tuple #[.slice none 0 0, .int .i64 0, .int .i64 0, .int .i64 4]) ∧ Below W.heap.size W w' :=
  (rexec_zero c A cap nn hn hC hlit W g hb hg).mono fun e w' hx => rexec_odd hx (by rw [List.length_replicate]; exact hR)
theorem rzero_yes (c : Cod) (A : Option Addr) (cap nn : Nat) (hn : nn ≤ 1000) {w : World} (hC : CodeAt w c A cap) (hlit : ∀ i : Nat, i < c.body.length → Live.Can (atIr c.body i).n) (hR : fitsR c (nn : Int) = true) (W : World) (g : Nat) (hb : Below w.heap.size w W) (hg : W.heap[g]? = some (.cells (Array.replicate nn (.int .i64 0)) 3 (0, 0))) :
    Calls Try.prog 65 #[.agg (c.vals A cap), .slice (some ⟨g, 0, none⟩) nn nn] W fun e w' => ∃ (v : Value) (u t : Int), e = .returned (.tuple #[v, .int .i64 u, .int .i64 t, .int .i64 0]) ∧ Below W.heap.size W w' :=
  (rexec_zero c A cap nn hn hC hlit W g hb hg).mono fun e w' hx => by
    obtain ⟨v, he, hb⟩ := rexec_fits hx (by rw [List.length_replicate]; exact hR)
    exact ⟨_, _, _, he, hb⟩
set_option maxHeartbeats 4000000 in
set_option maxRecDepth 100000 in
theorem rcheck_no1 (c : Cod) (A : Option Addr) (cap : Nat) (l : List Int) (B : Option Addr) (capB : Nat) (ps : List Int) (D : Option Addr) (capD : Nat) (w : World) (hC : CodeAt w c A cap) (hB : (Kd.int .i64).C w B l.length l) {ah af : List Int} {er : Int} (hS : SetsIs c ah af er) (hE : er = 0 ∧ fits c = true ∧ LiveIs c ah af ∨ er = 4 ∧ fits c = false ∧ ah = [] ∧ af = []) (h : ¬ (rightB c ah af l = true ∧ (ps.length : Int) = c.params)) :
    Calls Try.prog 38 #[.agg (c.vals A cap), .slice B l.length capB, .slice D ps.length capD] w (ExOut2 w (0, 0, 4)) := by
  have HP := Aside0.mk (Rf.init hC)
  have HRT := Aside0.mk (fun W hb => rright_calls c A cap l B capB W (hC.below hb) (Kd.C_below hB hb) hS hE)
  clear hC hB hS hE
  cases hr : rightB c ah af l with
  | false =>
    rw [hr] at HRT
    clear h hr
    go_enter Try.func38, Try.ntmps38
    go_wp2_with (go_at_call 40; refine (HRT.out _ HP.out.bel).mono ?_; rintro e w1 ⟨rfl, hb⟩; have H1 := Aside0.mk (HP.out.below hb); clear hb HP)
    go_ret3
    exact ⟨rfl, H1.out.bel⟩
  | true =>
    have hne : ((ps.length : Int) != c.params) = true := by simpa using fun e => h ⟨hr, e⟩
    rw [hr] at HRT
    clear h hr
    go_enter Try.func38, Try.ntmps38
    go_wp2_with (go_at_call 40; refine (HRT.out _ HP.out.bel).mono ?_; rintro e w1 ⟨rfl, hb⟩; have H1 := Aside0.mk (HP.out.below hb); have hb1 := blk_cell H1.out.box 1; clear hb HP)
    go_ret3
    exact ⟨rfl, H1.out.bel⟩
set_option maxHeartbeats 4000000 in
set_option maxRecDepth 100000 in
theorem rcheck_no2 (c : Cod) (A : Option Addr) (cap : Nat) (l : List Int) (B : Option Addr) (capB : Nat) (ps : List Int) (D : Option Addr) (capD : Nat) (w : World) (hC : CodeAt w c A cap) (hlit : ∀ i : Nat, i < c.body.length → Live.Can (atIr c.body i).n) (hB : (Kd.int .i64).C w B l.length l) {ah af : List Int} (hS : SetsIs c ah af 0) (hL : LiveIs c ah af) (hr : rightB c ah af l = true) (hp : (ps.length : Int) = c.params) (hR : fitsR c c.cells = false) :
    Calls Try.prog 38 #[.agg (c.vals A cap), .slice B l.length capB, .slice D ps.length capD] w (ExOut2 w (0, 0, 4)) := by
  have HP := Aside0.mk (Rf.init hC)
  have HRI := Aside0.mk (right_is hr)
  have HRT := Aside0.mk (fun W hb => rright_calls c A cap l B capB W (hC.below hb) (Kd.C_below hB hb) hS (.inl ⟨rfl, HRI.out.fit, hL⟩))
  rw [hr] at HRT
  have hne : ((ps.length : Int) != c.params) = false := by simpa using hp
  have hh := fits_head HRI.out.fit
  obtain ⟨nn, hnn⟩ : ∃ nn : Nat, c.cells = (nn : Int) := ⟨c.cells.toNat, by omega⟩
  have hn60 : nn ≤ 60 := by omega
  have hmk : ∀ W : World, (Instr.makeSlice 26 (.int .i64 c.cells) (.int .i64 c.cells)).run Try.prog W = .ok (.slice (some ⟨W.heap.size, 0, none⟩) nn nn) (W.alloc (.cells (Array.replicate nn (.int .i64 0)) 3)) := by rw [hnn]; exact make_ints nn (by omega)
  have HEX := Aside0.mk (rzero_no c A cap nn (by omega) hC hlit (by rw [← hnn]; exact hR))
  clear hC hB hS hL hr hp hh hlit hR hnn
  go_enter Try.func38, Try.ntmps38
  go_wp2_with (go_at_call 40; refine (HRT.out _ HP.out.bel).mono ?_; rintro e w1 ⟨rfl, hb⟩; have H1 := Aside0.mk (HP.out.below hb); have hb0 := blk_cell H1.out.box 0; have hb1 := blk_cell H1.out.box 1; have hb2 := blk_cell H1.out.box 2; have hb3 := blk_cell H1.out.box 3; clear hb HP)
  go_region_held3 (fun w' => w'.cell? ⟨w.heap.size, 0, none⟩ = some (.int .i64 c.cells) ∧ w'.cell? ⟨w.heap.size, 1, none⟩ = some (.int .i64 c.params) ∧ w'.cell? ⟨w.heap.size, 2, none⟩ = some (.slice A c.body.length cap) ∧ w'.cell? ⟨w.heap.size, 3, none⟩ = some (.int .i64 c.labels)) (go_keep)
    (first | (go_at_call 65; refine (HEX.out _ _ (H1.out.bel.trans (((drew_below _).trans ((below_alloc (Below.refl _ _) _).mono (drew_below _).size)).mono H1.out.bel.size)) (blk_new _ _)).mono ?_; rintro e w2 ⟨rfl, hb⟩; have H2 := Aside0.mk (H1.out.below (((drew_below _).trans ((below_alloc (Below.refl _ _) _).mono (drew_below _).size)).trans (hb.mono (by simp)))); have hg0 := blk_cell H2.out.box 0; have hg1 := blk_cell H2.out.box 1; have hg2 := blk_cell H2.out.box 2; have hg3 := blk_cell H2.out.box 3; clear hb))
  all_goals
    go_wp2_with fail
    go_ret3
    exact ⟨rfl, H2.out.bel⟩
/-- the places, beside the code -/
structure Pz (w W : World) (c : Cod) (A : Option Addr) (cap g : Nat) (q : List Int) : Prop where
  f : Rf w W c A cap
  row : (Kd.int .i64).R 3 W (w.heap.size + 1) (fun _ => True) (.slice (some ⟨g, 0, none⟩) 66 66) q
  len : q.length = 66
  gt : w.heap.size < g
section
variable {w W W1 : World} {c : Cod} {A : Option Addr} {cap g : Nat} {q : List Int}
theorem Pz.below (h : Pz w W c A cap g q) (hb : Below W.heap.size W W1) : Pz w W1 c A cap g q := ⟨h.f.below hb, Kd.R_below h.row hb, h.len, h.gt⟩
theorem Pz.cell (h : Pz w W c A cap g q) (i : Int) (h0 : 0 ≤ i) (h1 : i < 66) : W.cell? ⟨g, i.toNat, none⟩ = some (.int .i64 (rd q i)) ∧ W.frozen? ⟨g, i.toNat, none⟩ = false :=
  Kd.R_celln (0 : Int) h.row i h0 h1
theorem Pz.put (h : Pz w W c A cap g q) (hC : CodeAt w c A cap) (i u : Int) : Pz w (W.setCell ⟨g, i.toNat, none⟩ (.int .i64 u)) c A cap g (setI q i u) := by
  have hg := h.gt
  have hb : Below w.heap.size w (W.setCell ⟨g, i.toNat, none⟩ (.int .i64 u)) := h.f.bel.setCell (by show w.heap.size ≤ g; omega) _
  exact ⟨⟨hb, Nat.le_trans h.f.sz (by simp), blk_far h.f.box (by show w.heap.size ≠ g; omega) _, hC.below hb⟩, Kd.R_putn h.row i u, by rw [setI_len]; exact h.len, hg⟩
theorem pz_init (h : Rf w W c A cap) : Pz w (W.alloc (.cells (Array.replicate 66 (.int .i64 0)) 3)) c A cap W.heap.size (List.replicate 66 0) := by
  have hb := blk_lt h.box
  refine ⟨h.alloc _, ?_, by simp, hb⟩
  have h1 := R_intsC (W := W.alloc (.cells (Array.replicate 66 (.int .i64 0)) 3)) (base := w.heap.size + 1) (g := W.heap.size) (xs := List.replicate 66 0) (by
    have h2 := blk_new W (.cells (Array.replicate 66 (.int .i64 0)) 3)
    rw [show intsC (List.replicate 66 0) = Array.replicate 66 (.int .i64 0) from zeros_map 66]
    exact h2) (by omega) (by simp)
  simpa using h1
end
theorem rexec_over {W : World} {c : Cod} {base base2 g n6 c6 : Nat} {A6 : Option Addr} {l ps : List Int} (HR : kIr.R 38 W base (fun _ => True) (.slice A6 n6 c6) (c.body.map (ren (fun j => rd l j)))) (HQ : (Kd.int .i64).R 3 W base2 (fun _ => True) (.slice (some ⟨g, 0, none⟩) 66 66) (places0 l ps)) (hsm : c.body.length ≤ 90000) (hcan : CanL (places0 l ps)) (hlit : ∀ i : Nat, i < c.body.length → Live.Can (atIr c.body i).n) (hof : fitsR (overC c l) 66 = true) :
    Calls Try.prog 65 #[.agg #[.int .i64 66, .int .i64 c.params, .slice A6 n6 c6, .int .i64 c.labels], .slice (some ⟨g, 0, none⟩) 66 66] W fun e w' => ∃ v, e = .returned (.tuple #[v, .int .i64 (execS (overC c l) (places0 l ps)).2.1, .int .i64 (execS (overC c l) (places0 l ps)).2.2, .int .i64 0]) ∧ Below W.heap.size W w' := by
  obtain ⟨hn, hcap, hC⟩ := Kd.R_reads' HR
  obtain ⟨hn2, _, hC2⟩ := Kd.R_reads' HQ
  have hl := places0_len l ps
  subst hn
  have h := rexec_calls (overC c l) A6 c6 (some ⟨g, 0, none⟩) 66 (places0 l ps) W ⟨hC, hcap, by show (c.body.map (ren (fun j => rd l j))).length ≤ 90000; rw [List.length_map]; exact hsm⟩ hC2 (by rw [hl]; decide) hcan (fun i hi => by
    show Live.Can (atIr (c.body.map (ren (fun j => rd l j))) i).n
    rw [atIr_map]
    exact hlit i (by have h3 : i < (c.body.map (ren (fun j => rd l j))).length := hi; rw [List.length_map] at h3; exact h3))
  rw [hl] at h
  exact h.mono fun e w' hx => rexec_fits hx (by rw [hl]; exact hof)
set_option maxHeartbeats 16000000 in
set_option maxRecDepth 100000 in
theorem rcheck_yes (c : Cod) (A : Option Addr) (cap : Nat) (l : List Int) (B : Option Addr) (capB : Nat) (ps : List Int) (D : Option Addr) (capD : Nat) (w : World) (hC : CodeAt w c A cap) (hlit : ∀ i : Nat, i < c.body.length → Live.Can (atIr c.body i).n) (hB : (Kd.int .i64).C w B l.length l) (hD : (Kd.int .i64).C w D ps.length ps) (hpc : CanL ps) {ah af : List Int} (hS : SetsIs c ah af 0) (hL : LiveIs c ah af) (hr : rightB c ah af l = true) (hp : (ps.length : Int) = c.params) (hR : fitsR c c.cells = true) :
    Calls Try.prog 38 #[.agg (c.vals A cap), .slice B l.length capB, .slice D ps.length capD] w (ExOut2 w ((execS (overC c l) (places0 l ps)).2.1, (execS (overC c l) (places0 l ps)).2.2, 0)) := by
  have HP := Aside0.mk (Rf.init hC)
  have HRI := Aside0.mk (right_is hr)
  have HLIT := Aside0.mk hlit
  have HC := Aside0.mk hC
  have HRB := Aside0.mk hB
  have HRD := Aside0.mk hD
  have HPC := Aside0.mk hpc
  have hsm := hC.small
  have HRT := Aside0.mk (fun W hb => rright_calls c A cap l B capB W (hC.below hb) (Kd.C_below hB hb) hS (.inl ⟨rfl, HRI.out.fit, hL⟩))
  rw [hr] at HRT
  have hne : ((ps.length : Int) != c.params) = false := by simpa using hp
  have hh := fits_head HRI.out.fit
  obtain ⟨nn, hnn⟩ : ∃ nn : Nat, c.cells = (nn : Int) := ⟨c.cells.toNat, by omega⟩
  have hn60 : nn ≤ 60 := by omega
  have hl60 : l.length ≤ 60 := by have := HRI.out.len; omega
  have hps60 : ps.length ≤ 60 := by omega
  have HPL := Aside0.mk hp
  have hmk : ∀ W : World, (Instr.makeSlice 26 (.int .i64 c.cells) (.int .i64 c.cells)).run Try.prog W = .ok (.slice (some ⟨W.heap.size, 0, none⟩) nn nn) (W.alloc (.cells (Array.replicate nn (.int .i64 0)) 3)) := by rw [hnn]; exact make_ints nn (by omega)
  have HEX := Aside0.mk (rzero_yes c A cap nn (by omega) hC hlit (by rw [← hnn]; exact hR))
  have HR := Aside0.mk hR
  have HOF := Aside0.mk (over_fits HRI.out hR)
  clear hC hB hS hL hr hp hh hlit hR hnn hD hpc
  go_enter Try.func38, Try.ntmps38
  go_wp2_with (go_at_call 40; refine (HRT.out _ HP.out.bel).mono ?_; rintro e w1 ⟨rfl, hb⟩; have H1 := Aside0.mk (HP.out.below hb); have hb0 := blk_cell H1.out.box 0; have hb1 := blk_cell H1.out.box 1; have hb2 := blk_cell H1.out.box 2; have hb3 := blk_cell H1.out.box 3; clear hb HP)
  go_region_held3 (fun w' => w'.cell? ⟨w.heap.size, 0, none⟩ = some (.int .i64 c.cells) ∧ w'.cell? ⟨w.heap.size, 1, none⟩ = some (.int .i64 c.params) ∧ w'.cell? ⟨w.heap.size, 2, none⟩ = some (.slice A c.body.length cap) ∧ w'.cell? ⟨w.heap.size, 3, none⟩ = some (.int .i64 c.labels)) (go_keep)
    (first | (go_at_call 65; refine (HEX.out _ _ (H1.out.bel.trans (((drew_below _).trans ((below_alloc (Below.refl _ _) _).mono (drew_below _).size)).mono H1.out.bel.size)) (blk_new _ _)).mono ?_; rintro e w2 ⟨v0, u0, t0, rfl, hb⟩; have H2 := Aside0.mk (H1.out.below (((drew_below _).trans ((below_alloc (Below.refl _ _) _).mono (drew_below _).size)).trans (hb.mono (by simp)))); have hg0 := blk_cell H2.out.box 0; have hg1 := blk_cell H2.out.box 1; have hg2 := blk_cell H2.out.box 2; have hg3 := blk_cell H2.out.box 3; clear hb))
  clear hb0 hb1 hb2 hb3 hmk H1
  have hmk : ∀ W : World, (Instr.makeSlice 26 (.int .i64 66) (.int .i64 66)).run Try.prog W = .ok (.slice (some ⟨W.heap.size, 0, none⟩) 66 66) (W.alloc (.cells (Array.replicate 66 (.int .i64 0)) 3)) := fun W => make_ints 66 (by omega) W
  have HPS := Aside0.mk (pz_init H2.out)
  go_wp2_with fail
  clear hg0 hg1 hg2 hg3 H2 hmk
  obtain ⟨g, hg⟩ : ∃ g, w2.heap.size = g := ⟨_, rfl⟩
  rw [hg] at HPS ⊢
  clear hg
  go_loopw [15] (fun iv wl => ∃ k : Nat, k ≤ 66 ∧ iv = .int .i64 k ∧ Aside0 (Pz w wl c A cap g (fillP k))) (fun iv _ => 66 - (intOf iv).toNat)
  case atStart => exact ⟨0, Nat.zero_le _, rfl, HPS⟩
  case round =>
    obtain ⟨k, hk2, rfl, HP1⟩ := hrel
    clear HPS
    by_cases hlk : k < 66
    · obtain ⟨qd, zd⟩ := HP1.out.cell (k : Int) (by omega) (by omega)
      rw [Int.toNat_natCast] at qd zd
      have HP2 := Aside0.mk (HP1.out.put HC.out (k : Int) 77)
      rw [Int.toNat_natCast] at HP2
      have hlk' : (k : Int) < 66 := by omega
      go_wp2_with fail
      go_roundw
      case rel => exact ⟨k + 1, by omega, by go_num, HP2⟩
      case measure => simp [intOf]; omega
    · have hke : k = 66 := by omega
      subst hke
      have HP2 := Aside0.mk (show Pz w _ c A cap g (putP l ps (List.replicate 66 77) 0) from by have h := HP1.out; rw [fillP_all] at h; exact h)
      clear HP1
      go_wp2_with fail
      go_loopw [16] (fun iv wl => ∃ k : Nat, k ≤ ps.length ∧ iv = .int .i64 k ∧ Aside0 (Pz w wl c A cap g (putP l ps (List.replicate 66 77) k))) (fun iv _ => ps.length - (intOf iv).toNat)
      case atStart => exact ⟨0, Nat.zero_le _, rfl, HP2⟩
      case round =>
        obtain ⟨k, hk3, rfl, HP3⟩ := hrel
        clear HP2
        by_cases hlp : k < ps.length
        · have hpk := HRI.out.params (k := k) (by have := HPL.out; omega)
          obtain ⟨bB, oB, eB, hbB, hcB⟩ := row_addr HRB.out (by omega)
          subst eB
          obtain ⟨adp, ep, hxp⟩ := Kd.at_int (Kd.C_below HRD.out HP3.out.f.bel) (k : Int) (by omega) (by omega)
          subst ep
          rw [Int.toNat_natCast] at hxp
          have hxl0 := hcB (k : Int) (by omega) (by omega)
          rw [Int.toNat_natCast] at hxl0
          have hxl := (HP3.out.f.bel.cell (p := ⟨bB, oB + k, none⟩) hbB).trans hxl0
          clear hxl0
          obtain ⟨t, ht⟩ : ∃ t, rd l (k : Int) = t := ⟨_, rfl⟩
          rw [ht] at hxl
          have ht0 : 0 ≤ t := by omega
          have ht1 : t < 66 := by omega
          have hkl : k < l.length := hpk.2.2
          obtain ⟨qd, zd⟩ := HP3.out.cell t ht0 ht1
          have HP4 := Aside0.mk (HP3.out.put HC.out t (rd ps (k : Int)))
          have HTT := Aside0.mk ht
          clear hpk ht hcB
          go_wp2_with fail
          go_region
          go_wp2_with fail
          go_roundw
          case rel => exact ⟨k + 1, by omega, by go_num, ⟨by rw [show putP l ps (List.replicate 66 77) (k + 1) = setI (putP l ps (List.replicate 66 77) k) t (rd ps (k : Int)) from by rw [← HTT.out]; rfl]; exact HP4.out.below (drew_below _)⟩⟩
          case measure => simp [intOf]; omega
        · have hke : k = ps.length := by omega
          subst hke
          have hq0 := blk_cell HP3.out.f.box 0
          have hq1 := blk_cell HP3.out.f.box 1
          have hq2 := blk_cell HP3.out.f.box 2
          have hq3 := blk_cell HP3.out.f.box 3
          have HPC2 := Aside0.mk (show CanL (places0 l ps) from putP_can HPC.out (canL_rep _ _ ⟨by decide, by decide⟩) (fun k hk => by have h := HRI.out.params (k := k) (by have := HPL.out; omega); exact ⟨h.1, by simp; omega⟩) ps.length (Nat.le_refl _))
          have HREN := Aside0.mk (renamed_calls c A cap l B capB _ (HC.out.below HP3.out.f.bel) (Kd.C_below HRB.out HP3.out.f.bel) HRI.out HR.out)
          go_wp2_with fail
          refine HREN.out.mono ?_
          rintro e w7 ⟨A6, n6, c6, rfl, hr6, hb⟩
          have HP7 := Aside0.mk (HP3.out.below hb)
          have HEO := Aside0.mk (rexec_over (l := l) (ps := ps) hr6 HP7.out.row hsm HPC2.out HLIT.out HOF.out)
          clear hb hq0 hq1 hq2 hq3 HREN HP3 hr6
          go_wp2_with fail
          refine HEO.out.mono ?_
          rintro e w8 ⟨v8, rfl, hb⟩
          have HD := Aside0.mk (HP7.out.f.below hb).bel
          clear hb HEO HP7
          go_wp2_with fail
          go_ret3
          exact ⟨rfl, HD.out⟩
theorem rcheck_calls (c : Cod) (A : Option Addr) (cap : Nat) (l : List Int) (B : Option Addr) (capB : Nat) (ps : List Int) (D : Option Addr) (capD : Nat) (w : World) (hC : CodeAt w c A cap) (hlit : ∀ i : Nat, i < c.body.length → Live.Can (atIr c.body i).n) (hB : (Kd.int .i64).C w B l.length l) (hD : (Kd.int .i64).C w D ps.length ps) (hpc : CanL ps) {ah af : List Int} {er : Int} (hS : SetsIs c ah af er) (hE : er = 0 ∧ fits c = true ∧ LiveIs c ah af ∨ er = 4 ∧ fits c = false ∧ ah = [] ∧ af = []) :
    Calls Try.prog 38 #[.agg (c.vals A cap), .slice B l.length capB, .slice D ps.length capD] w (ExOut2 w (checkS c ah af l ps)) := by
  unfold checkS
  by_cases h : rightB c ah af l = true ∧ (ps.length : Int) = c.params
  · rcases hE with ⟨rfl, hf, hL⟩ | ⟨rfl, hf, rfl, rfl⟩
    · by_cases hR : fitsR c c.cells = true
      · rw [if_pos ⟨h.1, h.2, hR⟩]
        exact rcheck_yes c A cap l B capB ps D capD w hC hlit hB hD hpc hS hL h.1 h.2 hR
      · rw [if_neg (fun e => hR e.2.2)]
        exact rcheck_no2 c A cap l B capB ps D capD w hC hlit hB hS hL h.1 h.2 (by simpa using hR)
    · have h1 := (right_is h.1).fit
      rw [hf] at h1; cases h1
  · rw [if_neg (fun e => h ⟨e.1, e.2.1⟩)]
    exact rcheck_no1 c A cap l B capB ps D capD w hC hB hS hE h
end Go.Proofs.Ytdcmeefeinppnaa.RefE
