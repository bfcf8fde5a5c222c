/- check.Right: may places be so? -/
import Derived.Test.YtdcmeefeinppnaaNamedPure
import Derived.WalkMore
namespace Go.Proofs.Ytdcmeefeinppnaa.Live
open Go.RowKit Go.Proofs.YtdcmeefeinppnaaW.PrintWords Go.Proofs.YtdcmeefeinppnaaW.PrintLast Go.Proofs.YtdcmeefeinppnaaW.PrintMore Go.Proofs.Ytdcmeefeinppnaa.Mem Go.Proofs.Ytdcmeefeinppnaa.Ir
open Uses (uses)
set_option linter.unusedVariables false
set_option linter.unusedSimpArgs false

theorem inB_ne (s : Int) (k : Nat) : (Go.bits .and .i64 (s / 2 ^ k) 1 != 0) = inB s (k : Int) := by
  unfold inB
  rw [Int.toNat_natCast]
/-- one cell's place -/
def rowB (c : Cod) (ah af l : List Int) (a : Nat) : Bool :=
  !(decide (rd l (a : Int) < -1)) && !(decide (65 < rd l (a : Int))) && !(inB (namedN c c.body.length) (a : Int) && decide (rd l (a : Int) < 0)) && !(inB (crossS c af c.body.length) (a : Int) && decide (rd l (a : Int) < 6)) && (List.range a).all (fun b => !(decide (rd l (a : Int) = rd l (b : Int)) && clashB c ah af (a : Int) (b : Int)))
def rightB (c : Cod) (ah af l : List Int) : Bool := fits c && decide ((l.length : Int) = c.cells) && (List.range l.length).all (rowB c ah af l)
structure RowsOk (c : Cod) (ah af l : List Int) (a : Nat) : Prop where
  all : ∀ j, j < a → rowB c ah af l j = true
theorem RowsOk.next {c : Cod} {ah af l : List Int} {a : Nat} (h : RowsOk c ah af l a) (ho : rowB c ah af l a = true) : RowsOk c ah af l (a + 1) :=
  ⟨fun j hj => by
    by_cases e : j = a
    · rw [e]; exact ho
    · exact h.all j (by omega)⟩
theorem right_at {c : Cod} {ah af l : List Int} {a : Nat} (ha : a < l.length) (h : rowB c ah af l a = false) : rightB c ah af l = false := by
  unfold rightB
  rw [Bool.and_eq_false_iff]; right
  rw [List.all_eq_false]
  exact ⟨a, List.mem_range.2 ha, by simp [h]⟩
theorem right_all {c : Cod} {ah af l : List Int} (hf : fits c = true) (hl : (l.length : Int) = c.cells) (h : RowsOk c ah af l l.length) : rightB c ah af l = true := by
  unfold rightB
  rw [hf, Bool.true_and, Bool.and_eq_true, decide_eq_true_iff, List.all_eq_true]
  exact ⟨hl, fun a ha => h.all a (List.mem_range.1 ha)⟩
/-- what is right so far of one cell, of the cells ahead of b -/
structure InnerOk (c : Cod) (ah af l : List Int) (a b : Nat) : Prop where
  all : ∀ j, j < b → rd l (a : Int) = rd l (j : Int) → clashB c ah af (a : Int) (j : Int) = false
theorem InnerOk.next {c : Cod} {ah af l : List Int} {a b : Nat} (h : InnerOk c ah af l a b) (ho : rd l (a : Int) = rd l (b : Int) → clashB c ah af (a : Int) (b : Int) = false) : InnerOk c ah af l a (b + 1) :=
  ⟨fun j hj => by
    by_cases e : j = b
    · rw [e]; exact ho
    · exact h.all j (by omega)⟩
/-- what is asked of a place but for the others -/
structure OneOk (c : Cod) (af l : List Int) (a : Nat) : Prop where
  lo : ¬ rd l (a : Int) < -1
  hi : ¬ 65 < rd l (a : Int)
  nm : (inB (namedN c c.body.length) (a : Int) && decide (rd l (a : Int) < 0)) = false
  cr : (inB (crossS c af c.body.length) (a : Int) && decide (rd l (a : Int) < 6)) = false
theorem row_yes {c : Cod} {ah af l : List Int} {a : Nat} (h1 : OneOk c af l a) (h2 : InnerOk c ah af l a a) : rowB c ah af l a = true := by
  unfold rowB
  rw [h1.nm, h1.cr, decide_eq_false h1.lo, decide_eq_false h1.hi]
  simp only [Bool.not_false, Bool.true_and, List.all_eq_true]
  intro b hb
  have h3 := h2.all b (List.mem_range.1 hb)
  by_cases e : rd l (a : Int) = rd l (b : Int)
  · rw [h3 e]; simp
  · rw [decide_eq_false e]; rfl
/-- a cell in no place clashes with none -/
theorem row_none {c : Cod} {ah af l : List Int} {a : Nat} (hS : SetsIs c ah af 0) (hf : fits c = true) (hl : LiveIs c ah af) (ha : (a : Int) < c.cells) (h1 : OneOk c af l a) (h0 : rd l (a : Int) < 0) : rowB c ah af l a = true := by
  refine row_yes h1 ⟨fun b hb _ => ?_⟩
  have hh := fits_head hf
  cases hc : clashB c ah af (a : Int) (b : Int) with
  | false => rfl
  | true =>
    have h2 := (clash_named hS hf hl (by omega) (by omega) hc).1
    have h3 := h1.nm
    rw [h2, decide_eq_true h0] at h3
    cases h3
theorem clash_val {c : Cod} {ah af : List Int} {a b : Nat} (ha : (a : Int) < c.cells) (hb : b < a) : clashR c ah af 0 (a : Int) (b : Int) = (clashB c ah af (a : Int) (b : Int), 0) := by
  unfold clashR clashBad
  rw [if_neg (by simp; omega), if_neg (by omega)]
theorem row_clash {c : Cod} {ah af l : List Int} {a b : Nat} (hb : b < a) (he : rd l (a : Int) = rd l (b : Int)) (hc : clashB c ah af (a : Int) (b : Int) = true) : rowB c ah af l a = false := by
  unfold rowB
  rw [Bool.and_eq_false_iff]; right
  rw [List.all_eq_false]
  exact ⟨b, List.mem_range.2 hb, by rw [decide_eq_true he, hc]; decide⟩
def RightOut (w : World) (r : Bool) (e : Ending) (w' : World) : Prop := e = .returned (.bool r) ∧ Below w.heap.size w w'
set_option maxHeartbeats 8000000 in
set_option maxRecDepth 100000 in
theorem right_calls (c : Cod) (A : Option Addr) (cap : Nat) (l : List Int) (B : Option Addr) (capB : Nat) (w : World) (hC : CodeAt w c A cap) (hB : (Kd.int .i64).C w B l.length l) (hcapB : l.length ≤ capB) {ah af : List Int} {er : Int} (hS : SetsIs c ah af er) (hE : er = 0 ∧ fits c = true ∧ LiveIs c ah af ∨ er = 4 ∧ fits c = false ∧ ah = [] ∧ af = []) :
    Calls Try.prog 39 #[.agg (c.vals A cap), .slice B l.length capB] w (RightOut w (rightB c ah af l)) := by
  have HP := Aside0.mk (Rf.init hC)
  have HROW := Aside0.mk hB
  have hs := hC.small
  have HS := Aside0.mk hS
  have HN := Aside0.mk (named_calls c A cap)
  have HCR := Aside0.mk (fun w h => cross_calls c A cap w h hS hE)
  clear hC hB hS
  rcases hE with ⟨rfl, hf, hl⟩ | ⟨rfl, hf, rfl, rfl⟩
  · have HF := Aside0.mk hf
    have HLI := Aside0.mk hl
    unfold NamedOut at HN
    unfold CrossOut at HCR
    rw [if_pos hf, if_pos hf] at HN
    rw [if_pos hf] at HCR
    have hh := fits_head hf
    have hc60 := hh.2.1
    clear hh
    by_cases hcl : (l.length : Int) = c.cells
    · have hclb : ((l.length : Int) != c.cells) = false := by simp [hcl]
      have HCL := Aside0.mk hcl
      have HL60 := Aside0.mk (show l.length ≤ 60 by omega)
      clear hcl hf hl hc60
      go_enter Try.func39, Try.ntmps39
      go_wp2_with fail
      go_step3
      go_wp2_with fail
      refine (HN.out _ HP.out.code).mono ?_
      rintro e w1 ⟨rfl, hb⟩
      have H1 := Aside0.mk (HP.out.below hb)
      have hbx0 := blk_cell H1.out.box 0
      have hbx1 := blk_cell H1.out.box 1
      have hbx2 := blk_cell H1.out.box 2
      have hbx3 := blk_cell H1.out.box 3
      clear hb HP
      go_wp2_with fail
      refine (HCR.out _ H1.out.code).mono ?_
      rintro e w2 ⟨rfl, hb⟩
      have H2 := Aside0.mk (H1.out.below hb)
      obtain ⟨nm, hnm⟩ : ∃ nm, namedN c c.body.length = nm := ⟨_, rfl⟩
      obtain ⟨cr, hcr⟩ : ∃ cr, crossS c af c.body.length = cr := ⟨_, rfl⟩
      have HNM := Aside0.mk hnm
      have HCRS := Aside0.mk hcr
      rw [hnm, hcr]
      clear hb hnm hcr H1 hbx0 hbx1 hbx2 hbx3 HN HCR
      go_wp2_with fail
      go_step3
      go_wp2_with fail
      go_loopg [36] l.length (fun g iv wr => ∃ a : Nat, a + g = l.length ∧ iv = .int .i64 a ∧ Aside0 (RowsOk c ah af l a) ∧ Aside0 (Rf w wr c A cap))
      case atStart => exact ⟨0, by omega, rfl, ⟨⟨fun j hj => by omega⟩⟩, H2⟩
      case round =>
        obtain ⟨a, hag, rfl, HR, HQ⟩ := hrel
        clear H2
        obtain ⟨go, rfl⟩ : ∃ go, go = gk := ⟨_, rfl⟩
        obtain ⟨wo, rfl⟩ : ∃ wo : World, wo = wr := ⟨_, rfl⟩
        by_cases hlt : a < l.length
        · obtain ⟨ad, e, hx⟩ := Kd.at_int (Kd.C_below HROW.out HQ.out.bel) (a : Int) (by omega) (by omega)
          subst e
          rw [Int.toNat_natCast] at hx
          obtain ⟨p, hp⟩ : ∃ p, rd l (a : Int) = p := ⟨_, rfl⟩
          rw [hp] at hx
          have HPP := Aside0.mk hp
          clear hp
          have hl60 := HL60.out
          have ha60 : a < 60 := by omega
          clear hl60
          by_cases h1 : p < -1
          · have g1 := decide_eq_true h1
            have HO := Aside0.mk (show rowB c ah af l a = false from by unfold rowB; rw [HPP.out, g1]; rfl)
            clear h1
            go_wp2_with fail
            go_ret
            exact ⟨by rw [right_at hlt HO.out]; rfl, HQ.out.bel⟩
          have g1 := decide_eq_false h1
          by_cases h2 : 65 < p
          · have g2 := decide_eq_true h2
            have HO := Aside0.mk (show rowB c ah af l a = false from by unfold rowB; rw [HPP.out, g2]; simp)
            clear h1 h2
            go_wp2_with fail
            go_ret
            exact ⟨by rw [right_at hlt HO.out]; rfl, HQ.out.bel⟩
          have g2 := decide_eq_false h2
          by_cases h3 : (inB nm (a : Int) && decide (p < 0)) = true
          · have HO := Aside0.mk (show rowB c ah af l a = false from by unfold rowB; rw [HPP.out, HNM.out, h3]; simp)
            rw [Bool.and_eq_true] at h3
            have g3 := h3.2
            have g4 := (inB_ne nm a).trans h3.1
            clear h1 h2 h3
            go_wp2_with fail
            go_ret
            exact ⟨by rw [right_at hlt HO.out]; rfl, HQ.out.bel⟩
          replace h3 : (inB nm (a : Int) && decide (p < 0)) = false := by simpa using h3
          by_cases h4 : (inB cr (a : Int) && decide (p < 6)) = true
          · have HO := Aside0.mk (show rowB c ah af l a = false from by unfold rowB; rw [HPP.out, HCRS.out, h4]; simp)
            rw [Bool.and_eq_true] at h4
            have g7 := h4.2
            have g6 := (inB_ne cr a).trans h4.1
            cases hbn : inB nm (a : Int) with
            | true =>
              have g4 := (inB_ne nm a).trans hbn
              have g5 : decide (p < 0) = false := by rw [hbn, Bool.true_and] at h3; exact h3
              clear h1 h2 h3 h4 hbn
              go_wp2_with fail
              go_ret
              exact ⟨by rw [right_at hlt HO.out]; rfl, HQ.out.bel⟩
            | false =>
              have g4 := (inB_ne nm a).trans hbn
              clear h1 h2 h3 h4 hbn
              go_wp2_with fail
              go_ret
              exact ⟨by rw [right_at hlt HO.out]; rfl, HQ.out.bel⟩
          replace h4 : (inB cr (a : Int) && decide (p < 6)) = false := by simpa using h4
          have HONE := Aside0.mk (show OneOk c af l a from ⟨by rw [HPP.out]; exact h1, by rw [HPP.out]; exact h2, by rw [HPP.out, HNM.out]; exact h3, by rw [HPP.out, HCRS.out]; exact h4⟩)
          have hac : (a : Int) ≤ (capB : Int) := by omega
          cases hbn : inB nm (a : Int)
          all_goals cases hbc : inB cr (a : Int)
          all_goals by_cases h0 : p < 0
          all_goals first
            | (exfalso; simp [hbn, hbc] at h3 h4; omega)
            | skip
          all_goals
            have g4 := (inB_ne nm a).trans hbn
            have g6 := (inB_ne cr a).trans hbc
            have g5 : decide (p < 0) = _ := Bool.eq_iff_iff.2 (by first | exact (iff_of_true (decide_eq_true h0) rfl : _ ↔ true = true) | exact (iff_of_false (fun e => h0 (of_decide_eq_true e)) (by decide) : _ ↔ false = true))
            first
              | (have g7 : decide (p < 6) = false := by (rw [hbc, Bool.true_and] at h4; exact h4))
              | skip
            clear h1 h2 h3 h4 hbn hbc h0
            go_wp2_with fail
            go_loopg [71] a (fun g' jv wl => ∃ b : Nat, b + g' = a ∧ jv = .int .i64 b ∧ Aside0 (InnerOk c ah af l a b) ∧ Aside0 (Rf w wl c A cap))
            case atStart => exact ⟨0, by omega, rfl, ⟨⟨fun j hj => by omega⟩⟩, HQ⟩
            case round =>
              obtain ⟨b, hbg, rfl, HI, HQ2⟩ := hrel
              clear HQ
              cases gk with
              | zero =>
                obtain rfl : b = a := by omega
                have hbb : ¬ b < b := Nat.lt_irrefl _
                obtain ⟨g1', rfl⟩ : ∃ g', go = g' + 1 := ⟨go - 1, by omega⟩
                go_wp2_with fail
                go_roundg g1'
                case rel => exact ⟨b + 1, by omega, by go_num, ⟨HR.out.next (row_yes HONE.out HI.out)⟩, HQ2⟩
                case measure => omega
              | succ gi =>
                have hlb : b < a := by omega
                have hla : b < l.length := by omega
                obtain ⟨ad2, e2, hx2⟩ := Kd.at_int (Kd.C_below HROW.out HQ2.out.bel) (b : Int) (by omega) (by omega)
                cases e2
                rw [Int.toNat_natCast] at hx2
                obtain ⟨q, hq⟩ : ∃ q, rd l (b : Int) = q := ⟨_, rfl⟩
                rw [hq] at hx2
                have HQQ := Aside0.mk hq
                clear hq
                by_cases hpq : p = q
                · subst hpq
                  have hpb : (p != p) = false := by simp
                  have hbx0 := blk_cell HQ2.out.box 0
                  have hbx1 := blk_cell HQ2.out.box 1
                  have hbx2 := blk_cell HQ2.out.box 2
                  have hbx3 := blk_cell HQ2.out.box 3
                  have HCV := Aside0.mk (clash_val (ah := ah) (af := af) (show (a : Int) < c.cells by have := HCL.out; omega) hlb)
                  cases hcl : clashB c ah af (a : Int) (b : Int) with
                  | true =>
                    rw [hcl] at HCV
                    have HO := Aside0.mk (row_clash (c := c) (ah := ah) (af := af) (l := l) hlb (by rw [HPP.out, HQQ.out]) hcl)
                    clear hcl
                    go_wp2_with (go_at_call 24; refine (clash_calls HS.out (fun _ => HLI.out.lf) (fun _ => (fits_head HF.out).2.1) A cap _ _ _ HQ2.out.code).mono ?_; rw [HCV.out]; rintro e w5 ⟨rfl, hb⟩; have HQ3 := Aside0.mk (HQ2.out.below hb); clear hb)
                    go_ret
                    exact ⟨by rw [right_at hlt HO.out]; rfl, HQ3.out.bel⟩
                  | false =>
                    rw [hcl] at HCV
                    have HNX := Aside0.mk (HI.out.next (b := b) (fun _ => hcl))
                    clear hcl
                    go_wp2_with (go_at_call 24; refine (clash_calls HS.out (fun _ => HLI.out.lf) (fun _ => (fits_head HF.out).2.1) A cap _ _ _ HQ2.out.code).mono ?_; rw [HCV.out]; rintro e w5 ⟨rfl, hb⟩; have HQ3 := Aside0.mk (HQ2.out.below hb); clear hb)
                    first
                      | (go_roundg gi
                         case rel => exact ⟨b + 1, by omega, by go_num, HNX, HQ3⟩
                         case measure => omega)
                      | (obtain ⟨g1', rfl⟩ : ∃ g', go = g' + 1 := ⟨go - 1, by omega⟩
                         go_roundg g1'
                         case rel => exact ⟨a + 1, by omega, by go_num, ⟨HR.out.next (row_none HS.out HF.out HLI.out (by have := HCL.out; omega) HONE.out (by rw [HPP.out]; exact of_decide_eq_true g5))⟩, HQ3⟩
                         case measure => omega)
                · have hpb : (p != q) = true := by simp [hpq]
                  have HNX := Aside0.mk (HI.out.next (b := b) (fun e => absurd (by rw [HPP.out, HQQ.out] at e; exact e) hpq))
                  clear hpq
                  go_wp2_with fail
                  go_roundg gi
                  case rel => exact ⟨b + 1, by omega, by go_num, HNX, HQ2⟩
                  case measure => omega
        · have hae : a = l.length := by omega
          subst hae
          have HD := Aside0.mk HQ.out.bel
          go_wp2_with fail
          try rw [Exit.noGoto_ret]
          go_ret
          exact ⟨by rw [right_all HF.out HCL.out HR.out]; rfl, HD.out⟩
    · have hclb : ((l.length : Int) != c.cells) = true := by simp [hcl]
      have HO := Aside0.mk (show rightB c ah af l = false from by unfold rightB; rw [decide_eq_false hcl]; simp)
      clear hcl hf hl hc60
      go_enter Try.func39, Try.ntmps39
      go_wp2_with fail
      go_step3
      go_wp2_with fail
      refine (HN.out _ HP.out.code).mono ?_
      rintro e w1 ⟨rfl, hb⟩
      have H1 := Aside0.mk (HP.out.below hb)
      have hbx0 := blk_cell H1.out.box 0
      clear hb HP
      go_wp2_with fail
      try rw [Exit.noGoto_ret]
      go_ret
      exact ⟨by rw [HO.out]; rfl, H1.out.bel⟩
  · unfold NamedOut at HN
    rw [if_neg (by rw [hf]; simp), if_neg (by rw [hf]; simp)] at HN
    have HO := Aside0.mk (show rightB c [] [] l = false from by unfold rightB; rw [hf]; rfl)
    clear hf
    go_enter Try.func39, Try.ntmps39
    go_wp2_with fail
    go_step3
    go_wp2_with fail
    refine (HN.out _ HP.out.code).mono ?_
    rintro e w1 ⟨rfl, hb⟩
    have H1 := Aside0.mk (HP.out.below hb)
    clear hb HP
    go_wp2_with fail
    try rw [Exit.noGoto_ret]
    go_ret
    exact ⟨by rw [HO.out]; rfl, H1.out.bel⟩
end Go.Proofs.Ytdcmeefeinppnaa.Live
