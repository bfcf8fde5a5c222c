/- alloc.clashes: the rows of bits that tell who clashes with whom. -/
import Derived.Test.YtdcmeefeinppnaaNote
namespace Go.Proofs.Ytdcmeefeinppnaa.Live
open Go.RowKit Go.Proofs.YtdcmeefeinppnaaW.PrintWords Go.Proofs.YtdcmeefeinppnaaW.PrintLast Go.Proofs.YtdcmeefeinppnaaW.PrintMore Go.Proofs.Ytdcmeefeinppnaa.Mem Go.Proofs.Ytdcmeefeinppnaa.Ir
set_option linter.unusedVariables false
set_option linter.unusedSimpArgs false

theorem note_calls {c : Cod} {A : Option Addr} {cap bm bc g nn : Nat} {ms : List Int} (a set : Int) {w : World} (H : Mt w c A cap bm bc g ms) (hms : ms.length = nn) (hcn : c.cells = (nn : Int)) (hnn : nn ≤ 60) (ha0 : 0 ≤ a) (ha1 : a < nn) :
    Calls Try.prog 73 #[.int .i64 a, .int .i64 set, .pointer (some ⟨bm, 0, none⟩), .pointer (some ⟨bc, 0, none⟩)] w fun e w' => e = .returned (.tuple #[]) ∧ Mt w' c A cap bm bc g (noteM nn a set ms) ∧ Ch w w' (fun k => k = g) :=
  callsIn_wide.1 (note_in Fence.wide 3 trivial trivial trivial rfl (Nat.le_refl _) c A cap bm bc g nn ms a set w H hms hcn hnn ha0 ha1)
def dM (c : Cod) (af : List Int) (nn : Nat) : Nat → List Int
  | 0 => List.replicate nn 0
  | k + 1 => if 0 ≤ defs (atIr c.body k) then noteM nn (defs (atIr c.body k)) (rd af (k : Int)) (dM c af nn k) else dM c af nn k
def parS (c : Cod) : Int := wrap64 (wrap64 (2 ^ c.params.toNat) - 1)
def pM (c : Cod) (ah : List Int) (nn : Nat) (m0 : List Int) : Nat → List Int
  | 0 => m0
  | a + 1 => if 0 < ah.length ∧ inB (rd ah 0) (a : Int) = true then noteM nn (a : Int) (parS c) (pM c ah nn m0 a) else pM c ah nn m0 a
theorem noteM_len (n : Nat) (a set : Int) (ms : List Int) : (noteM n a set ms).length = ms.length := by unfold noteM; rw [noteL_len, orAt_len]
theorem dM_len (c : Cod) (af : List Int) (nn : Nat) (k : Nat) : (dM c af nn k).length = nn := by
  induction k with
  | zero => simp [dM]
  | succ k ih => unfold dM; split; rw [noteM_len]; exact ih; exact ih
theorem pM_len (c : Cod) (ah : List Int) (nn : Nat) {m0 : List Int} (h : m0.length = nn) (k : Nat) : (pM c ah nn m0 k).length = nn := by
  induction k with
  | zero => exact h
  | succ k ih => unfold pM; split; rw [noteM_len]; exact ih; exact ih
def meetM (c : Cod) (ah af : List Int) (nn : Nat) : List Int := pM c ah nn (dM c af nn c.body.length) c.params.toNat
/-- before the rows of bits are made -/
structure Cv (w V : World) (c : Cod) (A : Option Addr) (cap : Nat) (Aa Af : Option Addr) (ah af : List Int) : Prop where
  f : Rf w V c A cap
  ra : (Kd.int .i64).C V Aa ah.length ah
  rf : (Kd.int .i64).C V Af af.length af
/-- behind it -/
structure Cs (w V W : World) (c : Cod) (A : Option Addr) (cap : Nat) (Aa Af : Option Addr) (ah af : List Int) (bm g : Nat) (ms : List Int) : Prop where
  cv : Cv w V c A cap Aa Af ah af
  v : Below V.heap.size V W
  mt : Mt W c A cap bm w.heap.size g ms
  gV : V.heap.size ≤ g
  mV : V.heap.size ≤ bm
section
variable {w V W W1 : World} {c : Cod} {A Aa Af : Option Addr} {cap bm g : Nat} {ah af ms ms1 : List Int}
theorem Cs.below (h : Cs w V W c A cap Aa Af ah af bm g ms) (hb : Below W.heap.size W W1) : Cs w V W1 c A cap Aa Af ah af bm g ms := ⟨h.cv, h.v.trans (hb.mono h.v.size), h.mt.below hb, h.gV, h.mV⟩
theorem Cs.note (h : Cs w V W c A cap Aa Af ah af bm g ms) (hm : Mt W1 c A cap bm w.heap.size g ms1) (hc : Ch W W1 (fun k => k = g)) : Cs w V W1 c A cap Aa Af ah af bm g ms1 :=
  ⟨h.cv, ⟨hc.os.trans h.v.os, hc.tape.trans h.v.tape, hc.output.trans h.v.output, Nat.le_trans h.v.size hc.size, fun i hi => (hc.block i (Nat.lt_of_lt_of_le hi h.v.size) (fun e => by have := h.gV; omega)).trans (h.v.block i hi)⟩, hm, h.gV, h.mV⟩
theorem Cs.f (h : Cs w V W c A cap Aa Af ah af bm g ms) : Rf w W c A cap := h.cv.f.below h.v
theorem Cs.ra (h : Cs w V W c A cap Aa Af ah af bm g ms) : (Kd.int .i64).C W Aa ah.length ah := Kd.C_below h.cv.ra h.v
theorem Cs.rf (h : Cs w V W c A cap Aa Af ah af bm g ms) : (Kd.int .i64).C W Af af.length af := Kd.C_below h.cv.rf h.v
end
def ClashesOut (w : World) (c : Cod) (A : Option Addr) (cap : Nat) (ms : List Int) (e : Ending) (W : World) : Prop :=
  ∃ bm g, e = .returned (.func (.func 74) #[] #[.pointer (some ⟨bm, 0, none⟩)]) ∧ W.heap[bm]? = some (.cells #[.slice (some ⟨g, 0, none⟩) ms.length ms.length] 26 (0, 0)) ∧ W.heap[g]? = some (.cells (ints ms) 3 (0, 0)) ∧ w.heap.size ≤ bm ∧ w.heap.size ≤ g ∧ Below w.heap.size w W

set_option maxHeartbeats 8000000 in
set_option maxRecDepth 100000 in
theorem clashes_calls (c : Cod) (A : Option Addr) (cap : Nat) (w : World) (hC : CodeAt w c A cap) {ah af : List Int} (hS : SetsIs c ah af 0) (hf : fits c = true) (hl : LiveIs c ah af) (nn : Nat) (hcn : c.cells = (nn : Int)) :
    Calls Try.prog 55 #[.agg (c.vals A cap)] w (ClashesOut w c A cap (meetM c ah af nn)) := by
  have HP := Aside0.mk (Rf.init hC)
  have hs := hC.small
  have hh := fits_head hf
  have HF := Aside0.mk hf
  have HL := Aside0.mk hl
  have hp0 : 0 ≤ c.params := hh.2.2.1
  have hp64 : c.params < 64 := by omega
  have hnn : nn ≤ 60 := by omega
  have hpn : c.params ≤ nn := by omega
  obtain ⟨pp, hpp⟩ : ∃ pp : Nat, c.params = (pp : Int) := ⟨c.params.toNat, by omega⟩
  have HPP := Aside0.mk hpp
  have HCN := Aside0.mk hcn
  have hppn : pp ≤ nn := by omega
  clear hC hf hl hpp hcn hp0 hp64 hpn hh
  go_enter Try.func55, Try.ntmps55
  go_wp2_with fail
  refine (after_calls hS A cap _ HP.out.code).mono ?_
  rintro e w1 ⟨v1, rfl, hR1, hb1⟩
  obtain ⟨Af, cf, rfl, hcf, hCf⟩ := Kd.R_reads hR1
  have HQ := Aside0.mk (And.intro (HP.out.below hb1) hCf)
  have hy0 := blk_cell HQ.out.1.box 0
  have hy1 := blk_cell HQ.out.1.box 1
  have hy2 := blk_cell HQ.out.1.box 2
  have hy3 := blk_cell HQ.out.1.box 3
  clear hR1 hb1 hCf HP
  go_wp2_with fail
  refine (ahead_calls hS A cap _ HQ.out.1.code).mono ?_
  rintro e w2 ⟨v2, rfl, hR2, hb2⟩
  obtain ⟨Aa, ca, rfl, hca, hCa⟩ := Kd.R_reads hR2
  have HV := Aside0.mk (show Cv w w2 c A cap Aa Af ah af from ⟨HQ.out.1.below hb2, hCa, Kd.C_below HQ.out.2 hb2⟩)
  clear hR2 hb2 hCa HQ hy0 hy1 hy2 hy3
  have hz0 : w2.cell? ⟨w.heap.size, 0, none⟩ = some (.int .i64 (nn : Int)) := by rw [blk_cell HV.out.f.box 0, ← HCN.out]; rfl
  have hmk := make_ints nn (by omega)
  have HS := Aside0.mk (show Cs w w2 ((w2.alloc (.cells (Array.replicate nn (.int .i64 0)) 3)).alloc (.cells #[.slice (some ⟨w2.heap.size, 0, none⟩) nn nn] 26)) c A cap Aa Af ah af (w2.heap.size + 1) w2.heap.size (dM c af nn 0) from by
    have g1 := blk_alloc (blk_new w2 (.cells (Array.replicate nn (.int .i64 0)) 3)) (.cells #[.slice (some ⟨w2.heap.size, 0, none⟩) nn nn] 26)
    have g2 := blk_new (w2.alloc (.cells (Array.replicate nn (.int .i64 0)) 3)) (.cells #[.slice (some ⟨w2.heap.size, 0, none⟩) nn nn] 26)
    rw [World.size_alloc] at g2
    refine ⟨HV.out, ((Below.refl _ _).alloc (Nat.le_refl _) _).alloc (by simp) _, ⟨?_, blk_alloc (blk_alloc HV.out.f.box _) _, ?_⟩, Nat.le_refl _, by omega⟩
    · rw [dM_len]; exact g2
    · rw [g1, ← zeros_map]; rfl)
  have hd2 := blk_cell HS.out.f.box 2
  go_wp2_with fail
  clear hd2 hmk hz0 HV
  go_loopw [30] (fun iv wr => ∃ k : Nat, k ≤ c.body.length ∧ iv = .int .i64 k ∧ Aside0 (Cs w w2 wr c A cap Aa Af ah af (w2.heap.size + 1) w2.heap.size (dM c af nn k))) (fun iv _ => c.body.length - (intOf iv).toNat)
  case atStart => exact ⟨0, Nat.zero_le _, rfl, HS⟩
  case round =>
    obtain ⟨k, hk, rfl, HS1⟩ := hrel
    clear HS
    by_cases hlt : k < c.body.length
    · have hkl : (k : Int) < af.length := by rw [HL.out.lf]; omega
      obtain ⟨ad, e, hx0, hx1, hx2, hx3, hx4, hx5, hx6⟩ := at_ir HS1.out.f.code.row k hlt
      subst e
      obtain ⟨adf, ef, _⟩ := Kd.at_int HS1.out.rf (k : Int) (by omega) hkl
      subst ef
      have HDF := Aside0.mk (okIr_def (fits_ir HF.out k hlt))
      have HNX := Aside0.mk (show dM c af nn (k + 1) = if 0 ≤ defs (atIr c.body k) then noteM nn (defs (atIr c.body k)) (rd af (k : Int)) (dM c af nn k) else dM c af nn k from rfl)
      obtain ⟨x, hx⟩ : ∃ x, atIr c.body k = x := ⟨_, rfl⟩
      rw [hx] at hx0 hx1 hx2 hx3 hx4 hx5 hx6 HDF HNX
      clear hx
      obtain ⟨op, dst, a, b, cc, n, m⟩ := x
      dsimp only at hx0 hx1 hx2 hx3 hx4 hx5 hx6
      obtain ⟨d, hd⟩ : ∃ d, defs ⟨op, dst, a, b, cc, n, m⟩ = d := ⟨_, rfl⟩
      rw [hd] at HDF HNX
      have HD := Aside0.mk hd
      clear hd
      by_cases hge : 0 ≤ d
      · have hgb : decide (0 ≤ d) = true := decide_eq_true hge
        rw [if_pos hge] at HNX
        have hdn : d < (nn : Int) := by have := HDF.out; rw [HCN.out] at this; omega
        go_wp2_with (first
          | (go_at_call 22; refine (defs_calls' HD.out _).mono ?_; rintro e w3 ⟨rfl, hb⟩; have HS2 := Aside0.mk ((HS1.out.below ((Below.refl _ _).alloc (Nat.le_refl _) _)).below hb); clear hb; obtain ⟨ad3, e3, hq⟩ := Kd.at_int HS2.out.rf (k : Int) (by omega) hkl; cases e3; rw [Int.toNat_natCast] at hq)
          | (go_at_call 73; refine (note_calls _ _ HS2.out.mt (dM_len _ _ _ _) HCN.out hnn hge hdn).mono ?_; rintro e w4 ⟨rfl, hm, hc⟩; have HS4 := Aside0.mk (HS2.out.note hm hc); clear hm hc))
        go_roundw
        case rel => exact ⟨k + 1, by omega, by go_num, by rw [HNX.out]; exact HS4⟩
        case measure => simp [intOf]; omega
      · have hgb : decide (0 ≤ d) = false := decide_eq_false hge
        rw [if_neg hge] at HNX
        go_wp2_with (go_at_call 22; refine (defs_calls' HD.out _).mono ?_; rintro e w3 ⟨rfl, hb⟩; have HS2 := Aside0.mk ((HS1.out.below ((Below.refl _ _).alloc (Nat.le_refl _) _)).below hb); clear hb)
        go_roundw
        case rel => exact ⟨k + 1, by omega, by go_num, by rw [HNX.out]; exact HS2⟩
        case measure => simp [intOf]; omega
    · have hke : k = c.body.length := by omega
      have HS2 : Aside0 (Cs w w2 wr c A cap Aa Af ah af (w2.heap.size + 1) w2.heap.size (pM c ah nn (dM c af nn c.body.length) 0)) := by rw [← hke]; exact HS1
      have hb1 : wr.cell? ⟨w.heap.size, 1, none⟩ = some (.int .i64 (pp : Int)) := by rw [blk_cell HS1.out.f.box 1, ← HPP.out]; rfl
      clear HS1 hke
      go_wp2_with fail
      clear hb1
      go_loopw [12, 49] (fun _ jv wq => ∃ a : Nat, a ≤ pp ∧ jv = .int .i64 a ∧ Aside0 (Cs w w2 wq c A cap Aa Af ah af (w2.heap.size + 1) w2.heap.size (pM c ah nn (dM c af nn c.body.length) a))) (fun _ jv _ => pp - (intOf jv).toNat)
      case atStart => exact ⟨0, Nat.zero_le _, rfl, HS2⟩
      case round =>
        obtain ⟨a, ha, rfl, HS3⟩ := hrel
        clear HS2
        by_cases hal : a < pp
        · have HNX := Aside0.mk (show pM c ah nn (dM c af nn c.body.length) (a + 1) = if 0 < ah.length ∧ inB (rd ah 0) (a : Int) = true then noteM nn (a : Int) (parS c) (pM c ah nn (dM c af nn c.body.length) a) else pM c ah nn (dM c af nn c.body.length) a from rfl)
          by_cases h0 : 0 < ah.length
          · have hgb : decide ((0 : Int) < (ah.length : Int)) = true := decide_eq_true (by omega)
            have hgn : decide (0 < ah.length) = true := decide_eq_true h0
            have h0n : 0 < ah.length := h0
            obtain ⟨ada, ea, hqa⟩ := Kd.at_int HS3.out.ra (0 : Int) (by omega) (by omega)
            subst ea
            have hqb : wr.cell? ada = some (.int .i64 (rd ah 0)) := by
              have h := hqa
              rw [show ((0 : Int).toNat) = 0 from rfl, show ada.add 0 = ada from by unfold Addr.add; simp] at h
              exact h
            cases hbt : inB (rd ah 0) (a : Int) with
            | true =>
              have hbit : (Go.bits .and .i64 (rd ah 0 / 2 ^ a) 1 != 0) = true := by have h := hbt; unfold inB at h; rwa [Int.toNat_natCast] at h
              have hb1 : wr.cell? ⟨w.heap.size, 1, none⟩ = some (.int .i64 (pp : Int)) := by rw [blk_cell HS3.out.f.box 1, ← HPP.out]; rfl
              rw [if_pos ⟨h0, hbt⟩] at HNX
              have HPS := Aside0.mk (show parS c = wrap64 (wrap64 (2 ^ pp) - 1) by unfold parS; rw [HPP.out, Int.toNat_natCast])
              clear hbt h0
              have h60 : (a : Int) ≤ 60 := by omega
              have hp64 : (pp : Int) < 64 := by omega
              go_wp2_with (go_at_call 73; rw [← HPS.out]; refine (note_calls _ _ HS3.out.mt (pM_len c ah nn (dM_len _ _ _ _) _) HCN.out hnn (by omega) (by omega)).mono ?_; rintro e w4 ⟨rfl, hm, hc⟩; have HS4 := Aside0.mk (HS3.out.note hm hc); clear hm hc)
              go_roundw
              case rel => exact ⟨a + 1, by omega, by go_num, by rw [HNX.out]; exact HS4⟩
              case measure => simp [intOf]; omega
            | false =>
              have hbit : (Go.bits .and .i64 (rd ah 0 / 2 ^ a) 1 != 0) = false := by have h := hbt; unfold inB at h; rwa [Int.toNat_natCast] at h
              rw [if_neg (fun e => by rw [hbt] at e; exact absurd e.2 (by simp))] at HNX
              clear hbt h0
              have h60 : (a : Int) ≤ 60 := by omega
              go_wp2_with fail
              go_roundw
              case rel => exact ⟨a + 1, by omega, by go_num, by rw [HNX.out]; exact HS3⟩
              case measure => simp [intOf]; omega
          · have hgb : decide ((0 : Int) < (ah.length : Int)) = false := decide_eq_false (by omega)
            have hgn : decide (0 < ah.length) = false := decide_eq_false h0
            rw [if_neg (fun e => h0 e.1)] at HNX
            clear h0
            go_wp2_with fail
            go_roundw
            case rel => exact ⟨a + 1, by omega, by go_num, by rw [HNX.out]; exact HS3⟩
            case measure => simp [intOf]; omega
        · have hae : a = c.params.toNat := by rw [HPP.out]; omega
          subst hae
          go_wp2_with fail
          go_ret
          exact ⟨_, _, rfl, HS3.out.mt.vm, HS3.out.mt.row, Nat.le_trans HS3.out.cv.f.bel.size HS3.out.mV, Nat.le_trans HS3.out.cv.f.bel.size HS3.out.gV, HS3.out.f.bel⟩
end Go.Proofs.Ytdcmeefeinppnaa.Live
