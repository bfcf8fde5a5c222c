/- The law IselOps, walked: it returns true. -/
import Derived.Test.YtngpmijbjhpfhaaIselB
namespace Go.Proofs.Ytngpmijbjhpfhaa.Isel
open Go.RowKit Go.Proofs.YtngpmijbjhpfhaaW.PrintWords Go.Proofs.YtngpmijbjhpfhaaW.PrintLast Go.Proofs.Ytngpmijbjhpfhaa.Mem
open PIselOps (S42 S40 k42 k40 k42_open k42_mkM k42_mk rd_T42)
set_option linter.unusedVariables false
set_option linter.unusedSimpArgs false

theorem row_C {w W : World} {base : Nat} {v : Value} {l : List S42} {e : Nat} {ok : Nat → Prop} (h : k42.R e W base ok v l) : ∃ A c, v = .slice A l.length c ∧ l.length ≤ c ∧ k42.C W A l.length l := Kd.R_reads h
set_option maxHeartbeats 4000000 in
set_option maxRecDepth 100000 in
theorem examples_calls (w : World) : Calls Try.prog 4 #[] w fun e w' => e = .returned (.bool true) ∧ Below w.heap.size w w' := by
  go_enter Try.func4, Try.ntmps4
  go_wp2_with fail
  refine (op_106 _).mono ?_
  rintro e w1 ⟨v, rfl, hR, hb1⟩
  have hR2 := toS_R hR
  have HB := Aside0.mk hb1
  obtain ⟨A1, c1, rfl, hc1, hC1⟩ := Kd.R_reads hR2
  have HC1 := Aside0.mk hC1
  have HL := Aside0.mk (Rr.lit hb1 [⟨⟨3, false, 1, 0, 0, 0, 0⟩, 0, 0⟩] (by simp))
  clear hR hR2 hb1 hC1
  go_wp2_with fail
  refine (same_calls (l := [⟨⟨3, false, 1, 0, 0, 0, 0⟩, 0, 0⟩]) (Kd.C_alloc HC1.out _) hc1 (Kd.R_reads' HL.out.row).2.2 (Nat.le_refl _) (by simp)).mono ?_
  rintro e w2 ⟨rfl, hb⟩
  have HB2 := Aside0.mk (HL.out.below hb).bel
  clear HB HC1 HL hb
  go_wp2_with fail
  refine (itraps_calls 1 _).mono ?_
  rintro e w3 ⟨v3, rfl, hR3, hb3⟩
  obtain ⟨A3, c3, rfl⟩ := Kd.R_slice hR3
  rw [show (trapS 1).length = 14 from rfl]
  have HB3 := Aside0.mk (HB2.out.trans (hb3.mono HB2.out.size))
  clear hR3 hb3 HB2
  go_wp2_with fail
  refine (itraps_calls 2 _).mono ?_
  rintro e w4 ⟨v4, rfl, hR4, hb4⟩
  obtain ⟨A4, c4, rfl⟩ := Kd.R_slice hR4
  rw [show (trapS 2).length = 0 from rfl]
  have HB4 := Aside0.mk (HB3.out.trans (hb4.mono HB3.out.size))
  clear hR4 hb4 HB3
  go_wp2_with fail
  go_ret
  exact ⟨rfl, HB4.out⟩

/-- the law's own: the module in its box -/
structure Ms (w W : World) (cs : Array Value) : Prop where
  bel : Below w.heap.size w W
  box : W.heap[w.heap.size]? = some (.cells cs 29 (0, 0))
theorem Ms.below {w W W1 : World} {cs : Array Value} (h : Ms w W cs) (hb : Below W.heap.size W W1) : Ms w W1 cs := ⟨h.bel.trans (hb.mono h.bel.size), blk_below h.box hb⟩
set_option maxHeartbeats 8000000 in
set_option maxRecDepth 100000 in
theorem law_walk (A1 A2 A3 A4 A5 : Option Addr) (n1 n2 n3 n4 n5 c1 c2 c3 c4 c5 : Nat) (op m0 m1 k off n first : Int) (w : World) :
    Calls Try.prog 3 #[.int .i64 op, .agg #[.slice A1 n1 c1, .slice A2 n2 c2, .slice A3 n3 c3, .int .i64 m0, .int .i64 m1, .slice A4 n4 c4, .slice A5 n5 c5], .int .i64 k, .int .i64 off, .int .i64 n, .int .i64 first] w
      fun e w' => e = .returned (.bool true) ∧ Below w.heap.size w w' := by
  obtain ⟨l, nl, ok, hl, ho, hr⟩ := both_ops op
  have HO := Aside0.mk ho
  have HR := Aside0.mk hr
  have HM := Aside0.mk (show Ms w (w.alloc (.cells #[.slice A1 n1 c1, .slice A2 n2 c2, .slice A3 n3 c3, .int .i64 m0, .int .i64 m1, .slice A4 n4 c4, .slice A5 n5 c5] 29)) _ from ⟨(Below.refl _ _).alloc (Nat.le_refl _) _, blk_new _ _⟩)
  clear ho hr
  obtain ⟨lt, hlt⟩ : ∃ lt, trapS first = lt := ⟨_, rfl⟩
  have hltl := trapS_len first
  have HT1 := Aside0.mk (itraps_calls first)
  have HT2 := Aside0.mk (rtraps_calls first)
  rw [hlt] at hltl HT1 HT2
  clear hlt
  obtain ⟨la, hla⟩ : ∃ la, addrF m0 m1 k off n = la := ⟨_, rfl⟩
  obtain ⟨oka, hoka⟩ : ∃ oka, addrOk m0 m1 k off n = oka := ⟨_, rfl⟩
  have hlal : la.length ≤ 100 := by rw [← hla]; unfold addrF; split <;> simp [addrS]
  have HA1 := Aside0.mk (fun W => addr_calls (A1 := A1) (A2 := A2) (A3 := A3) (A4 := A4) (A5 := A5) (n1 := n1) (n2 := n2) (n3 := n3) (n4 := n4) (n5 := n5) (c1 := c1) (c2 := c2) (c3 := c3) (c4 := c4) (c5 := c5) m0 m1 k off n W)
  have HA2 := Aside0.mk (fun W => raddr_calls (A1 := A1) (A2 := A2) (A3 := A3) (A4 := A4) (A5 := A5) (n1 := n1) (n2 := n2) (n3 := n3) (n4 := n4) (n5 := n5) (c1 := c1) (c2 := c2) (c3 := c3) (c4 := c4) (c5 := c5) m0 m1 k off n W)
  rw [hla, hoka] at HA1 HA2
  clear hla hoka
  go_enter Try.func3, Try.ntmps3
  go_wp2_with fail
  refine (examples_calls _).mono ?_
  rintro e w1 ⟨rfl, hb⟩
  replace HM := Aside0.mk (HM.out.below hb)
  clear hb
  go_wp2_with fail
  refine (HO.out _).mono ?_
  rintro e w2 ⟨v2, rfl, hR2, hb⟩
  replace HM := Aside0.mk (HM.out.below hb)
  obtain ⟨B2, d2, rfl, hd2, hC2⟩ := Kd.R_reads hR2
  have HC2 := Aside0.mk hC2
  clear hb hR2 hC2 HO
  go_wp2_with fail
  refine (HR.out _).mono ?_
  rintro e w3 ⟨v3, rfl, hR3, hb⟩
  replace HM := Aside0.mk (HM.out.below hb)
  replace HC2 := Aside0.mk (Kd.C_below HC2.out hb)
  obtain ⟨B3, d3, rfl, hd3, hC3⟩ := Kd.R_reads hR3
  have HC3 := Aside0.mk hC3
  clear hb hR3 hC3 HR
  go_wp2_with fail
  refine (same_calls HC2.out hd2 HC3.out hd3 (by omega)).mono ?_
  rintro e w4 ⟨rfl, hb⟩
  replace HM := Aside0.mk (HM.out.below hb)
  clear hb HC2 HC3
  have hm0 := blk_cell HM.out.box 0
  have hm1 := blk_cell HM.out.box 1
  have hm2 := blk_cell HM.out.box 2
  have hm3 := blk_cell HM.out.box 3
  have hm4 := blk_cell HM.out.box 4
  have hm5 := blk_cell HM.out.box 5
  have hm6 := blk_cell HM.out.box 6
  go_wp2_with fail
  refine (HA1.out _).mono ?_
  rintro e w5 ⟨v5, rfl, hR5, hb⟩
  replace HM := Aside0.mk (HM.out.below hb)
  obtain ⟨B5, d5, rfl, hd5, hC5⟩ := Kd.R_reads hR5
  have HC5 := Aside0.mk hC5
  clear hm0 hm1 hm2 hm3 hm4 hm5 hm6 hb hR5 hC5 HA1
  have hm0 := blk_cell HM.out.box 0
  have hm1 := blk_cell HM.out.box 1
  have hm2 := blk_cell HM.out.box 2
  have hm3 := blk_cell HM.out.box 3
  have hm4 := blk_cell HM.out.box 4
  have hm5 := blk_cell HM.out.box 5
  have hm6 := blk_cell HM.out.box 6
  go_wp2_with fail
  refine (HA2.out _).mono ?_
  rintro e w6 ⟨v6, rfl, hR6, hb⟩
  replace HM := Aside0.mk (HM.out.below hb)
  replace HC5 := Aside0.mk (Kd.C_below HC5.out hb)
  obtain ⟨B6, d6, rfl, hd6, hC6⟩ := Kd.R_reads hR6
  have HC6 := Aside0.mk hC6
  clear hm0 hm1 hm2 hm3 hm4 hm5 hm6 hb hR6 hC6 HA2
  go_wp2_with fail
  refine (same_calls HC5.out hd5 HC6.out hd6 (by omega)).mono ?_
  rintro e w7 ⟨rfl, hb⟩
  replace HM := Aside0.mk (HM.out.below hb)
  clear hb HC5 HC6
  go_wp2_with fail
  refine (HT1.out _).mono ?_
  rintro e w8 ⟨v8, rfl, hR8, hb⟩
  replace HM := Aside0.mk (HM.out.below hb)
  obtain ⟨B8, d8, rfl, hd8, hC8⟩ := Kd.R_reads hR8
  have HC8 := Aside0.mk hC8
  clear hb hR8 hC8 HT1
  go_wp2_with fail
  refine (HT2.out _).mono ?_
  rintro e w9 ⟨v9, rfl, hR9, hb⟩
  replace HM := Aside0.mk (HM.out.below hb)
  replace HC8 := Aside0.mk (Kd.C_below HC8.out hb)
  obtain ⟨B9, d9, rfl, hd9, hC9⟩ := Kd.R_reads hR9
  have HC9 := Aside0.mk hC9
  clear hb hR9 hC9 HT2
  go_wp2_with fail
  refine (same_calls HC8.out hd8 HC9.out hd9 (by omega)).mono ?_
  rintro e w10 ⟨rfl, hb⟩
  replace HM := Aside0.mk (HM.out.below hb)
  clear hb HC8 HC9
  have hnn : (nl == nl) = true := by simp
  have hok : (ok == ok) = true := by simp
  have hoka : (oka == oka) = true := by simp
  go_wp2_with fail
  go_ret
  exact ⟨rfl, HM.out.bel⟩
end Go.Proofs.Ytngpmijbjhpfhaa.Isel
