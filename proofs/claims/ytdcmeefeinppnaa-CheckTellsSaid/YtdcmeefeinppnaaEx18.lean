/- The examples of chapter 18 are so. -/
import Derived.Test.YtdcmeefeinppnaaCheckF
namespace Go.Proofs.Ytdcmeefeinppnaa.Check
open Go.RowKit Go.Proofs.YtdcmeefeinppnaaW.PrintWords Go.Proofs.YtdcmeefeinppnaaW.PrintLast Go.Proofs.YtdcmeefeinppnaaW.PrintMore Go.Proofs.Ytdcmeefeinppnaa.Mem Go.Proofs.Ytdcmeefeinppnaa.Ir Go.Proofs.Ytdcmeefeinppnaa.Live Go.Proofs.Ytdcmeefeinppnaa.Rsem
open Uses (uses)
set_option linter.unusedVariables false
set_option linter.unusedSimpArgs false

def c18 : Cod := ⟨2, 0, [⟨1, 0, 0, 0, 0, 4, 0⟩, ⟨1, 1, 0, 0, 0, 3, 0⟩, ⟨3, 0, 0, 1, 0, 106, 0⟩, ⟨15, 0, 0, 0, 0, 0, 0⟩], 0⟩
theorem u0 : uses 1 0 0 0 = [] := uses_none 1 0 0 0 (by omega)
theorem u1 : uses 3 0 1 0 = [0, 1] := uses_two 3 0 1 (by omega) (by omega)
theorem u2 : uses 15 0 0 0 = [0] := uses_one 15 0 0 0 (by omega)
theorem us18 : usesTab c18 = [[], [], [0, 1], [0]] := by
  show [uses 1 0 0 0, uses 1 0 0 0, uses 3 0 1 0, uses 15 0 0 0] = _
  rw [u0, u1, u2]
theorem ws18 : waysOf c18 = [[1], [2], [3], []] := by kernel_rfl
theorem fits18 : fits c18 = true := (fits_tab us18).trans (by kernel_rfl)
theorem sets18 : SetsIs c18 [0, 1, 3, 1] [1, 3, 1, 0] 0 :=
  ⟨fun _ => ⟨rfl, 3, by rw [ws18, iter_tab us18]; kernel_rfl⟩, fun h => by rw [fits18] at h; cases h⟩
theorem live18 : LiveIs c18 [0, 1, 3, 1] [1, 3, 1, 0] := by
  refine ⟨rfl, rfl, fun i hi => ?_, fun i hi => ?_⟩
  · have hi : i < 4 := hi
    rw [ws18, step_tab us18 _ _ hi]
    rcases (by omega : i = 0 ∨ i = 1 ∨ i = 2 ∨ i = 3) with rfl | rfl | rfl | rfl <;> (show _ = _; kernel_rfl)
  · have hi : i < 4 := hi
    rw [ws18]
    rcases (by omega : i = 0 ∨ i = 1 ∨ i = 2 ∨ i = 3) with rfl | rfl | rfl | rfl <;> (show _ = _; kernel_rfl)
theorem ends18 : (0 : Int) = 0 ∧ fits c18 = true ∧ LiveIs c18 [0, 1, 3, 1] [1, 3, 1, 0] ∨ (0 : Int) = 4 ∧ fits c18 = false ∧ ([0, 1, 3, 1] : List Int) = [] ∧ ([1, 3, 1, 0] : List Int) = [] := .inl ⟨rfl, fits18, live18⟩
theorem cross18 (a : Nat) : inB (crossS c18 [1, 3, 1, 0] 4) (a : Int) = false := by
  rw [show crossS c18 [1, 3, 1, 0] 4 = 0 by kernel_rfl]
  exact inB_zero a
theorem right18a : rightB c18 [0, 1, 3, 1] [1, 3, 1, 0] [0, 0] = false := right_at (a := 1) (by decide) (row_clash (b := 0) (by decide) rfl (by kernel_rfl))
theorem right18 (p q : Int) (h0 : 0 ≤ p) (h1 : p ≤ 65) (h2 : 0 ≤ q) (h3 : q ≤ 65) (hne : q ≠ p) : rightB c18 [0, 1, 3, 1] [1, 3, 1, 0] [p, q] = true := by
  refine right_of ⟨fits18, rfl, fun a ha => ?_, fun a b ha hb he => ?_⟩
  · have ha : a < 2 := ha
    have hr : 0 ≤ rd [p, q] (a : Int) ∧ rd [p, q] (a : Int) ≤ 65 := by
      rcases (by omega : a = 0 ∨ a = 1) with rfl | rfl
      · exact ⟨h0, h1⟩
      · exact ⟨h2, h3⟩
    exact ⟨by omega, by omega, by rw [decide_eq_false (by omega)]; simp, by rw [show c18.body.length = 4 from rfl, cross18]; rfl⟩
  · have ha : a < 2 := ha
    obtain rfl : a = 1 := by omega
    obtain rfl : b = 0 := by omega
    exact absurd he hne
theorem fitsR18 : fitsR c18 c18.cells = true := by
  show (okR c18 2 ⟨1, 0, 0, 0, 0, 4, 0⟩ && (okR c18 2 ⟨1, 1, 0, 0, 0, 3, 0⟩ && (okR c18 2 ⟨3, 0, 0, 1, 0, 106, 0⟩ && (okR c18 2 ⟨15, 0, 0, 0, 0, 0, 0⟩ && true)))) && decide ((2 : Int) = 2) = true
  unfold okR
  rw [show uses (Ir.mk 1 0 0 0 0 4 0).op (Ir.mk 1 0 0 0 0 4 0).a (Ir.mk 1 0 0 0 0 4 0).b (Ir.mk 1 0 0 0 0 4 0).c = [] from u0, show uses (Ir.mk 3 0 0 1 0 106 0).op (Ir.mk 3 0 0 1 0 106 0).a (Ir.mk 3 0 0 1 0 106 0).b (Ir.mk 3 0 0 1 0 106 0).c = [0, 1] from u1, show uses (Ir.mk 15 0 0 0 0 0 0).op (Ir.mk 15 0 0 0 0 0 0).a (Ir.mk 15 0 0 0 0 0 0).b (Ir.mk 15 0 0 0 0 0 0).c = [0] from u2]
  kernel_rfl
theorem check18 : checkS c18 [0, 1, 3, 1] [1, 3, 1, 0] [3, 9] [] = (7, 0, 0) := by
  unfold checkS
  rw [if_pos ⟨right18 3 9 (by decide) (by decide) (by decide) (by decide) (by decide), rfl, fitsR18⟩]
  kernel_rfl
theorem lit18 : ∀ i : Nat, i < c18.body.length → Live.Can (atIr c18.body i).n := by
  intro i hi
  have hi : i < 4 := hi
  rcases (by omega : i = 0 ∨ i = 1 ∨ i = 2 ∨ i = 3) with rfl | rfl | rfl | rfl <;> exact ⟨by decide, by decide⟩
structure E8 (w W : World) (A : Option Addr) : Prop where
  bel : Below w.heap.size w W
  code : CodeAt W c18 A 4
  box : W.heap[w.heap.size + 1]? = some (.cells (c18.vals A 4) 24 (0, 0))
theorem E8.below {w W W1 : World} {A : Option Addr} (h : E8 w W A) (hb : Below W.heap.size W W1) : E8 w W1 A := ⟨h.bel.trans (hb.mono h.bel.size), h.code.below hb, blk_below h.box hb⟩
theorem e8_init (w : World) : E8 w ((w.alloc (.cells #[.int .i64 1, .int .i64 0, .int .i64 0, .int .i64 0, .int .i64 0, .int .i64 4, .int .i64 0, .int .i64 1, .int .i64 1, .int .i64 0, .int .i64 0, .int .i64 0, .int .i64 3, .int .i64 0, .int .i64 3, .int .i64 0, .int .i64 0, .int .i64 1, .int .i64 0, .int .i64 106, .int .i64 0, .int .i64 15, .int .i64 0, .int .i64 0, .int .i64 0, .int .i64 0, .int .i64 0, .int .i64 0] 38)).alloc (.cells (c18.vals (some ⟨w.heap.size, 0, none⟩) 4) 24)) (some ⟨w.heap.size, 0, none⟩) := by
  have h1 := blk_alloc (blk_new w (.cells #[.int .i64 1, .int .i64 0, .int .i64 0, .int .i64 0, .int .i64 0, .int .i64 4, .int .i64 0, .int .i64 1, .int .i64 1, .int .i64 0, .int .i64 0, .int .i64 0, .int .i64 3, .int .i64 0, .int .i64 3, .int .i64 0, .int .i64 0, .int .i64 1, .int .i64 0, .int .i64 106, .int .i64 0, .int .i64 15, .int .i64 0, .int .i64 0, .int .i64 0, .int .i64 0, .int .i64 0, .int .i64 0] 38)) (.cells (c18.vals (some ⟨w.heap.size, 0, none⟩) 4) 24)
  have h2 := blk_new (w.alloc (.cells #[.int .i64 1, .int .i64 0, .int .i64 0, .int .i64 0, .int .i64 0, .int .i64 4, .int .i64 0, .int .i64 1, .int .i64 1, .int .i64 0, .int .i64 0, .int .i64 0, .int .i64 3, .int .i64 0, .int .i64 3, .int .i64 0, .int .i64 0, .int .i64 1, .int .i64 0, .int .i64 106, .int .i64 0, .int .i64 15, .int .i64 0, .int .i64 0, .int .i64 0, .int .i64 0, .int .i64 0, .int .i64 0] 38)) (.cells (c18.vals (some ⟨w.heap.size, 0, none⟩) 4) 24)
  rw [World.size_alloc] at h2
  exact ⟨((Below.refl _ _).alloc (Nat.le_refl _) _).alloc (by simp) _, ⟨C_block c18.body (by decide) _ rfl h1, by decide, by decide⟩, h2⟩
theorem e8_all (w : World) : E8 w ((((w.alloc (.cells #[.int .i64 1, .int .i64 0, .int .i64 0, .int .i64 0, .int .i64 0, .int .i64 4, .int .i64 0, .int .i64 1, .int .i64 1, .int .i64 0, .int .i64 0, .int .i64 0, .int .i64 3, .int .i64 0, .int .i64 3, .int .i64 0, .int .i64 0, .int .i64 1, .int .i64 0, .int .i64 106, .int .i64 0, .int .i64 15, .int .i64 0, .int .i64 0, .int .i64 0, .int .i64 0, .int .i64 0, .int .i64 0] 38)).alloc (.cells (c18.vals (some ⟨w.heap.size, 0, none⟩) 4) 24))).alloc (.cells #[.int .i64 3, .int .i64 9] 3)) (some ⟨w.heap.size, 0, none⟩) ∧ ((((w.alloc (.cells #[.int .i64 1, .int .i64 0, .int .i64 0, .int .i64 0, .int .i64 0, .int .i64 4, .int .i64 0, .int .i64 1, .int .i64 1, .int .i64 0, .int .i64 0, .int .i64 0, .int .i64 3, .int .i64 0, .int .i64 3, .int .i64 0, .int .i64 0, .int .i64 1, .int .i64 0, .int .i64 106, .int .i64 0, .int .i64 15, .int .i64 0, .int .i64 0, .int .i64 0, .int .i64 0, .int .i64 0, .int .i64 0] 38)).alloc (.cells (c18.vals (some ⟨w.heap.size, 0, none⟩) 4) 24))).alloc (.cells #[.int .i64 3, .int .i64 9] 3)).heap[w.heap.size + 1 + 1]? = some (.cells #[.int .i64 3, .int .i64 9] 3 (0, 0)) := by
  refine ⟨(e8_init w).below (below_alloc (Below.refl _ _) _), ?_⟩
  have h := blk_new (((w.alloc (.cells #[.int .i64 1, .int .i64 0, .int .i64 0, .int .i64 0, .int .i64 0, .int .i64 4, .int .i64 0, .int .i64 1, .int .i64 1, .int .i64 0, .int .i64 0, .int .i64 0, .int .i64 3, .int .i64 0, .int .i64 3, .int .i64 0, .int .i64 0, .int .i64 1, .int .i64 0, .int .i64 106, .int .i64 0, .int .i64 15, .int .i64 0, .int .i64 0, .int .i64 0, .int .i64 0, .int .i64 0, .int .i64 0] 38)).alloc (.cells (c18.vals (some ⟨w.heap.size, 0, none⟩) 4) 24))) (.cells #[.int .i64 3, .int .i64 9] 3)
  rw [World.size_alloc, World.size_alloc] at h
  exact h
theorem exec18 (A : Option Addr) (w : World) (hC : CodeAt w c18 A 4) (g : Nat) (hg : w.heap[g]? = some (.cells #[.int .i64 3, .int .i64 9] 3 (0, 0))) : Calls Try.prog 37 #[.agg (c18.vals A 4), .slice (some ⟨g, 0, none⟩) 2 2, .slice none 0 0] w fun e w' => e = .returned (.tuple #[.int .i64 7, .int .i64 0, .int .i64 0]) ∧ Below w.heap.size w w' := by
  have h := check_calls c18 A 4 [3, 9] (some ⟨g, 0, none⟩) 2 [] none 0 w hC lit18 (C_ints [3, 9] (by decide) hg) (by decide) (Kd.C_nil _ _) (fun i => ⟨by simp [rd], by simp [rd]⟩) sets18 ends18
  rw [check18] at h
  exact h
theorem rightA (A : Option Addr) (w : World) (hC : CodeAt w c18 A 4) (g : Nat) (hg : w.heap[g]? = some (.cells #[.int .i64 0, .int .i64 0] 3 (0, 0))) : Calls Try.prog 39 #[.agg (c18.vals A 4), .slice (some ⟨g, 0, none⟩) 2 2] w fun e w' => e = .returned (.bool false) ∧ Below w.heap.size w w' := by
  have h := right_calls c18 A 4 [0, 0] (some ⟨g, 0, none⟩) 2 w hC (C_ints [0, 0] (by decide) hg) (by decide) sets18 ends18
  rw [right18a] at h
  exact h
theorem rightC (A : Option Addr) (w : World) (hC : CodeAt w c18 A 4) (g : Nat) (hg : w.heap[g]? = some (.cells #[.int .i64 5, .int .i64 0] 3 (0, 0))) : Calls Try.prog 39 #[.agg (c18.vals A 4), .slice (some ⟨g, 0, none⟩) 2 2] w fun e w' => e = .returned (.bool true) ∧ Below w.heap.size w w' := by
  have h := right_calls c18 A 4 [5, 0] (some ⟨g, 0, none⟩) 2 w hC (C_ints [5, 0] (by decide) hg) (by decide) sets18 ends18
  rw [right18 5 0 (by decide) (by decide) (by decide) (by decide) (by decide)] at h
  exact h
set_option maxHeartbeats 2000000 in
set_option maxRecDepth 100000 in
theorem examples_calls (w : World) : Calls Try.prog 36 #[] w fun e w' => e = .returned (.bool true) ∧ Below w.heap.size w w' := by
  have HE := Aside0.mk (e8_all w)
  go_enter Try.func36, Try.ntmps36
  go_wp2_with fail
  refine (exec18 (some ⟨w.heap.size, 0, none⟩) _ HE.out.1.code (w.heap.size + 1 + 1) HE.out.2).mono ?_
  rintro e w1 ⟨rfl, hb1⟩
  have HE1 := Aside0.mk (HE.out.1.below hb1)
  have hbx0 := blk_cell HE1.out.box 0
  have hbx1 := blk_cell HE1.out.box 1
  have hbx2 := blk_cell HE1.out.box 2
  have hbx3 := blk_cell HE1.out.box 3
  clear hb1 HE
  go_wp2_with fail
  refine (rightA (some ⟨w.heap.size, 0, none⟩) _ (HE1.out.below (below_alloc (Below.refl _ _) _)).code w1.heap.size (blk_new _ _)).mono ?_
  rintro e w2 ⟨rfl, hb2⟩
  have HE2 := Aside0.mk ((HE1.out.below (below_alloc (Below.refl _ _) (.cells #[.int .i64 0, .int .i64 0] 3))).below hb2)
  clear hbx0 hbx1 hbx2 hbx3
  have hbx0 := blk_cell HE2.out.box 0
  have hbx1 := blk_cell HE2.out.box 1
  have hbx2 := blk_cell HE2.out.box 2
  have hbx3 := blk_cell HE2.out.box 3
  clear hb2 HE1
  go_wp2_with fail
  refine (rightC (some ⟨w.heap.size, 0, none⟩) _ (HE2.out.below (below_alloc (Below.refl _ _) _)).code w2.heap.size (blk_new _ _)).mono ?_
  rintro e w3 ⟨rfl, hb3⟩
  have HE3 := Aside0.mk ((HE2.out.below (below_alloc (Below.refl _ _) (.cells #[.int .i64 5, .int .i64 0] 3))).below hb3)
  clear hbx0 hbx1 hbx2 hbx3 hb3 HE2
  go_wp2_with fail
  go_ret
  exact ⟨rfl, HE3.out.bel⟩
end Go.Proofs.Ytdcmeefeinppnaa.Check
