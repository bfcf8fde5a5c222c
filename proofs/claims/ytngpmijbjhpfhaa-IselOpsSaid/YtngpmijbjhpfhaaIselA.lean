/- isel.Traps and isel.Address. -/
import Derived.Test.YtngpmijbjhpfhaaIselS
namespace Go.Proofs.Ytngpmijbjhpfhaa.Isel
open Go.RowKit Go.Proofs.YtngpmijbjhpfhaaW.PrintWords Go.Proofs.YtngpmijbjhpfhaaW.PrintLast Go.Proofs.Ytngpmijbjhpfhaa.Mem
set_option linter.unusedVariables false
set_option linter.unusedSimpArgs false

def RowOut (w : World) (l : List Item) (e : Ending) (w' : World) : Prop := ∃ v, e = .returned v ∧ kItem.R 42 w' w.heap.size (fun _ => True) v l ∧ Below w.heap.size w w'
def trapL : Nat → List Item
  | 0 => []
  | q + 1 => trapL q ++ [⟨zX, 1 + (q : Int), 0⟩, ⟨⟨2, true, 0, 0, 0, 0, (q : Int) + 2⟩, 0, 0⟩, ⟨⟨22, false, 0, 0, 0, 0, 0⟩, 0, 0⟩]
theorem trapL_len (q : Nat) : (trapL q).length = 3 * q := by
  induction q with
  | zero => rfl
  | succ q ih => simp [trapL, ih]; omega
def trapsL : List Item := trapL 4 ++ [⟨zX, 5, 0⟩, ⟨⟨21, false, 0, 0, 0, 0, 0⟩, 0, 0⟩]
structure Tp (w W : World) (g b : Nat) (v : Value) (xs : List Item) : Prop where
  c : Cd w W g v xs
  k : W.heap[b]? = some (Obj.cells #[.int .i64 2, .int .i64 3, .int .i64 4, .int .i64 5] 3 (0, 0))
set_option maxHeartbeats 4000000 in
theorem traps_calls (first : Int) (w : World) : Calls Try.prog 10 #[.int .i64 first] w (RowOut w (if first = 1 then trapsL else [])) := by
  by_cases hf : first = 1
  · subst hf
    rw [if_pos rfl]
    have HC := Aside0.mk (Cd.init (Below.refl w.heap.size w))
    have hT : Tp w ((w.alloc (.cells #[.slice none 0 0] 45)).alloc (.cells #[.int .i64 2, .int .i64 3, .int .i64 4, .int .i64 5] 3)) w.heap.size (w.heap.size + 1) (.slice none 0 0) (trapL 0) :=
      ⟨HC.out.alloc _, by have h := blk_new (w.alloc (.cells #[.slice none 0 0] 45)) (.cells #[.int .i64 2, .int .i64 3, .int .i64 4, .int .i64 5] 3); simp only [World.size_alloc] at h; exact h⟩
    have HT := Aside0.mk hT
    clear HC hT
    go_enter Try.func10, Try.ntmps10
    go_wp2_with fail
    go_loopw [4, 5, 10] (fun iv tv jv wr => ∃ (q : Nat) (v' : Value), q ≤ 4 ∧ jv = .int .i64 q ∧ Aside0 (Tp w wr w.heap.size (w.heap.size + 1) v' (trapL q))) (fun _ _ jv _ => 4 - (intOf jv).toNat)
    case atStart => exact ⟨0, _, by omega, rfl, HT⟩
    case round =>
      obtain ⟨q, v', hq, rfl, HT1⟩ := hrel
      clear HT
      have hlen := trapL_len q
      by_cases hq4 : q < 4
      · have hk : wr.cell? ⟨w.heap.size + 1, q, none⟩ = some (.int .i64 ((q : Int) + 2)) := by
          rw [blk_cell HT1.out.k]
          rcases (by omega : q = 0 ∨ q = 1 ∨ q = 2 ∨ q = 3) with rfl | rfl | rfl | rfl <;> rfl
        go_wp2_with fail
        refine (mark_calls HT1.out.c _ (by omega)).mono ?_
        rintro e W1 ⟨rfl, v1, hC, hK⟩
        have HT2 := Aside0.mk (Tp.mk hC (hK _ _ _ (by decide) (by decide) HT1.out.k))
        clear HT1 hC hK hk
        go_wp2_with (go_at_call 18; refine (num_calls _ _ _).mono ?_; rintro e w' ⟨rfl, hb⟩; have HT3 := Aside0.mk (Tp.mk (HT2.out.c.below hb) (blk_below HT2.out.k hb)); clear hb)
        clear HT2
        refine (x_calls (HT3.out.c.alloc _) _ [⟨2, true, 0, 0, 0, 0, (q : Int) + 2⟩, ⟨22, false, 0, 0, 0, 0, 0⟩] 2 (blk_new _ _) (by simp; omega)).mono ?_
        rintro e W2 ⟨rfl, v2, hC, hK⟩
        have HT4 := Aside0.mk (Tp.mk hC (hK _ _ _ (by decide) (by decide) (blk_alloc HT3.out.k _)))
        clear HT3 hC hK
        go_wp2_with fail
        go_roundw
        case rel => exact ⟨q + 1, _, by omega, by go_num, by have h := HT4; simpa [trapL, is] using h⟩
        case measure => simp [intOf]; omega
      · have hq5 : q = 4 := by omega
        subst hq5
        go_wp2_with fail
        refine (mark_calls HT1.out.c 5 (by omega)).mono ?_
        rintro e W1 ⟨rfl, v1, hC, hK⟩
        have HT2 := Aside0.mk hC
        clear HT1 hC hK
        go_wp2_with fail
        refine (x_calls (HT2.out.alloc _) _ [⟨21, false, 0, 0, 0, 0, 0⟩] 1 (blk_new _ _) (by simp; omega)).mono ?_
        rintro e W2 ⟨rfl, v2, hC, hK⟩
        have HT3 := Aside0.mk hC
        clear HT2 hC hK
        have hc := blk_cell HT3.out.box 0
        go_wp2_with fail
        go_ret
        refine ⟨_, rfl, ?_, HT3.out.bel⟩
        have h := Kd.R_mono HT3.out.row (fun _ _ => trivial)
        simpa [trapsL, is] using h
  · rw [if_neg hf]
    have hfb : (first != 1) = true := by simpa using hf
    go_enter Try.func10, Try.ntmps10
    go_wp2_with fail
    go_ret
    exact ⟨_, rfl, Kd.R_nil _ _ _ _ _, Below.refl _ _⟩
end Go.Proofs.Ytngpmijbjhpfhaa.Isel
