/- A code whose body is cut off. -/
import Derived.Test.YtdcmeefeinppnaaLiveEnd
namespace Go.Proofs.Ytdcmeefeinppnaa.Live
open Go.RowKit Go.Proofs.YtdcmeefeinppnaaW.PrintWords Go.Proofs.YtdcmeefeinppnaaW.PrintLast Go.Proofs.YtdcmeefeinppnaaW.PrintMore Go.Proofs.Ytdcmeefeinppnaa.Mem Go.Proofs.Ytdcmeefeinppnaa.Ir
set_option linter.unusedVariables false
set_option linter.unusedSimpArgs false

/-- the code's box, its body cut off -/
structure Bx (w W : World) (c : Cod) (A : Option Addr) (cap : Nat) : Prop where
  bel : Below w.heap.size w W
  sz : w.heap.size + 1 ≤ W.heap.size
  box : W.heap[w.heap.size]? = some (.cells (c.vals A cap) 24 (0, 0))
  code : CodeAt W c A cap
theorem Bx.below {w W W1 : World} {c : Cod} {A : Option Addr} {cap : Nat} (h : Bx w W c A cap) (hb : Below W.heap.size W W1) : Bx w W1 c A cap :=
  ⟨h.bel.trans (hb.mono (by have := h.sz; omega)), Nat.le_trans h.sz hb.size, blk_below h.box hb, h.code.below hb⟩
theorem Bx.cut {w W : World} {cells params labels : Int} {L L' : List Ir} {A : Option Addr} {cap : Nat} (hbel : Below w.heap.size w W) (hsz : w.heap.size + 1 ≤ W.heap.size) (hbox : W.heap[w.heap.size]? = some (.cells #[.int .i64 cells, .int .i64 params, .slice A L.length cap, .int .i64 labels] 24 (0, 0)))
    (hC : kIr.C w A L.length L) (hcap : L.length ≤ cap) (m : Nat) (hL : L' = L.take m) (hm : m ≤ 90000) :
    Bx w (W.setCell ⟨w.heap.size, 2, none⟩ (.slice A L'.length cap)) ⟨cells, params, L', labels⟩ A cap := by
  have h1 := blk_set hbox 2 (.slice A L'.length cap)
  have hl : L'.length ≤ L.length := by rw [hL, List.length_take]; omega
  refine ⟨hbel.setCell (Nat.le_refl _) _, by simpa using hsz, h1, ⟨?_, Nat.le_trans hl hcap, by show L'.length ≤ 90000; rw [hL, List.length_take]; omega⟩⟩
  show kIr.C _ A L'.length L'
  have h2 : kIr.C w A L'.length L' := by
    by_cases h : m ≤ L.length
    · rw [hL]
      exact Kd.C_take hC h
    · have : L' = L := by rw [hL, List.take_of_length_le (by omega)]
      rw [this]; exact hC
  exact Kd.C_below h2 (hbel.setCell (Nat.le_refl _) _)
theorem min_cut (L L' : List Ir) (m : Nat) (hL : L' = L.take m) : (if (m : Int) < (L.length : Int) then (m : Int) else (L.length : Int)) = (L'.length : Int) := by
  rw [hL, List.length_take]
  split <;> omega
end Go.Proofs.Ytdcmeefeinppnaa.Live
