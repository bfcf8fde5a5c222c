/- The rows of laws over a code: how a code that is handed over is opened. -/
import Derived.Test.YtdcmeefeinppnaaIr
import Derived.Test.YtdcmeefeinppnaaOpen
import Derived.Test.YtdcmeefeinppnaaRows
import Derived.WalkKit
import Derived.ProofKit
import Derived.OpenShut
import Derived.WideShapes
import Derived.ChangeOld
import Derived.Below
import Derived.SizedLaws
namespace Go.Proofs.Ytdcmeefeinppnaa.CodeRow
open Go.RowKit Go.Proofs.YtdcmeefeinppnaaW.PrintWords Go.Proofs.Ytdcmeefeinppnaa.Ir Go.Proofs.Ytdcmeefeinppnaa.Open
set_option linter.unusedVariables false
set_option linter.unusedSimpArgs false

abbrev k7 := Kd.pair (Kd.int .i64) (Kd.pair (Kd.int .i64) (Kd.pair (Kd.int .i64) (Kd.pair (Kd.int .i64) (Kd.pair (Kd.int .i64) (Kd.pair (Kd.int .i64) (Kd.int .i64))))))
def toIr (x : Int × Int × Int × Int × Int × Int × Int) : Ir := ⟨x.1, x.2.1, x.2.2.1, x.2.2.2.1, x.2.2.2.2.1, x.2.2.2.2.2.1, x.2.2.2.2.2.2⟩
theorem toIr_C {w : World} {A : Option Addr} {l : List (Int × Int × Int × Int × Int × Int × Int)} (h : Kd.C k7 w A l.length l) : Kd.C kIr w A (l.map toIr).length (l.map toIr) := by
  rw [List.length_map]
  refine ⟨by simp, h.2.1, fun h0 => ?_⟩
  obtain ⟨ad, e, hh⟩ := h.2.2 h0
  refine ⟨ad, e, fun j p hj => ?_⟩
  rw [List.getElem?_map] at hj
  cases hx : l[j]? with
  | none => rw [hx] at hj; simp at hj
  | some q =>
    rw [hx] at hj
    simp only [Option.map_some, Option.some.injEq] at hj
    subst hj
    exact hh j q hx
theorem laidOut : laidOutB Try.prog = true := by kernel_rfl
theorem open_code {H : Type} {enc : TypeId × Value → H} {w : World} {base : Nat} {spare : Nat → Bool} {held : Bool} {cs : Array Value} {d : DataW H} {p : List MemPlace} (h : DataW.Trod enc Try.prog w base spare held 24 (.agg cs) d p) :
    ∃ (cells params labels : Int) (L : List Ir) (A : Option Addr) (cap : Nat), cs = #[.int .i64 cells, .int .i64 params, .slice A L.length cap, .int .i64 labels] ∧ kIr.C w A L.length L ∧ L.length ≤ cap := by
  have i1 := opens_int (enc := enc) (P := Try.prog) (w := w) (base := base) (spare := spare) (held := held) Try.underlying3 (by kernel_rfl)
  have st : Opens enc Try.prog w base spare held k7 _ 38 := opens_struct Try.underlying38 (by kernel_rfl) (opensAt_cons _ rfl rfl i1 (opensAt_cons _ rfl rfl i1 (opensAt_cons _ rfl rfl i1 (opensAt_cons _ rfl rfl i1 (opensAt_cons _ rfl rfl i1 (opensAt_cons _ rfl rfl i1 (opensAt_last _ rfl rfl i1 rfl)))))))
  have sl := opens_slice Try.underlying22 (by kernel_rfl) st
  have cd : Opens enc Try.prog w base spare held (Kd.pair (Kd.int .i64) (Kd.pair (Kd.int .i64) (Kd.pair (Kd.slice 38 k7) (Kd.int .i64)))) _ 24 := opens_struct Try.underlying24 (by kernel_rfl) (opensAt_cons _ rfl rfl i1 (opensAt_cons _ rfl rfl i1 (opensAt_cons _ rfl rfl sl (opensAt_last _ rfl rfl i1 rfl))))
  obtain ⟨x, hK, _⟩ := opens_trod cd h
  obtain ⟨_, _, e, rfl, ⟨_, _, rfl, rfl, ⟨_, _, rfl, hs, rfl⟩⟩⟩ := hK
  obtain ⟨A, cap, rfl, h1, h2⟩ := hs
  refine ⟨x.1, x.2.1, x.2.2.2, x.2.2.1.map toIr, A, cap, ?_, toIr_C h2, by rw [List.length_map]; exact h1⟩
  rw [List.length_map]
  apply Array.ext'
  exact e
theorem back_code {H : Type} {enc : TypeId × Value → H} {W W' : World} {v : Value} {d : DataW H} {p : List MemPlace} (h : DataW.Trod enc Try.prog W 0 (fun _ => true) true 24 v d p) (bel : Below W.heap.size W W') :
    DataW.Trod enc Try.prog W' 0 (fun b => decide (b < W.heap.size)) true 24 v d p :=
  Below.trod laidOut (by kernel_rfl) (of_decide_eq_true (by kernel_rfl)) h bel (by obtain ⟨m, hm⟩ := h; exact DataW.trod_lt m _ _ _ hm)
end Go.Proofs.Ytdcmeefeinppnaa.CodeRow
