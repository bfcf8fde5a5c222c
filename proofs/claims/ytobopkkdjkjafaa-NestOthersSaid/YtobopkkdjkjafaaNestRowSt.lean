/- The rows of package nest's laws: how an instruction that is handed over is opened. -/
import Derived.Test.YtobopkkdjkjafaaNestRow
namespace Go.Proofs.Ytobopkkdjkjafaa.NestRow
open Go.RowKit Go.Proofs.YtobopkkdjkjafaaW.PrintWords Go.Proofs.Ytobopkkdjkjafaa.Nest Go.Proofs.Ytobopkkdjkjafaa.Open
set_option linter.unusedVariables false
theorem open_st {H : Type} {enc : TypeId × Value → H} {w : World} {base : Nat} {spare : Nat → Bool} {held : Bool} {cs : Array Value} {d : DataW H} {p : List MemPlace} (h : DataW.Trod enc Try.prog w base spare held 37 (.agg cs) d p) :
    ∃ a0 a1 a2 : Int, cs = #[.int .i64 a0, .int .i64 a1, .int .i64 a2] := by
  have i1 := opens_int (enc := enc) (P := Try.prog) (w := w) (base := base) (spare := spare) (held := held) Try.underlying3 (by kernel_rfl)
  have st : Opens enc Try.prog w base spare held k3 _ 37 := opens_struct Try.underlying37 (by kernel_rfl) (opensAt_cons _ rfl rfl i1 (opensAt_cons _ rfl rfl i1 (opensAt_last _ rfl rfl i1 rfl)))
  obtain ⟨x, hK, _⟩ := opens_trod st h
  obtain ⟨_, _, e, rfl, ⟨_, _, rfl, rfl, rfl⟩⟩ := hK
  refine ⟨x.1, x.2.1, x.2.2, ?_⟩
  apply Array.ext'
  exact e
theorem back_st {H : Type} {enc : TypeId × Value → H} {W W' : World} {v : Value} {d : DataW H} {p : List MemPlace} (h : DataW.Trod enc Try.prog W 0 (fun _ => true) true 37 v d p) (bel : Below W.heap.size W W') :
    DataW.Trod enc Try.prog W' 0 (fun b => decide (b < W.heap.size)) true 37 v d p :=
  Below.trod laidOut (by kernel_rfl) (of_decide_eq_true (by kernel_rfl)) h bel (by obtain ⟨m, hm⟩ := h; exact DataW.trod_lt m _ _ _ hm)
end Go.Proofs.Ytobopkkdjkjafaa.NestRow
