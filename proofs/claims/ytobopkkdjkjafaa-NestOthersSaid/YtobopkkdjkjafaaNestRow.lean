/- The rows of package nest's laws: how a slice of instructions is opened. -/
import Derived.Test.YtobopkkdjkjafaaNestFns
import Derived.Test.YtobopkkdjkjafaaOpen
import Derived.Test.YtobopkkdjkjafaaPnx0
import Derived.Test.YtobopkkdjkjafaaRows
import Derived.WalkKit
import Derived.ProofKit
import Derived.OpenShut
import Derived.WideShapes
import Derived.ChangeOld
import Derived.Below
import Derived.SizedLaws
namespace Go.Proofs.Ytobopkkdjkjafaa.NestRow
open Go.RowKit Go.Proofs.YtobopkkdjkjafaaW.PrintWords Go.Proofs.Ytobopkkdjkjafaa.Nest Go.Proofs.Ytobopkkdjkjafaa.Open
set_option linter.unusedVariables false

def to37 (x : T3) : Pn.S37 := ⟨x.1, x.2.1, x.2.2⟩
theorem to37_C {w : World} {A : Option Addr} {l : List T3} (h : Kd.C k3 w A l.length l) : Kd.C Pn.k37 w A (l.map to37).length (l.map to37) := by
  rw [List.length_map]
  refine ⟨by simp, h.2.1, fun h0 => ?_⟩
  obtain ⟨ad, e, hh⟩ := h.2.2 h0
  refine ⟨ad, e, fun j p hj => ?_⟩
  rw [List.getElem?_map] at hj
  cases hx : l[j]? with
  | none => rw [hx] at hj; simp at hj
  | some q =>
    rw [hx] at hj
    simp only [Option.map_some, Option.some.injEq] at hj
    subst hj
    exact hh j q hx

theorem laidOut : laidOutB Try.prog = true := by kernel_rfl
theorem open_in {H : Type} {enc : TypeId × Value → H} {w : World} {base : Nat} {spare : Nat → Bool} {held : Bool} {a : Option Addr} {len cap : Nat} {d : DataW H} {p : List MemPlace} (h : DataW.Trod enc Try.prog w base spare held 22 (.slice a len cap) d p) :
    ∃ l : List T3, len = l.length ∧ l.length ≤ cap ∧ Kd.C k3 w a l.length l := by
  have i1 := opens_int (enc := enc) (P := Try.prog) (w := w) (base := base) (spare := spare) (held := held) Try.underlying3 (by kernel_rfl)
  have st : Opens enc Try.prog w base spare held k3 _ 37 := opens_struct Try.underlying37 (by kernel_rfl) (opensAt_cons _ rfl rfl i1 (opensAt_cons _ rfl rfl i1 (opensAt_last _ rfl rfl i1 rfl)))
  obtain ⟨l, hK, _⟩ := opens_trod (opens_slice Try.underlying22 (by kernel_rfl) st) h
  have hK' : (Kd.slice 37 k3).K w l [.slice a len cap] := hK
  obtain ⟨rfl, h1, h2⟩ := K_slice hK'
  exact ⟨l, rfl, h1, h2⟩
theorem back_in {H : Type} {enc : TypeId × Value → H} {W W' : World} {v : Value} {d : DataW H} {p : List MemPlace} (h : DataW.Trod enc Try.prog W 0 (fun _ => true) true 22 v d p) (bel : Below W.heap.size W W') :
    DataW.Trod enc Try.prog W' 0 (fun b => decide (b < W.heap.size)) true 22 v d p :=
  Below.trod laidOut (by kernel_rfl) (of_decide_eq_true (by kernel_rfl)) h bel (by obtain ⟨m, hm⟩ := h; exact DataW.trod_lt m _ _ _ hm)
end Go.Proofs.Ytobopkkdjkjafaa.NestRow
