/- The rows of laws over a module: how a module that is handed over is opened. -/
import Derived.Test.YtngpmijbjhpfhaaOpen
import Derived.Test.YtngpmijbjhpfhaaRows
import Derived.WalkKit
import Derived.ProofKit
import Derived.OpenShut
import Derived.WideShapes
import Derived.ChangeOld
import Derived.Below
import Derived.SizedLaws
namespace Go.Proofs.Ytngpmijbjhpfhaa.ModRow
open Go.RowKit Go.Proofs.YtngpmijbjhpfhaaW.PrintWords Go.Proofs.Ytngpmijbjhpfhaa.Open
set_option linter.unusedVariables false
set_option linter.unusedSimpArgs false

theorem laidOut : laidOutB Try.prog = true := by kernel_rfl
section
variable {H : Type} {enc : TypeId × Value → H} {w : World} {base : Nat} {spare : Nat → Bool} {held : Bool}
abbrev kSig := Kd.pair (Kd.slice 3 (Kd.int .i64)) (Kd.slice 3 (Kd.int .i64))
abbrev kInstr := Kd.pair (Kd.int .i64) (Kd.pair (Kd.int .i64) (Kd.int .i64))
abbrev kFunc := Kd.pair (Kd.int .i64) (Kd.pair Kd.bool (Kd.pair (Kd.slice 3 (Kd.int .i64)) (Kd.slice 95 kInstr)))
abbrev kGlobal := Kd.pair (Kd.int .i64) (Kd.int .i64)
abbrev kData := Kd.pair (Kd.int .i64) (Kd.pair (Kd.int .i64) Kd.string)
abbrev kMod := Kd.pair (Kd.slice 85 kSig) (Kd.pair (Kd.slice 3 (Kd.int .i64)) (Kd.pair (Kd.slice 88 kFunc) (Kd.pair (Kd.pair (Kd.int .i64) (Kd.int .i64)) (Kd.pair (Kd.slice 90 kGlobal) (Kd.slice 92 kData)))))
theorem open_mod {cs : Array Value} {d : DataW H} {p : List MemPlace} (h : DataW.Trod enc Try.prog w base spare held 29 (.agg cs) d p) :
    ∃ (A1 A2 A3 A4 A5 : Option Addr) (n1 n2 n3 n4 n5 c1 c2 c3 c4 c5 : Nat) (m0 m1 : Int), cs = #[.slice A1 n1 c1, .slice A2 n2 c2, .slice A3 n3 c3, .int .i64 m0, .int .i64 m1, .slice A4 n4 c4, .slice A5 n5 c5] := by
  have i1 := opens_int (enc := enc) (P := Try.prog) (w := w) (base := base) (spare := spare) (held := held) Try.underlying3 (by kernel_rfl)
  have b1 := opens_bool (enc := enc) (P := Try.prog) (w := w) (base := base) (spare := spare) (held := held) Try.underlying4 (by kernel_rfl)
  have s1 := opens_string (enc := enc) (P := Try.prog) (w := w) (base := base) (spare := spare) (held := held) Try.underlying9 (by kernel_rfl)
  have si := opens_slice Try.underlying23 (by kernel_rfl) i1
  have sig : Opens enc Try.prog w base spare held kSig _ 85 := opens_struct Try.underlying85 (by kernel_rfl) (opensAt_cons _ rfl rfl si (opensAt_last _ rfl rfl si rfl))
  have sigs := opens_slice Try.underlying22 (by kernel_rfl) sig
  have ins : Opens enc Try.prog w base spare held kInstr _ 95 := opens_struct Try.underlying95 (by kernel_rfl) (opensAt_cons _ rfl rfl i1 (opensAt_cons _ rfl rfl i1 (opensAt_last _ rfl rfl i1 rfl)))
  have inss := opens_slice Try.underlying86 (by kernel_rfl) ins
  have fn : Opens enc Try.prog w base spare held kFunc _ 88 := opens_struct Try.underlying88 (by kernel_rfl) (opensAt_cons _ rfl rfl i1 (opensAt_cons _ rfl rfl b1 (opensAt_cons _ rfl rfl si (opensAt_last _ rfl rfl inss rfl))))
  have fns := opens_slice Try.underlying24 (by kernel_rfl) fn
  have arr := opens_array2 Try.underlying25 (by kernel_rfl) i1
  have gl : Opens enc Try.prog w base spare held kGlobal _ 90 := opens_struct Try.underlying90 (by kernel_rfl) (opensAt_cons _ rfl rfl i1 (opensAt_last _ rfl rfl i1 rfl))
  have gls := opens_slice Try.underlying26 (by kernel_rfl) gl
  have da : Opens enc Try.prog w base spare held kData _ 92 := opens_struct Try.underlying92 (by kernel_rfl) (opensAt_cons _ rfl rfl i1 (opensAt_cons _ rfl rfl i1 (opensAt_last _ rfl rfl s1 rfl)))
  have das := opens_slice Try.underlying27 (by kernel_rfl) da
  have md : Opens enc Try.prog w base spare held kMod _ 29 := opens_struct Try.underlying29 (by kernel_rfl) (opensAt_cons _ rfl rfl sigs (opensAt_cons _ rfl rfl si (opensAt_cons _ rfl rfl fns (opensAt_cons _ rfl rfl arr (opensAt_cons _ rfl rfl gls (opensAt_last _ rfl rfl das rfl))))))
  obtain ⟨x, hK, _⟩ := opens_trod md h
  obtain ⟨_, _, e, h1, ⟨_, _, rfl, h2, ⟨_, _, rfl, h3, ⟨_, _, rfl, ⟨_, _, rfl, rfl, rfl⟩, ⟨_, _, rfl, h4, h5⟩⟩⟩⟩⟩ := hK
  obtain ⟨A1, c1, rfl, _⟩ := h1
  obtain ⟨A2, c2, rfl, _⟩ := h2
  obtain ⟨A3, c3, rfl, _⟩ := h3
  obtain ⟨A4, c4, rfl, _⟩ := h4
  obtain ⟨A5, c5, rfl, _⟩ := h5
  refine ⟨A1, A2, A3, A4, A5, x.1.length, x.2.1.length, x.2.2.1.length, x.2.2.2.2.1.length, x.2.2.2.2.2.length, c1, c2, c3, c4, c5, x.2.2.2.1.1, x.2.2.2.1.2, ?_⟩
  apply Array.ext'
  exact e
theorem back_mod {W W' : World} {v : Value} {d : DataW H} {p : List MemPlace} (h : DataW.Trod enc Try.prog W 0 (fun _ => true) true 29 v d p) (bel : Below W.heap.size W W') :
    DataW.Trod enc Try.prog W' 0 (fun b => decide (b < W.heap.size)) true 29 v d p :=
  Below.trod laidOut (by kernel_rfl) (of_decide_eq_true (by kernel_rfl)) h bel (by obtain ⟨m, hm⟩ := h; exact DataW.trod_lt m _ _ _ hm)
end
end Go.Proofs.Ytngpmijbjhpfhaa.ModRow
