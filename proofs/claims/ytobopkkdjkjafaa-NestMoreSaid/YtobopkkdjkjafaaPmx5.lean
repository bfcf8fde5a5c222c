-- Written by this session's own program (wip/print2), by the way of the kit's print; Lean checks it.
import Derived.Test.YtobopkkdjkjafaaPmx0
import Derived.Test.YtobopkkdjkjafaaPmx1
namespace Go.Proofs.Ytobopkkdjkjafaa.Pm
open Go.RowKit Go.Proofs.YtobopkkdjkjafaaW.PrintWords Go.Proofs.YtobopkkdjkjafaaW.PrintLast Go.Proofs.YtobopkkdjkjafaaW.PrintMore
attribute [local go_sem] max2_int min2_int max_two min_two max_three min_three max_four min_four   -- for this text's walks alone
set_option linter.unusedVariables false
set_option linter.unusedSimpArgs false

/-! ### nest_Depth: function 22 -/
def nest_Depth.f (l0 : List (S37)) : Option ((List Int) × Int) := if l0.length ≤ 90000 then some (Nest.depths (l0.map nest_in), (nest_all l0).2.1) else none
theorem nest_Depth.calls (A0 : Option Addr) (c0 : Nat) (l0 : List (S37)) (r1 : List Int) (r2 : Int) (w : World) (hr0 : Kd.C k37 w A0 l0.length l0) (hc0 : l0.length ≤ c0) (h : nest_Depth.f l0 = some (r1, r2)) :
    Calls Try.prog 22 #[.slice A0 l0.length c0] w fun e w' => ∃ v0_ : Value, e = .returned (.tuple #[v0_, .int .i64 r2]) ∧ Kd.R (Kd.int .i64) 3 w' w.heap.size (fun _ => True) v0_ r1 ∧ Below w.heap.size w w' := by
  unfold nest_Depth.f at h
  split at h
  · rename_i hn
    simp only [Option.some.injEq, Prod.mk.injEq] at h
    obtain ⟨rfl, rfl⟩ := h
    have hc := nest_C hr0
    have h := Nest.depth_calls A0 c0 (l0.map nest_in) w hc (by rw [List.length_map]; exact hc0) (by rw [List.length_map]; exact hn)
    rw [List.length_map] at h
    exact h
  · cases h

end Go.Proofs.Ytobopkkdjkjafaa.Pm
