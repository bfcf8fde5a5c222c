-- Written by this session's own program (wip/print2), by the way of the kit's print; Lean checks it.
import Derived.Test.YtobopkkdjkjafaaPox0
namespace Go.Proofs.Ytobopkkdjkjafaa.Po
open Go.RowKit Go.Proofs.YtobopkkdjkjafaaW.PrintWords Go.Proofs.YtobopkkdjkjafaaW.PrintLast Go.Proofs.YtobopkkdjkjafaaW.PrintMore
attribute [local go_sem] max2_int min2_int max_two min_two max_three min_three max_four min_four   -- for this text's walks alone
set_option linter.unusedVariables false
set_option linter.unusedSimpArgs false

-- NOT PRINTED: function 35 (nest_walk)

/-! ### nest_Target: function 16 -/
def nest_in (x : S37) : Nest.T3 := (x.f0, x.f1, x.f2)
def nest_sp (x : Nest.T3) : S34 := ⟨x.1, x.2.1, x.2.2⟩
def nest_all (l : List (S37)) : List Nest.T3 × Int × List (Int × List Int) := Nest.wkAll (l.map nest_in)
theorem nest_C {w : World} {A : Option Addr} {l : List (S37)} (h : Kd.C k37 w A l.length l) : Nest.k3.C w A (l.map nest_in).length (l.map nest_in) := by
  have h2 := Open.C_iso (d := Nest.k3) (f := nest_in) h
  rw [List.length_map]
  exact h2
def nest_Target.f (l0 : List (S37)) (a1 : Int) (a2 : Int) : Option (Int × Bool × Int) := if l0.length ≤ 90000 then some (Nest.target (l0.map nest_in) a1 a2) else none
theorem nest_Target.calls (A0 : Option Addr) (c0 : Nat) (l0 : List (S37)) (a1 : Int) (a2 : Int) (r1 : Int) (r2 : Bool) (r3 : Int) (w : World) (hr0 : Kd.C k37 w A0 l0.length l0) (hc0 : l0.length ≤ c0) (h : nest_Target.f l0 a1 a2 = some (r1, r2, r3)) :
    Calls Try.prog 16 #[.slice A0 l0.length c0, .int .i64 a1, .int .i64 a2] w fun e w' => e = .returned (.tuple #[.int .i64 r1, .bool r2, .int .i64 r3]) ∧ Below w.heap.size w w' := by
  unfold nest_Target.f at h
  split at h
  · rename_i hn
    have h' : Nest.target (l0.map nest_in) a1 a2 = (r1, r2, r3) := by simpa using h
    have hc := nest_C hr0
    have h := Nest.target_calls A0 c0 (l0.map nest_in) a1 a2 w hc (by rw [List.length_map]; exact hc0) (by rw [List.length_map]; exact hn)
    rw [List.length_map, h'] at h
    exact h
  · cases h

/-! ### nest_Spans_1: function 38 -/
def nest_Spans_1.f (a0 : Int) (l1 : List Int) (l2 : List (S34)) : Option (Unit) := some ()
set_option maxHeartbeats 8000000 in
set_option maxRecDepth 100000 in
theorem nest_Spans_1.calls (a0 : Int) (A1 : Option Addr) (c1 : Nat) (l1 : List Int) (A2 : Option Addr) (c2 : Nat) (l2 : List (S34)) (w : World) (hr1 : Kd.C (Kd.int .i64) w A1 l1.length l1) (hc1 : l1.length ≤ c1) (hr2 : Kd.C k34 w A2 l2.length l2) (hc2 : l2.length ≤ c2) (h : nest_Spans_1.f a0 l1 l2 = some ()) :
    Calls Try.prog 38 #[.int .i64 a0, .slice A1 l1.length c1, .slice A2 l2.length c2] w fun e w' => e = .returned (.tuple #[]) ∧ Drawn0 w w' := by
  have HR1 := Aside0.mk hr1
  have HC1 := Aside0.mk hc1
  clear hr1 hc1
  have HR2 := Aside0.mk hr2
  have HC2 := Aside0.mk hc2
  clear hr2 hc2
  have H : (some ()) = some () := h
  clear h
  go_enter Try.func38, Try.ntmps38
  go_wp2
  first | go_end0 | ((try simp only [Exit.inBlock, Exit.then]); refine bodyPost_ret (results_none rfl _ _ _) rfl ?_)
  exact ⟨by first | rfl | (simp; done) | (simp [*]; done), by repeat (first | exact Drawn0.refl _ | apply Drawn0.step)⟩

/-! ### nest_Spans: function 18 -/
theorem nest_Spans.at_ (A0 : Option Addr) (c0 : Nat) (l0 : List (S37)) (w : World) (hr0 : Kd.C k37 w A0 l0.length l0) (hc0 : l0.length ≤ c0) (hn : l0.length ≤ 90000) :
    Calls Try.prog 18 #[.slice A0 l0.length c0] w fun e w' => ∃ v0_ : Value, e = .returned (.tuple #[v0_, .int .i64 (nest_all l0).2.1]) ∧ Kd.R k34 34 w' w.heap.size (fun _ => True) v0_ ((nest_all l0).1.map nest_sp) ∧ Below w.heap.size w w' := by
  have hc := nest_C hr0
  have h := Nest.spans_calls A0 c0 (l0.map nest_in) w hc (by rw [List.length_map]; exact hc0) (by rw [List.length_map]; exact hn)
  rw [List.length_map] at h
  refine h.mono ?_
  rintro e w' ⟨v, rfl, hR, hB⟩
  refine ⟨v, rfl, ?_, hB⟩
  refine Open.R_iso (d := Nest.k3) (f := fun x : S34 => (x.f0, x.f1, x.f2)) ?_
  rw [List.map_map]
  have e : ((fun x : S34 => (x.f0, x.f1, x.f2)) ∘ nest_sp) = id := rfl
  rw [e, List.map_id]
  exact hR
def nest_Spans.f (l0 : List (S37)) : Option ((List (S34)) × Int) := if l0.length ≤ 90000 then some (((nest_all l0).1.map nest_sp), (nest_all l0).2.1) else none
theorem nest_Spans.calls (A0 : Option Addr) (c0 : Nat) (l0 : List (S37)) (r1 : List (S34)) (r2 : Int) (w : World) (hr0 : Kd.C k37 w A0 l0.length l0) (hc0 : l0.length ≤ c0) (h : nest_Spans.f l0 = some (r1, r2)) :
    Calls Try.prog 18 #[.slice A0 l0.length c0] w fun e w' => ∃ v0_ : Value, e = .returned (.tuple #[v0_, .int .i64 r2]) ∧ Kd.R k34 34 w' w.heap.size (fun _ => True) v0_ r1 ∧ Below w.heap.size w w' := by
  unfold nest_Spans.f at h
  split at h
  · rename_i hn
    simp only [Option.some.injEq, Prod.mk.injEq] at h
    obtain ⟨rfl, rfl⟩ := h
    exact nest_Spans.at_ A0 c0 l0 w hr0 hc0 hn
  · cases h

end Go.Proofs.Ytobopkkdjkjafaa.Po
