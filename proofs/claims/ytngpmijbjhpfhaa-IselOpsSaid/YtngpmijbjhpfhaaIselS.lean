/- isel's functions that make one instruction, and its division of signed numbers. -/
import Derived.Test.YtngpmijbjhpfhaaIselC
namespace Go.Proofs.Ytngpmijbjhpfhaa.Isel
open Go.RowKit Go.Proofs.YtngpmijbjhpfhaaW.PrintWords Go.Proofs.YtngpmijbjhpfhaaW.PrintLast Go.Proofs.Ytngpmijbjhpfhaa.Mem
set_option linter.unusedVariables false
set_option linter.unusedSimpArgs false

def arity (op : Int) : Int × Int × Int × Bool :=
  if op = 69 then (1, 0, 0, true)
  else if op = 80 then (1, 1, 0, true)
  else if (70 ≤ op ∧ op ≤ 79) ∨ (106 ≤ op ∧ op ≤ 120) then (2, 0, 0, true)
  else if 81 ≤ op ∧ op ≤ 90 then (2, 1, 0, true)
  else if 124 ≤ op ∧ op ≤ 138 then (2, 1, 1, true)
  else if op = 167 then (1, 1, 0, true)
  else if op = 172 ∨ op = 173 then (1, 0, 1, true)
  else (0, 0, 0, false)
set_option maxHeartbeats 1000000 in
theorem arity_in_calls (a b n : Int) (w : World) (p : Addr) (hp : w.cell? p = some (.int .i64 n)) :
    Calls Try.prog 32 #[.int .i64 a, .int .i64 b, .pointer (some p)] w fun e w' => e = .returned (.bool (decide (n ≥ a) && decide (n ≤ b))) ∧ w = w' := by
  by_cases h1 : a ≤ n
  · go_enter Try.func32, Try.ntmps32
    go_wp2
    go_ret
    simp [h1]
  · go_enter Try.func32, Try.ntmps32
    go_wp2
    go_ret
    simp; omega
set_option maxHeartbeats 2000000 in
theorem arity_calls (n : Int) (w : World) :
    Calls Try.prog 12 #[.int .i64 n] w fun e w' => e = .returned (.tuple #[.int .i64 (arity n).1, .int .i64 (arity n).2.1, .int .i64 (arity n).2.2.1, .bool (arity n).2.2.2]) ∧ Below w.heap.size w w' := by
  go_enter Try.func12, Try.ntmps12
  go_wp2_with (go_at_call 32; refine (arity_in_calls _ _ n _ _ (by go_simp)).mono ?_; rintro e w' ⟨rfl, rfl⟩)
  all_goals
    obtain ⟨q, hq⟩ : ∃ q, q = arity n := ⟨_, rfl⟩
    rw [← hq]
    simp only [beq_iff_eq, beq_eq_false_iff_ne] at *
    unfold arity at hq
    repeat' split at hq
    all_goals first
      | (exfalso; omega)
      | (subst hq
         exact bodyPost_ret (by simp [results, Try.results12, go_sem]) rfl ⟨rfl, (Below.refl _ _).alloc (Nat.le_refl _) _⟩)
set_option maxHeartbeats 2000000 in
theorem ref_arity_calls (n : Int) (w : World) :
    Calls Try.prog 20 #[.int .i64 n] w fun e w' => e = .returned (.tuple #[.int .i64 (arity n).1, .int .i64 (arity n).2.1, .int .i64 (arity n).2.2.1, .bool (arity n).2.2.2]) ∧ w = w' := by
  go_enter Try.func20, Try.ntmps20
  go_wp2
  all_goals
    obtain ⟨q, hq⟩ : ∃ q, q = arity n := ⟨_, rfl⟩
    rw [← hq]
    simp only [beq_iff_eq, beq_eq_false_iff_ne] at *
    unfold arity at hq
    repeat' split at hq
    all_goals first
      | (exfalso; omega)
      | (subst hq
         exact bodyPost_ret (by simp [results, Try.results20, go_sem]) rfl ⟨rfl, rfl⟩)
theorem arity_yes {n a b c : Int} (h : arity n = (a, b, c, true)) (w : World) : Calls Try.prog 12 #[.int .i64 n] w fun e w' => e = .returned (.tuple #[.int .i64 a, .int .i64 b, .int .i64 c, .bool true]) ∧ Below w.heap.size w w' := by
  have := arity_calls n w
  rw [h] at this
  exact this
theorem ref_arity_yes {n a b c : Int} (h : arity n = (a, b, c, true)) (w : World) : Calls Try.prog 20 #[.int .i64 n] w fun e w' => e = .returned (.tuple #[.int .i64 a, .int .i64 b, .int .i64 c, .bool true]) ∧ w = w' := by
  have := ref_arity_calls n w
  rw [h] at this
  exact this
theorem arity_no {n : Int} (h : (arity n).2.2.2 = false) : arity n = (0, 0, 0, false) := by
  revert h
  unfold arity
  repeat' split
  all_goals simp
theorem alu_calls (k : Int) (wd : Bool) (b r : Int) (w : World) : Calls Try.prog 19 #[.int .i64 k, .bool wd, .int .i64 b, .int .i64 r] w fun e w' => e = .returned (.agg #[.int .i64 3, .bool wd, .int .i64 r, .int .i64 b, .int .i64 0, .int .i64 k, .int .i64 0]) ∧ Below w.heap.size w w' := by
  go_enter Try.func19, Try.ntmps19
  go_wp2_with fail
  refine bodyPost_ret (v := .agg #[.int .i64 3, .bool wd, .int .i64 r, .int .i64 b, .int .i64 0, .int .i64 k, .int .i64 0]) (by simp [results, Try.results19, go_sem]) rfl ⟨rfl, ?_⟩
  exact (Below.refl _ _).alloc (Nat.le_refl _) _
theorem alui_calls (k : Int) (wd : Bool) (b n : Int) (w : World) : Calls Try.prog 33 #[.int .i64 k, .bool wd, .int .i64 b, .int .i64 n] w fun e w' => e = .returned (.agg #[.int .i64 4, .bool wd, .int .i64 0, .int .i64 b, .int .i64 0, .int .i64 k, .int .i64 n]) ∧ Below w.heap.size w w' := by
  go_enter Try.func33, Try.ntmps33
  go_wp2_with fail
  refine bodyPost_ret (v := .agg #[.int .i64 4, .bool wd, .int .i64 0, .int .i64 b, .int .i64 0, .int .i64 k, .int .i64 n]) (by simp [results, Try.results33, go_sem]) rfl ⟨rfl, ?_⟩
  exact (Below.refl _ _).alloc (Nat.le_refl _) _
theorem num_calls (r n : Int) (w : World) : Calls Try.prog 18 #[.int .i64 r, .int .i64 n] w fun e w' => e = .returned (.agg #[.int .i64 2, .bool true, .int .i64 r, .int .i64 0, .int .i64 0, .int .i64 0, .int .i64 n]) ∧ Below w.heap.size w w' := by
  go_enter Try.func18, Try.ntmps18
  go_wp2_with fail
  refine bodyPost_ret (v := .agg #[.int .i64 2, .bool true, .int .i64 r, .int .i64 0, .int .i64 0, .int .i64 0, .int .i64 n]) (by simp [results, Try.results18, go_sem]) rfl ⟨rfl, ?_⟩
  exact (Below.refl _ _).alloc (Nat.le_refl _) _
theorem test_calls (wd : Bool) (r : Int) (w : World) : Calls Try.prog 16 #[.bool wd, .int .i64 r] w fun e w' => e = .returned (.agg #[.int .i64 5, .bool wd, .int .i64 r, .int .i64 r, .int .i64 0, .int .i64 0, .int .i64 0]) ∧ Below w.heap.size w w' := by
  go_enter Try.func16, Try.ntmps16
  go_wp2_with fail
  refine bodyPost_ret (v := .agg #[.int .i64 5, .bool wd, .int .i64 r, .int .i64 r, .int .i64 0, .int .i64 0, .int .i64 0]) (by simp [results, Try.results16, go_sem]) rfl ⟨rfl, ?_⟩
  exact (Below.refl _ _).alloc (Nat.le_refl _) _
def narrowF (op : Int) : Int × Bool := if 124 ≤ op ∧ op ≤ 138 then (op - 124 + 106, true) else if 80 ≤ op ∧ op ≤ 90 then (op - 80 + 69, true) else (op, false)
theorem narrow_calls {op k : Int} {b : Bool} (h : narrowF op = (k, b)) (w : World) (h0 : 0 ≤ op) (h1 : op ≤ 300) : Calls Try.prog 13 #[.int .i64 op] w fun e w' => e = .returned (.tuple #[.int .i64 k, .bool b]) ∧ Below w.heap.size w w' := by
  go_enter Try.func13, Try.ntmps13
  go_wp2_with fail
  all_goals
    unfold narrowF at h
    repeat' split at h
    all_goals first
      | (exfalso; omega)
      | (obtain ⟨rfl, rfl⟩ := Prod.mk.inj h
         go_ret2
         exact ⟨rfl, Below.refl _ _⟩)
def SgnOut (w W : World) (g : Nat) (l : List Item) (n : Int) (e : Ending) (W' : World) : Prop := e = .returned (.int .i64 n) ∧ ∃ v', Cd w W' g v' l
def OpOut (w : World) (l : List Item) (n : Int) (e : Ending) (w' : World) : Prop := ∃ v, e = .returned (.tuple #[v, .int .i64 n, .bool true]) ∧ kItem.R 42 w' w.heap.size (fun _ => True) v l ∧ Below w.heap.size w w'
end Go.Proofs.Ytngpmijbjhpfhaa.Isel
