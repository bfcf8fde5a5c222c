/- word.Arity: what an instruction takes and brings. -/
import Derived.Test.YtjjhhmchomabeaaDoorProg
import Derived.Below
import Derived.WalkKit
import Derived.WalkSpells
import Derived.WalkLawsBesides
import Derived.Lib.Hide
namespace Go.Proofs.YtjjhhmchomabeaaDoor.Word
open Go.RowKit
set_option linter.unusedVariables false
set_option linter.unusedSimpArgs false

def arity (op : Int) : Int × Int × Int × Bool :=
  if op = 69 then (1, 0, 0, true)
  else if op = 80 then (1, 1, 0, true)
  else if (70 ≤ op ∧ op ≤ 79) ∨ (106 ≤ op ∧ op ≤ 120) then (2, 0, 0, true)
  else if 81 ≤ op ∧ op ≤ 90 then (2, 1, 0, true)
  else if 124 ≤ op ∧ op ≤ 138 then (2, 1, 1, true)
  else if op = 167 then (1, 1, 0, true)
  else if op = 172 ∨ op = 173 then (1, 0, 1, true)
  else (0, 0, 0, false)

set_option maxHeartbeats 1000000 in
theorem arity_in_calls (a b n : Int) (w : World) (p : Addr) (hp : w.cell? p = some (.int .i64 n)) :
    Calls Tryd.prog 76 #[.int .i64 a, .int .i64 b, .pointer (some p)] w fun e w' => e = .returned (.bool (decide (n ≥ a) && decide (n ≤ b))) ∧ w = w' := by
  by_cases h1 : a ≤ n
  · go_enter Tryd.func76, Tryd.ntmps76
    go_wp2
    go_ret
    simp [h1]
  · go_enter Tryd.func76, Tryd.ntmps76
    go_wp2
    go_ret
    simp; omega

set_option maxHeartbeats 2000000 in
theorem arity_calls (n : Int) (w : World) :
    Calls Tryd.prog 74 #[.int .i64 n] w fun e w' => e = .returned (.tuple #[.int .i64 (arity n).1, .int .i64 (arity n).2.1, .int .i64 (arity n).2.2.1, .bool (arity n).2.2.2]) ∧ Below w.heap.size w w' := by
  go_enter Tryd.func74, Tryd.ntmps74
  go_wp2_with (go_at_call 76; refine (arity_in_calls _ _ n _ _ (by go_simp)).mono ?_; rintro e w' ⟨rfl, rfl⟩)
  all_goals
    obtain ⟨q, hq⟩ : ∃ q, q = arity n := ⟨_, rfl⟩
    rw [← hq]
    simp only [beq_iff_eq, beq_eq_false_iff_ne] at *
    unfold arity at hq
    repeat' split at hq
    all_goals first
      | (exfalso; omega)
      | (subst hq
         exact bodyPost_ret (by simp [results, Tryd.results74, go_sem]) rfl ⟨rfl, (Below.refl _ _).alloc (Nat.le_refl _) _⟩)

end Go.Proofs.YtjjhhmchomabeaaDoor.Word
