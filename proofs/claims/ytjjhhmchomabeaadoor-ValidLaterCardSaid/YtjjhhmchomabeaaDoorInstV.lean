/- An instruction's form, told plainly; inst.Kind, inst.Right, inst.Bytes, inst.Body, wbin.closed. -/
import Derived.Test.YtjjhhmchomabeaaDoorValMod
import Derived.Test.YtjjhhmchomabeaaDoorLabel
namespace Go.Proofs.YtjjhhmchomabeaaDoor.Valid
open Go.RowKit Go.Proofs.YtjjhhmchomabeaaDoorW.PrintWords Go.Proofs.YtjjhhmchomabeaaDoorW.PrintLast Go.Proofs.YtjjhhmchomabeaaDoor.Mem Go.Proofs.YtjjhhmchomabeaaDoor.Nest
set_option linter.unusedVariables false
set_option linter.unusedSimpArgs false

/-- an instruction's form: none, plain, block, index, memory, const32, const64 -/
def kindI (op : Int) : Int :=
  if op = 2 ∨ op = 3 ∨ op = 4 then 2
  else if op = 12 ∨ op = 13 ∨ op = 16 ∨ op = 32 ∨ op = 33 ∨ op = 34 ∨ op = 35 ∨ op = 36 then 3
  else if op = 40 ∨ op = 41 ∨ op = 54 ∨ op = 55 then 4
  else if op = 65 then 5
  else if op = 66 then 6
  else if op = 0 ∨ op = 1 ∨ op = 5 ∨ op = 11 ∨ op = 15 ∨ op = 26 ∨ op = 27 ∨ op = 240 ∨ op = 241 then 1
  else if (Word.arity op).2.2.2 then 1 else 0
def leastI (k n : Int) : Int := if k = 5 then -2147483648 else if k = 6 then n else 0
def mostI (k n : Int) : Int := if k = 3 ∨ k = 4 then 4294967295 else if k = 5 then 2147483647 else if k = 6 then n else 0
def mostM (k : Int) : Int := if k = 2 then 4 else if k = 4 then 1 else 0
def rightX (x : T3) : Bool := if kindI x.1 = 0 then false else decide (leastI (kindI x.1) x.2.1 ≤ x.2.1) && decide (x.2.1 ≤ mostI (kindI x.1) x.2.1) && decide (0 ≤ x.2.2) && decide (x.2.2 ≤ mostM (kindI x.1))
def wordB (n : Int) : Bool := decide (0 ≤ n) && decide (n ≤ 4294967295)
/-- from the place i of a body of n on, where d blocks are open: does the last instruction close them? -/
def closedN (n : Nat) : List T3 → Nat → Int → Bool
  | [], _, _ => false
  | x :: l, i, d =>
    if x.1 = 2 ∨ x.1 = 3 ∨ x.1 = 4 then closedN n l (i + 1) (d + 1)
    else if x.1 = 11 then (if d - 1 = 0 then decide (i + 1 = n) else closedN n l (i + 1) (d - 1))
    else closedN n l (i + 1) d
def closedB (l : List T3) : Bool := closedN l.length l 0 1
set_option maxHeartbeats 4000000 in
theorem kind_calls (op : Int) (w : World) : Calls Tryd.prog 68 #[.int .i64 op] w fun e w' => e = .returned (.int .i64 (kindI op)) ∧ Below w.heap.size w w' := by
  by_cases h2 : op = 2
  · subst h2
    go_enter Tryd.func68, Tryd.ntmps68
    go_wp2_with fail
    go_ret
    exact ⟨rfl, Below.refl _ _⟩
  by_cases h3 : op = 3
  · subst h3
    go_enter Tryd.func68, Tryd.ntmps68
    go_wp2_with fail
    go_ret
    exact ⟨rfl, Below.refl _ _⟩
  by_cases h4 : op = 4
  · subst h4
    go_enter Tryd.func68, Tryd.ntmps68
    go_wp2_with fail
    go_ret
    exact ⟨rfl, Below.refl _ _⟩
  by_cases h12 : op = 12
  · subst h12
    go_enter Tryd.func68, Tryd.ntmps68
    go_wp2_with fail
    go_ret
    exact ⟨rfl, Below.refl _ _⟩
  by_cases h13 : op = 13
  · subst h13
    go_enter Tryd.func68, Tryd.ntmps68
    go_wp2_with fail
    go_ret
    exact ⟨rfl, Below.refl _ _⟩
  by_cases h16 : op = 16
  · subst h16
    go_enter Tryd.func68, Tryd.ntmps68
    go_wp2_with fail
    go_ret
    exact ⟨rfl, Below.refl _ _⟩
  by_cases h32 : op = 32
  · subst h32
    go_enter Tryd.func68, Tryd.ntmps68
    go_wp2_with fail
    go_ret
    exact ⟨rfl, Below.refl _ _⟩
  by_cases h33 : op = 33
  · subst h33
    go_enter Tryd.func68, Tryd.ntmps68
    go_wp2_with fail
    go_ret
    exact ⟨rfl, Below.refl _ _⟩
  by_cases h34 : op = 34
  · subst h34
    go_enter Tryd.func68, Tryd.ntmps68
    go_wp2_with fail
    go_ret
    exact ⟨rfl, Below.refl _ _⟩
  by_cases h35 : op = 35
  · subst h35
    go_enter Tryd.func68, Tryd.ntmps68
    go_wp2_with fail
    go_ret
    exact ⟨rfl, Below.refl _ _⟩
  by_cases h36 : op = 36
  · subst h36
    go_enter Tryd.func68, Tryd.ntmps68
    go_wp2_with fail
    go_ret
    exact ⟨rfl, Below.refl _ _⟩
  by_cases h40 : op = 40
  · subst h40
    go_enter Tryd.func68, Tryd.ntmps68
    go_wp2_with fail
    go_ret
    exact ⟨rfl, Below.refl _ _⟩
  by_cases h41 : op = 41
  · subst h41
    go_enter Tryd.func68, Tryd.ntmps68
    go_wp2_with fail
    go_ret
    exact ⟨rfl, Below.refl _ _⟩
  by_cases h54 : op = 54
  · subst h54
    go_enter Tryd.func68, Tryd.ntmps68
    go_wp2_with fail
    go_ret
    exact ⟨rfl, Below.refl _ _⟩
  by_cases h55 : op = 55
  · subst h55
    go_enter Tryd.func68, Tryd.ntmps68
    go_wp2_with fail
    go_ret
    exact ⟨rfl, Below.refl _ _⟩
  by_cases h65 : op = 65
  · subst h65
    go_enter Tryd.func68, Tryd.ntmps68
    go_wp2_with fail
    go_ret
    exact ⟨rfl, Below.refl _ _⟩
  by_cases h66 : op = 66
  · subst h66
    go_enter Tryd.func68, Tryd.ntmps68
    go_wp2_with fail
    go_ret
    exact ⟨rfl, Below.refl _ _⟩
  by_cases h0 : op = 0
  · subst h0
    go_enter Tryd.func68, Tryd.ntmps68
    go_wp2_with fail
    go_ret
    exact ⟨rfl, Below.refl _ _⟩
  by_cases h1 : op = 1
  · subst h1
    go_enter Tryd.func68, Tryd.ntmps68
    go_wp2_with fail
    go_ret
    exact ⟨rfl, Below.refl _ _⟩
  by_cases h5 : op = 5
  · subst h5
    go_enter Tryd.func68, Tryd.ntmps68
    go_wp2_with fail
    go_ret
    exact ⟨rfl, Below.refl _ _⟩
  by_cases h11 : op = 11
  · subst h11
    go_enter Tryd.func68, Tryd.ntmps68
    go_wp2_with fail
    go_ret
    exact ⟨rfl, Below.refl _ _⟩
  by_cases h15 : op = 15
  · subst h15
    go_enter Tryd.func68, Tryd.ntmps68
    go_wp2_with fail
    go_ret
    exact ⟨rfl, Below.refl _ _⟩
  by_cases h26 : op = 26
  · subst h26
    go_enter Tryd.func68, Tryd.ntmps68
    go_wp2_with fail
    go_ret
    exact ⟨rfl, Below.refl _ _⟩
  by_cases h27 : op = 27
  · subst h27
    go_enter Tryd.func68, Tryd.ntmps68
    go_wp2_with fail
    go_ret
    exact ⟨rfl, Below.refl _ _⟩
  by_cases h240 : op = 240
  · subst h240
    go_enter Tryd.func68, Tryd.ntmps68
    go_wp2_with fail
    go_ret
    exact ⟨rfl, Below.refl _ _⟩
  by_cases h241 : op = 241
  · subst h241
    go_enter Tryd.func68, Tryd.ntmps68
    go_wp2_with fail
    go_ret
    exact ⟨rfl, Below.refl _ _⟩
  have hk := Aside0.mk (show kindI op = if (Word.arity op).2.2.2 then 1 else 0 by unfold kindI; simp only [h2, h3, h4, h12, h13, h16, h32, h33, h34, h35, h36, h40, h41, h54, h55, h65, h66, h0, h1, h5, h11, h15, h26, h27, h240, h241, or_self, if_false])
  rcases hA : (Word.arity op).2.2.2 with _ | _
  all_goals
    rw [hA] at hk
    have HA := Aside0.mk hA
    clear hA
    go_enter Tryd.func68, Tryd.ntmps68
    go_wp2_with (go_at_call 74; refine (Word.arity_calls _ _).mono ?_; rw [HA.out]; rintro e w' ⟨rfl, hb⟩)
    go_ret
    exact ⟨by rw [hk.out]; rfl, hb⟩
theorem kindI_cases (op : Int) : kindI op = 0 ∨ kindI op = 1 ∨ kindI op = 2 ∨ kindI op = 3 ∨ kindI op = 4 ∨ kindI op = 5 ∨ kindI op = 6 := by
  unfold kindI
  repeat (first | (split; first | (simp; done) | skip) | simp)
abbrev xVal (x : T3) : Value := .agg #[.int .i64 x.1, .int .i64 x.2.1, .int .i64 x.2.2]
abbrev xObj (x : T3) : Obj := .cells #[.int .i64 x.1, .int .i64 x.2.1, .int .i64 x.2.2] 45
end Go.Proofs.YtjjhhmchomabeaaDoor.Valid
