/- What a call changes but for some blocks; what functions that are handed in do. -/
import Derived.Test.YtjjhhmchomabeaaDoorProg
import Derived.Below
import Derived.WalkKit
import Derived.WalkSpells
import Derived.WalkLawsBesides
import Derived.Deep.LoopGhost
import Derived.Deep.QuietTactic
import Derived.BigQuiet
import Derived.Deep.DeepCutAuto
import Derived.Deep.RegionHeld3
import Derived.Lib.Hide
import Derived.Test.YtjjhhmchomabeaaDoorWWords
import Derived.Test.YtjjhhmchomabeaaDoorWLast
import Derived.Test.YtjjhhmchomabeaaDoorWApart
import Derived.Test.YtjjhhmchomabeaaDoorWMore
namespace Go.Proofs.YtjjhhmchomabeaaDoor.Mem
open Go.RowKit Go.Proofs.YtjjhhmchomabeaaDoorW.PrintWords Go.Proofs.YtjjhhmchomabeaaDoorW.PrintLast
set_option linter.unusedVariables false
set_option linter.unusedSimpArgs false

/-- of what was there nothing has changed but the blocks in S -/
structure Ch (w w' : World) (S : Nat → Prop) : Prop where
  os : w'.os = w.os
  tape : w'.tape = w.tape
  output : w'.output = w.output
  size : w.heap.size ≤ w'.heap.size
  block : ∀ i, i < w.heap.size → ¬ S i → w'.heap[i]? = w.heap[i]?

theorem Ch.refl (w : World) (S : Nat → Prop) : Ch w w S := ⟨rfl, rfl, rfl, Nat.le_refl _, fun _ _ _ => rfl⟩
theorem Ch.trans {a b c : World} {S S2 : Nat → Prop} (h : Ch a b S) (k : Ch b c S2) (hs : ∀ j, S2 j → S j ∨ a.heap.size ≤ j) : Ch a c S :=
  ⟨k.os.trans h.os, k.tape.trans h.tape, k.output.trans h.output, Nat.le_trans h.size k.size, fun i hi hn =>
    (k.block i (Nat.lt_of_lt_of_le hi h.size) (fun h2 => by exact (hs i h2).elim hn (fun h3 => by omega))).trans (h.block i hi hn)⟩
theorem Ch.of_below {w w' : World} (h : Below w.heap.size w w') (S : Nat → Prop) : Ch w w' S := ⟨h.os, h.tape, h.output, h.size, fun i hi _ => h.block i hi⟩
theorem Ch.below {w w' : World} {S : Nat → Prop} (h : Ch w w' S) (hs : ∀ k, S k → w.heap.size ≤ k) : Below w.heap.size w w' :=
  ⟨h.os, h.tape, h.output, h.size, fun i hi => h.block i hi (fun hk => by have := hs i hk; omega)⟩
theorem Ch.then_below {a b c : World} {S : Nat → Prop} (h : Ch a b S) (k : Below b.heap.size b c) : Ch a c S :=
  h.trans (Ch.of_below k (fun _ => False)) (fun _ h => h.elim)
theorem Ch.grown {a b c : World} {S : Nat → Prop} {row : Option Nat} (h : Ch a b S) (hg : b.grownBy c row) (hr : ∀ k, row = some k → S k ∨ a.heap.size ≤ k) : Ch a c S :=
  ⟨hg.os.trans h.os, hg.tape.trans h.tape, hg.output.trans h.output, Nat.le_trans h.size hg.size, fun i hi hn =>
    (hg.block i (Nat.lt_of_lt_of_le hi h.size) (fun he => by exact (hr i he.symm).elim hn (fun h3 => by omega))).trans (h.block i hi hn)⟩
theorem Ch.mono {a b : World} {S S2 : Nat → Prop} (h : Ch a b S) (hs : ∀ k, S k → S2 k) : Ch a b S2 := ⟨h.os, h.tape, h.output, h.size, fun i hi hn => h.block i hi (fun hk => hn (hs i hk))⟩

section
variable {α : Type} {d : Kd α} {e : Nat} {w w1 w2 : World} {B : Nat} {v : Value} {xs : List α} {F F' : Nat → Prop}
/-- a row of one's own, behind a call that changes what is handed in's alone -/
theorem R_call (h : d.R e w1 B (fun k => ¬ F k) v xs) (hc : Ch w1 w2 F) (hf : ∀ k, F' k → F k ∨ w1.heap.size ≤ k) : d.R e w2 B (fun k => ¬ F' k) v xs := by
  refine Kd.R_mono (Kd.R_step (Kd.R_bound h) (fun k hk hlt => hc.block k hlt hk.1)) (fun k hk hF' => ?_)
  rcases hf k hF' with h1 | h1
  · exact hk.1 h1
  · have := hk.2.2.1; omega
theorem R_ch (h : d.R e w1 B (fun k => ¬ F k) v xs) (hc : Ch w1 w2 F) : d.R e w2 B (fun k => ¬ F k) v xs := Kd.R_step h (fun k hk hlt => hc.block k hlt hk)
end

/-- A function that is handed in: which blocks are its own (FP), what it keeps there (s), and what it does at each call. -/
structure Seer (P : Program) (f : FuncId) (cap : Array Value) {σ : Type} (Inv : σ → (Nat → Prop) → World → Prop) (upd : Int → List Int → σ → σ) (cnt : σ → Nat) : Prop where
  fn : ∀ args w, (callFunc f args).run P w = .ok (.enter f args) w
  lt : ∀ {s FP w k}, Inv s FP w → FP k → k < w.heap.size
  keep : ∀ {s FP} {w w' : World}, Inv s FP w → (∀ k, FP k → w'.heap[k]? = w.heap[k]?) → Inv s FP w'
  cnt_upd : ∀ a xs s, cnt (upd a xs s) ≤ cnt s + 1
  call : ∀ {s FP} {w : World} (a : Int) (A : Option Addr) (xs : List Int) (c : Nat) (sv : Value), Inv s FP w → (Kd.int .i64).C w A xs.length xs → (∀ ad, A = some ad → 0 < xs.length → ¬ FP ad.block) → xs.length ≤ c → xs.length ≤ 100000 → cnt s ≤ 100000 →
    Calls P f (#[.int .i64 a, .slice A xs.length c, sv] ++ cap) w fun e w' => e = .returned (.tuple #[]) ∧ ∃ FP', Inv (upd a xs s) FP' w' ∧ (∀ k, FP' k → FP k ∨ w.heap.size ≤ k) ∧ Ch w w' FP

end Go.Proofs.YtjjhhmchomabeaaDoor.Mem
