/- nest.Spans: what it comes to. -/
import Derived.Test.YtjjhhmchomabeaaDoorNest
import Derived.Conc.MuLone
namespace Go.Proofs.YtjjhhmchomabeaaDoor.Nest
open Go.RowKit Go.Proofs.YtjjhhmchomabeaaDoorW.PrintWords Go.Proofs.YtjjhhmchomabeaaDoorW.PrintLast Go.Proofs.YtjjhhmchomabeaaDoor.Mem
set_option linter.unusedVariables false
set_option linter.unusedSimpArgs false

def wkAll (L : List T3) : List T3 × Int × List (Int × List Int) := wk L L.length 0 [] [] false

/-! Spans -/
theorem seer_spans : Seer Tryd.prog 50 #[] (fun (_ : Unit) FP _ => ∀ k, ¬ FP k) (fun _ _ s => s) (fun _ => 0) where
  fn := fun args w => MuLone.run_callFunc_enter Tryd.func50 (by kernel_rfl) rfl args w
  lt := fun h hk => absurd hk (h _)
  keep := fun h _ => h
  cnt_upd := fun _ _ _ => Nat.zero_le _
  call := fun {s FP w} a A xs c sv hI hC hA hc hl hn => by
    have HI := Aside0.mk hI
    clear hI hC hA hc hl hn
    show Calls Tryd.prog 50 #[.int .i64 a, .slice A xs.length c, sv] w _
    go_enter Tryd.func50, Tryd.ntmps50
    go_wp2
    go_end0
    exact ⟨rfl, FP, HI.out, fun k hk => .inl hk, Ch.refl _ _⟩

def Got (w : World) (R : List T3) (E : Int) (e : Ending) (w' : World) : Prop := ∃ v, e = .returned (.tuple #[v, .int .i64 E]) ∧ k3.R 140 w' w.heap.size (fun _ => True) v R ∧ Below w.heap.size w w'

theorem spans_calls (A0 : Option Addr) (c0 : Nat) (L : List T3) (w : World) (hL : k3.C w A0 L.length L) (hc0 : L.length ≤ c0) (hn : L.length ≤ 90000) :
    Calls Tryd.prog 37 #[.slice A0 L.length c0] w fun e w' => Got w (wkAll L).1 (wkAll L).2.1 e w' := by
  have HL := Aside0.mk hL
  clear hL
  go_enter Tryd.func37, Tryd.ntmps37
  go_wp2_with (fail)
  refine (walk_calls seer_spans A0 c0 L () (fun _ => False) _ (fun W hW => Kd.C_below HL.out (hW.below (fun _ h => h.elim))) hc0 hn (fun _ h => h) (Nat.zero_le _) (wkAll L).1 (wkAll L).2.1 (wkAll L).2.2 rfl).mono ?_
  rintro e w2 ⟨v, FP, rfl, hR, hI, hsub, hch⟩
  have HD := Aside0.mk (And.intro hR hch)
  clear hR hI hsub hch
  go_wp2
  go_ret2
  exact ⟨v, rfl, Kd.R_mono HD.out.1 (fun _ _ => trivial), HD.out.2.below (fun _ h => h.elim)⟩

end Go.Proofs.YtjjhhmchomabeaaDoor.Nest
