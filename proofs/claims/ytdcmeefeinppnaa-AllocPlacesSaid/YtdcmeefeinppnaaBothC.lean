/- The reference's Both, whatever the code. -/
import Derived.Test.YtdcmeefeinppnaaFlows
import Derived.Test.YtdcmeefeinppnaaRBothW
namespace Go.Proofs.Ytdcmeefeinppnaa.Live
open Go.RowKit Go.Proofs.YtdcmeefeinppnaaW.PrintWords Go.Proofs.YtdcmeefeinppnaaW.PrintLast Go.Proofs.YtdcmeefeinppnaaW.PrintMore Go.Proofs.Ytdcmeefeinppnaa.Mem Go.Proofs.Ytdcmeefeinppnaa.Ir
open Uses (uses)
set_option linter.unusedVariables false
set_option linter.unusedSimpArgs false

theorem both_calls (c : Cod) (A : Option Addr) (cap : Nat) (w : World) (hC : CodeAt w c A cap) {ah af : List Int} {er : Int} (hS : SetsIs c ah af er) (hE : er = 0 ∧ fits c = true ∧ LiveIs c ah af ∨ er = 4 ∧ fits c = false ∧ ah = [] ∧ af = []) :
    Calls Try.prog 16 #[.agg (c.vals A cap)] w (BothOut w ah af (fits c)) := by
  rcases hE with ⟨h1, h2, h3⟩ | ⟨h1, h2, rfl, rfl⟩
  · obtain ⟨_, k, hk⟩ := hS.yes h2
    rw [h2]
    exact both_yes c A cap w hC h2 ah af h3 k hk
  · rw [h2]
    exact both_no c A cap w hC h2
end Go.Proofs.Ytdcmeefeinppnaa.Live
