/-
  No cell of these rows narrows 'for every input' (looked for: loops, veiled, ifaces, maps, wideKeys, modest, calm, conditions, laid).
  DERIVED. THE GIVEN ROWS OF THIS SEAT. 12 by the template 'for every input the law returns true; each argument reads behind the call as it read before'; 0 by the template 'total and deterministic' (their statements: YtobopkkdjkjafaaTotals.lean).
  GIVEN WITH THE SEED: the statements are not yours to turn. If you find one false, say at which input.
  Laid BY PROGRAM, IN A SANDBOX (cutbox-rows.mjs): the forced cells as the released guide's own fill.sh prints them over the translation c52f5ce71329b4f8… (all of the seat's roots in one cut). By AI agents, Wed Nov 11 2026. No macro, syntax, notation, axiom, sorry.
-/
import Derived.Test.YtobopkkdjkjafaaChecked
import GoSem.Claim
import GoSem.ClaimJoined
import GoSem.ClaimMapViews
import Derived.JoinedTies
import Derived.KernelRfl
namespace Go.Proofs.Ytobopkkdjkjafaa
/- THE CELL 'sum', in the pinned program and in every row, IS THE sha256 OF THE DUMP (.gsa) THAT YtobopkkdjkjafaaProg.lean LOADS. Nothing in Lean hashes anything: it is a label: what it is worth is what the hold of that sum in a sandbox is worth. -/
noncomputable def Try.pinned : Pinned := { name := "ytobopkkdjkjafaa", sum := "c52f5ce71329b4f82f9052e6fb0088aa02e38f2ffcd48a6de184f841f2e6f18a", checked := Try.checked }
namespace Rows
def none {H : Type} : Left H := { results := [], args := [] }

/-- 'oubliettelaw06.NestTargets': WHATEVER THE INPUT: true; the input reads as it did. -/
def nestTargetsSpec : ChangeSpec := { name := "nestTargets", fn := fun _ => fun
  | [d1, d2, d3] => { results := [.lit (.bool true)], args := [d1, d2, d3] }
  | _ => none }
def nestTargetsRow : OpenClaim := { program := "ytobopkkdjkjafaa", sum := "c52f5ce71329b4f82f9052e6fb0088aa02e38f2ffcd48a6de184f841f2e6f18a", func := "oubliette/oubliettelaw06.NestTargets", spec := "nestTargets", unfollowed := true, recurses := true, apart := false }
def NestTargetsSaid : Prop := nestTargetsRow.holds Try.pinned (OpenSpec.ofChange nestTargetsSpec)

/-- ITS FALSE NEIGHBOUR: 'it returns false'. Refute it at one input. -/
def nestTargetsWrong : ChangeSpec := { name := "nestTargets", fn := fun _ => fun
  | [d1, d2, d3] => { results := [.lit (.bool false)], args := [d1, d2, d3] }
  | _ => none }
def NestTargetsWrongFalsely : Prop := nestTargetsRow.holds Try.pinned (OpenSpec.ofChange nestTargetsWrong)

/-- 'oubliettelaw06.NestWithin': WHATEVER THE INPUT: true; the input reads as it did. -/
def nestWithinSpec : ChangeSpec := { name := "nestWithin", fn := fun _ => fun
  | [d] => { results := [.lit (.bool true)], args := [d] }
  | _ => none }
def nestWithinRow : OpenClaim := { program := "ytobopkkdjkjafaa", sum := "c52f5ce71329b4f82f9052e6fb0088aa02e38f2ffcd48a6de184f841f2e6f18a", func := "oubliette/oubliettelaw06.NestWithin", spec := "nestWithin", unfollowed := true, recurses := true, apart := false }
def NestWithinSaid : Prop := nestWithinRow.holds Try.pinned (OpenSpec.ofChange nestWithinSpec)

/-- ITS FALSE NEIGHBOUR: 'it returns false'. Refute it at one input. -/
def nestWithinWrong : ChangeSpec := { name := "nestWithin", fn := fun _ => fun
  | [d] => { results := [.lit (.bool false)], args := [d] }
  | _ => none }
def NestWithinWrongFalsely : Prop := nestWithinRow.holds Try.pinned (OpenSpec.ofChange nestWithinWrong)

/-- 'oubliettelaw06.NestOthers': WHATEVER THE INPUT: true; the input reads as it did. -/
def nestOthersSpec : ChangeSpec := { name := "nestOthers", fn := fun _ => fun
  | [d1, d2] => { results := [.lit (.bool true)], args := [d1, d2] }
  | _ => none }
def nestOthersRow : OpenClaim := { program := "ytobopkkdjkjafaa", sum := "c52f5ce71329b4f82f9052e6fb0088aa02e38f2ffcd48a6de184f841f2e6f18a", func := "oubliette/oubliettelaw06.NestOthers", spec := "nestOthers", unfollowed := true, recurses := true, apart := false }
def NestOthersSaid : Prop := nestOthersRow.holds Try.pinned (OpenSpec.ofChange nestOthersSpec)

/-- ITS FALSE NEIGHBOUR: 'it returns false'. Refute it at one input. -/
def nestOthersWrong : ChangeSpec := { name := "nestOthers", fn := fun _ => fun
  | [d1, d2] => { results := [.lit (.bool false)], args := [d1, d2] }
  | _ => none }
def NestOthersWrongFalsely : Prop := nestOthersRow.holds Try.pinned (OpenSpec.ofChange nestOthersWrong)

/-- 'oubliettelaw06.NestSpans': WHATEVER THE INPUT: true; the input reads as it did. -/
def nestSpansSpec : ChangeSpec := { name := "nestSpans", fn := fun _ => fun
  | [d] => { results := [.lit (.bool true)], args := [d] }
  | _ => none }
def nestSpansRow : OpenClaim := { program := "ytobopkkdjkjafaa", sum := "c52f5ce71329b4f82f9052e6fb0088aa02e38f2ffcd48a6de184f841f2e6f18a", func := "oubliette/oubliettelaw06.NestSpans", spec := "nestSpans", unfollowed := true, recurses := true, apart := false }
def NestSpansSaid : Prop := nestSpansRow.holds Try.pinned (OpenSpec.ofChange nestSpansSpec)

/-- ITS FALSE NEIGHBOUR: 'it returns false'. Refute it at one input. -/
def nestSpansWrong : ChangeSpec := { name := "nestSpans", fn := fun _ => fun
  | [d] => { results := [.lit (.bool false)], args := [d] }
  | _ => none }
def NestSpansWrongFalsely : Prop := nestSpansRow.holds Try.pinned (OpenSpec.ofChange nestSpansWrong)

/-- 'oubliettelaw06.NestOut': WHATEVER THE INPUT: true; the input reads as it did. -/
def nestOutSpec : ChangeSpec := { name := "nestOut", fn := fun _ => fun
  | [d] => { results := [.lit (.bool true)], args := [d] }
  | _ => none }
def nestOutRow : OpenClaim := { program := "ytobopkkdjkjafaa", sum := "c52f5ce71329b4f82f9052e6fb0088aa02e38f2ffcd48a6de184f841f2e6f18a", func := "oubliette/oubliettelaw06.NestOut", spec := "nestOut", unfollowed := true, recurses := true, apart := false }
def NestOutSaid : Prop := nestOutRow.holds Try.pinned (OpenSpec.ofChange nestOutSpec)

/-- ITS FALSE NEIGHBOUR: 'it returns false'. Refute it at one input. -/
def nestOutWrong : ChangeSpec := { name := "nestOut", fn := fun _ => fun
  | [d] => { results := [.lit (.bool false)], args := [d] }
  | _ => none }
def NestOutWrongFalsely : Prop := nestOutRow.holds Try.pinned (OpenSpec.ofChange nestOutWrong)

/-- 'oubliettelaw06.NestMore': WHATEVER THE INPUT: true; the input reads as it did. -/
def nestMoreSpec : ChangeSpec := { name := "nestMore", fn := fun _ => fun
  | [d] => { results := [.lit (.bool true)], args := [d] }
  | _ => none }
def nestMoreRow : OpenClaim := { program := "ytobopkkdjkjafaa", sum := "c52f5ce71329b4f82f9052e6fb0088aa02e38f2ffcd48a6de184f841f2e6f18a", func := "oubliette/oubliettelaw06.NestMore", spec := "nestMore", unfollowed := true, recurses := true, apart := false }
def NestMoreSaid : Prop := nestMoreRow.holds Try.pinned (OpenSpec.ofChange nestMoreSpec)

/-- ITS FALSE NEIGHBOUR: 'it returns false'. Refute it at one input. -/
def nestMoreWrong : ChangeSpec := { name := "nestMore", fn := fun _ => fun
  | [d] => { results := [.lit (.bool false)], args := [d] }
  | _ => none }
def NestMoreWrongFalsely : Prop := nestMoreRow.holds Try.pinned (OpenSpec.ofChange nestMoreWrong)

/-- 'oubliettelaw02.WordEvals': WHATEVER THE INPUT: true; the input reads as it did. -/
def wordEvalsSpec : ChangeSpec := { name := "wordEvals", fn := fun _ => fun
  | [d1, d2, d3] => { results := [.lit (.bool true)], args := [d1, d2, d3] }
  | _ => none }
def wordEvalsRow : OpenClaim := { program := "ytobopkkdjkjafaa", sum := "c52f5ce71329b4f82f9052e6fb0088aa02e38f2ffcd48a6de184f841f2e6f18a", func := "oubliette/oubliettelaw02.WordEvals", spec := "wordEvals", unfollowed := true, recurses := true, apart := false }
def WordEvalsSaid : Prop := wordEvalsRow.holds Try.pinned (OpenSpec.ofChange wordEvalsSpec)

/-- ITS FALSE NEIGHBOUR: 'it returns false'. Refute it at one input. -/
def wordEvalsWrong : ChangeSpec := { name := "wordEvals", fn := fun _ => fun
  | [d1, d2, d3] => { results := [.lit (.bool false)], args := [d1, d2, d3] }
  | _ => none }
def WordEvalsWrongFalsely : Prop := wordEvalsRow.holds Try.pinned (OpenSpec.ofChange wordEvalsWrong)

/-- 'oubliettelaw02.WordSums': WHATEVER THE INPUT: true; the input reads as it did. -/
def wordSumsSpec : ChangeSpec := { name := "wordSums", fn := fun _ => fun
  | [d1, d2, d3, d4] => { results := [.lit (.bool true)], args := [d1, d2, d3, d4] }
  | _ => none }
def wordSumsRow : OpenClaim := { program := "ytobopkkdjkjafaa", sum := "c52f5ce71329b4f82f9052e6fb0088aa02e38f2ffcd48a6de184f841f2e6f18a", func := "oubliette/oubliettelaw02.WordSums", spec := "wordSums", unfollowed := true, recurses := true, apart := false }
def WordSumsSaid : Prop := wordSumsRow.holds Try.pinned (OpenSpec.ofChange wordSumsSpec)

/-- ITS FALSE NEIGHBOUR: 'it returns false'. Refute it at one input. -/
def wordSumsWrong : ChangeSpec := { name := "wordSums", fn := fun _ => fun
  | [d1, d2, d3, d4] => { results := [.lit (.bool false)], args := [d1, d2, d3, d4] }
  | _ => none }
def WordSumsWrongFalsely : Prop := wordSumsRow.holds Try.pinned (OpenSpec.ofChange wordSumsWrong)

/-- 'oubliettelaw02.WordDivides': WHATEVER THE INPUT: true; the input reads as it did. -/
def wordDividesSpec : ChangeSpec := { name := "wordDivides", fn := fun _ => fun
  | [d1, d2, d3] => { results := [.lit (.bool true)], args := [d1, d2, d3] }
  | _ => none }
def wordDividesRow : OpenClaim := { program := "ytobopkkdjkjafaa", sum := "c52f5ce71329b4f82f9052e6fb0088aa02e38f2ffcd48a6de184f841f2e6f18a", func := "oubliette/oubliettelaw02.WordDivides", spec := "wordDivides", unfollowed := true, recurses := true, apart := false }
def WordDividesSaid : Prop := wordDividesRow.holds Try.pinned (OpenSpec.ofChange wordDividesSpec)

/-- ITS FALSE NEIGHBOUR: 'it returns false'. Refute it at one input. -/
def wordDividesWrong : ChangeSpec := { name := "wordDivides", fn := fun _ => fun
  | [d1, d2, d3] => { results := [.lit (.bool false)], args := [d1, d2, d3] }
  | _ => none }
def WordDividesWrongFalsely : Prop := wordDividesRow.holds Try.pinned (OpenSpec.ofChange wordDividesWrong)

/-- 'oubliettelaw02.WordCompares': WHATEVER THE INPUT: true; the input reads as it did. -/
def wordComparesSpec : ChangeSpec := { name := "wordCompares", fn := fun _ => fun
  | [d1, d2, d3] => { results := [.lit (.bool true)], args := [d1, d2, d3] }
  | _ => none }
def wordComparesRow : OpenClaim := { program := "ytobopkkdjkjafaa", sum := "c52f5ce71329b4f82f9052e6fb0088aa02e38f2ffcd48a6de184f841f2e6f18a", func := "oubliette/oubliettelaw02.WordCompares", spec := "wordCompares", unfollowed := true, recurses := true, apart := false }
def WordComparesSaid : Prop := wordComparesRow.holds Try.pinned (OpenSpec.ofChange wordComparesSpec)

/-- ITS FALSE NEIGHBOUR: 'it returns false'. Refute it at one input. -/
def wordComparesWrong : ChangeSpec := { name := "wordCompares", fn := fun _ => fun
  | [d1, d2, d3] => { results := [.lit (.bool false)], args := [d1, d2, d3] }
  | _ => none }
def WordComparesWrongFalsely : Prop := wordComparesRow.holds Try.pinned (OpenSpec.ofChange wordComparesWrong)

/-- 'oubliettelaw02.WordTurns': WHATEVER THE INPUT: true; the input reads as it did. -/
def wordTurnsSpec : ChangeSpec := { name := "wordTurns", fn := fun _ => fun
  | [d1, d2, d3] => { results := [.lit (.bool true)], args := [d1, d2, d3] }
  | _ => none }
def wordTurnsRow : OpenClaim := { program := "ytobopkkdjkjafaa", sum := "c52f5ce71329b4f82f9052e6fb0088aa02e38f2ffcd48a6de184f841f2e6f18a", func := "oubliette/oubliettelaw02.WordTurns", spec := "wordTurns", unfollowed := true, recurses := true, apart := false }
def WordTurnsSaid : Prop := wordTurnsRow.holds Try.pinned (OpenSpec.ofChange wordTurnsSpec)

/-- ITS FALSE NEIGHBOUR: 'it returns false'. Refute it at one input. -/
def wordTurnsWrong : ChangeSpec := { name := "wordTurns", fn := fun _ => fun
  | [d1, d2, d3] => { results := [.lit (.bool false)], args := [d1, d2, d3] }
  | _ => none }
def WordTurnsWrongFalsely : Prop := wordTurnsRow.holds Try.pinned (OpenSpec.ofChange wordTurnsWrong)

/-- 'oubliettelaw02.WordWidths': WHATEVER THE INPUT: true; the input reads as it did. -/
def wordWidthsSpec : ChangeSpec := { name := "wordWidths", fn := fun _ => fun
  | [d1, d2, d3] => { results := [.lit (.bool true)], args := [d1, d2, d3] }
  | _ => none }
def wordWidthsRow : OpenClaim := { program := "ytobopkkdjkjafaa", sum := "c52f5ce71329b4f82f9052e6fb0088aa02e38f2ffcd48a6de184f841f2e6f18a", func := "oubliette/oubliettelaw02.WordWidths", spec := "wordWidths", unfollowed := true, recurses := true, apart := false }
def WordWidthsSaid : Prop := wordWidthsRow.holds Try.pinned (OpenSpec.ofChange wordWidthsSpec)

/-- ITS FALSE NEIGHBOUR: 'it returns false'. Refute it at one input. -/
def wordWidthsWrong : ChangeSpec := { name := "wordWidths", fn := fun _ => fun
  | [d1, d2, d3] => { results := [.lit (.bool false)], args := [d1, d2, d3] }
  | _ => none }
def WordWidthsWrongFalsely : Prop := wordWidthsRow.holds Try.pinned (OpenSpec.ofChange wordWidthsWrong)

/- THE SECOND FORM. 'bulk': how many values and letters a reading holds, each counted each time it is reached (what is shared counts as often as it is met; a slice's spare places count too). A statement '..UptoSaid' is the law's where the arguments, and the package variables that the reading takes, are together of bulk at most 1048576: NARROWER than '..Said'. Prove '..Said' where nothing that the law and all that it calls make is longer than what came in: it says more and counts as full. Else prove '..UptoSaid'. A law counts once. -/
mutual
def uptoBulk {H : Type} : DataW H → Nat
  | .lit (.string bytes) => bytes.length + 1
  | .lit _ => 1
  | .nil => 1
  | .ptr d => uptoBulk d + 1
  | .slice elems spare => uptoBulkAll elems + uptoBulkAll spare + 1
  | .agg parts => uptoBulkAll parts + 1
  | .iface _ d => uptoBulk d + 1
  | .map entries => uptoBulkEntries entries + 1
  | .held _ => 1
def uptoBulkAll {H : Type} : List (DataW H) → Nat
  | [] => 0
  | d :: r => uptoBulk d + uptoBulkAll r
def uptoBulkEntries {H : Type} : List (Lit × DataW H) → Nat
  | [] => 0
  | x :: r => uptoBulkEntry x + uptoBulkEntries r
def uptoBulkEntry {H : Type} : Lit × DataW H → Nat
  | (.string bytes, d) => bytes.length + uptoBulk d + 1
  | (_, d) => uptoBulk d + 1
 end
def uptoSmall : (H : Type) → List (DataW H) → Bool := fun _ ds => decide (uptoBulkAll ds ≤ 1048576)
def OpenSpec.upto (s : _root_.Go.ChangeSpec) : _root_.Go.OpenSpec := { _root_.Go.OpenSpec.ofChange s with cond := some uptoSmall }

/-- 'oubliettelaw06.NestTargets', WHERE WHAT IT READS IS OF BULK AT MOST 1048576: true; the input reads as it did. -/
def nestTargetsUptoRow : OpenClaim := { program := "ytobopkkdjkjafaa", sum := "c52f5ce71329b4f82f9052e6fb0088aa02e38f2ffcd48a6de184f841f2e6f18a", func := "oubliette/oubliettelaw06.NestTargets", spec := "nestTargets", unfollowed := true, recurses := true, apart := false, narrowed := true }
def NestTargetsUptoSaid : Prop := nestTargetsUptoRow.holds Try.pinned (OpenSpec.upto nestTargetsSpec)

/-- 'oubliettelaw06.NestWithin', WHERE WHAT IT READS IS OF BULK AT MOST 1048576: true; the input reads as it did. -/
def nestWithinUptoRow : OpenClaim := { program := "ytobopkkdjkjafaa", sum := "c52f5ce71329b4f82f9052e6fb0088aa02e38f2ffcd48a6de184f841f2e6f18a", func := "oubliette/oubliettelaw06.NestWithin", spec := "nestWithin", unfollowed := true, recurses := true, apart := false, narrowed := true }
def NestWithinUptoSaid : Prop := nestWithinUptoRow.holds Try.pinned (OpenSpec.upto nestWithinSpec)

/-- 'oubliettelaw06.NestOthers', WHERE WHAT IT READS IS OF BULK AT MOST 1048576: true; the input reads as it did. -/
def nestOthersUptoRow : OpenClaim := { program := "ytobopkkdjkjafaa", sum := "c52f5ce71329b4f82f9052e6fb0088aa02e38f2ffcd48a6de184f841f2e6f18a", func := "oubliette/oubliettelaw06.NestOthers", spec := "nestOthers", unfollowed := true, recurses := true, apart := false, narrowed := true }
def NestOthersUptoSaid : Prop := nestOthersUptoRow.holds Try.pinned (OpenSpec.upto nestOthersSpec)

/-- 'oubliettelaw06.NestSpans', WHERE WHAT IT READS IS OF BULK AT MOST 1048576: true; the input reads as it did. -/
def nestSpansUptoRow : OpenClaim := { program := "ytobopkkdjkjafaa", sum := "c52f5ce71329b4f82f9052e6fb0088aa02e38f2ffcd48a6de184f841f2e6f18a", func := "oubliette/oubliettelaw06.NestSpans", spec := "nestSpans", unfollowed := true, recurses := true, apart := false, narrowed := true }
def NestSpansUptoSaid : Prop := nestSpansUptoRow.holds Try.pinned (OpenSpec.upto nestSpansSpec)

/-- 'oubliettelaw06.NestOut', WHERE WHAT IT READS IS OF BULK AT MOST 1048576: true; the input reads as it did. -/
def nestOutUptoRow : OpenClaim := { program := "ytobopkkdjkjafaa", sum := "c52f5ce71329b4f82f9052e6fb0088aa02e38f2ffcd48a6de184f841f2e6f18a", func := "oubliette/oubliettelaw06.NestOut", spec := "nestOut", unfollowed := true, recurses := true, apart := false, narrowed := true }
def NestOutUptoSaid : Prop := nestOutUptoRow.holds Try.pinned (OpenSpec.upto nestOutSpec)

/-- 'oubliettelaw06.NestMore', WHERE WHAT IT READS IS OF BULK AT MOST 1048576: true; the input reads as it did. -/
def nestMoreUptoRow : OpenClaim := { program := "ytobopkkdjkjafaa", sum := "c52f5ce71329b4f82f9052e6fb0088aa02e38f2ffcd48a6de184f841f2e6f18a", func := "oubliette/oubliettelaw06.NestMore", spec := "nestMore", unfollowed := true, recurses := true, apart := false, narrowed := true }
def NestMoreUptoSaid : Prop := nestMoreUptoRow.holds Try.pinned (OpenSpec.upto nestMoreSpec)

/-- 'oubliettelaw02.WordEvals', WHERE WHAT IT READS IS OF BULK AT MOST 1048576: true; the input reads as it did. -/
def wordEvalsUptoRow : OpenClaim := { program := "ytobopkkdjkjafaa", sum := "c52f5ce71329b4f82f9052e6fb0088aa02e38f2ffcd48a6de184f841f2e6f18a", func := "oubliette/oubliettelaw02.WordEvals", spec := "wordEvals", unfollowed := true, recurses := true, apart := false, narrowed := true }
def WordEvalsUptoSaid : Prop := wordEvalsUptoRow.holds Try.pinned (OpenSpec.upto wordEvalsSpec)

/-- 'oubliettelaw02.WordSums', WHERE WHAT IT READS IS OF BULK AT MOST 1048576: true; the input reads as it did. -/
def wordSumsUptoRow : OpenClaim := { program := "ytobopkkdjkjafaa", sum := "c52f5ce71329b4f82f9052e6fb0088aa02e38f2ffcd48a6de184f841f2e6f18a", func := "oubliette/oubliettelaw02.WordSums", spec := "wordSums", unfollowed := true, recurses := true, apart := false, narrowed := true }
def WordSumsUptoSaid : Prop := wordSumsUptoRow.holds Try.pinned (OpenSpec.upto wordSumsSpec)

/-- 'oubliettelaw02.WordDivides', WHERE WHAT IT READS IS OF BULK AT MOST 1048576: true; the input reads as it did. -/
def wordDividesUptoRow : OpenClaim := { program := "ytobopkkdjkjafaa", sum := "c52f5ce71329b4f82f9052e6fb0088aa02e38f2ffcd48a6de184f841f2e6f18a", func := "oubliette/oubliettelaw02.WordDivides", spec := "wordDivides", unfollowed := true, recurses := true, apart := false, narrowed := true }
def WordDividesUptoSaid : Prop := wordDividesUptoRow.holds Try.pinned (OpenSpec.upto wordDividesSpec)

/-- 'oubliettelaw02.WordCompares', WHERE WHAT IT READS IS OF BULK AT MOST 1048576: true; the input reads as it did. -/
def wordComparesUptoRow : OpenClaim := { program := "ytobopkkdjkjafaa", sum := "c52f5ce71329b4f82f9052e6fb0088aa02e38f2ffcd48a6de184f841f2e6f18a", func := "oubliette/oubliettelaw02.WordCompares", spec := "wordCompares", unfollowed := true, recurses := true, apart := false, narrowed := true }
def WordComparesUptoSaid : Prop := wordComparesUptoRow.holds Try.pinned (OpenSpec.upto wordComparesSpec)

/-- 'oubliettelaw02.WordTurns', WHERE WHAT IT READS IS OF BULK AT MOST 1048576: true; the input reads as it did. -/
def wordTurnsUptoRow : OpenClaim := { program := "ytobopkkdjkjafaa", sum := "c52f5ce71329b4f82f9052e6fb0088aa02e38f2ffcd48a6de184f841f2e6f18a", func := "oubliette/oubliettelaw02.WordTurns", spec := "wordTurns", unfollowed := true, recurses := true, apart := false, narrowed := true }
def WordTurnsUptoSaid : Prop := wordTurnsUptoRow.holds Try.pinned (OpenSpec.upto wordTurnsSpec)

/-- 'oubliettelaw02.WordWidths', WHERE WHAT IT READS IS OF BULK AT MOST 1048576: true; the input reads as it did. -/
def wordWidthsUptoRow : OpenClaim := { program := "ytobopkkdjkjafaa", sum := "c52f5ce71329b4f82f9052e6fb0088aa02e38f2ffcd48a6de184f841f2e6f18a", func := "oubliette/oubliettelaw02.WordWidths", spec := "wordWidths", unfollowed := true, recurses := true, apart := false, narrowed := true }
def WordWidthsUptoSaid : Prop := wordWidthsUptoRow.holds Try.pinned (OpenSpec.upto wordWidthsSpec)

end Rows
end Go.Proofs.Ytobopkkdjkjafaa
