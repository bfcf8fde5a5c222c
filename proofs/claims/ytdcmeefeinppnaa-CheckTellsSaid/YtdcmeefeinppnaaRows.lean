/-
  No cell of these rows narrows 'for every input' (looked for: loops, veiled, ifaces, maps, wideKeys, modest, calm, conditions, laid).
  DERIVED. THE GIVEN ROWS OF THIS SEAT. 10 by the template 'for every input the law returns true; each argument reads behind the call as it read before'; 0 by the template 'total and deterministic' (their statements: YtdcmeefeinppnaaTotals.lean).
  GIVEN WITH THE SEED: the statements are not yours to turn. If you find one false, say at which input.
  Laid BY PROGRAM, IN A SANDBOX (cutbox-rows.mjs): the forced cells as the released guide's own fill.sh prints them over the translation 6fb9ef68a7d5d445… (all of the seat's roots in one cut). By AI agents, Wed Nov 11 2026. No macro, syntax, notation, axiom, sorry.
-/
import Derived.Test.YtdcmeefeinppnaaChecked
import GoSem.Claim
import GoSem.ClaimJoined
import GoSem.ClaimMapViews
import Derived.JoinedTies
import Derived.KernelRfl
namespace Go.Proofs.Ytdcmeefeinppnaa
/- THE CELL 'sum', in the pinned program and in every row, IS THE sha256 OF THE DUMP (.gsa) THAT YtdcmeefeinppnaaProg.lean LOADS. Nothing in Lean hashes anything: it is a label: what it is worth is what the hold of that sum in a sandbox is worth. -/
noncomputable def Try.pinned : Pinned := { name := "ytdcmeefeinppnaa", sum := "6fb9ef68a7d5d445a357fd6f3ad98629aa221ba6e717a734ac2b7941fdcb0826", checked := Try.checked }
namespace Rows
def none {H : Type} : Left H := { results := [], args := [] }

/-- 'oubliettelaw16.LiveTells': WHATEVER THE INPUT: true; the input reads as it did. -/
def liveTellsSpec : ChangeSpec := { name := "liveTells", fn := fun _ => fun
  | [d1, d2] => { results := [.lit (.bool true)], args := [d1, d2] }
  | _ => none }
def liveTellsRow : OpenClaim := { program := "ytdcmeefeinppnaa", sum := "6fb9ef68a7d5d445a357fd6f3ad98629aa221ba6e717a734ac2b7941fdcb0826", func := "oubliette/oubliettelaw16.LiveTells", spec := "liveTells", unfollowed := true, recurses := true, apart := false }
def LiveTellsSaid : Prop := liveTellsRow.holds Try.pinned (OpenSpec.ofChange liveTellsSpec)

/-- ITS FALSE NEIGHBOUR: 'it returns false'. Refute it at one input. -/
def liveTellsWrong : ChangeSpec := { name := "liveTells", fn := fun _ => fun
  | [d1, d2] => { results := [.lit (.bool false)], args := [d1, d2] }
  | _ => none }
def LiveTellsWrongFalsely : Prop := liveTellsRow.holds Try.pinned (OpenSpec.ofChange liveTellsWrong)

/-- 'oubliettelaw16.LiveFlows': WHATEVER THE INPUT: true; the input reads as it did. -/
def liveFlowsSpec : ChangeSpec := { name := "liveFlows", fn := fun _ => fun
  | [d1, d2, d3] => { results := [.lit (.bool true)], args := [d1, d2, d3] }
  | _ => none }
def liveFlowsRow : OpenClaim := { program := "ytdcmeefeinppnaa", sum := "6fb9ef68a7d5d445a357fd6f3ad98629aa221ba6e717a734ac2b7941fdcb0826", func := "oubliette/oubliettelaw16.LiveFlows", spec := "liveFlows", unfollowed := true, recurses := true, apart := false }
def LiveFlowsSaid : Prop := liveFlowsRow.holds Try.pinned (OpenSpec.ofChange liveFlowsSpec)

/-- ITS FALSE NEIGHBOUR: 'it returns false'. Refute it at one input. -/
def liveFlowsWrong : ChangeSpec := { name := "liveFlows", fn := fun _ => fun
  | [d1, d2, d3] => { results := [.lit (.bool false)], args := [d1, d2, d3] }
  | _ => none }
def LiveFlowsWrongFalsely : Prop := liveFlowsRow.holds Try.pinned (OpenSpec.ofChange liveFlowsWrong)

/-- 'oubliettelaw17.AllocPlaces': WHATEVER THE INPUT: true; the input reads as it did. -/
def allocPlacesSpec : ChangeSpec := { name := "allocPlaces", fn := fun _ => fun
  | [d1, d2] => { results := [.lit (.bool true)], args := [d1, d2] }
  | _ => none }
def allocPlacesRow : OpenClaim := { program := "ytdcmeefeinppnaa", sum := "6fb9ef68a7d5d445a357fd6f3ad98629aa221ba6e717a734ac2b7941fdcb0826", func := "oubliette/oubliettelaw17.AllocPlaces", spec := "allocPlaces", unfollowed := true, recurses := true, apart := false }
def AllocPlacesSaid : Prop := allocPlacesRow.holds Try.pinned (OpenSpec.ofChange allocPlacesSpec)

/-- ITS FALSE NEIGHBOUR: 'it returns false'. Refute it at one input. -/
def allocPlacesWrong : ChangeSpec := { name := "allocPlaces", fn := fun _ => fun
  | [d1, d2] => { results := [.lit (.bool false)], args := [d1, d2] }
  | _ => none }
def AllocPlacesWrongFalsely : Prop := allocPlacesRow.holds Try.pinned (OpenSpec.ofChange allocPlacesWrong)

/-- 'oubliettelaw17.AllocFew': WHATEVER THE INPUT: true; the input reads as it did. -/
def allocFewSpec : ChangeSpec := { name := "allocFew", fn := fun _ => fun
  | [d] => { results := [.lit (.bool true)], args := [d] }
  | _ => none }
def allocFewRow : OpenClaim := { program := "ytdcmeefeinppnaa", sum := "6fb9ef68a7d5d445a357fd6f3ad98629aa221ba6e717a734ac2b7941fdcb0826", func := "oubliette/oubliettelaw17.AllocFew", spec := "allocFew", unfollowed := true, recurses := true, apart := false }
def AllocFewSaid : Prop := allocFewRow.holds Try.pinned (OpenSpec.ofChange allocFewSpec)

/-- ITS FALSE NEIGHBOUR: 'it returns false'. Refute it at one input. -/
def allocFewWrong : ChangeSpec := { name := "allocFew", fn := fun _ => fun
  | [d] => { results := [.lit (.bool false)], args := [d] }
  | _ => none }
def AllocFewWrongFalsely : Prop := allocFewRow.holds Try.pinned (OpenSpec.ofChange allocFewWrong)

/-- 'oubliettelaw17.AllocApart': WHATEVER THE INPUT: true; the input reads as it did. -/
def allocApartSpec : ChangeSpec := { name := "allocApart", fn := fun _ => fun
  | [d] => { results := [.lit (.bool true)], args := [d] }
  | _ => none }
def allocApartRow : OpenClaim := { program := "ytdcmeefeinppnaa", sum := "6fb9ef68a7d5d445a357fd6f3ad98629aa221ba6e717a734ac2b7941fdcb0826", func := "oubliette/oubliettelaw17.AllocApart", spec := "allocApart", unfollowed := true, recurses := true, apart := false }
def AllocApartSaid : Prop := allocApartRow.holds Try.pinned (OpenSpec.ofChange allocApartSpec)

/-- ITS FALSE NEIGHBOUR: 'it returns false'. Refute it at one input. -/
def allocApartWrong : ChangeSpec := { name := "allocApart", fn := fun _ => fun
  | [d] => { results := [.lit (.bool false)], args := [d] }
  | _ => none }
def AllocApartWrongFalsely : Prop := allocApartRow.holds Try.pinned (OpenSpec.ofChange allocApartWrong)

/-- 'oubliettelaw16.LiveChanges': WHATEVER THE INPUT: true; the input reads as it did. -/
def liveChangesSpec : ChangeSpec := { name := "liveChanges", fn := fun _ => fun
  | [d1, d2, d3, d4] => { results := [.lit (.bool true)], args := [d1, d2, d3, d4] }
  | _ => none }
def liveChangesRow : OpenClaim := { program := "ytdcmeefeinppnaa", sum := "6fb9ef68a7d5d445a357fd6f3ad98629aa221ba6e717a734ac2b7941fdcb0826", func := "oubliette/oubliettelaw16.LiveChanges", spec := "liveChanges", unfollowed := true, recurses := true, apart := false }
def LiveChangesSaid : Prop := liveChangesRow.holds Try.pinned (OpenSpec.ofChange liveChangesSpec)

/-- ITS FALSE NEIGHBOUR: 'it returns false'. Refute it at one input. -/
def liveChangesWrong : ChangeSpec := { name := "liveChanges", fn := fun _ => fun
  | [d1, d2, d3, d4] => { results := [.lit (.bool false)], args := [d1, d2, d3, d4] }
  | _ => none }
def LiveChangesWrongFalsely : Prop := liveChangesRow.holds Try.pinned (OpenSpec.ofChange liveChangesWrong)

/-- 'oubliettelaw18.CheckTells': WHATEVER THE INPUT: true; the input reads as it did. -/
def checkTellsSpec : ChangeSpec := { name := "checkTells", fn := fun _ => fun
  | [d1, d2, d3] => { results := [.lit (.bool true)], args := [d1, d2, d3] }
  | _ => none }
def checkTellsRow : OpenClaim := { program := "ytdcmeefeinppnaa", sum := "6fb9ef68a7d5d445a357fd6f3ad98629aa221ba6e717a734ac2b7941fdcb0826", func := "oubliette/oubliettelaw18.CheckTells", spec := "checkTells", unfollowed := true, recurses := true, apart := false }
def CheckTellsSaid : Prop := checkTellsRow.holds Try.pinned (OpenSpec.ofChange checkTellsSpec)

/-- ITS FALSE NEIGHBOUR: 'it returns false'. Refute it at one input. -/
def checkTellsWrong : ChangeSpec := { name := "checkTells", fn := fun _ => fun
  | [d1, d2, d3] => { results := [.lit (.bool false)], args := [d1, d2, d3] }
  | _ => none }
def CheckTellsWrongFalsely : Prop := checkTellsRow.holds Try.pinned (OpenSpec.ofChange checkTellsWrong)

/-- 'oubliettelaw18.CheckTurns': WHATEVER THE INPUT: true; the input reads as it did. -/
def checkTurnsSpec : ChangeSpec := { name := "checkTurns", fn := fun _ => fun
  | [d1, d2, d3] => { results := [.lit (.bool true)], args := [d1, d2, d3] }
  | _ => none }
def checkTurnsRow : OpenClaim := { program := "ytdcmeefeinppnaa", sum := "6fb9ef68a7d5d445a357fd6f3ad98629aa221ba6e717a734ac2b7941fdcb0826", func := "oubliette/oubliettelaw18.CheckTurns", spec := "checkTurns", unfollowed := true, recurses := true, apart := false }
def CheckTurnsSaid : Prop := checkTurnsRow.holds Try.pinned (OpenSpec.ofChange checkTurnsSpec)

/-- ITS FALSE NEIGHBOUR: 'it returns false'. Refute it at one input. -/
def checkTurnsWrong : ChangeSpec := { name := "checkTurns", fn := fun _ => fun
  | [d1, d2, d3] => { results := [.lit (.bool false)], args := [d1, d2, d3] }
  | _ => none }
def CheckTurnsWrongFalsely : Prop := checkTurnsRow.holds Try.pinned (OpenSpec.ofChange checkTurnsWrong)

/-- 'oubliettelaw18.CheckSame': WHATEVER THE INPUT: true; the input reads as it did. -/
def checkSameSpec : ChangeSpec := { name := "checkSame", fn := fun _ => fun
  | [d1, d2, d3, d4] => { results := [.lit (.bool true)], args := [d1, d2, d3, d4] }
  | _ => none }
def checkSameRow : OpenClaim := { program := "ytdcmeefeinppnaa", sum := "6fb9ef68a7d5d445a357fd6f3ad98629aa221ba6e717a734ac2b7941fdcb0826", func := "oubliette/oubliettelaw18.CheckSame", spec := "checkSame", unfollowed := true, recurses := true, apart := false }
def CheckSameSaid : Prop := checkSameRow.holds Try.pinned (OpenSpec.ofChange checkSameSpec)

/-- ITS FALSE NEIGHBOUR: 'it returns false'. Refute it at one input. -/
def checkSameWrong : ChangeSpec := { name := "checkSame", fn := fun _ => fun
  | [d1, d2, d3, d4] => { results := [.lit (.bool false)], args := [d1, d2, d3, d4] }
  | _ => none }
def CheckSameWrongFalsely : Prop := checkSameRow.holds Try.pinned (OpenSpec.ofChange checkSameWrong)

/-- 'oubliettelaw18.CheckAlloc': WHATEVER THE INPUT: true; the input reads as it did. -/
def checkAllocSpec : ChangeSpec := { name := "checkAlloc", fn := fun _ => fun
  | [d1, d2, d3] => { results := [.lit (.bool true)], args := [d1, d2, d3] }
  | _ => none }
def checkAllocRow : OpenClaim := { program := "ytdcmeefeinppnaa", sum := "6fb9ef68a7d5d445a357fd6f3ad98629aa221ba6e717a734ac2b7941fdcb0826", func := "oubliette/oubliettelaw18.CheckAlloc", spec := "checkAlloc", unfollowed := true, recurses := true, apart := false }
def CheckAllocSaid : Prop := checkAllocRow.holds Try.pinned (OpenSpec.ofChange checkAllocSpec)

/-- ITS FALSE NEIGHBOUR: 'it returns false'. Refute it at one input. -/
def checkAllocWrong : ChangeSpec := { name := "checkAlloc", fn := fun _ => fun
  | [d1, d2, d3] => { results := [.lit (.bool false)], args := [d1, d2, d3] }
  | _ => none }
def CheckAllocWrongFalsely : Prop := checkAllocRow.holds Try.pinned (OpenSpec.ofChange checkAllocWrong)

/- THE SECOND FORM. 'bulk': how many values and letters a reading holds, each counted each time it is reached (what is shared counts as often as it is met; a slice's spare places count too). A statement '..UptoSaid' is the law's where the arguments, and the package variables that the reading takes, are together of bulk at most 1048576: NARROWER than '..Said'. Prove '..Said' where nothing that the law and all that it calls make is longer than what came in: it says more and counts as full. Else prove '..UptoSaid'. A law counts once. -/
mutual
def uptoBulk {H : Type} : DataW H → Nat
  | .lit (.string bytes) => bytes.length + 1
  | .lit _ => 1
  | .nil => 1
  | .ptr d => uptoBulk d + 1
  | .slice elems spare => uptoBulkAll elems + uptoBulkAll spare + 1
  | .agg parts => uptoBulkAll parts + 1
  | .iface _ d => uptoBulk d + 1
  | .map entries => uptoBulkEntries entries + 1
  | .held _ => 1
def uptoBulkAll {H : Type} : List (DataW H) → Nat
  | [] => 0
  | d :: r => uptoBulk d + uptoBulkAll r
def uptoBulkEntries {H : Type} : List (Lit × DataW H) → Nat
  | [] => 0
  | x :: r => uptoBulkEntry x + uptoBulkEntries r
def uptoBulkEntry {H : Type} : Lit × DataW H → Nat
  | (.string bytes, d) => bytes.length + uptoBulk d + 1
  | (_, d) => uptoBulk d + 1
 end
def uptoSmall : (H : Type) → List (DataW H) → Bool := fun _ ds => decide (uptoBulkAll ds ≤ 1048576)
def OpenSpec.upto (s : _root_.Go.ChangeSpec) : _root_.Go.OpenSpec := { _root_.Go.OpenSpec.ofChange s with cond := some uptoSmall }

/-- 'oubliettelaw16.LiveTells', WHERE WHAT IT READS IS OF BULK AT MOST 1048576: true; the input reads as it did. -/
def liveTellsUptoRow : OpenClaim := { program := "ytdcmeefeinppnaa", sum := "6fb9ef68a7d5d445a357fd6f3ad98629aa221ba6e717a734ac2b7941fdcb0826", func := "oubliette/oubliettelaw16.LiveTells", spec := "liveTells", unfollowed := true, recurses := true, apart := false, narrowed := true }
def LiveTellsUptoSaid : Prop := liveTellsUptoRow.holds Try.pinned (OpenSpec.upto liveTellsSpec)

/-- 'oubliettelaw16.LiveFlows', WHERE WHAT IT READS IS OF BULK AT MOST 1048576: true; the input reads as it did. -/
def liveFlowsUptoRow : OpenClaim := { program := "ytdcmeefeinppnaa", sum := "6fb9ef68a7d5d445a357fd6f3ad98629aa221ba6e717a734ac2b7941fdcb0826", func := "oubliette/oubliettelaw16.LiveFlows", spec := "liveFlows", unfollowed := true, recurses := true, apart := false, narrowed := true }
def LiveFlowsUptoSaid : Prop := liveFlowsUptoRow.holds Try.pinned (OpenSpec.upto liveFlowsSpec)

/-- 'oubliettelaw17.AllocPlaces', WHERE WHAT IT READS IS OF BULK AT MOST 1048576: true; the input reads as it did. -/
def allocPlacesUptoRow : OpenClaim := { program := "ytdcmeefeinppnaa", sum := "6fb9ef68a7d5d445a357fd6f3ad98629aa221ba6e717a734ac2b7941fdcb0826", func := "oubliette/oubliettelaw17.AllocPlaces", spec := "allocPlaces", unfollowed := true, recurses := true, apart := false, narrowed := true }
def AllocPlacesUptoSaid : Prop := allocPlacesUptoRow.holds Try.pinned (OpenSpec.upto allocPlacesSpec)

/-- 'oubliettelaw17.AllocFew', WHERE WHAT IT READS IS OF BULK AT MOST 1048576: true; the input reads as it did. -/
def allocFewUptoRow : OpenClaim := { program := "ytdcmeefeinppnaa", sum := "6fb9ef68a7d5d445a357fd6f3ad98629aa221ba6e717a734ac2b7941fdcb0826", func := "oubliette/oubliettelaw17.AllocFew", spec := "allocFew", unfollowed := true, recurses := true, apart := false, narrowed := true }
def AllocFewUptoSaid : Prop := allocFewUptoRow.holds Try.pinned (OpenSpec.upto allocFewSpec)

/-- 'oubliettelaw17.AllocApart', WHERE WHAT IT READS IS OF BULK AT MOST 1048576: true; the input reads as it did. -/
def allocApartUptoRow : OpenClaim := { program := "ytdcmeefeinppnaa", sum := "6fb9ef68a7d5d445a357fd6f3ad98629aa221ba6e717a734ac2b7941fdcb0826", func := "oubliette/oubliettelaw17.AllocApart", spec := "allocApart", unfollowed := true, recurses := true, apart := false, narrowed := true }
def AllocApartUptoSaid : Prop := allocApartUptoRow.holds Try.pinned (OpenSpec.upto allocApartSpec)

/-- 'oubliettelaw16.LiveChanges', WHERE WHAT IT READS IS OF BULK AT MOST 1048576: true; the input reads as it did. -/
def liveChangesUptoRow : OpenClaim := { program := "ytdcmeefeinppnaa", sum := "6fb9ef68a7d5d445a357fd6f3ad98629aa221ba6e717a734ac2b7941fdcb0826", func := "oubliette/oubliettelaw16.LiveChanges", spec := "liveChanges", unfollowed := true, recurses := true, apart := false, narrowed := true }
def LiveChangesUptoSaid : Prop := liveChangesUptoRow.holds Try.pinned (OpenSpec.upto liveChangesSpec)

/-- 'oubliettelaw18.CheckTells', WHERE WHAT IT READS IS OF BULK AT MOST 1048576: true; the input reads as it did. -/
def checkTellsUptoRow : OpenClaim := { program := "ytdcmeefeinppnaa", sum := "6fb9ef68a7d5d445a357fd6f3ad98629aa221ba6e717a734ac2b7941fdcb0826", func := "oubliette/oubliettelaw18.CheckTells", spec := "checkTells", unfollowed := true, recurses := true, apart := false, narrowed := true }
def CheckTellsUptoSaid : Prop := checkTellsUptoRow.holds Try.pinned (OpenSpec.upto checkTellsSpec)

/-- 'oubliettelaw18.CheckTurns', WHERE WHAT IT READS IS OF BULK AT MOST 1048576: true; the input reads as it did. -/
def checkTurnsUptoRow : OpenClaim := { program := "ytdcmeefeinppnaa", sum := "6fb9ef68a7d5d445a357fd6f3ad98629aa221ba6e717a734ac2b7941fdcb0826", func := "oubliette/oubliettelaw18.CheckTurns", spec := "checkTurns", unfollowed := true, recurses := true, apart := false, narrowed := true }
def CheckTurnsUptoSaid : Prop := checkTurnsUptoRow.holds Try.pinned (OpenSpec.upto checkTurnsSpec)

/-- 'oubliettelaw18.CheckSame', WHERE WHAT IT READS IS OF BULK AT MOST 1048576: true; the input reads as it did. -/
def checkSameUptoRow : OpenClaim := { program := "ytdcmeefeinppnaa", sum := "6fb9ef68a7d5d445a357fd6f3ad98629aa221ba6e717a734ac2b7941fdcb0826", func := "oubliette/oubliettelaw18.CheckSame", spec := "checkSame", unfollowed := true, recurses := true, apart := false, narrowed := true }
def CheckSameUptoSaid : Prop := checkSameUptoRow.holds Try.pinned (OpenSpec.upto checkSameSpec)

/-- 'oubliettelaw18.CheckAlloc', WHERE WHAT IT READS IS OF BULK AT MOST 1048576: true; the input reads as it did. -/
def checkAllocUptoRow : OpenClaim := { program := "ytdcmeefeinppnaa", sum := "6fb9ef68a7d5d445a357fd6f3ad98629aa221ba6e717a734ac2b7941fdcb0826", func := "oubliette/oubliettelaw18.CheckAlloc", spec := "checkAlloc", unfollowed := true, recurses := true, apart := false, narrowed := true }
def CheckAllocUptoSaid : Prop := checkAllocUptoRow.holds Try.pinned (OpenSpec.upto checkAllocSpec)

end Rows
end Go.Proofs.Ytdcmeefeinppnaa
