/-
  NARROWER THAN 'FOR EVERY INPUT', by the rows' own cells (each row's printed sentence says how): ValidCallee: laid · ValidNop: laid · ValidDead: laid · ValidTrusted: laid · ValidShape: laid · ValidSecret: laid · ValidLater: laid.
  DERIVED. THE GIVEN ROWS OF THIS SEAT. 7 by the template 'for every input the law returns true; each argument reads behind the call as it read before'; 0 by the template 'total and deterministic' (their statements: YtjjhhmchomabeaaDoorTotals.lean).
  GIVEN WITH THE SEED: the statements are not yours to turn. If you find one false, say at which input.
  Laid BY PROGRAM, IN A SANDBOX (cutbox-rows.mjs): the forced cells as the released guide's own fill.sh prints them over the translation 6ba8eb20ae154bdf… (all of the seat's roots in one cut). By AI agents, Wed Nov 11 2026. No macro, syntax, notation, axiom, sorry.
-/
import Derived.Test.YtjjhhmchomabeaaDoorChecked
import GoSem.Claim
import GoSem.ClaimJoined
import GoSem.ClaimMapViews
import Derived.JoinedTies
import Derived.KernelRfl
namespace Go.Proofs.YtjjhhmchomabeaaDoor
/- THE CELL 'sum', in the pinned program and in every row, IS THE sha256 OF THE DUMP (.gsa) THAT YtjjhhmchomabeaaDoorProg.lean LOADS. Nothing in Lean hashes anything: it is a label: what it is worth is what the hold of that sum in a sandbox is worth. -/
noncomputable def Tryd.pinned : Pinned := { name := "ytjjhhmchomabeaadoor", sum := "6ba8eb20ae154bdf6750f179a84767b553d79ea56c8fa567e610d71461dffaad", checked := Tryd.checked }
namespace Rows
def none {H : Type} : Left H := { results := [], args := [] }

/- WHAT THE LISTED PACKAGE-LEVEL VARIABLES READ AS WHEN THE CALL BEGINS. Each datum BY PROGRAM (the guide's laid-datum.mjs) off the statement by which the dump's own 'gosem.cut.vars' lays the variable. In a bare row this is a premise. The card (YtjjhhmchomabeaaDoorCards.lean) ties it to the program's text. -/
def laid_errors_errorType {H : Type} : DataW H := .iface "internal/reflectlite.rtype" (.agg [.ptr (.lit (.string [101, 114, 114, 111, 114]))])

/-- 'oubliettelaw07.ValidCallee': WHATEVER THE INPUT: true; the input reads as it did. -/
def validCalleeSpec : ChangeSpec := { name := "validCallee", fn := fun _ => fun
  | [d1, d2] => { results := [.lit (.bool true)], args := [d1, d2] }
  | _ => none }
def validCalleeRow : OpenClaim := { program := "ytjjhhmchomabeaadoor", sum := "6ba8eb20ae154bdf6750f179a84767b553d79ea56c8fa567e610d71461dffaad", func := "oubliette/oubliettelaw07.ValidCallee", spec := "validCallee", inPlace := ["internal/abi.NoEscape", "internal/reflectlite.TypeOf", "internal/reflectlite.ValueOf", "(internal/reflectlite.Value).Type", "(internal/reflectlite.Value).IsNil", "(internal/reflectlite.Value).Elem", "(internal/reflectlite.Value).Set"], unfollowed := true, recurses := true, named := ["errors.errorType"], apart := false, laid := [("errors.errorType", laid_errors_errorType)] }
def ValidCalleeSaid : Prop := validCalleeRow.holds Tryd.pinned (OpenSpec.ofChange validCalleeSpec)

/-- ITS FALSE NEIGHBOUR: 'it returns false'. Refute it at one input. -/
def validCalleeWrong : ChangeSpec := { name := "validCallee", fn := fun _ => fun
  | [d1, d2] => { results := [.lit (.bool false)], args := [d1, d2] }
  | _ => none }
def ValidCalleeWrongFalsely : Prop := validCalleeRow.holds Tryd.pinned (OpenSpec.ofChange validCalleeWrong)

/-- 'oubliettelaw07.ValidNop': WHATEVER THE INPUT: true; the input reads as it did. -/
def validNopSpec : ChangeSpec := { name := "validNop", fn := fun _ => fun
  | [d1, d2, d3] => { results := [.lit (.bool true)], args := [d1, d2, d3] }
  | _ => none }
def validNopRow : OpenClaim := { program := "ytjjhhmchomabeaadoor", sum := "6ba8eb20ae154bdf6750f179a84767b553d79ea56c8fa567e610d71461dffaad", func := "oubliette/oubliettelaw07.ValidNop", spec := "validNop", inPlace := ["internal/abi.NoEscape", "internal/reflectlite.TypeOf", "internal/reflectlite.ValueOf", "(internal/reflectlite.Value).Type", "(internal/reflectlite.Value).IsNil", "(internal/reflectlite.Value).Elem", "(internal/reflectlite.Value).Set"], unfollowed := true, recurses := true, named := ["errors.errorType"], apart := false, laid := [("errors.errorType", laid_errors_errorType)] }
def ValidNopSaid : Prop := validNopRow.holds Tryd.pinned (OpenSpec.ofChange validNopSpec)

/-- ITS FALSE NEIGHBOUR: 'it returns false'. Refute it at one input. -/
def validNopWrong : ChangeSpec := { name := "validNop", fn := fun _ => fun
  | [d1, d2, d3] => { results := [.lit (.bool false)], args := [d1, d2, d3] }
  | _ => none }
def ValidNopWrongFalsely : Prop := validNopRow.holds Tryd.pinned (OpenSpec.ofChange validNopWrong)

/-- 'oubliettelaw07.ValidDead': WHATEVER THE INPUT: true; the input reads as it did. -/
def validDeadSpec : ChangeSpec := { name := "validDead", fn := fun _ => fun
  | [d1, d2, d3] => { results := [.lit (.bool true)], args := [d1, d2, d3] }
  | _ => none }
def validDeadRow : OpenClaim := { program := "ytjjhhmchomabeaadoor", sum := "6ba8eb20ae154bdf6750f179a84767b553d79ea56c8fa567e610d71461dffaad", func := "oubliette/oubliettelaw07.ValidDead", spec := "validDead", inPlace := ["internal/abi.NoEscape", "internal/reflectlite.TypeOf", "internal/reflectlite.ValueOf", "(internal/reflectlite.Value).Type", "(internal/reflectlite.Value).IsNil", "(internal/reflectlite.Value).Elem", "(internal/reflectlite.Value).Set"], unfollowed := true, recurses := true, named := ["errors.errorType"], apart := false, laid := [("errors.errorType", laid_errors_errorType)] }
def ValidDeadSaid : Prop := validDeadRow.holds Tryd.pinned (OpenSpec.ofChange validDeadSpec)

/-- ITS FALSE NEIGHBOUR: 'it returns false'. Refute it at one input. -/
def validDeadWrong : ChangeSpec := { name := "validDead", fn := fun _ => fun
  | [d1, d2, d3] => { results := [.lit (.bool false)], args := [d1, d2, d3] }
  | _ => none }
def ValidDeadWrongFalsely : Prop := validDeadRow.holds Tryd.pinned (OpenSpec.ofChange validDeadWrong)

/-- 'oubliettelaw07.ValidTrusted': WHATEVER THE INPUT: true; the input reads as it did. -/
def validTrustedSpec : ChangeSpec := { name := "validTrusted", fn := fun _ => fun
  | [d] => { results := [.lit (.bool true)], args := [d] }
  | _ => none }
def validTrustedRow : OpenClaim := { program := "ytjjhhmchomabeaadoor", sum := "6ba8eb20ae154bdf6750f179a84767b553d79ea56c8fa567e610d71461dffaad", func := "oubliette/oubliettelaw07.ValidTrusted", spec := "validTrusted", inPlace := ["internal/abi.NoEscape", "internal/reflectlite.TypeOf", "internal/reflectlite.ValueOf", "(internal/reflectlite.Value).Type", "(internal/reflectlite.Value).IsNil", "(internal/reflectlite.Value).Elem", "(internal/reflectlite.Value).Set"], unfollowed := true, recurses := true, named := ["errors.errorType"], apart := false, laid := [("errors.errorType", laid_errors_errorType)] }
def ValidTrustedSaid : Prop := validTrustedRow.holds Tryd.pinned (OpenSpec.ofChange validTrustedSpec)

/-- ITS FALSE NEIGHBOUR: 'it returns false'. Refute it at one input. -/
def validTrustedWrong : ChangeSpec := { name := "validTrusted", fn := fun _ => fun
  | [d] => { results := [.lit (.bool false)], args := [d] }
  | _ => none }
def ValidTrustedWrongFalsely : Prop := validTrustedRow.holds Tryd.pinned (OpenSpec.ofChange validTrustedWrong)

/-- 'oubliettelaw07.ValidShape': WHATEVER THE INPUT: true; the input reads as it did. -/
def validShapeSpec : ChangeSpec := { name := "validShape", fn := fun _ => fun
  | [d] => { results := [.lit (.bool true)], args := [d] }
  | _ => none }
def validShapeRow : OpenClaim := { program := "ytjjhhmchomabeaadoor", sum := "6ba8eb20ae154bdf6750f179a84767b553d79ea56c8fa567e610d71461dffaad", func := "oubliette/oubliettelaw07.ValidShape", spec := "validShape", inPlace := ["internal/abi.NoEscape", "internal/reflectlite.TypeOf", "internal/reflectlite.ValueOf", "(internal/reflectlite.Value).Type", "(internal/reflectlite.Value).IsNil", "(internal/reflectlite.Value).Elem", "(internal/reflectlite.Value).Set"], unfollowed := true, recurses := true, named := ["errors.errorType"], apart := false, laid := [("errors.errorType", laid_errors_errorType)] }
def ValidShapeSaid : Prop := validShapeRow.holds Tryd.pinned (OpenSpec.ofChange validShapeSpec)

/-- ITS FALSE NEIGHBOUR: 'it returns false'. Refute it at one input. -/
def validShapeWrong : ChangeSpec := { name := "validShape", fn := fun _ => fun
  | [d] => { results := [.lit (.bool false)], args := [d] }
  | _ => none }
def ValidShapeWrongFalsely : Prop := validShapeRow.holds Tryd.pinned (OpenSpec.ofChange validShapeWrong)

/-- 'oubliettelaw07.ValidSecret': WHATEVER THE INPUT: true; the input reads as it did. -/
def validSecretSpec : ChangeSpec := { name := "validSecret", fn := fun _ => fun
  | [d1, d2, d3] => { results := [.lit (.bool true)], args := [d1, d2, d3] }
  | _ => none }
def validSecretRow : OpenClaim := { program := "ytjjhhmchomabeaadoor", sum := "6ba8eb20ae154bdf6750f179a84767b553d79ea56c8fa567e610d71461dffaad", func := "oubliette/oubliettelaw07.ValidSecret", spec := "validSecret", inPlace := ["internal/abi.NoEscape", "internal/reflectlite.TypeOf", "internal/reflectlite.ValueOf", "(internal/reflectlite.Value).Type", "(internal/reflectlite.Value).IsNil", "(internal/reflectlite.Value).Elem", "(internal/reflectlite.Value).Set"], unfollowed := true, recurses := true, named := ["errors.errorType"], apart := false, laid := [("errors.errorType", laid_errors_errorType)] }
def ValidSecretSaid : Prop := validSecretRow.holds Tryd.pinned (OpenSpec.ofChange validSecretSpec)

/-- ITS FALSE NEIGHBOUR: 'it returns false'. Refute it at one input. -/
def validSecretWrong : ChangeSpec := { name := "validSecret", fn := fun _ => fun
  | [d1, d2, d3] => { results := [.lit (.bool false)], args := [d1, d2, d3] }
  | _ => none }
def ValidSecretWrongFalsely : Prop := validSecretRow.holds Tryd.pinned (OpenSpec.ofChange validSecretWrong)

/-- 'oubliettelaw07.ValidLater': WHATEVER THE INPUT: true; the input reads as it did. -/
def validLaterSpec : ChangeSpec := { name := "validLater", fn := fun _ => fun
  | [d1, d2] => { results := [.lit (.bool true)], args := [d1, d2] }
  | _ => none }
def validLaterRow : OpenClaim := { program := "ytjjhhmchomabeaadoor", sum := "6ba8eb20ae154bdf6750f179a84767b553d79ea56c8fa567e610d71461dffaad", func := "oubliette/oubliettelaw07.ValidLater", spec := "validLater", inPlace := ["internal/abi.NoEscape", "internal/reflectlite.TypeOf", "internal/reflectlite.ValueOf", "(internal/reflectlite.Value).Type", "(internal/reflectlite.Value).IsNil", "(internal/reflectlite.Value).Elem", "(internal/reflectlite.Value).Set"], unfollowed := true, recurses := true, named := ["errors.errorType"], apart := false, laid := [("errors.errorType", laid_errors_errorType)] }
def ValidLaterSaid : Prop := validLaterRow.holds Tryd.pinned (OpenSpec.ofChange validLaterSpec)

/-- ITS FALSE NEIGHBOUR: 'it returns false'. Refute it at one input. -/
def validLaterWrong : ChangeSpec := { name := "validLater", fn := fun _ => fun
  | [d1, d2] => { results := [.lit (.bool false)], args := [d1, d2] }
  | _ => none }
def ValidLaterWrongFalsely : Prop := validLaterRow.holds Tryd.pinned (OpenSpec.ofChange validLaterWrong)

/- THE SECOND FORM. 'bulk': how many values and letters a reading holds, each counted each time it is reached (what is shared counts as often as it is met; a slice's spare places count too). A statement '..UptoSaid' is the law's where the arguments, and the package variables that the reading takes, are together of bulk at most 1048576: NARROWER than '..Said'. Prove '..Said' where nothing that the law and all that it calls make is longer than what came in: it says more and counts as full. Else prove '..UptoSaid'. A law counts once. -/
mutual
def uptoBulk {H : Type} : DataW H → Nat
  | .lit (.string bytes) => bytes.length + 1
  | .lit _ => 1
  | .nil => 1
  | .ptr d => uptoBulk d + 1
  | .slice elems spare => uptoBulkAll elems + uptoBulkAll spare + 1
  | .agg parts => uptoBulkAll parts + 1
  | .iface _ d => uptoBulk d + 1
  | .map entries => uptoBulkEntries entries + 1
  | .held _ => 1
def uptoBulkAll {H : Type} : List (DataW H) → Nat
  | [] => 0
  | d :: r => uptoBulk d + uptoBulkAll r
def uptoBulkEntries {H : Type} : List (Lit × DataW H) → Nat
  | [] => 0
  | x :: r => uptoBulkEntry x + uptoBulkEntries r
def uptoBulkEntry {H : Type} : Lit × DataW H → Nat
  | (.string bytes, d) => bytes.length + uptoBulk d + 1
  | (_, d) => uptoBulk d + 1
 end
def uptoSmall : (H : Type) → List (DataW H) → Bool := fun _ ds => decide (uptoBulkAll ds ≤ 1048576)
def OpenSpec.upto (s : _root_.Go.ChangeSpec) : _root_.Go.OpenSpec := { _root_.Go.OpenSpec.ofChange s with cond := some uptoSmall }

/-- 'oubliettelaw07.ValidCallee', WHERE WHAT IT READS IS OF BULK AT MOST 1048576: true; the input reads as it did. -/
def validCalleeUptoRow : OpenClaim := { program := "ytjjhhmchomabeaadoor", sum := "6ba8eb20ae154bdf6750f179a84767b553d79ea56c8fa567e610d71461dffaad", func := "oubliette/oubliettelaw07.ValidCallee", spec := "validCallee", inPlace := ["internal/abi.NoEscape", "internal/reflectlite.TypeOf", "internal/reflectlite.ValueOf", "(internal/reflectlite.Value).Type", "(internal/reflectlite.Value).IsNil", "(internal/reflectlite.Value).Elem", "(internal/reflectlite.Value).Set"], unfollowed := true, recurses := true, named := ["errors.errorType"], apart := false, laid := [("errors.errorType", laid_errors_errorType)], narrowed := true }
def ValidCalleeUptoSaid : Prop := validCalleeUptoRow.holds Tryd.pinned (OpenSpec.upto validCalleeSpec)

/-- 'oubliettelaw07.ValidNop', WHERE WHAT IT READS IS OF BULK AT MOST 1048576: true; the input reads as it did. -/
def validNopUptoRow : OpenClaim := { program := "ytjjhhmchomabeaadoor", sum := "6ba8eb20ae154bdf6750f179a84767b553d79ea56c8fa567e610d71461dffaad", func := "oubliette/oubliettelaw07.ValidNop", spec := "validNop", inPlace := ["internal/abi.NoEscape", "internal/reflectlite.TypeOf", "internal/reflectlite.ValueOf", "(internal/reflectlite.Value).Type", "(internal/reflectlite.Value).IsNil", "(internal/reflectlite.Value).Elem", "(internal/reflectlite.Value).Set"], unfollowed := true, recurses := true, named := ["errors.errorType"], apart := false, laid := [("errors.errorType", laid_errors_errorType)], narrowed := true }
def ValidNopUptoSaid : Prop := validNopUptoRow.holds Tryd.pinned (OpenSpec.upto validNopSpec)

/-- 'oubliettelaw07.ValidDead', WHERE WHAT IT READS IS OF BULK AT MOST 1048576: true; the input reads as it did. -/
def validDeadUptoRow : OpenClaim := { program := "ytjjhhmchomabeaadoor", sum := "6ba8eb20ae154bdf6750f179a84767b553d79ea56c8fa567e610d71461dffaad", func := "oubliette/oubliettelaw07.ValidDead", spec := "validDead", inPlace := ["internal/abi.NoEscape", "internal/reflectlite.TypeOf", "internal/reflectlite.ValueOf", "(internal/reflectlite.Value).Type", "(internal/reflectlite.Value).IsNil", "(internal/reflectlite.Value).Elem", "(internal/reflectlite.Value).Set"], unfollowed := true, recurses := true, named := ["errors.errorType"], apart := false, laid := [("errors.errorType", laid_errors_errorType)], narrowed := true }
def ValidDeadUptoSaid : Prop := validDeadUptoRow.holds Tryd.pinned (OpenSpec.upto validDeadSpec)

/-- 'oubliettelaw07.ValidTrusted', WHERE WHAT IT READS IS OF BULK AT MOST 1048576: true; the input reads as it did. -/
def validTrustedUptoRow : OpenClaim := { program := "ytjjhhmchomabeaadoor", sum := "6ba8eb20ae154bdf6750f179a84767b553d79ea56c8fa567e610d71461dffaad", func := "oubliette/oubliettelaw07.ValidTrusted", spec := "validTrusted", inPlace := ["internal/abi.NoEscape", "internal/reflectlite.TypeOf", "internal/reflectlite.ValueOf", "(internal/reflectlite.Value).Type", "(internal/reflectlite.Value).IsNil", "(internal/reflectlite.Value).Elem", "(internal/reflectlite.Value).Set"], unfollowed := true, recurses := true, named := ["errors.errorType"], apart := false, laid := [("errors.errorType", laid_errors_errorType)], narrowed := true }
def ValidTrustedUptoSaid : Prop := validTrustedUptoRow.holds Tryd.pinned (OpenSpec.upto validTrustedSpec)

/-- 'oubliettelaw07.ValidShape', WHERE WHAT IT READS IS OF BULK AT MOST 1048576: true; the input reads as it did. -/
def validShapeUptoRow : OpenClaim := { program := "ytjjhhmchomabeaadoor", sum := "6ba8eb20ae154bdf6750f179a84767b553d79ea56c8fa567e610d71461dffaad", func := "oubliette/oubliettelaw07.ValidShape", spec := "validShape", inPlace := ["internal/abi.NoEscape", "internal/reflectlite.TypeOf", "internal/reflectlite.ValueOf", "(internal/reflectlite.Value).Type", "(internal/reflectlite.Value).IsNil", "(internal/reflectlite.Value).Elem", "(internal/reflectlite.Value).Set"], unfollowed := true, recurses := true, named := ["errors.errorType"], apart := false, laid := [("errors.errorType", laid_errors_errorType)], narrowed := true }
def ValidShapeUptoSaid : Prop := validShapeUptoRow.holds Tryd.pinned (OpenSpec.upto validShapeSpec)

/-- 'oubliettelaw07.ValidSecret', WHERE WHAT IT READS IS OF BULK AT MOST 1048576: true; the input reads as it did. -/
def validSecretUptoRow : OpenClaim := { program := "ytjjhhmchomabeaadoor", sum := "6ba8eb20ae154bdf6750f179a84767b553d79ea56c8fa567e610d71461dffaad", func := "oubliette/oubliettelaw07.ValidSecret", spec := "validSecret", inPlace := ["internal/abi.NoEscape", "internal/reflectlite.TypeOf", "internal/reflectlite.ValueOf", "(internal/reflectlite.Value).Type", "(internal/reflectlite.Value).IsNil", "(internal/reflectlite.Value).Elem", "(internal/reflectlite.Value).Set"], unfollowed := true, recurses := true, named := ["errors.errorType"], apart := false, laid := [("errors.errorType", laid_errors_errorType)], narrowed := true }
def ValidSecretUptoSaid : Prop := validSecretUptoRow.holds Tryd.pinned (OpenSpec.upto validSecretSpec)

/-- 'oubliettelaw07.ValidLater', WHERE WHAT IT READS IS OF BULK AT MOST 1048576: true; the input reads as it did. -/
def validLaterUptoRow : OpenClaim := { program := "ytjjhhmchomabeaadoor", sum := "6ba8eb20ae154bdf6750f179a84767b553d79ea56c8fa567e610d71461dffaad", func := "oubliette/oubliettelaw07.ValidLater", spec := "validLater", inPlace := ["internal/abi.NoEscape", "internal/reflectlite.TypeOf", "internal/reflectlite.ValueOf", "(internal/reflectlite.Value).Type", "(internal/reflectlite.Value).IsNil", "(internal/reflectlite.Value).Elem", "(internal/reflectlite.Value).Set"], unfollowed := true, recurses := true, named := ["errors.errorType"], apart := false, laid := [("errors.errorType", laid_errors_errorType)], narrowed := true }
def ValidLaterUptoSaid : Prop := validLaterUptoRow.holds Tryd.pinned (OpenSpec.upto validLaterSpec)

end Rows
end Go.Proofs.YtjjhhmchomabeaaDoor
