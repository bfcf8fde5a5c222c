/-
  DERIVED. GIVEN WITH THE SEED: THE CARDS: each row of YtjjhhmchomabeaaDoorRows.lean that lists a variable, with what it lists TIED to the program's text (the seventh form; the later family's looks); each row that meets fmt, with fmt's text TOLD by the authors' own Lean function (tested against real Go, not proved from fmt's source: count such statements apart). THE CARD IS WHAT COUNTS. Prove the row's statement (the work); the ties are given (YtjjhhmchomabeaaDoorTie.lean); close each card by the builder's one call (the guide's Derived/Test/ToyasCard.lean, 'card_holds'). Laid BY PROGRAM, IN A SANDBOX (cutbox-door.mjs). By AI agents, Wed Nov 11 2026. No macro, syntax, notation, axiom, sorry.
-/
import Derived.Test.YtjjhhmchomabeaaDoorRows
import GoSem.ClaimSeven
namespace Go.Proofs.YtjjhhmchomabeaaDoor
namespace Rows

/-- THE TIED CARD OF 'oubliettelaw07.ValidCallee'. -/
def validCalleeCard : Claim7 := { stood := { row := validCalleeRow, standIns := [], harness := (true, "a375214d61d745cf21eebd2106e1b8edc3a89ab9356fe3b512f1620f8a12f14f"), looks := true }, kinds := [], alts := [], laidByText := true, laidKinds := [.handle], laidTests := true, laidLooks := .later }
def ValidCalleeCardSaid : Prop := Claim7.holds Tryd.pinned (.plain (OpenSpec.ofChange validCalleeSpec)) validCalleeCard

/-- THE TIED CARD OF 'oubliettelaw07.ValidNop'. -/
def validNopCard : Claim7 := { stood := { row := validNopRow, standIns := [], harness := (true, "a375214d61d745cf21eebd2106e1b8edc3a89ab9356fe3b512f1620f8a12f14f"), looks := true }, kinds := [], alts := [], laidByText := true, laidKinds := [.handle], laidTests := true, laidLooks := .later }
def ValidNopCardSaid : Prop := Claim7.holds Tryd.pinned (.plain (OpenSpec.ofChange validNopSpec)) validNopCard

/-- THE TIED CARD OF 'oubliettelaw07.ValidDead'. -/
def validDeadCard : Claim7 := { stood := { row := validDeadRow, standIns := [], harness := (true, "a375214d61d745cf21eebd2106e1b8edc3a89ab9356fe3b512f1620f8a12f14f"), looks := true }, kinds := [], alts := [], laidByText := true, laidKinds := [.handle], laidTests := true, laidLooks := .later }
def ValidDeadCardSaid : Prop := Claim7.holds Tryd.pinned (.plain (OpenSpec.ofChange validDeadSpec)) validDeadCard

/-- THE TIED CARD OF 'oubliettelaw07.ValidTrusted'. -/
def validTrustedCard : Claim7 := { stood := { row := validTrustedRow, standIns := [], harness := (true, "a375214d61d745cf21eebd2106e1b8edc3a89ab9356fe3b512f1620f8a12f14f"), looks := true }, kinds := [], alts := [], laidByText := true, laidKinds := [.handle], laidTests := true, laidLooks := .later }
def ValidTrustedCardSaid : Prop := Claim7.holds Tryd.pinned (.plain (OpenSpec.ofChange validTrustedSpec)) validTrustedCard

/-- THE TIED CARD OF 'oubliettelaw07.ValidShape'. -/
def validShapeCard : Claim7 := { stood := { row := validShapeRow, standIns := [], harness := (true, "a375214d61d745cf21eebd2106e1b8edc3a89ab9356fe3b512f1620f8a12f14f"), looks := true }, kinds := [], alts := [], laidByText := true, laidKinds := [.handle], laidTests := true, laidLooks := .later }
def ValidShapeCardSaid : Prop := Claim7.holds Tryd.pinned (.plain (OpenSpec.ofChange validShapeSpec)) validShapeCard

/-- THE TIED CARD OF 'oubliettelaw07.ValidSecret'. -/
def validSecretCard : Claim7 := { stood := { row := validSecretRow, standIns := [], harness := (true, "a375214d61d745cf21eebd2106e1b8edc3a89ab9356fe3b512f1620f8a12f14f"), looks := true }, kinds := [], alts := [], laidByText := true, laidKinds := [.handle], laidTests := true, laidLooks := .later }
def ValidSecretCardSaid : Prop := Claim7.holds Tryd.pinned (.plain (OpenSpec.ofChange validSecretSpec)) validSecretCard

/-- THE TIED CARD OF 'oubliettelaw07.ValidLater'. -/
def validLaterCard : Claim7 := { stood := { row := validLaterRow, standIns := [], harness := (true, "a375214d61d745cf21eebd2106e1b8edc3a89ab9356fe3b512f1620f8a12f14f"), looks := true }, kinds := [], alts := [], laidByText := true, laidKinds := [.handle], laidTests := true, laidLooks := .later }
def ValidLaterCardSaid : Prop := Claim7.holds Tryd.pinned (.plain (OpenSpec.ofChange validLaterSpec)) validLaterCard

/-- THE SECOND FORM's CARD OF 'oubliettelaw07.ValidCallee'. -/
def validCalleeUptoCard : Claim7 := { stood := { row := validCalleeUptoRow, standIns := [], harness := (true, "a375214d61d745cf21eebd2106e1b8edc3a89ab9356fe3b512f1620f8a12f14f"), looks := true }, kinds := [], alts := [], laidByText := true, laidKinds := [.handle], laidTests := true, laidLooks := .later }
def ValidCalleeUptoCardSaid : Prop := Claim7.holds Tryd.pinned (.plain (OpenSpec.upto validCalleeSpec)) validCalleeUptoCard

/-- THE SECOND FORM's CARD OF 'oubliettelaw07.ValidNop'. -/
def validNopUptoCard : Claim7 := { stood := { row := validNopUptoRow, standIns := [], harness := (true, "a375214d61d745cf21eebd2106e1b8edc3a89ab9356fe3b512f1620f8a12f14f"), looks := true }, kinds := [], alts := [], laidByText := true, laidKinds := [.handle], laidTests := true, laidLooks := .later }
def ValidNopUptoCardSaid : Prop := Claim7.holds Tryd.pinned (.plain (OpenSpec.upto validNopSpec)) validNopUptoCard

/-- THE SECOND FORM's CARD OF 'oubliettelaw07.ValidDead'. -/
def validDeadUptoCard : Claim7 := { stood := { row := validDeadUptoRow, standIns := [], harness := (true, "a375214d61d745cf21eebd2106e1b8edc3a89ab9356fe3b512f1620f8a12f14f"), looks := true }, kinds := [], alts := [], laidByText := true, laidKinds := [.handle], laidTests := true, laidLooks := .later }
def ValidDeadUptoCardSaid : Prop := Claim7.holds Tryd.pinned (.plain (OpenSpec.upto validDeadSpec)) validDeadUptoCard

/-- THE SECOND FORM's CARD OF 'oubliettelaw07.ValidTrusted'. -/
def validTrustedUptoCard : Claim7 := { stood := { row := validTrustedUptoRow, standIns := [], harness := (true, "a375214d61d745cf21eebd2106e1b8edc3a89ab9356fe3b512f1620f8a12f14f"), looks := true }, kinds := [], alts := [], laidByText := true, laidKinds := [.handle], laidTests := true, laidLooks := .later }
def ValidTrustedUptoCardSaid : Prop := Claim7.holds Tryd.pinned (.plain (OpenSpec.upto validTrustedSpec)) validTrustedUptoCard

/-- THE SECOND FORM's CARD OF 'oubliettelaw07.ValidShape'. -/
def validShapeUptoCard : Claim7 := { stood := { row := validShapeUptoRow, standIns := [], harness := (true, "a375214d61d745cf21eebd2106e1b8edc3a89ab9356fe3b512f1620f8a12f14f"), looks := true }, kinds := [], alts := [], laidByText := true, laidKinds := [.handle], laidTests := true, laidLooks := .later }
def ValidShapeUptoCardSaid : Prop := Claim7.holds Tryd.pinned (.plain (OpenSpec.upto validShapeSpec)) validShapeUptoCard

/-- THE SECOND FORM's CARD OF 'oubliettelaw07.ValidSecret'. -/
def validSecretUptoCard : Claim7 := { stood := { row := validSecretUptoRow, standIns := [], harness := (true, "a375214d61d745cf21eebd2106e1b8edc3a89ab9356fe3b512f1620f8a12f14f"), looks := true }, kinds := [], alts := [], laidByText := true, laidKinds := [.handle], laidTests := true, laidLooks := .later }
def ValidSecretUptoCardSaid : Prop := Claim7.holds Tryd.pinned (.plain (OpenSpec.upto validSecretSpec)) validSecretUptoCard

/-- THE SECOND FORM's CARD OF 'oubliettelaw07.ValidLater'. -/
def validLaterUptoCard : Claim7 := { stood := { row := validLaterUptoRow, standIns := [], harness := (true, "a375214d61d745cf21eebd2106e1b8edc3a89ab9356fe3b512f1620f8a12f14f"), looks := true }, kinds := [], alts := [], laidByText := true, laidKinds := [.handle], laidTests := true, laidLooks := .later }
def ValidLaterUptoCardSaid : Prop := Claim7.holds Tryd.pinned (.plain (OpenSpec.upto validLaterSpec)) validLaterUptoCard
end Rows
end Go.Proofs.YtjjhhmchomabeaaDoor
