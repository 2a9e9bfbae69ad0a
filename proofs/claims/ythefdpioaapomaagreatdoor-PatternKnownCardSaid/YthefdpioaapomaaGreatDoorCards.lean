/-
  DERIVED. GIVEN WITH THE SEED: THE CARDS: each row of YthefdpioaapomaaGreatDoorRows.lean that lists a variable, with what it lists TIED to the program's text (the seventh form; the later family's looks); each row that meets fmt, with fmt's text TOLD by the authors' own Lean function (tested against real Go, not proved from fmt's source: count such statements apart). THE CARD IS WHAT COUNTS. Prove the row's statement (the work); the ties are given (YthefdpioaapomaaGreatDoorTie.lean); close each card by the builder's one call (the guide's Derived/Test/ToyasCard.lean, 'card_holds'). Laid BY PROGRAM, IN A SANDBOX (cutbox-door.mjs). By AI agents, Wed Nov 11 2026. No macro, syntax, notation, axiom, sorry.
-/
import Derived.Test.YthefdpioaapomaaGreatDoorRows
import GoSem.ClaimSeven
namespace Go.Proofs.YthefdpioaapomaaGreatDoor
namespace Rows

/-- THE TIED CARD OF 'cubitlaw22.PatternKnown'. -/
def patternKnownCard : Claim7 := { stood := { row := patternKnownRow, standIns := [], harness := (true, "ea3c742ea45a29b88ba5107b236e35d44ae1649b41dcb4e2a5ceed4e8365b98d"), looks := true }, kinds := [], alts := [], laidByText := true, laidKinds := [.data, .data, .data, .data, .sentinel, .sentinel, .pinned], laidTests := true, laidLooks := .later }
def PatternKnownCardSaid : Prop := Claim7.holds Tryz.pinned (.plain (OpenSpec.ofChange patternKnownSpec)) patternKnownCard

/-- THE TIED CARD OF 'cubitlaw22.PatternExact'. -/
def patternExactCard : Claim7 := { stood := { row := patternExactRow, standIns := [], harness := (true, "ea3c742ea45a29b88ba5107b236e35d44ae1649b41dcb4e2a5ceed4e8365b98d"), looks := true }, kinds := [], alts := [], laidByText := true, laidKinds := [.data, .data, .data, .data, .sentinel, .sentinel, .pinned], laidTests := true, laidLooks := .later }
def PatternExactCardSaid : Prop := Claim7.holds Tryz.pinned (.plain (OpenSpec.ofChange patternExactSpec)) patternExactCard

/-- THE TIED CARD OF 'cubitlaw22.PatternFill'. -/
def patternFillCard : Claim7 := { stood := { row := patternFillRow, standIns := [], harness := (true, "ea3c742ea45a29b88ba5107b236e35d44ae1649b41dcb4e2a5ceed4e8365b98d"), looks := true }, kinds := [], alts := [], laidByText := true, laidKinds := [.data, .data, .data, .data, .sentinel, .sentinel, .pinned], laidTests := true, laidLooks := .later }
def PatternFillCardSaid : Prop := Claim7.holds Tryz.pinned (.plain (OpenSpec.ofChange patternFillSpec)) patternFillCard

/-- THE TIED CARD OF 'cubitlaw22.PatternChain'. -/
def patternChainCard : Claim7 := { stood := { row := patternChainRow, standIns := [], harness := (true, "ea3c742ea45a29b88ba5107b236e35d44ae1649b41dcb4e2a5ceed4e8365b98d"), looks := true }, kinds := [], alts := [], laidByText := true, laidKinds := [.data, .data, .data, .data, .sentinel, .sentinel, .pinned], laidTests := true, laidLooks := .later }
def PatternChainCardSaid : Prop := Claim7.holds Tryz.pinned (.plain (OpenSpec.ofChange patternChainSpec)) patternChainCard

/-- THE SECOND FORM's CARD OF 'cubitlaw22.PatternKnown'. -/
def patternKnownUptoCard : Claim7 := { stood := { row := patternKnownUptoRow, standIns := [], harness := (true, "ea3c742ea45a29b88ba5107b236e35d44ae1649b41dcb4e2a5ceed4e8365b98d"), looks := true }, kinds := [], alts := [], laidByText := true, laidKinds := [.data, .data, .data, .data, .sentinel, .sentinel, .pinned], laidTests := true, laidLooks := .later }
def PatternKnownUptoCardSaid : Prop := Claim7.holds Tryz.pinned (.plain (OpenSpec.upto patternKnownSpec)) patternKnownUptoCard

/-- THE SECOND FORM's CARD OF 'cubitlaw22.PatternExact'. -/
def patternExactUptoCard : Claim7 := { stood := { row := patternExactUptoRow, standIns := [], harness := (true, "ea3c742ea45a29b88ba5107b236e35d44ae1649b41dcb4e2a5ceed4e8365b98d"), looks := true }, kinds := [], alts := [], laidByText := true, laidKinds := [.data, .data, .data, .data, .sentinel, .sentinel, .pinned], laidTests := true, laidLooks := .later }
def PatternExactUptoCardSaid : Prop := Claim7.holds Tryz.pinned (.plain (OpenSpec.upto patternExactSpec)) patternExactUptoCard

/-- THE SECOND FORM's CARD OF 'cubitlaw22.PatternFill'. -/
def patternFillUptoCard : Claim7 := { stood := { row := patternFillUptoRow, standIns := [], harness := (true, "ea3c742ea45a29b88ba5107b236e35d44ae1649b41dcb4e2a5ceed4e8365b98d"), looks := true }, kinds := [], alts := [], laidByText := true, laidKinds := [.data, .data, .data, .data, .sentinel, .sentinel, .pinned], laidTests := true, laidLooks := .later }
def PatternFillUptoCardSaid : Prop := Claim7.holds Tryz.pinned (.plain (OpenSpec.upto patternFillSpec)) patternFillUptoCard

/-- THE SECOND FORM's CARD OF 'cubitlaw22.PatternChain'. -/
def patternChainUptoCard : Claim7 := { stood := { row := patternChainUptoRow, standIns := [], harness := (true, "ea3c742ea45a29b88ba5107b236e35d44ae1649b41dcb4e2a5ceed4e8365b98d"), looks := true }, kinds := [], alts := [], laidByText := true, laidKinds := [.data, .data, .data, .data, .sentinel, .sentinel, .pinned], laidTests := true, laidLooks := .later }
def PatternChainUptoCardSaid : Prop := Claim7.holds Tryz.pinned (.plain (OpenSpec.upto patternChainSpec)) patternChainUptoCard
end Rows
end Go.Proofs.YthefdpioaapomaaGreatDoor
