/-
  DERIVED. GIVEN WITH THE SEED: THE CARDS: each row of YthefdpioaapomaaDoorRows.lean that lists a variable, with what it lists TIED to the program's text (the seventh form; the later family's looks); each row that meets fmt, with fmt's text TOLD by the authors' own Lean function (tested against real Go, not proved from fmt's source: count such statements apart). THE CARD IS WHAT COUNTS. Prove the row's statement (the work); the ties are given (YthefdpioaapomaaDoorTie.lean); close each card by the builder's one call (the guide's Derived/Test/ToyasCard.lean, 'card_holds'). Laid BY PROGRAM, IN A SANDBOX (cutbox-door.mjs). By AI agents, Wed Nov 11 2026. No macro, syntax, notation, axiom, sorry.
-/
import Derived.Test.YthefdpioaapomaaDoorRows
import GoSem.ClaimSeven
namespace Go.Proofs.YthefdpioaapomaaDoor
namespace Rows

/-- THE TIED CARD OF 'cubitlaw7.RowsBack'. -/
def rowsBackCard : Claim7 := { stood := { row := rowsBackRow, standIns := [], harness := (true, "f999f4bb39cfae6275d6bab1d98b47c0a3c947b8ff0768bf5f79b311d1dbe137"), looks := false }, kinds := [], alts := [], laidByText := true, laidKinds := [.data, .pinned], laidTests := true, laidLooks := .later }
def RowsBackCardSaid : Prop := Claim7.holds Tryd.pinned (.plain (OpenSpec.ofChange rowsBackSpec)) rowsBackCard

/-- THE TIED CARD OF 'cubitlaw7.RowsApart'. -/
def rowsApartCard : Claim7 := { stood := { row := rowsApartRow, standIns := [], harness := (true, "f999f4bb39cfae6275d6bab1d98b47c0a3c947b8ff0768bf5f79b311d1dbe137"), looks := false }, kinds := [], alts := [], laidByText := true, laidKinds := [.data, .pinned], laidTests := true, laidLooks := .later }
def RowsApartCardSaid : Prop := Claim7.holds Tryd.pinned (.plain (OpenSpec.ofChange rowsApartSpec)) rowsApartCard

/-- THE TIED CARD OF 'cubitlaw7.RowsKnown'. -/
def rowsKnownCard : Claim7 := { stood := { row := rowsKnownRow, standIns := [], harness := (true, "f999f4bb39cfae6275d6bab1d98b47c0a3c947b8ff0768bf5f79b311d1dbe137"), looks := false }, kinds := [], alts := [], laidByText := true, laidKinds := [.data, .pinned], laidTests := true, laidLooks := .later }
def RowsKnownCardSaid : Prop := Claim7.holds Tryd.pinned (.plain (OpenSpec.ofChange rowsKnownSpec)) rowsKnownCard

/-- THE TIED CARD OF 'cubitlaw7.RowsSays'. -/
def rowsSaysCard : Claim7 := { stood := { row := rowsSaysRow, standIns := [], harness := (true, "f999f4bb39cfae6275d6bab1d98b47c0a3c947b8ff0768bf5f79b311d1dbe137"), looks := false }, kinds := [], alts := [], laidByText := true, laidKinds := [.data, .pinned], laidTests := true, laidLooks := .later }
def RowsSaysCardSaid : Prop := Claim7.holds Tryd.pinned (.plain (OpenSpec.ofChange rowsSaysSpec)) rowsSaysCard

/-- THE TIED CARD OF 'cubitlaw6.WordKnown'. -/
def wordKnownCard : Claim7 := { stood := { row := wordKnownRow, standIns := [], harness := (true, "f999f4bb39cfae6275d6bab1d98b47c0a3c947b8ff0768bf5f79b311d1dbe137"), looks := false }, kinds := [], alts := [], laidByText := true, laidKinds := [.data, .pinned], laidTests := true, laidLooks := .later }
def WordKnownCardSaid : Prop := Claim7.holds Tryd.pinned (.plain (OpenSpec.ofChange wordKnownSpec)) wordKnownCard

/-- THE TIED CARD OF 'cubitlaw6.WordSays'. -/
def wordSaysCard : Claim7 := { stood := { row := wordSaysRow, standIns := [], harness := (true, "f999f4bb39cfae6275d6bab1d98b47c0a3c947b8ff0768bf5f79b311d1dbe137"), looks := false }, kinds := [], alts := [], laidByText := true, laidKinds := [.data, .pinned], laidTests := true, laidLooks := .later }
def WordSaysCardSaid : Prop := Claim7.holds Tryd.pinned (.plain (OpenSpec.ofChange wordSaysSpec)) wordSaysCard

/-- THE TIED CARD OF 'cubitlaw6.WordBack'. -/
def wordBackCard : Claim7 := { stood := { row := wordBackRow, standIns := [], harness := (true, "f999f4bb39cfae6275d6bab1d98b47c0a3c947b8ff0768bf5f79b311d1dbe137"), looks := false }, kinds := [], alts := [], laidByText := true, laidKinds := [.data, .pinned], laidTests := true, laidLooks := .later }
def WordBackCardSaid : Prop := Claim7.holds Tryd.pinned (.plain (OpenSpec.ofChange wordBackSpec)) wordBackCard

/-- THE TIED CARD OF 'cubitlaw6.WordCuts'. -/
def wordCutsCard : Claim7 := { stood := { row := wordCutsRow, standIns := [], harness := (true, "f999f4bb39cfae6275d6bab1d98b47c0a3c947b8ff0768bf5f79b311d1dbe137"), looks := false }, kinds := [], alts := [], laidByText := true, laidKinds := [.data, .pinned], laidTests := true, laidLooks := .later }
def WordCutsCardSaid : Prop := Claim7.holds Tryd.pinned (.plain (OpenSpec.ofChange wordCutsSpec)) wordCutsCard

/-- THE TIED CARD OF 'cubitlaw9.AtomKnown'. -/
def atomKnownCard : Claim7 := { stood := { row := atomKnownRow, standIns := [], harness := (true, "f999f4bb39cfae6275d6bab1d98b47c0a3c947b8ff0768bf5f79b311d1dbe137"), looks := false }, kinds := [], alts := [], laidByText := true, laidKinds := [.data, .data, .data, .data, .pinned], laidTests := true, laidLooks := .later }
def AtomKnownCardSaid : Prop := Claim7.holds Tryd.pinned (.plain (OpenSpec.ofChange atomKnownSpec)) atomKnownCard

/-- THE TIED CARD OF 'cubitlaw9.AtomSays'. -/
def atomSaysCard : Claim7 := { stood := { row := atomSaysRow, standIns := [], harness := (true, "f999f4bb39cfae6275d6bab1d98b47c0a3c947b8ff0768bf5f79b311d1dbe137"), looks := false }, kinds := [], alts := [], laidByText := true, laidKinds := [.data, .data, .data, .data, .pinned], laidTests := true, laidLooks := .later }
def AtomSaysCardSaid : Prop := Claim7.holds Tryd.pinned (.plain (OpenSpec.ofChange atomSaysSpec)) atomSaysCard

/-- THE TIED CARD OF 'cubitlaw9.AtomBack'. -/
def atomBackCard : Claim7 := { stood := { row := atomBackRow, standIns := [], harness := (true, "f999f4bb39cfae6275d6bab1d98b47c0a3c947b8ff0768bf5f79b311d1dbe137"), looks := false }, kinds := [], alts := [], laidByText := true, laidKinds := [.data, .data, .data, .data, .pinned], laidTests := true, laidLooks := .later }
def AtomBackCardSaid : Prop := Claim7.holds Tryd.pinned (.plain (OpenSpec.ofChange atomBackSpec)) atomBackCard

/-- THE TIED CARD OF 'cubitlaw9.AtomOrder'. -/
def atomOrderCard : Claim7 := { stood := { row := atomOrderRow, standIns := [], harness := (true, "f999f4bb39cfae6275d6bab1d98b47c0a3c947b8ff0768bf5f79b311d1dbe137"), looks := false }, kinds := [], alts := [], laidByText := true, laidKinds := [.data, .data, .data, .data, .pinned], laidTests := true, laidLooks := .later }
def AtomOrderCardSaid : Prop := Claim7.holds Tryd.pinned (.plain (OpenSpec.ofChange atomOrderSpec)) atomOrderCard

/-- THE TIED CARD OF 'cubitlaw25.JoinKnown'. -/
def joinKnownCard : Claim7 := { stood := { row := joinKnownRow, standIns := [], harness := (true, "f999f4bb39cfae6275d6bab1d98b47c0a3c947b8ff0768bf5f79b311d1dbe137"), looks := false }, kinds := [], alts := [], laidByText := true, laidKinds := [.data, .pinned], laidTests := true, laidLooks := .later }
def JoinKnownCardSaid : Prop := Claim7.holds Tryd.pinned (.plain (OpenSpec.ofChange joinKnownSpec)) joinKnownCard

/-- THE TIED CARD OF 'cubitlaw25.JoinSays'. -/
def joinSaysCard : Claim7 := { stood := { row := joinSaysRow, standIns := [], harness := (true, "f999f4bb39cfae6275d6bab1d98b47c0a3c947b8ff0768bf5f79b311d1dbe137"), looks := false }, kinds := [], alts := [], laidByText := true, laidKinds := [.data, .pinned], laidTests := true, laidLooks := .later }
def JoinSaysCardSaid : Prop := Claim7.holds Tryd.pinned (.plain (OpenSpec.ofChange joinSaysSpec)) joinSaysCard

/-- THE TIED CARD OF 'cubitlaw25.JoinCommas'. -/
def joinCommasCard : Claim7 := { stood := { row := joinCommasRow, standIns := [], harness := (true, "f999f4bb39cfae6275d6bab1d98b47c0a3c947b8ff0768bf5f79b311d1dbe137"), looks := false }, kinds := [], alts := [], laidByText := true, laidKinds := [.data, .pinned], laidTests := true, laidLooks := .later }
def JoinCommasCardSaid : Prop := Claim7.holds Tryd.pinned (.plain (OpenSpec.ofChange joinCommasSpec)) joinCommasCard

/-- THE TIED CARD OF 'cubitlaw25.JoinEach'. -/
def joinEachCard : Claim7 := { stood := { row := joinEachRow, standIns := [], harness := (true, "f999f4bb39cfae6275d6bab1d98b47c0a3c947b8ff0768bf5f79b311d1dbe137"), looks := false }, kinds := [], alts := [], laidByText := true, laidKinds := [.data, .pinned], laidTests := true, laidLooks := .later }
def JoinEachCardSaid : Prop := Claim7.holds Tryd.pinned (.plain (OpenSpec.ofChange joinEachSpec)) joinEachCard

/-- THE SECOND FORM's CARD OF 'cubitlaw7.RowsBack'. -/
def rowsBackUptoCard : Claim7 := { stood := { row := rowsBackUptoRow, standIns := [], harness := (true, "f999f4bb39cfae6275d6bab1d98b47c0a3c947b8ff0768bf5f79b311d1dbe137"), looks := false }, kinds := [], alts := [], laidByText := true, laidKinds := [.data, .pinned], laidTests := true, laidLooks := .later }
def RowsBackUptoCardSaid : Prop := Claim7.holds Tryd.pinned (.plain (OpenSpec.upto rowsBackSpec)) rowsBackUptoCard

/-- THE SECOND FORM's CARD OF 'cubitlaw7.RowsApart'. -/
def rowsApartUptoCard : Claim7 := { stood := { row := rowsApartUptoRow, standIns := [], harness := (true, "f999f4bb39cfae6275d6bab1d98b47c0a3c947b8ff0768bf5f79b311d1dbe137"), looks := false }, kinds := [], alts := [], laidByText := true, laidKinds := [.data, .pinned], laidTests := true, laidLooks := .later }
def RowsApartUptoCardSaid : Prop := Claim7.holds Tryd.pinned (.plain (OpenSpec.upto rowsApartSpec)) rowsApartUptoCard

/-- THE SECOND FORM's CARD OF 'cubitlaw7.RowsKnown'. -/
def rowsKnownUptoCard : Claim7 := { stood := { row := rowsKnownUptoRow, standIns := [], harness := (true, "f999f4bb39cfae6275d6bab1d98b47c0a3c947b8ff0768bf5f79b311d1dbe137"), looks := false }, kinds := [], alts := [], laidByText := true, laidKinds := [.data, .pinned], laidTests := true, laidLooks := .later }
def RowsKnownUptoCardSaid : Prop := Claim7.holds Tryd.pinned (.plain (OpenSpec.upto rowsKnownSpec)) rowsKnownUptoCard

/-- THE SECOND FORM's CARD OF 'cubitlaw7.RowsSays'. -/
def rowsSaysUptoCard : Claim7 := { stood := { row := rowsSaysUptoRow, standIns := [], harness := (true, "f999f4bb39cfae6275d6bab1d98b47c0a3c947b8ff0768bf5f79b311d1dbe137"), looks := false }, kinds := [], alts := [], laidByText := true, laidKinds := [.data, .pinned], laidTests := true, laidLooks := .later }
def RowsSaysUptoCardSaid : Prop := Claim7.holds Tryd.pinned (.plain (OpenSpec.upto rowsSaysSpec)) rowsSaysUptoCard

/-- THE SECOND FORM's CARD OF 'cubitlaw6.WordKnown'. -/
def wordKnownUptoCard : Claim7 := { stood := { row := wordKnownUptoRow, standIns := [], harness := (true, "f999f4bb39cfae6275d6bab1d98b47c0a3c947b8ff0768bf5f79b311d1dbe137"), looks := false }, kinds := [], alts := [], laidByText := true, laidKinds := [.data, .pinned], laidTests := true, laidLooks := .later }
def WordKnownUptoCardSaid : Prop := Claim7.holds Tryd.pinned (.plain (OpenSpec.upto wordKnownSpec)) wordKnownUptoCard

/-- THE SECOND FORM's CARD OF 'cubitlaw6.WordSays'. -/
def wordSaysUptoCard : Claim7 := { stood := { row := wordSaysUptoRow, standIns := [], harness := (true, "f999f4bb39cfae6275d6bab1d98b47c0a3c947b8ff0768bf5f79b311d1dbe137"), looks := false }, kinds := [], alts := [], laidByText := true, laidKinds := [.data, .pinned], laidTests := true, laidLooks := .later }
def WordSaysUptoCardSaid : Prop := Claim7.holds Tryd.pinned (.plain (OpenSpec.upto wordSaysSpec)) wordSaysUptoCard

/-- THE SECOND FORM's CARD OF 'cubitlaw6.WordBack'. -/
def wordBackUptoCard : Claim7 := { stood := { row := wordBackUptoRow, standIns := [], harness := (true, "f999f4bb39cfae6275d6bab1d98b47c0a3c947b8ff0768bf5f79b311d1dbe137"), looks := false }, kinds := [], alts := [], laidByText := true, laidKinds := [.data, .pinned], laidTests := true, laidLooks := .later }
def WordBackUptoCardSaid : Prop := Claim7.holds Tryd.pinned (.plain (OpenSpec.upto wordBackSpec)) wordBackUptoCard

/-- THE SECOND FORM's CARD OF 'cubitlaw6.WordCuts'. -/
def wordCutsUptoCard : Claim7 := { stood := { row := wordCutsUptoRow, standIns := [], harness := (true, "f999f4bb39cfae6275d6bab1d98b47c0a3c947b8ff0768bf5f79b311d1dbe137"), looks := false }, kinds := [], alts := [], laidByText := true, laidKinds := [.data, .pinned], laidTests := true, laidLooks := .later }
def WordCutsUptoCardSaid : Prop := Claim7.holds Tryd.pinned (.plain (OpenSpec.upto wordCutsSpec)) wordCutsUptoCard

/-- THE SECOND FORM's CARD OF 'cubitlaw9.AtomKnown'. -/
def atomKnownUptoCard : Claim7 := { stood := { row := atomKnownUptoRow, standIns := [], harness := (true, "f999f4bb39cfae6275d6bab1d98b47c0a3c947b8ff0768bf5f79b311d1dbe137"), looks := false }, kinds := [], alts := [], laidByText := true, laidKinds := [.data, .data, .data, .data, .pinned], laidTests := true, laidLooks := .later }
def AtomKnownUptoCardSaid : Prop := Claim7.holds Tryd.pinned (.plain (OpenSpec.upto atomKnownSpec)) atomKnownUptoCard

/-- THE SECOND FORM's CARD OF 'cubitlaw9.AtomSays'. -/
def atomSaysUptoCard : Claim7 := { stood := { row := atomSaysUptoRow, standIns := [], harness := (true, "f999f4bb39cfae6275d6bab1d98b47c0a3c947b8ff0768bf5f79b311d1dbe137"), looks := false }, kinds := [], alts := [], laidByText := true, laidKinds := [.data, .data, .data, .data, .pinned], laidTests := true, laidLooks := .later }
def AtomSaysUptoCardSaid : Prop := Claim7.holds Tryd.pinned (.plain (OpenSpec.upto atomSaysSpec)) atomSaysUptoCard

/-- THE SECOND FORM's CARD OF 'cubitlaw9.AtomBack'. -/
def atomBackUptoCard : Claim7 := { stood := { row := atomBackUptoRow, standIns := [], harness := (true, "f999f4bb39cfae6275d6bab1d98b47c0a3c947b8ff0768bf5f79b311d1dbe137"), looks := false }, kinds := [], alts := [], laidByText := true, laidKinds := [.data, .data, .data, .data, .pinned], laidTests := true, laidLooks := .later }
def AtomBackUptoCardSaid : Prop := Claim7.holds Tryd.pinned (.plain (OpenSpec.upto atomBackSpec)) atomBackUptoCard

/-- THE SECOND FORM's CARD OF 'cubitlaw9.AtomOrder'. -/
def atomOrderUptoCard : Claim7 := { stood := { row := atomOrderUptoRow, standIns := [], harness := (true, "f999f4bb39cfae6275d6bab1d98b47c0a3c947b8ff0768bf5f79b311d1dbe137"), looks := false }, kinds := [], alts := [], laidByText := true, laidKinds := [.data, .data, .data, .data, .pinned], laidTests := true, laidLooks := .later }
def AtomOrderUptoCardSaid : Prop := Claim7.holds Tryd.pinned (.plain (OpenSpec.upto atomOrderSpec)) atomOrderUptoCard

/-- THE SECOND FORM's CARD OF 'cubitlaw25.JoinKnown'. -/
def joinKnownUptoCard : Claim7 := { stood := { row := joinKnownUptoRow, standIns := [], harness := (true, "f999f4bb39cfae6275d6bab1d98b47c0a3c947b8ff0768bf5f79b311d1dbe137"), looks := false }, kinds := [], alts := [], laidByText := true, laidKinds := [.data, .pinned], laidTests := true, laidLooks := .later }
def JoinKnownUptoCardSaid : Prop := Claim7.holds Tryd.pinned (.plain (OpenSpec.upto joinKnownSpec)) joinKnownUptoCard

/-- THE SECOND FORM's CARD OF 'cubitlaw25.JoinSays'. -/
def joinSaysUptoCard : Claim7 := { stood := { row := joinSaysUptoRow, standIns := [], harness := (true, "f999f4bb39cfae6275d6bab1d98b47c0a3c947b8ff0768bf5f79b311d1dbe137"), looks := false }, kinds := [], alts := [], laidByText := true, laidKinds := [.data, .pinned], laidTests := true, laidLooks := .later }
def JoinSaysUptoCardSaid : Prop := Claim7.holds Tryd.pinned (.plain (OpenSpec.upto joinSaysSpec)) joinSaysUptoCard

/-- THE SECOND FORM's CARD OF 'cubitlaw25.JoinCommas'. -/
def joinCommasUptoCard : Claim7 := { stood := { row := joinCommasUptoRow, standIns := [], harness := (true, "f999f4bb39cfae6275d6bab1d98b47c0a3c947b8ff0768bf5f79b311d1dbe137"), looks := false }, kinds := [], alts := [], laidByText := true, laidKinds := [.data, .pinned], laidTests := true, laidLooks := .later }
def JoinCommasUptoCardSaid : Prop := Claim7.holds Tryd.pinned (.plain (OpenSpec.upto joinCommasSpec)) joinCommasUptoCard

/-- THE SECOND FORM's CARD OF 'cubitlaw25.JoinEach'. -/
def joinEachUptoCard : Claim7 := { stood := { row := joinEachUptoRow, standIns := [], harness := (true, "f999f4bb39cfae6275d6bab1d98b47c0a3c947b8ff0768bf5f79b311d1dbe137"), looks := false }, kinds := [], alts := [], laidByText := true, laidKinds := [.data, .pinned], laidTests := true, laidLooks := .later }
def JoinEachUptoCardSaid : Prop := Claim7.holds Tryd.pinned (.plain (OpenSpec.upto joinEachSpec)) joinEachUptoCard
end Rows
end Go.Proofs.YthefdpioaapomaaDoor
