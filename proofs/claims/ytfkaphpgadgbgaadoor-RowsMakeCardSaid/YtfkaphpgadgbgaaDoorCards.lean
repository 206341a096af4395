/-
  DERIVED. GIVEN WITH THE SEED: THE CARDS: each row of YtfkaphpgadgbgaaDoorRows.lean that lists a variable, with what it lists TIED to the program's text (the seventh form; the later family's looks); each row that meets fmt, with fmt's text TOLD by the authors' own Lean function (tested against real Go, not proved from fmt's source: count such statements apart). THE CARD IS WHAT COUNTS. Prove the row's statement (the work); the ties are given (YtfkaphpgadgbgaaDoorTie.lean); close each card by the builder's one call (the guide's Derived/Test/ToyasCard.lean, 'card_holds'). Laid BY PROGRAM, IN A SANDBOX (cutbox-door.mjs). By AI agents, Wed Nov 11 2026. No macro, syntax, notation, axiom, sorry.
-/
import Derived.Test.YtfkaphpgadgbgaaDoorRows
import GoSem.ClaimSeven
namespace Go.Proofs.YtfkaphpgadgbgaaDoor
namespace Rows

/-- THE TIED CARD OF 'environlaw22.RowsMake'. -/
def rowsMakeCard : Claim7 := { stood := { row := rowsMakeRow, standIns := [], harness := (true, "2c2dcdfc3734a521513bcc44552cb759aab18c1547f95e3ac0cf1e3b22263d59"), looks := false }, kinds := [], alts := [], laidByText := true, laidKinds := [.data, .data, .data], laidTests := true, laidLooks := .later }
def RowsMakeCardSaid : Prop := Claim7.holds Tryd.pinned (.plain (OpenSpec.ofChange rowsMakeSpec)) rowsMakeCard

/-- THE TIED CARD OF 'environlaw22.RowsPlaces'. -/
def rowsPlacesCard : Claim7 := { stood := { row := rowsPlacesRow, standIns := [], harness := (true, "2c2dcdfc3734a521513bcc44552cb759aab18c1547f95e3ac0cf1e3b22263d59"), looks := false }, kinds := [], alts := [], laidByText := true, laidKinds := [.data, .data, .data], laidTests := true, laidLooks := .later }
def RowsPlacesCardSaid : Prop := Claim7.holds Tryd.pinned (.plain (OpenSpec.ofChange rowsPlacesSpec)) rowsPlacesCard

/-- THE TIED CARD OF 'environlaw22.RowsAlike'. -/
def rowsAlikeCard : Claim7 := { stood := { row := rowsAlikeRow, standIns := [], harness := (true, "2c2dcdfc3734a521513bcc44552cb759aab18c1547f95e3ac0cf1e3b22263d59"), looks := false }, kinds := [], alts := [], laidByText := true, laidKinds := [.data, .data, .data], laidTests := true, laidLooks := .later }
def RowsAlikeCardSaid : Prop := Claim7.holds Tryd.pinned (.plain (OpenSpec.ofChange rowsAlikeSpec)) rowsAlikeCard

/-- THE TIED CARD OF 'environlaw22.RowsJoin'. -/
def rowsJoinCard : Claim7 := { stood := { row := rowsJoinRow, standIns := [], harness := (true, "2c2dcdfc3734a521513bcc44552cb759aab18c1547f95e3ac0cf1e3b22263d59"), looks := false }, kinds := [], alts := [], laidByText := true, laidKinds := [.data, .data, .data], laidTests := true, laidLooks := .later }
def RowsJoinCardSaid : Prop := Claim7.holds Tryd.pinned (.plain (OpenSpec.ofChange rowsJoinSpec)) rowsJoinCard

/-- THE TIED CARD OF 'environlaw22.RowsSubs'. -/
def rowsSubsCard : Claim7 := { stood := { row := rowsSubsRow, standIns := [], harness := (true, "2c2dcdfc3734a521513bcc44552cb759aab18c1547f95e3ac0cf1e3b22263d59"), looks := false }, kinds := [], alts := [], laidByText := true, laidKinds := [.data, .data, .data], laidTests := true, laidLooks := .later }
def RowsSubsCardSaid : Prop := Claim7.holds Tryd.pinned (.plain (OpenSpec.ofChange rowsSubsSpec)) rowsSubsCard

/-- THE TIED CARD OF 'environlaw22.RowsTwice'. -/
def rowsTwiceCard : Claim7 := { stood := { row := rowsTwiceRow, standIns := [], harness := (true, "2c2dcdfc3734a521513bcc44552cb759aab18c1547f95e3ac0cf1e3b22263d59"), looks := false }, kinds := [], alts := [], laidByText := true, laidKinds := [.data, .data, .data], laidTests := true, laidLooks := .later }
def RowsTwiceCardSaid : Prop := Claim7.holds Tryd.pinned (.plain (OpenSpec.ofChange rowsTwiceSpec)) rowsTwiceCard

/-- THE TIED CARD OF 'environlaw22.RowsBack'. -/
def rowsBackCard : Claim7 := { stood := { row := rowsBackRow, standIns := [], harness := (true, "2c2dcdfc3734a521513bcc44552cb759aab18c1547f95e3ac0cf1e3b22263d59"), looks := false }, kinds := [], alts := [], laidByText := true, laidKinds := [.data, .data, .data], laidTests := true, laidLooks := .later }
def RowsBackCardSaid : Prop := Claim7.holds Tryd.pinned (.plain (OpenSpec.ofChange rowsBackSpec)) rowsBackCard

/-- THE TIED CARD OF 'environlaw22.RowsCuts'. -/
def rowsCutsCard : Claim7 := { stood := { row := rowsCutsRow, standIns := [], harness := (true, "2c2dcdfc3734a521513bcc44552cb759aab18c1547f95e3ac0cf1e3b22263d59"), looks := false }, kinds := [], alts := [], laidByText := true, laidKinds := [.data, .data, .data], laidTests := true, laidLooks := .later }
def RowsCutsCardSaid : Prop := Claim7.holds Tryd.pinned (.plain (OpenSpec.ofChange rowsCutsSpec)) rowsCutsCard

/-- THE SECOND FORM's CARD OF 'environlaw22.RowsMake'. -/
def rowsMakeUptoCard : Claim7 := { stood := { row := rowsMakeUptoRow, standIns := [], harness := (true, "2c2dcdfc3734a521513bcc44552cb759aab18c1547f95e3ac0cf1e3b22263d59"), looks := false }, kinds := [], alts := [], laidByText := true, laidKinds := [.data, .data, .data], laidTests := true, laidLooks := .later }
def RowsMakeUptoCardSaid : Prop := Claim7.holds Tryd.pinned (.plain (OpenSpec.upto rowsMakeSpec)) rowsMakeUptoCard

/-- THE SECOND FORM's CARD OF 'environlaw22.RowsPlaces'. -/
def rowsPlacesUptoCard : Claim7 := { stood := { row := rowsPlacesUptoRow, standIns := [], harness := (true, "2c2dcdfc3734a521513bcc44552cb759aab18c1547f95e3ac0cf1e3b22263d59"), looks := false }, kinds := [], alts := [], laidByText := true, laidKinds := [.data, .data, .data], laidTests := true, laidLooks := .later }
def RowsPlacesUptoCardSaid : Prop := Claim7.holds Tryd.pinned (.plain (OpenSpec.upto rowsPlacesSpec)) rowsPlacesUptoCard

/-- THE SECOND FORM's CARD OF 'environlaw22.RowsAlike'. -/
def rowsAlikeUptoCard : Claim7 := { stood := { row := rowsAlikeUptoRow, standIns := [], harness := (true, "2c2dcdfc3734a521513bcc44552cb759aab18c1547f95e3ac0cf1e3b22263d59"), looks := false }, kinds := [], alts := [], laidByText := true, laidKinds := [.data, .data, .data], laidTests := true, laidLooks := .later }
def RowsAlikeUptoCardSaid : Prop := Claim7.holds Tryd.pinned (.plain (OpenSpec.upto rowsAlikeSpec)) rowsAlikeUptoCard

/-- THE SECOND FORM's CARD OF 'environlaw22.RowsJoin'. -/
def rowsJoinUptoCard : Claim7 := { stood := { row := rowsJoinUptoRow, standIns := [], harness := (true, "2c2dcdfc3734a521513bcc44552cb759aab18c1547f95e3ac0cf1e3b22263d59"), looks := false }, kinds := [], alts := [], laidByText := true, laidKinds := [.data, .data, .data], laidTests := true, laidLooks := .later }
def RowsJoinUptoCardSaid : Prop := Claim7.holds Tryd.pinned (.plain (OpenSpec.upto rowsJoinSpec)) rowsJoinUptoCard

/-- THE SECOND FORM's CARD OF 'environlaw22.RowsSubs'. -/
def rowsSubsUptoCard : Claim7 := { stood := { row := rowsSubsUptoRow, standIns := [], harness := (true, "2c2dcdfc3734a521513bcc44552cb759aab18c1547f95e3ac0cf1e3b22263d59"), looks := false }, kinds := [], alts := [], laidByText := true, laidKinds := [.data, .data, .data], laidTests := true, laidLooks := .later }
def RowsSubsUptoCardSaid : Prop := Claim7.holds Tryd.pinned (.plain (OpenSpec.upto rowsSubsSpec)) rowsSubsUptoCard

/-- THE SECOND FORM's CARD OF 'environlaw22.RowsTwice'. -/
def rowsTwiceUptoCard : Claim7 := { stood := { row := rowsTwiceUptoRow, standIns := [], harness := (true, "2c2dcdfc3734a521513bcc44552cb759aab18c1547f95e3ac0cf1e3b22263d59"), looks := false }, kinds := [], alts := [], laidByText := true, laidKinds := [.data, .data, .data], laidTests := true, laidLooks := .later }
def RowsTwiceUptoCardSaid : Prop := Claim7.holds Tryd.pinned (.plain (OpenSpec.upto rowsTwiceSpec)) rowsTwiceUptoCard

/-- THE SECOND FORM's CARD OF 'environlaw22.RowsBack'. -/
def rowsBackUptoCard : Claim7 := { stood := { row := rowsBackUptoRow, standIns := [], harness := (true, "2c2dcdfc3734a521513bcc44552cb759aab18c1547f95e3ac0cf1e3b22263d59"), looks := false }, kinds := [], alts := [], laidByText := true, laidKinds := [.data, .data, .data], laidTests := true, laidLooks := .later }
def RowsBackUptoCardSaid : Prop := Claim7.holds Tryd.pinned (.plain (OpenSpec.upto rowsBackSpec)) rowsBackUptoCard

/-- THE SECOND FORM's CARD OF 'environlaw22.RowsCuts'. -/
def rowsCutsUptoCard : Claim7 := { stood := { row := rowsCutsUptoRow, standIns := [], harness := (true, "2c2dcdfc3734a521513bcc44552cb759aab18c1547f95e3ac0cf1e3b22263d59"), looks := false }, kinds := [], alts := [], laidByText := true, laidKinds := [.data, .data, .data], laidTests := true, laidLooks := .later }
def RowsCutsUptoCardSaid : Prop := Claim7.holds Tryd.pinned (.plain (OpenSpec.upto rowsCutsSpec)) rowsCutsUptoCard
end Rows
end Go.Proofs.YtfkaphpgadgbgaaDoor
