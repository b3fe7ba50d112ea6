/-
  DERIVED. GIVEN WITH THE SEED: THE CARDS: each row of YtccmicegihlfbaaDoorRows.lean that lists a variable, with what it lists TIED to the program's text (the seventh form; the later family's looks); each row that meets fmt, with fmt's text TOLD by the authors' own Lean function (tested against real Go, not proved from fmt's source: count such statements apart). THE CARD IS WHAT COUNTS. Prove the row's statement (the work); the ties are given (YtccmicegihlfbaaDoorTie.lean); close each card by the builder's one call (the guide's Derived/Test/ToyasCard.lean, 'card_holds'). Laid BY PROGRAM, IN A SANDBOX (cutbox-door.mjs). By AI agents, Wed Nov 11 2026. No macro, syntax, notation, axiom, sorry.
-/
import Derived.Test.YtccmicegihlfbaaDoorRows
import GoSem.ClaimSeven
namespace Go.Proofs.YtccmicegihlfbaaDoor
namespace Rows

/-- THE TIED CARD OF 'assayerlaw08.PointsBetter'. -/
def pointsBetterCard : Claim7 := { stood := { row := pointsBetterRow, standIns := [], harness := (true, "f6d6a488ac88d15bf227f3455edaf8a5044cf38b1a343093b008b9c6c0a32b5d"), looks := false }, kinds := [], alts := [], laidByText := true, laidKinds := [.data], laidTests := true, laidLooks := .later }
def PointsBetterCardSaid : Prop := Claim7.holds Tryd.pinned (.plain (OpenSpec.ofChange pointsBetterSpec)) pointsBetterCard

/-- THE TIED CARD OF 'assayerlaw04.VecsZeros'. -/
def vecsZerosCard : Claim7 := { stood := { row := vecsZerosRow, standIns := [], harness := (true, "f6d6a488ac88d15bf227f3455edaf8a5044cf38b1a343093b008b9c6c0a32b5d"), looks := false }, kinds := [], alts := [], laidByText := true, laidKinds := [.data, .data, .data], laidTests := true, laidLooks := .later }
def VecsZerosCardSaid : Prop := Claim7.holds Tryd.pinned (.plain (OpenSpec.ofChange vecsZerosSpec)) vecsZerosCard

/-- THE TIED CARD OF 'assayerlaw05.GridsBack'. -/
def gridsBackCard : Claim7 := { stood := { row := gridsBackRow, standIns := [], harness := (true, "f6d6a488ac88d15bf227f3455edaf8a5044cf38b1a343093b008b9c6c0a32b5d"), looks := false }, kinds := [], alts := [], laidByText := true, laidKinds := [.data], laidTests := true, laidLooks := .later }
def GridsBackCardSaid : Prop := Claim7.holds Tryd.pinned (.plain (OpenSpec.ofChange gridsBackSpec)) gridsBackCard

/-- THE TIED CARD OF 'assayerlaw05.GridsSolved'. -/
def gridsSolvedCard : Claim7 := { stood := { row := gridsSolvedRow, standIns := [], harness := (true, "f6d6a488ac88d15bf227f3455edaf8a5044cf38b1a343093b008b9c6c0a32b5d"), looks := false }, kinds := [], alts := [], laidByText := true, laidKinds := [.data], laidTests := true, laidLooks := .later }
def GridsSolvedCardSaid : Prop := Claim7.holds Tryd.pinned (.plain (OpenSpec.ofChange gridsSolvedSpec)) gridsSolvedCard

/-- THE TIED CARD OF 'assayerlaw05.GridsLinear'. -/
def gridsLinearCard : Claim7 := { stood := { row := gridsLinearRow, standIns := [], harness := (true, "f6d6a488ac88d15bf227f3455edaf8a5044cf38b1a343093b008b9c6c0a32b5d"), looks := false }, kinds := [], alts := [], laidByText := true, laidKinds := [.data], laidTests := true, laidLooks := .later }
def GridsLinearCardSaid : Prop := Claim7.holds Tryd.pinned (.plain (OpenSpec.ofChange gridsLinearSpec)) gridsLinearCard

/-- THE TIED CARD OF 'assayerlaw05.GridsDots'. -/
def gridsDotsCard : Claim7 := { stood := { row := gridsDotsRow, standIns := [], harness := (true, "f6d6a488ac88d15bf227f3455edaf8a5044cf38b1a343093b008b9c6c0a32b5d"), looks := false }, kinds := [], alts := [], laidByText := true, laidKinds := [.data], laidTests := true, laidLooks := .later }
def GridsDotsCardSaid : Prop := Claim7.holds Tryd.pinned (.plain (OpenSpec.ofChange gridsDotsSpec)) gridsDotsCard

/-- THE TIED CARD OF 'assayerlaw05.GridsHangs'. -/
def gridsHangsCard : Claim7 := { stood := { row := gridsHangsRow, standIns := [], harness := (true, "f6d6a488ac88d15bf227f3455edaf8a5044cf38b1a343093b008b9c6c0a32b5d"), looks := false }, kinds := [], alts := [], laidByText := true, laidKinds := [.data], laidTests := true, laidLooks := .later }
def GridsHangsCardSaid : Prop := Claim7.holds Tryd.pinned (.plain (OpenSpec.ofChange gridsHangsSpec)) gridsHangsCard

/-- THE SECOND FORM's CARD OF 'assayerlaw08.PointsBetter'. -/
def pointsBetterUptoCard : Claim7 := { stood := { row := pointsBetterUptoRow, standIns := [], harness := (true, "f6d6a488ac88d15bf227f3455edaf8a5044cf38b1a343093b008b9c6c0a32b5d"), looks := false }, kinds := [], alts := [], laidByText := true, laidKinds := [.data], laidTests := true, laidLooks := .later }
def PointsBetterUptoCardSaid : Prop := Claim7.holds Tryd.pinned (.plain (OpenSpec.upto pointsBetterSpec)) pointsBetterUptoCard

/-- THE SECOND FORM's CARD OF 'assayerlaw04.VecsZeros'. -/
def vecsZerosUptoCard : Claim7 := { stood := { row := vecsZerosUptoRow, standIns := [], harness := (true, "f6d6a488ac88d15bf227f3455edaf8a5044cf38b1a343093b008b9c6c0a32b5d"), looks := false }, kinds := [], alts := [], laidByText := true, laidKinds := [.data, .data, .data], laidTests := true, laidLooks := .later }
def VecsZerosUptoCardSaid : Prop := Claim7.holds Tryd.pinned (.plain (OpenSpec.upto vecsZerosSpec)) vecsZerosUptoCard

/-- THE SECOND FORM's CARD OF 'assayerlaw05.GridsBack'. -/
def gridsBackUptoCard : Claim7 := { stood := { row := gridsBackUptoRow, standIns := [], harness := (true, "f6d6a488ac88d15bf227f3455edaf8a5044cf38b1a343093b008b9c6c0a32b5d"), looks := false }, kinds := [], alts := [], laidByText := true, laidKinds := [.data], laidTests := true, laidLooks := .later }
def GridsBackUptoCardSaid : Prop := Claim7.holds Tryd.pinned (.plain (OpenSpec.upto gridsBackSpec)) gridsBackUptoCard

/-- THE SECOND FORM's CARD OF 'assayerlaw05.GridsSolved'. -/
def gridsSolvedUptoCard : Claim7 := { stood := { row := gridsSolvedUptoRow, standIns := [], harness := (true, "f6d6a488ac88d15bf227f3455edaf8a5044cf38b1a343093b008b9c6c0a32b5d"), looks := false }, kinds := [], alts := [], laidByText := true, laidKinds := [.data], laidTests := true, laidLooks := .later }
def GridsSolvedUptoCardSaid : Prop := Claim7.holds Tryd.pinned (.plain (OpenSpec.upto gridsSolvedSpec)) gridsSolvedUptoCard

/-- THE SECOND FORM's CARD OF 'assayerlaw05.GridsLinear'. -/
def gridsLinearUptoCard : Claim7 := { stood := { row := gridsLinearUptoRow, standIns := [], harness := (true, "f6d6a488ac88d15bf227f3455edaf8a5044cf38b1a343093b008b9c6c0a32b5d"), looks := false }, kinds := [], alts := [], laidByText := true, laidKinds := [.data], laidTests := true, laidLooks := .later }
def GridsLinearUptoCardSaid : Prop := Claim7.holds Tryd.pinned (.plain (OpenSpec.upto gridsLinearSpec)) gridsLinearUptoCard

/-- THE SECOND FORM's CARD OF 'assayerlaw05.GridsDots'. -/
def gridsDotsUptoCard : Claim7 := { stood := { row := gridsDotsUptoRow, standIns := [], harness := (true, "f6d6a488ac88d15bf227f3455edaf8a5044cf38b1a343093b008b9c6c0a32b5d"), looks := false }, kinds := [], alts := [], laidByText := true, laidKinds := [.data], laidTests := true, laidLooks := .later }
def GridsDotsUptoCardSaid : Prop := Claim7.holds Tryd.pinned (.plain (OpenSpec.upto gridsDotsSpec)) gridsDotsUptoCard

/-- THE SECOND FORM's CARD OF 'assayerlaw05.GridsHangs'. -/
def gridsHangsUptoCard : Claim7 := { stood := { row := gridsHangsUptoRow, standIns := [], harness := (true, "f6d6a488ac88d15bf227f3455edaf8a5044cf38b1a343093b008b9c6c0a32b5d"), looks := false }, kinds := [], alts := [], laidByText := true, laidKinds := [.data], laidTests := true, laidLooks := .later }
def GridsHangsUptoCardSaid : Prop := Claim7.holds Tryd.pinned (.plain (OpenSpec.upto gridsHangsSpec)) gridsHangsUptoCard
end Rows
end Go.Proofs.YtccmicegihlfbaaDoor
