/-
  DERIVED. GIVEN WITH THE SEED: THE CARDS: each row of YtccmicegihlfbaaGreatDoorRows.lean that lists a variable, with what it lists TIED to the program's text (the seventh form; the later family's looks); each row that meets fmt, with fmt's text TOLD by the authors' own Lean function (tested against real Go, not proved from fmt's source: count such statements apart). THE CARD IS WHAT COUNTS. Prove the row's statement (the work); the ties are given (YtccmicegihlfbaaGreatDoorTie.lean); close each card by the builder's one call (the guide's Derived/Test/ToyasCard.lean, 'card_holds'). Laid BY PROGRAM, IN A SANDBOX (cutbox-door.mjs). By AI agents, Wed Nov 11 2026. No macro, syntax, notation, axiom, sorry.
-/
import Derived.Test.YtccmicegihlfbaaGreatDoorRows
import GoSem.ClaimSeven
namespace Go.Proofs.YtccmicegihlfbaaGreatDoor
namespace Rows

/-- THE TIED CARD OF 'assayerlaw02.IntsPairs'. -/
def intsPairsCard : Claim7 := { stood := { row := intsPairsRow, standIns := [], harness := (true, "bf110a67d799c216202380f14a390468de7c323c01f4620cba62eaa68371ab97"), looks := false }, kinds := [], alts := [], laidByText := true, laidKinds := [.data, .data, .data], laidTests := true, laidLooks := .later }
def IntsPairsCardSaid : Prop := Claim7.holds Tryz.pinned (.plain (OpenSpec.ofChange intsPairsSpec)) intsPairsCard

/-- THE TIED CARD OF 'assayerlaw09.NormsFits'. -/
def normsFitsCard : Claim7 := { stood := { row := normsFitsRow, standIns := [], harness := (true, "bf110a67d799c216202380f14a390468de7c323c01f4620cba62eaa68371ab97"), looks := false }, kinds := [], alts := [], laidByText := true, laidKinds := [.data], laidTests := true, laidLooks := .later }
def NormsFitsCardSaid : Prop := Claim7.holds Tryz.pinned (.plain (OpenSpec.ofChange normsFitsSpec)) normsFitsCard

/-- THE TIED CARD OF 'assayerlaw01.NatsDivs'. -/
def natsDivsCard : Claim7 := { stood := { row := natsDivsRow, standIns := [], harness := (true, "bf110a67d799c216202380f14a390468de7c323c01f4620cba62eaa68371ab97"), looks := false }, kinds := [], alts := [], laidByText := true, laidKinds := [.data, .data, .data], laidTests := true, laidLooks := .later }
def NatsDivsCardSaid : Prop := Claim7.holds Tryz.pinned (.plain (OpenSpec.ofChange natsDivsSpec)) natsDivsCard

/-- THE TIED CARD OF 'assayerlaw03.RatsMakes'. -/
def ratsMakesCard : Claim7 := { stood := { row := ratsMakesRow, standIns := [], harness := (true, "bf110a67d799c216202380f14a390468de7c323c01f4620cba62eaa68371ab97"), looks := false }, kinds := [], alts := [], laidByText := true, laidKinds := [.data, .data, .data], laidTests := true, laidLooks := .later }
def RatsMakesCardSaid : Prop := Claim7.holds Tryz.pinned (.plain (OpenSpec.ofChange ratsMakesSpec)) ratsMakesCard

/-- THE TIED CARD OF 'assayerlaw16.PivotsFind'. -/
def pivotsFindCard : Claim7 := { stood := { row := pivotsFindRow, standIns := [], harness := (true, "bf110a67d799c216202380f14a390468de7c323c01f4620cba62eaa68371ab97"), looks := false }, kinds := [], alts := [], laidByText := true, laidKinds := [.data], laidTests := true, laidLooks := .later }
def PivotsFindCardSaid : Prop := Claim7.holds Tryz.pinned (.plain (OpenSpec.ofChange pivotsFindSpec)) pivotsFindCard

/-- THE TIED CARD OF 'assayerlaw04.VecsAdds'. -/
def vecsAddsCard : Claim7 := { stood := { row := vecsAddsRow, standIns := [], harness := (true, "bf110a67d799c216202380f14a390468de7c323c01f4620cba62eaa68371ab97"), looks := false }, kinds := [], alts := [], laidByText := true, laidKinds := [.data, .data, .data], laidTests := true, laidLooks := .later }
def VecsAddsCardSaid : Prop := Claim7.holds Tryz.pinned (.plain (OpenSpec.ofChange vecsAddsSpec)) vecsAddsCard

/-- THE TIED CARD OF 'assayerlaw03.RatsPairs'. -/
def ratsPairsCard : Claim7 := { stood := { row := ratsPairsRow, standIns := [], harness := (true, "bf110a67d799c216202380f14a390468de7c323c01f4620cba62eaa68371ab97"), looks := false }, kinds := [], alts := [], laidByText := true, laidKinds := [.data, .data, .data], laidTests := true, laidLooks := .later }
def RatsPairsCardSaid : Prop := Claim7.holds Tryz.pinned (.plain (OpenSpec.ofChange ratsPairsSpec)) ratsPairsCard

/-- THE SECOND FORM's CARD OF 'assayerlaw02.IntsPairs'. -/
def intsPairsUptoCard : Claim7 := { stood := { row := intsPairsUptoRow, standIns := [], harness := (true, "bf110a67d799c216202380f14a390468de7c323c01f4620cba62eaa68371ab97"), looks := false }, kinds := [], alts := [], laidByText := true, laidKinds := [.data, .data, .data], laidTests := true, laidLooks := .later }
def IntsPairsUptoCardSaid : Prop := Claim7.holds Tryz.pinned (.plain (OpenSpec.upto intsPairsSpec)) intsPairsUptoCard

/-- THE SECOND FORM's CARD OF 'assayerlaw09.NormsFits'. -/
def normsFitsUptoCard : Claim7 := { stood := { row := normsFitsUptoRow, standIns := [], harness := (true, "bf110a67d799c216202380f14a390468de7c323c01f4620cba62eaa68371ab97"), looks := false }, kinds := [], alts := [], laidByText := true, laidKinds := [.data], laidTests := true, laidLooks := .later }
def NormsFitsUptoCardSaid : Prop := Claim7.holds Tryz.pinned (.plain (OpenSpec.upto normsFitsSpec)) normsFitsUptoCard

/-- THE SECOND FORM's CARD OF 'assayerlaw01.NatsDivs'. -/
def natsDivsUptoCard : Claim7 := { stood := { row := natsDivsUptoRow, standIns := [], harness := (true, "bf110a67d799c216202380f14a390468de7c323c01f4620cba62eaa68371ab97"), looks := false }, kinds := [], alts := [], laidByText := true, laidKinds := [.data, .data, .data], laidTests := true, laidLooks := .later }
def NatsDivsUptoCardSaid : Prop := Claim7.holds Tryz.pinned (.plain (OpenSpec.upto natsDivsSpec)) natsDivsUptoCard

/-- THE SECOND FORM's CARD OF 'assayerlaw03.RatsMakes'. -/
def ratsMakesUptoCard : Claim7 := { stood := { row := ratsMakesUptoRow, standIns := [], harness := (true, "bf110a67d799c216202380f14a390468de7c323c01f4620cba62eaa68371ab97"), looks := false }, kinds := [], alts := [], laidByText := true, laidKinds := [.data, .data, .data], laidTests := true, laidLooks := .later }
def RatsMakesUptoCardSaid : Prop := Claim7.holds Tryz.pinned (.plain (OpenSpec.upto ratsMakesSpec)) ratsMakesUptoCard

/-- THE SECOND FORM's CARD OF 'assayerlaw16.PivotsFind'. -/
def pivotsFindUptoCard : Claim7 := { stood := { row := pivotsFindUptoRow, standIns := [], harness := (true, "bf110a67d799c216202380f14a390468de7c323c01f4620cba62eaa68371ab97"), looks := false }, kinds := [], alts := [], laidByText := true, laidKinds := [.data], laidTests := true, laidLooks := .later }
def PivotsFindUptoCardSaid : Prop := Claim7.holds Tryz.pinned (.plain (OpenSpec.upto pivotsFindSpec)) pivotsFindUptoCard

/-- THE SECOND FORM's CARD OF 'assayerlaw04.VecsAdds'. -/
def vecsAddsUptoCard : Claim7 := { stood := { row := vecsAddsUptoRow, standIns := [], harness := (true, "bf110a67d799c216202380f14a390468de7c323c01f4620cba62eaa68371ab97"), looks := false }, kinds := [], alts := [], laidByText := true, laidKinds := [.data, .data, .data], laidTests := true, laidLooks := .later }
def VecsAddsUptoCardSaid : Prop := Claim7.holds Tryz.pinned (.plain (OpenSpec.upto vecsAddsSpec)) vecsAddsUptoCard

/-- THE SECOND FORM's CARD OF 'assayerlaw03.RatsPairs'. -/
def ratsPairsUptoCard : Claim7 := { stood := { row := ratsPairsUptoRow, standIns := [], harness := (true, "bf110a67d799c216202380f14a390468de7c323c01f4620cba62eaa68371ab97"), looks := false }, kinds := [], alts := [], laidByText := true, laidKinds := [.data, .data, .data], laidTests := true, laidLooks := .later }
def RatsPairsUptoCardSaid : Prop := Claim7.holds Tryz.pinned (.plain (OpenSpec.upto ratsPairsSpec)) ratsPairsUptoCard
end Rows
end Go.Proofs.YtccmicegihlfbaaGreatDoor
