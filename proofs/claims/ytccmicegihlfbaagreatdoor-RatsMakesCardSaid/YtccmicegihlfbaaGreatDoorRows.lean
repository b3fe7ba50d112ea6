/-
  NARROWER THAN 'FOR EVERY INPUT', by the rows' own cells (each row's printed sentence says how): IntsPairs: laid · NormsFits: laid · NatsDivs: laid · RatsMakes: laid · PivotsFind: laid · VecsAdds: laid · RatsPairs: laid.
  DERIVED. THE GIVEN ROWS OF THIS SEAT. 7 by the template 'for every input the law returns true; each argument reads behind the call as it read before'; 0 by the template 'total and deterministic' (their statements: YtccmicegihlfbaaGreatDoorTotals.lean).
  GIVEN WITH THE SEED: the statements are not yours to turn. If you find one false, say at which input.
  Laid BY PROGRAM, IN A SANDBOX (cutbox-rows.mjs): the forced cells as the released guide's own fill.sh prints them over the translation 5f97603e9aa52996… (all of the seat's roots in one cut). By AI agents, Wed Nov 11 2026. No macro, syntax, notation, axiom, sorry.
-/
import Derived.Test.YtccmicegihlfbaaGreatDoorChecked
import GoSem.Claim
import GoSem.ClaimJoined
import GoSem.ClaimMapViews
import Derived.JoinedTies
import Derived.KernelRfl
namespace Go.Proofs.YtccmicegihlfbaaGreatDoor
/- THE CELL 'sum', in the pinned program and in every row, IS THE sha256 OF THE DUMP (.gsa) THAT YtccmicegihlfbaaGreatDoorProg.lean LOADS. Nothing in Lean hashes anything: it is a label: what it is worth is what the hold of that sum in a sandbox is worth. -/
noncomputable def Tryz.pinned : Pinned := { name := "ytccmicegihlfbaagreatdoor", sum := "5f97603e9aa5299686f475ae09c3d594a22ff31c530a6980d78b20d99d24fb57", checked := Tryz.checked }
namespace Rows
def none {H : Type} : Left H := { results := [], args := [] }

/- WHAT THE LISTED PACKAGE-LEVEL VARIABLES READ AS WHEN THE CALL BEGINS. Each datum BY PROGRAM (the guide's laid-datum.mjs) off the statement by which the dump's own 'gosem.cut.vars' lays the variable. In a bare row this is a premise. The card (YtccmicegihlfbaaGreatDoorCards.lean) ties it to the program's text. -/
def laid_math_bits_deBruijn32tab {H : Type} : DataW H := .agg [.lit (.int .u8 0), .lit (.int .u8 1), .lit (.int .u8 28), .lit (.int .u8 2), .lit (.int .u8 29), .lit (.int .u8 14), .lit (.int .u8 24), .lit (.int .u8 3), .lit (.int .u8 30), .lit (.int .u8 22), .lit (.int .u8 20), .lit (.int .u8 15), .lit (.int .u8 25), .lit (.int .u8 17), .lit (.int .u8 4), .lit (.int .u8 8), .lit (.int .u8 31), .lit (.int .u8 27), .lit (.int .u8 13), .lit (.int .u8 23), .lit (.int .u8 21), .lit (.int .u8 19), .lit (.int .u8 16), .lit (.int .u8 7), .lit (.int .u8 26), .lit (.int .u8 12), .lit (.int .u8 18), .lit (.int .u8 6), .lit (.int .u8 11), .lit (.int .u8 5), .lit (.int .u8 10), .lit (.int .u8 9)]
def laid_math_bits_deBruijn64tab {H : Type} : DataW H := .agg [.lit (.int .u8 0), .lit (.int .u8 1), .lit (.int .u8 56), .lit (.int .u8 2), .lit (.int .u8 57), .lit (.int .u8 49), .lit (.int .u8 28), .lit (.int .u8 3), .lit (.int .u8 61), .lit (.int .u8 58), .lit (.int .u8 42), .lit (.int .u8 50), .lit (.int .u8 38), .lit (.int .u8 29), .lit (.int .u8 17), .lit (.int .u8 4), .lit (.int .u8 62), .lit (.int .u8 47), .lit (.int .u8 59), .lit (.int .u8 36), .lit (.int .u8 45), .lit (.int .u8 43), .lit (.int .u8 51), .lit (.int .u8 22), .lit (.int .u8 53), .lit (.int .u8 39), .lit (.int .u8 33), .lit (.int .u8 30), .lit (.int .u8 24), .lit (.int .u8 18), .lit (.int .u8 12), .lit (.int .u8 5), .lit (.int .u8 63), .lit (.int .u8 55), .lit (.int .u8 48), .lit (.int .u8 27), .lit (.int .u8 60), .lit (.int .u8 41), .lit (.int .u8 37), .lit (.int .u8 16), .lit (.int .u8 46), .lit (.int .u8 35), .lit (.int .u8 44), .lit (.int .u8 21), .lit (.int .u8 52), .lit (.int .u8 32), .lit (.int .u8 23), .lit (.int .u8 11), .lit (.int .u8 54), .lit (.int .u8 26), .lit (.int .u8 40), .lit (.int .u8 15), .lit (.int .u8 34), .lit (.int .u8 20), .lit (.int .u8 31), .lit (.int .u8 10), .lit (.int .u8 25), .lit (.int .u8 14), .lit (.int .u8 19), .lit (.int .u8 9), .lit (.int .u8 13), .lit (.int .u8 8), .lit (.int .u8 7), .lit (.int .u8 6)]
def laid_internal_strconv_uint64pow10 {H : Type} : DataW H := .agg [.lit (.int .u64 1), .lit (.int .u64 10), .lit (.int .u64 100), .lit (.int .u64 1000), .lit (.int .u64 10000), .lit (.int .u64 100000), .lit (.int .u64 1000000), .lit (.int .u64 10000000), .lit (.int .u64 100000000), .lit (.int .u64 1000000000), .lit (.int .u64 10000000000), .lit (.int .u64 100000000000), .lit (.int .u64 1000000000000), .lit (.int .u64 10000000000000), .lit (.int .u64 100000000000000), .lit (.int .u64 1000000000000000), .lit (.int .u64 10000000000000000), .lit (.int .u64 100000000000000000), .lit (.int .u64 1000000000000000000), .lit (.int .u64 10000000000000000000)]

/-- 'assayerlaw02.IntsPairs': WHATEVER THE INPUT: true; the input reads as it did. -/
def intsPairsSpec : ChangeSpec := { name := "intsPairs", fn := fun _ => fun
  | [d1, d2] => { results := [.lit (.bool true)], args := [d1, d2] }
  | _ => none }
def intsPairsRow : OpenClaim := { program := "ytccmicegihlfbaagreatdoor", sum := "5f97603e9aa5299686f475ae09c3d594a22ff31c530a6980d78b20d99d24fb57", func := "assayer/assayerlaw02.IntsPairs", spec := "intsPairs", unfollowed := true, recurses := true, named := ["internal/strconv.uint64pow10", "math/bits.deBruijn32tab", "math/bits.deBruijn64tab"], apart := false, laid := [("math/bits.deBruijn32tab", laid_math_bits_deBruijn32tab), ("math/bits.deBruijn64tab", laid_math_bits_deBruijn64tab), ("internal/strconv.uint64pow10", laid_internal_strconv_uint64pow10)] }
def IntsPairsSaid : Prop := intsPairsRow.holds Tryz.pinned (OpenSpec.ofChange intsPairsSpec)

/-- ITS FALSE NEIGHBOUR: 'it returns false'. Refute it at one input. -/
def intsPairsWrong : ChangeSpec := { name := "intsPairs", fn := fun _ => fun
  | [d1, d2] => { results := [.lit (.bool false)], args := [d1, d2] }
  | _ => none }
def IntsPairsWrongFalsely : Prop := intsPairsRow.holds Tryz.pinned (OpenSpec.ofChange intsPairsWrong)

/-- 'assayerlaw09.NormsFits': WHATEVER THE INPUT: true; the input reads as it did. -/
def normsFitsSpec : ChangeSpec := { name := "normsFits", fn := fun _ => fun
  | [d1, d2] => { results := [.lit (.bool true)], args := [d1, d2] }
  | _ => none }
def normsFitsRow : OpenClaim := { program := "ytccmicegihlfbaagreatdoor", sum := "5f97603e9aa5299686f475ae09c3d594a22ff31c530a6980d78b20d99d24fb57", func := "assayer/assayerlaw09.NormsFits", spec := "normsFits", unfollowed := true, recurses := true, named := ["math/bits.deBruijn32tab", "math/bits.overflowError"], apart := false, laid := [("math/bits.deBruijn32tab", laid_math_bits_deBruijn32tab)] }
def NormsFitsSaid : Prop := normsFitsRow.holds Tryz.pinned (OpenSpec.ofChange normsFitsSpec)

/-- ITS FALSE NEIGHBOUR: 'it returns false'. Refute it at one input. -/
def normsFitsWrong : ChangeSpec := { name := "normsFits", fn := fun _ => fun
  | [d1, d2] => { results := [.lit (.bool false)], args := [d1, d2] }
  | _ => none }
def NormsFitsWrongFalsely : Prop := normsFitsRow.holds Tryz.pinned (OpenSpec.ofChange normsFitsWrong)

/-- 'assayerlaw01.NatsDivs': WHATEVER THE INPUT: true; the input reads as it did. -/
def natsDivsSpec : ChangeSpec := { name := "natsDivs", fn := fun _ => fun
  | [d1, d2] => { results := [.lit (.bool true)], args := [d1, d2] }
  | _ => none }
def natsDivsRow : OpenClaim := { program := "ytccmicegihlfbaagreatdoor", sum := "5f97603e9aa5299686f475ae09c3d594a22ff31c530a6980d78b20d99d24fb57", func := "assayer/assayerlaw01.NatsDivs", spec := "natsDivs", unfollowed := true, recurses := true, named := ["math/bits.overflowError", "math/bits.deBruijn32tab", "internal/strconv.uint64pow10", "math/bits.deBruijn64tab"], apart := false, laid := [("math/bits.deBruijn32tab", laid_math_bits_deBruijn32tab), ("math/bits.deBruijn64tab", laid_math_bits_deBruijn64tab), ("internal/strconv.uint64pow10", laid_internal_strconv_uint64pow10)] }
def NatsDivsSaid : Prop := natsDivsRow.holds Tryz.pinned (OpenSpec.ofChange natsDivsSpec)

/-- ITS FALSE NEIGHBOUR: 'it returns false'. Refute it at one input. -/
def natsDivsWrong : ChangeSpec := { name := "natsDivs", fn := fun _ => fun
  | [d1, d2] => { results := [.lit (.bool false)], args := [d1, d2] }
  | _ => none }
def NatsDivsWrongFalsely : Prop := natsDivsRow.holds Tryz.pinned (OpenSpec.ofChange natsDivsWrong)

/-- 'assayerlaw03.RatsMakes': WHATEVER THE INPUT: true; the input reads as it did. -/
def ratsMakesSpec : ChangeSpec := { name := "ratsMakes", fn := fun _ => fun
  | [d1, d2, d3] => { results := [.lit (.bool true)], args := [d1, d2, d3] }
  | _ => none }
def ratsMakesRow : OpenClaim := { program := "ytccmicegihlfbaagreatdoor", sum := "5f97603e9aa5299686f475ae09c3d594a22ff31c530a6980d78b20d99d24fb57", func := "assayer/assayerlaw03.RatsMakes", spec := "ratsMakes", unfollowed := true, recurses := true, named := ["math/bits.deBruijn32tab", "math/bits.overflowError", "internal/strconv.uint64pow10", "math/bits.deBruijn64tab"], apart := false, laid := [("math/bits.deBruijn32tab", laid_math_bits_deBruijn32tab), ("math/bits.deBruijn64tab", laid_math_bits_deBruijn64tab), ("internal/strconv.uint64pow10", laid_internal_strconv_uint64pow10)] }
def RatsMakesSaid : Prop := ratsMakesRow.holds Tryz.pinned (OpenSpec.ofChange ratsMakesSpec)

/-- ITS FALSE NEIGHBOUR: 'it returns false'. Refute it at one input. -/
def ratsMakesWrong : ChangeSpec := { name := "ratsMakes", fn := fun _ => fun
  | [d1, d2, d3] => { results := [.lit (.bool false)], args := [d1, d2, d3] }
  | _ => none }
def RatsMakesWrongFalsely : Prop := ratsMakesRow.holds Tryz.pinned (OpenSpec.ofChange ratsMakesWrong)

/-- 'assayerlaw16.PivotsFind': WHATEVER THE INPUT: true; the input reads as it did. -/
def pivotsFindSpec : ChangeSpec := { name := "pivotsFind", fn := fun _ => fun
  | [d1, d2, d3] => { results := [.lit (.bool true)], args := [d1, d2, d3] }
  | _ => none }
def pivotsFindRow : OpenClaim := { program := "ytccmicegihlfbaagreatdoor", sum := "5f97603e9aa5299686f475ae09c3d594a22ff31c530a6980d78b20d99d24fb57", func := "assayer/assayerlaw16.PivotsFind", spec := "pivotsFind", unfollowed := true, recurses := true, named := ["math/bits.deBruijn32tab", "math/bits.overflowError"], apart := false, laid := [("math/bits.deBruijn32tab", laid_math_bits_deBruijn32tab)] }
def PivotsFindSaid : Prop := pivotsFindRow.holds Tryz.pinned (OpenSpec.ofChange pivotsFindSpec)

/-- ITS FALSE NEIGHBOUR: 'it returns false'. Refute it at one input. -/
def pivotsFindWrong : ChangeSpec := { name := "pivotsFind", fn := fun _ => fun
  | [d1, d2, d3] => { results := [.lit (.bool false)], args := [d1, d2, d3] }
  | _ => none }
def PivotsFindWrongFalsely : Prop := pivotsFindRow.holds Tryz.pinned (OpenSpec.ofChange pivotsFindWrong)

/-- 'assayerlaw04.VecsAdds': WHATEVER THE INPUT: true; the input reads as it did. -/
def vecsAddsSpec : ChangeSpec := { name := "vecsAdds", fn := fun _ => fun
  | [d1, d2, d3] => { results := [.lit (.bool true)], args := [d1, d2, d3] }
  | _ => none }
def vecsAddsRow : OpenClaim := { program := "ytccmicegihlfbaagreatdoor", sum := "5f97603e9aa5299686f475ae09c3d594a22ff31c530a6980d78b20d99d24fb57", func := "assayer/assayerlaw04.VecsAdds", spec := "vecsAdds", unfollowed := true, recurses := true, named := ["math/bits.deBruijn32tab", "math/bits.overflowError", "internal/strconv.uint64pow10", "math/bits.deBruijn64tab"], apart := false, laid := [("math/bits.deBruijn32tab", laid_math_bits_deBruijn32tab), ("math/bits.deBruijn64tab", laid_math_bits_deBruijn64tab), ("internal/strconv.uint64pow10", laid_internal_strconv_uint64pow10)] }
def VecsAddsSaid : Prop := vecsAddsRow.holds Tryz.pinned (OpenSpec.ofChange vecsAddsSpec)

/-- ITS FALSE NEIGHBOUR: 'it returns false'. Refute it at one input. -/
def vecsAddsWrong : ChangeSpec := { name := "vecsAdds", fn := fun _ => fun
  | [d1, d2, d3] => { results := [.lit (.bool false)], args := [d1, d2, d3] }
  | _ => none }
def VecsAddsWrongFalsely : Prop := vecsAddsRow.holds Tryz.pinned (OpenSpec.ofChange vecsAddsWrong)

/-- 'assayerlaw03.RatsPairs': WHATEVER THE INPUT: true; the input reads as it did. -/
def ratsPairsSpec : ChangeSpec := { name := "ratsPairs", fn := fun _ => fun
  | [d1, d2] => { results := [.lit (.bool true)], args := [d1, d2] }
  | _ => none }
def ratsPairsRow : OpenClaim := { program := "ytccmicegihlfbaagreatdoor", sum := "5f97603e9aa5299686f475ae09c3d594a22ff31c530a6980d78b20d99d24fb57", func := "assayer/assayerlaw03.RatsPairs", spec := "ratsPairs", unfollowed := true, recurses := true, named := ["math/bits.deBruijn32tab", "math/bits.overflowError", "internal/strconv.uint64pow10", "math/bits.deBruijn64tab"], apart := false, laid := [("math/bits.deBruijn32tab", laid_math_bits_deBruijn32tab), ("math/bits.deBruijn64tab", laid_math_bits_deBruijn64tab), ("internal/strconv.uint64pow10", laid_internal_strconv_uint64pow10)] }
def RatsPairsSaid : Prop := ratsPairsRow.holds Tryz.pinned (OpenSpec.ofChange ratsPairsSpec)

/-- ITS FALSE NEIGHBOUR: 'it returns false'. Refute it at one input. -/
def ratsPairsWrong : ChangeSpec := { name := "ratsPairs", fn := fun _ => fun
  | [d1, d2] => { results := [.lit (.bool false)], args := [d1, d2] }
  | _ => none }
def RatsPairsWrongFalsely : Prop := ratsPairsRow.holds Tryz.pinned (OpenSpec.ofChange ratsPairsWrong)

/- THE SECOND FORM. 'bulk': how many values and letters a reading holds, each counted each time it is reached (what is shared counts as often as it is met; a slice's spare places count too). A statement '..UptoSaid' is the law's where the arguments, and the package variables that the reading takes, are together of bulk at most 1048576: NARROWER than '..Said'. Prove '..Said' where nothing that the law and all that it calls make is longer than what came in: it says more and counts as full. Else prove '..UptoSaid'. A law counts once. -/
mutual
def uptoBulk {H : Type} : DataW H → Nat
  | .lit (.string bytes) => bytes.length + 1
  | .lit _ => 1
  | .nil => 1
  | .ptr d => uptoBulk d + 1
  | .slice elems spare => uptoBulkAll elems + uptoBulkAll spare + 1
  | .agg parts => uptoBulkAll parts + 1
  | .iface _ d => uptoBulk d + 1
  | .map entries => uptoBulkEntries entries + 1
  | .held _ => 1
def uptoBulkAll {H : Type} : List (DataW H) → Nat
  | [] => 0
  | d :: r => uptoBulk d + uptoBulkAll r
def uptoBulkEntries {H : Type} : List (Lit × DataW H) → Nat
  | [] => 0
  | x :: r => uptoBulkEntry x + uptoBulkEntries r
def uptoBulkEntry {H : Type} : Lit × DataW H → Nat
  | (.string bytes, d) => bytes.length + uptoBulk d + 1
  | (_, d) => uptoBulk d + 1
 end
def uptoSmall : (H : Type) → List (DataW H) → Bool := fun _ ds => decide (uptoBulkAll ds ≤ 1048576)
def OpenSpec.upto (s : _root_.Go.ChangeSpec) : _root_.Go.OpenSpec := { _root_.Go.OpenSpec.ofChange s with cond := some uptoSmall }

/-- 'assayerlaw02.IntsPairs', WHERE WHAT IT READS IS OF BULK AT MOST 1048576: true; the input reads as it did. -/
def intsPairsUptoRow : OpenClaim := { program := "ytccmicegihlfbaagreatdoor", sum := "5f97603e9aa5299686f475ae09c3d594a22ff31c530a6980d78b20d99d24fb57", func := "assayer/assayerlaw02.IntsPairs", spec := "intsPairs", unfollowed := true, recurses := true, named := ["internal/strconv.uint64pow10", "math/bits.deBruijn32tab", "math/bits.deBruijn64tab"], apart := false, laid := [("math/bits.deBruijn32tab", laid_math_bits_deBruijn32tab), ("math/bits.deBruijn64tab", laid_math_bits_deBruijn64tab), ("internal/strconv.uint64pow10", laid_internal_strconv_uint64pow10)], narrowed := true }
def IntsPairsUptoSaid : Prop := intsPairsUptoRow.holds Tryz.pinned (OpenSpec.upto intsPairsSpec)

/-- 'assayerlaw09.NormsFits', WHERE WHAT IT READS IS OF BULK AT MOST 1048576: true; the input reads as it did. -/
def normsFitsUptoRow : OpenClaim := { program := "ytccmicegihlfbaagreatdoor", sum := "5f97603e9aa5299686f475ae09c3d594a22ff31c530a6980d78b20d99d24fb57", func := "assayer/assayerlaw09.NormsFits", spec := "normsFits", unfollowed := true, recurses := true, named := ["math/bits.deBruijn32tab", "math/bits.overflowError"], apart := false, laid := [("math/bits.deBruijn32tab", laid_math_bits_deBruijn32tab)], narrowed := true }
def NormsFitsUptoSaid : Prop := normsFitsUptoRow.holds Tryz.pinned (OpenSpec.upto normsFitsSpec)

/-- 'assayerlaw01.NatsDivs', WHERE WHAT IT READS IS OF BULK AT MOST 1048576: true; the input reads as it did. -/
def natsDivsUptoRow : OpenClaim := { program := "ytccmicegihlfbaagreatdoor", sum := "5f97603e9aa5299686f475ae09c3d594a22ff31c530a6980d78b20d99d24fb57", func := "assayer/assayerlaw01.NatsDivs", spec := "natsDivs", unfollowed := true, recurses := true, named := ["math/bits.overflowError", "math/bits.deBruijn32tab", "internal/strconv.uint64pow10", "math/bits.deBruijn64tab"], apart := false, laid := [("math/bits.deBruijn32tab", laid_math_bits_deBruijn32tab), ("math/bits.deBruijn64tab", laid_math_bits_deBruijn64tab), ("internal/strconv.uint64pow10", laid_internal_strconv_uint64pow10)], narrowed := true }
def NatsDivsUptoSaid : Prop := natsDivsUptoRow.holds Tryz.pinned (OpenSpec.upto natsDivsSpec)

/-- 'assayerlaw03.RatsMakes', WHERE WHAT IT READS IS OF BULK AT MOST 1048576: true; the input reads as it did. -/
def ratsMakesUptoRow : OpenClaim := { program := "ytccmicegihlfbaagreatdoor", sum := "5f97603e9aa5299686f475ae09c3d594a22ff31c530a6980d78b20d99d24fb57", func := "assayer/assayerlaw03.RatsMakes", spec := "ratsMakes", unfollowed := true, recurses := true, named := ["math/bits.deBruijn32tab", "math/bits.overflowError", "internal/strconv.uint64pow10", "math/bits.deBruijn64tab"], apart := false, laid := [("math/bits.deBruijn32tab", laid_math_bits_deBruijn32tab), ("math/bits.deBruijn64tab", laid_math_bits_deBruijn64tab), ("internal/strconv.uint64pow10", laid_internal_strconv_uint64pow10)], narrowed := true }
def RatsMakesUptoSaid : Prop := ratsMakesUptoRow.holds Tryz.pinned (OpenSpec.upto ratsMakesSpec)

/-- 'assayerlaw16.PivotsFind', WHERE WHAT IT READS IS OF BULK AT MOST 1048576: true; the input reads as it did. -/
def pivotsFindUptoRow : OpenClaim := { program := "ytccmicegihlfbaagreatdoor", sum := "5f97603e9aa5299686f475ae09c3d594a22ff31c530a6980d78b20d99d24fb57", func := "assayer/assayerlaw16.PivotsFind", spec := "pivotsFind", unfollowed := true, recurses := true, named := ["math/bits.deBruijn32tab", "math/bits.overflowError"], apart := false, laid := [("math/bits.deBruijn32tab", laid_math_bits_deBruijn32tab)], narrowed := true }
def PivotsFindUptoSaid : Prop := pivotsFindUptoRow.holds Tryz.pinned (OpenSpec.upto pivotsFindSpec)

/-- 'assayerlaw04.VecsAdds', WHERE WHAT IT READS IS OF BULK AT MOST 1048576: true; the input reads as it did. -/
def vecsAddsUptoRow : OpenClaim := { program := "ytccmicegihlfbaagreatdoor", sum := "5f97603e9aa5299686f475ae09c3d594a22ff31c530a6980d78b20d99d24fb57", func := "assayer/assayerlaw04.VecsAdds", spec := "vecsAdds", unfollowed := true, recurses := true, named := ["math/bits.deBruijn32tab", "math/bits.overflowError", "internal/strconv.uint64pow10", "math/bits.deBruijn64tab"], apart := false, laid := [("math/bits.deBruijn32tab", laid_math_bits_deBruijn32tab), ("math/bits.deBruijn64tab", laid_math_bits_deBruijn64tab), ("internal/strconv.uint64pow10", laid_internal_strconv_uint64pow10)], narrowed := true }
def VecsAddsUptoSaid : Prop := vecsAddsUptoRow.holds Tryz.pinned (OpenSpec.upto vecsAddsSpec)

/-- 'assayerlaw03.RatsPairs', WHERE WHAT IT READS IS OF BULK AT MOST 1048576: true; the input reads as it did. -/
def ratsPairsUptoRow : OpenClaim := { program := "ytccmicegihlfbaagreatdoor", sum := "5f97603e9aa5299686f475ae09c3d594a22ff31c530a6980d78b20d99d24fb57", func := "assayer/assayerlaw03.RatsPairs", spec := "ratsPairs", unfollowed := true, recurses := true, named := ["math/bits.deBruijn32tab", "math/bits.overflowError", "internal/strconv.uint64pow10", "math/bits.deBruijn64tab"], apart := false, laid := [("math/bits.deBruijn32tab", laid_math_bits_deBruijn32tab), ("math/bits.deBruijn64tab", laid_math_bits_deBruijn64tab), ("internal/strconv.uint64pow10", laid_internal_strconv_uint64pow10)], narrowed := true }
def RatsPairsUptoSaid : Prop := ratsPairsUptoRow.holds Tryz.pinned (OpenSpec.upto ratsPairsSpec)

end Rows
end Go.Proofs.YtccmicegihlfbaaGreatDoor
