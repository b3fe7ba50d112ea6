/- What a law's arguments are, read from the row's condition: numbers, fractions. -/
import Derived.Test.YtccmicegihlfbaaGreatDoorFrame
set_option linter.unusedVariables false
set_option linter.unusedSimpArgs false
namespace Go.Proofs.YtccmicegihlfbaaGreatDoor
open Go.ChangeShapes Go.WideShapes Go.ChangeAt Go.RowKit
section
variable {H : Type} {enc : TypeId × Value → H} {W : World} {n base : Nat} {sp : Nat → Bool} {held : Bool} {cs : List Value} {x : DataW H × List MemPlace}
set_option maxRecDepth 100000 in
theorem nat_arg {v : Value} {d : DataW H} {p : List MemPlace} (hval : Value.okWide Tryz.prog W .any 0 23 v) (h : DataW.Trod enc Tryz.prog W base sp held 23 v d p) : ∃ l, RN 0 0 W v l := by
  obtain ⟨a, len, cap, rfl⟩ := okWide_slice Tryz.underlying23 hval
  obtain ⟨k, hk⟩ := h
  exact nat_of_trod hk
end
end Go.Proofs.YtccmicegihlfbaaGreatDoor
