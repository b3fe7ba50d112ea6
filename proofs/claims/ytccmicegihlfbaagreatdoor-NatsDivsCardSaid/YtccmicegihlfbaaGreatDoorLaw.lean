/- What a law holds when it asks the book: rows in the order of their making, and the variables' boxes. -/
import Derived.Test.YtccmicegihlfbaaGreatDoorK6
import Derived.Test.YtccmicegihlfbaaGreatDoorW1
set_option linter.unusedVariables false
set_option linter.unusedSimpArgs false
namespace Go.Proofs.YtccmicegihlfbaaGreatDoor
open Go.RowKit
/-- Rows that are held, all in blocks from H on. -/
def OWF (B : Nat) (w : World) (H : Nat) (L : List OV) : Prop := OWN B w L ∧ ∀ a ∈ L, ∀ g, bk a.v = some g → H ≤ g
theorem OWF.nil (B : Nat) (w : World) (H : Nat) : OWF B w H [] := ⟨OWN.nil B w, fun a h => by cases h⟩
theorem OWF.cons {B H lo hi : Nat} {w : World} {L : List OV} {o : OV} (h : OWF B w H L) (hok : o.ok B w) (hk : ∀ g, bk o.v = some g → lo ≤ g ∧ g < hi) (hH : hi ≤ H) (hl : lo ≤ hi) : OWF B w lo (o :: L) := by
  refine ⟨h.1.add hok (fun a ha => Dj.lt (fun g hg => (hk g hg).2) (fun g hg => Nat.le_trans hH (h.2 a ha g hg))), fun a ha g hg => ?_⟩
  rcases List.mem_cons.1 ha with rfl | ha
  · exact (hk g hg).1
  · have := h.2 a ha g hg; omega
theorem perm_unzip (ps : List (OV × OV)) : (ps.flatMap fun p => [p.1, p.2]).Perm (ps.map (·.1) ++ ps.map (·.2)) := by
  induction ps with
  | nil => exact List.Perm.refl _
  | cons p ps ih =>
    simp only [List.flatMap_cons, List.map_cons, List.cons_append, List.nil_append]
    refine List.Perm.cons _ ((List.Perm.cons _ ih).trans ?_)
    exact List.perm_middle.symm
theorem box_bk {g : Nat} {e : TypeId} {cs : List Value} : ∀ k, bk (ovB g e cs).v = some k → g ≤ k ∧ k < g + 1 := fun k hk => by
  have := bk_le hk
  omega
end Go.Proofs.YtccmicegihlfbaaGreatDoor
