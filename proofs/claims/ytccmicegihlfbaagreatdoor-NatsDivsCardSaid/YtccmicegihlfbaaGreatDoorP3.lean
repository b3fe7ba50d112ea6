/- 'assayer/assayerlaw01.NatsDivs' answers true for any two numbers from 0 on: the row and its tied card. Conditions: those of the row (the listed tables are laid as the program's text lays them). -/
import Derived.Test.YtccmicegihlfbaaGreatDoorL3
import Derived.Test.YtccmicegihlfbaaGreatDoorFrame2
import Derived.Test.YtccmicegihlfbaaGreatDoorTie
import Derived.Test.YtccmicegihlfbaaGreatDoorCards
import Derived.Lib.LaidTab
set_option linter.unusedVariables false
set_option linter.unusedSimpArgs false
namespace Go.Proofs.YtccmicegihlfbaaGreatDoor
open Go.ChangeShapes Go.WideShapes Go.ChangeAt Go.RowKit

/-- From the row's condition to the table. -/
theorem tab_of_laid {W : World} (h : laidMetH Tryz.prog Rows.natsDivsRow.laid W) : Tab W := by
  rw [MakeChecks.laidMetH_plain _ _ _ (by kernel_rfl)] at h
  have ht := Go.Lib.tabIs_of_head (P := Tryz.prog) (W := W) (name := "math/bits.deBruijn32tab") (k := .u8) (zs := tab32.map Int.ofNat) (g := 1) (t := 235) (e := 5) (n := 32)
    (by kernel_rfl) (by kernel_rfl) Tryz.underlying235 Tryz.underlying5 (by kernel_rfl) (by kernel_rfl) h
  intro j hj
  have h2 := ht.cell (g := 1) (by kernel_rfl) j (by simpa [tab32] using hj)
  rw [h2, List.getD_eq_getElem?_getD, List.getD_eq_getElem?_getD, List.getElem?_map]
  have h3 : j < tab32.length := by simpa [tab32] using hj
  rw [List.getElem?_eq_getElem h3]
  rfl

theorem ownKnob_ : ownKnob Tryz.prog.godebug = none := by kernel_rfl
/-- The door's own heap meets the condition. -/
theorem law_door_met (os : Os) (args : Array Value) : laidMetH Tryz.prog Rows.natsDivsRow.laid ((World.doorLaid Tryz.prog 400 os).forCall (fun _ _ => 0) ⟨#[], args, []⟩).memory := by
  rw [MakeChecks.laidMetH_plain _ _ _ (by kernel_rfl)]
  exact laidMet_of_run' 8 (by kernel_rfl) (by kernel_rfl)

set_option maxRecDepth 100000 in
theorem law_lifted (os : Os) (started : os.Started) (H : Type) (enc : TypeId × Value → H) :
    ReturnsInHanded {} Tryz.checked os 5 .any (fun w args => (Rows.natsDivsSpec.pre enc Tryz.prog Tryz.f5 [] false w args ∧ laidMetH Tryz.prog Rows.natsDivsRow.laid w) ∧ sizedMet enc Tryz.prog Tryz.f5 (OpenSpec.ofChange Rows.natsDivsSpec) false w args)
      (Rows.natsDivsSpec.post enc Tryz.prog Tryz.f5 false true false false) := by
  refine returnsInHanded_of_change_and (C := Tryz.checked) (X := fun w _ => laidMetH Tryz.prog Rows.natsDivsRow.laid w) (fun _ _ _ hh h => h.of_heap hh) ownKnob_ started (by kernel_rfl) Tryz.func5
    (ChangeSpec.witness_shaped (enc := enc) (C := Tryz.checked) (os := os) (X := fun w _ => laidMetH Tryz.prog Rows.natsDivsRow.laid w) false (World.doorLaid Tryz.prog 400 os) #[.slice none 0 0, .slice none 0 0] 8 rfl (World.shaped_of_RefB (by kernel_rfl) (by kernel_rfl)) (by kernel_rfl) (by kernel_rfl) (by kernel_rfl) (law_door_met os _)) ?_
  intro W base args ds gs before hval0 hW hx1 hx2 hL hx3
  have hval : ∀ (j : Nat) t v, Tryz.f5.params[j]? = some t → args[j]? = some v → Value.okWide Tryz.prog W .any base t v := hval0
  have hW' := hW
  obtain ⟨p, q, hA0, hV, rfl, hfz, hnd⟩ := hW
  have hA : DataW.TrodAll enc Tryz.prog W 0 (fun _ => true) true Tryz.f5.params.toList args.toList ds p := hA0
  rw [Tryz.params5] at hA hval
  obtain ⟨v0, v1, d0, d1, p0, p1, rfl, rfl, rfl, h0, h1⟩ := trodAll_two hA
  obtain ⟨rfl, rfl⟩ := trodVars_none hV
  obtain ⟨la, ha⟩ := nat_arg (hval 0 23 v0 rfl rfl) h0
  obtain ⟨lb, hb⟩ := nat_arg (hval 1 23 v1 rfl rfl) h1
  clear hA0 hval0
  refine Calls.mono (natsDivs_c W v0 v1 la lb ha hb (by first | exact tab_of_laid hx1 | exact tab_of_laid hx2 | exact tab_of_laid hL | exact tab_of_laid hx3)) fun e W' h => ?_
  obtain ⟨v, he, hB, hv⟩ := h
  subst he
  subst hv
  refine ⟨_, rfl, post_true laid_ full_ hW' rfl rfl (show Tryz.f5.resultTypes = #[4] by kernel_rfl) Tryz.underlying4 (fun u hu => ?_) hB⟩
  rw [Tryz.params5] at hu
  simp only [List.mem_cons, List.not_mem_nil, or_false] at hu
  rcases hu with rfl | rfl
  · exact some_of (by kernel_rfl) (of_decide_eq_true (by kernel_rfl))
  · exact some_of (by kernel_rfl) (of_decide_eq_true (by kernel_rfl))

theorem natsDivs_holds : Rows.NatsDivsSaid :=
  OpenClaim.holds_of_wide 5 Tryz.f5 rfl rfl rfl rfl rfl rfl rfl ⟨rfl, rfl, rfl, rfl, rfl⟩ rfl rfl rfl rfl rfl (by kernel_rfl) Tryz.func5 (by kernel_rfl)
    (of_decide_eq_true (by kernel_rfl)) (by unfold Func.isWrapper; first | (rw [if_pos (by decide +kernel)]; kernel_rfl) | (rw [if_neg (by decide +kernel)]; exact ⟨rfl, rfl⟩))
    (fun os started H enc _ => law_lifted os started H enc)

/-- The tied card. -/
theorem natsDivs_card : Rows.NatsDivsCardSaid :=
  Claim7.holds_tied_plain_at .later [] [.data, .data, .data] true Rows.natsDivsCard.stood.harness false
    natsDivs_holds (fun _ h => by cases h) (by kernel_rfl) (fun _ h => by cases h) natsDivs_row_tie rfl ⟨rfl, rfl⟩ (by kernel_rfl) rfl
    (fun f fn hf hfn => by
      obtain rfl : f = 5 := Option.some.inj ((show Tryz.prog.funcNamed "assayer/assayerlaw01.NatsDivs" = some 5 by kernel_rfl).symm.trans hf) |>.symm
      obtain rfl : fn = Tryz.f5 := (Option.some.inj (Tryz.func5.symm.trans hfn)).symm
      exact ⟨by kernel_rfl, fun j t ht => by
        rw [Tryz.params5] at ht
        have hm : t ∈ [23, 23] := by simpa using Array.mem_of_getElem? ht
        have hall : ([23, 23].all fun u => !Tryz.prog.wantsStandIn u) = true := by kernel_rfl
        exact (show Tryz.prog.wantsStandIn t = false by simpa using List.all_eq_true.1 hall t hm)⟩)
    (by kernel_rfl)
#print axioms natsDivs_card
end Go.Proofs.YtccmicegihlfbaaGreatDoor
