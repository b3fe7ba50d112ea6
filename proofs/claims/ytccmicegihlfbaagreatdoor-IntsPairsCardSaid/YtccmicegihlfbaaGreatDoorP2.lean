/- 'assayer/assayerlaw02.IntsPairs' answers true for any two whole numbers: the row and its tied card. Conditions: those of the row (the listed tables are laid as the program's text lays them). -/
import Derived.Test.YtccmicegihlfbaaGreatDoorL2
import Derived.Test.YtccmicegihlfbaaGreatDoorFrame
import Derived.Test.YtccmicegihlfbaaGreatDoorTie
import Derived.Test.YtccmicegihlfbaaGreatDoorCards
set_option linter.unusedVariables false
set_option linter.unusedSimpArgs false
namespace Go.Proofs.YtccmicegihlfbaaGreatDoor
open Go.ChangeShapes Go.WideShapes Go.ChangeAt Go.RowKit

theorem ownKnob_ : ownKnob Tryz.prog.godebug = none := by kernel_rfl
/-- The door's own heap meets the condition. -/
theorem law_door_met (os : Os) (args : Array Value) : laidMetH Tryz.prog Rows.intsPairsRow.laid ((World.doorLaid Tryz.prog 400 os).forCall (fun _ _ => 0) ⟨#[], args, []⟩).memory := by
  rw [MakeChecks.laidMetH_plain _ _ _ (by kernel_rfl)]
  exact laidMet_of_run' 8 (by kernel_rfl) (by kernel_rfl)

set_option maxRecDepth 100000 in
theorem law_lifted (os : Os) (started : os.Started) (H : Type) (enc : TypeId × Value → H) :
    ReturnsInHanded {} Tryz.checked os 3 .any (fun w args => (Rows.intsPairsSpec.pre enc Tryz.prog Tryz.f3 [] false w args ∧ laidMetH Tryz.prog Rows.intsPairsRow.laid w) ∧ sizedMet enc Tryz.prog Tryz.f3 (OpenSpec.ofChange Rows.intsPairsSpec) false w args)
      (Rows.intsPairsSpec.post enc Tryz.prog Tryz.f3 false true false false) := by
  refine returnsInHanded_of_change_and (C := Tryz.checked) (X := fun w _ => laidMetH Tryz.prog Rows.intsPairsRow.laid w) (fun _ _ _ hh h => h.of_heap hh) ownKnob_ started (by kernel_rfl) Tryz.func3
    (ChangeSpec.witness_shaped (enc := enc) (C := Tryz.checked) (os := os) (X := fun w _ => laidMetH Tryz.prog Rows.intsPairsRow.laid w) false (World.doorLaid Tryz.prog 400 os) #[.agg #[.bool false, .slice none 0 0], .agg #[.bool false, .slice none 0 0]] 8 rfl (World.shaped_of_RefB (by kernel_rfl) (by kernel_rfl)) (by kernel_rfl) (by kernel_rfl) (by kernel_rfl) (law_door_met os _)) ?_
  intro W base args ds gs before hval0 hW hx1 hx2 hL hx3
  have hval : ∀ (j : Nat) t v, Tryz.f3.params[j]? = some t → args[j]? = some v → Value.okWide Tryz.prog W .any base t v := hval0
  have hW' := hW
  obtain ⟨p, q, hA0, hV, rfl, hfz, hnd⟩ := hW
  have hA : DataW.TrodAll enc Tryz.prog W 0 (fun _ => true) true Tryz.f3.params.toList args.toList ds p := hA0
  rw [Tryz.params3] at hA hval
  obtain ⟨v0, v1, d0, d1, p0, p1, rfl, rfl, rfl, h0, h1⟩ := trodAll_two hA
  obtain ⟨rfl, rfl⟩ := trodVars_none hV
  obtain ⟨s, va, la, rfl, ha⟩ := int_arg (hval 0 25 v0 rfl rfl) h0
  obtain ⟨t, vb, lb, rfl, hb⟩ := int_arg (hval 1 25 v1 rfl rfl) h1
  clear hA0 hval0
  refine Calls.mono (intsPairs_c W s t va vb la lb ha hb) fun e W' h => ?_
  obtain ⟨v, he, hB, hv⟩ := h
  subst he
  subst hv
  refine ⟨_, rfl, post_true laid_ full_ hW' rfl rfl (show Tryz.f3.resultTypes = #[4] by kernel_rfl) Tryz.underlying4 (fun u hu => ?_) hB⟩
  rw [Tryz.params3] at hu
  simp only [List.mem_cons, List.not_mem_nil, or_false] at hu
  rcases hu with rfl | rfl
  · exact some_of (by kernel_rfl) (of_decide_eq_true (by kernel_rfl))
  · exact some_of (by kernel_rfl) (of_decide_eq_true (by kernel_rfl))

theorem intsPairs_holds : Rows.IntsPairsSaid :=
  OpenClaim.holds_of_wide 3 Tryz.f3 rfl rfl rfl rfl rfl rfl rfl ⟨rfl, rfl, rfl, rfl, rfl⟩ rfl rfl rfl rfl rfl (by kernel_rfl) Tryz.func3 (by kernel_rfl)
    (of_decide_eq_true (by kernel_rfl)) (by unfold Func.isWrapper; first | (rw [if_pos (by decide +kernel)]; kernel_rfl) | (rw [if_neg (by decide +kernel)]; exact ⟨rfl, rfl⟩))
    (fun os started H enc _ => law_lifted os started H enc)

/-- The tied card. -/
theorem intsPairs_card : Rows.IntsPairsCardSaid :=
  Claim7.holds_tied_plain_at .later [] [.data, .data, .data] true Rows.intsPairsCard.stood.harness false
    intsPairs_holds (fun _ h => by cases h) (by kernel_rfl) (fun _ h => by cases h) intsPairs_row_tie rfl ⟨rfl, rfl⟩ (by kernel_rfl) rfl
    (fun f fn hf hfn => by
      obtain rfl : f = 3 := Option.some.inj ((show Tryz.prog.funcNamed "assayer/assayerlaw02.IntsPairs" = some 3 by kernel_rfl).symm.trans hf) |>.symm
      obtain rfl : fn = Tryz.f3 := (Option.some.inj (Tryz.func3.symm.trans hfn)).symm
      exact ⟨by kernel_rfl, fun j t ht => by
        rw [Tryz.params3] at ht
        have hm : t ∈ [25, 25] := by simpa using Array.mem_of_getElem? ht
        have hall : ([25, 25].all fun u => !Tryz.prog.wantsStandIn u) = true := by kernel_rfl
        exact (show Tryz.prog.wantsStandIn t = false by simpa using List.all_eq_true.1 hall t hm)⟩)
    (by kernel_rfl)
#print axioms intsPairs_card
end Go.Proofs.YtccmicegihlfbaaGreatDoor
