/- A book: no two of its lists share memory. -/
import Derived.Test.YtccmicegihlfbaaGreatDoorK5
import Derived.Test.YtccmicegihlfbaaGreatDoorTy
set_option linter.unusedVariables false
set_option linter.unusedSimpArgs false
namespace Go.Proofs.YtccmicegihlfbaaGreatDoor
open Go.RowKit

set_option maxHeartbeats 400000 in
theorem apart_b (w0 : World) {B : Nat} (kb : Nat) (no : Int) (vI vR : Value) (I R : List HE) (O : List OV) (HB : BOOK B kb w0 no vI vR I R O) (hI : ∀ h ∈ I, PK false h) (hR : ∀ h ∈ R, PK true h) (hB : B ≤ kb) :
    Ret Tryz.prog 27 [(.pointer (some ⟨kb, 0, none⟩))] w0 (fun r w1 => Below B w0 w1 ∧ r = .bool true) := by
  have E := Below.refl B w0
  have hB0 : B ≤ w0.heap.size := by have := HB.blk.lt; omega
  refine Ret_of (n := 97) Tryz.func27 rfl rfl (Nat.le_of_ble_eq_true rfl) ?_
  refine W_seq ?_
  refine W_region rfl ?_
  refine S_assign rfl rfl rfl (v := (.bool false)) (rfl) ?_
  refine OPS.nil ?_
  change WP _ _ _ _ _ _
  refine W_seq ?_
  refine W_region rfl ?_
  refine S_move rfl rfl rfl (v := (.pointer (some ⟨kb, 0, none⟩))) (rfl) ?_
  refine S_call en_passayerlaw01_Book_fillByte rfl rfl rfl (vs := [(.pointer (some ⟨kb, 0, none⟩))]) (rfl) (fillByte_e _ kb no vI vR HB.blk) ?_
  rintro _ _ rfl
  refine OPS.nil ?_
  change WP _ _ _ _ _ _
  refine W_seq ?_
  refine W_region rfl ?_
  refine S_move rfl rfl rfl (v := (.pointer (some ⟨kb, 0, none⟩))) (rfl) ?_
  refine S_call en_passayerlaw01_Book_fillInt32 rfl rfl rfl (vs := [(.pointer (some ⟨kb, 0, none⟩))]) (rfl) (fillInt32_c _ kb no vI vR _ _ _ HB hI hB) ?_
  rintro _ w1 ⟨hT, ⟨I1, O1, HB, hl1, hF1, hO1⟩⟩
  have E := E.trans hT
  refine OPS.nil ?_
  change WP _ _ _ _ _ _
  refine W_seq ?_
  refine W_region rfl ?_
  refine S_move rfl rfl rfl (v := (.pointer (some ⟨kb, 0, none⟩))) (rfl) ?_
  refine S_call en_passayerlaw01_Book_fillNum rfl rfl rfl (vs := [(.pointer (some ⟨kb, 0, none⟩))]) (rfl) (fillNum_e _ kb no vI vR HB.blk) ?_
  rintro _ _ rfl
  refine OPS.nil ?_
  change WP _ _ _ _ _ _
  refine W_seq ?_
  refine W_region rfl ?_
  refine S_move rfl rfl rfl (v := (.pointer (some ⟨kb, 0, none⟩))) (rfl) ?_
  refine S_call en_passayerlaw01_Book_fillBool rfl rfl rfl (vs := [(.pointer (some ⟨kb, 0, none⟩))]) (rfl) (fillBool_e _ kb no vI vR HB.blk) ?_
  rintro _ _ rfl
  refine OPS.nil ?_
  change WP _ _ _ _ _ _
  refine W_seq ?_
  refine W_region rfl ?_
  refine S_move rfl rfl rfl (v := (.pointer (some ⟨kb, 0, none⟩))) (rfl) ?_
  refine S_call en_passayerlaw01_Book_fillText rfl rfl rfl (vs := [(.pointer (some ⟨kb, 0, none⟩))]) (rfl) (fillText_e _ kb no vI vR HB.blk) ?_
  rintro _ _ rfl
  refine OPS.nil ?_
  change WP _ _ _ _ _ _
  refine W_seq ?_
  refine W_region rfl ?_
  refine S_move rfl rfl rfl (v := (.pointer (some ⟨kb, 0, none⟩))) (rfl) ?_
  refine S_call en_passayerlaw01_Book_fillToken rfl rfl rfl (vs := [(.pointer (some ⟨kb, 0, none⟩))]) (rfl) (fillToken_e _ kb no vI vR HB.blk) ?_
  rintro _ _ rfl
  refine OPS.nil ?_
  change WP _ _ _ _ _ _
  refine W_seq ?_
  refine W_region rfl ?_
  refine S_move rfl rfl rfl (v := (.pointer (some ⟨kb, 0, none⟩))) (rfl) ?_
  refine S_call en_passayerlaw01_Book_fillTenant rfl rfl rfl (vs := [(.pointer (some ⟨kb, 0, none⟩))]) (rfl) (fillTenant_e _ kb no vI vR HB.blk) ?_
  rintro _ _ rfl
  refine OPS.nil ?_
  change WP _ _ _ _ _ _
  refine W_seq ?_
  refine W_region rfl ?_
  refine S_move rfl rfl rfl (v := (.pointer (some ⟨kb, 0, none⟩))) (rfl) ?_
  refine S_call en_passayerlaw01_Book_fillRat rfl rfl rfl (vs := [(.pointer (some ⟨kb, 0, none⟩))]) (rfl) (fillRat_c _ kb no vI vR _ _ _ HB hR hB) ?_
  rintro _ w2 ⟨hT, ⟨R1, O2, HB, hl2, hF2, hO2⟩⟩
  have E := E.trans hT
  refine OPS.nil ?_
  change WP _ _ _ _ _ _
  refine W_seq ?_
  refine W_region rfl ?_
  refine S_move rfl rfl rfl (v := (.pointer (some ⟨kb, 0, none⟩))) (rfl) ?_
  refine S_call en_passayerlaw01_Book_fillVar rfl rfl rfl (vs := [(.pointer (some ⟨kb, 0, none⟩))]) (rfl) (fillVar_e _ kb no vI vR HB.blk) ?_
  rintro _ _ rfl
  refine OPS.nil ?_
  change WP _ _ _ _ _ _
  refine W_seq ?_
  refine W_region rfl ?_
  refine S_move rfl rfl rfl (v := (.pointer (some ⟨kb, 0, none⟩))) (rfl) ?_
  refine S_call en_passayerlaw01_Book_fillRow rfl rfl rfl (vs := [(.pointer (some ⟨kb, 0, none⟩))]) (rfl) (fillRow_e _ kb no vI vR HB.blk) ?_
  rintro _ _ rfl
  refine OPS.nil ?_
  change WP _ _ _ _ _ _
  refine W_seq ?_
  refine W_region rfl ?_
  refine S_move rfl rfl rfl (v := (.pointer (some ⟨kb, 0, none⟩))) (rfl) ?_
  refine S_call en_passayerlaw01_Book_fillNode rfl rfl rfl (vs := [(.pointer (some ⟨kb, 0, none⟩))]) (rfl) (fillNode_e _ kb no vI vR HB.blk) ?_
  rintro _ _ rfl
  refine OPS.nil ?_
  change WP _ _ _ _ _ _
  refine W_seq ?_
  refine W_region rfl ?_
  refine S_move rfl rfl rfl (v := (.pointer (some ⟨kb, 0, none⟩))) (rfl) ?_
  refine S_call en_passayerlaw01_Book_fillJob rfl rfl rfl (vs := [(.pointer (some ⟨kb, 0, none⟩))]) (rfl) (fillJob_e _ kb no vI vR HB.blk) ?_
  rintro _ _ rfl
  refine OPS.nil ?_
  change WP _ _ _ _ _ _
  refine W_seq ?_
  refine W_region rfl ?_
  refine S_move rfl rfl rfl (v := (.pointer (some ⟨kb, 0, none⟩))) (rfl) ?_
  refine S_call en_passayerlaw01_Book_growByte rfl rfl rfl (vs := [(.pointer (some ⟨kb, 0, none⟩))]) (rfl) (growByte_e _ kb no vI vR HB.blk) ?_
  rintro _ _ rfl
  refine OPS.nil ?_
  change WP _ _ _ _ _ _
  refine W_seq ?_
  refine W_region rfl ?_
  refine S_move rfl rfl rfl (v := (.pointer (some ⟨kb, 0, none⟩))) (rfl) ?_
  refine S_call en_passayerlaw01_Book_growInt32 rfl rfl rfl (vs := [(.pointer (some ⟨kb, 0, none⟩))]) (rfl) (growInt32_c _ kb no vI vR _ _ _ HB (fun h hh => (hF1 h hh).mono hO2) hB) ?_
  rintro _ w3 ⟨hT, ⟨I2, O3, HB, hl3, hF3, hO3⟩⟩
  have E := E.trans hT
  refine OPS.nil ?_
  change WP _ _ _ _ _ _
  refine W_seq ?_
  refine W_region rfl ?_
  refine S_move rfl rfl rfl (v := (.pointer (some ⟨kb, 0, none⟩))) (rfl) ?_
  refine S_call en_passayerlaw01_Book_growNum rfl rfl rfl (vs := [(.pointer (some ⟨kb, 0, none⟩))]) (rfl) (growNum_e _ kb no vI vR HB.blk) ?_
  rintro _ _ rfl
  refine OPS.nil ?_
  change WP _ _ _ _ _ _
  refine W_seq ?_
  refine W_region rfl ?_
  refine S_move rfl rfl rfl (v := (.pointer (some ⟨kb, 0, none⟩))) (rfl) ?_
  refine S_call en_passayerlaw01_Book_growBool rfl rfl rfl (vs := [(.pointer (some ⟨kb, 0, none⟩))]) (rfl) (growBool_e _ kb no vI vR HB.blk) ?_
  rintro _ _ rfl
  refine OPS.nil ?_
  change WP _ _ _ _ _ _
  refine W_seq ?_
  refine W_region rfl ?_
  refine S_move rfl rfl rfl (v := (.pointer (some ⟨kb, 0, none⟩))) (rfl) ?_
  refine S_call en_passayerlaw01_Book_growText rfl rfl rfl (vs := [(.pointer (some ⟨kb, 0, none⟩))]) (rfl) (growText_e _ kb no vI vR HB.blk) ?_
  rintro _ _ rfl
  refine OPS.nil ?_
  change WP _ _ _ _ _ _
  refine W_seq ?_
  refine W_region rfl ?_
  refine S_move rfl rfl rfl (v := (.pointer (some ⟨kb, 0, none⟩))) (rfl) ?_
  refine S_call en_passayerlaw01_Book_growToken rfl rfl rfl (vs := [(.pointer (some ⟨kb, 0, none⟩))]) (rfl) (growToken_e _ kb no vI vR HB.blk) ?_
  rintro _ _ rfl
  refine OPS.nil ?_
  change WP _ _ _ _ _ _
  refine W_seq ?_
  refine W_region rfl ?_
  refine S_move rfl rfl rfl (v := (.pointer (some ⟨kb, 0, none⟩))) (rfl) ?_
  refine S_call en_passayerlaw01_Book_growTenant rfl rfl rfl (vs := [(.pointer (some ⟨kb, 0, none⟩))]) (rfl) (growTenant_e _ kb no vI vR HB.blk) ?_
  rintro _ _ rfl
  refine OPS.nil ?_
  change WP _ _ _ _ _ _
  refine W_seq ?_
  refine W_region rfl ?_
  refine S_move rfl rfl rfl (v := (.pointer (some ⟨kb, 0, none⟩))) (rfl) ?_
  refine S_call en_passayerlaw01_Book_growRat rfl rfl rfl (vs := [(.pointer (some ⟨kb, 0, none⟩))]) (rfl) (growRat_c _ kb no vI vR _ _ _ HB (fun h hh => (hF2 h hh).mono hO3) hB) ?_
  rintro _ w4 ⟨hT, ⟨R2, O4, HB, hl4, hF4, hO4⟩⟩
  have E := E.trans hT
  refine OPS.nil ?_
  change WP _ _ _ _ _ _
  refine W_seq ?_
  refine W_region rfl ?_
  refine S_move rfl rfl rfl (v := (.pointer (some ⟨kb, 0, none⟩))) (rfl) ?_
  refine S_call en_passayerlaw01_Book_growVar rfl rfl rfl (vs := [(.pointer (some ⟨kb, 0, none⟩))]) (rfl) (growVar_e _ kb no vI vR HB.blk) ?_
  rintro _ _ rfl
  refine OPS.nil ?_
  change WP _ _ _ _ _ _
  refine W_seq ?_
  refine W_region rfl ?_
  refine S_move rfl rfl rfl (v := (.pointer (some ⟨kb, 0, none⟩))) (rfl) ?_
  refine S_call en_passayerlaw01_Book_growRow rfl rfl rfl (vs := [(.pointer (some ⟨kb, 0, none⟩))]) (rfl) (growRow_e _ kb no vI vR HB.blk) ?_
  rintro _ _ rfl
  refine OPS.nil ?_
  change WP _ _ _ _ _ _
  refine W_seq ?_
  refine W_region rfl ?_
  refine S_move rfl rfl rfl (v := (.pointer (some ⟨kb, 0, none⟩))) (rfl) ?_
  refine S_call en_passayerlaw01_Book_growNode rfl rfl rfl (vs := [(.pointer (some ⟨kb, 0, none⟩))]) (rfl) (growNode_e _ kb no vI vR HB.blk) ?_
  rintro _ _ rfl
  refine OPS.nil ?_
  change WP _ _ _ _ _ _
  refine W_seq ?_
  refine W_region rfl ?_
  refine S_move rfl rfl rfl (v := (.pointer (some ⟨kb, 0, none⟩))) (rfl) ?_
  refine S_call en_passayerlaw01_Book_growJob rfl rfl rfl (vs := [(.pointer (some ⟨kb, 0, none⟩))]) (rfl) (growJob_e _ kb no vI vR HB.blk) ?_
  rintro _ _ rfl
  refine OPS.nil ?_
  change WP _ _ _ _ _ _
  refine W_seq ?_
  refine W_region rfl ?_
  refine S_move rfl rfl rfl (v := (.pointer (some ⟨kb, 0, none⟩))) (rfl) ?_
  refine S_call en_passayerlaw01_Book_lookByte rfl rfl rfl (vs := [(.pointer (some ⟨kb, 0, none⟩))]) (rfl) (lookByte_e _ kb no vI vR HB.blk) ?_
  rintro _ _ ⟨rfl, rfl⟩
  refine S_move rfl rfl rfl (v := (.bool true)) (rfl) ?_
  refine S_move rfl rfl rfl (v := (.pointer (some ⟨kb, 0, none⟩))) (rfl) ?_
  refine S_call en_passayerlaw01_Book_lookInt32 rfl rfl rfl (vs := [(.pointer (some ⟨kb, 0, none⟩))]) (rfl) (lookInt32_c _ kb no vI vR _ _ _ HB (fun h hh => (hF3 h hh).mono hO4) hB) ?_
  rintro _ w5 ⟨hT, ⟨rfl, HB⟩⟩
  have E := E.trans hT
  refine S_pick rfl rfl rfl rfl rfl (b := true) (rfl) (v := (.bool true)) (rfl) ?_
  refine S_move rfl rfl rfl (v := (.bool true)) (rfl) ?_
  refine S_move rfl rfl rfl (v := (.pointer (some ⟨kb, 0, none⟩))) (rfl) ?_
  refine S_call en_passayerlaw01_Book_lookNum rfl rfl rfl (vs := [(.pointer (some ⟨kb, 0, none⟩))]) (rfl) (lookNum_e _ kb no vI vR HB.blk) ?_
  rintro _ _ ⟨rfl, rfl⟩
  refine S_pick rfl rfl rfl rfl rfl (b := true) (rfl) (v := (.bool true)) (rfl) ?_
  refine S_move rfl rfl rfl (v := (.bool true)) (rfl) ?_
  refine S_move rfl rfl rfl (v := (.pointer (some ⟨kb, 0, none⟩))) (rfl) ?_
  refine S_call en_passayerlaw01_Book_lookBool rfl rfl rfl (vs := [(.pointer (some ⟨kb, 0, none⟩))]) (rfl) (lookBool_e _ kb no vI vR HB.blk) ?_
  rintro _ _ ⟨rfl, rfl⟩
  refine S_pick rfl rfl rfl rfl rfl (b := true) (rfl) (v := (.bool true)) (rfl) ?_
  refine S_move rfl rfl rfl (v := (.bool true)) (rfl) ?_
  refine S_move rfl rfl rfl (v := (.pointer (some ⟨kb, 0, none⟩))) (rfl) ?_
  refine S_call en_passayerlaw01_Book_lookText rfl rfl rfl (vs := [(.pointer (some ⟨kb, 0, none⟩))]) (rfl) (lookText_e _ kb no vI vR HB.blk) ?_
  rintro _ _ ⟨rfl, rfl⟩
  refine S_pick rfl rfl rfl rfl rfl (b := true) (rfl) (v := (.bool true)) (rfl) ?_
  refine S_move rfl rfl rfl (v := (.bool true)) (rfl) ?_
  refine S_move rfl rfl rfl (v := (.pointer (some ⟨kb, 0, none⟩))) (rfl) ?_
  refine S_call en_passayerlaw01_Book_lookToken rfl rfl rfl (vs := [(.pointer (some ⟨kb, 0, none⟩))]) (rfl) (lookToken_e _ kb no vI vR HB.blk) ?_
  rintro _ _ ⟨rfl, rfl⟩
  refine S_pick rfl rfl rfl rfl rfl (b := true) (rfl) (v := (.bool true)) (rfl) ?_
  refine S_move rfl rfl rfl (v := (.bool true)) (rfl) ?_
  refine S_move rfl rfl rfl (v := (.pointer (some ⟨kb, 0, none⟩))) (rfl) ?_
  refine S_call en_passayerlaw01_Book_lookTenant rfl rfl rfl (vs := [(.pointer (some ⟨kb, 0, none⟩))]) (rfl) (lookTenant_e _ kb no vI vR HB.blk) ?_
  rintro _ _ ⟨rfl, rfl⟩
  refine S_pick rfl rfl rfl rfl rfl (b := true) (rfl) (v := (.bool true)) (rfl) ?_
  refine S_move rfl rfl rfl (v := (.bool true)) (rfl) ?_
  refine S_move rfl rfl rfl (v := (.pointer (some ⟨kb, 0, none⟩))) (rfl) ?_
  refine S_call en_passayerlaw01_Book_lookRat rfl rfl rfl (vs := [(.pointer (some ⟨kb, 0, none⟩))]) (rfl) (lookRat_c _ kb no vI vR _ _ _ HB hF4 hB) ?_
  rintro _ w6 ⟨hT, ⟨rfl, HB⟩⟩
  have E := E.trans hT
  refine S_pick rfl rfl rfl rfl rfl (b := true) (rfl) (v := (.bool true)) (rfl) ?_
  refine S_move rfl rfl rfl (v := (.bool true)) (rfl) ?_
  refine S_move rfl rfl rfl (v := (.pointer (some ⟨kb, 0, none⟩))) (rfl) ?_
  refine S_call en_passayerlaw01_Book_lookVar rfl rfl rfl (vs := [(.pointer (some ⟨kb, 0, none⟩))]) (rfl) (lookVar_e _ kb no vI vR HB.blk) ?_
  rintro _ _ ⟨rfl, rfl⟩
  refine S_pick rfl rfl rfl rfl rfl (b := true) (rfl) (v := (.bool true)) (rfl) ?_
  refine S_move rfl rfl rfl (v := (.bool true)) (rfl) ?_
  refine S_move rfl rfl rfl (v := (.pointer (some ⟨kb, 0, none⟩))) (rfl) ?_
  refine S_call en_passayerlaw01_Book_lookRow rfl rfl rfl (vs := [(.pointer (some ⟨kb, 0, none⟩))]) (rfl) (lookRow_e _ kb no vI vR HB.blk) ?_
  rintro _ _ ⟨rfl, rfl⟩
  refine S_pick rfl rfl rfl rfl rfl (b := true) (rfl) (v := (.bool true)) (rfl) ?_
  refine S_move rfl rfl rfl (v := (.bool true)) (rfl) ?_
  refine S_move rfl rfl rfl (v := (.pointer (some ⟨kb, 0, none⟩))) (rfl) ?_
  refine S_call en_passayerlaw01_Book_lookNode rfl rfl rfl (vs := [(.pointer (some ⟨kb, 0, none⟩))]) (rfl) (lookNode_e _ kb no vI vR HB.blk) ?_
  rintro _ _ ⟨rfl, rfl⟩
  refine S_pick rfl rfl rfl rfl rfl (b := true) (rfl) (v := (.bool true)) (rfl) ?_
  refine S_move rfl rfl rfl (v := (.bool true)) (rfl) ?_
  refine S_move rfl rfl rfl (v := (.pointer (some ⟨kb, 0, none⟩))) (rfl) ?_
  refine S_call en_passayerlaw01_Book_lookJob rfl rfl rfl (vs := [(.pointer (some ⟨kb, 0, none⟩))]) (rfl) (lookJob_e _ kb no vI vR HB.blk) ?_
  rintro _ _ ⟨rfl, rfl⟩
  refine S_pick rfl rfl rfl rfl rfl (b := true) (rfl) (v := (.bool true)) (rfl) ?_
  refine S_assign rfl rfl rfl (v := (.bool true)) (rfl) ?_
  refine OPS.nil ?_
  change WP _ _ _ _ _ _
  refine W_ret ?_
  change Fin' _ _ _ _ _ _
  refine End1 (n := ⟨97, []⟩) (t := 2) rfl (by decide) (v := (.bool true)) (rfl) ?_
  exact ⟨E, rfl⟩


theorem apart_c (w0 : World) {B : Nat} (kb N : Nat) (O : List OV) (h : BK B kb w0 N O) : Ret Tryz.prog 27 [.pointer (some ⟨kb, 0, none⟩)] w0 (fun r w1 => Below B w0 w1 ∧ r = .bool true) := by
  obtain ⟨no, vI, vR, I, R, h1, h2, h3, h4, h5, h6⟩ := h
  exact apart_b w0 kb no vI vR I R O h1 (fun h hh => h5 h hh) (fun h hh => h6 h hh) h2.2.2
/-- A new book. -/
theorem BK.start {B : Nat} {w : World} {kb : Nat} {O : List OV} (hb : Blk w kb (bookCs 0 (.slice none 0 0) (.slice none 0 0)) 45) (h : OWN B w O) (hk : ∀ o ∈ O, bk o.v ≠ some kb) (hB : B ≤ kb) : BK B kb w 0 O := by
  have hn : bk (.slice none 0 0) = none := rfl
  refine ⟨0, .slice none 0 0, .slice none 0 0, [], [], ⟨hb, ?_, fun o ho => ?_⟩, ⟨by omega, by omega, hB⟩, Nat.le_refl _, Nat.le_refl _, fun _ h => (by cases h), fun _ h => (by cases h)⟩
  · exact (h.add (o := ovH (.slice none 0 0) []) (Row.nil _ _ _ _) (fun a ha => Dj.of_none hn)).add (o := ovI (.slice none 0 0) []) (Row.nil _ _ _ _) (fun a ha => Dj.of_none hn)
  · rcases List.mem_cons.1 ho with rfl | ho
    · show bk (.slice none 0 0) ≠ _; rw [hn]; simp
    · rcases List.mem_cons.1 ho with rfl | ho
      · show bk (.slice none 0 0) ≠ _; rw [hn]; simp
      · exact hk o (by simpa using ho)

end Go.Proofs.YtccmicegihlfbaaGreatDoor
