/- A book is told of a list. -/
import Derived.Test.YtccmicegihlfbaaGreatDoorOwn
import Derived.Test.YtccmicegihlfbaaGreatDoorTy
set_option linter.unusedVariables false
set_option linter.unusedSimpArgs false
namespace Go.Proofs.YtccmicegihlfbaaGreatDoor
open Go.RowKit

set_option maxHeartbeats 400000 in
theorem keepInt32_c (w0 : World) {B : Nat} (kb : Nat) (no : Int) (vI vR : Value) (I R : List HE) (A : Option Addr) (m c : Nat) (e : TypeId) (sz : Nat) (xs : List Value) (O : List OV) (h : BOOK B kb w0 no vI vR I R (⟨.slice A m c, e, sz, m, xs⟩ :: O)) (hn : 0 ≤ no ∧ no < 1000000) (hI : I.length < 1000000) (hB : B ≤ kb) :
    Ret Tryz.prog 172 [(.pointer (some ⟨kb, 0, none⟩)), (.slice A m c)] w0 (fun r w1 => Below B w0 w1 ∧ ∃ v', BOOK B kb w1 (no + 1) v' vR (I ++ [⟨.slice A m c, .slice none 0 0, no + 1, ⟨.slice A m c, e, sz, m, xs⟩⟩]) R O) := by
  have E := Below.refl B w0
  obtain ⟨b0, OW, hkb⟩ := h
  have hB0 : B ≤ w0.heap.size := by have := b0.lt; omega
  replace b0 : Blk w0 kb [(.int .i64 no), (.slice none 0 0), vI, (.slice none 0 0), (.slice none 0 0), (.slice none 0 0), (.slice none 0 0), (.slice none 0 0), vR, (.slice none 0 0), (.slice none 0 0), (.slice none 0 0), (.slice none 0 0)] 45 := b0
  refine Ret_of (n := 26) Tryz.func172 rfl rfl (Nat.le_of_ble_eq_true rfl) ?_
  refine W_seq ?_
  refine W_region rfl ?_
  refine S_move rfl rfl rfl (v := (.pointer (some ⟨kb, 0, none⟩))) (rfl) ?_
  refine S_nil rfl rfl rfl (rfl) ?_
  refine S_field ft_assayerlaw01_Book_0 rfl rfl rfl (g := kb) (o := 0) (rfl) (o' := 0) rfl ?_
  refine S_load rfl rfl rfl (rfl) (LD.blk1 ti_int b0 (v := (.int .i64 no)) rfl) ?_
  refine S_add64 rfl rfl rfl rfl (rfl) (rfl) (by omega) ?_
  refine S_nil rfl rfl rfl (rfl) ?_
  refine S_field ft_assayerlaw01_Book_0 rfl rfl rfl (g := kb) (o := 0) (rfl) (o' := 0) rfl ?_
  refine S_store ti_int rfl rfl rfl rfl (g := kb) (o := 0) (rfl) (v := (.int .i64 (no + 1))) (rfl) (vs := [(.int .i64 (no + 1))]) rfl rfl (by simp [Value.oneCell']) b0 (by simp) (cs' := [(.int .i64 (no + 1)), (.slice none 0 0), vI, (.slice none 0 0), (.slice none 0 0), (.slice none 0 0), (.slice none 0 0), (.slice none 0 0), vR, (.slice none 0 0), (.slice none 0 0), (.slice none 0 0), (.slice none 0 0)]) rfl ?_
  intro w1 hU1 b0
  have E := Below.stepU E hU1 (by omega)
  have OW := OW.upd hU1 hkb
  have hz1 := hU1.size
  refine OPS.nil ?_
  change WP _ _ _ _ _ _
  refine D_begin mixed_ rfl rfl (fun w_ => w_.cell? ⟨kb, 0, none⟩ = some (.int .i64 (no + 1))) ?_
  intro w2 hB2 hz_2
  have hz2 := hB2.size
  have E := Below.step E hB2 hB0
  have hl_b0 := b0.lt
  have b0 := b0.below hB2
  have OW := OW.below hB2
  have hS_ := b0.cell 0
  have E_S := E
  have b0_S := b0
  have OW_S := OW
  refine D_move (i := 0) (by kernel_rfl) (by kernel_rfl) (by kernel_rfl) (listed2 := #[true, false, false, false, false, false, false, false, false, false, false, false, false, false, false, false]) (by kernel_rfl) rfl rfl rfl (v := (.pointer (some ⟨kb, 0, none⟩))) (rfl) hS_ ?_
  refine D_move (i := 1) (by kernel_rfl) (by kernel_rfl) (by kernel_rfl) (listed2 := #[true, true, false, false, false, false, false, false, false, false, false, false, false, false, false, false]) (by kernel_rfl) rfl rfl rfl (v := (.pointer (some ⟨kb, 0, none⟩))) (rfl) hS_ ?_
  refine D_nil (i := 2) (by kernel_rfl) (by kernel_rfl) (by kernel_rfl) (listed2 := #[true, true, true, false, false, false, false, false, false, false, false, false, false, false, false, false]) (by kernel_rfl) rfl rfl rfl (rfl) hS_ ?_
  refine D_field ft_assayerlaw01_Book_2 (i := 3) (by kernel_rfl) (by kernel_rfl) (by kernel_rfl) (listed2 := #[true, true, true, true, false, false, false, false, false, false, false, false, false, false, false, false]) (by kernel_rfl) rfl rfl rfl (g := kb) (o := 0) (rfl) (o' := 2) rfl hS_ ?_
  refine D_move (i := 5) (by kernel_rfl) (by kernel_rfl) (by kernel_rfl) (listed2 := #[true, true, true, true, false, true, false, false, false, false, false, false, false, false, false, false]) (by kernel_rfl) rfl rfl rfl (v := (.slice A m c)) (rfl) hS_ ?_
  refine D_move (i := 6) (by kernel_rfl) (by kernel_rfl) (by kernel_rfl) (listed2 := #[true, true, true, true, false, true, true, false, false, false, false, false, false, false, false, false]) (by kernel_rfl) rfl rfl rfl (v := (.pointer (some ⟨kb, 0, none⟩))) (rfl) hS_ ?_
  refine D_nil (i := 7) (by kernel_rfl) (by kernel_rfl) (by kernel_rfl) (listed2 := #[true, true, true, true, false, true, true, true, false, false, false, false, false, false, false, false]) (by kernel_rfl) rfl rfl rfl (rfl) hS_ ?_
  refine D_field ft_assayerlaw01_Book_0 (i := 8) (by kernel_rfl) (by kernel_rfl) (by kernel_rfl) (listed2 := #[true, true, true, true, false, true, true, true, true, false, false, false, false, false, false, false]) (by kernel_rfl) rfl rfl rfl (g := kb) (o := 0) (rfl) (o' := 0) rfl hS_ ?_
  refine D_load (i := 9) (by kernel_rfl) (by kernel_rfl) (by kernel_rfl) (listed2 := #[true, true, true, true, false, true, true, true, true, true, false, false, false, false, false, false]) (by kernel_rfl) rfl rfl rfl (rfl) (v := (.int .i64 (no + 1))) (fun _ hS2 => LD.one ti_int hS2) hS_ ?_
  refine D_build (i := 10) (by kernel_rfl) (by kernel_rfl) (by kernel_rfl) (listed2 := #[true, true, true, true, false, true, true, true, true, true, true, false, false, false, false, false]) (by kernel_rfl) rfl rfl rfl (cs := [(.slice A m c), .slice none 0 0, (.int .i64 (no + 1))]) (by kernel_rfl) hS_ ?_
  refine D_two (i := 4) (j := 11) (by kernel_rfl) (listed2 := #[true, true, true, true, true, true, true, true, true, true, true, false, false, false, false, false]) (listed3 := #[true, true, true, true, false, true, true, true, true, true, true, true, false, false, false, false]) (by kernel_rfl) (by kernel_rfl) ?_ ?_
  · skip
    refine S_load rfl rfl rfl (rfl) (LD.blk1 ti_Lassayerlaw01_heldInt32 b0 (v := vI) rfl) ?_
    have hS_ := b0.cell 0
    refine OPS.nil ⟨hS_, ?_⟩
    refine D_only (i := 11) (by kernel_rfl) (listed2 := #[true, true, true, true, true, true, true, true, true, true, true, true, false, false, false, false]) (by kernel_rfl) ?_
    refine S_lit Tryz.underlying33 ti_assayerlaw01_heldInt32 rfl rfl (by decide) (by decide) rfl (vs := [(.agg #[(.slice A m c), .slice none 0 0, (.int .i64 (no + 1))])]) (cs := [(.slice A m c), .slice none 0 0, (.int .i64 (no + 1))]) rfl rfl (by simp [Value.cells]) rfl ?_
    intro g3 w3 hg3 hs3 hB3 b3
    have hz3 := hB3.size
    have E := Below.step E hB3 hB0
    have hl_b0 := b0.lt
    have b0 := b0.below hB3
    have OW := OW.below hB3
    have hS_ := b0.cell 0
    refine OPS.nil ⟨hS_, ?_⟩
    refine D_only (i := 12) (by kernel_rfl) (listed2 := #[true, true, true, true, true, true, true, true, true, true, true, true, true, false, false, false]) (by kernel_rfl) ?_
    have HB : BOOK B kb w3 (no + 1) vI vR I R (⟨.slice A m c, e, sz, m, xs⟩ :: O) := ⟨b0, OW, hkb⟩
    have hlk := b0.lt
    refine S_appendR Tryz.underlying33 ti_assayerlaw01_heldInt32 rfl rfl rfl rfl rfl (rfl) (rfl) HB.rowI (B := B) (m := I.length) (k := 1) (c := 1) (by decide) (news := [.slice A m c, .slice none 0 0, .int .i64 (no + 1)]) rfl (fun j u hj => by rw [add_plain, b3.cell, Nat.zero_add]; exact hj) (by simp [Value.oneCell']) (by omega) (by omega) (by omega) ?_
    intro v2 w4 hr hg hb _
    obtain ⟨A', c', rfl⟩ := hr.len
    have E := Below.grownE E hg (by omega) (fun g hg => (HB.rowI.bkB g hg).1)
    obtain ⟨OW, hkb, b0⟩ := HB.keepI (o := ⟨.slice A m c, e, sz, m, xs⟩) hr hg hb
    replace b0 : Blk w4 kb [(.int .i64 (no + 1)), (.slice none 0 0), vI, (.slice none 0 0), (.slice none 0 0), (.slice none 0 0), (.slice none 0 0), (.slice none 0 0), vR, (.slice none 0 0), (.slice none 0 0), (.slice none 0 0), (.slice none 0 0)] 45 := b0
    have hS_ := b0.cell 0
    refine OPS.nil ⟨hS_, ?_⟩
    refine D_nil (i := 13) (by kernel_rfl) (by kernel_rfl) (by kernel_rfl) (listed2 := #[true, true, true, true, true, true, true, true, true, true, true, true, true, true, false, false]) (by kernel_rfl) rfl rfl rfl (rfl) hS_ ?_
    refine D_field ft_assayerlaw01_Book_2 (i := 14) (by kernel_rfl) (by kernel_rfl) (by kernel_rfl) (listed2 := #[true, true, true, true, true, true, true, true, true, true, true, true, true, true, true, false]) (by kernel_rfl) rfl rfl rfl (g := kb) (o := 0) (rfl) (o' := 2) rfl hS_ ?_
    refine D_only (i := 15) (by kernel_rfl) (listed2 := #[true, true, true, true, true, true, true, true, true, true, true, true, true, true, true, true]) (by kernel_rfl) ?_
    refine S_store ti_Lassayerlaw01_heldInt32 rfl rfl rfl rfl (g := kb) (o := 2) (rfl) (v := (.slice A' (I.length + 1) c')) (rfl) (vs := [(.slice A' (I.length + 1) c')]) rfl rfl (by simp [Value.oneCell']) b0 (by simp) (cs' := [(.int .i64 (no + 1)), (.slice none 0 0), (.slice A' (I.length + 1) c'), (.slice none 0 0), (.slice none 0 0), (.slice none 0 0), (.slice none 0 0), (.slice none 0 0), vR, (.slice none 0 0), (.slice none 0 0), (.slice none 0 0), (.slice none 0 0)]) rfl ?_
    intro w5 hU5 b0
    have E := Below.stepU E hU5 (by omega)
    have OW := OW.upd hU5 hkb
    have hz5 := hU5.size
    have hS_ := b0.cell 0
    refine OPS.nil ⟨hS_, ?_⟩
    refine D_done (by kernel_rfl) ?_
    change Fin' _ _ _ _ _ _
    exact End0 rfl ⟨E, _, b0, OW, hkb⟩
  · skip
    refine S_lit Tryz.underlying33 ti_assayerlaw01_heldInt32 rfl rfl (by decide) (by decide) rfl (vs := [(.agg #[(.slice A m c), .slice none 0 0, (.int .i64 (no + 1))])]) (cs := [(.slice A m c), .slice none 0 0, (.int .i64 (no + 1))]) rfl rfl (by simp [Value.cells]) rfl ?_
    intro g6 w6 hg6 hs6 hB6 b6
    have hz6 := hB6.size
    have E := Below.step E hB6 hB0
    have hl_b0 := b0.lt
    have b0 := b0.below hB6
    have OW := OW.below hB6
    have hS_ := b0.cell 0
    refine OPS.nil ⟨hS_, ?_⟩
    refine D_only (i := 4) (by kernel_rfl) (listed2 := #[true, true, true, true, true, true, true, true, true, true, true, true, false, false, false, false]) (by kernel_rfl) ?_
    refine S_load rfl rfl rfl (rfl) (LD.blk1 ti_Lassayerlaw01_heldInt32 b0 (v := vI) rfl) ?_
    have hS_ := b0.cell 0
    refine OPS.nil ⟨hS_, ?_⟩
    refine D_only (i := 12) (by kernel_rfl) (listed2 := #[true, true, true, true, true, true, true, true, true, true, true, true, true, false, false, false]) (by kernel_rfl) ?_
    have HB : BOOK B kb w6 (no + 1) vI vR I R (⟨.slice A m c, e, sz, m, xs⟩ :: O) := ⟨b0, OW, hkb⟩
    have hlk := b0.lt
    refine S_appendR Tryz.underlying33 ti_assayerlaw01_heldInt32 rfl rfl rfl rfl rfl (rfl) (rfl) HB.rowI (B := B) (m := I.length) (k := 1) (c := 1) (by decide) (news := [.slice A m c, .slice none 0 0, .int .i64 (no + 1)]) rfl (fun j u hj => by rw [add_plain, b6.cell, Nat.zero_add]; exact hj) (by simp [Value.oneCell']) (by omega) (by omega) (by omega) ?_
    intro v2 w7 hr hg hb _
    obtain ⟨A', c', rfl⟩ := hr.len
    have E := Below.grownE E hg (by omega) (fun g hg => (HB.rowI.bkB g hg).1)
    obtain ⟨OW, hkb, b0⟩ := HB.keepI (o := ⟨.slice A m c, e, sz, m, xs⟩) hr hg hb
    replace b0 : Blk w7 kb [(.int .i64 (no + 1)), (.slice none 0 0), vI, (.slice none 0 0), (.slice none 0 0), (.slice none 0 0), (.slice none 0 0), (.slice none 0 0), vR, (.slice none 0 0), (.slice none 0 0), (.slice none 0 0), (.slice none 0 0)] 45 := b0
    have hS_ := b0.cell 0
    refine OPS.nil ⟨hS_, ?_⟩
    refine D_nil (i := 13) (by kernel_rfl) (by kernel_rfl) (by kernel_rfl) (listed2 := #[true, true, true, true, true, true, true, true, true, true, true, true, true, true, false, false]) (by kernel_rfl) rfl rfl rfl (rfl) hS_ ?_
    refine D_field ft_assayerlaw01_Book_2 (i := 14) (by kernel_rfl) (by kernel_rfl) (by kernel_rfl) (listed2 := #[true, true, true, true, true, true, true, true, true, true, true, true, true, true, true, false]) (by kernel_rfl) rfl rfl rfl (g := kb) (o := 0) (rfl) (o' := 2) rfl hS_ ?_
    refine D_only (i := 15) (by kernel_rfl) (listed2 := #[true, true, true, true, true, true, true, true, true, true, true, true, true, true, true, true]) (by kernel_rfl) ?_
    refine S_store ti_Lassayerlaw01_heldInt32 rfl rfl rfl rfl (g := kb) (o := 2) (rfl) (v := (.slice A' (I.length + 1) c')) (rfl) (vs := [(.slice A' (I.length + 1) c')]) rfl rfl (by simp [Value.oneCell']) b0 (by simp) (cs' := [(.int .i64 (no + 1)), (.slice none 0 0), (.slice A' (I.length + 1) c'), (.slice none 0 0), (.slice none 0 0), (.slice none 0 0), (.slice none 0 0), (.slice none 0 0), vR, (.slice none 0 0), (.slice none 0 0), (.slice none 0 0), (.slice none 0 0)]) rfl ?_
    intro w8 hU8 b0
    have E := Below.stepU E hU8 (by omega)
    have OW := OW.upd hU8 hkb
    have hz8 := hU8.size
    have hS_ := b0.cell 0
    refine OPS.nil ⟨hS_, ?_⟩
    refine D_done (by kernel_rfl) ?_
    change Fin' _ _ _ _ _ _
    exact End0 rfl ⟨E, _, b0, OW, hkb⟩

set_option maxHeartbeats 400000 in
theorem keepRat_c (w0 : World) {B : Nat} (kb : Nat) (no : Int) (vI vR : Value) (I R : List HE) (A : Option Addr) (m c : Nat) (e : TypeId) (sz : Nat) (xs : List Value) (O : List OV) (h : BOOK B kb w0 no vI vR I R (⟨.slice A m c, e, sz, m, xs⟩ :: O)) (hn : 0 ≤ no ∧ no < 1000000) (hI : R.length < 1000000) (hB : B ≤ kb) :
    Ret Tryz.prog 193 [(.pointer (some ⟨kb, 0, none⟩)), (.slice A m c)] w0 (fun r w1 => Below B w0 w1 ∧ ∃ v', BOOK B kb w1 (no + 1) vI v' I (R ++ [⟨.slice A m c, .slice none 0 0, no + 1, ⟨.slice A m c, e, sz, m, xs⟩⟩]) O) := by
  have E := Below.refl B w0
  obtain ⟨b0, OW, hkb⟩ := h
  have hB0 : B ≤ w0.heap.size := by have := b0.lt; omega
  replace b0 : Blk w0 kb [(.int .i64 no), (.slice none 0 0), vI, (.slice none 0 0), (.slice none 0 0), (.slice none 0 0), (.slice none 0 0), (.slice none 0 0), vR, (.slice none 0 0), (.slice none 0 0), (.slice none 0 0), (.slice none 0 0)] 45 := b0
  refine Ret_of (n := 26) Tryz.func193 rfl rfl (Nat.le_of_ble_eq_true rfl) ?_
  refine W_seq ?_
  refine W_region rfl ?_
  refine S_move rfl rfl rfl (v := (.pointer (some ⟨kb, 0, none⟩))) (rfl) ?_
  refine S_nil rfl rfl rfl (rfl) ?_
  refine S_field ft_assayerlaw01_Book_0 rfl rfl rfl (g := kb) (o := 0) (rfl) (o' := 0) rfl ?_
  refine S_load rfl rfl rfl (rfl) (LD.blk1 ti_int b0 (v := (.int .i64 no)) rfl) ?_
  refine S_add64 rfl rfl rfl rfl (rfl) (rfl) (by omega) ?_
  refine S_nil rfl rfl rfl (rfl) ?_
  refine S_field ft_assayerlaw01_Book_0 rfl rfl rfl (g := kb) (o := 0) (rfl) (o' := 0) rfl ?_
  refine S_store ti_int rfl rfl rfl rfl (g := kb) (o := 0) (rfl) (v := (.int .i64 (no + 1))) (rfl) (vs := [(.int .i64 (no + 1))]) rfl rfl (by simp [Value.oneCell']) b0 (by simp) (cs' := [(.int .i64 (no + 1)), (.slice none 0 0), vI, (.slice none 0 0), (.slice none 0 0), (.slice none 0 0), (.slice none 0 0), (.slice none 0 0), vR, (.slice none 0 0), (.slice none 0 0), (.slice none 0 0), (.slice none 0 0)]) rfl ?_
  intro w1 hU1 b0
  have E := Below.stepU E hU1 (by omega)
  have OW := OW.upd hU1 hkb
  have hz1 := hU1.size
  refine OPS.nil ?_
  change WP _ _ _ _ _ _
  refine D_begin mixed_ rfl rfl (fun w_ => w_.cell? ⟨kb, 0, none⟩ = some (.int .i64 (no + 1))) ?_
  intro w2 hB2 hz_2
  have hz2 := hB2.size
  have E := Below.step E hB2 hB0
  have hl_b0 := b0.lt
  have b0 := b0.below hB2
  have OW := OW.below hB2
  have hS_ := b0.cell 0
  have E_S := E
  have b0_S := b0
  have OW_S := OW
  refine D_move (i := 0) (by kernel_rfl) (by kernel_rfl) (by kernel_rfl) (listed2 := #[true, false, false, false, false, false, false, false, false, false, false, false, false, false, false, false]) (by kernel_rfl) rfl rfl rfl (v := (.pointer (some ⟨kb, 0, none⟩))) (rfl) hS_ ?_
  refine D_move (i := 1) (by kernel_rfl) (by kernel_rfl) (by kernel_rfl) (listed2 := #[true, true, false, false, false, false, false, false, false, false, false, false, false, false, false, false]) (by kernel_rfl) rfl rfl rfl (v := (.pointer (some ⟨kb, 0, none⟩))) (rfl) hS_ ?_
  refine D_nil (i := 2) (by kernel_rfl) (by kernel_rfl) (by kernel_rfl) (listed2 := #[true, true, true, false, false, false, false, false, false, false, false, false, false, false, false, false]) (by kernel_rfl) rfl rfl rfl (rfl) hS_ ?_
  refine D_field ft_assayerlaw01_Book_8 (i := 3) (by kernel_rfl) (by kernel_rfl) (by kernel_rfl) (listed2 := #[true, true, true, true, false, false, false, false, false, false, false, false, false, false, false, false]) (by kernel_rfl) rfl rfl rfl (g := kb) (o := 0) (rfl) (o' := 8) rfl hS_ ?_
  refine D_move (i := 5) (by kernel_rfl) (by kernel_rfl) (by kernel_rfl) (listed2 := #[true, true, true, true, false, true, false, false, false, false, false, false, false, false, false, false]) (by kernel_rfl) rfl rfl rfl (v := (.slice A m c)) (rfl) hS_ ?_
  refine D_move (i := 6) (by kernel_rfl) (by kernel_rfl) (by kernel_rfl) (listed2 := #[true, true, true, true, false, true, true, false, false, false, false, false, false, false, false, false]) (by kernel_rfl) rfl rfl rfl (v := (.pointer (some ⟨kb, 0, none⟩))) (rfl) hS_ ?_
  refine D_nil (i := 7) (by kernel_rfl) (by kernel_rfl) (by kernel_rfl) (listed2 := #[true, true, true, true, false, true, true, true, false, false, false, false, false, false, false, false]) (by kernel_rfl) rfl rfl rfl (rfl) hS_ ?_
  refine D_field ft_assayerlaw01_Book_0 (i := 8) (by kernel_rfl) (by kernel_rfl) (by kernel_rfl) (listed2 := #[true, true, true, true, false, true, true, true, true, false, false, false, false, false, false, false]) (by kernel_rfl) rfl rfl rfl (g := kb) (o := 0) (rfl) (o' := 0) rfl hS_ ?_
  refine D_load (i := 9) (by kernel_rfl) (by kernel_rfl) (by kernel_rfl) (listed2 := #[true, true, true, true, false, true, true, true, true, true, false, false, false, false, false, false]) (by kernel_rfl) rfl rfl rfl (rfl) (v := (.int .i64 (no + 1))) (fun _ hS2 => LD.one ti_int hS2) hS_ ?_
  refine D_build (i := 10) (by kernel_rfl) (by kernel_rfl) (by kernel_rfl) (listed2 := #[true, true, true, true, false, true, true, true, true, true, true, false, false, false, false, false]) (by kernel_rfl) rfl rfl rfl (cs := [(.slice A m c), .slice none 0 0, (.int .i64 (no + 1))]) (by kernel_rfl) hS_ ?_
  refine D_two (i := 4) (j := 11) (by kernel_rfl) (listed2 := #[true, true, true, true, true, true, true, true, true, true, true, false, false, false, false, false]) (listed3 := #[true, true, true, true, false, true, true, true, true, true, true, true, false, false, false, false]) (by kernel_rfl) (by kernel_rfl) ?_ ?_
  · skip
    refine S_load rfl rfl rfl (rfl) (LD.blk1 ti_Lassayerlaw01_heldRat b0 (v := vR) rfl) ?_
    have hS_ := b0.cell 0
    refine OPS.nil ⟨hS_, ?_⟩
    refine D_only (i := 11) (by kernel_rfl) (listed2 := #[true, true, true, true, true, true, true, true, true, true, true, true, false, false, false, false]) (by kernel_rfl) ?_
    refine S_lit Tryz.underlying39 ti_assayerlaw01_heldRat rfl rfl (by decide) (by decide) rfl (vs := [(.agg #[(.slice A m c), .slice none 0 0, (.int .i64 (no + 1))])]) (cs := [(.slice A m c), .slice none 0 0, (.int .i64 (no + 1))]) rfl rfl (by simp [Value.cells]) rfl ?_
    intro g3 w3 hg3 hs3 hB3 b3
    have hz3 := hB3.size
    have E := Below.step E hB3 hB0
    have hl_b0 := b0.lt
    have b0 := b0.below hB3
    have OW := OW.below hB3
    have hS_ := b0.cell 0
    refine OPS.nil ⟨hS_, ?_⟩
    refine D_only (i := 12) (by kernel_rfl) (listed2 := #[true, true, true, true, true, true, true, true, true, true, true, true, true, false, false, false]) (by kernel_rfl) ?_
    have HB : BOOK B kb w3 (no + 1) vI vR I R (⟨.slice A m c, e, sz, m, xs⟩ :: O) := ⟨b0, OW, hkb⟩
    have hlk := b0.lt
    refine S_appendR Tryz.underlying39 ti_assayerlaw01_heldRat rfl rfl rfl rfl rfl (rfl) (rfl) HB.rowH (B := B) (m := R.length) (k := 1) (c := 1) (by decide) (news := [.slice A m c, .slice none 0 0, .int .i64 (no + 1)]) rfl (fun j u hj => by rw [add_plain, b3.cell, Nat.zero_add]; exact hj) (by simp [Value.oneCell']) (by omega) (by omega) (by omega) ?_
    intro v2 w4 hr hg hb _
    obtain ⟨A', c', rfl⟩ := hr.len
    have E := Below.grownE E hg (by omega) (fun g hg => (HB.rowH.bkB g hg).1)
    obtain ⟨OW, hkb, b0⟩ := HB.keepH (o := ⟨.slice A m c, e, sz, m, xs⟩) hr hg hb
    replace b0 : Blk w4 kb [(.int .i64 (no + 1)), (.slice none 0 0), vI, (.slice none 0 0), (.slice none 0 0), (.slice none 0 0), (.slice none 0 0), (.slice none 0 0), vR, (.slice none 0 0), (.slice none 0 0), (.slice none 0 0), (.slice none 0 0)] 45 := b0
    have hS_ := b0.cell 0
    refine OPS.nil ⟨hS_, ?_⟩
    refine D_nil (i := 13) (by kernel_rfl) (by kernel_rfl) (by kernel_rfl) (listed2 := #[true, true, true, true, true, true, true, true, true, true, true, true, true, true, false, false]) (by kernel_rfl) rfl rfl rfl (rfl) hS_ ?_
    refine D_field ft_assayerlaw01_Book_8 (i := 14) (by kernel_rfl) (by kernel_rfl) (by kernel_rfl) (listed2 := #[true, true, true, true, true, true, true, true, true, true, true, true, true, true, true, false]) (by kernel_rfl) rfl rfl rfl (g := kb) (o := 0) (rfl) (o' := 8) rfl hS_ ?_
    refine D_only (i := 15) (by kernel_rfl) (listed2 := #[true, true, true, true, true, true, true, true, true, true, true, true, true, true, true, true]) (by kernel_rfl) ?_
    refine S_store ti_Lassayerlaw01_heldRat rfl rfl rfl rfl (g := kb) (o := 8) (rfl) (v := (.slice A' (R.length + 1) c')) (rfl) (vs := [(.slice A' (R.length + 1) c')]) rfl rfl (by simp [Value.oneCell']) b0 (by simp) (cs' := [(.int .i64 (no + 1)), (.slice none 0 0), vI, (.slice none 0 0), (.slice none 0 0), (.slice none 0 0), (.slice none 0 0), (.slice none 0 0), (.slice A' (R.length + 1) c'), (.slice none 0 0), (.slice none 0 0), (.slice none 0 0), (.slice none 0 0)]) rfl ?_
    intro w5 hU5 b0
    have E := Below.stepU E hU5 (by omega)
    have OW := OW.upd hU5 hkb
    have hz5 := hU5.size
    have hS_ := b0.cell 0
    refine OPS.nil ⟨hS_, ?_⟩
    refine D_done (by kernel_rfl) ?_
    change Fin' _ _ _ _ _ _
    exact End0 rfl ⟨E, _, b0, OW, hkb⟩
  · skip
    refine S_lit Tryz.underlying39 ti_assayerlaw01_heldRat rfl rfl (by decide) (by decide) rfl (vs := [(.agg #[(.slice A m c), .slice none 0 0, (.int .i64 (no + 1))])]) (cs := [(.slice A m c), .slice none 0 0, (.int .i64 (no + 1))]) rfl rfl (by simp [Value.cells]) rfl ?_
    intro g6 w6 hg6 hs6 hB6 b6
    have hz6 := hB6.size
    have E := Below.step E hB6 hB0
    have hl_b0 := b0.lt
    have b0 := b0.below hB6
    have OW := OW.below hB6
    have hS_ := b0.cell 0
    refine OPS.nil ⟨hS_, ?_⟩
    refine D_only (i := 4) (by kernel_rfl) (listed2 := #[true, true, true, true, true, true, true, true, true, true, true, true, false, false, false, false]) (by kernel_rfl) ?_
    refine S_load rfl rfl rfl (rfl) (LD.blk1 ti_Lassayerlaw01_heldRat b0 (v := vR) rfl) ?_
    have hS_ := b0.cell 0
    refine OPS.nil ⟨hS_, ?_⟩
    refine D_only (i := 12) (by kernel_rfl) (listed2 := #[true, true, true, true, true, true, true, true, true, true, true, true, true, false, false, false]) (by kernel_rfl) ?_
    have HB : BOOK B kb w6 (no + 1) vI vR I R (⟨.slice A m c, e, sz, m, xs⟩ :: O) := ⟨b0, OW, hkb⟩
    have hlk := b0.lt
    refine S_appendR Tryz.underlying39 ti_assayerlaw01_heldRat rfl rfl rfl rfl rfl (rfl) (rfl) HB.rowH (B := B) (m := R.length) (k := 1) (c := 1) (by decide) (news := [.slice A m c, .slice none 0 0, .int .i64 (no + 1)]) rfl (fun j u hj => by rw [add_plain, b6.cell, Nat.zero_add]; exact hj) (by simp [Value.oneCell']) (by omega) (by omega) (by omega) ?_
    intro v2 w7 hr hg hb _
    obtain ⟨A', c', rfl⟩ := hr.len
    have E := Below.grownE E hg (by omega) (fun g hg => (HB.rowH.bkB g hg).1)
    obtain ⟨OW, hkb, b0⟩ := HB.keepH (o := ⟨.slice A m c, e, sz, m, xs⟩) hr hg hb
    replace b0 : Blk w7 kb [(.int .i64 (no + 1)), (.slice none 0 0), vI, (.slice none 0 0), (.slice none 0 0), (.slice none 0 0), (.slice none 0 0), (.slice none 0 0), vR, (.slice none 0 0), (.slice none 0 0), (.slice none 0 0), (.slice none 0 0)] 45 := b0
    have hS_ := b0.cell 0
    refine OPS.nil ⟨hS_, ?_⟩
    refine D_nil (i := 13) (by kernel_rfl) (by kernel_rfl) (by kernel_rfl) (listed2 := #[true, true, true, true, true, true, true, true, true, true, true, true, true, true, false, false]) (by kernel_rfl) rfl rfl rfl (rfl) hS_ ?_
    refine D_field ft_assayerlaw01_Book_8 (i := 14) (by kernel_rfl) (by kernel_rfl) (by kernel_rfl) (listed2 := #[true, true, true, true, true, true, true, true, true, true, true, true, true, true, true, false]) (by kernel_rfl) rfl rfl rfl (g := kb) (o := 0) (rfl) (o' := 8) rfl hS_ ?_
    refine D_only (i := 15) (by kernel_rfl) (listed2 := #[true, true, true, true, true, true, true, true, true, true, true, true, true, true, true, true]) (by kernel_rfl) ?_
    refine S_store ti_Lassayerlaw01_heldRat rfl rfl rfl rfl (g := kb) (o := 8) (rfl) (v := (.slice A' (R.length + 1) c')) (rfl) (vs := [(.slice A' (R.length + 1) c')]) rfl rfl (by simp [Value.oneCell']) b0 (by simp) (cs' := [(.int .i64 (no + 1)), (.slice none 0 0), vI, (.slice none 0 0), (.slice none 0 0), (.slice none 0 0), (.slice none 0 0), (.slice none 0 0), (.slice A' (R.length + 1) c'), (.slice none 0 0), (.slice none 0 0), (.slice none 0 0), (.slice none 0 0)]) rfl ?_
    intro w8 hU8 b0
    have E := Below.stepU E hU8 (by omega)
    have OW := OW.upd hU8 hkb
    have hz8 := hU8.size
    have hS_ := b0.cell 0
    refine OPS.nil ⟨hS_, ?_⟩
    refine D_done (by kernel_rfl) ?_
    change Fin' _ _ _ _ _ _
    exact End0 rfl ⟨E, _, b0, OW, hkb⟩


/-! ### The book, told all in all -/
def KeptI (h : HE) : Prop := h.l = h.o.v ∧ h.long = .slice none 0 0 ∧ (0 ≤ h.no ∧ h.no ≤ 1000000) ∧ h.o.e = 106 ∧ h.o.sz = 1 ∧ h.o.m ≤ 1000000000
def KeptR (h : HE) : Prop := h.l = h.o.v ∧ h.long = .slice none 0 0 ∧ (0 ≤ h.no ∧ h.no ≤ 1000000) ∧ h.o.e = 70 ∧ h.o.sz = 3 ∧ h.o.m ≤ 1000000000
/-- A book that holds N lists at most; O is held besides. -/
def BK (B kb : Nat) (w : World) (N : Nat) (O : List OV) : Prop :=
  ∃ no vI vR I R, BOOK B kb w no vI vR I R O ∧ (0 ≤ no ∧ no ≤ N ∧ B ≤ kb) ∧ I.length ≤ N ∧ R.length ≤ N ∧ (∀ h ∈ I, KeptI h) ∧ (∀ h ∈ R, KeptR h)
theorem BK.below {B kb : Nat} {w w' : World} {N : Nat} {O : List OV} (h : BK B kb w N O) (hb : Below w.heap.size w w') : BK B kb w' N O := by
  obtain ⟨no, vI, vR, I, R, h1, h2⟩ := h
  exact ⟨no, vI, vR, I, R, h1.below hb, h2⟩
theorem BK.ok {B kb : Nat} {w : World} {N : Nat} {O : List OV} (h : BK B kb w N O) {o : OV} (ho : o ∈ O) : o.ok B w := by
  obtain ⟨no, vI, vR, I, R, h1, h2⟩ := h
  exact h1.own.ok o (by simp [bookL, ho])
theorem BK.base {B kb : Nat} {w : World} {N : Nat} {O : List OV} (h : BK B kb w N O) : B ≤ kb ∧ kb < w.heap.size := by
  obtain ⟨no, vI, vR, I, R, h1, h2, _⟩ := h
  exact ⟨h2.2.2, h1.blk.lt⟩
theorem keepN_c (w0 : World) {B : Nat} (kb N : Nat) (v : Value) (l : List Int) (O : List OV) (h : BK B kb w0 N (ovN v l :: O)) (hN : N < 1000000) (hl : l.length ≤ 1000000000) :
    Ret Tryz.prog 172 [.pointer (some ⟨kb, 0, none⟩), v] w0 (fun r w1 => Below B w0 w1 ∧ BK B kb w1 (N + 1) O) := by
  have hk := (h.ok (o := ovN v l) (by simp)).len
  obtain ⟨A, c, hv⟩ := hk
  change v = .slice A l.length c at hv
  subst hv
  obtain ⟨no, vI, vR, I, R, h1, h2, h3, h4, h5, h6⟩ := h
  refine (keepInt32_c w0 kb no vI vR I R A _ c _ _ _ O h1 (by omega) (by omega) (by omega)).mono ?_
  rintro r w1 ⟨hE, v', hb⟩
  refine ⟨hE, _, _, _, _, _, hb, by omega, by simp; omega, by omega, fun h hh => ?_, h6⟩
  rcases List.mem_append.1 hh with hh | hh
  · exact h5 h hh
  · rw [List.mem_singleton] at hh
    subst hh
    exact ⟨rfl, rfl, by show 0 ≤ no + 1 ∧ no + 1 ≤ 1000000; omega, rfl, rfl, hl⟩
theorem keepR_c (w0 : World) {B : Nat} (kb N : Nat) (v : Value) (es : List RV) (O : List OV) (h : BK B kb w0 N (ovR v es :: O)) (hN : N < 1000000) (hl : es.length ≤ 1000000000) :
    Ret Tryz.prog 193 [.pointer (some ⟨kb, 0, none⟩), v] w0 (fun r w1 => Below B w0 w1 ∧ BK B kb w1 (N + 1) O) := by
  have hk := (h.ok (o := ovR v es) (by simp)).len
  obtain ⟨A, c, hv⟩ := hk
  change v = .slice A es.length c at hv
  subst hv
  obtain ⟨no, vI, vR, I, R, h1, h2, h3, h4, h5, h6⟩ := h
  refine (keepRat_c w0 kb no vI vR I R A _ c _ _ _ O h1 (by omega) (by omega) (by omega)).mono ?_
  rintro r w1 ⟨hE, v', hb⟩
  refine ⟨hE, _, _, _, _, _, hb, by omega, by omega, by simp; omega, h5, fun h hh => ?_⟩
  rcases List.mem_append.1 hh with hh | hh
  · exact h6 h hh
  · rw [List.mem_singleton] at hh
    subst hh
    exact ⟨rfl, rfl, by show 0 ≤ no + 1 ∧ no + 1 ≤ 1000000; omega, rfl, rfl, hl⟩
theorem BK.perm {B kb : Nat} {w : World} {N : Nat} {O O' : List OV} (h : BK B kb w N O) (hp : O.Perm O') : BK B kb w N O' := by
  obtain ⟨no, vI, vR, I, R, h1, h2⟩ := h
  have hp2 : (bookL vI vR I R O).Perm (bookL vI vR I R O') := (List.Perm.append_left _ hp).cons _ |>.cons _
  exact ⟨no, vI, vR, I, R, ⟨h1.blk, h1.own.perm hp2, fun o ho => h1.kb o (hp2.mem_iff.2 ho)⟩, h2⟩
/-- One more row is held, in new memory. -/
theorem BK.new {B kb : Nat} {w w1 : World} {N : Nat} {O : List OV} {o : OV} (h : BK B kb w N O) (hB : Below w.heap.size w w1) (hn : ∀ g, bk o.v = some g → w.heap.size ≤ g) (ho : o.ok B w1) : BK B kb w1 N (o :: O) := by
  obtain ⟨no, vI, vR, I, R, h1, h2⟩ := h
  have hp : (o :: bookL vI vR I R O).Perm (bookL vI vR I R (o :: O)) := by
    simp only [bookL]
    refine (List.Perm.swap _ _ _).trans (List.Perm.cons _ ((List.Perm.swap _ _ _).trans (List.Perm.cons _ ?_)))
    exact List.perm_middle.symm
  refine ⟨no, vI, vR, I, R, ⟨h1.blk.below hB, ((h1.own.below hB).addNew ho hn fun a ha g hg => h1.own.lt ha g hg).perm hp, fun p hp' => ?_⟩, h2⟩
  rcases List.mem_cons.1 (hp.mem_iff.2 hp') with rfl | hm
  · intro e
    have := hn kb e
    have := h1.blk.lt
    omega
  · exact h1.kb p hm
def ovB (g : Nat) (e : TypeId) (cs : List Value) : OV := ⟨.slice (some ⟨g, 0, none⟩) 1 1, e, cs.length, 1, cs⟩
theorem ovB_ok {B : Nat} {w : World} {g : Nat} {e : TypeId} {cs : List Value} (b : Blk w g cs e) (hB : B ≤ g) : (ovB g e cs).ok B w :=
  ⟨by simp [ovB], .inr ⟨g, 1, cs, rfl, by omega, hB, b, Nat.le_refl _, by omega, by simp [ovB], by simp [ovB]⟩⟩
theorem BK.box {B kb : Nat} {w w1 : World} {N g : Nat} {pre O : List OV} {cs : List Value} {e : TypeId} (h : BK B kb w N (pre ++ O)) (hB : Below w.heap.size w w1) (hg : g = w.heap.size) (b : Blk w1 g cs e) : BK B kb w1 N (pre ++ ovB g e cs :: O) := by
  refine (h.new (o := ovB g e cs) hB (fun k hk => ?_) (ovB_ok b (by have := h.base; omega))).perm List.perm_middle.symm
  have := bk_le hk
  omega
theorem box_get {B : Nat} {w : World} {g : Nat} {e : TypeId} {cs : List Value} (h : (ovB g e cs).ok B w) : ∃ r, Blk w g (cs ++ r) e := by
  rcases h.2 with ⟨h1, _⟩ | ⟨g', c, cs', h0, h1, h2, h3, h4, h5, h6, h7⟩
  · cases h1
  · cases h0
    refine ⟨cs'.drop cs.length, ?_⟩
    have : cs' = cs ++ cs'.drop cs.length := by
      have h8 : cs'.take cs.length = cs := by simpa [ovB] using h7
      conv => lhs; rw [← List.take_append_drop cs.length cs', h8]
    rwa [← this]
theorem BK.drop {B kb : Nat} {w : World} {N : Nat} {o : OV} {O : List OV} (h : BK B kb w N (o :: O)) : BK B kb w N O := by
  obtain ⟨no, vI, vR, I, R, h1, h2⟩ := h
  have hp : (bookL vI vR I R (o :: O)).Perm (o :: bookL vI vR I R O) := by
    simp only [bookL]
    exact (List.Perm.cons _ (List.Perm.cons _ List.perm_middle)).trans ((List.Perm.cons _ (List.Perm.swap _ _ _)).trans (List.Perm.swap _ _ _))
  exact ⟨no, vI, vR, I, R, ⟨h1.blk, (h1.own.perm hp).tail, fun p hp' => h1.kb p (hp.mem_iff.2 (List.mem_cons_of_mem _ hp'))⟩, h2⟩
theorem ovR_get {B : Nat} {w : World} {v : Value} {es : List RV} (h : (ovR v es).ok B w) (j : Nat) (hj : j < es.length) : ∃ ad, SlAt v es.length 3 j ad ∧ CellsAt w ad (es.getD j rv0).cs := by
  have hr : RC 0 0 3 w v es.length (es.flatMap RV.cs) := (Row.rc h).any (Nat.le_refl _)
  obtain ⟨ad, h1, h2⟩ := hr.at_ hj (by omega)
  refine ⟨ad, h1, fun i hi => ?_⟩
  rw [RV.cs_len] at hi
  rw [h2 i hi, flat_get RV.cs 3 RV.cs_len _ _ _ hi, List.getD_eq_getElem?_getD, List.getElem?_eq_getElem hj]
  rfl
def ovN2 (x : RV) : List OV := [ovN x.vn x.q.n, ovN x.vd x.q.d]
theorem drop_getD {es : List RV} {i : Nat} (hi : i < es.length) : es.drop i = es.getD i rv0 :: es.drop (i + 1) := by
  rw [List.drop_eq_getElem_cons hi, List.getD_eq_getElem?_getD, List.getElem?_eq_getElem hi]; rfl

set_option maxHeartbeats 400000 in
theorem bookNat_c (w0 : World) {B : Nat} (kb N : Nat) (v : Value) (l : List Int) (O : List OV) (HB : BK B kb w0 N (ovN v l :: O)) (hN : N < 1000000) (hl : l.length ≤ 1000000000) :
    Ret Tryz.prog 47 [(.pointer (some ⟨kb, 0, none⟩)), v] w0 (fun r w1 => Below B w0 w1 ∧ BK B kb w1 (N + 1) O) := by
  have E := Below.refl B w0
  have hB0 : B ≤ w0.heap.size := by have := HB.base; omega
  refine Ret_of (n := 7) Tryz.func47 rfl rfl (Nat.le_of_ble_eq_true rfl) ?_
  refine W_region rfl ?_
  refine S_move rfl rfl rfl (v := (.pointer (some ⟨kb, 0, none⟩))) (rfl) ?_
  refine S_move rfl rfl rfl (v := v) (rfl) ?_
  refine S_call en_passayerlaw01_Book_keepInt32 rfl rfl rfl (vs := [(.pointer (some ⟨kb, 0, none⟩)), v]) (rfl) (keepN_c _ kb N v l O HB hN hl) ?_
  rintro _ w1 ⟨hT, HB⟩
  have E := E.trans hT
  refine OPS.nil ?_
  change Fin' _ _ _ _ _ _
  exact End0 rfl ⟨E, HB⟩

set_option maxHeartbeats 400000 in
theorem bookInt_c (w0 : World) {B : Nat} (kb N : Nat) (b : Bool) (v : Value) (l : List Int) (O : List OV) (HB : BK B kb w0 N (ovN v l :: O)) (hN : N < 1000000) (hl : l.length ≤ 1000000000) :
    Ret Tryz.prog 26 [(.pointer (some ⟨kb, 0, none⟩)), (.agg #[.bool b, v])] w0 (fun r w1 => Below B w0 w1 ∧ BK B kb w1 (N + 1) O) := by
  have E := Below.refl B w0
  have hB0 : B ≤ w0.heap.size := by have := HB.base; omega
  refine Ret_of (n := 8) Tryz.func26 rfl rfl (Nat.le_of_ble_eq_true rfl) ?_
  refine W_seq ?_
  refine W_region rfl ?_
  refine S_box rfl rfl rfl (v := (.agg #[.bool b, v])) (rfl) (cs := [(.bool b), v]) rfl ?_
  intro g1 w1 hg1 hs1 hB1 b1
  have hz1 := hB1.size
  have E := Below.step E hB1 hB0
  have HB := HB.below hB1
  refine OPS.nil ?_
  change WP _ _ _ _ _ _
  refine W_region rfl ?_
  refine S_move rfl rfl rfl (v := (.pointer (some ⟨kb, 0, none⟩))) (rfl) ?_
  refine S_field ft_api_Int_1 rfl rfl rfl (g := g1) (o := 0) (rfl) (o' := 1) rfl ?_
  refine S_load rfl rfl rfl (rfl) (LD.blk1 ti_api_Nat b1 (v := v) rfl) ?_
  refine S_call en_passayerlaw01_Book_Nat rfl rfl rfl (vs := [(.pointer (some ⟨kb, 0, none⟩)), v]) (rfl) (bookNat_c _ kb N v l O HB hN hl) ?_
  rintro _ w2 ⟨hT, HB⟩
  have E := E.trans hT
  refine OPS.nil ?_
  change Fin' _ _ _ _ _ _
  exact End0 rfl ⟨E, HB⟩

set_option maxHeartbeats 400000 in
theorem bookRat_c (w0 : World) {B : Nat} (kb N : Nat) (x : RV) (O : List OV) (HB : BK B kb w0 N (ovN x.vn x.q.n :: ovN x.vd x.q.d :: O)) (hN : N + 1 < 1000000) (hl : x.q.n.length ≤ 1000000000) (hl2 : x.q.d.length ≤ 1000000000) :
    Ret Tryz.prog 53 [(.pointer (some ⟨kb, 0, none⟩)), (.agg (RV.cs x).toArray)] w0 (fun r w1 => Below B w0 w1 ∧ BK B kb w1 (N + 1 + 1) O) := by
  have E := Below.refl B w0
  have hB0 : B ≤ w0.heap.size := by have := HB.base; omega
  have HB0 := HB
  refine Ret_of (n := 12) Tryz.func53 rfl rfl (Nat.le_of_ble_eq_true rfl) ?_
  refine W_seq ?_
  refine W_region rfl ?_
  refine S_box rfl rfl rfl (v := (.agg (RV.cs x).toArray)) (rfl) (cs := [(.bool x.q.neg), x.vn, x.vd]) rfl ?_
  intro g1 w1 hg1 hs1 hB1 b1
  have hz1 := hB1.size
  have E := Below.step E hB1 hB0
  have HB := HB.below hB1
  have HB := HB0.box (pre := [ovN x.vn x.q.n, ovN x.vd x.q.d]) hB1 hg1 b1
  refine OPS.nil ?_
  change WP _ _ _ _ _ _
  refine W_seq ?_
  refine W_region rfl ?_
  refine S_move rfl rfl rfl (v := (.pointer (some ⟨kb, 0, none⟩))) (rfl) ?_
  refine S_field ft_api_Rat_0 rfl rfl rfl (g := g1) (o := 0) (rfl) (o' := 0) rfl ?_
  refine S_load rfl rfl rfl (rfl) (LD.blk ti_api_Int b1 (l := [(.bool x.q.neg), x.vn]) rfl rfl) ?_
  refine S_call en_passayerlaw01_Book_Int rfl rfl rfl (vs := [(.pointer (some ⟨kb, 0, none⟩)), (.agg #[(.bool x.q.neg), x.vn])]) (rfl) (bookInt_c _ kb N _ _ _ _ HB (by omega) hl) ?_
  rintro _ w2 ⟨hT, HB⟩
  have E := E.trans hT
  obtain ⟨rest, b1⟩ := box_get (HB.ok (o := ovB g1 70 [(.bool x.q.neg), x.vn, x.vd]) (by simp))
  refine OPS.nil ?_
  change WP _ _ _ _ _ _
  refine W_region rfl ?_
  refine S_move rfl rfl rfl (v := (.pointer (some ⟨kb, 0, none⟩))) (rfl) ?_
  refine S_field ft_api_Rat_1 rfl rfl rfl (g := g1) (o := 0) (rfl) (o' := 2) rfl ?_
  refine S_load rfl rfl rfl (rfl) (LD.blk1 ti_api_Nat b1 (v := x.vd) rfl) ?_
  refine S_call en_passayerlaw01_Book_Nat rfl rfl rfl (vs := [(.pointer (some ⟨kb, 0, none⟩)), x.vd]) (rfl) (bookNat_c _ kb (N + 1) _ _ _ HB (by omega) hl2) ?_
  rintro _ w3 ⟨hT, HB⟩
  have E := E.trans hT
  refine OPS.nil ?_
  change Fin' _ _ _ _ _ _
  exact End0 rfl ⟨E, (HB.perm (O := ovB g1 70 [(.bool x.q.neg), x.vn, x.vd] :: O) (List.Perm.refl _)).drop⟩

set_option maxHeartbeats 400000 in
theorem bookRats_c (w0 : World) {B : Nat} (kb N : Nat) (v : Value) (es : List RV) (O : List OV) (HB : BK B kb w0 N (ovsR v es ++ O)) (hN : N + 2 * es.length + 1 < 1000000) (hl : ∀ x ∈ es, x.q.n.length ≤ 1000000000 ∧ x.q.d.length ≤ 1000000000) :
    Ret Tryz.prog 72 [(.pointer (some ⟨kb, 0, none⟩)), v] w0 (fun r w1 => Below B w0 w1 ∧ BK B kb w1 (N + 2 * es.length + 1) O) := by
  have E := Below.refl B w0
  have hB0 : B ≤ w0.heap.size := by have := HB.base; omega
  refine Ret_of (n := 20) Tryz.func72 rfl rfl (Nat.le_of_ble_eq_true rfl) ?_
  refine W_seq ?_
  refine W_seq ?_
  refine W_region rfl ?_
  refine S_assign rfl rfl rfl (v := (.int .i64 0)) (rfl) ?_
  refine OPS.nil ?_
  change WP _ _ _ _ _ _
  refine W_block ?_
  refine W_loop (fun k σ w => ∃ (i : Nat), σ 0 = .pointer (some ⟨kb, 0, none⟩) ∧ σ 1 = v ∧ σ 4 = .int .i64 (i : Int) ∧ i + k = es.length ∧ BK B kb w (N + 2 * i) ((es.drop i).flatMap ovN2 ++ ovR v es :: O) ∧ Below B w0 w) (es.length) ⟨0, rfl, rfl, rfl, by omega, (by rw [ovsR, List.append_assoc] at HB; exact HB), E⟩ ?_
  rintro k σ w ⟨i, s0, s1, s4, hik, HB, E⟩
  refine W_seq ?_
  refine W_seq ?_
  refine W_region rfl ?_
  refine S_move rfl rfl rfl (v := (.int .i64 (i : Int))) (s4) ?_
  refine S_move rfl rfl rfl (v := v) (s1) ?_
  refine S_len Tryz.underlying49 rfl rfl rfl (rfl) (m := es.length) ((HB.ok (o := ovR v es) (by simp)).len) ?_
  refine S_bin rfl rfl rfl rfl rfl (rfl) (rfl) rfl ?_
  refine OPS.nil ?_
  change WP _ _ _ _ _ _
  refine W_cond rfl (rfl) (fun hq8 => ?_) (fun hq8 => ?_)
  · skip
    replace hq8 := of_decide_eq_true hq8
    refine W_skip ?_
    change WP _ _ _ _ _ _
    refine W_seq ?_
    refine W_block ?_
    refine W_region rfl ?_
    have hx := hl _ (getD_mem (j := i) (by omega))
    have HB1 : BK B kb w (N + 2 * i) (ovN (es.getD i rv0).vn (es.getD i rv0).q.n :: ovN (es.getD i rv0).vd (es.getD i rv0).q.d :: ((es.drop (i + 1)).flatMap ovN2 ++ ovR v es :: O)) := by rw [drop_getD (by omega)] at HB; exact HB
    refine S_move rfl rfl rfl (v := (.pointer (some ⟨kb, 0, none⟩))) (s0) ?_
    refine S_move rfl rfl rfl (v := v) (s1) ?_
    refine S_move rfl rfl rfl (v := (.int .i64 (i : Int))) (s4) ?_
    obtain ⟨ad1, hp3, hc2⟩ := (ovR_get (HB.ok (o := ovR v es) (by simp))) i (by omega)
    refine S_idx Tryz.underlying49 ti_api_Rat rfl rfl rfl rfl (rfl) (rfl) hp3 (by omega) ?_
    refine S_load rfl rfl rfl (rfl) (LD.cells ti_api_Rat hc2 rfl) ?_
    refine S_call en_passayerlaw01_Book_Rat rfl rfl rfl (vs := [(.pointer (some ⟨kb, 0, none⟩)), (.agg (RV.cs (es.getD i rv0)).toArray)]) (rfl) (bookRat_c _ kb (N + 2 * i) (es.getD i rv0) _ HB1 (by omega) hx.1 hx.2) ?_
    rintro _ w1 ⟨hT, HB⟩
    have E := E.trans hT
    refine OPS.nil ?_
    change WP _ _ _ _ _ _
    refine W_region rfl ?_
    refine S_move rfl rfl rfl (v := (.int .i64 (i : Int))) (s4) ?_
    refine S_add64 rfl rfl rfl rfl (rfl) (rfl) (by omega) ?_
    refine S_assign rfl rfl rfl (v := (.int .i64 ((i : Int) + 1))) (rfl) ?_
    refine OPS.nil ?_
    exact ⟨k - 1, by omega, i + 1, s0, s1, int_eq (by omega), by omega, HB, E⟩
  · skip
    replace hq8 := of_decide_eq_false hq8
    refine W_exit ?_
    change WP _ _ _ _ _ _
    refine W_region rfl ?_
    have hi2 : i = es.length := by omega
    replace HB : BK B kb w (N + 2 * es.length) (ovR v es :: O) := by rw [hi2, List.drop_length] at HB; exact HB
    refine S_move rfl rfl rfl (v := (.pointer (some ⟨kb, 0, none⟩))) (s0) ?_
    refine S_move rfl rfl rfl (v := v) (s1) ?_
    refine S_call en_passayerlaw01_Book_keepRat rfl rfl rfl (vs := [(.pointer (some ⟨kb, 0, none⟩)), v]) (rfl) (keepR_c _ kb (N + 2 * es.length) v es O HB (by omega) (by omega)) ?_
    rintro _ w2 ⟨hT, HB⟩
    have E := E.trans hT
    refine OPS.nil ?_
    change Fin' _ _ _ _ _ _
    exact End0 rfl ⟨E, HB⟩

end Go.Proofs.YtccmicegihlfbaaGreatDoor
