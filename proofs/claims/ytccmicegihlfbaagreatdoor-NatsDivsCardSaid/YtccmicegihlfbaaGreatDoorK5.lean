/- The rounds of a book: all lists are looked at. -/
import Derived.Test.YtccmicegihlfbaaGreatDoorK4
import Derived.Test.YtccmicegihlfbaaGreatDoorTy
set_option linter.unusedVariables false
set_option linter.unusedSimpArgs false
namespace Go.Proofs.YtccmicegihlfbaaGreatDoor
open Go.RowKit

set_option maxHeartbeats 400000 in
theorem isInt32_c (w0 : World) (n : Int) (hn : 0 ≤ n ∧ n ≤ 1000000) :
    Ret Tryz.prog 221 [.int .u32 (1000 + n), .int .i64 n] w0 (fun r w1 => r = .bool true ∧ w0 = w1) := by
  refine Ret_of (n := 10) Tryz.func221 rfl rfl (Nat.le_of_ble_eq_true rfl) ?_
  refine W_seq ?_
  refine W_region rfl ?_
  refine S_assign rfl rfl rfl (v := (.bool false)) (rfl) ?_
  refine OPS.nil ?_
  change WP _ _ _ _ _ _
  refine W_seq ?_
  refine W_region rfl ?_
  refine S_move rfl rfl rfl (v := .int .u32 (1000 + n)) (rfl) ?_
  refine S_move rfl rfl rfl (v := .int .i64 n) (rfl) ?_
  refine S_add64 rfl rfl rfl rfl (rfl) (rfl) (by omega) ?_
  refine S_conv Tryz.underlying3 Tryz.underlying106 rfl rfl rfl (rfl) (b := (1000 + n)) (wrap_u32 (by omega) (by omega)) ?_
  refine S_bin rfl rfl rfl rfl rfl (rfl) (rfl) (v := .bool true) (by simp [binV]) ?_
  refine S_assign rfl rfl rfl (v := (.bool true)) (rfl) ?_
  refine OPS.nil ?_
  change WP _ _ _ _ _ _
  refine W_ret ?_
  change Fin' _ _ _ _ _ _
  refine End1 (n := ⟨10, []⟩) (t := 4) rfl (by decide) (v := (.bool true)) (rfl) ?_
  exact ⟨rfl, rfl⟩

set_option maxHeartbeats 400000 in
theorem isRat_c (w0 : World) (n : Int) (Aa : Option Addr) (ca : Nat) {a b : Nat} (hR : RN a b w0 (.slice Aa 1 ca) [1000 + n]) (hn : 0 ≤ n ∧ n ≤ 1000000) :
    Ret Tryz.prog 227 [(.agg #[.bool false, .slice none 0 0, (.slice Aa 1 ca)]), .int .i64 n] w0 (fun r w1 => Below w0.heap.size w0 w1 ∧ r = .bool true) := by
  have E := Below.refl w0.heap.size w0
  refine Ret_of (n := 19) Tryz.func227 rfl rfl (Nat.le_of_ble_eq_true rfl) ?_
  refine W_seq ?_
  refine W_region rfl ?_
  refine S_box rfl rfl rfl (v := (.agg #[.bool false, .slice none 0 0, (.slice Aa 1 ca)])) (rfl) (cs := [(.bool false), (.slice none 0 0), (.slice Aa 1 ca)]) rfl ?_
  intro g1 w1 hg1 hs1 hB1 b1
  have hz1 := hB1.size
  have E := Below.step E hB1
  have hR := hR.below hB1
  refine S_assign rfl rfl rfl (v := (.bool false)) (rfl) ?_
  refine OPS.nil ?_
  change WP _ _ _ _ _ _
  refine W_seq ?_
  refine W_region rfl ?_
  refine S_field ft_api_Rat_1 rfl rfl rfl (g := g1) (o := 0) (rfl) (o' := 2) rfl ?_
  refine S_load rfl rfl rfl (rfl) (LD.blk1 ti_api_Nat b1 (v := (.slice Aa 1 ca)) rfl) ?_
  refine S_len Tryz.underlying23 rfl rfl rfl (rfl) (m := 1) (⟨_, _, rfl⟩) ?_
  refine S_bin rfl rfl rfl rfl rfl (rfl) (rfl) (v := .bool true) (by simp [binV]) ?_
  refine S_move rfl rfl rfl (v := (.bool true)) (rfl) ?_
  refine S_field ft_api_Rat_1 rfl rfl rfl (g := g1) (o := 0) (rfl) (o' := 2) rfl ?_
  refine S_load rfl rfl rfl (rfl) (LD.blk1 ti_api_Nat b1 (v := (.slice Aa 1 ca)) rfl) ?_
  obtain ⟨ad1, hp3, hc2⟩ := hR.at 0 (by simp)
  refine S_idx Tryz.underlying23 ti_uint32 rfl rfl rfl rfl (rfl) (rfl) hp3 (by omega) ?_
  refine S_load rfl rfl rfl (rfl) (LD.one ti_uint32 hc2) ?_
  refine S_move rfl rfl rfl (v := .int .i64 n) (rfl) ?_
  refine S_add64 rfl rfl rfl rfl (rfl) (rfl) (by omega) ?_
  refine S_conv Tryz.underlying3 Tryz.underlying106 rfl rfl rfl (rfl) (b := (1000 + n)) (wrap_u32 (by omega) (by omega)) ?_
  refine S_bin rfl rfl rfl rfl rfl (rfl) (rfl) (v := .bool true) (by simp [binV]) ?_
  refine S_pick rfl rfl rfl rfl rfl (b := true) (rfl) (v := (.bool true)) (rfl) ?_
  refine S_assign rfl rfl rfl (v := (.bool true)) (rfl) ?_
  refine OPS.nil ?_
  change WP _ _ _ _ _ _
  refine W_ret ?_
  change Fin' _ _ _ _ _ _
  refine End1 (n := ⟨19, []⟩) (t := 4) rfl (by decide) (v := (.bool true)) (rfl) ?_
  exact ⟨E, rfl⟩

set_option maxHeartbeats 400000 in
theorem lookInt32_c (w0 : World) {B : Nat} (kb : Nat) (no : Int) (vI vR : Value) (I R : List HE) (O : List OV) (HB : BOOK B kb w0 no vI vR I R O) (hX : ∀ h ∈ I, PD false O h) (hB : B ≤ kb) :
    Ret Tryz.prog 126 [(.pointer (some ⟨kb, 0, none⟩))] w0 (fun r w1 => Below B w0 w1 ∧ r = .bool true ∧ BOOK B kb w1 no vI vR I R O) := by
  have E := Below.refl B w0
  have hB0 : B ≤ w0.heap.size := by have := HB.blk.lt; omega
  refine Ret_of (n := 64) Tryz.func126 rfl rfl (Nat.le_of_ble_eq_true rfl) ?_
  refine W_seq ?_
  refine W_region rfl ?_
  refine S_assign rfl rfl rfl (v := (.bool false)) (rfl) ?_
  refine OPS.nil ?_
  change WP _ _ _ _ _ _
  refine W_seq ?_
  refine W_seq ?_
  refine W_region rfl ?_
  refine S_assign rfl rfl rfl (v := (.int .i64 0)) (rfl) ?_
  refine OPS.nil ?_
  change WP _ _ _ _ _ _
  refine W_block ?_
  refine W_loop (fun k σ w => ∃ (i : Nat), σ 0 = .pointer (some ⟨kb, 0, none⟩) ∧ σ 3 = .int .i64 (i : Int) ∧ i + k = I.length ∧ BOOK B kb w no vI vR I R O ∧ Below B w0 w) (I.length) ⟨0, rfl, rfl, by omega, HB, E⟩ ?_
  rintro k σ w ⟨i, s0, s3, hik, HB, E⟩
  have hml := HB.rowI.rc.le
  refine W_seq ?_
  refine W_seq ?_
  refine W_region rfl ?_
  refine S_move rfl rfl rfl (v := (.int .i64 (i : Int))) (s3) ?_
  refine S_move rfl rfl rfl (v := (.pointer (some ⟨kb, 0, none⟩))) (s0) ?_
  refine S_nil rfl rfl rfl (rfl) ?_
  refine S_field ft_assayerlaw01_Book_2 rfl rfl rfl (g := kb) (o := 0) (rfl) (o' := 2) rfl ?_
  refine S_load rfl rfl rfl (rfl) (LD.blk1 ti_Lassayerlaw01_heldInt32 HB.blk (v := vI) rfl) ?_
  refine S_len Tryz.underlying33 rfl rfl rfl (rfl) (m := I.length) (HB.rowI.len) ?_
  refine S_bin rfl rfl rfl rfl rfl (rfl) (rfl) rfl ?_
  refine OPS.nil ?_
  change WP _ _ _ _ _ _
  refine W_cond rfl (rfl) (fun hq12 => ?_) (fun hq12 => ?_)
  · skip
    replace hq12 := of_decide_eq_true hq12
    refine W_skip ?_
    change WP _ _ _ _ _ _
    refine W_seq ?_
    refine W_block ?_
    refine W_seq ?_
    refine W_region rfl ?_
    refine S_move rfl rfl rfl (v := (.pointer (some ⟨kb, 0, none⟩))) (s0) ?_
    refine S_nil rfl rfl rfl (rfl) ?_
    refine S_field ft_assayerlaw01_Book_2 rfl rfl rfl (g := kb) (o := 0) (rfl) (o' := 2) rfl ?_
    refine S_load rfl rfl rfl (rfl) (LD.blk1 ti_Lassayerlaw01_heldInt32 HB.blk (v := vI) rfl) ?_
    refine S_move rfl rfl rfl (v := (.int .i64 (i : Int))) (s3) ?_
    obtain ⟨X1, h0, X3, hI, hX1⟩ := list_split (l := I) (i := i) (by omega)
    have hD := hX h0 (by rw [hI]; simp)
    have hm0 : h0 ∈ I := by rw [hI]; simp
    have HB1 := HB
    rw [hI] at HB1
    obtain ⟨A, m, c, Al, cl, n, o, rfl, hn, hm⟩ := hD.form (HB.okI hm0)
    obtain ⟨ad1, hp1, hc1⟩ := HB1.atI
    have hml2 : (X1 ++ (⟨.slice A m c, .slice Al (m + 40) cl, n, o⟩ : HE) :: X3).length = I.length := by rw [hI]
    refine S_idx Tryz.underlying33 ti_assayerlaw01_heldInt32 rfl rfl rfl rfl (rfl) (rfl) hp1 (by omega) ?_
    refine S_load rfl rfl rfl (rfl) (LD.cells ti_assayerlaw01_heldInt32 hc1 rfl) ?_
    have hlt := HB.lt
    have hkl := HB.blk.lt
    refine S_alloc ti_assayerlaw01_heldInt32 rfl rfl (cs := [.slice none 0 0, .slice none 0 0, .int .i64 0]) rfl ?_
    intro g1 w1 hg1 hs1 hB1 b1
    have hz1 := hB1.size
    have E := Below.step E hB1 hB0
    have HB := HB.below hB1
    refine S_store ti_assayerlaw01_heldInt32 rfl rfl rfl rfl (g := g1) (o := 0) (rfl) (v := (.agg #[(.slice A m c), (.slice Al (m + 40) cl), (.int .i64 n)])) (rfl) (vs := [(.slice A m c), (.slice Al (m + 40) cl), (.int .i64 n)]) rfl rfl (by simp [Value.oneCell']) b1 (by simp) (cs' := [(.slice A m c), (.slice Al (m + 40) cl), (.int .i64 n)]) rfl ?_
    intro w2 hU2 b1
    have E := Below.stepU E hU2 (by omega)
    have HB := HB.updHi hU2 hlt hkl (by omega)
    have hz2 := hU2.size
    refine OPS.nil ?_
    change WP _ _ _ _ _ _
    refine W_seq ?_
    refine W_seq ?_
    refine W_region rfl ?_
    refine S_field ft_assayerlaw01_heldInt32_1 rfl rfl rfl (g := g1) (o := 0) (rfl) (o' := 1) rfl ?_
    refine S_load rfl rfl rfl (rfl) (LD.blk1 ti_Luint32 b1 (v := (.slice Al (m + 40) cl)) rfl) ?_
    refine S_len Tryz.underlying22 rfl rfl rfl (rfl) (m := (m + 40)) (⟨_, _, rfl⟩) ?_
    refine S_field ft_assayerlaw01_heldInt32_0 rfl rfl rfl (g := g1) (o := 0) (rfl) (o' := 0) rfl ?_
    refine S_load rfl rfl rfl (rfl) (LD.blk1 ti_Luint32 b1 (v := (.slice A m c)) rfl) ?_
    refine S_len Tryz.underlying22 rfl rfl rfl (rfl) (m := m) (⟨_, _, rfl⟩) ?_
    refine S_add64 rfl rfl rfl rfl (rfl) (rfl) (by omega) ?_
    refine S_bin rfl rfl rfl rfl rfl (rfl) (rfl) (v := .bool false) (by simp [binV]) ?_
    refine OPS.nil ?_
    change WP _ _ _ _ _ _
    refine W_cond rfl (b := false) (rfl) (fun h => (by cases h)) (fun _ => ?_)
    refine W_skip ?_
    change WP _ _ _ _ _ _
    refine W_seq ?_
    refine W_region rfl ?_
    refine S_assign rfl rfl rfl (v := (.int .i64 0)) (rfl) ?_
    refine OPS.nil ?_
    change WP _ _ _ _ _ _
    refine W_block ?_
    refine W_loop (fun q σ w => ∃ (j : Nat), σ 0 = .pointer (some ⟨kb, 0, none⟩) ∧ σ 3 = .int .i64 (i : Int) ∧ σ 4 = .pointer (some ⟨g1, 0, none⟩) ∧ σ 5 = .int .i64 (j : Int) ∧ j + q = m + 40 ∧ BOOK B kb w no vI vR I R O ∧ Blk w g1 [(.slice A m c), (.slice Al (m + 40) cl), (.int .i64 n)] 158 ∧ Below B w0 w) (m + 40) ⟨0, s0, s3, rfl, rfl, by omega, HB, b1, E⟩ ?_
    rintro q σ w ⟨j, s0, s3, s4, s5, hjq, HB, b1, E⟩
    refine W_seq ?_
    refine W_seq ?_
    refine W_region rfl ?_
    refine S_move rfl rfl rfl (v := (.int .i64 (j : Int))) (s5) ?_
    refine S_field ft_assayerlaw01_heldInt32_1 rfl rfl rfl (g := g1) (o := 0) (s4) (o' := 1) rfl ?_
    refine S_load rfl rfl rfl (rfl) (LD.blk1 ti_Luint32 b1 (v := (.slice Al (m + 40) cl)) rfl) ?_
    refine S_len Tryz.underlying22 rfl rfl rfl (rfl) (m := (m + 40)) (⟨_, _, rfl⟩) ?_
    refine S_bin rfl rfl rfl rfl rfl (rfl) (rfl) rfl ?_
    refine OPS.nil ?_
    change WP _ _ _ _ _ _
    refine W_cond rfl (rfl) (fun hq34 => ?_) (fun hq34 => ?_)
    · skip
      replace hq34 := of_decide_eq_true hq34
      refine W_skip ?_
      change WP _ _ _ _ _ _
      refine W_seq ?_
      refine W_block ?_
      refine W_seq ?_
      rcases Nat.lt_or_ge j m with hjm | hjm
      · skip
        refine D_begin_ mixed_ rfl rfl ?_
        intro w3 hB3 hz_3
        have hz3 := hB3.size
        have E := Below.step E hB3 hB0
        have HB := HB.below hB3
        have hl_b1 := b1.lt
        have b1 := b1.below hB3
        have hS_ : Below w3.heap.size w3 w3 := Below.refl _ _
        have E_S := E
        have HB_S := HB
        have b1_S := b1
        obtain ⟨e1, de1, hpe1, hde1, hce1⟩ := PD.long_at' hD (HB.okI hm0) (j := j) (by omega)
        obtain rfl : de1 = [.int .u32 (1000 + n)] := hde1
        replace hce1 := hce1.one
        obtain ⟨e2, de2, hpe2, hde2, hce2⟩ := PD.l_at hD (HB.okI hm0) (fun o ho => HB.okO ho) rfl j hjm
        obtain rfl : de2 = [.int .u32 (1000 + n)] := hde2
        replace hce2 := hce2.one
        refine D_field ft_assayerlaw01_heldInt32_1 (i := 0) (by kernel_rfl) (by kernel_rfl) (by kernel_rfl) (listed2 := #[true, false, false, false, false, false, false, false, false, false, false, false, false, false, false, false, false, false, false, false, false, false, false, false, false, false, false]) (by kernel_rfl) rfl rfl rfl (g := g1) (o := 0) (s4) (o' := 1) rfl hS_ ?_
        refine D_load (i := 1) (by kernel_rfl) (by kernel_rfl) (by kernel_rfl) (listed2 := #[true, true, false, false, false, false, false, false, false, false, false, false, false, false, false, false, false, false, false, false, false, false, false, false, false, false, false]) (by kernel_rfl) rfl rfl rfl (rfl) (fun _ hS2 => LD.blk1 ti_Luint32 (b1_S.below hS2) (v := (.slice Al (m + 40) cl)) rfl) hS_ ?_
        refine D_move (i := 2) (by kernel_rfl) (by kernel_rfl) (by kernel_rfl) (listed2 := #[true, true, true, false, false, false, false, false, false, false, false, false, false, false, false, false, false, false, false, false, false, false, false, false, false, false, false]) (by kernel_rfl) rfl rfl rfl (v := (.int .i64 (j : Int))) (s5) hS_ ?_
        refine D_idx Tryz.underlying22 ti_uint32 (i := 3) (by kernel_rfl) (by kernel_rfl) (by kernel_rfl) (listed2 := #[true, true, true, true, false, false, false, false, false, false, false, false, false, false, false, false, false, false, false, false, false, false, false, false, false, false, false]) (by kernel_rfl) rfl rfl rfl rfl (rfl) (rfl) hpe1 (by omega) hS_ ?_
        refine D_load (i := 4) (by kernel_rfl) (by kernel_rfl) (by kernel_rfl) (listed2 := #[true, true, true, true, true, false, false, false, false, false, false, false, false, false, false, false, false, false, false, false, false, false, false, false, false, false, false]) (by kernel_rfl) rfl rfl rfl (rfl) (fun _ hS2 => LD.one ti_uint32 (cell_below hS2 hce1)) hS_ ?_
        refine D_field ft_assayerlaw01_heldInt32_2 (i := 5) (by kernel_rfl) (by kernel_rfl) (by kernel_rfl) (listed2 := #[true, true, true, true, true, true, false, false, false, false, false, false, false, false, false, false, false, false, false, false, false, false, false, false, false, false, false]) (by kernel_rfl) rfl rfl rfl (g := g1) (o := 0) (s4) (o' := 2) rfl hS_ ?_
        refine D_load (i := 6) (by kernel_rfl) (by kernel_rfl) (by kernel_rfl) (listed2 := #[true, true, true, true, true, true, true, false, false, false, false, false, false, false, false, false, false, false, false, false, false, false, false, false, false, false, false]) (by kernel_rfl) rfl rfl rfl (rfl) (fun _ hS2 => LD.blk1 ti_int (b1_S.below hS2) (v := (.int .i64 n)) rfl) hS_ ?_
        refine D_only (i := 7) (by kernel_rfl) (listed2 := #[true, true, true, true, true, true, true, true, false, false, false, false, false, false, false, false, false, false, false, false, false, false, false, false, false, false, false]) (by kernel_rfl) ?_
        refine S_call en_assayerlaw01_isInt32 rfl rfl rfl (vs := [(.int .u32 (1000 + n)), (.int .i64 n)]) (rfl) (isInt32_c _ n hn) ?_
        rintro _ _ ⟨rfl, rfl⟩
        refine OPS.nil ⟨hS_, ?_⟩
        refine D_not (i := 8) (by kernel_rfl) (by kernel_rfl) (by kernel_rfl) (listed2 := #[true, true, true, true, true, true, true, true, true, false, false, false, false, false, false, false, false, false, false, false, false, false, false, false, false, false, false]) (by kernel_rfl) rfl rfl rfl (rfl) hS_ ?_
        change DRW _ _ _ _ _ _ _ (upd _ _ (.bool false)) _
        refine D_move (i := 9) (by kernel_rfl) (by kernel_rfl) (by kernel_rfl) (listed2 := #[true, true, true, true, true, true, true, true, true, true, false, false, false, false, false, false, false, false, false, false, false, false, false, false, false, false, false]) (by kernel_rfl) rfl rfl rfl (v := (.bool false)) (rfl) hS_ ?_
        refine D_move (i := 10) (by kernel_rfl) (by kernel_rfl) (by kernel_rfl) (listed2 := #[true, true, true, true, true, true, true, true, true, true, true, false, false, false, false, false, false, false, false, false, false, false, false, false, false, false, false]) (by kernel_rfl) rfl rfl rfl (v := (.int .i64 (j : Int))) (s5) hS_ ?_
        refine D_field ft_assayerlaw01_heldInt32_0 (i := 11) (by kernel_rfl) (by kernel_rfl) (by kernel_rfl) (listed2 := #[true, true, true, true, true, true, true, true, true, true, true, true, false, false, false, false, false, false, false, false, false, false, false, false, false, false, false]) (by kernel_rfl) rfl rfl rfl (g := g1) (o := 0) (s4) (o' := 0) rfl hS_ ?_
        refine D_load (i := 12) (by kernel_rfl) (by kernel_rfl) (by kernel_rfl) (listed2 := #[true, true, true, true, true, true, true, true, true, true, true, true, true, false, false, false, false, false, false, false, false, false, false, false, false, false, false]) (by kernel_rfl) rfl rfl rfl (rfl) (fun _ hS2 => LD.blk1 ti_Luint32 (b1_S.below hS2) (v := (.slice A m c)) rfl) hS_ ?_
        refine D_len Tryz.underlying22 (i := 13) (by kernel_rfl) (by kernel_rfl) (by kernel_rfl) (listed2 := #[true, true, true, true, true, true, true, true, true, true, true, true, true, true, false, false, false, false, false, false, false, false, false, false, false, false, false]) (by kernel_rfl) rfl rfl rfl (rfl) (m := m) (⟨_, _, rfl⟩) hS_ ?_
        refine D_bin (i := 14) (by kernel_rfl) (by kernel_rfl) (by kernel_rfl) (listed2 := #[true, true, true, true, true, true, true, true, true, true, true, true, true, true, true, false, false, false, false, false, false, false, false, false, false, false, false]) (by kernel_rfl) rfl rfl rfl rfl rfl (rfl) (rfl) (v := .bool true) (by simp [binV]; omega) hS_ ?_
        refine D_move (i := 15) (by kernel_rfl) (by kernel_rfl) (by kernel_rfl) (listed2 := #[true, true, true, true, true, true, true, true, true, true, true, true, true, true, true, true, false, false, false, false, false, false, false, false, false, false, false]) (by kernel_rfl) rfl rfl rfl (v := (.bool true)) (rfl) hS_ ?_
        refine D_field ft_assayerlaw01_heldInt32_0 (i := 16) (by kernel_rfl) (by kernel_rfl) (by kernel_rfl) (listed2 := #[true, true, true, true, true, true, true, true, true, true, true, true, true, true, true, true, true, false, false, false, false, false, false, false, false, false, false]) (by kernel_rfl) rfl rfl rfl (g := g1) (o := 0) (s4) (o' := 0) rfl hS_ ?_
        refine D_load (i := 17) (by kernel_rfl) (by kernel_rfl) (by kernel_rfl) (listed2 := #[true, true, true, true, true, true, true, true, true, true, true, true, true, true, true, true, true, true, false, false, false, false, false, false, false, false, false]) (by kernel_rfl) rfl rfl rfl (rfl) (fun _ hS2 => LD.blk1 ti_Luint32 (b1_S.below hS2) (v := (.slice A m c)) rfl) hS_ ?_
        refine D_move (i := 18) (by kernel_rfl) (by kernel_rfl) (by kernel_rfl) (listed2 := #[true, true, true, true, true, true, true, true, true, true, true, true, true, true, true, true, true, true, true, false, false, false, false, false, false, false, false]) (by kernel_rfl) rfl rfl rfl (v := (.int .i64 (j : Int))) (s5) hS_ ?_
        refine D_idx Tryz.underlying22 ti_uint32 (i := 19) (by kernel_rfl) (by kernel_rfl) (by kernel_rfl) (listed2 := #[true, true, true, true, true, true, true, true, true, true, true, true, true, true, true, true, true, true, true, true, false, false, false, false, false, false, false]) (by kernel_rfl) rfl rfl rfl rfl (rfl) (rfl) hpe2 (by omega) hS_ ?_
        refine D_load (i := 20) (by kernel_rfl) (by kernel_rfl) (by kernel_rfl) (listed2 := #[true, true, true, true, true, true, true, true, true, true, true, true, true, true, true, true, true, true, true, true, true, false, false, false, false, false, false]) (by kernel_rfl) rfl rfl rfl (rfl) (fun _ hS2 => LD.one ti_uint32 (cell_below hS2 hce2)) hS_ ?_
        refine D_field ft_assayerlaw01_heldInt32_2 (i := 21) (by kernel_rfl) (by kernel_rfl) (by kernel_rfl) (listed2 := #[true, true, true, true, true, true, true, true, true, true, true, true, true, true, true, true, true, true, true, true, true, true, false, false, false, false, false]) (by kernel_rfl) rfl rfl rfl (g := g1) (o := 0) (s4) (o' := 2) rfl hS_ ?_
        refine D_load (i := 22) (by kernel_rfl) (by kernel_rfl) (by kernel_rfl) (listed2 := #[true, true, true, true, true, true, true, true, true, true, true, true, true, true, true, true, true, true, true, true, true, true, true, false, false, false, false]) (by kernel_rfl) rfl rfl rfl (rfl) (fun _ hS2 => LD.blk1 ti_int (b1_S.below hS2) (v := (.int .i64 n)) rfl) hS_ ?_
        refine D_only (i := 23) (by kernel_rfl) (listed2 := #[true, true, true, true, true, true, true, true, true, true, true, true, true, true, true, true, true, true, true, true, true, true, true, true, false, false, false]) (by kernel_rfl) ?_
        refine S_call en_assayerlaw01_isInt32 rfl rfl rfl (vs := [(.int .u32 (1000 + n)), (.int .i64 n)]) (rfl) (isInt32_c _ n hn) ?_
        rintro _ _ ⟨rfl, rfl⟩
        refine OPS.nil ⟨hS_, ?_⟩
        refine D_not (i := 24) (by kernel_rfl) (by kernel_rfl) (by kernel_rfl) (listed2 := #[true, true, true, true, true, true, true, true, true, true, true, true, true, true, true, true, true, true, true, true, true, true, true, true, true, false, false]) (by kernel_rfl) rfl rfl rfl (rfl) hS_ ?_
        change DRW _ _ _ _ _ _ _ (upd _ _ (.bool false)) _
        refine D_pick (i := 25) (by kernel_rfl) (by kernel_rfl) (by kernel_rfl) (listed2 := #[true, true, true, true, true, true, true, true, true, true, true, true, true, true, true, true, true, true, true, true, true, true, true, true, true, true, false]) (by kernel_rfl) rfl rfl rfl rfl rfl (b := true) (rfl) (v := (.bool false)) (rfl) hS_ ?_
        refine D_pick (i := 26) (by kernel_rfl) (by kernel_rfl) (by kernel_rfl) (listed2 := #[true, true, true, true, true, true, true, true, true, true, true, true, true, true, true, true, true, true, true, true, true, true, true, true, true, true, true]) (by kernel_rfl) rfl rfl rfl rfl rfl (b := false) (rfl) (v := (.bool false)) (rfl) hS_ ?_
        refine D_done (by kernel_rfl) ?_
        change WP _ _ _ _ _ _
        refine W_cond rfl (b := false) (rfl) (fun h => (by cases h)) (fun _ => ?_)
        refine W_skip ?_
        change WP _ _ _ _ _ _
        refine W_region rfl ?_
        refine S_move rfl rfl rfl (v := (.int .i64 (j : Int))) (s5) ?_
        refine S_add64 rfl rfl rfl rfl (rfl) (rfl) (by omega) ?_
        refine S_assign rfl rfl rfl (v := (.int .i64 ((j : Int) + 1))) (rfl) ?_
        refine OPS.nil ?_
        exact ⟨q - 1, by omega, j + 1, s0, s3, s4, int_eq (by omega), by omega, HB, b1, E⟩
      · skip
        refine D_begin_ mixed_ rfl rfl ?_
        intro w4 hB4 hz_4
        have hz4 := hB4.size
        have E := Below.step E hB4 hB0
        have HB := HB.below hB4
        have hl_b1 := b1.lt
        have b1 := b1.below hB4
        have hS_ : Below w4.heap.size w4 w4 := Below.refl _ _
        have E_S := E
        have HB_S := HB
        have b1_S := b1
        obtain ⟨e1, de1, hpe1, hde1, hce1⟩ := PD.long_at' hD (HB.okI hm0) (j := j) (by omega)
        obtain rfl : de1 = [.int .u32 (1000 + n)] := hde1
        replace hce1 := hce1.one
        refine D_field ft_assayerlaw01_heldInt32_1 (i := 0) (by kernel_rfl) (by kernel_rfl) (by kernel_rfl) (listed2 := #[true, false, false, false, false, false, false, false, false, false, false, false, false, false, false, false, false, false, false, false, false, false, false, false, false, false, false]) (by kernel_rfl) rfl rfl rfl (g := g1) (o := 0) (s4) (o' := 1) rfl hS_ ?_
        refine D_load (i := 1) (by kernel_rfl) (by kernel_rfl) (by kernel_rfl) (listed2 := #[true, true, false, false, false, false, false, false, false, false, false, false, false, false, false, false, false, false, false, false, false, false, false, false, false, false, false]) (by kernel_rfl) rfl rfl rfl (rfl) (fun _ hS2 => LD.blk1 ti_Luint32 (b1_S.below hS2) (v := (.slice Al (m + 40) cl)) rfl) hS_ ?_
        refine D_move (i := 2) (by kernel_rfl) (by kernel_rfl) (by kernel_rfl) (listed2 := #[true, true, true, false, false, false, false, false, false, false, false, false, false, false, false, false, false, false, false, false, false, false, false, false, false, false, false]) (by kernel_rfl) rfl rfl rfl (v := (.int .i64 (j : Int))) (s5) hS_ ?_
        refine D_idx Tryz.underlying22 ti_uint32 (i := 3) (by kernel_rfl) (by kernel_rfl) (by kernel_rfl) (listed2 := #[true, true, true, true, false, false, false, false, false, false, false, false, false, false, false, false, false, false, false, false, false, false, false, false, false, false, false]) (by kernel_rfl) rfl rfl rfl rfl (rfl) (rfl) hpe1 (by omega) hS_ ?_
        refine D_load (i := 4) (by kernel_rfl) (by kernel_rfl) (by kernel_rfl) (listed2 := #[true, true, true, true, true, false, false, false, false, false, false, false, false, false, false, false, false, false, false, false, false, false, false, false, false, false, false]) (by kernel_rfl) rfl rfl rfl (rfl) (fun _ hS2 => LD.one ti_uint32 (cell_below hS2 hce1)) hS_ ?_
        refine D_field ft_assayerlaw01_heldInt32_2 (i := 5) (by kernel_rfl) (by kernel_rfl) (by kernel_rfl) (listed2 := #[true, true, true, true, true, true, false, false, false, false, false, false, false, false, false, false, false, false, false, false, false, false, false, false, false, false, false]) (by kernel_rfl) rfl rfl rfl (g := g1) (o := 0) (s4) (o' := 2) rfl hS_ ?_
        refine D_load (i := 6) (by kernel_rfl) (by kernel_rfl) (by kernel_rfl) (listed2 := #[true, true, true, true, true, true, true, false, false, false, false, false, false, false, false, false, false, false, false, false, false, false, false, false, false, false, false]) (by kernel_rfl) rfl rfl rfl (rfl) (fun _ hS2 => LD.blk1 ti_int (b1_S.below hS2) (v := (.int .i64 n)) rfl) hS_ ?_
        refine D_only (i := 7) (by kernel_rfl) (listed2 := #[true, true, true, true, true, true, true, true, false, false, false, false, false, false, false, false, false, false, false, false, false, false, false, false, false, false, false]) (by kernel_rfl) ?_
        refine S_call en_assayerlaw01_isInt32 rfl rfl rfl (vs := [(.int .u32 (1000 + n)), (.int .i64 n)]) (rfl) (isInt32_c _ n hn) ?_
        rintro _ _ ⟨rfl, rfl⟩
        refine OPS.nil ⟨hS_, ?_⟩
        refine D_not (i := 8) (by kernel_rfl) (by kernel_rfl) (by kernel_rfl) (listed2 := #[true, true, true, true, true, true, true, true, true, false, false, false, false, false, false, false, false, false, false, false, false, false, false, false, false, false, false]) (by kernel_rfl) rfl rfl rfl (rfl) hS_ ?_
        change DRW _ _ _ _ _ _ _ (upd _ _ (.bool false)) _
        refine D_move (i := 9) (by kernel_rfl) (by kernel_rfl) (by kernel_rfl) (listed2 := #[true, true, true, true, true, true, true, true, true, true, false, false, false, false, false, false, false, false, false, false, false, false, false, false, false, false, false]) (by kernel_rfl) rfl rfl rfl (v := (.bool false)) (rfl) hS_ ?_
        refine D_move (i := 10) (by kernel_rfl) (by kernel_rfl) (by kernel_rfl) (listed2 := #[true, true, true, true, true, true, true, true, true, true, true, false, false, false, false, false, false, false, false, false, false, false, false, false, false, false, false]) (by kernel_rfl) rfl rfl rfl (v := (.int .i64 (j : Int))) (s5) hS_ ?_
        refine D_field ft_assayerlaw01_heldInt32_0 (i := 11) (by kernel_rfl) (by kernel_rfl) (by kernel_rfl) (listed2 := #[true, true, true, true, true, true, true, true, true, true, true, true, false, false, false, false, false, false, false, false, false, false, false, false, false, false, false]) (by kernel_rfl) rfl rfl rfl (g := g1) (o := 0) (s4) (o' := 0) rfl hS_ ?_
        refine D_load (i := 12) (by kernel_rfl) (by kernel_rfl) (by kernel_rfl) (listed2 := #[true, true, true, true, true, true, true, true, true, true, true, true, true, false, false, false, false, false, false, false, false, false, false, false, false, false, false]) (by kernel_rfl) rfl rfl rfl (rfl) (fun _ hS2 => LD.blk1 ti_Luint32 (b1_S.below hS2) (v := (.slice A m c)) rfl) hS_ ?_
        refine D_len Tryz.underlying22 (i := 13) (by kernel_rfl) (by kernel_rfl) (by kernel_rfl) (listed2 := #[true, true, true, true, true, true, true, true, true, true, true, true, true, true, false, false, false, false, false, false, false, false, false, false, false, false, false]) (by kernel_rfl) rfl rfl rfl (rfl) (m := m) (⟨_, _, rfl⟩) hS_ ?_
        refine D_bin (i := 14) (by kernel_rfl) (by kernel_rfl) (by kernel_rfl) (listed2 := #[true, true, true, true, true, true, true, true, true, true, true, true, true, true, true, false, false, false, false, false, false, false, false, false, false, false, false]) (by kernel_rfl) rfl rfl rfl rfl rfl (rfl) (rfl) (v := .bool false) (by simp [binV]; omega) hS_ ?_
        refine D_move (i := 15) (by kernel_rfl) (by kernel_rfl) (by kernel_rfl) (listed2 := #[true, true, true, true, true, true, true, true, true, true, true, true, true, true, true, true, false, false, false, false, false, false, false, false, false, false, false]) (by kernel_rfl) rfl rfl rfl (v := (.bool false)) (rfl) hS_ ?_
        refine D_skip (d := 53) (op := .fieldAddr _ _ _) (gd := some (15, true)) (i := 16) (by kernel_rfl) (by kernel_rfl) (by kernel_rfl) (listed2 := #[true, true, true, true, true, true, true, true, true, true, true, true, true, true, true, true, true, false, false, false, false, false, false, false, false, false, false]) (by kernel_rfl) rfl (wg_off rfl (rfl) rfl) hS_ ?_
        refine D_skip (d := 54) (op := .load _ _) (gd := some (15, true)) (i := 17) (by kernel_rfl) (by kernel_rfl) (by kernel_rfl) (listed2 := #[true, true, true, true, true, true, true, true, true, true, true, true, true, true, true, true, true, true, false, false, false, false, false, false, false, false, false]) (by kernel_rfl) rfl (wg_off rfl (rfl) rfl) hS_ ?_
        refine D_skip (d := 55) (op := .move _) (gd := some (15, true)) (i := 18) (by kernel_rfl) (by kernel_rfl) (by kernel_rfl) (listed2 := #[true, true, true, true, true, true, true, true, true, true, true, true, true, true, true, true, true, true, true, false, false, false, false, false, false, false, false]) (by kernel_rfl) rfl (wg_off rfl (rfl) rfl) hS_ ?_
        refine D_skip (d := 56) (op := .indexAddr _ _ _) (gd := some (15, true)) (i := 19) (by kernel_rfl) (by kernel_rfl) (by kernel_rfl) (listed2 := #[true, true, true, true, true, true, true, true, true, true, true, true, true, true, true, true, true, true, true, true, false, false, false, false, false, false, false]) (by kernel_rfl) rfl (wg_off rfl (rfl) rfl) hS_ ?_
        refine D_skip (d := 57) (op := .load _ _) (gd := some (15, true)) (i := 20) (by kernel_rfl) (by kernel_rfl) (by kernel_rfl) (listed2 := #[true, true, true, true, true, true, true, true, true, true, true, true, true, true, true, true, true, true, true, true, true, false, false, false, false, false, false]) (by kernel_rfl) rfl (wg_off rfl (rfl) rfl) hS_ ?_
        refine D_skip (d := 58) (op := .fieldAddr _ _ _) (gd := some (15, true)) (i := 21) (by kernel_rfl) (by kernel_rfl) (by kernel_rfl) (listed2 := #[true, true, true, true, true, true, true, true, true, true, true, true, true, true, true, true, true, true, true, true, true, true, false, false, false, false, false]) (by kernel_rfl) rfl (wg_off rfl (rfl) rfl) hS_ ?_
        refine D_skip (d := 59) (op := .load _ _) (gd := some (15, true)) (i := 22) (by kernel_rfl) (by kernel_rfl) (by kernel_rfl) (listed2 := #[true, true, true, true, true, true, true, true, true, true, true, true, true, true, true, true, true, true, true, true, true, true, true, false, false, false, false]) (by kernel_rfl) rfl (wg_off rfl (rfl) rfl) hS_ ?_
        refine D_skip (d := 60) (op := .call _) (gd := some (15, true)) (i := 23) (by kernel_rfl) (by kernel_rfl) (by kernel_rfl) (listed2 := #[true, true, true, true, true, true, true, true, true, true, true, true, true, true, true, true, true, true, true, true, true, true, true, true, false, false, false]) (by kernel_rfl) rfl (wg_off rfl (rfl) rfl) hS_ ?_
        refine D_skip (d := 61) (op := .unOp _ _ _) (gd := some (15, true)) (i := 24) (by kernel_rfl) (by kernel_rfl) (by kernel_rfl) (listed2 := #[true, true, true, true, true, true, true, true, true, true, true, true, true, true, true, true, true, true, true, true, true, true, true, true, true, false, false]) (by kernel_rfl) rfl (wg_off rfl (rfl) rfl) hS_ ?_
        refine D_pick (i := 25) (by kernel_rfl) (by kernel_rfl) (by kernel_rfl) (listed2 := #[true, true, true, true, true, true, true, true, true, true, true, true, true, true, true, true, true, true, true, true, true, true, true, true, true, true, false]) (by kernel_rfl) rfl rfl rfl rfl rfl (b := false) (rfl) (v := (.bool false)) (rfl) hS_ ?_
        refine D_pick (i := 26) (by kernel_rfl) (by kernel_rfl) (by kernel_rfl) (listed2 := #[true, true, true, true, true, true, true, true, true, true, true, true, true, true, true, true, true, true, true, true, true, true, true, true, true, true, true]) (by kernel_rfl) rfl rfl rfl rfl rfl (b := false) (rfl) (v := (.bool false)) (rfl) hS_ ?_
        refine D_done (by kernel_rfl) ?_
        change WP _ _ _ _ _ _
        refine W_cond rfl (b := false) (rfl) (fun h => (by cases h)) (fun _ => ?_)
        refine W_skip ?_
        change WP _ _ _ _ _ _
        refine W_region rfl ?_
        refine S_move rfl rfl rfl (v := (.int .i64 (j : Int))) (s5) ?_
        refine S_add64 rfl rfl rfl rfl (rfl) (rfl) (by omega) ?_
        refine S_assign rfl rfl rfl (v := (.int .i64 ((j : Int) + 1))) (rfl) ?_
        refine OPS.nil ?_
        exact ⟨q - 1, by omega, j + 1, s0, s3, s4, int_eq (by omega), by omega, HB, b1, E⟩
    · skip
      replace hq34 := of_decide_eq_false hq34
      refine W_exit ?_
      change WP _ _ _ _ _ _
      refine W_region rfl ?_
      refine S_move rfl rfl rfl (v := (.int .i64 (i : Int))) (s3) ?_
      refine S_add64 rfl rfl rfl rfl (rfl) (rfl) (by omega) ?_
      refine S_assign rfl rfl rfl (v := (.int .i64 ((i : Int) + 1))) (rfl) ?_
      refine OPS.nil ?_
      exact ⟨k - 1, by omega, i + 1, s0, int_eq (by omega), by omega, HB, E⟩
  · skip
    replace hq12 := of_decide_eq_false hq12
    refine W_exit ?_
    change WP _ _ _ _ _ _
    refine W_seq ?_
    refine W_region rfl ?_
    refine S_assign rfl rfl rfl (v := (.bool true)) (rfl) ?_
    refine OPS.nil ?_
    change WP _ _ _ _ _ _
    refine W_ret ?_
    change Fin' _ _ _ _ _ _
    refine End1 (n := ⟨64, []⟩) (t := 2) rfl (by decide) (v := (.bool true)) (rfl) ?_
    exact ⟨E, rfl, HB⟩

set_option maxHeartbeats 400000 in
theorem lookRat_c (w0 : World) {B : Nat} (kb : Nat) (no : Int) (vI vR : Value) (I R : List HE) (O : List OV) (HB : BOOK B kb w0 no vI vR I R O) (hX : ∀ h ∈ R, PD true O h) (hB : B ≤ kb) :
    Ret Tryz.prog 132 [(.pointer (some ⟨kb, 0, none⟩))] w0 (fun r w1 => Below B w0 w1 ∧ r = .bool true ∧ BOOK B kb w1 no vI vR I R O) := by
  have E := Below.refl B w0
  have hB0 : B ≤ w0.heap.size := by have := HB.blk.lt; omega
  refine Ret_of (n := 64) Tryz.func132 rfl rfl (Nat.le_of_ble_eq_true rfl) ?_
  refine W_seq ?_
  refine W_region rfl ?_
  refine S_assign rfl rfl rfl (v := (.bool false)) (rfl) ?_
  refine OPS.nil ?_
  change WP _ _ _ _ _ _
  refine W_seq ?_
  refine W_seq ?_
  refine W_region rfl ?_
  refine S_assign rfl rfl rfl (v := (.int .i64 0)) (rfl) ?_
  refine OPS.nil ?_
  change WP _ _ _ _ _ _
  refine W_block ?_
  refine W_loop (fun k σ w => ∃ (i : Nat), σ 0 = .pointer (some ⟨kb, 0, none⟩) ∧ σ 3 = .int .i64 (i : Int) ∧ i + k = R.length ∧ BOOK B kb w no vI vR I R O ∧ Below B w0 w) (R.length) ⟨0, rfl, rfl, by omega, HB, E⟩ ?_
  rintro k σ w ⟨i, s0, s3, hik, HB, E⟩
  have hml := HB.rowH.rc.le
  refine W_seq ?_
  refine W_seq ?_
  refine W_region rfl ?_
  refine S_move rfl rfl rfl (v := (.int .i64 (i : Int))) (s3) ?_
  refine S_move rfl rfl rfl (v := (.pointer (some ⟨kb, 0, none⟩))) (s0) ?_
  refine S_nil rfl rfl rfl (rfl) ?_
  refine S_field ft_assayerlaw01_Book_8 rfl rfl rfl (g := kb) (o := 0) (rfl) (o' := 8) rfl ?_
  refine S_load rfl rfl rfl (rfl) (LD.blk1 ti_Lassayerlaw01_heldRat HB.blk (v := vR) rfl) ?_
  refine S_len Tryz.underlying39 rfl rfl rfl (rfl) (m := R.length) (HB.rowH.len) ?_
  refine S_bin rfl rfl rfl rfl rfl (rfl) (rfl) rfl ?_
  refine OPS.nil ?_
  change WP _ _ _ _ _ _
  refine W_cond rfl (rfl) (fun hq12 => ?_) (fun hq12 => ?_)
  · skip
    replace hq12 := of_decide_eq_true hq12
    refine W_skip ?_
    change WP _ _ _ _ _ _
    refine W_seq ?_
    refine W_block ?_
    refine W_seq ?_
    refine W_region rfl ?_
    refine S_move rfl rfl rfl (v := (.pointer (some ⟨kb, 0, none⟩))) (s0) ?_
    refine S_nil rfl rfl rfl (rfl) ?_
    refine S_field ft_assayerlaw01_Book_8 rfl rfl rfl (g := kb) (o := 0) (rfl) (o' := 8) rfl ?_
    refine S_load rfl rfl rfl (rfl) (LD.blk1 ti_Lassayerlaw01_heldRat HB.blk (v := vR) rfl) ?_
    refine S_move rfl rfl rfl (v := (.int .i64 (i : Int))) (s3) ?_
    obtain ⟨X1, h0, X3, hI, hX1⟩ := list_split (l := R) (i := i) (by omega)
    have hD := hX h0 (by rw [hI]; simp)
    have hm0 : h0 ∈ R := by rw [hI]; simp
    have HB1 := HB
    rw [hI] at HB1
    obtain ⟨A, m, c, Al, cl, n, o, rfl, hn, hm⟩ := hD.form (HB.okR hm0)
    obtain ⟨ad1, hp1, hc1⟩ := HB1.atR
    have hml2 : (X1 ++ (⟨.slice A m c, .slice Al (m + 40) cl, n, o⟩ : HE) :: X3).length = R.length := by rw [hI]
    refine S_idx Tryz.underlying39 ti_assayerlaw01_heldRat rfl rfl rfl rfl (rfl) (rfl) hp1 (by omega) ?_
    refine S_load rfl rfl rfl (rfl) (LD.cells ti_assayerlaw01_heldRat hc1 rfl) ?_
    have hlt := HB.lt
    have hkl := HB.blk.lt
    refine S_alloc ti_assayerlaw01_heldRat rfl rfl (cs := [.slice none 0 0, .slice none 0 0, .int .i64 0]) rfl ?_
    intro g1 w1 hg1 hs1 hB1 b1
    have hz1 := hB1.size
    have E := Below.step E hB1 hB0
    have HB := HB.below hB1
    refine S_store ti_assayerlaw01_heldRat rfl rfl rfl rfl (g := g1) (o := 0) (rfl) (v := (.agg #[(.slice A m c), (.slice Al (m + 40) cl), (.int .i64 n)])) (rfl) (vs := [(.slice A m c), (.slice Al (m + 40) cl), (.int .i64 n)]) rfl rfl (by simp [Value.oneCell']) b1 (by simp) (cs' := [(.slice A m c), (.slice Al (m + 40) cl), (.int .i64 n)]) rfl ?_
    intro w2 hU2 b1
    have E := Below.stepU E hU2 (by omega)
    have HB := HB.updHi hU2 hlt hkl (by omega)
    have hz2 := hU2.size
    refine OPS.nil ?_
    change WP _ _ _ _ _ _
    refine W_seq ?_
    refine W_seq ?_
    refine W_region rfl ?_
    refine S_field ft_assayerlaw01_heldRat_1 rfl rfl rfl (g := g1) (o := 0) (rfl) (o' := 1) rfl ?_
    refine S_load rfl rfl rfl (rfl) (LD.blk1 ti_Lapi_Rat b1 (v := (.slice Al (m + 40) cl)) rfl) ?_
    refine S_len Tryz.underlying49 rfl rfl rfl (rfl) (m := (m + 40)) (⟨_, _, rfl⟩) ?_
    refine S_field ft_assayerlaw01_heldRat_0 rfl rfl rfl (g := g1) (o := 0) (rfl) (o' := 0) rfl ?_
    refine S_load rfl rfl rfl (rfl) (LD.blk1 ti_Lapi_Rat b1 (v := (.slice A m c)) rfl) ?_
    refine S_len Tryz.underlying49 rfl rfl rfl (rfl) (m := m) (⟨_, _, rfl⟩) ?_
    refine S_add64 rfl rfl rfl rfl (rfl) (rfl) (by omega) ?_
    refine S_bin rfl rfl rfl rfl rfl (rfl) (rfl) (v := .bool false) (by simp [binV]) ?_
    refine OPS.nil ?_
    change WP _ _ _ _ _ _
    refine W_cond rfl (b := false) (rfl) (fun h => (by cases h)) (fun _ => ?_)
    refine W_skip ?_
    change WP _ _ _ _ _ _
    refine W_seq ?_
    refine W_region rfl ?_
    refine S_assign rfl rfl rfl (v := (.int .i64 0)) (rfl) ?_
    refine OPS.nil ?_
    change WP _ _ _ _ _ _
    refine W_block ?_
    refine W_loop (fun q σ w => ∃ (j : Nat), σ 0 = .pointer (some ⟨kb, 0, none⟩) ∧ σ 3 = .int .i64 (i : Int) ∧ σ 4 = .pointer (some ⟨g1, 0, none⟩) ∧ σ 5 = .int .i64 (j : Int) ∧ j + q = m + 40 ∧ BOOK B kb w no vI vR I R O ∧ Blk w g1 [(.slice A m c), (.slice Al (m + 40) cl), (.int .i64 n)] 183 ∧ Below B w0 w) (m + 40) ⟨0, s0, s3, rfl, rfl, by omega, HB, b1, E⟩ ?_
    rintro q σ w ⟨j, s0, s3, s4, s5, hjq, HB, b1, E⟩
    refine W_seq ?_
    refine W_seq ?_
    refine W_region rfl ?_
    refine S_move rfl rfl rfl (v := (.int .i64 (j : Int))) (s5) ?_
    refine S_field ft_assayerlaw01_heldRat_1 rfl rfl rfl (g := g1) (o := 0) (s4) (o' := 1) rfl ?_
    refine S_load rfl rfl rfl (rfl) (LD.blk1 ti_Lapi_Rat b1 (v := (.slice Al (m + 40) cl)) rfl) ?_
    refine S_len Tryz.underlying49 rfl rfl rfl (rfl) (m := (m + 40)) (⟨_, _, rfl⟩) ?_
    refine S_bin rfl rfl rfl rfl rfl (rfl) (rfl) rfl ?_
    refine OPS.nil ?_
    change WP _ _ _ _ _ _
    refine W_cond rfl (rfl) (fun hq34 => ?_) (fun hq34 => ?_)
    · skip
      replace hq34 := of_decide_eq_true hq34
      refine W_skip ?_
      change WP _ _ _ _ _ _
      refine W_seq ?_
      refine W_block ?_
      refine W_seq ?_
      rcases Nat.lt_or_ge j m with hjm | hjm
      · skip
        refine D_begin_ mixed_ rfl rfl ?_
        intro w3 hB3 hz_3
        have hz3 := hB3.size
        have E := Below.step E hB3 hB0
        have HB := HB.below hB3
        have hl_b1 := b1.lt
        have b1 := b1.below hB3
        have hS_ : Below w3.heap.size w3 w3 := Below.refl _ _
        have E_S := E
        have HB_S := HB
        have b1_S := b1
        obtain ⟨e1, de1, hpe1, hde1, hce1⟩ := PD.long_at' hD (HB.okR hm0) (j := j) (by omega)
        obtain ⟨ae1, rfl, hoe1⟩ := hde1
        obtain ⟨Ae1, ce1, eae1⟩ := (HB.okO hoe1).len
        change ae1 = .slice Ae1 1 ce1 at eae1
        subst eae1
        obtain ⟨e2, de2, hpe2, hde2, hce2⟩ := PD.l_at hD (HB.okR hm0) (fun o ho => HB.okO ho) rfl j hjm
        obtain ⟨ae2, rfl, hoe2⟩ := hde2
        obtain ⟨Ae2, ce2, eae2⟩ := (HB.okO hoe2).len
        change ae2 = .slice Ae2 1 ce2 at eae2
        subst eae2
        refine D_field ft_assayerlaw01_heldRat_1 (i := 0) (by kernel_rfl) (by kernel_rfl) (by kernel_rfl) (listed2 := #[true, false, false, false, false, false, false, false, false, false, false, false, false, false, false, false, false, false, false, false, false, false, false, false, false, false, false]) (by kernel_rfl) rfl rfl rfl (g := g1) (o := 0) (s4) (o' := 1) rfl hS_ ?_
        refine D_load (i := 1) (by kernel_rfl) (by kernel_rfl) (by kernel_rfl) (listed2 := #[true, true, false, false, false, false, false, false, false, false, false, false, false, false, false, false, false, false, false, false, false, false, false, false, false, false, false]) (by kernel_rfl) rfl rfl rfl (rfl) (fun _ hS2 => LD.blk1 ti_Lapi_Rat (b1_S.below hS2) (v := (.slice Al (m + 40) cl)) rfl) hS_ ?_
        refine D_move (i := 2) (by kernel_rfl) (by kernel_rfl) (by kernel_rfl) (listed2 := #[true, true, true, false, false, false, false, false, false, false, false, false, false, false, false, false, false, false, false, false, false, false, false, false, false, false, false]) (by kernel_rfl) rfl rfl rfl (v := (.int .i64 (j : Int))) (s5) hS_ ?_
        refine D_idx Tryz.underlying49 ti_api_Rat (i := 3) (by kernel_rfl) (by kernel_rfl) (by kernel_rfl) (listed2 := #[true, true, true, true, false, false, false, false, false, false, false, false, false, false, false, false, false, false, false, false, false, false, false, false, false, false, false]) (by kernel_rfl) rfl rfl rfl rfl (rfl) (rfl) hpe1 (by omega) hS_ ?_
        refine D_load (i := 4) (by kernel_rfl) (by kernel_rfl) (by kernel_rfl) (listed2 := #[true, true, true, true, true, false, false, false, false, false, false, false, false, false, false, false, false, false, false, false, false, false, false, false, false, false, false]) (by kernel_rfl) rfl rfl rfl (rfl) (fun _ hS2 => LD.cells ti_api_Rat (CellsAt.below hce1 hS2) rfl) hS_ ?_
        refine D_field ft_assayerlaw01_heldRat_2 (i := 5) (by kernel_rfl) (by kernel_rfl) (by kernel_rfl) (listed2 := #[true, true, true, true, true, true, false, false, false, false, false, false, false, false, false, false, false, false, false, false, false, false, false, false, false, false, false]) (by kernel_rfl) rfl rfl rfl (g := g1) (o := 0) (s4) (o' := 2) rfl hS_ ?_
        refine D_load (i := 6) (by kernel_rfl) (by kernel_rfl) (by kernel_rfl) (listed2 := #[true, true, true, true, true, true, true, false, false, false, false, false, false, false, false, false, false, false, false, false, false, false, false, false, false, false, false]) (by kernel_rfl) rfl rfl rfl (rfl) (fun _ hS2 => LD.blk1 ti_int (b1_S.below hS2) (v := (.int .i64 n)) rfl) hS_ ?_
        refine D_only (i := 7) (by kernel_rfl) (listed2 := #[true, true, true, true, true, true, true, true, false, false, false, false, false, false, false, false, false, false, false, false, false, false, false, false, false, false, false]) (by kernel_rfl) ?_
        refine S_call en_assayerlaw01_isRat rfl rfl rfl (vs := [(.agg #[.bool false, .slice none 0 0, (.slice Ae1 1 ce1)]), (.int .i64 n)]) (rfl) (isRat_c _ n _ _ (Row.on (l := [1000 + n]) (HB.okO hoe1) (U32.mk (by omega) (by omega) U32.nil)).r hn) ?_
        rintro _ w4 ⟨hB4, rfl⟩
        have hz4 := hB4.size
        have E := Below.step E hB4 hB0
        have HB := HB.below hB4
        have hl_b1 := b1.lt
        have b1 := b1.below hB4
        have hS_ := Below.step hS_ hB4
        refine OPS.nil ⟨hS_, ?_⟩
        refine D_not (i := 8) (by kernel_rfl) (by kernel_rfl) (by kernel_rfl) (listed2 := #[true, true, true, true, true, true, true, true, true, false, false, false, false, false, false, false, false, false, false, false, false, false, false, false, false, false, false]) (by kernel_rfl) rfl rfl rfl (rfl) hS_ ?_
        change DRW _ _ _ _ _ _ _ (upd _ _ (.bool false)) _
        refine D_move (i := 9) (by kernel_rfl) (by kernel_rfl) (by kernel_rfl) (listed2 := #[true, true, true, true, true, true, true, true, true, true, false, false, false, false, false, false, false, false, false, false, false, false, false, false, false, false, false]) (by kernel_rfl) rfl rfl rfl (v := (.bool false)) (rfl) hS_ ?_
        refine D_move (i := 10) (by kernel_rfl) (by kernel_rfl) (by kernel_rfl) (listed2 := #[true, true, true, true, true, true, true, true, true, true, true, false, false, false, false, false, false, false, false, false, false, false, false, false, false, false, false]) (by kernel_rfl) rfl rfl rfl (v := (.int .i64 (j : Int))) (s5) hS_ ?_
        refine D_field ft_assayerlaw01_heldRat_0 (i := 11) (by kernel_rfl) (by kernel_rfl) (by kernel_rfl) (listed2 := #[true, true, true, true, true, true, true, true, true, true, true, true, false, false, false, false, false, false, false, false, false, false, false, false, false, false, false]) (by kernel_rfl) rfl rfl rfl (g := g1) (o := 0) (s4) (o' := 0) rfl hS_ ?_
        refine D_load (i := 12) (by kernel_rfl) (by kernel_rfl) (by kernel_rfl) (listed2 := #[true, true, true, true, true, true, true, true, true, true, true, true, true, false, false, false, false, false, false, false, false, false, false, false, false, false, false]) (by kernel_rfl) rfl rfl rfl (rfl) (fun _ hS2 => LD.blk1 ti_Lapi_Rat (b1_S.below hS2) (v := (.slice A m c)) rfl) hS_ ?_
        refine D_len Tryz.underlying49 (i := 13) (by kernel_rfl) (by kernel_rfl) (by kernel_rfl) (listed2 := #[true, true, true, true, true, true, true, true, true, true, true, true, true, true, false, false, false, false, false, false, false, false, false, false, false, false, false]) (by kernel_rfl) rfl rfl rfl (rfl) (m := m) (⟨_, _, rfl⟩) hS_ ?_
        refine D_bin (i := 14) (by kernel_rfl) (by kernel_rfl) (by kernel_rfl) (listed2 := #[true, true, true, true, true, true, true, true, true, true, true, true, true, true, true, false, false, false, false, false, false, false, false, false, false, false, false]) (by kernel_rfl) rfl rfl rfl rfl rfl (rfl) (rfl) (v := .bool true) (by simp [binV]; omega) hS_ ?_
        refine D_move (i := 15) (by kernel_rfl) (by kernel_rfl) (by kernel_rfl) (listed2 := #[true, true, true, true, true, true, true, true, true, true, true, true, true, true, true, true, false, false, false, false, false, false, false, false, false, false, false]) (by kernel_rfl) rfl rfl rfl (v := (.bool true)) (rfl) hS_ ?_
        refine D_field ft_assayerlaw01_heldRat_0 (i := 16) (by kernel_rfl) (by kernel_rfl) (by kernel_rfl) (listed2 := #[true, true, true, true, true, true, true, true, true, true, true, true, true, true, true, true, true, false, false, false, false, false, false, false, false, false, false]) (by kernel_rfl) rfl rfl rfl (g := g1) (o := 0) (s4) (o' := 0) rfl hS_ ?_
        refine D_load (i := 17) (by kernel_rfl) (by kernel_rfl) (by kernel_rfl) (listed2 := #[true, true, true, true, true, true, true, true, true, true, true, true, true, true, true, true, true, true, false, false, false, false, false, false, false, false, false]) (by kernel_rfl) rfl rfl rfl (rfl) (fun _ hS2 => LD.blk1 ti_Lapi_Rat (b1_S.below hS2) (v := (.slice A m c)) rfl) hS_ ?_
        refine D_move (i := 18) (by kernel_rfl) (by kernel_rfl) (by kernel_rfl) (listed2 := #[true, true, true, true, true, true, true, true, true, true, true, true, true, true, true, true, true, true, true, false, false, false, false, false, false, false, false]) (by kernel_rfl) rfl rfl rfl (v := (.int .i64 (j : Int))) (s5) hS_ ?_
        refine D_idx Tryz.underlying49 ti_api_Rat (i := 19) (by kernel_rfl) (by kernel_rfl) (by kernel_rfl) (listed2 := #[true, true, true, true, true, true, true, true, true, true, true, true, true, true, true, true, true, true, true, true, false, false, false, false, false, false, false]) (by kernel_rfl) rfl rfl rfl rfl (rfl) (rfl) hpe2 (by omega) hS_ ?_
        refine D_load (i := 20) (by kernel_rfl) (by kernel_rfl) (by kernel_rfl) (listed2 := #[true, true, true, true, true, true, true, true, true, true, true, true, true, true, true, true, true, true, true, true, true, false, false, false, false, false, false]) (by kernel_rfl) rfl rfl rfl (rfl) (fun _ hS2 => LD.cells ti_api_Rat (CellsAt.below hce2 hS2) rfl) hS_ ?_
        refine D_field ft_assayerlaw01_heldRat_2 (i := 21) (by kernel_rfl) (by kernel_rfl) (by kernel_rfl) (listed2 := #[true, true, true, true, true, true, true, true, true, true, true, true, true, true, true, true, true, true, true, true, true, true, false, false, false, false, false]) (by kernel_rfl) rfl rfl rfl (g := g1) (o := 0) (s4) (o' := 2) rfl hS_ ?_
        refine D_load (i := 22) (by kernel_rfl) (by kernel_rfl) (by kernel_rfl) (listed2 := #[true, true, true, true, true, true, true, true, true, true, true, true, true, true, true, true, true, true, true, true, true, true, true, false, false, false, false]) (by kernel_rfl) rfl rfl rfl (rfl) (fun _ hS2 => LD.blk1 ti_int (b1_S.below hS2) (v := (.int .i64 n)) rfl) hS_ ?_
        refine D_only (i := 23) (by kernel_rfl) (listed2 := #[true, true, true, true, true, true, true, true, true, true, true, true, true, true, true, true, true, true, true, true, true, true, true, true, false, false, false]) (by kernel_rfl) ?_
        refine S_call en_assayerlaw01_isRat rfl rfl rfl (vs := [(.agg #[.bool false, .slice none 0 0, (.slice Ae2 1 ce2)]), (.int .i64 n)]) (rfl) (isRat_c _ n _ _ (Row.on (l := [1000 + n]) (HB.okO hoe2) (U32.mk (by omega) (by omega) U32.nil)).r hn) ?_
        rintro _ w5 ⟨hB5, rfl⟩
        have hz5 := hB5.size
        have E := Below.step E hB5 hB0
        have HB := HB.below hB5
        have hl_b1 := b1.lt
        have b1 := b1.below hB5
        have hS_ := Below.step hS_ hB5
        refine OPS.nil ⟨hS_, ?_⟩
        refine D_not (i := 24) (by kernel_rfl) (by kernel_rfl) (by kernel_rfl) (listed2 := #[true, true, true, true, true, true, true, true, true, true, true, true, true, true, true, true, true, true, true, true, true, true, true, true, true, false, false]) (by kernel_rfl) rfl rfl rfl (rfl) hS_ ?_
        change DRW _ _ _ _ _ _ _ (upd _ _ (.bool false)) _
        refine D_pick (i := 25) (by kernel_rfl) (by kernel_rfl) (by kernel_rfl) (listed2 := #[true, true, true, true, true, true, true, true, true, true, true, true, true, true, true, true, true, true, true, true, true, true, true, true, true, true, false]) (by kernel_rfl) rfl rfl rfl rfl rfl (b := true) (rfl) (v := (.bool false)) (rfl) hS_ ?_
        refine D_pick (i := 26) (by kernel_rfl) (by kernel_rfl) (by kernel_rfl) (listed2 := #[true, true, true, true, true, true, true, true, true, true, true, true, true, true, true, true, true, true, true, true, true, true, true, true, true, true, true]) (by kernel_rfl) rfl rfl rfl rfl rfl (b := false) (rfl) (v := (.bool false)) (rfl) hS_ ?_
        refine D_done (by kernel_rfl) ?_
        change WP _ _ _ _ _ _
        refine W_cond rfl (b := false) (rfl) (fun h => (by cases h)) (fun _ => ?_)
        refine W_skip ?_
        change WP _ _ _ _ _ _
        refine W_region rfl ?_
        refine S_move rfl rfl rfl (v := (.int .i64 (j : Int))) (s5) ?_
        refine S_add64 rfl rfl rfl rfl (rfl) (rfl) (by omega) ?_
        refine S_assign rfl rfl rfl (v := (.int .i64 ((j : Int) + 1))) (rfl) ?_
        refine OPS.nil ?_
        exact ⟨q - 1, by omega, j + 1, s0, s3, s4, int_eq (by omega), by omega, HB, b1, E⟩
      · skip
        refine D_begin_ mixed_ rfl rfl ?_
        intro w6 hB6 hz_6
        have hz6 := hB6.size
        have E := Below.step E hB6 hB0
        have HB := HB.below hB6
        have hl_b1 := b1.lt
        have b1 := b1.below hB6
        have hS_ : Below w6.heap.size w6 w6 := Below.refl _ _
        have E_S := E
        have HB_S := HB
        have b1_S := b1
        obtain ⟨e1, de1, hpe1, hde1, hce1⟩ := PD.long_at' hD (HB.okR hm0) (j := j) (by omega)
        obtain ⟨ae1, rfl, hoe1⟩ := hde1
        obtain ⟨Ae1, ce1, eae1⟩ := (HB.okO hoe1).len
        change ae1 = .slice Ae1 1 ce1 at eae1
        subst eae1
        refine D_field ft_assayerlaw01_heldRat_1 (i := 0) (by kernel_rfl) (by kernel_rfl) (by kernel_rfl) (listed2 := #[true, false, false, false, false, false, false, false, false, false, false, false, false, false, false, false, false, false, false, false, false, false, false, false, false, false, false]) (by kernel_rfl) rfl rfl rfl (g := g1) (o := 0) (s4) (o' := 1) rfl hS_ ?_
        refine D_load (i := 1) (by kernel_rfl) (by kernel_rfl) (by kernel_rfl) (listed2 := #[true, true, false, false, false, false, false, false, false, false, false, false, false, false, false, false, false, false, false, false, false, false, false, false, false, false, false]) (by kernel_rfl) rfl rfl rfl (rfl) (fun _ hS2 => LD.blk1 ti_Lapi_Rat (b1_S.below hS2) (v := (.slice Al (m + 40) cl)) rfl) hS_ ?_
        refine D_move (i := 2) (by kernel_rfl) (by kernel_rfl) (by kernel_rfl) (listed2 := #[true, true, true, false, false, false, false, false, false, false, false, false, false, false, false, false, false, false, false, false, false, false, false, false, false, false, false]) (by kernel_rfl) rfl rfl rfl (v := (.int .i64 (j : Int))) (s5) hS_ ?_
        refine D_idx Tryz.underlying49 ti_api_Rat (i := 3) (by kernel_rfl) (by kernel_rfl) (by kernel_rfl) (listed2 := #[true, true, true, true, false, false, false, false, false, false, false, false, false, false, false, false, false, false, false, false, false, false, false, false, false, false, false]) (by kernel_rfl) rfl rfl rfl rfl (rfl) (rfl) hpe1 (by omega) hS_ ?_
        refine D_load (i := 4) (by kernel_rfl) (by kernel_rfl) (by kernel_rfl) (listed2 := #[true, true, true, true, true, false, false, false, false, false, false, false, false, false, false, false, false, false, false, false, false, false, false, false, false, false, false]) (by kernel_rfl) rfl rfl rfl (rfl) (fun _ hS2 => LD.cells ti_api_Rat (CellsAt.below hce1 hS2) rfl) hS_ ?_
        refine D_field ft_assayerlaw01_heldRat_2 (i := 5) (by kernel_rfl) (by kernel_rfl) (by kernel_rfl) (listed2 := #[true, true, true, true, true, true, false, false, false, false, false, false, false, false, false, false, false, false, false, false, false, false, false, false, false, false, false]) (by kernel_rfl) rfl rfl rfl (g := g1) (o := 0) (s4) (o' := 2) rfl hS_ ?_
        refine D_load (i := 6) (by kernel_rfl) (by kernel_rfl) (by kernel_rfl) (listed2 := #[true, true, true, true, true, true, true, false, false, false, false, false, false, false, false, false, false, false, false, false, false, false, false, false, false, false, false]) (by kernel_rfl) rfl rfl rfl (rfl) (fun _ hS2 => LD.blk1 ti_int (b1_S.below hS2) (v := (.int .i64 n)) rfl) hS_ ?_
        refine D_only (i := 7) (by kernel_rfl) (listed2 := #[true, true, true, true, true, true, true, true, false, false, false, false, false, false, false, false, false, false, false, false, false, false, false, false, false, false, false]) (by kernel_rfl) ?_
        refine S_call en_assayerlaw01_isRat rfl rfl rfl (vs := [(.agg #[.bool false, .slice none 0 0, (.slice Ae1 1 ce1)]), (.int .i64 n)]) (rfl) (isRat_c _ n _ _ (Row.on (l := [1000 + n]) (HB.okO hoe1) (U32.mk (by omega) (by omega) U32.nil)).r hn) ?_
        rintro _ w7 ⟨hB7, rfl⟩
        have hz7 := hB7.size
        have E := Below.step E hB7 hB0
        have HB := HB.below hB7
        have hl_b1 := b1.lt
        have b1 := b1.below hB7
        have hS_ := Below.step hS_ hB7
        refine OPS.nil ⟨hS_, ?_⟩
        refine D_not (i := 8) (by kernel_rfl) (by kernel_rfl) (by kernel_rfl) (listed2 := #[true, true, true, true, true, true, true, true, true, false, false, false, false, false, false, false, false, false, false, false, false, false, false, false, false, false, false]) (by kernel_rfl) rfl rfl rfl (rfl) hS_ ?_
        change DRW _ _ _ _ _ _ _ (upd _ _ (.bool false)) _
        refine D_move (i := 9) (by kernel_rfl) (by kernel_rfl) (by kernel_rfl) (listed2 := #[true, true, true, true, true, true, true, true, true, true, false, false, false, false, false, false, false, false, false, false, false, false, false, false, false, false, false]) (by kernel_rfl) rfl rfl rfl (v := (.bool false)) (rfl) hS_ ?_
        refine D_move (i := 10) (by kernel_rfl) (by kernel_rfl) (by kernel_rfl) (listed2 := #[true, true, true, true, true, true, true, true, true, true, true, false, false, false, false, false, false, false, false, false, false, false, false, false, false, false, false]) (by kernel_rfl) rfl rfl rfl (v := (.int .i64 (j : Int))) (s5) hS_ ?_
        refine D_field ft_assayerlaw01_heldRat_0 (i := 11) (by kernel_rfl) (by kernel_rfl) (by kernel_rfl) (listed2 := #[true, true, true, true, true, true, true, true, true, true, true, true, false, false, false, false, false, false, false, false, false, false, false, false, false, false, false]) (by kernel_rfl) rfl rfl rfl (g := g1) (o := 0) (s4) (o' := 0) rfl hS_ ?_
        refine D_load (i := 12) (by kernel_rfl) (by kernel_rfl) (by kernel_rfl) (listed2 := #[true, true, true, true, true, true, true, true, true, true, true, true, true, false, false, false, false, false, false, false, false, false, false, false, false, false, false]) (by kernel_rfl) rfl rfl rfl (rfl) (fun _ hS2 => LD.blk1 ti_Lapi_Rat (b1_S.below hS2) (v := (.slice A m c)) rfl) hS_ ?_
        refine D_len Tryz.underlying49 (i := 13) (by kernel_rfl) (by kernel_rfl) (by kernel_rfl) (listed2 := #[true, true, true, true, true, true, true, true, true, true, true, true, true, true, false, false, false, false, false, false, false, false, false, false, false, false, false]) (by kernel_rfl) rfl rfl rfl (rfl) (m := m) (⟨_, _, rfl⟩) hS_ ?_
        refine D_bin (i := 14) (by kernel_rfl) (by kernel_rfl) (by kernel_rfl) (listed2 := #[true, true, true, true, true, true, true, true, true, true, true, true, true, true, true, false, false, false, false, false, false, false, false, false, false, false, false]) (by kernel_rfl) rfl rfl rfl rfl rfl (rfl) (rfl) (v := .bool false) (by simp [binV]; omega) hS_ ?_
        refine D_move (i := 15) (by kernel_rfl) (by kernel_rfl) (by kernel_rfl) (listed2 := #[true, true, true, true, true, true, true, true, true, true, true, true, true, true, true, true, false, false, false, false, false, false, false, false, false, false, false]) (by kernel_rfl) rfl rfl rfl (v := (.bool false)) (rfl) hS_ ?_
        refine D_skip (d := 53) (op := .fieldAddr _ _ _) (gd := some (15, true)) (i := 16) (by kernel_rfl) (by kernel_rfl) (by kernel_rfl) (listed2 := #[true, true, true, true, true, true, true, true, true, true, true, true, true, true, true, true, true, false, false, false, false, false, false, false, false, false, false]) (by kernel_rfl) rfl (wg_off rfl (rfl) rfl) hS_ ?_
        refine D_skip (d := 54) (op := .load _ _) (gd := some (15, true)) (i := 17) (by kernel_rfl) (by kernel_rfl) (by kernel_rfl) (listed2 := #[true, true, true, true, true, true, true, true, true, true, true, true, true, true, true, true, true, true, false, false, false, false, false, false, false, false, false]) (by kernel_rfl) rfl (wg_off rfl (rfl) rfl) hS_ ?_
        refine D_skip (d := 55) (op := .move _) (gd := some (15, true)) (i := 18) (by kernel_rfl) (by kernel_rfl) (by kernel_rfl) (listed2 := #[true, true, true, true, true, true, true, true, true, true, true, true, true, true, true, true, true, true, true, false, false, false, false, false, false, false, false]) (by kernel_rfl) rfl (wg_off rfl (rfl) rfl) hS_ ?_
        refine D_skip (d := 56) (op := .indexAddr _ _ _) (gd := some (15, true)) (i := 19) (by kernel_rfl) (by kernel_rfl) (by kernel_rfl) (listed2 := #[true, true, true, true, true, true, true, true, true, true, true, true, true, true, true, true, true, true, true, true, false, false, false, false, false, false, false]) (by kernel_rfl) rfl (wg_off rfl (rfl) rfl) hS_ ?_
        refine D_skip (d := 57) (op := .load _ _) (gd := some (15, true)) (i := 20) (by kernel_rfl) (by kernel_rfl) (by kernel_rfl) (listed2 := #[true, true, true, true, true, true, true, true, true, true, true, true, true, true, true, true, true, true, true, true, true, false, false, false, false, false, false]) (by kernel_rfl) rfl (wg_off rfl (rfl) rfl) hS_ ?_
        refine D_skip (d := 58) (op := .fieldAddr _ _ _) (gd := some (15, true)) (i := 21) (by kernel_rfl) (by kernel_rfl) (by kernel_rfl) (listed2 := #[true, true, true, true, true, true, true, true, true, true, true, true, true, true, true, true, true, true, true, true, true, true, false, false, false, false, false]) (by kernel_rfl) rfl (wg_off rfl (rfl) rfl) hS_ ?_
        refine D_skip (d := 59) (op := .load _ _) (gd := some (15, true)) (i := 22) (by kernel_rfl) (by kernel_rfl) (by kernel_rfl) (listed2 := #[true, true, true, true, true, true, true, true, true, true, true, true, true, true, true, true, true, true, true, true, true, true, true, false, false, false, false]) (by kernel_rfl) rfl (wg_off rfl (rfl) rfl) hS_ ?_
        refine D_skip (d := 60) (op := .call _) (gd := some (15, true)) (i := 23) (by kernel_rfl) (by kernel_rfl) (by kernel_rfl) (listed2 := #[true, true, true, true, true, true, true, true, true, true, true, true, true, true, true, true, true, true, true, true, true, true, true, true, false, false, false]) (by kernel_rfl) rfl (wg_off rfl (rfl) rfl) hS_ ?_
        refine D_skip (d := 61) (op := .unOp _ _ _) (gd := some (15, true)) (i := 24) (by kernel_rfl) (by kernel_rfl) (by kernel_rfl) (listed2 := #[true, true, true, true, true, true, true, true, true, true, true, true, true, true, true, true, true, true, true, true, true, true, true, true, true, false, false]) (by kernel_rfl) rfl (wg_off rfl (rfl) rfl) hS_ ?_
        refine D_pick (i := 25) (by kernel_rfl) (by kernel_rfl) (by kernel_rfl) (listed2 := #[true, true, true, true, true, true, true, true, true, true, true, true, true, true, true, true, true, true, true, true, true, true, true, true, true, true, false]) (by kernel_rfl) rfl rfl rfl rfl rfl (b := false) (rfl) (v := (.bool false)) (rfl) hS_ ?_
        refine D_pick (i := 26) (by kernel_rfl) (by kernel_rfl) (by kernel_rfl) (listed2 := #[true, true, true, true, true, true, true, true, true, true, true, true, true, true, true, true, true, true, true, true, true, true, true, true, true, true, true]) (by kernel_rfl) rfl rfl rfl rfl rfl (b := false) (rfl) (v := (.bool false)) (rfl) hS_ ?_
        refine D_done (by kernel_rfl) ?_
        change WP _ _ _ _ _ _
        refine W_cond rfl (b := false) (rfl) (fun h => (by cases h)) (fun _ => ?_)
        refine W_skip ?_
        change WP _ _ _ _ _ _
        refine W_region rfl ?_
        refine S_move rfl rfl rfl (v := (.int .i64 (j : Int))) (s5) ?_
        refine S_add64 rfl rfl rfl rfl (rfl) (rfl) (by omega) ?_
        refine S_assign rfl rfl rfl (v := (.int .i64 ((j : Int) + 1))) (rfl) ?_
        refine OPS.nil ?_
        exact ⟨q - 1, by omega, j + 1, s0, s3, s4, int_eq (by omega), by omega, HB, b1, E⟩
    · skip
      replace hq34 := of_decide_eq_false hq34
      refine W_exit ?_
      change WP _ _ _ _ _ _
      refine W_region rfl ?_
      refine S_move rfl rfl rfl (v := (.int .i64 (i : Int))) (s3) ?_
      refine S_add64 rfl rfl rfl rfl (rfl) (rfl) (by omega) ?_
      refine S_assign rfl rfl rfl (v := (.int .i64 ((i : Int) + 1))) (rfl) ?_
      refine OPS.nil ?_
      exact ⟨k - 1, by omega, i + 1, s0, int_eq (by omega), by omega, HB, E⟩
  · skip
    replace hq12 := of_decide_eq_false hq12
    refine W_exit ?_
    change WP _ _ _ _ _ _
    refine W_seq ?_
    refine W_region rfl ?_
    refine S_assign rfl rfl rfl (v := (.bool true)) (rfl) ?_
    refine OPS.nil ?_
    change WP _ _ _ _ _ _
    refine W_ret ?_
    change Fin' _ _ _ _ _ _
    refine End1 (n := ⟨64, []⟩) (t := 2) rfl (by decide) (v := (.bool true)) (rfl) ?_
    exact ⟨E, rfl, HB⟩

end Go.Proofs.YtccmicegihlfbaaGreatDoor
