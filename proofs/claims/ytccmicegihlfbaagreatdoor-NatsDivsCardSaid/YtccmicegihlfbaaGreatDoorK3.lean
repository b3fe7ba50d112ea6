/- The rounds of a book: all lists are marked. -/
import Derived.Test.YtccmicegihlfbaaGreatDoorK2
import Derived.Test.YtccmicegihlfbaaGreatDoorTy
set_option linter.unusedVariables false
set_option linter.unusedSimpArgs false
namespace Go.Proofs.YtccmicegihlfbaaGreatDoor
open Go.RowKit

set_option maxHeartbeats 400000 in
theorem markInt32_c (w0 : World) (n : Int) (hn : 0 ≤ n ∧ n ≤ 1000000) :
    Ret Tryz.prog 209 [.int .i64 n] w0 (fun r w1 => r = .int .u32 (1000 + n) ∧ w0 = w1) := by
  refine Ret_of (n := 6) Tryz.func209 rfl rfl (Nat.le_of_ble_eq_true rfl) ?_
  refine W_seq ?_
  refine W_region rfl ?_
  refine S_assign rfl rfl rfl (v := (.int .u32 0)) (rfl) ?_
  refine OPS.nil ?_
  change WP _ _ _ _ _ _
  refine W_seq ?_
  refine W_region rfl ?_
  refine S_move rfl rfl rfl (v := .int .i64 n) (rfl) ?_
  refine S_add64 rfl rfl rfl rfl (rfl) (rfl) (by omega) ?_
  refine S_conv Tryz.underlying3 Tryz.underlying106 rfl rfl rfl (rfl) (b := (1000 + n)) (wrap_u32 (by omega) (by omega)) ?_
  refine S_assign rfl rfl rfl (v := (.int .u32 (1000 + n))) (rfl) ?_
  refine OPS.nil ?_
  change WP _ _ _ _ _ _
  refine W_ret ?_
  change Fin' _ _ _ _ _ _
  refine End1 (n := ⟨6, []⟩) (t := 2) rfl (by decide) (v := (.int .u32 (1000 + n))) (rfl) ?_
  exact ⟨rfl, rfl⟩

set_option maxHeartbeats 400000 in
theorem markRat_c (w0 : World) (n : Int) (hn : 0 ≤ n ∧ n ≤ 1000000) :
    Ret Tryz.prog 215 [.int .i64 n] w0 (fun r w1 => Below w0.heap.size w0 w1 ∧ ∃ g, r = .agg #[.bool false, .slice none 0 0, .slice (some ⟨g, 0, none⟩) 1 1] ∧ ON w0.heap.size w1 (.slice (some ⟨g, 0, none⟩) 1 1) [1000 + n]) := by
  have E := Below.refl w0.heap.size w0
  refine Ret_of (n := 8) Tryz.func215 rfl rfl (Nat.le_of_ble_eq_true rfl) ?_
  refine W_seq ?_
  refine W_region rfl ?_
  refine S_alloc ti_api_Rat rfl rfl (cs := [.bool false, .slice none 0 0, .slice none 0 0]) rfl ?_
  intro g1 w1 hg1 hs1 hB1 b1
  have hz1 := hB1.size
  have E := Below.step E hB1
  refine OPS.nil ?_
  change WP _ _ _ _ _ _
  refine W_seq ?_
  refine W_region rfl ?_
  refine S_move rfl rfl rfl (v := .int .i64 n) (rfl) ?_
  refine S_add64 rfl rfl rfl rfl (rfl) (rfl) (by omega) ?_
  refine S_conv Tryz.underlying3 Tryz.underlying106 rfl rfl rfl (rfl) (b := (1000 + n)) (wrap_u32 (by omega) (by omega)) ?_
  refine S_lit Tryz.underlying23 ti_uint32 rfl rfl (by decide) (by decide) rfl (vs := [(.int .u32 (1000 + n))]) (cs := [(.int .u32 (1000 + n))]) rfl rfl (by simp [Value.cells]) rfl ?_
  intro g2 w2 hg2 hs2 hB2 b2
  have hz2 := hB2.size
  have E := Below.step E hB2
  have hl_b1 := b1.lt
  have b1 := b1.below hB2
  replace b2 : Blk w2 g2 (nums .u32 [(1000 + n)]) 106 := b2
  refine S_build rfl rfl rfl (cs := [.bool false, .slice none 0 0, (.slice (some ⟨g2, 0, none⟩) 1 1)]) (by kernel_rfl) ?_
  refine S_store ti_api_Rat rfl rfl rfl rfl (g := g1) (o := 0) (rfl) (v := (.agg #[.bool false, .slice none 0 0, (.slice (some ⟨g2, 0, none⟩) 1 1)])) (rfl) (vs := [.bool false, .slice none 0 0, (.slice (some ⟨g2, 0, none⟩) 1 1)]) rfl rfl (by simp [Value.oneCell']) b1 (by simp) (cs' := [.bool false, .slice none 0 0, (.slice (some ⟨g2, 0, none⟩) 1 1)]) rfl ?_
  intro w3 hU3 b1
  have E := Below.stepU E hU3 (by omega)
  have b2 := b2.upd hU3 (by omega)
  have hz3 := hU3.size
  refine OPS.nil ?_
  change WP _ _ _ _ _ _
  refine W_ret ?_
  change Fin' _ _ _ _ _ _
  refine EndC (n := ⟨8, []⟩) (t := 2) rfl (by decide) (rfl) (LD.blk ti_api_Rat b1 (l := [.bool false, .slice none 0 0, (.slice (some ⟨g2, 0, none⟩) 1 1)]) rfl rfl) ?_
  exact ⟨E, g2, rfl, ON.mkNums (k := 1) b2 (U32.mk (by omega) (by omega) U32.nil) (by omega) (Nat.le_refl _) (by simp)⟩

set_option maxHeartbeats 400000 in
theorem fillInt32_c (w0 : World) {B : Nat} (kb : Nat) (no : Int) (vI vR : Value) (I R : List HE) (O : List OV) (HB : BOOK B kb w0 no vI vR I R O) (hX : ∀ h ∈ I, PK false h) (hB : B ≤ kb) :
    Ret Tryz.prog 102 [(.pointer (some ⟨kb, 0, none⟩))] w0 (fun r w1 => Below B w0 w1 ∧ ∃ I' O', BOOK B kb w1 no vI vR I' R O' ∧ I'.length = I.length ∧ (∀ h ∈ I', PF false O' h) ∧ (∀ o ∈ O, o ∈ O')) := by
  have E := Below.refl B w0
  have hB0 : B ≤ w0.heap.size := by have := HB.blk.lt; omega
  refine Ret_of (n := 35) Tryz.func102 rfl rfl (Nat.le_of_ble_eq_true rfl) ?_
  refine W_seq ?_
  refine W_region rfl ?_
  refine S_assign rfl rfl rfl (v := (.int .i64 0)) (rfl) ?_
  refine OPS.nil ?_
  change WP _ _ _ _ _ _
  refine W_block ?_
  refine W_loop (fun k σ w => ∃ (i : Nat) (X1 X2 : List HE) (O' : List OV), σ 0 = .pointer (some ⟨kb, 0, none⟩) ∧ σ 2 = .int .i64 (i : Int) ∧ X1.length = i ∧ X2.length = k ∧ i + k = I.length ∧ BOOK B kb w no vI vR (X1 ++ X2) R O' ∧ (∀ h ∈ X1, PF false O' h) ∧ (∀ h ∈ X2, PK false h) ∧ (∀ o ∈ O, o ∈ O') ∧ Below B w0 w) (I.length) ⟨0, [], I, O, rfl, rfl, rfl, rfl, by omega, HB, fun _ h => (by cases h), hX, fun _ h => h, E⟩ ?_
  rintro k σ w ⟨i, X1, X2, O', s0, s2, hX1, hX2, hik, HB, hF, hP, hO, E⟩
  have hxl : (X1 ++ X2).length = i + k := by simp; omega
  have hml := HB.rowI.rc.le
  refine W_seq ?_
  refine W_seq ?_
  refine W_region rfl ?_
  refine S_move rfl rfl rfl (v := (.int .i64 (i : Int))) (s2) ?_
  refine S_move rfl rfl rfl (v := (.pointer (some ⟨kb, 0, none⟩))) (s0) ?_
  refine S_nil rfl rfl rfl (rfl) ?_
  refine S_field ft_assayerlaw01_Book_2 rfl rfl rfl (g := kb) (o := 0) (rfl) (o' := 2) rfl ?_
  refine S_load rfl rfl rfl (rfl) (LD.blk1 ti_Lassayerlaw01_heldInt32 HB.blk (v := vI) rfl) ?_
  refine S_len Tryz.underlying33 rfl rfl rfl (rfl) (m := (X1 ++ X2).length) (HB.rowI.len) ?_
  refine S_bin rfl rfl rfl rfl rfl (rfl) (rfl) rfl ?_
  refine OPS.nil ?_
  change WP _ _ _ _ _ _
  refine W_cond rfl (rfl) (fun hq11 => ?_) (fun hq11 => ?_)
  · skip
    replace hq11 := of_decide_eq_true hq11
    obtain ⟨h0, X3, rfl⟩ : ∃ h Y, X2 = h :: Y := by
      cases X2 with
      | nil => simp at hX2; omega
      | cons h Y => exact ⟨h, Y, rfl⟩
    have hk1 := hP h0 (by simp)
    have hok := HB.okI (h := h0) (by simp)
    obtain ⟨A, m, c, n, xs, rfl, hn, hm⟩ := hk1.form hok
    have hlt := HB.lt
    have hkl := HB.blk.lt
    have hgA : ∀ g, bk (.slice A m c) = some g → g < w.heap.size := hlt _ (BOOK.memI (h := ⟨.slice A m c, .slice none 0 0, n, ⟨.slice A m c, kty false, ksz false, m, xs⟩⟩) (by simp))
    refine W_skip ?_
    change WP _ _ _ _ _ _
    refine W_seq ?_
    refine W_block ?_
    refine W_seq ?_
    refine W_region rfl ?_
    refine S_move rfl rfl rfl (v := (.pointer (some ⟨kb, 0, none⟩))) (s0) ?_
    refine S_nil rfl rfl rfl (rfl) ?_
    refine S_field ft_assayerlaw01_Book_2 rfl rfl rfl (g := kb) (o := 0) (rfl) (o' := 2) rfl ?_
    refine S_load rfl rfl rfl (rfl) (LD.blk1 ti_Lassayerlaw01_heldInt32 HB.blk (v := vI) rfl) ?_
    refine S_move rfl rfl rfl (v := (.int .i64 (i : Int))) (s2) ?_
    obtain ⟨ad1, hp1, hc1⟩ := HB.atI
    refine S_idx Tryz.underlying33 ti_assayerlaw01_heldInt32 rfl rfl rfl rfl (rfl) (rfl) hp1 (by omega) ?_
    refine S_load rfl rfl rfl (rfl) (LD.cells ti_assayerlaw01_heldInt32 hc1 rfl) ?_
    refine S_alloc ti_assayerlaw01_heldInt32 rfl rfl (cs := [.slice none 0 0, .slice none 0 0, .int .i64 0]) rfl ?_
    intro g1 w1 hg1 hs1 hB1 b1
    have hz1 := hB1.size
    have E := Below.step E hB1 hB0
    have HB := HB.below hB1
    refine S_store ti_assayerlaw01_heldInt32 rfl rfl rfl rfl (g := g1) (o := 0) (rfl) (v := (.agg #[(.slice A m c), (.slice none 0 0), (.int .i64 n)])) (rfl) (vs := [(.slice A m c), (.slice none 0 0), (.int .i64 n)]) rfl rfl (by simp [Value.oneCell']) b1 (by simp) (cs' := [(.slice A m c), (.slice none 0 0), (.int .i64 n)]) rfl ?_
    intro w2 hU2 b1
    have E := Below.stepU E hU2 (by omega)
    have HB := HB.updHi hU2 hlt hkl (by omega)
    have hz2 := hU2.size
    refine OPS.nil ?_
    change WP _ _ _ _ _ _
    refine W_seq ?_
    refine W_region rfl ?_
    refine S_assign rfl rfl rfl (v := (.int .i64 0)) (rfl) ?_
    refine OPS.nil ?_
    change WP _ _ _ _ _ _
    refine W_block ?_
    refine W_loop (fun q σ w => ∃ (j : Nat) (h1 : HE) (O2 : List OV), σ 0 = .pointer (some ⟨kb, 0, none⟩) ∧ σ 2 = .int .i64 (i : Int) ∧ σ 3 = .pointer (some ⟨g1, 0, none⟩) ∧ σ 4 = .int .i64 (j : Int) ∧ j + q = m ∧ BOOK B kb w no vI vR (X1 ++ h1 :: X3) R O2 ∧ PP false O2 h1 j ∧ h1.l = (.slice A m c) ∧ h1.no = n ∧ h1.o.v = (.slice A m c) ∧ h1.o.m = m ∧ Blk w g1 [(.slice A m c), (.slice none 0 0), (.int .i64 n)] 158 ∧ (∀ o ∈ O', o ∈ O2) ∧ Below B w0 w) (m) ⟨0, _, O', s0, s2, rfl, rfl, by omega, HB, PP.start hk1, rfl, rfl, rfl, rfl, b1, fun _ ho => ho, E⟩ ?_
    rintro q σ w ⟨j, h1, O2, s0, s2, s3, s4, hjq, HB, hPP, hl1, hn1, hv1, hm1, b1, hO2, E⟩
    refine W_seq ?_
    refine W_seq ?_
    refine W_region rfl ?_
    refine S_move rfl rfl rfl (v := (.int .i64 (j : Int))) (s4) ?_
    refine S_field ft_assayerlaw01_heldInt32_0 rfl rfl rfl (g := g1) (o := 0) (s3) (o' := 0) rfl ?_
    refine S_load rfl rfl rfl (rfl) (LD.blk1 ti_Luint32 b1 (v := (.slice A m c)) rfl) ?_
    refine S_len Tryz.underlying22 rfl rfl rfl (rfl) (m := m) (⟨_, _, rfl⟩) ?_
    refine S_bin rfl rfl rfl rfl rfl (rfl) (rfl) rfl ?_
    refine OPS.nil ?_
    change WP _ _ _ _ _ _
    refine W_cond rfl (rfl) (fun hq25 => ?_) (fun hq25 => ?_)
    · skip
      replace hq25 := of_decide_eq_true hq25
      have hok1 := HB.okI (h := h1) (by simp)
      have hrow : Row B 106 1 w (.slice A m c) m h1.o.xs := by
        have := hok1
        unfold OV.ok at this
        rw [hv1, hm1, hPP.1.2.2.2.1, hPP.1.2.2.2.2.1] at this
        exact this
      obtain ⟨g, c2, e1, hc0, hbk, hmc⟩ := hrow.form (by omega)
      have eA : A = some ⟨g, 0, none⟩ := by cases e1; rfl
      have ec : c = c2 := by cases e1; rfl
      subst ec
      have hgg := hgA g hbk
      refine W_skip ?_
      change WP _ _ _ _ _ _
      refine W_seq ?_
      refine W_block ?_
      refine D_begin mixed_ rfl rfl (fun w_ => Blk w_ g1 [(.slice A m c), (.slice none 0 0), (.int .i64 n)] 158) ?_
      intro w3 hB3 hz_3
      have hz3 := hB3.size
      have E := Below.step E hB3 hB0
      have HB := HB.below hB3
      have hl_b1 := b1.lt
      have b1 := b1.below hB3
      have hS_ := b1
      have E_S := E
      have HB_S := HB
      have b1_S := b1
      refine D_field ft_assayerlaw01_heldInt32_0 (i := 0) (by kernel_rfl) (by kernel_rfl) (by kernel_rfl) (listed2 := #[true, false, false, false, false, false, false, false]) (by kernel_rfl) rfl rfl rfl (g := g1) (o := 0) (s3) (o' := 0) rfl hS_ ?_
      refine D_load (i := 1) (by kernel_rfl) (by kernel_rfl) (by kernel_rfl) (listed2 := #[true, true, false, false, false, false, false, false]) (by kernel_rfl) rfl rfl rfl (rfl) (fun _ hS2 => LD.blk1 ti_Luint32 hS2 (v := (.slice A m c)) rfl) hS_ ?_
      refine D_move (i := 2) (by kernel_rfl) (by kernel_rfl) (by kernel_rfl) (listed2 := #[true, true, true, false, false, false, false, false]) (by kernel_rfl) rfl rfl rfl (v := (.int .i64 (j : Int))) (s4) hS_ ?_
      refine D_field ft_assayerlaw01_heldInt32_2 (i := 3) (by kernel_rfl) (by kernel_rfl) (by kernel_rfl) (listed2 := #[true, true, true, true, false, false, false, false]) (by kernel_rfl) rfl rfl rfl (g := g1) (o := 0) (s3) (o' := 2) rfl hS_ ?_
      refine D_load (i := 4) (by kernel_rfl) (by kernel_rfl) (by kernel_rfl) (listed2 := #[true, true, true, true, true, false, false, false]) (by kernel_rfl) rfl rfl rfl (rfl) (fun _ hS2 => LD.blk1 ti_int hS2 (v := (.int .i64 n)) rfl) hS_ ?_
      refine D_only (i := 5) (by kernel_rfl) (listed2 := #[true, true, true, true, true, true, false, false]) (by kernel_rfl) ?_
      refine S_call en_assayerlaw01_markInt32 rfl rfl rfl (vs := [(.int .i64 n)]) (rfl) (markInt32_c _ n hn) ?_
      rintro _ _ ⟨rfl, rfl⟩
      have hS_ := b1
      refine OPS.nil ⟨hS_, ?_⟩
      refine D_idx Tryz.underlying22 ti_uint32 (i := 6) (by kernel_rfl) (by kernel_rfl) (by kernel_rfl) (listed2 := #[true, true, true, true, true, true, true, false]) (by kernel_rfl) rfl rfl rfl rfl (v := .slice A m c) (rfl) (rfl) (m := m) (j := j) (ad := ⟨g, j * 1, none⟩) ⟨⟨g, 0, none⟩, c, by rw [eA], by omega, by rw [add_plain]; simp⟩ (by omega) hS_ ?_
      refine D_only (i := 7) (by kernel_rfl) (listed2 := #[true, true, true, true, true, true, true, true]) (by kernel_rfl) ?_
      have hok2 := HB.okI (h := h1) (by simp)
      have hrow2 : Row B 106 1 w3 (.slice (some ⟨g, 0, none⟩) m c) m h1.o.xs := by
        have := hok2
        unfold OV.ok at this
        rw [hv1, hm1, hPP.1.2.2.2.1, hPP.1.2.2.2.2.1, eA] at this
        exact this
      refine S_storeR ti_uint32 rfl rfl rfl rfl hrow2 hc0 (rfl) (rfl) (vs := [.int .u32 (1000 + n)]) rfl rfl (by simp [Value.oneCell']) (by simp; omega) ?_
      intro w4 hU hr
      have hd : MC false O2 h1.no [.int .u32 (1000 + n)] := by rw [hn1]; exact rfl
      have hPP := hPP.step hok2 (by omega) hd
      have HB := HB.updI (o := { h1.o with xs := putAt h1.o.xs (j * ksz false) [.int .u32 (1000 + n)] }) hU (by rw [hv1]; exact hbk) rfl (by unfold OV.ok; simp only []; rw [hv1, hm1, hPP.1.2.2.2.1, hPP.1.2.2.2.2.1, eA]; exact hr)
      have b1 := b1.upd hU (by omega)
      have E := Below.stepU E hU (hrow2.bkB g (bk_some hc0)).1
      have hS_ := b1
      refine OPS.nil ⟨hS_, ?_⟩
      refine D_done (by kernel_rfl) ?_
      change WP _ _ _ _ _ _
      refine W_region rfl ?_
      refine S_move rfl rfl rfl (v := (.int .i64 (j : Int))) (s4) ?_
      refine S_add64 rfl rfl rfl rfl (rfl) (rfl) (by omega) ?_
      refine S_assign rfl rfl rfl (v := (.int .i64 ((j : Int) + 1))) (rfl) ?_
      refine OPS.nil ?_
      exact ⟨q - 1, by omega, j + 1, _, O2, s0, s2, s3, int_eq (by omega), by omega, HB, hPP, hl1, hn1, hv1, hm1, b1, hO2, E⟩
    · skip
      replace hq25 := of_decide_eq_false hq25
      refine W_exit ?_
      change WP _ _ _ _ _ _
      refine W_region rfl ?_
      have hjm : j = m := by omega
      have hPF := PP.done (h := h1) (by rw [hm1, ← hjm]; exact hPP) (HB.okI (h := h1) (by simp))
      refine S_move rfl rfl rfl (v := (.int .i64 (i : Int))) (s2) ?_
      refine S_add64 rfl rfl rfl rfl (rfl) (rfl) (by omega) ?_
      refine S_assign rfl rfl rfl (v := (.int .i64 ((i : Int) + 1))) (rfl) ?_
      refine OPS.nil ?_
      refine ⟨k - 1, by omega, i + 1, X1 ++ [h1], X3, O2, s0, int_eq (by omega), by simp; omega, by simp at hX2; omega, by omega, by rw [List.append_assoc]; exact HB, fun p hp => ?_, fun p hp => hP p (by simp [hp]), fun o ho => hO2 _ (hO o ho), E⟩
      rcases List.mem_append.1 hp with hp | hp
      · exact (hF p hp).mono hO2
      · rw [List.mem_singleton] at hp; subst hp; exact hPF
  · skip
    replace hq11 := of_decide_eq_false hq11
    refine W_exit ?_
    change Fin' _ _ _ _ _ _
    exact End0 rfl ⟨E, X1 ++ X2, O', HB, by rw [hxl]; omega, fun p hp => (List.mem_append.1 hp).elim (hF p) (fun hp => by cases X2 with | nil => cases hp | cons x l => simp at hX2; omega), hO⟩

set_option maxHeartbeats 400000 in
theorem fillRat_c (w0 : World) {B : Nat} (kb : Nat) (no : Int) (vI vR : Value) (I R : List HE) (O : List OV) (HB : BOOK B kb w0 no vI vR I R O) (hX : ∀ h ∈ R, PK true h) (hB : B ≤ kb) :
    Ret Tryz.prog 108 [(.pointer (some ⟨kb, 0, none⟩))] w0 (fun r w1 => Below B w0 w1 ∧ ∃ R' O', BOOK B kb w1 no vI vR I R' O' ∧ R'.length = R.length ∧ (∀ h ∈ R', PF true O' h) ∧ (∀ o ∈ O, o ∈ O')) := by
  have E := Below.refl B w0
  have hB0 : B ≤ w0.heap.size := by have := HB.blk.lt; omega
  refine Ret_of (n := 35) Tryz.func108 rfl rfl (Nat.le_of_ble_eq_true rfl) ?_
  refine W_seq ?_
  refine W_region rfl ?_
  refine S_assign rfl rfl rfl (v := (.int .i64 0)) (rfl) ?_
  refine OPS.nil ?_
  change WP _ _ _ _ _ _
  refine W_block ?_
  refine W_loop (fun k σ w => ∃ (i : Nat) (X1 X2 : List HE) (O' : List OV), σ 0 = .pointer (some ⟨kb, 0, none⟩) ∧ σ 2 = .int .i64 (i : Int) ∧ X1.length = i ∧ X2.length = k ∧ i + k = R.length ∧ BOOK B kb w no vI vR I (X1 ++ X2) O' ∧ (∀ h ∈ X1, PF true O' h) ∧ (∀ h ∈ X2, PK true h) ∧ (∀ o ∈ O, o ∈ O') ∧ Below B w0 w) (R.length) ⟨0, [], R, O, rfl, rfl, rfl, rfl, by omega, HB, fun _ h => (by cases h), hX, fun _ h => h, E⟩ ?_
  rintro k σ w ⟨i, X1, X2, O', s0, s2, hX1, hX2, hik, HB, hF, hP, hO, E⟩
  have hxl : (X1 ++ X2).length = i + k := by simp; omega
  have hml := HB.rowH.rc.le
  refine W_seq ?_
  refine W_seq ?_
  refine W_region rfl ?_
  refine S_move rfl rfl rfl (v := (.int .i64 (i : Int))) (s2) ?_
  refine S_move rfl rfl rfl (v := (.pointer (some ⟨kb, 0, none⟩))) (s0) ?_
  refine S_nil rfl rfl rfl (rfl) ?_
  refine S_field ft_assayerlaw01_Book_8 rfl rfl rfl (g := kb) (o := 0) (rfl) (o' := 8) rfl ?_
  refine S_load rfl rfl rfl (rfl) (LD.blk1 ti_Lassayerlaw01_heldRat HB.blk (v := vR) rfl) ?_
  refine S_len Tryz.underlying39 rfl rfl rfl (rfl) (m := (X1 ++ X2).length) (HB.rowH.len) ?_
  refine S_bin rfl rfl rfl rfl rfl (rfl) (rfl) rfl ?_
  refine OPS.nil ?_
  change WP _ _ _ _ _ _
  refine W_cond rfl (rfl) (fun hq11 => ?_) (fun hq11 => ?_)
  · skip
    replace hq11 := of_decide_eq_true hq11
    obtain ⟨h0, X3, rfl⟩ : ∃ h Y, X2 = h :: Y := by
      cases X2 with
      | nil => simp at hX2; omega
      | cons h Y => exact ⟨h, Y, rfl⟩
    have hk1 := hP h0 (by simp)
    have hok := HB.okR (h := h0) (by simp)
    obtain ⟨A, m, c, n, xs, rfl, hn, hm⟩ := hk1.form hok
    have hlt := HB.lt
    have hkl := HB.blk.lt
    have hgA : ∀ g, bk (.slice A m c) = some g → g < w.heap.size := hlt _ (BOOK.memR (h := ⟨.slice A m c, .slice none 0 0, n, ⟨.slice A m c, kty true, ksz true, m, xs⟩⟩) (by simp))
    refine W_skip ?_
    change WP _ _ _ _ _ _
    refine W_seq ?_
    refine W_block ?_
    refine W_seq ?_
    refine W_region rfl ?_
    refine S_move rfl rfl rfl (v := (.pointer (some ⟨kb, 0, none⟩))) (s0) ?_
    refine S_nil rfl rfl rfl (rfl) ?_
    refine S_field ft_assayerlaw01_Book_8 rfl rfl rfl (g := kb) (o := 0) (rfl) (o' := 8) rfl ?_
    refine S_load rfl rfl rfl (rfl) (LD.blk1 ti_Lassayerlaw01_heldRat HB.blk (v := vR) rfl) ?_
    refine S_move rfl rfl rfl (v := (.int .i64 (i : Int))) (s2) ?_
    obtain ⟨ad1, hp1, hc1⟩ := HB.atR
    refine S_idx Tryz.underlying39 ti_assayerlaw01_heldRat rfl rfl rfl rfl (rfl) (rfl) hp1 (by omega) ?_
    refine S_load rfl rfl rfl (rfl) (LD.cells ti_assayerlaw01_heldRat hc1 rfl) ?_
    refine S_alloc ti_assayerlaw01_heldRat rfl rfl (cs := [.slice none 0 0, .slice none 0 0, .int .i64 0]) rfl ?_
    intro g1 w1 hg1 hs1 hB1 b1
    have hz1 := hB1.size
    have E := Below.step E hB1 hB0
    have HB := HB.below hB1
    refine S_store ti_assayerlaw01_heldRat rfl rfl rfl rfl (g := g1) (o := 0) (rfl) (v := (.agg #[(.slice A m c), (.slice none 0 0), (.int .i64 n)])) (rfl) (vs := [(.slice A m c), (.slice none 0 0), (.int .i64 n)]) rfl rfl (by simp [Value.oneCell']) b1 (by simp) (cs' := [(.slice A m c), (.slice none 0 0), (.int .i64 n)]) rfl ?_
    intro w2 hU2 b1
    have E := Below.stepU E hU2 (by omega)
    have HB := HB.updHi hU2 hlt hkl (by omega)
    have hz2 := hU2.size
    refine OPS.nil ?_
    change WP _ _ _ _ _ _
    refine W_seq ?_
    refine W_region rfl ?_
    refine S_assign rfl rfl rfl (v := (.int .i64 0)) (rfl) ?_
    refine OPS.nil ?_
    change WP _ _ _ _ _ _
    refine W_block ?_
    refine W_loop (fun q σ w => ∃ (j : Nat) (h1 : HE) (O2 : List OV), σ 0 = .pointer (some ⟨kb, 0, none⟩) ∧ σ 2 = .int .i64 (i : Int) ∧ σ 3 = .pointer (some ⟨g1, 0, none⟩) ∧ σ 4 = .int .i64 (j : Int) ∧ j + q = m ∧ BOOK B kb w no vI vR I (X1 ++ h1 :: X3) O2 ∧ PP true O2 h1 j ∧ h1.l = (.slice A m c) ∧ h1.no = n ∧ h1.o.v = (.slice A m c) ∧ h1.o.m = m ∧ Blk w g1 [(.slice A m c), (.slice none 0 0), (.int .i64 n)] 183 ∧ (∀ o ∈ O', o ∈ O2) ∧ Below B w0 w) (m) ⟨0, _, O', s0, s2, rfl, rfl, by omega, HB, PP.start hk1, rfl, rfl, rfl, rfl, b1, fun _ ho => ho, E⟩ ?_
    rintro q σ w ⟨j, h1, O2, s0, s2, s3, s4, hjq, HB, hPP, hl1, hn1, hv1, hm1, b1, hO2, E⟩
    refine W_seq ?_
    refine W_seq ?_
    refine W_region rfl ?_
    refine S_move rfl rfl rfl (v := (.int .i64 (j : Int))) (s4) ?_
    refine S_field ft_assayerlaw01_heldRat_0 rfl rfl rfl (g := g1) (o := 0) (s3) (o' := 0) rfl ?_
    refine S_load rfl rfl rfl (rfl) (LD.blk1 ti_Lapi_Rat b1 (v := (.slice A m c)) rfl) ?_
    refine S_len Tryz.underlying49 rfl rfl rfl (rfl) (m := m) (⟨_, _, rfl⟩) ?_
    refine S_bin rfl rfl rfl rfl rfl (rfl) (rfl) rfl ?_
    refine OPS.nil ?_
    change WP _ _ _ _ _ _
    refine W_cond rfl (rfl) (fun hq25 => ?_) (fun hq25 => ?_)
    · skip
      replace hq25 := of_decide_eq_true hq25
      have hok1 := HB.okR (h := h1) (by simp)
      have hrow : Row B 70 3 w (.slice A m c) m h1.o.xs := by
        have := hok1
        unfold OV.ok at this
        rw [hv1, hm1, hPP.1.2.2.2.1, hPP.1.2.2.2.2.1] at this
        exact this
      obtain ⟨g, c2, e1, hc0, hbk, hmc⟩ := hrow.form (by omega)
      have eA : A = some ⟨g, 0, none⟩ := by cases e1; rfl
      have ec : c = c2 := by cases e1; rfl
      subst ec
      have hgg := hgA g hbk
      refine W_skip ?_
      change WP _ _ _ _ _ _
      refine W_seq ?_
      refine W_block ?_
      refine D_begin mixed_ rfl rfl (fun w_ => Blk w_ g1 [(.slice A m c), (.slice none 0 0), (.int .i64 n)] 183) ?_
      intro w3 hB3 hz_3
      have hz3 := hB3.size
      have E := Below.step E hB3 hB0
      have HB := HB.below hB3
      have hl_b1 := b1.lt
      have b1 := b1.below hB3
      have hS_ := b1
      have E_S := E
      have HB_S := HB
      have b1_S := b1
      refine D_field ft_assayerlaw01_heldRat_0 (i := 0) (by kernel_rfl) (by kernel_rfl) (by kernel_rfl) (listed2 := #[true, false, false, false, false, false, false, false]) (by kernel_rfl) rfl rfl rfl (g := g1) (o := 0) (s3) (o' := 0) rfl hS_ ?_
      refine D_load (i := 1) (by kernel_rfl) (by kernel_rfl) (by kernel_rfl) (listed2 := #[true, true, false, false, false, false, false, false]) (by kernel_rfl) rfl rfl rfl (rfl) (fun _ hS2 => LD.blk1 ti_Lapi_Rat hS2 (v := (.slice A m c)) rfl) hS_ ?_
      refine D_move (i := 2) (by kernel_rfl) (by kernel_rfl) (by kernel_rfl) (listed2 := #[true, true, true, false, false, false, false, false]) (by kernel_rfl) rfl rfl rfl (v := (.int .i64 (j : Int))) (s4) hS_ ?_
      refine D_field ft_assayerlaw01_heldRat_2 (i := 3) (by kernel_rfl) (by kernel_rfl) (by kernel_rfl) (listed2 := #[true, true, true, true, false, false, false, false]) (by kernel_rfl) rfl rfl rfl (g := g1) (o := 0) (s3) (o' := 2) rfl hS_ ?_
      refine D_load (i := 4) (by kernel_rfl) (by kernel_rfl) (by kernel_rfl) (listed2 := #[true, true, true, true, true, false, false, false]) (by kernel_rfl) rfl rfl rfl (rfl) (fun _ hS2 => LD.blk1 ti_int hS2 (v := (.int .i64 n)) rfl) hS_ ?_
      refine D_only (i := 5) (by kernel_rfl) (listed2 := #[true, true, true, true, true, true, false, false]) (by kernel_rfl) ?_
      have HBold := HB
      refine S_call en_assayerlaw01_markRat rfl rfl rfl (vs := [(.int .i64 n)]) (rfl) (markRat_c _ n hn) ?_
      rintro _ w4 ⟨hB4, gm, rfl, hm2⟩
      have hz4 := hB4.size
      have E := Below.step E hB4 hB0
      have HB := HB.below hB4
      have hl_b1 := b1.lt
      have b1 := b1.below hB4
      have HBm := HBold.new (o := ovN (.slice (some ⟨gm, 0, none⟩) 1 1) [1000 + n]) (by assumption) (fun k hk => (hm2.bkB k hk).1) (hm2.mono (by have := HBold.blk.lt; omega)).ov
      have hS_ := b1
      refine OPS.nil ⟨hS_, ?_⟩
      refine D_idx Tryz.underlying49 ti_api_Rat (i := 6) (by kernel_rfl) (by kernel_rfl) (by kernel_rfl) (listed2 := #[true, true, true, true, true, true, true, false]) (by kernel_rfl) rfl rfl rfl rfl (v := .slice A m c) (rfl) (rfl) (m := m) (j := j) (ad := ⟨g, j * 3, none⟩) ⟨⟨g, 0, none⟩, c, by rw [eA], by omega, by rw [add_plain]; simp⟩ (by omega) hS_ ?_
      refine D_only (i := 7) (by kernel_rfl) (listed2 := #[true, true, true, true, true, true, true, true]) (by kernel_rfl) ?_
      have HB := HBm
      have hPP := hPP.mono (O' := (ovN (.slice (some ⟨gm, 0, none⟩) 1 1) [1000 + n] :: O2)) (fun o ho => List.mem_cons_of_mem _ ho)
      have hok2 := HB.okR (h := h1) (by simp)
      have hrow2 : Row B 70 3 w4 (.slice (some ⟨g, 0, none⟩) m c) m h1.o.xs := by
        have := hok2
        unfold OV.ok at this
        rw [hv1, hm1, hPP.1.2.2.2.1, hPP.1.2.2.2.2.1, eA] at this
        exact this
      refine S_storeR ti_api_Rat rfl rfl rfl rfl hrow2 hc0 (rfl) (rfl) (vs := [.bool false, .slice none 0 0, .slice (some ⟨gm, 0, none⟩) 1 1]) rfl rfl (by simp [Value.oneCell']) (by simp; omega) ?_
      intro w5 hU hr
      have hd : MC true (ovN (.slice (some ⟨gm, 0, none⟩) 1 1) [1000 + n] :: O2) h1.no [.bool false, .slice none 0 0, .slice (some ⟨gm, 0, none⟩) 1 1] := by rw [hn1]; exact ⟨_, rfl, by simp⟩
      have hPP := hPP.step hok2 (by omega) hd
      have HB := HB.updR (o := { h1.o with xs := putAt h1.o.xs (j * ksz true) [.bool false, .slice none 0 0, .slice (some ⟨gm, 0, none⟩) 1 1] }) hU (by rw [hv1]; exact hbk) rfl (by unfold OV.ok; simp only []; rw [hv1, hm1, hPP.1.2.2.2.1, hPP.1.2.2.2.2.1, eA]; exact hr)
      have b1 := b1.upd hU (by omega)
      have E := Below.stepU E hU (hrow2.bkB g (bk_some hc0)).1
      have hS_ := b1
      refine OPS.nil ⟨hS_, ?_⟩
      refine D_done (by kernel_rfl) ?_
      change WP _ _ _ _ _ _
      refine W_region rfl ?_
      refine S_move rfl rfl rfl (v := (.int .i64 (j : Int))) (s4) ?_
      refine S_add64 rfl rfl rfl rfl (rfl) (rfl) (by omega) ?_
      refine S_assign rfl rfl rfl (v := (.int .i64 ((j : Int) + 1))) (rfl) ?_
      refine OPS.nil ?_
      exact ⟨q - 1, by omega, j + 1, _, (ovN (.slice (some ⟨gm, 0, none⟩) 1 1) [1000 + n] :: O2), s0, s2, s3, int_eq (by omega), by omega, HB, hPP, hl1, hn1, hv1, hm1, b1, fun o ho => List.mem_cons_of_mem _ (hO2 o ho), E⟩
    · skip
      replace hq25 := of_decide_eq_false hq25
      refine W_exit ?_
      change WP _ _ _ _ _ _
      refine W_region rfl ?_
      have hjm : j = m := by omega
      have hPF := PP.done (h := h1) (by rw [hm1, ← hjm]; exact hPP) (HB.okR (h := h1) (by simp))
      refine S_move rfl rfl rfl (v := (.int .i64 (i : Int))) (s2) ?_
      refine S_add64 rfl rfl rfl rfl (rfl) (rfl) (by omega) ?_
      refine S_assign rfl rfl rfl (v := (.int .i64 ((i : Int) + 1))) (rfl) ?_
      refine OPS.nil ?_
      refine ⟨k - 1, by omega, i + 1, X1 ++ [h1], X3, O2, s0, int_eq (by omega), by simp; omega, by simp at hX2; omega, by omega, by rw [List.append_assoc]; exact HB, fun p hp => ?_, fun p hp => hP p (by simp [hp]), fun o ho => hO2 _ (hO o ho), E⟩
      rcases List.mem_append.1 hp with hp | hp
      · exact (hF p hp).mono hO2
      · rw [List.mem_singleton] at hp; subst hp; exact hPF
  · skip
    replace hq11 := of_decide_eq_false hq11
    refine W_exit ?_
    change Fin' _ _ _ _ _ _
    exact End0 rfl ⟨E, X1 ++ X2, O', HB, by rw [hxl]; omega, fun p hp => (List.mem_append.1 hp).elim (hF p) (fun hp => by cases X2 with | nil => cases hp | cons x l => simp at hX2; omega), hO⟩

end Go.Proofs.YtccmicegihlfbaaGreatDoor
