/- The rounds of a book: all lists are grown. -/
import Derived.Test.YtccmicegihlfbaaGreatDoorK3
import Derived.Test.YtccmicegihlfbaaGreatDoorTy
set_option linter.unusedVariables false
set_option linter.unusedSimpArgs false
namespace Go.Proofs.YtccmicegihlfbaaGreatDoor
open Go.RowKit

set_option maxHeartbeats 400000 in
theorem growInt32_c (w0 : World) {B : Nat} (kb : Nat) (no : Int) (vI vR : Value) (I R : List HE) (O : List OV) (HB : BOOK B kb w0 no vI vR I R O) (hX : ∀ h ∈ I, PF false O h) (hB : B ≤ kb) :
    Ret Tryz.prog 114 [(.pointer (some ⟨kb, 0, none⟩))] w0 (fun r w1 => Below B w0 w1 ∧ ∃ I' O', BOOK B kb w1 no vI vR I' R O' ∧ I'.length = I.length ∧ (∀ h ∈ I', PD false O' h) ∧ (∀ o ∈ O, o ∈ O')) := by
  have E := Below.refl B w0
  have hB0 : B ≤ w0.heap.size := by have := HB.blk.lt; omega
  refine Ret_of (n := 42) Tryz.func114 rfl rfl (Nat.le_of_ble_eq_true rfl) ?_
  refine W_seq ?_
  refine W_region rfl ?_
  refine S_assign rfl rfl rfl (v := (.int .i64 0)) (rfl) ?_
  refine OPS.nil ?_
  change WP _ _ _ _ _ _
  refine W_block ?_
  refine W_loop (fun k σ w => ∃ (i : Nat) (X1 X2 : List HE) (O' : List OV), σ 0 = .pointer (some ⟨kb, 0, none⟩) ∧ σ 2 = .int .i64 (i : Int) ∧ X1.length = i ∧ X2.length = k ∧ i + k = I.length ∧ BOOK B kb w no vI vR (X1 ++ X2) R O' ∧ (∀ h ∈ X1, PD false O' h) ∧ (∀ h ∈ X2, PF false O' h) ∧ (∀ o ∈ O, o ∈ O') ∧ Below B w0 w) (I.length) ⟨0, [], I, O, rfl, rfl, rfl, rfl, by omega, HB, fun _ h => (by cases h), hX, fun _ h => h, E⟩ ?_
  rintro k σ w ⟨i, X1, X2, O', s0, s2, hX1, hX2, hik, HB, hF, hP, hO, E⟩
  have hxl : (X1 ++ X2).length = i + k := by simp; omega
  have hml := HB.rowI.rc.le
  refine W_seq ?_
  refine W_seq ?_
  refine W_region rfl ?_
  refine S_move rfl rfl rfl (v := (.int .i64 (i : Int))) (s2) ?_
  refine S_move rfl rfl rfl (v := (.pointer (some ⟨kb, 0, none⟩))) (s0) ?_
  refine S_nil rfl rfl rfl (rfl) ?_
  refine S_field ft_assayerlaw01_Book_2 rfl rfl rfl (g := kb) (o := 0) (rfl) (o' := 2) rfl ?_
  refine S_load rfl rfl rfl (rfl) (LD.blk1 ti_Lassayerlaw01_heldInt32 HB.blk (v := vI) rfl) ?_
  refine S_len Tryz.underlying33 rfl rfl rfl (rfl) (m := (X1 ++ X2).length) (HB.rowI.len) ?_
  refine S_bin rfl rfl rfl rfl rfl (rfl) (rfl) rfl ?_
  refine OPS.nil ?_
  change WP _ _ _ _ _ _
  refine W_cond rfl (rfl) (fun hq12 => ?_) (fun hq12 => ?_)
  · skip
    replace hq12 := of_decide_eq_true hq12
    obtain ⟨h0, X3, rfl⟩ : ∃ h Y, X2 = h :: Y := by
      cases X2 with
      | nil => simp at hX2; omega
      | cons h Y => exact ⟨h, Y, rfl⟩
    have hk1 := hP h0 (by simp)
    have hok := HB.okI (h := h0) (by simp)
    obtain ⟨A, m, c, n, xs, rfl, hn, hm⟩ := hk1.1.form hok
    have hlt := HB.lt
    have hkl := HB.blk.lt
    have hgA : ∀ g, bk (.slice A m c) = some g → g < w.heap.size := hlt _ (BOOK.memI (h := ⟨.slice A m c, .slice none 0 0, n, ⟨.slice A m c, kty false, ksz false, m, xs⟩⟩) (by simp))
    refine W_skip ?_
    change WP _ _ _ _ _ _
    refine W_seq ?_
    refine W_block ?_
    refine W_seq ?_
    refine W_region rfl ?_
    refine S_move rfl rfl rfl (v := (.pointer (some ⟨kb, 0, none⟩))) (s0) ?_
    refine S_nil rfl rfl rfl (rfl) ?_
    refine S_field ft_assayerlaw01_Book_2 rfl rfl rfl (g := kb) (o := 0) (rfl) (o' := 2) rfl ?_
    refine S_load rfl rfl rfl (rfl) (LD.blk1 ti_Lassayerlaw01_heldInt32 HB.blk (v := vI) rfl) ?_
    refine S_move rfl rfl rfl (v := (.int .i64 (i : Int))) (s2) ?_
    obtain ⟨ad1, hp1, hc1⟩ := HB.atI
    refine S_idx Tryz.underlying33 ti_assayerlaw01_heldInt32 rfl rfl rfl rfl (rfl) (rfl) hp1 (by omega) ?_
    refine S_load rfl rfl rfl (rfl) (LD.cells ti_assayerlaw01_heldInt32 hc1 rfl) ?_
    refine S_alloc ti_assayerlaw01_heldInt32 rfl rfl (cs := [.slice none 0 0, .slice none 0 0, .int .i64 0]) rfl ?_
    intro g1 w1 hg1 hs1 hB1 b1
    have hz1 := hB1.size
    have E := Below.step E hB1 hB0
    have HB := HB.below hB1
    refine S_store ti_assayerlaw01_heldInt32 rfl rfl rfl rfl (g := g1) (o := 0) (rfl) (v := (.agg #[(.slice A m c), (.slice none 0 0), (.int .i64 n)])) (rfl) (vs := [(.slice A m c), (.slice none 0 0), (.int .i64 n)]) rfl rfl (by simp [Value.oneCell']) b1 (by simp) (cs' := [(.slice A m c), (.slice none 0 0), (.int .i64 n)]) rfl ?_
    intro w2 hU2 b1
    have E := Below.stepU E hU2 (by omega)
    have HB := HB.updHi hU2 hlt hkl (by omega)
    have hz2 := hU2.size
    refine OPS.nil ?_
    change WP _ _ _ _ _ _
    refine W_seq ?_
    refine W_region rfl ?_
    refine S_field ft_assayerlaw01_heldInt32_0 rfl rfl rfl (g := g1) (o := 0) (rfl) (o' := 0) rfl ?_
    refine S_load rfl rfl rfl (rfl) (LD.blk1 ti_Luint32 b1 (v := (.slice A m c)) rfl) ?_
    refine S_assign rfl rfl rfl (v := (.slice A m c)) (rfl) ?_
    refine OPS.nil ?_
    change WP _ _ _ _ _ _
    refine W_seq ?_
    refine W_seq ?_
    refine W_region rfl ?_
    refine S_assign rfl rfl rfl (v := (.int .i64 0)) (rfl) ?_
    refine OPS.nil ?_
    change WP _ _ _ _ _ _
    refine W_block ?_
    refine W_loop (fun q σ w => ∃ (j : Nat) (h1 : HE) (O2 : List OV), σ 0 = .pointer (some ⟨kb, 0, none⟩) ∧ σ 2 = .int .i64 (i : Int) ∧ σ 3 = .pointer (some ⟨g1, 0, none⟩) ∧ σ 4 = h1.o.v ∧ σ 5 = .int .i64 (j : Int) ∧ j + q = 40 ∧ BOOK B kb w no vI vR (X1 ++ h1 :: X3) R O2 ∧ PG false O2 h1 j ∧ h1.no = n ∧ bk h1.o.v ≠ some g1 ∧ Blk w g1 [(.slice A m c), (.slice none 0 0), (.int .i64 n)] 158 ∧ (∀ o ∈ O', o ∈ O2) ∧ Below B w0 w) (40) ⟨0, _, O', s0, s2, rfl, rfl, rfl, by omega, HB, PG.start hk1 hok, rfl, fun e => by have := hgA _ e; omega, b1, fun _ ho => ho, E⟩ ?_
    rintro q σ w ⟨j, h1, O2, s0, s2, s3, s4, s5, hjq, HB, hPG, hn1, hne, b1, hO2, E⟩
    refine W_seq ?_
    refine W_seq ?_
    refine W_region rfl ?_
    refine S_move rfl rfl rfl (v := (.int .i64 (j : Int))) (s5) ?_
    refine S_bin rfl rfl rfl rfl rfl (rfl) (rfl) rfl ?_
    refine OPS.nil ?_
    change WP _ _ _ _ _ _
    refine W_cond rfl (rfl) (fun hq25 => ?_) (fun hq25 => ?_)
    · skip
      replace hq25 := of_decide_eq_true hq25
      refine W_skip ?_
      change WP _ _ _ _ _ _
      refine W_seq ?_
      refine W_block ?_
      refine W_region rfl ?_
      refine S_move rfl rfl rfl (v := h1.o.v) (s4) ?_
      refine S_field ft_assayerlaw01_heldInt32_2 rfl rfl rfl (g := g1) (o := 0) (s3) (o' := 2) rfl ?_
      refine S_load rfl rfl rfl (rfl) (LD.blk1 ti_int b1 (v := (.int .i64 n)) rfl) ?_
      refine S_call en_assayerlaw01_markInt32 rfl rfl rfl (vs := [(.int .i64 n)]) (rfl) (markInt32_c _ n hn) ?_
      rintro _ _ ⟨rfl, rfl⟩
      refine S_lit Tryz.underlying22 ti_uint32 rfl rfl (by decide) (by decide) rfl (vs := [(.int .u32 (1000 + n))]) (cs := [(.int .u32 (1000 + n))]) rfl rfl (by simp [Value.cells]) rfl ?_
      intro g3 w3 hg3 hs3 hB3 b3
      have hz3 := hB3.size
      have E := Below.step E hB3 hB0
      have HB := HB.below hB3
      have hl_b1 := b1.lt
      have b1 := b1.below hB3
      have hok2 := HB.okI (h := h1) (by simp)
      have he := hPG.2.1
      have hs := hPG.2.2.1
      have hle := hPG.le
      have hrow : Row B 106 1 w3 h1.o.v h1.o.m h1.o.xs := by
        have := hok2
        unfold OV.ok at this
        rw [he, hs] at this
        exact this
      refine S_appendR Tryz.underlying22 ti_uint32 rfl rfl rfl rfl rfl (rfl) (rfl) hrow (m := h1.o.m) (k := 1) (c := 1) (by decide) (news := [.int .u32 (1000 + n)]) rfl (fun u x hx => by rw [add_plain, b3.cell, Nat.zero_add]; exact hx) (by simp [Value.oneCell']) (by omega) (by omega) (by omega) ?_
      intro v2 w4 hr hg hb _
      have E := Below.grownE E hg (by have := HB.blk.lt; omega) (fun g hg => (hrow.bkB g hg).1)
      have hd : MC false O2 h1.no [.int .u32 (1000 + n)] := by rw [hn1]; exact rfl
      have hr2 : Row B h1.o.e h1.o.sz w4 v2 (h1.o.m + 1) (h1.o.xs ++ [.int .u32 (1000 + n)]) := by rw [he, hs]; exact hr
      have hl_b1 := b1.lt
      have hok3 : OV.ok B w4 (⟨v2, h1.o.e, h1.o.sz, h1.o.m + 1, h1.o.xs ++ [.int .u32 (1000 + n)]⟩ : OV) := hr2
      obtain ⟨O3, HB, hc⟩ := HB.growI hg hok3 hb
      have hPG := hPG.step hok2 hd hr2 hc
      have b1 := b1.grown hg (fun e => hne e.symm)
      have hne : bk v2 ≠ some g1 := by
        rcases hb with hb | ⟨g, hb, hs, _⟩
        · rw [hb]; exact hne
        · rw [hb]; intro e; cases e; omega
      have hO3 : ∀ o ∈ O', o ∈ O3 := by
        rcases hc with ⟨_, rfl⟩ | rfl
        · exact fun o ho => hO2 o ho
        · exact fun o ho => List.mem_cons_of_mem _ (hO2 o ho)
      refine S_assign rfl rfl rfl (v := v2) (rfl) ?_
      refine OPS.nil ?_
      change WP _ _ _ _ _ _
      refine W_region rfl ?_
      refine S_move rfl rfl rfl (v := (.int .i64 (j : Int))) (s5) ?_
      refine S_add64 rfl rfl rfl rfl (rfl) (rfl) (by omega) ?_
      refine S_assign rfl rfl rfl (v := (.int .i64 ((j : Int) + 1))) (rfl) ?_
      refine OPS.nil ?_
      exact ⟨q - 1, by omega, j + 1, _, O3, s0, s2, s3, rfl, int_eq (by omega), by omega, HB, hPG, hn1, hne, b1, hO3, E⟩
    · skip
      replace hq25 := of_decide_eq_false hq25
      refine W_exit ?_
      change WP _ _ _ _ _ _
      refine W_region rfl ?_
      refine S_move rfl rfl rfl (v := (.pointer (some ⟨kb, 0, none⟩))) (s0) ?_
      refine S_nil rfl rfl rfl (rfl) ?_
      refine S_field ft_assayerlaw01_Book_2 rfl rfl rfl (g := kb) (o := 0) (rfl) (o' := 2) rfl ?_
      refine S_load rfl rfl rfl (rfl) (LD.blk1 ti_Lassayerlaw01_heldInt32 HB.blk (v := vI) rfl) ?_
      refine S_move rfl rfl rfl (v := (.int .i64 (i : Int))) (s2) ?_
      refine S_move rfl rfl rfl (v := h1.o.v) (s4) ?_
      have hj40 : j = 40 := by omega
      have hPD : PG false O2 h1 40 := by rw [← hj40]; exact hPG
      obtain ⟨Al, cl, hvl⟩ := (HB.okI (h := h1) (by simp)).len
      obtain ⟨gI, cI, eI, hcI, hbI, hmI⟩ := HB.rowI.form (by simp; omega)
      have hrI := HB.rowI
      have hbI2 := hbI
      refine S_idx Tryz.underlying33 ti_assayerlaw01_heldInt32 rfl rfl rfl rfl (v := vI) (rfl) (rfl) (m := (X1 ++ h1 :: X3).length) (j := X1.length) (ad := ⟨gI, X1.length * 3, none⟩) ⟨⟨gI, 0, none⟩, cI, eI, by simp, by rw [add_plain]; simp⟩ (by omega) ?_
      refine S_field ft_assayerlaw01_heldInt32_1 rfl rfl rfl (g := gI) (o := X1.length * 3) (rfl) (o' := X1.length * 3 + 1) rfl ?_
      rw [eI] at hrI
      refine S_storeR ti_Luint32 rfl rfl rfl rfl hrI hcI (rfl) (v := .slice Al h1.o.m cl) hvl (vs := [.slice Al h1.o.m cl]) rfl rfl (by simp [Value.oneCell']) (by simp; omega) ?_
      intro w5 hU hr
      rw [← eI] at hr
      have HB := HB.longI (u := .slice Al h1.o.m cl) hU hbI hr
      have E := Below.stepU E hU (hrI.bkB gI (bk_some hcI)).1
      refine OPS.nil ?_
      change WP _ _ _ _ _ _
      refine W_region rfl ?_
      refine S_move rfl rfl rfl (v := (.int .i64 (i : Int))) (s2) ?_
      refine S_add64 rfl rfl rfl rfl (rfl) (rfl) (by omega) ?_
      refine S_assign rfl rfl rfl (v := (.int .i64 ((i : Int) + 1))) (rfl) ?_
      refine OPS.nil ?_
      refine ⟨k - 1, by omega, i + 1, X1 ++ [⟨h1.l, .slice Al h1.o.m cl, h1.no, h1.o⟩], X3, O2, s0, int_eq (by omega), by simp; omega, by simp at hX2; omega, by omega, by rw [List.append_assoc]; exact HB, fun p hp => ?_, fun p hp => (hP p (by simp [hp])).mono hO2, fun o ho => hO2 _ (hO o ho), E⟩
      rcases List.mem_append.1 hp with hp | hp
      · exact (hF p hp).mono hO2
      · rw [List.mem_singleton] at hp; subst hp; exact ⟨hPD, hvl.symm⟩
  · skip
    replace hq12 := of_decide_eq_false hq12
    refine W_exit ?_
    change Fin' _ _ _ _ _ _
    exact End0 rfl ⟨E, X1 ++ X2, O', HB, by rw [hxl]; omega, fun p hp => (List.mem_append.1 hp).elim (hF p) (fun hp => by cases X2 with | nil => cases hp | cons x l => simp at hX2; omega), hO⟩

set_option maxHeartbeats 400000 in
theorem growRat_c (w0 : World) {B : Nat} (kb : Nat) (no : Int) (vI vR : Value) (I R : List HE) (O : List OV) (HB : BOOK B kb w0 no vI vR I R O) (hX : ∀ h ∈ R, PF true O h) (hB : B ≤ kb) :
    Ret Tryz.prog 120 [(.pointer (some ⟨kb, 0, none⟩))] w0 (fun r w1 => Below B w0 w1 ∧ ∃ R' O', BOOK B kb w1 no vI vR I R' O' ∧ R'.length = R.length ∧ (∀ h ∈ R', PD true O' h) ∧ (∀ o ∈ O, o ∈ O')) := by
  have E := Below.refl B w0
  have hB0 : B ≤ w0.heap.size := by have := HB.blk.lt; omega
  refine Ret_of (n := 42) Tryz.func120 rfl rfl (Nat.le_of_ble_eq_true rfl) ?_
  refine W_seq ?_
  refine W_region rfl ?_
  refine S_assign rfl rfl rfl (v := (.int .i64 0)) (rfl) ?_
  refine OPS.nil ?_
  change WP _ _ _ _ _ _
  refine W_block ?_
  refine W_loop (fun k σ w => ∃ (i : Nat) (X1 X2 : List HE) (O' : List OV), σ 0 = .pointer (some ⟨kb, 0, none⟩) ∧ σ 2 = .int .i64 (i : Int) ∧ X1.length = i ∧ X2.length = k ∧ i + k = R.length ∧ BOOK B kb w no vI vR I (X1 ++ X2) O' ∧ (∀ h ∈ X1, PD true O' h) ∧ (∀ h ∈ X2, PF true O' h) ∧ (∀ o ∈ O, o ∈ O') ∧ Below B w0 w) (R.length) ⟨0, [], R, O, rfl, rfl, rfl, rfl, by omega, HB, fun _ h => (by cases h), hX, fun _ h => h, E⟩ ?_
  rintro k σ w ⟨i, X1, X2, O', s0, s2, hX1, hX2, hik, HB, hF, hP, hO, E⟩
  have hxl : (X1 ++ X2).length = i + k := by simp; omega
  have hml := HB.rowH.rc.le
  refine W_seq ?_
  refine W_seq ?_
  refine W_region rfl ?_
  refine S_move rfl rfl rfl (v := (.int .i64 (i : Int))) (s2) ?_
  refine S_move rfl rfl rfl (v := (.pointer (some ⟨kb, 0, none⟩))) (s0) ?_
  refine S_nil rfl rfl rfl (rfl) ?_
  refine S_field ft_assayerlaw01_Book_8 rfl rfl rfl (g := kb) (o := 0) (rfl) (o' := 8) rfl ?_
  refine S_load rfl rfl rfl (rfl) (LD.blk1 ti_Lassayerlaw01_heldRat HB.blk (v := vR) rfl) ?_
  refine S_len Tryz.underlying39 rfl rfl rfl (rfl) (m := (X1 ++ X2).length) (HB.rowH.len) ?_
  refine S_bin rfl rfl rfl rfl rfl (rfl) (rfl) rfl ?_
  refine OPS.nil ?_
  change WP _ _ _ _ _ _
  refine W_cond rfl (rfl) (fun hq12 => ?_) (fun hq12 => ?_)
  · skip
    replace hq12 := of_decide_eq_true hq12
    obtain ⟨h0, X3, rfl⟩ : ∃ h Y, X2 = h :: Y := by
      cases X2 with
      | nil => simp at hX2; omega
      | cons h Y => exact ⟨h, Y, rfl⟩
    have hk1 := hP h0 (by simp)
    have hok := HB.okR (h := h0) (by simp)
    obtain ⟨A, m, c, n, xs, rfl, hn, hm⟩ := hk1.1.form hok
    have hlt := HB.lt
    have hkl := HB.blk.lt
    have hgA : ∀ g, bk (.slice A m c) = some g → g < w.heap.size := hlt _ (BOOK.memR (h := ⟨.slice A m c, .slice none 0 0, n, ⟨.slice A m c, kty true, ksz true, m, xs⟩⟩) (by simp))
    refine W_skip ?_
    change WP _ _ _ _ _ _
    refine W_seq ?_
    refine W_block ?_
    refine W_seq ?_
    refine W_region rfl ?_
    refine S_move rfl rfl rfl (v := (.pointer (some ⟨kb, 0, none⟩))) (s0) ?_
    refine S_nil rfl rfl rfl (rfl) ?_
    refine S_field ft_assayerlaw01_Book_8 rfl rfl rfl (g := kb) (o := 0) (rfl) (o' := 8) rfl ?_
    refine S_load rfl rfl rfl (rfl) (LD.blk1 ti_Lassayerlaw01_heldRat HB.blk (v := vR) rfl) ?_
    refine S_move rfl rfl rfl (v := (.int .i64 (i : Int))) (s2) ?_
    obtain ⟨ad1, hp1, hc1⟩ := HB.atR
    refine S_idx Tryz.underlying39 ti_assayerlaw01_heldRat rfl rfl rfl rfl (rfl) (rfl) hp1 (by omega) ?_
    refine S_load rfl rfl rfl (rfl) (LD.cells ti_assayerlaw01_heldRat hc1 rfl) ?_
    refine S_alloc ti_assayerlaw01_heldRat rfl rfl (cs := [.slice none 0 0, .slice none 0 0, .int .i64 0]) rfl ?_
    intro g1 w1 hg1 hs1 hB1 b1
    have hz1 := hB1.size
    have E := Below.step E hB1 hB0
    have HB := HB.below hB1
    refine S_store ti_assayerlaw01_heldRat rfl rfl rfl rfl (g := g1) (o := 0) (rfl) (v := (.agg #[(.slice A m c), (.slice none 0 0), (.int .i64 n)])) (rfl) (vs := [(.slice A m c), (.slice none 0 0), (.int .i64 n)]) rfl rfl (by simp [Value.oneCell']) b1 (by simp) (cs' := [(.slice A m c), (.slice none 0 0), (.int .i64 n)]) rfl ?_
    intro w2 hU2 b1
    have E := Below.stepU E hU2 (by omega)
    have HB := HB.updHi hU2 hlt hkl (by omega)
    have hz2 := hU2.size
    refine OPS.nil ?_
    change WP _ _ _ _ _ _
    refine W_seq ?_
    refine W_region rfl ?_
    refine S_field ft_assayerlaw01_heldRat_0 rfl rfl rfl (g := g1) (o := 0) (rfl) (o' := 0) rfl ?_
    refine S_load rfl rfl rfl (rfl) (LD.blk1 ti_Lapi_Rat b1 (v := (.slice A m c)) rfl) ?_
    refine S_assign rfl rfl rfl (v := (.slice A m c)) (rfl) ?_
    refine OPS.nil ?_
    change WP _ _ _ _ _ _
    refine W_seq ?_
    refine W_seq ?_
    refine W_region rfl ?_
    refine S_assign rfl rfl rfl (v := (.int .i64 0)) (rfl) ?_
    refine OPS.nil ?_
    change WP _ _ _ _ _ _
    refine W_block ?_
    refine W_loop (fun q σ w => ∃ (j : Nat) (h1 : HE) (O2 : List OV), σ 0 = .pointer (some ⟨kb, 0, none⟩) ∧ σ 2 = .int .i64 (i : Int) ∧ σ 3 = .pointer (some ⟨g1, 0, none⟩) ∧ σ 4 = h1.o.v ∧ σ 5 = .int .i64 (j : Int) ∧ j + q = 40 ∧ BOOK B kb w no vI vR I (X1 ++ h1 :: X3) O2 ∧ PG true O2 h1 j ∧ h1.no = n ∧ bk h1.o.v ≠ some g1 ∧ Blk w g1 [(.slice A m c), (.slice none 0 0), (.int .i64 n)] 183 ∧ (∀ o ∈ O', o ∈ O2) ∧ Below B w0 w) (40) ⟨0, _, O', s0, s2, rfl, rfl, rfl, by omega, HB, PG.start hk1 hok, rfl, fun e => by have := hgA _ e; omega, b1, fun _ ho => ho, E⟩ ?_
    rintro q σ w ⟨j, h1, O2, s0, s2, s3, s4, s5, hjq, HB, hPG, hn1, hne, b1, hO2, E⟩
    refine W_seq ?_
    refine W_seq ?_
    refine W_region rfl ?_
    refine S_move rfl rfl rfl (v := (.int .i64 (j : Int))) (s5) ?_
    refine S_bin rfl rfl rfl rfl rfl (rfl) (rfl) rfl ?_
    refine OPS.nil ?_
    change WP _ _ _ _ _ _
    refine W_cond rfl (rfl) (fun hq25 => ?_) (fun hq25 => ?_)
    · skip
      replace hq25 := of_decide_eq_true hq25
      refine W_skip ?_
      change WP _ _ _ _ _ _
      refine W_seq ?_
      refine W_block ?_
      refine W_region rfl ?_
      refine S_move rfl rfl rfl (v := h1.o.v) (s4) ?_
      refine S_field ft_assayerlaw01_heldRat_2 rfl rfl rfl (g := g1) (o := 0) (s3) (o' := 2) rfl ?_
      refine S_load rfl rfl rfl (rfl) (LD.blk1 ti_int b1 (v := (.int .i64 n)) rfl) ?_
      have HBold := HB
      refine S_call en_assayerlaw01_markRat rfl rfl rfl (vs := [(.int .i64 n)]) (rfl) (markRat_c _ n hn) ?_
      rintro _ w3 ⟨hB3, gm, rfl, hm2⟩
      have hz3 := hB3.size
      have E := Below.step E hB3 hB0
      have HB := HB.below hB3
      have hl_b1 := b1.lt
      have b1 := b1.below hB3
      have HBm := HBold.new (o := ovN (.slice (some ⟨gm, 0, none⟩) 1 1) [1000 + n]) (by assumption) (fun k hk => (hm2.bkB k hk).1) (hm2.mono (by have := HBold.blk.lt; omega)).ov
      refine S_lit Tryz.underlying49 ti_api_Rat rfl rfl (by decide) (by decide) rfl (vs := [(.agg #[.bool false, .slice none 0 0, .slice (some ⟨gm, 0, none⟩) 1 1])]) (cs := [(.bool false), (.slice none 0 0), (.slice (some ⟨gm, 0, none⟩) 1 1)]) rfl rfl (by simp [Value.cells]) rfl ?_
      intro g4 w4 hg4 hs4 hB4 b4
      have hz4 := hB4.size
      have E := Below.step E hB4 hB0
      have HB := HB.below hB4
      have hl_b1 := b1.lt
      have b1 := b1.below hB4
      have HB := HBm.below (by assumption)
      have hPG := hPG.mono (O' := (ovN (.slice (some ⟨gm, 0, none⟩) 1 1) [1000 + n] :: O2)) (fun o ho => List.mem_cons_of_mem _ ho)
      have hok2 := HB.okR (h := h1) (by simp)
      have he := hPG.2.1
      have hs := hPG.2.2.1
      have hle := hPG.le
      have hrow : Row B 70 3 w4 h1.o.v h1.o.m h1.o.xs := by
        have := hok2
        unfold OV.ok at this
        rw [he, hs] at this
        exact this
      refine S_appendR Tryz.underlying49 ti_api_Rat rfl rfl rfl rfl rfl (rfl) (rfl) hrow (m := h1.o.m) (k := 1) (c := 1) (by decide) (news := [.bool false, .slice none 0 0, .slice (some ⟨gm, 0, none⟩) 1 1]) rfl (fun u x hx => by rw [add_plain, b4.cell, Nat.zero_add]; exact hx) (by simp [Value.oneCell']) (by omega) (by omega) (by omega) ?_
      intro v2 w5 hr hg hb _
      have E := Below.grownE E hg (by have := HB.blk.lt; omega) (fun g hg => (hrow.bkB g hg).1)
      have hd : MC true (ovN (.slice (some ⟨gm, 0, none⟩) 1 1) [1000 + n] :: O2) h1.no [.bool false, .slice none 0 0, .slice (some ⟨gm, 0, none⟩) 1 1] := by rw [hn1]; exact ⟨_, rfl, by simp⟩
      have hr2 : Row B h1.o.e h1.o.sz w5 v2 (h1.o.m + 1) (h1.o.xs ++ [.bool false, .slice none 0 0, .slice (some ⟨gm, 0, none⟩) 1 1]) := by rw [he, hs]; exact hr
      have hl_b1 := b1.lt
      have hok3 : OV.ok B w5 (⟨v2, h1.o.e, h1.o.sz, h1.o.m + 1, h1.o.xs ++ [.bool false, .slice none 0 0, .slice (some ⟨gm, 0, none⟩) 1 1]⟩ : OV) := hr2
      obtain ⟨O3, HB, hc⟩ := HB.growR hg hok3 hb
      have hPG := hPG.step hok2 hd hr2 hc
      have b1 := b1.grown hg (fun e => hne e.symm)
      have hne : bk v2 ≠ some g1 := by
        rcases hb with hb | ⟨g, hb, hs, _⟩
        · rw [hb]; exact hne
        · rw [hb]; intro e; cases e; omega
      have hO3 : ∀ o ∈ O', o ∈ O3 := by
        rcases hc with ⟨_, rfl⟩ | rfl
        · exact fun o ho => List.mem_cons_of_mem _ (hO2 o ho)
        · exact fun o ho => List.mem_cons_of_mem _ (List.mem_cons_of_mem _ (hO2 o ho))
      refine S_assign rfl rfl rfl (v := v2) (rfl) ?_
      refine OPS.nil ?_
      change WP _ _ _ _ _ _
      refine W_region rfl ?_
      refine S_move rfl rfl rfl (v := (.int .i64 (j : Int))) (s5) ?_
      refine S_add64 rfl rfl rfl rfl (rfl) (rfl) (by omega) ?_
      refine S_assign rfl rfl rfl (v := (.int .i64 ((j : Int) + 1))) (rfl) ?_
      refine OPS.nil ?_
      exact ⟨q - 1, by omega, j + 1, _, O3, s0, s2, s3, rfl, int_eq (by omega), by omega, HB, hPG, hn1, hne, b1, hO3, E⟩
    · skip
      replace hq25 := of_decide_eq_false hq25
      refine W_exit ?_
      change WP _ _ _ _ _ _
      refine W_region rfl ?_
      refine S_move rfl rfl rfl (v := (.pointer (some ⟨kb, 0, none⟩))) (s0) ?_
      refine S_nil rfl rfl rfl (rfl) ?_
      refine S_field ft_assayerlaw01_Book_8 rfl rfl rfl (g := kb) (o := 0) (rfl) (o' := 8) rfl ?_
      refine S_load rfl rfl rfl (rfl) (LD.blk1 ti_Lassayerlaw01_heldRat HB.blk (v := vR) rfl) ?_
      refine S_move rfl rfl rfl (v := (.int .i64 (i : Int))) (s2) ?_
      refine S_move rfl rfl rfl (v := h1.o.v) (s4) ?_
      have hj40 : j = 40 := by omega
      have hPD : PG true O2 h1 40 := by rw [← hj40]; exact hPG
      obtain ⟨Al, cl, hvl⟩ := (HB.okR (h := h1) (by simp)).len
      obtain ⟨gI, cI, eI, hcI, hbI, hmI⟩ := HB.rowH.form (by simp; omega)
      have hrI := HB.rowH
      have hbI2 := hbI
      refine S_idx Tryz.underlying39 ti_assayerlaw01_heldRat rfl rfl rfl rfl (v := vR) (rfl) (rfl) (m := (X1 ++ h1 :: X3).length) (j := X1.length) (ad := ⟨gI, X1.length * 3, none⟩) ⟨⟨gI, 0, none⟩, cI, eI, by simp, by rw [add_plain]; simp⟩ (by omega) ?_
      refine S_field ft_assayerlaw01_heldRat_1 rfl rfl rfl (g := gI) (o := X1.length * 3) (rfl) (o' := X1.length * 3 + 1) rfl ?_
      rw [eI] at hrI
      refine S_storeR ti_Lapi_Rat rfl rfl rfl rfl hrI hcI (rfl) (v := .slice Al h1.o.m cl) hvl (vs := [.slice Al h1.o.m cl]) rfl rfl (by simp [Value.oneCell']) (by simp; omega) ?_
      intro w6 hU hr
      rw [← eI] at hr
      have HB := HB.longR (u := .slice Al h1.o.m cl) hU hbI hr
      have E := Below.stepU E hU (hrI.bkB gI (bk_some hcI)).1
      refine OPS.nil ?_
      change WP _ _ _ _ _ _
      refine W_region rfl ?_
      refine S_move rfl rfl rfl (v := (.int .i64 (i : Int))) (s2) ?_
      refine S_add64 rfl rfl rfl rfl (rfl) (rfl) (by omega) ?_
      refine S_assign rfl rfl rfl (v := (.int .i64 ((i : Int) + 1))) (rfl) ?_
      refine OPS.nil ?_
      refine ⟨k - 1, by omega, i + 1, X1 ++ [⟨h1.l, .slice Al h1.o.m cl, h1.no, h1.o⟩], X3, O2, s0, int_eq (by omega), by simp; omega, by simp at hX2; omega, by omega, by rw [List.append_assoc]; exact HB, fun p hp => ?_, fun p hp => (hP p (by simp [hp])).mono hO2, fun o ho => hO2 _ (hO o ho), E⟩
      rcases List.mem_append.1 hp with hp | hp
      · exact (hF p hp).mono hO2
      · rw [List.mem_singleton] at hp; subst hp; exact ⟨hPD, hvl.symm⟩
  · skip
    replace hq12 := of_decide_eq_false hq12
    refine W_exit ?_
    change Fin' _ _ _ _ _ _
    exact End0 rfl ⟨E, X1 ++ X2, O', HB, by rw [hxl]; omega, fun p hp => (List.mem_append.1 hp).elim (hF p) (fun hp => by cases X2 with | nil => cases hp | cons x l => simp at hX2; omega), hO⟩

end Go.Proofs.YtccmicegihlfbaaGreatDoor
