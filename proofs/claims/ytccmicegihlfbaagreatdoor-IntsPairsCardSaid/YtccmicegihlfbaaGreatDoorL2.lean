/- Any two whole numbers: the law. -/
import Derived.Test.YtccmicegihlfbaaGreatDoorLaw
import Derived.Test.YtccmicegihlfbaaGreatDoorTy
set_option linter.unusedVariables false
set_option linter.unusedSimpArgs false
namespace Go.Proofs.YtccmicegihlfbaaGreatDoor
open Go.RowKit

set_option maxHeartbeats 400000 in
theorem intsGreat_c (w0 : World) (g : Nat) (s t : Bool) (va vb : Value) (la lb : List Int) {a b' a' b2 : Nat} (ha : RN a b' w0 va la) (hb : RN a' b2 w0 vb lb) (b : Blk w0 g [.bool s, va, .bool t, vb] 25) :
    Ret Tryz.prog 10 [(.slice (some ⟨g, 0, none⟩) 2 2)] w0 (fun r w1 => r = .bool (decide (200 < la.length) || decide (200 < lb.length)) ∧ w0 = w1) := by
  refine Ret_of (n := 17) Tryz.func10 rfl rfl (Nat.le_of_ble_eq_true rfl) ?_
  refine W_seq ?_
  refine W_region rfl ?_
  refine S_assign rfl rfl rfl (v := (.bool false)) (rfl) ?_
  refine OPS.nil ?_
  change WP _ _ _ _ _ _
  refine W_seq ?_
  refine W_seq ?_
  refine W_region rfl ?_
  refine S_assign rfl rfl rfl (v := (.int .i64 0)) (rfl) ?_
  refine OPS.nil ?_
  change WP _ _ _ _ _ _
  refine W_block ?_
  refine W_loop (fun k σ w => ∃ (i : Nat), σ 0 = .slice (some ⟨g, 0, none⟩) 2 2 ∧ σ 3 = .int .i64 (i : Int) ∧ i + k = 2 ∧ (1 ≤ i → la.length ≤ 200) ∧ (2 ≤ i → lb.length ≤ 200) ∧ w0 = w) (2) ⟨0, rfl, rfl, by omega, by omega, by omega, rfl⟩ ?_
  rintro k σ w ⟨i, s0, s3, hik, hl1, hl2, rfl⟩
  refine W_seq ?_
  refine W_seq ?_
  refine W_region rfl ?_
  refine S_move rfl rfl rfl (v := (.int .i64 (i : Int))) (s3) ?_
  refine S_move rfl rfl rfl (v := (.slice (some ⟨g, 0, none⟩) 2 2)) (s0) ?_
  refine S_len Tryz.underlying99 rfl rfl rfl (rfl) (m := 2) (⟨_, _, rfl⟩) ?_
  refine S_bin rfl rfl rfl rfl rfl (rfl) (rfl) (v := .bool (decide ((i : Int) < (2 : Int)))) rfl ?_
  refine OPS.nil ?_
  change WP _ _ _ _ _ _
  refine W_cond rfl (rfl) (fun hq7 => ?_) (fun hq7 => ?_)
  · skip
    have pT := hq7
    replace hq7 := of_decide_eq_true hq7
    have qT := hq7
    try rw [pT]
    refine W_skip ?_
    change WP _ _ _ _ _ _
    refine W_seq ?_
    refine W_block ?_
    refine W_seq ?_
    rcases (show i = 0 ∨ i = 1 by omega) with hi0 | hi0
    · skip
      refine W_region rfl ?_
      refine S_move rfl rfl rfl (v := (.slice (some ⟨g, 0, none⟩) 2 2)) (s0) ?_
      refine S_move rfl rfl rfl (v := (.int .i64 (i : Int))) (s3) ?_
      refine S_idx Tryz.underlying99 ti_api_Int rfl rfl rfl rfl (rfl) (rfl) (j := 0) (ad := ⟨g, 0, none⟩) ⟨⟨g, 0, none⟩, 2, rfl, by omega, by rw [add_plain]⟩ (by omega) ?_
      refine S_field ft_api_Int_1 rfl rfl rfl (g := g) (o := 0) (rfl) (o' := 1) rfl ?_
      refine S_load rfl rfl rfl (rfl) (LD.blk1 ti_api_Nat b (v := va) rfl) ?_
      refine S_len Tryz.underlying23 rfl rfl rfl (rfl) (m := la.length) (ha.len) ?_
      refine S_bin rfl rfl rfl rfl rfl (rfl) (rfl) (v := .bool (decide ((la.length : Int) > 200))) rfl ?_
      refine OPS.nil ?_
      change WP _ _ _ _ _ _
      refine W_cond rfl (rfl) (fun hq16 => ?_) (fun hq16 => ?_)
      · skip
        have pTT := hq16
        replace hq16 := of_decide_eq_true hq16
        have qTT := hq16
        try rw [pTT]
        refine W_seq ?_
        refine W_region rfl ?_
        refine S_assign rfl rfl rfl (v := (.bool true)) (rfl) ?_
        refine OPS.nil ?_
        change WP _ _ _ _ _ _
        refine W_ret ?_
        change Fin' _ _ _ _ _ _
        refine End1 (n := ⟨17, []⟩) (t := 2) rfl (by decide) (v := (.bool true)) (rfl) ?_
        exact ⟨by rw [show decide (200 < la.length) = true by simp; omega]; rfl, rfl⟩
      · skip
        have pTF := hq16
        replace hq16 := of_decide_eq_false hq16
        have qTF := hq16
        try rw [pTF]
        refine W_skip ?_
        change WP _ _ _ _ _ _
        refine W_region rfl ?_
        refine S_move rfl rfl rfl (v := (.int .i64 (i : Int))) (s3) ?_
        refine S_add64 rfl rfl rfl rfl (rfl) (rfl) (by omega) ?_
        refine S_assign rfl rfl rfl (v := (.int .i64 ((i : Int) + 1))) (rfl) ?_
        refine OPS.nil ?_
        exact ⟨k - 1, by omega, i + 1, s0, int_eq (by omega), by omega, by omega, by omega, rfl⟩
    · skip
      refine W_region rfl ?_
      refine S_move rfl rfl rfl (v := (.slice (some ⟨g, 0, none⟩) 2 2)) (s0) ?_
      refine S_move rfl rfl rfl (v := (.int .i64 (i : Int))) (s3) ?_
      refine S_idx Tryz.underlying99 ti_api_Int rfl rfl rfl rfl (rfl) (rfl) (j := 1) (ad := ⟨g, 2, none⟩) ⟨⟨g, 0, none⟩, 2, rfl, by omega, by rw [add_plain]⟩ (by omega) ?_
      refine S_field ft_api_Int_1 rfl rfl rfl (g := g) (o := 2) (rfl) (o' := 3) rfl ?_
      refine S_load rfl rfl rfl (rfl) (LD.blk1 ti_api_Nat b (v := vb) rfl) ?_
      refine S_len Tryz.underlying23 rfl rfl rfl (rfl) (m := lb.length) (hb.len) ?_
      refine S_bin rfl rfl rfl rfl rfl (rfl) (rfl) (v := .bool (decide ((lb.length : Int) > 200))) rfl ?_
      refine OPS.nil ?_
      change WP _ _ _ _ _ _
      refine W_cond rfl (rfl) (fun hq16 => ?_) (fun hq16 => ?_)
      · skip
        have pTT := hq16
        replace hq16 := of_decide_eq_true hq16
        have qTT := hq16
        try rw [pTT]
        refine W_seq ?_
        refine W_region rfl ?_
        refine S_assign rfl rfl rfl (v := (.bool true)) (rfl) ?_
        refine OPS.nil ?_
        change WP _ _ _ _ _ _
        refine W_ret ?_
        change Fin' _ _ _ _ _ _
        refine End1 (n := ⟨17, []⟩) (t := 2) rfl (by decide) (v := (.bool true)) (rfl) ?_
        exact ⟨by rw [show decide (200 < lb.length) = true by simp; omega, Bool.or_true], rfl⟩
      · skip
        have pTF := hq16
        replace hq16 := of_decide_eq_false hq16
        have qTF := hq16
        try rw [pTF]
        refine W_skip ?_
        change WP _ _ _ _ _ _
        refine W_region rfl ?_
        refine S_move rfl rfl rfl (v := (.int .i64 (i : Int))) (s3) ?_
        refine S_add64 rfl rfl rfl rfl (rfl) (rfl) (by omega) ?_
        refine S_assign rfl rfl rfl (v := (.int .i64 ((i : Int) + 1))) (rfl) ?_
        refine OPS.nil ?_
        exact ⟨k - 1, by omega, i + 1, s0, int_eq (by omega), by omega, by omega, by omega, rfl⟩
  · skip
    have pF := hq7
    replace hq7 := of_decide_eq_false hq7
    have qF := hq7
    try rw [pF]
    refine W_exit ?_
    change WP _ _ _ _ _ _
    refine W_seq ?_
    refine W_region rfl ?_
    refine S_assign rfl rfl rfl (v := (.bool false)) (rfl) ?_
    refine OPS.nil ?_
    change WP _ _ _ _ _ _
    refine W_ret ?_
    change Fin' _ _ _ _ _ _
    refine End1 (n := ⟨17, []⟩) (t := 2) rfl (by decide) (v := (.bool false)) (rfl) ?_
    exact ⟨by rw [show decide (200 < la.length) = false by simp; omega, show decide (200 < lb.length) = false by simp; omega]; rfl, rfl⟩


theorem dg_length_le3 (x y : Int) : (dg (x + y).natAbs).length ≤ max (dg x.natAbs).length (dg y.natAbs).length + 1 ∧ (dg (x - y).natAbs).length ≤ max (dg x.natAbs).length (dg y.natAbs).length + 1 ∧ (dg (x * y).natAbs).length ≤ (dg x.natAbs).length + (dg y.natAbs).length ∧ (dg (-x).natAbs).length ≤ (dg x.natAbs).length := by
  have h1 := dg_length_add x.natAbs y.natAbs
  refine ⟨Nat.le_trans (dg_length_mono (by omega)) h1, Nat.le_trans (dg_length_mono (by omega)) h1, ?_, by rw [Int.natAbs_neg]; exact Nat.le_refl _⟩
  rw [Int.natAbs_mul]
  exact dg_length_mul _ _

set_option maxHeartbeats 1000000 in
theorem intsPairs_c (w0 : World) (s t : Bool) (va vb : Value) (la lb : List Int) {a b a' b' : Nat} (ha : RN a b w0 va la) (hb : RN a' b' w0 vb lb) :
    Ret Tryz.prog 3 [.agg #[.bool s, va], .agg #[.bool t, vb]] w0 (fun r w1 => Below w0.heap.size w0 w1 ∧ r = .bool true) := by
  have E := Below.refl w0.heap.size w0
  refine Ret_of (n := 102) Tryz.func3 rfl rfl (Nat.le_of_ble_eq_true rfl) ?_
  refine W_seq ?_
  refine W_region rfl ?_
  refine S_box rfl rfl rfl (v := .agg #[.bool s, va]) (rfl) (cs := [(.bool s), va]) rfl ?_
  intro g1 w1 hg1 hs1 hB1 b1
  have hz1 := hB1.size
  have E := Below.step E hB1
  refine S_box rfl rfl rfl (v := .agg #[.bool t, vb]) (rfl) (cs := [(.bool t), vb]) rfl ?_
  intro g2 w2 hg2 hs2 hB2 b2
  have hz2 := hB2.size
  have E := Below.step E hB2
  have hl_b1 := b1.lt
  have b1 := b1.below hB2
  refine S_assign rfl rfl rfl (v := (.bool false)) (rfl) ?_
  refine OPS.nil ?_
  change WP _ _ _ _ _ _
  refine W_seq ?_
  refine W_seq ?_
  refine W_region rfl ?_
  refine S_load rfl rfl rfl (rfl) (LD.blk ti_api_Int b1 (l := [(.bool s), va]) rfl rfl) ?_
  refine S_load rfl rfl rfl (rfl) (LD.blk ti_api_Int b2 (l := [(.bool t), vb]) rfl rfl) ?_
  refine S_lit Tryz.underlying99 ti_api_Int rfl rfl (by decide) (by decide) rfl (vs := [(.agg #[(.bool s), va]), (.agg #[(.bool t), vb])]) (cs := [(.bool s), va, (.bool t), vb]) rfl rfl (by simp [Value.cells]) rfl ?_
  intro g3 w3 hg3 hs3 hB3 b3
  have hz3 := hB3.size
  have E := Below.step E hB3
  have hl_b1 := b1.lt
  have b1 := b1.below hB3
  have hl_b2 := b2.lt
  have b2 := b2.below hB3
  refine S_call en_assayerlaw02_great rfl rfl rfl (vs := [(.slice (some ⟨g3, 0, none⟩) 2 2)]) (rfl) (intsGreat_c _ _ s t va vb la lb (ha.below E) (hb.below E) b3) ?_
  rintro _ _ ⟨rfl, rfl⟩
  refine OPS.nil ?_
  change WP _ _ _ _ _ _
  refine W_cond rfl (rfl) (fun hq15 => ?_) (fun hq15 => ?_)
  · skip
    have pT := hq15
    skip
    try rw [pT]
    refine W_seq ?_
    refine W_region rfl ?_
    refine S_assign rfl rfl rfl (v := (.bool true)) (rfl) ?_
    refine OPS.nil ?_
    change WP _ _ _ _ _ _
    refine W_ret ?_
    change Fin' _ _ _ _ _ _
    refine End1 (n := ⟨102, []⟩) (t := 4) rfl (by decide) (v := (.bool true)) (rfl) ?_
    exact ⟨E, rfl⟩
  · skip
    have pF := hq15
    skip
    have hgr : la.length ≤ 200 ∧ lb.length ≤ 200 := by simpa using pF
    have hsa : la.length ≤ SZ := by unfold SZ; omega
    have hsb : lb.length ≤ SZ := by unfold SZ; omega
    have hzx := zv_len (s := s) ha.u32
    have hzy := zv_len (s := t) hb.u32
    have hl3 := dg_length_le3 (zv s la) (zv t lb)
    try rw [pF]
    refine W_skip ?_
    change WP _ _ _ _ _ _
    refine W_seq ?_
    refine W_region rfl ?_
    refine S_load rfl rfl rfl (rfl) (LD.blk ti_api_Int b1 (l := [(.bool s), va]) rfl rfl) ?_
    refine S_call en_assayerlaw01_TwinInt rfl rfl rfl (vs := [(.agg #[(.bool s), va])]) (rfl) (twinInt_c _ s va la (ha.below E) hsa) ?_
    rintro _ w4 ⟨hB4, At1, ct1, rfl, t1⟩
    have hz4 := hB4.size
    have E := Below.step E hB4
    have hl_b1 := b1.lt
    have b1 := b1.below hB4
    have hl_b2 := b2.lt
    have b2 := b2.below hB4
    have hl_b3 := b3.lt
    have b3 := b3.below hB4
    have hk1 := t1.bk
    refine S_alloc ti_api_Int rfl rfl (cs := [.bool false, .slice none 0 0]) rfl ?_
    intro g5 w5 hg5 hs5 hB5 b5
    have hz5 := hB5.size
    have E := Below.step E hB5
    have hl_b1 := b1.lt
    have b1 := b1.below hB5
    have hl_b2 := b2.lt
    have b2 := b2.below hB5
    have hl_b3 := b3.lt
    have b3 := b3.below hB5
    have t1 := t1.below hB5
    refine S_store ti_api_Int rfl rfl rfl rfl (g := g5) (o := 0) (rfl) (v := (.agg #[.bool s, (.slice At1 (la).length ct1)])) (rfl) (vs := [(.bool s), (.slice At1 (la).length ct1)]) rfl rfl (one2 (rfl) (rfl)) b5 (by simp) (cs' := [(.bool s), (.slice At1 (la).length ct1)]) rfl ?_
    intro w6 hU6 b5
    have E := Below.stepU E hU6 (by omega)
    have b1 := b1.upd hU6 (by omega)
    have b2 := b2.upd hU6 (by omega)
    have b3 := b3.upd hU6 (by omega)
    have t1 := t1.updN hU6 (fun g hg => by have := hk1 g hg; omega)
    have hz6 := hU6.size
    refine OPS.nil ?_
    change WP _ _ _ _ _ _
    refine W_seq ?_
    refine W_region rfl ?_
    refine S_load rfl rfl rfl (rfl) (LD.blk ti_api_Int b2 (l := [(.bool t), vb]) rfl rfl) ?_
    refine S_call en_assayerlaw01_TwinInt rfl rfl rfl (vs := [(.agg #[(.bool t), vb])]) (rfl) (twinInt_c _ t vb lb (hb.below E) hsb) ?_
    rintro _ w7 ⟨hB7, At2, ct2, rfl, t2⟩
    have hz7 := hB7.size
    have E := Below.step E hB7
    have hl_b1 := b1.lt
    have b1 := b1.below hB7
    have hl_b2 := b2.lt
    have b2 := b2.below hB7
    have hl_b3 := b3.lt
    have b3 := b3.below hB7
    have t1 := t1.below hB7
    have hl_b5 := b5.lt
    have b5 := b5.below hB7
    have hk2 := t2.bk
    refine S_alloc ti_api_Int rfl rfl (cs := [.bool false, .slice none 0 0]) rfl ?_
    intro g8 w8 hg8 hs8 hB8 b8
    have hz8 := hB8.size
    have E := Below.step E hB8
    have hl_b1 := b1.lt
    have b1 := b1.below hB8
    have hl_b2 := b2.lt
    have b2 := b2.below hB8
    have hl_b3 := b3.lt
    have b3 := b3.below hB8
    have t1 := t1.below hB8
    have hl_b5 := b5.lt
    have b5 := b5.below hB8
    have t2 := t2.below hB8
    refine S_store ti_api_Int rfl rfl rfl rfl (g := g8) (o := 0) (rfl) (v := (.agg #[.bool t, (.slice At2 (lb).length ct2)])) (rfl) (vs := [(.bool t), (.slice At2 (lb).length ct2)]) rfl rfl (one2 (rfl) (rfl)) b8 (by simp) (cs' := [(.bool t), (.slice At2 (lb).length ct2)]) rfl ?_
    intro w9 hU9 b8
    have E := Below.stepU E hU9 (by omega)
    have b1 := b1.upd hU9 (by omega)
    have b2 := b2.upd hU9 (by omega)
    have b3 := b3.upd hU9 (by omega)
    have t1 := t1.updN hU9 (fun g hg => by have := hk1 g hg; omega)
    have b5 := b5.upd hU9 (by omega)
    have t2 := t2.updN hU9 (fun g hg => by have := hk2 g hg; omega)
    have hz9 := hU9.size
    refine OPS.nil ?_
    change WP _ _ _ _ _ _
    refine W_seq ?_
    refine W_region rfl ?_
    refine S_load rfl rfl rfl (rfl) (LD.blk ti_api_Int b5 (l := [(.bool s), (.slice At1 (la).length ct1)]) rfl rfl) ?_
    refine S_load rfl rfl rfl (rfl) (LD.blk ti_api_Int b8 (l := [(.bool t), (.slice At2 (lb).length ct2)]) rfl rfl) ?_
    refine S_call en_ints_Add rfl rfl rfl (vs := [(.agg #[(.bool s), (.slice At1 (la).length ct1)]), (.agg #[(.bool t), (.slice At2 (lb).length ct2)])]) (rfl) (intsAdd_c _ s t _ _ la lb t1.r t2.r hsa hsb) ?_
    rintro _ w10 ⟨hB10, _, rfl, h3⟩
    have hz10 := hB10.size
    have E := Below.step E hB10
    have hl_b1 := b1.lt
    have b1 := b1.below hB10
    have hl_b2 := b2.lt
    have b2 := b2.below hB10
    have hl_b3 := b3.lt
    have b3 := b3.below hB10
    have t1 := t1.below hB10
    have hl_b5 := b5.lt
    have b5 := b5.below hB10
    have t2 := t2.below hB10
    have hl_b8 := b8.lt
    have b8 := b8.below hB10
    obtain ⟨Ah3, ch3, rfl, -, -⟩ := h3.r.form
    have hk3 := h3.bkB
    refine S_alloc ti_api_Int rfl rfl (cs := [.bool false, .slice none 0 0]) rfl ?_
    intro g11 w11 hg11 hs11 hB11 b11
    have hz11 := hB11.size
    have E := Below.step E hB11
    have hl_b1 := b1.lt
    have b1 := b1.below hB11
    have hl_b2 := b2.lt
    have b2 := b2.below hB11
    have hl_b3 := b3.lt
    have b3 := b3.below hB11
    have t1 := t1.below hB11
    have hl_b5 := b5.lt
    have b5 := b5.below hB11
    have t2 := t2.below hB11
    have hl_b8 := b8.lt
    have b8 := b8.below hB11
    have h3 := h3.below hB11
    refine S_store ti_api_Int rfl rfl rfl rfl (g := g11) (o := 0) (rfl) (v := (.agg #[.bool (decide (zv s la + zv t lb < 0)), (.slice Ah3 (dg (zv s la + zv t lb).natAbs).length ch3)])) (rfl) (vs := [(.bool (decide (zv s la + zv t lb < 0))), (.slice Ah3 (dg (zv s la + zv t lb).natAbs).length ch3)]) rfl rfl (one2 (rfl) (rfl)) b11 (by simp) (cs' := [(.bool (decide (zv s la + zv t lb < 0))), (.slice Ah3 (dg (zv s la + zv t lb).natAbs).length ch3)]) rfl ?_
    intro w12 hU12 b11
    have E := Below.stepU E hU12 (by omega)
    have b1 := b1.upd hU12 (by omega)
    have b2 := b2.upd hU12 (by omega)
    have b3 := b3.upd hU12 (by omega)
    have t1 := t1.updN hU12 (fun g hg => by have := hk1 g hg; omega)
    have b5 := b5.upd hU12 (by omega)
    have t2 := t2.updN hU12 (fun g hg => by have := hk2 g hg; omega)
    have b8 := b8.upd hU12 (by omega)
    have h3 := h3.updN hU12 (fun g hg => by have := hk3 g hg; omega)
    have hz12 := hU12.size
    refine OPS.nil ?_
    change WP _ _ _ _ _ _
    refine W_seq ?_
    refine W_region rfl ?_
    refine S_load rfl rfl rfl (rfl) (LD.blk ti_api_Int b5 (l := [(.bool s), (.slice At1 (la).length ct1)]) rfl rfl) ?_
    refine S_load rfl rfl rfl (rfl) (LD.blk ti_api_Int b8 (l := [(.bool t), (.slice At2 (lb).length ct2)]) rfl rfl) ?_
    refine S_call en_ints_Sub rfl rfl rfl (vs := [(.agg #[(.bool s), (.slice At1 (la).length ct1)]), (.agg #[(.bool t), (.slice At2 (lb).length ct2)])]) (rfl) (intsSub_c _ s t _ _ la lb t1.r t2.r hsa hsb) ?_
    rintro _ w13 ⟨hB13, _, rfl, h4⟩
    have hz13 := hB13.size
    have E := Below.step E hB13
    have hl_b1 := b1.lt
    have b1 := b1.below hB13
    have hl_b2 := b2.lt
    have b2 := b2.below hB13
    have hl_b3 := b3.lt
    have b3 := b3.below hB13
    have t1 := t1.below hB13
    have hl_b5 := b5.lt
    have b5 := b5.below hB13
    have t2 := t2.below hB13
    have hl_b8 := b8.lt
    have b8 := b8.below hB13
    have h3 := h3.below hB13
    have hl_b11 := b11.lt
    have b11 := b11.below hB13
    obtain ⟨Ah4, ch4, rfl, -, -⟩ := h4.r.form
    have hk4 := h4.bkB
    refine S_alloc ti_api_Int rfl rfl (cs := [.bool false, .slice none 0 0]) rfl ?_
    intro g14 w14 hg14 hs14 hB14 b14
    have hz14 := hB14.size
    have E := Below.step E hB14
    have hl_b1 := b1.lt
    have b1 := b1.below hB14
    have hl_b2 := b2.lt
    have b2 := b2.below hB14
    have hl_b3 := b3.lt
    have b3 := b3.below hB14
    have t1 := t1.below hB14
    have hl_b5 := b5.lt
    have b5 := b5.below hB14
    have t2 := t2.below hB14
    have hl_b8 := b8.lt
    have b8 := b8.below hB14
    have h3 := h3.below hB14
    have hl_b11 := b11.lt
    have b11 := b11.below hB14
    have h4 := h4.below hB14
    refine S_store ti_api_Int rfl rfl rfl rfl (g := g14) (o := 0) (rfl) (v := (.agg #[.bool (decide (zv s la - zv t lb < 0)), (.slice Ah4 (dg (zv s la - zv t lb).natAbs).length ch4)])) (rfl) (vs := [(.bool (decide (zv s la - zv t lb < 0))), (.slice Ah4 (dg (zv s la - zv t lb).natAbs).length ch4)]) rfl rfl (one2 (rfl) (rfl)) b14 (by simp) (cs' := [(.bool (decide (zv s la - zv t lb < 0))), (.slice Ah4 (dg (zv s la - zv t lb).natAbs).length ch4)]) rfl ?_
    intro w15 hU15 b14
    have E := Below.stepU E hU15 (by omega)
    have b1 := b1.upd hU15 (by omega)
    have b2 := b2.upd hU15 (by omega)
    have b3 := b3.upd hU15 (by omega)
    have t1 := t1.updN hU15 (fun g hg => by have := hk1 g hg; omega)
    have b5 := b5.upd hU15 (by omega)
    have t2 := t2.updN hU15 (fun g hg => by have := hk2 g hg; omega)
    have b8 := b8.upd hU15 (by omega)
    have h3 := h3.updN hU15 (fun g hg => by have := hk3 g hg; omega)
    have b11 := b11.upd hU15 (by omega)
    have h4 := h4.updN hU15 (fun g hg => by have := hk4 g hg; omega)
    have hz15 := hU15.size
    refine OPS.nil ?_
    change WP _ _ _ _ _ _
    refine W_seq ?_
    refine W_region rfl ?_
    refine S_load rfl rfl rfl (rfl) (LD.blk ti_api_Int b5 (l := [(.bool s), (.slice At1 (la).length ct1)]) rfl rfl) ?_
    refine S_load rfl rfl rfl (rfl) (LD.blk ti_api_Int b8 (l := [(.bool t), (.slice At2 (lb).length ct2)]) rfl rfl) ?_
    refine S_call en_ints_Mul rfl rfl rfl (vs := [(.agg #[(.bool s), (.slice At1 (la).length ct1)]), (.agg #[(.bool t), (.slice At2 (lb).length ct2)])]) (rfl) (intsMul_c _ s t _ _ la lb t1.r t2.r hsa hsb) ?_
    rintro _ w16 ⟨hB16, _, rfl, h5⟩
    have hz16 := hB16.size
    have E := Below.step E hB16
    have hl_b1 := b1.lt
    have b1 := b1.below hB16
    have hl_b2 := b2.lt
    have b2 := b2.below hB16
    have hl_b3 := b3.lt
    have b3 := b3.below hB16
    have t1 := t1.below hB16
    have hl_b5 := b5.lt
    have b5 := b5.below hB16
    have t2 := t2.below hB16
    have hl_b8 := b8.lt
    have b8 := b8.below hB16
    have h3 := h3.below hB16
    have hl_b11 := b11.lt
    have b11 := b11.below hB16
    have h4 := h4.below hB16
    have hl_b14 := b14.lt
    have b14 := b14.below hB16
    obtain ⟨Ah5, ch5, rfl, -, -⟩ := h5.r.form
    have hk5 := h5.bkB
    refine S_alloc ti_api_Int rfl rfl (cs := [.bool false, .slice none 0 0]) rfl ?_
    intro g17 w17 hg17 hs17 hB17 b17
    have hz17 := hB17.size
    have E := Below.step E hB17
    have hl_b1 := b1.lt
    have b1 := b1.below hB17
    have hl_b2 := b2.lt
    have b2 := b2.below hB17
    have hl_b3 := b3.lt
    have b3 := b3.below hB17
    have t1 := t1.below hB17
    have hl_b5 := b5.lt
    have b5 := b5.below hB17
    have t2 := t2.below hB17
    have hl_b8 := b8.lt
    have b8 := b8.below hB17
    have h3 := h3.below hB17
    have hl_b11 := b11.lt
    have b11 := b11.below hB17
    have h4 := h4.below hB17
    have hl_b14 := b14.lt
    have b14 := b14.below hB17
    have h5 := h5.below hB17
    refine S_store ti_api_Int rfl rfl rfl rfl (g := g17) (o := 0) (rfl) (v := (.agg #[.bool (decide (zv s la * zv t lb < 0)), (.slice Ah5 (dg (zv s la * zv t lb).natAbs).length ch5)])) (rfl) (vs := [(.bool (decide (zv s la * zv t lb < 0))), (.slice Ah5 (dg (zv s la * zv t lb).natAbs).length ch5)]) rfl rfl (one2 (rfl) (rfl)) b17 (by simp) (cs' := [(.bool (decide (zv s la * zv t lb < 0))), (.slice Ah5 (dg (zv s la * zv t lb).natAbs).length ch5)]) rfl ?_
    intro w18 hU18 b17
    have E := Below.stepU E hU18 (by omega)
    have b1 := b1.upd hU18 (by omega)
    have b2 := b2.upd hU18 (by omega)
    have b3 := b3.upd hU18 (by omega)
    have t1 := t1.updN hU18 (fun g hg => by have := hk1 g hg; omega)
    have b5 := b5.upd hU18 (by omega)
    have t2 := t2.updN hU18 (fun g hg => by have := hk2 g hg; omega)
    have b8 := b8.upd hU18 (by omega)
    have h3 := h3.updN hU18 (fun g hg => by have := hk3 g hg; omega)
    have b11 := b11.upd hU18 (by omega)
    have h4 := h4.updN hU18 (fun g hg => by have := hk4 g hg; omega)
    have b14 := b14.upd hU18 (by omega)
    have h5 := h5.updN hU18 (fun g hg => by have := hk5 g hg; omega)
    have hz18 := hU18.size
    refine OPS.nil ?_
    change WP _ _ _ _ _ _
    refine W_seq ?_
    refine W_region rfl ?_
    refine S_load rfl rfl rfl (rfl) (LD.blk ti_api_Int b5 (l := [(.bool s), (.slice At1 (la).length ct1)]) rfl rfl) ?_
    refine S_call en_ints_Neg rfl rfl rfl (vs := [(.agg #[(.bool s), (.slice At1 (la).length ct1)])]) (rfl) (intsNeg_c _ s _ la t1.r hsa) ?_
    rintro _ w19 ⟨hB19, _, rfl, h6⟩
    have hz19 := hB19.size
    have E := Below.step E hB19
    have hl_b1 := b1.lt
    have b1 := b1.below hB19
    have hl_b2 := b2.lt
    have b2 := b2.below hB19
    have hl_b3 := b3.lt
    have b3 := b3.below hB19
    have t1 := t1.below hB19
    have hl_b5 := b5.lt
    have b5 := b5.below hB19
    have t2 := t2.below hB19
    have hl_b8 := b8.lt
    have b8 := b8.below hB19
    have h3 := h3.below hB19
    have hl_b11 := b11.lt
    have b11 := b11.below hB19
    have h4 := h4.below hB19
    have hl_b14 := b14.lt
    have b14 := b14.below hB19
    have h5 := h5.below hB19
    have hl_b17 := b17.lt
    have b17 := b17.below hB19
    obtain ⟨Ah6, ch6, rfl, -, -⟩ := h6.r.form
    have hk6 := h6.bkB
    refine S_alloc ti_api_Int rfl rfl (cs := [.bool false, .slice none 0 0]) rfl ?_
    intro g20 w20 hg20 hs20 hB20 b20
    have hz20 := hB20.size
    have E := Below.step E hB20
    have hl_b1 := b1.lt
    have b1 := b1.below hB20
    have hl_b2 := b2.lt
    have b2 := b2.below hB20
    have hl_b3 := b3.lt
    have b3 := b3.below hB20
    have t1 := t1.below hB20
    have hl_b5 := b5.lt
    have b5 := b5.below hB20
    have t2 := t2.below hB20
    have hl_b8 := b8.lt
    have b8 := b8.below hB20
    have h3 := h3.below hB20
    have hl_b11 := b11.lt
    have b11 := b11.below hB20
    have h4 := h4.below hB20
    have hl_b14 := b14.lt
    have b14 := b14.below hB20
    have h5 := h5.below hB20
    have hl_b17 := b17.lt
    have b17 := b17.below hB20
    have h6 := h6.below hB20
    refine S_store ti_api_Int rfl rfl rfl rfl (g := g20) (o := 0) (rfl) (v := (.agg #[.bool (decide (-(zv s la) < 0)), (.slice Ah6 (dg (-(zv s la)).natAbs).length ch6)])) (rfl) (vs := [(.bool (decide (-(zv s la) < 0))), (.slice Ah6 (dg (-(zv s la)).natAbs).length ch6)]) rfl rfl (one2 (rfl) (rfl)) b20 (by simp) (cs' := [(.bool (decide (-(zv s la) < 0))), (.slice Ah6 (dg (-(zv s la)).natAbs).length ch6)]) rfl ?_
    intro w21 hU21 b20
    have E := Below.stepU E hU21 (by omega)
    have b1 := b1.upd hU21 (by omega)
    have b2 := b2.upd hU21 (by omega)
    have b3 := b3.upd hU21 (by omega)
    have t1 := t1.updN hU21 (fun g hg => by have := hk1 g hg; omega)
    have b5 := b5.upd hU21 (by omega)
    have t2 := t2.updN hU21 (fun g hg => by have := hk2 g hg; omega)
    have b8 := b8.upd hU21 (by omega)
    have h3 := h3.updN hU21 (fun g hg => by have := hk3 g hg; omega)
    have b11 := b11.upd hU21 (by omega)
    have h4 := h4.updN hU21 (fun g hg => by have := hk4 g hg; omega)
    have b14 := b14.upd hU21 (by omega)
    have h5 := h5.updN hU21 (fun g hg => by have := hk5 g hg; omega)
    have b17 := b17.upd hU21 (by omega)
    have h6 := h6.updN hU21 (fun g hg => by have := hk6 g hg; omega)
    have hz21 := hU21.size
    refine OPS.nil ?_
    change WP _ _ _ _ _ _
    refine W_seq ?_
    refine W_seq ?_
    refine D_begin_ mixed_ rfl rfl ?_
    intro w22 hB22 hz_22
    have hz22 := hB22.size
    have E := Below.step E hB22
    have hl_b1 := b1.lt
    have b1 := b1.below hB22
    have hl_b2 := b2.lt
    have b2 := b2.below hB22
    have hl_b3 := b3.lt
    have b3 := b3.below hB22
    have t1 := t1.below hB22
    have hl_b5 := b5.lt
    have b5 := b5.below hB22
    have t2 := t2.below hB22
    have hl_b8 := b8.lt
    have b8 := b8.below hB22
    have h3 := h3.below hB22
    have hl_b11 := b11.lt
    have b11 := b11.below hB22
    have h4 := h4.below hB22
    have hl_b14 := b14.lt
    have b14 := b14.below hB22
    have h5 := h5.below hB22
    have hl_b17 := b17.lt
    have b17 := b17.below hB22
    have h6 := h6.below hB22
    have hl_b20 := b20.lt
    have b20 := b20.below hB22
    have hS_ : Below w22.heap.size w22 w22 := Below.refl _ _
    have E_S := E
    have b1_S := b1
    have b2_S := b2
    have b3_S := b3
    have t1_S := t1
    have b5_S := b5
    have t2_S := t2
    have b8_S := b8
    have h3_S := h3
    have b11_S := b11
    have h4_S := h4
    have b14_S := b14
    have h5_S := h5
    have b17_S := b17
    have h6_S := h6
    have b20_S := b20
    refine D_load (i := 0) (by kernel_rfl) (by kernel_rfl) (by kernel_rfl) (listed2 := #[true, false, false, false, false, false, false, false, false, false, false, false, false, false, false, false, false, false, false, false, false, false, false, false, false, false, false, false, false, false, false, false, false, false, false, false, false, false, false, false, false, false, false, false, false, false, false, false, false, false, false, false, false, false, false, false, false]) (by kernel_rfl) rfl rfl rfl (rfl) (fun _ hS2 => LD.blk ti_api_Int (b5_S.below hS2) (l := [(.bool s), (.slice At1 (la).length ct1)]) rfl rfl) hS_ ?_
    refine D_load (i := 1) (by kernel_rfl) (by kernel_rfl) (by kernel_rfl) (listed2 := #[true, true, false, false, false, false, false, false, false, false, false, false, false, false, false, false, false, false, false, false, false, false, false, false, false, false, false, false, false, false, false, false, false, false, false, false, false, false, false, false, false, false, false, false, false, false, false, false, false, false, false, false, false, false, false, false, false]) (by kernel_rfl) rfl rfl rfl (rfl) (fun _ hS2 => LD.blk ti_api_Int (b8_S.below hS2) (l := [(.bool t), (.slice At2 (lb).length ct2)]) rfl rfl) hS_ ?_
    refine D_load (i := 3) (by kernel_rfl) (by kernel_rfl) (by kernel_rfl) (listed2 := #[true, true, false, true, false, false, false, false, false, false, false, false, false, false, false, false, false, false, false, false, false, false, false, false, false, false, false, false, false, false, false, false, false, false, false, false, false, false, false, false, false, false, false, false, false, false, false, false, false, false, false, false, false, false, false, false, false]) (by kernel_rfl) rfl rfl rfl (rfl) (fun _ hS2 => LD.blk ti_api_Int (b1_S.below hS2) (l := [(.bool s), va]) rfl rfl) hS_ ?_
    refine D_load (i := 4) (by kernel_rfl) (by kernel_rfl) (by kernel_rfl) (listed2 := #[true, true, false, true, true, false, false, false, false, false, false, false, false, false, false, false, false, false, false, false, false, false, false, false, false, false, false, false, false, false, false, false, false, false, false, false, false, false, false, false, false, false, false, false, false, false, false, false, false, false, false, false, false, false, false, false, false]) (by kernel_rfl) rfl rfl rfl (rfl) (fun _ hS2 => LD.blk ti_api_Int (b2_S.below hS2) (l := [(.bool t), vb]) rfl rfl) hS_ ?_
    refine D_only (i := 2) (by kernel_rfl) (listed2 := #[true, true, true, true, true, false, false, false, false, false, false, false, false, false, false, false, false, false, false, false, false, false, false, false, false, false, false, false, false, false, false, false, false, false, false, false, false, false, false, false, false, false, false, false, false, false, false, false, false, false, false, false, false, false, false, false, false]) (by kernel_rfl) ?_
    refine S_call en_ints_Cmp rfl rfl rfl (vs := [(.agg #[(.bool s), (.slice At1 (la).length ct1)]), (.agg #[(.bool t), (.slice At2 (lb).length ct2)])]) (rfl) (intsCmp_c _ s t _ _ la lb t1.r t2.r) ?_
    rintro _ w23 ⟨hB23, rfl⟩
    have hz23 := hB23.size
    have E := Below.step E hB23
    have hl_b1 := b1.lt
    have b1 := b1.below hB23
    have hl_b2 := b2.lt
    have b2 := b2.below hB23
    have hl_b3 := b3.lt
    have b3 := b3.below hB23
    have t1 := t1.below hB23
    have hl_b5 := b5.lt
    have b5 := b5.below hB23
    have t2 := t2.below hB23
    have hl_b8 := b8.lt
    have b8 := b8.below hB23
    have h3 := h3.below hB23
    have hl_b11 := b11.lt
    have b11 := b11.below hB23
    have h4 := h4.below hB23
    have hl_b14 := b14.lt
    have b14 := b14.below hB23
    have h5 := h5.below hB23
    have hl_b17 := b17.lt
    have b17 := b17.below hB23
    have h6 := h6.below hB23
    have hl_b20 := b20.lt
    have b20 := b20.below hB23
    have hS_ := Below.step hS_ hB23
    refine OPS.nil ⟨hS_, ?_⟩
    refine D_only (i := 5) (by kernel_rfl) (listed2 := #[true, true, true, true, true, true, false, false, false, false, false, false, false, false, false, false, false, false, false, false, false, false, false, false, false, false, false, false, false, false, false, false, false, false, false, false, false, false, false, false, false, false, false, false, false, false, false, false, false, false, false, false, false, false, false, false, false]) (by kernel_rfl) ?_
    refine S_call en_assayerref02_Cmp rfl rfl rfl (vs := [(.agg #[(.bool s), va]), (.agg #[(.bool t), vb])]) (rfl) (ref02Cmp_c _ s t va vb la lb (ha.below E) (hb.below E) hsa hsb) ?_
    rintro _ w24 ⟨hB24, rfl⟩
    have hz24 := hB24.size
    have E := Below.step E hB24
    have hl_b1 := b1.lt
    have b1 := b1.below hB24
    have hl_b2 := b2.lt
    have b2 := b2.below hB24
    have hl_b3 := b3.lt
    have b3 := b3.below hB24
    have t1 := t1.below hB24
    have hl_b5 := b5.lt
    have b5 := b5.below hB24
    have t2 := t2.below hB24
    have hl_b8 := b8.lt
    have b8 := b8.below hB24
    have h3 := h3.below hB24
    have hl_b11 := b11.lt
    have b11 := b11.below hB24
    have h4 := h4.below hB24
    have hl_b14 := b14.lt
    have b14 := b14.below hB24
    have h5 := h5.below hB24
    have hl_b17 := b17.lt
    have b17 := b17.below hB24
    have h6 := h6.below hB24
    have hl_b20 := b20.lt
    have b20 := b20.below hB24
    have hS_ := Below.step hS_ hB24
    refine OPS.nil ⟨hS_, ?_⟩
    refine D_bin (i := 6) (by kernel_rfl) (by kernel_rfl) (by kernel_rfl) (listed2 := #[true, true, true, true, true, true, true, false, false, false, false, false, false, false, false, false, false, false, false, false, false, false, false, false, false, false, false, false, false, false, false, false, false, false, false, false, false, false, false, false, false, false, false, false, false, false, false, false, false, false, false, false, false, false, false, false, false]) (by kernel_rfl) rfl rfl rfl rfl rfl (rfl) (rfl) (v := .bool false) (by simp [binV]) hS_ ?_
    refine D_move (i := 7) (by kernel_rfl) (by kernel_rfl) (by kernel_rfl) (listed2 := #[true, true, true, true, true, true, true, true, false, false, false, false, false, false, false, false, false, false, false, false, false, false, false, false, false, false, false, false, false, false, false, false, false, false, false, false, false, false, false, false, false, false, false, false, false, false, false, false, false, false, false, false, false, false, false, false, false]) (by kernel_rfl) rfl rfl rfl (v := (.bool false)) (rfl) hS_ ?_
    refine D_load (i := 8) (by kernel_rfl) (by kernel_rfl) (by kernel_rfl) (listed2 := #[true, true, true, true, true, true, true, true, true, false, false, false, false, false, false, false, false, false, false, false, false, false, false, false, false, false, false, false, false, false, false, false, false, false, false, false, false, false, false, false, false, false, false, false, false, false, false, false, false, false, false, false, false, false, false, false, false]) (by kernel_rfl) rfl rfl rfl (rfl) (fun _ hS2 => LD.blk ti_api_Int (b5_S.below hS2) (l := [(.bool s), (.slice At1 (la).length ct1)]) rfl rfl) hS_ ?_
    refine D_load (i := 10) (by kernel_rfl) (by kernel_rfl) (by kernel_rfl) (listed2 := #[true, true, true, true, true, true, true, true, true, false, true, false, false, false, false, false, false, false, false, false, false, false, false, false, false, false, false, false, false, false, false, false, false, false, false, false, false, false, false, false, false, false, false, false, false, false, false, false, false, false, false, false, false, false, false, false, false]) (by kernel_rfl) rfl rfl rfl (rfl) (fun _ hS2 => LD.blk ti_api_Int (b1_S.below hS2) (l := [(.bool s), va]) rfl rfl) hS_ ?_
    refine D_only (i := 9) (by kernel_rfl) (listed2 := #[true, true, true, true, true, true, true, true, true, true, true, false, false, false, false, false, false, false, false, false, false, false, false, false, false, false, false, false, false, false, false, false, false, false, false, false, false, false, false, false, false, false, false, false, false, false, false, false, false, false, false, false, false, false, false, false, false]) (by kernel_rfl) ?_
    refine S_call en_ints_Sign rfl rfl rfl (vs := [(.agg #[(.bool s), (.slice At1 (la).length ct1)])]) (rfl) (intsSign_c _ s _ la t1.r) ?_
    rintro _ w25 ⟨hB25, rfl⟩
    have hz25 := hB25.size
    have E := Below.step E hB25
    have hl_b1 := b1.lt
    have b1 := b1.below hB25
    have hl_b2 := b2.lt
    have b2 := b2.below hB25
    have hl_b3 := b3.lt
    have b3 := b3.below hB25
    have t1 := t1.below hB25
    have hl_b5 := b5.lt
    have b5 := b5.below hB25
    have t2 := t2.below hB25
    have hl_b8 := b8.lt
    have b8 := b8.below hB25
    have h3 := h3.below hB25
    have hl_b11 := b11.lt
    have b11 := b11.below hB25
    have h4 := h4.below hB25
    have hl_b14 := b14.lt
    have b14 := b14.below hB25
    have h5 := h5.below hB25
    have hl_b17 := b17.lt
    have b17 := b17.below hB25
    have h6 := h6.below hB25
    have hl_b20 := b20.lt
    have b20 := b20.below hB25
    have hS_ := Below.step hS_ hB25
    refine OPS.nil ⟨hS_, ?_⟩
    refine D_only (i := 11) (by kernel_rfl) (listed2 := #[true, true, true, true, true, true, true, true, true, true, true, true, false, false, false, false, false, false, false, false, false, false, false, false, false, false, false, false, false, false, false, false, false, false, false, false, false, false, false, false, false, false, false, false, false, false, false, false, false, false, false, false, false, false, false, false, false]) (by kernel_rfl) ?_
    refine S_call en_assayerref02_Sign rfl rfl rfl (vs := [(.agg #[(.bool s), va])]) (rfl) (ref02Sign_c _ s va la (ha.below E)) ?_
    rintro _ w26 ⟨hB26, rfl⟩
    have hz26 := hB26.size
    have E := Below.step E hB26
    have hl_b1 := b1.lt
    have b1 := b1.below hB26
    have hl_b2 := b2.lt
    have b2 := b2.below hB26
    have hl_b3 := b3.lt
    have b3 := b3.below hB26
    have t1 := t1.below hB26
    have hl_b5 := b5.lt
    have b5 := b5.below hB26
    have t2 := t2.below hB26
    have hl_b8 := b8.lt
    have b8 := b8.below hB26
    have h3 := h3.below hB26
    have hl_b11 := b11.lt
    have b11 := b11.below hB26
    have h4 := h4.below hB26
    have hl_b14 := b14.lt
    have b14 := b14.below hB26
    have h5 := h5.below hB26
    have hl_b17 := b17.lt
    have b17 := b17.below hB26
    have h6 := h6.below hB26
    have hl_b20 := b20.lt
    have b20 := b20.below hB26
    have hS_ := Below.step hS_ hB26
    refine OPS.nil ⟨hS_, ?_⟩
    refine D_bin (i := 12) (by kernel_rfl) (by kernel_rfl) (by kernel_rfl) (listed2 := #[true, true, true, true, true, true, true, true, true, true, true, true, true, false, false, false, false, false, false, false, false, false, false, false, false, false, false, false, false, false, false, false, false, false, false, false, false, false, false, false, false, false, false, false, false, false, false, false, false, false, false, false, false, false, false, false, false]) (by kernel_rfl) rfl rfl rfl rfl rfl (rfl) (rfl) (v := .bool false) (by simp [binV]) hS_ ?_
    refine D_pick (i := 13) (by kernel_rfl) (by kernel_rfl) (by kernel_rfl) (listed2 := #[true, true, true, true, true, true, true, true, true, true, true, true, true, true, false, false, false, false, false, false, false, false, false, false, false, false, false, false, false, false, false, false, false, false, false, false, false, false, false, false, false, false, false, false, false, false, false, false, false, false, false, false, false, false, false, false, false]) (by kernel_rfl) rfl rfl rfl rfl rfl (b := false) (rfl) (v := (.bool false)) (rfl) hS_ ?_
    refine D_move (i := 14) (by kernel_rfl) (by kernel_rfl) (by kernel_rfl) (listed2 := #[true, true, true, true, true, true, true, true, true, true, true, true, true, true, true, false, false, false, false, false, false, false, false, false, false, false, false, false, false, false, false, false, false, false, false, false, false, false, false, false, false, false, false, false, false, false, false, false, false, false, false, false, false, false, false, false, false]) (by kernel_rfl) rfl rfl rfl (v := (.bool false)) (rfl) hS_ ?_
    refine D_load (i := 15) (by kernel_rfl) (by kernel_rfl) (by kernel_rfl) (listed2 := #[true, true, true, true, true, true, true, true, true, true, true, true, true, true, true, true, false, false, false, false, false, false, false, false, false, false, false, false, false, false, false, false, false, false, false, false, false, false, false, false, false, false, false, false, false, false, false, false, false, false, false, false, false, false, false, false, false]) (by kernel_rfl) rfl rfl rfl (rfl) (fun _ hS2 => LD.blk ti_api_Int (b11_S.below hS2) (l := [(.bool (decide (zv s la + zv t lb < 0))), (.slice Ah3 (dg (zv s la + zv t lb).natAbs).length ch3)]) rfl rfl) hS_ ?_
    refine D_load (i := 16) (by kernel_rfl) (by kernel_rfl) (by kernel_rfl) (listed2 := #[true, true, true, true, true, true, true, true, true, true, true, true, true, true, true, true, true, false, false, false, false, false, false, false, false, false, false, false, false, false, false, false, false, false, false, false, false, false, false, false, false, false, false, false, false, false, false, false, false, false, false, false, false, false, false, false, false]) (by kernel_rfl) rfl rfl rfl (rfl) (fun _ hS2 => LD.blk ti_api_Int (b1_S.below hS2) (l := [(.bool s), va]) rfl rfl) hS_ ?_
    refine D_load (i := 17) (by kernel_rfl) (by kernel_rfl) (by kernel_rfl) (listed2 := #[true, true, true, true, true, true, true, true, true, true, true, true, true, true, true, true, true, true, false, false, false, false, false, false, false, false, false, false, false, false, false, false, false, false, false, false, false, false, false, false, false, false, false, false, false, false, false, false, false, false, false, false, false, false, false, false, false]) (by kernel_rfl) rfl rfl rfl (rfl) (fun _ hS2 => LD.blk ti_api_Int (b2_S.below hS2) (l := [(.bool t), vb]) rfl rfl) hS_ ?_
    refine D_only (i := 18) (by kernel_rfl) (listed2 := #[true, true, true, true, true, true, true, true, true, true, true, true, true, true, true, true, true, true, true, false, false, false, false, false, false, false, false, false, false, false, false, false, false, false, false, false, false, false, false, false, false, false, false, false, false, false, false, false, false, false, false, false, false, false, false, false, false]) (by kernel_rfl) ?_
    refine S_call en_assayerref02_Add rfl rfl rfl (vs := [(.agg #[(.bool s), va]), (.agg #[(.bool t), vb])]) (rfl) (ref02Add_c _ s t va vb la lb (ha.below E) (hb.below E) hsa hsb) ?_
    rintro _ w27 ⟨hB27, vr3, rfl, r3⟩
    have hz27 := hB27.size
    have E := Below.step E hB27
    have hl_b1 := b1.lt
    have b1 := b1.below hB27
    have hl_b2 := b2.lt
    have b2 := b2.below hB27
    have hl_b3 := b3.lt
    have b3 := b3.below hB27
    have t1 := t1.below hB27
    have hl_b5 := b5.lt
    have b5 := b5.below hB27
    have t2 := t2.below hB27
    have hl_b8 := b8.lt
    have b8 := b8.below hB27
    have h3 := h3.below hB27
    have hl_b11 := b11.lt
    have b11 := b11.below hB27
    have h4 := h4.below hB27
    have hl_b14 := b14.lt
    have b14 := b14.below hB27
    have h5 := h5.below hB27
    have hl_b17 := b17.lt
    have b17 := b17.below hB27
    have h6 := h6.below hB27
    have hl_b20 := b20.lt
    have b20 := b20.below hB27
    have hS_ := Below.step hS_ hB27
    refine OPS.nil ⟨hS_, ?_⟩
    refine D_only (i := 19) (by kernel_rfl) (listed2 := #[true, true, true, true, true, true, true, true, true, true, true, true, true, true, true, true, true, true, true, true, false, false, false, false, false, false, false, false, false, false, false, false, false, false, false, false, false, false, false, false, false, false, false, false, false, false, false, false, false, false, false, false, false, false, false, false, false]) (by kernel_rfl) ?_
    refine S_call en_assayerlaw01_SameInt rfl rfl rfl (vs := [(.agg #[(.bool (decide (zv s la + zv t lb < 0))), (.slice Ah3 (dg (zv s la + zv t lb).natAbs).length ch3)]), (.agg #[.bool (decide (zv s la + zv t lb < 0)), vr3])]) (rfl) (sameInt_c _ _ _ _ _ h3.r r3.r) ?_
    rintro _ w28 ⟨hB28, rfl⟩
    have hz28 := hB28.size
    have E := Below.step E hB28
    have hl_b1 := b1.lt
    have b1 := b1.below hB28
    have hl_b2 := b2.lt
    have b2 := b2.below hB28
    have hl_b3 := b3.lt
    have b3 := b3.below hB28
    have t1 := t1.below hB28
    have hl_b5 := b5.lt
    have b5 := b5.below hB28
    have t2 := t2.below hB28
    have hl_b8 := b8.lt
    have b8 := b8.below hB28
    have h3 := h3.below hB28
    have hl_b11 := b11.lt
    have b11 := b11.below hB28
    have h4 := h4.below hB28
    have hl_b14 := b14.lt
    have b14 := b14.below hB28
    have h5 := h5.below hB28
    have hl_b17 := b17.lt
    have b17 := b17.below hB28
    have h6 := h6.below hB28
    have hl_b20 := b20.lt
    have b20 := b20.below hB28
    have hS_ := Below.step hS_ hB28
    have r3 := r3.below hB28
    refine OPS.nil ⟨hS_, ?_⟩
    refine D_not (i := 20) (by kernel_rfl) (by kernel_rfl) (by kernel_rfl) (listed2 := #[true, true, true, true, true, true, true, true, true, true, true, true, true, true, true, true, true, true, true, true, true, false, false, false, false, false, false, false, false, false, false, false, false, false, false, false, false, false, false, false, false, false, false, false, false, false, false, false, false, false, false, false, false, false, false, false, false]) (by kernel_rfl) rfl rfl rfl (rfl) hS_ ?_
    change DRW _ _ _ _ _ _ _ (upd _ _ (.bool false)) _
    refine D_pick (i := 21) (by kernel_rfl) (by kernel_rfl) (by kernel_rfl) (listed2 := #[true, true, true, true, true, true, true, true, true, true, true, true, true, true, true, true, true, true, true, true, true, true, false, false, false, false, false, false, false, false, false, false, false, false, false, false, false, false, false, false, false, false, false, false, false, false, false, false, false, false, false, false, false, false, false, false, false]) (by kernel_rfl) rfl rfl rfl rfl rfl (b := false) (rfl) (v := (.bool false)) (rfl) hS_ ?_
    refine D_move (i := 22) (by kernel_rfl) (by kernel_rfl) (by kernel_rfl) (listed2 := #[true, true, true, true, true, true, true, true, true, true, true, true, true, true, true, true, true, true, true, true, true, true, true, false, false, false, false, false, false, false, false, false, false, false, false, false, false, false, false, false, false, false, false, false, false, false, false, false, false, false, false, false, false, false, false, false, false]) (by kernel_rfl) rfl rfl rfl (v := (.bool false)) (rfl) hS_ ?_
    refine D_load (i := 23) (by kernel_rfl) (by kernel_rfl) (by kernel_rfl) (listed2 := #[true, true, true, true, true, true, true, true, true, true, true, true, true, true, true, true, true, true, true, true, true, true, true, true, false, false, false, false, false, false, false, false, false, false, false, false, false, false, false, false, false, false, false, false, false, false, false, false, false, false, false, false, false, false, false, false, false]) (by kernel_rfl) rfl rfl rfl (rfl) (fun _ hS2 => LD.blk ti_api_Int (b14_S.below hS2) (l := [(.bool (decide (zv s la - zv t lb < 0))), (.slice Ah4 (dg (zv s la - zv t lb).natAbs).length ch4)]) rfl rfl) hS_ ?_
    refine D_load (i := 24) (by kernel_rfl) (by kernel_rfl) (by kernel_rfl) (listed2 := #[true, true, true, true, true, true, true, true, true, true, true, true, true, true, true, true, true, true, true, true, true, true, true, true, true, false, false, false, false, false, false, false, false, false, false, false, false, false, false, false, false, false, false, false, false, false, false, false, false, false, false, false, false, false, false, false, false]) (by kernel_rfl) rfl rfl rfl (rfl) (fun _ hS2 => LD.blk ti_api_Int (b1_S.below hS2) (l := [(.bool s), va]) rfl rfl) hS_ ?_
    refine D_load (i := 25) (by kernel_rfl) (by kernel_rfl) (by kernel_rfl) (listed2 := #[true, true, true, true, true, true, true, true, true, true, true, true, true, true, true, true, true, true, true, true, true, true, true, true, true, true, false, false, false, false, false, false, false, false, false, false, false, false, false, false, false, false, false, false, false, false, false, false, false, false, false, false, false, false, false, false, false]) (by kernel_rfl) rfl rfl rfl (rfl) (fun _ hS2 => LD.blk ti_api_Int (b2_S.below hS2) (l := [(.bool t), vb]) rfl rfl) hS_ ?_
    refine D_only (i := 26) (by kernel_rfl) (listed2 := #[true, true, true, true, true, true, true, true, true, true, true, true, true, true, true, true, true, true, true, true, true, true, true, true, true, true, true, false, false, false, false, false, false, false, false, false, false, false, false, false, false, false, false, false, false, false, false, false, false, false, false, false, false, false, false, false, false]) (by kernel_rfl) ?_
    refine S_call en_assayerref02_Sub rfl rfl rfl (vs := [(.agg #[(.bool s), va]), (.agg #[(.bool t), vb])]) (rfl) (ref02Sub_c _ s t va vb la lb (ha.below E) (hb.below E) hsa hsb) ?_
    rintro _ w29 ⟨hB29, vr4, rfl, r4⟩
    have hz29 := hB29.size
    have E := Below.step E hB29
    have hl_b1 := b1.lt
    have b1 := b1.below hB29
    have hl_b2 := b2.lt
    have b2 := b2.below hB29
    have hl_b3 := b3.lt
    have b3 := b3.below hB29
    have t1 := t1.below hB29
    have hl_b5 := b5.lt
    have b5 := b5.below hB29
    have t2 := t2.below hB29
    have hl_b8 := b8.lt
    have b8 := b8.below hB29
    have h3 := h3.below hB29
    have hl_b11 := b11.lt
    have b11 := b11.below hB29
    have h4 := h4.below hB29
    have hl_b14 := b14.lt
    have b14 := b14.below hB29
    have h5 := h5.below hB29
    have hl_b17 := b17.lt
    have b17 := b17.below hB29
    have h6 := h6.below hB29
    have hl_b20 := b20.lt
    have b20 := b20.below hB29
    have hS_ := Below.step hS_ hB29
    have r3 := r3.below hB29
    refine OPS.nil ⟨hS_, ?_⟩
    refine D_only (i := 27) (by kernel_rfl) (listed2 := #[true, true, true, true, true, true, true, true, true, true, true, true, true, true, true, true, true, true, true, true, true, true, true, true, true, true, true, true, false, false, false, false, false, false, false, false, false, false, false, false, false, false, false, false, false, false, false, false, false, false, false, false, false, false, false, false, false]) (by kernel_rfl) ?_
    refine S_call en_assayerlaw01_SameInt rfl rfl rfl (vs := [(.agg #[(.bool (decide (zv s la - zv t lb < 0))), (.slice Ah4 (dg (zv s la - zv t lb).natAbs).length ch4)]), (.agg #[.bool (decide (zv s la - zv t lb < 0)), vr4])]) (rfl) (sameInt_c _ _ _ _ _ h4.r r4.r) ?_
    rintro _ w30 ⟨hB30, rfl⟩
    have hz30 := hB30.size
    have E := Below.step E hB30
    have hl_b1 := b1.lt
    have b1 := b1.below hB30
    have hl_b2 := b2.lt
    have b2 := b2.below hB30
    have hl_b3 := b3.lt
    have b3 := b3.below hB30
    have t1 := t1.below hB30
    have hl_b5 := b5.lt
    have b5 := b5.below hB30
    have t2 := t2.below hB30
    have hl_b8 := b8.lt
    have b8 := b8.below hB30
    have h3 := h3.below hB30
    have hl_b11 := b11.lt
    have b11 := b11.below hB30
    have h4 := h4.below hB30
    have hl_b14 := b14.lt
    have b14 := b14.below hB30
    have h5 := h5.below hB30
    have hl_b17 := b17.lt
    have b17 := b17.below hB30
    have h6 := h6.below hB30
    have hl_b20 := b20.lt
    have b20 := b20.below hB30
    have hS_ := Below.step hS_ hB30
    have r3 := r3.below hB30
    have r4 := r4.below hB30
    refine OPS.nil ⟨hS_, ?_⟩
    refine D_not (i := 28) (by kernel_rfl) (by kernel_rfl) (by kernel_rfl) (listed2 := #[true, true, true, true, true, true, true, true, true, true, true, true, true, true, true, true, true, true, true, true, true, true, true, true, true, true, true, true, true, false, false, false, false, false, false, false, false, false, false, false, false, false, false, false, false, false, false, false, false, false, false, false, false, false, false, false, false]) (by kernel_rfl) rfl rfl rfl (rfl) hS_ ?_
    change DRW _ _ _ _ _ _ _ (upd _ _ (.bool false)) _
    refine D_pick (i := 29) (by kernel_rfl) (by kernel_rfl) (by kernel_rfl) (listed2 := #[true, true, true, true, true, true, true, true, true, true, true, true, true, true, true, true, true, true, true, true, true, true, true, true, true, true, true, true, true, true, false, false, false, false, false, false, false, false, false, false, false, false, false, false, false, false, false, false, false, false, false, false, false, false, false, false, false]) (by kernel_rfl) rfl rfl rfl rfl rfl (b := false) (rfl) (v := (.bool false)) (rfl) hS_ ?_
    refine D_move (i := 30) (by kernel_rfl) (by kernel_rfl) (by kernel_rfl) (listed2 := #[true, true, true, true, true, true, true, true, true, true, true, true, true, true, true, true, true, true, true, true, true, true, true, true, true, true, true, true, true, true, true, false, false, false, false, false, false, false, false, false, false, false, false, false, false, false, false, false, false, false, false, false, false, false, false, false, false]) (by kernel_rfl) rfl rfl rfl (v := (.bool false)) (rfl) hS_ ?_
    refine D_load (i := 31) (by kernel_rfl) (by kernel_rfl) (by kernel_rfl) (listed2 := #[true, true, true, true, true, true, true, true, true, true, true, true, true, true, true, true, true, true, true, true, true, true, true, true, true, true, true, true, true, true, true, true, false, false, false, false, false, false, false, false, false, false, false, false, false, false, false, false, false, false, false, false, false, false, false, false, false]) (by kernel_rfl) rfl rfl rfl (rfl) (fun _ hS2 => LD.blk ti_api_Int (b17_S.below hS2) (l := [(.bool (decide (zv s la * zv t lb < 0))), (.slice Ah5 (dg (zv s la * zv t lb).natAbs).length ch5)]) rfl rfl) hS_ ?_
    refine D_load (i := 32) (by kernel_rfl) (by kernel_rfl) (by kernel_rfl) (listed2 := #[true, true, true, true, true, true, true, true, true, true, true, true, true, true, true, true, true, true, true, true, true, true, true, true, true, true, true, true, true, true, true, true, true, false, false, false, false, false, false, false, false, false, false, false, false, false, false, false, false, false, false, false, false, false, false, false, false]) (by kernel_rfl) rfl rfl rfl (rfl) (fun _ hS2 => LD.blk ti_api_Int (b1_S.below hS2) (l := [(.bool s), va]) rfl rfl) hS_ ?_
    refine D_load (i := 33) (by kernel_rfl) (by kernel_rfl) (by kernel_rfl) (listed2 := #[true, true, true, true, true, true, true, true, true, true, true, true, true, true, true, true, true, true, true, true, true, true, true, true, true, true, true, true, true, true, true, true, true, true, false, false, false, false, false, false, false, false, false, false, false, false, false, false, false, false, false, false, false, false, false, false, false]) (by kernel_rfl) rfl rfl rfl (rfl) (fun _ hS2 => LD.blk ti_api_Int (b2_S.below hS2) (l := [(.bool t), vb]) rfl rfl) hS_ ?_
    refine D_only (i := 34) (by kernel_rfl) (listed2 := #[true, true, true, true, true, true, true, true, true, true, true, true, true, true, true, true, true, true, true, true, true, true, true, true, true, true, true, true, true, true, true, true, true, true, true, false, false, false, false, false, false, false, false, false, false, false, false, false, false, false, false, false, false, false, false, false, false]) (by kernel_rfl) ?_
    refine S_call en_assayerref02_Mul rfl rfl rfl (vs := [(.agg #[(.bool s), va]), (.agg #[(.bool t), vb])]) (rfl) (ref02Mul_c _ s t va vb la lb (ha.below E) (hb.below E) hsa hsb) ?_
    rintro _ w31 ⟨hB31, vr5, rfl, r5⟩
    have hz31 := hB31.size
    have E := Below.step E hB31
    have hl_b1 := b1.lt
    have b1 := b1.below hB31
    have hl_b2 := b2.lt
    have b2 := b2.below hB31
    have hl_b3 := b3.lt
    have b3 := b3.below hB31
    have t1 := t1.below hB31
    have hl_b5 := b5.lt
    have b5 := b5.below hB31
    have t2 := t2.below hB31
    have hl_b8 := b8.lt
    have b8 := b8.below hB31
    have h3 := h3.below hB31
    have hl_b11 := b11.lt
    have b11 := b11.below hB31
    have h4 := h4.below hB31
    have hl_b14 := b14.lt
    have b14 := b14.below hB31
    have h5 := h5.below hB31
    have hl_b17 := b17.lt
    have b17 := b17.below hB31
    have h6 := h6.below hB31
    have hl_b20 := b20.lt
    have b20 := b20.below hB31
    have hS_ := Below.step hS_ hB31
    have r3 := r3.below hB31
    have r4 := r4.below hB31
    refine OPS.nil ⟨hS_, ?_⟩
    refine D_only (i := 35) (by kernel_rfl) (listed2 := #[true, true, true, true, true, true, true, true, true, true, true, true, true, true, true, true, true, true, true, true, true, true, true, true, true, true, true, true, true, true, true, true, true, true, true, true, false, false, false, false, false, false, false, false, false, false, false, false, false, false, false, false, false, false, false, false, false]) (by kernel_rfl) ?_
    refine S_call en_assayerlaw01_SameInt rfl rfl rfl (vs := [(.agg #[(.bool (decide (zv s la * zv t lb < 0))), (.slice Ah5 (dg (zv s la * zv t lb).natAbs).length ch5)]), (.agg #[.bool (decide (zv s la * zv t lb < 0)), vr5])]) (rfl) (sameInt_c _ _ _ _ _ h5.r r5.r) ?_
    rintro _ w32 ⟨hB32, rfl⟩
    have hz32 := hB32.size
    have E := Below.step E hB32
    have hl_b1 := b1.lt
    have b1 := b1.below hB32
    have hl_b2 := b2.lt
    have b2 := b2.below hB32
    have hl_b3 := b3.lt
    have b3 := b3.below hB32
    have t1 := t1.below hB32
    have hl_b5 := b5.lt
    have b5 := b5.below hB32
    have t2 := t2.below hB32
    have hl_b8 := b8.lt
    have b8 := b8.below hB32
    have h3 := h3.below hB32
    have hl_b11 := b11.lt
    have b11 := b11.below hB32
    have h4 := h4.below hB32
    have hl_b14 := b14.lt
    have b14 := b14.below hB32
    have h5 := h5.below hB32
    have hl_b17 := b17.lt
    have b17 := b17.below hB32
    have h6 := h6.below hB32
    have hl_b20 := b20.lt
    have b20 := b20.below hB32
    have hS_ := Below.step hS_ hB32
    have r3 := r3.below hB32
    have r4 := r4.below hB32
    have r5 := r5.below hB32
    refine OPS.nil ⟨hS_, ?_⟩
    refine D_not (i := 36) (by kernel_rfl) (by kernel_rfl) (by kernel_rfl) (listed2 := #[true, true, true, true, true, true, true, true, true, true, true, true, true, true, true, true, true, true, true, true, true, true, true, true, true, true, true, true, true, true, true, true, true, true, true, true, true, false, false, false, false, false, false, false, false, false, false, false, false, false, false, false, false, false, false, false, false]) (by kernel_rfl) rfl rfl rfl (rfl) hS_ ?_
    change DRW _ _ _ _ _ _ _ (upd _ _ (.bool false)) _
    refine D_pick (i := 37) (by kernel_rfl) (by kernel_rfl) (by kernel_rfl) (listed2 := #[true, true, true, true, true, true, true, true, true, true, true, true, true, true, true, true, true, true, true, true, true, true, true, true, true, true, true, true, true, true, true, true, true, true, true, true, true, true, false, false, false, false, false, false, false, false, false, false, false, false, false, false, false, false, false, false, false]) (by kernel_rfl) rfl rfl rfl rfl rfl (b := false) (rfl) (v := (.bool false)) (rfl) hS_ ?_
    refine D_move (i := 38) (by kernel_rfl) (by kernel_rfl) (by kernel_rfl) (listed2 := #[true, true, true, true, true, true, true, true, true, true, true, true, true, true, true, true, true, true, true, true, true, true, true, true, true, true, true, true, true, true, true, true, true, true, true, true, true, true, true, false, false, false, false, false, false, false, false, false, false, false, false, false, false, false, false, false, false]) (by kernel_rfl) rfl rfl rfl (v := (.bool false)) (rfl) hS_ ?_
    refine D_load (i := 39) (by kernel_rfl) (by kernel_rfl) (by kernel_rfl) (listed2 := #[true, true, true, true, true, true, true, true, true, true, true, true, true, true, true, true, true, true, true, true, true, true, true, true, true, true, true, true, true, true, true, true, true, true, true, true, true, true, true, true, false, false, false, false, false, false, false, false, false, false, false, false, false, false, false, false, false]) (by kernel_rfl) rfl rfl rfl (rfl) (fun _ hS2 => LD.blk ti_api_Int (b20_S.below hS2) (l := [(.bool (decide (-(zv s la) < 0))), (.slice Ah6 (dg (-(zv s la)).natAbs).length ch6)]) rfl rfl) hS_ ?_
    refine D_load (i := 40) (by kernel_rfl) (by kernel_rfl) (by kernel_rfl) (listed2 := #[true, true, true, true, true, true, true, true, true, true, true, true, true, true, true, true, true, true, true, true, true, true, true, true, true, true, true, true, true, true, true, true, true, true, true, true, true, true, true, true, true, false, false, false, false, false, false, false, false, false, false, false, false, false, false, false, false]) (by kernel_rfl) rfl rfl rfl (rfl) (fun _ hS2 => LD.blk ti_api_Int (b1_S.below hS2) (l := [(.bool s), va]) rfl rfl) hS_ ?_
    refine D_only (i := 41) (by kernel_rfl) (listed2 := #[true, true, true, true, true, true, true, true, true, true, true, true, true, true, true, true, true, true, true, true, true, true, true, true, true, true, true, true, true, true, true, true, true, true, true, true, true, true, true, true, true, true, false, false, false, false, false, false, false, false, false, false, false, false, false, false, false]) (by kernel_rfl) ?_
    refine S_call en_assayerref02_Neg rfl rfl rfl (vs := [(.agg #[(.bool s), va])]) (rfl) (ref02Neg_c _ s va la (ha.below E) hsa) ?_
    rintro _ w33 ⟨hB33, vr6, rfl, r6⟩
    have hz33 := hB33.size
    have E := Below.step E hB33
    have hl_b1 := b1.lt
    have b1 := b1.below hB33
    have hl_b2 := b2.lt
    have b2 := b2.below hB33
    have hl_b3 := b3.lt
    have b3 := b3.below hB33
    have t1 := t1.below hB33
    have hl_b5 := b5.lt
    have b5 := b5.below hB33
    have t2 := t2.below hB33
    have hl_b8 := b8.lt
    have b8 := b8.below hB33
    have h3 := h3.below hB33
    have hl_b11 := b11.lt
    have b11 := b11.below hB33
    have h4 := h4.below hB33
    have hl_b14 := b14.lt
    have b14 := b14.below hB33
    have h5 := h5.below hB33
    have hl_b17 := b17.lt
    have b17 := b17.below hB33
    have h6 := h6.below hB33
    have hl_b20 := b20.lt
    have b20 := b20.below hB33
    have hS_ := Below.step hS_ hB33
    have r3 := r3.below hB33
    have r4 := r4.below hB33
    have r5 := r5.below hB33
    refine OPS.nil ⟨hS_, ?_⟩
    refine D_only (i := 42) (by kernel_rfl) (listed2 := #[true, true, true, true, true, true, true, true, true, true, true, true, true, true, true, true, true, true, true, true, true, true, true, true, true, true, true, true, true, true, true, true, true, true, true, true, true, true, true, true, true, true, true, false, false, false, false, false, false, false, false, false, false, false, false, false, false]) (by kernel_rfl) ?_
    refine S_call en_assayerlaw01_SameInt rfl rfl rfl (vs := [(.agg #[(.bool (decide (-(zv s la) < 0))), (.slice Ah6 (dg (-(zv s la)).natAbs).length ch6)]), (.agg #[.bool (decide (-(zv s la) < 0)), vr6])]) (rfl) (sameInt_c _ _ _ _ _ h6.r r6.r) ?_
    rintro _ w34 ⟨hB34, rfl⟩
    have hz34 := hB34.size
    have E := Below.step E hB34
    have hl_b1 := b1.lt
    have b1 := b1.below hB34
    have hl_b2 := b2.lt
    have b2 := b2.below hB34
    have hl_b3 := b3.lt
    have b3 := b3.below hB34
    have t1 := t1.below hB34
    have hl_b5 := b5.lt
    have b5 := b5.below hB34
    have t2 := t2.below hB34
    have hl_b8 := b8.lt
    have b8 := b8.below hB34
    have h3 := h3.below hB34
    have hl_b11 := b11.lt
    have b11 := b11.below hB34
    have h4 := h4.below hB34
    have hl_b14 := b14.lt
    have b14 := b14.below hB34
    have h5 := h5.below hB34
    have hl_b17 := b17.lt
    have b17 := b17.below hB34
    have h6 := h6.below hB34
    have hl_b20 := b20.lt
    have b20 := b20.below hB34
    have hS_ := Below.step hS_ hB34
    have r3 := r3.below hB34
    have r4 := r4.below hB34
    have r5 := r5.below hB34
    have r6 := r6.below hB34
    refine OPS.nil ⟨hS_, ?_⟩
    refine D_not (i := 43) (by kernel_rfl) (by kernel_rfl) (by kernel_rfl) (listed2 := #[true, true, true, true, true, true, true, true, true, true, true, true, true, true, true, true, true, true, true, true, true, true, true, true, true, true, true, true, true, true, true, true, true, true, true, true, true, true, true, true, true, true, true, true, false, false, false, false, false, false, false, false, false, false, false, false, false]) (by kernel_rfl) rfl rfl rfl (rfl) hS_ ?_
    change DRW _ _ _ _ _ _ _ (upd _ _ (.bool false)) _
    refine D_pick (i := 44) (by kernel_rfl) (by kernel_rfl) (by kernel_rfl) (listed2 := #[true, true, true, true, true, true, true, true, true, true, true, true, true, true, true, true, true, true, true, true, true, true, true, true, true, true, true, true, true, true, true, true, true, true, true, true, true, true, true, true, true, true, true, true, true, false, false, false, false, false, false, false, false, false, false, false, false]) (by kernel_rfl) rfl rfl rfl rfl rfl (b := false) (rfl) (v := (.bool false)) (rfl) hS_ ?_
    refine D_move (i := 45) (by kernel_rfl) (by kernel_rfl) (by kernel_rfl) (listed2 := #[true, true, true, true, true, true, true, true, true, true, true, true, true, true, true, true, true, true, true, true, true, true, true, true, true, true, true, true, true, true, true, true, true, true, true, true, true, true, true, true, true, true, true, true, true, true, false, false, false, false, false, false, false, false, false, false, false]) (by kernel_rfl) rfl rfl rfl (v := (.bool false)) (rfl) hS_ ?_
    refine D_load (i := 46) (by kernel_rfl) (by kernel_rfl) (by kernel_rfl) (listed2 := #[true, true, true, true, true, true, true, true, true, true, true, true, true, true, true, true, true, true, true, true, true, true, true, true, true, true, true, true, true, true, true, true, true, true, true, true, true, true, true, true, true, true, true, true, true, true, true, false, false, false, false, false, false, false, false, false, false]) (by kernel_rfl) rfl rfl rfl (rfl) (fun _ hS2 => LD.blk ti_api_Int (b5_S.below hS2) (l := [(.bool s), (.slice At1 (la).length ct1)]) rfl rfl) hS_ ?_
    refine D_load (i := 47) (by kernel_rfl) (by kernel_rfl) (by kernel_rfl) (listed2 := #[true, true, true, true, true, true, true, true, true, true, true, true, true, true, true, true, true, true, true, true, true, true, true, true, true, true, true, true, true, true, true, true, true, true, true, true, true, true, true, true, true, true, true, true, true, true, true, true, false, false, false, false, false, false, false, false, false]) (by kernel_rfl) rfl rfl rfl (rfl) (fun _ hS2 => LD.blk ti_api_Int (b1_S.below hS2) (l := [(.bool s), va]) rfl rfl) hS_ ?_
    refine D_only (i := 48) (by kernel_rfl) (listed2 := #[true, true, true, true, true, true, true, true, true, true, true, true, true, true, true, true, true, true, true, true, true, true, true, true, true, true, true, true, true, true, true, true, true, true, true, true, true, true, true, true, true, true, true, true, true, true, true, true, true, false, false, false, false, false, false, false, false]) (by kernel_rfl) ?_
    refine S_call en_assayerlaw01_LeftInt rfl rfl rfl (vs := [(.agg #[(.bool s), (.slice At1 (la).length ct1)]), (.agg #[(.bool s), va])]) (rfl) (leftInt_c _ s _ _ va la t1 (ha.below E)) ?_
    rintro _ w35 ⟨hB35, rfl⟩
    have hz35 := hB35.size
    have E := Below.step E hB35
    have hl_b1 := b1.lt
    have b1 := b1.below hB35
    have hl_b2 := b2.lt
    have b2 := b2.below hB35
    have hl_b3 := b3.lt
    have b3 := b3.below hB35
    have t1 := t1.below hB35
    have hl_b5 := b5.lt
    have b5 := b5.below hB35
    have t2 := t2.below hB35
    have hl_b8 := b8.lt
    have b8 := b8.below hB35
    have h3 := h3.below hB35
    have hl_b11 := b11.lt
    have b11 := b11.below hB35
    have h4 := h4.below hB35
    have hl_b14 := b14.lt
    have b14 := b14.below hB35
    have h5 := h5.below hB35
    have hl_b17 := b17.lt
    have b17 := b17.below hB35
    have h6 := h6.below hB35
    have hl_b20 := b20.lt
    have b20 := b20.below hB35
    have hS_ := Below.step hS_ hB35
    have r3 := r3.below hB35
    have r4 := r4.below hB35
    have r5 := r5.below hB35
    have r6 := r6.below hB35
    refine OPS.nil ⟨hS_, ?_⟩
    refine D_not (i := 49) (by kernel_rfl) (by kernel_rfl) (by kernel_rfl) (listed2 := #[true, true, true, true, true, true, true, true, true, true, true, true, true, true, true, true, true, true, true, true, true, true, true, true, true, true, true, true, true, true, true, true, true, true, true, true, true, true, true, true, true, true, true, true, true, true, true, true, true, true, false, false, false, false, false, false, false]) (by kernel_rfl) rfl rfl rfl (rfl) hS_ ?_
    change DRW _ _ _ _ _ _ _ (upd _ _ (.bool false)) _
    refine D_pick (i := 50) (by kernel_rfl) (by kernel_rfl) (by kernel_rfl) (listed2 := #[true, true, true, true, true, true, true, true, true, true, true, true, true, true, true, true, true, true, true, true, true, true, true, true, true, true, true, true, true, true, true, true, true, true, true, true, true, true, true, true, true, true, true, true, true, true, true, true, true, true, true, false, false, false, false, false, false]) (by kernel_rfl) rfl rfl rfl rfl rfl (b := false) (rfl) (v := (.bool false)) (rfl) hS_ ?_
    refine D_move (i := 51) (by kernel_rfl) (by kernel_rfl) (by kernel_rfl) (listed2 := #[true, true, true, true, true, true, true, true, true, true, true, true, true, true, true, true, true, true, true, true, true, true, true, true, true, true, true, true, true, true, true, true, true, true, true, true, true, true, true, true, true, true, true, true, true, true, true, true, true, true, true, true, false, false, false, false, false]) (by kernel_rfl) rfl rfl rfl (v := (.bool false)) (rfl) hS_ ?_
    refine D_load (i := 52) (by kernel_rfl) (by kernel_rfl) (by kernel_rfl) (listed2 := #[true, true, true, true, true, true, true, true, true, true, true, true, true, true, true, true, true, true, true, true, true, true, true, true, true, true, true, true, true, true, true, true, true, true, true, true, true, true, true, true, true, true, true, true, true, true, true, true, true, true, true, true, true, false, false, false, false]) (by kernel_rfl) rfl rfl rfl (rfl) (fun _ hS2 => LD.blk ti_api_Int (b8_S.below hS2) (l := [(.bool t), (.slice At2 (lb).length ct2)]) rfl rfl) hS_ ?_
    refine D_load (i := 53) (by kernel_rfl) (by kernel_rfl) (by kernel_rfl) (listed2 := #[true, true, true, true, true, true, true, true, true, true, true, true, true, true, true, true, true, true, true, true, true, true, true, true, true, true, true, true, true, true, true, true, true, true, true, true, true, true, true, true, true, true, true, true, true, true, true, true, true, true, true, true, true, true, false, false, false]) (by kernel_rfl) rfl rfl rfl (rfl) (fun _ hS2 => LD.blk ti_api_Int (b2_S.below hS2) (l := [(.bool t), vb]) rfl rfl) hS_ ?_
    refine D_only (i := 54) (by kernel_rfl) (listed2 := #[true, true, true, true, true, true, true, true, true, true, true, true, true, true, true, true, true, true, true, true, true, true, true, true, true, true, true, true, true, true, true, true, true, true, true, true, true, true, true, true, true, true, true, true, true, true, true, true, true, true, true, true, true, true, true, false, false]) (by kernel_rfl) ?_
    refine S_call en_assayerlaw01_LeftInt rfl rfl rfl (vs := [(.agg #[(.bool t), (.slice At2 (lb).length ct2)]), (.agg #[(.bool t), vb])]) (rfl) (leftInt_c _ t _ _ vb lb t2 (hb.below E)) ?_
    rintro _ w36 ⟨hB36, rfl⟩
    have hz36 := hB36.size
    have E := Below.step E hB36
    have hl_b1 := b1.lt
    have b1 := b1.below hB36
    have hl_b2 := b2.lt
    have b2 := b2.below hB36
    have hl_b3 := b3.lt
    have b3 := b3.below hB36
    have t1 := t1.below hB36
    have hl_b5 := b5.lt
    have b5 := b5.below hB36
    have t2 := t2.below hB36
    have hl_b8 := b8.lt
    have b8 := b8.below hB36
    have h3 := h3.below hB36
    have hl_b11 := b11.lt
    have b11 := b11.below hB36
    have h4 := h4.below hB36
    have hl_b14 := b14.lt
    have b14 := b14.below hB36
    have h5 := h5.below hB36
    have hl_b17 := b17.lt
    have b17 := b17.below hB36
    have h6 := h6.below hB36
    have hl_b20 := b20.lt
    have b20 := b20.below hB36
    have hS_ := Below.step hS_ hB36
    have r3 := r3.below hB36
    have r4 := r4.below hB36
    have r5 := r5.below hB36
    have r6 := r6.below hB36
    refine OPS.nil ⟨hS_, ?_⟩
    refine D_not (i := 55) (by kernel_rfl) (by kernel_rfl) (by kernel_rfl) (listed2 := #[true, true, true, true, true, true, true, true, true, true, true, true, true, true, true, true, true, true, true, true, true, true, true, true, true, true, true, true, true, true, true, true, true, true, true, true, true, true, true, true, true, true, true, true, true, true, true, true, true, true, true, true, true, true, true, true, false]) (by kernel_rfl) rfl rfl rfl (rfl) hS_ ?_
    change DRW _ _ _ _ _ _ _ (upd _ _ (.bool false)) _
    refine D_pick (i := 56) (by kernel_rfl) (by kernel_rfl) (by kernel_rfl) (listed2 := #[true, true, true, true, true, true, true, true, true, true, true, true, true, true, true, true, true, true, true, true, true, true, true, true, true, true, true, true, true, true, true, true, true, true, true, true, true, true, true, true, true, true, true, true, true, true, true, true, true, true, true, true, true, true, true, true, true]) (by kernel_rfl) rfl rfl rfl rfl rfl (b := false) (rfl) (v := (.bool false)) (rfl) hS_ ?_
    refine D_done (by kernel_rfl) ?_
    change WP _ _ _ _ _ _
    refine W_cond rfl (b := false) (rfl) (fun h => (by cases h)) (fun _ => ?_)
    refine W_skip ?_
    change WP _ _ _ _ _ _
    refine W_seq ?_
    refine W_region rfl ?_
    refine S_build rfl rfl rfl (cs := [.int .i64 0, .slice none 0 0, .slice none 0 0, .slice none 0 0, .slice none 0 0, .slice none 0 0, .slice none 0 0, .slice none 0 0, .slice none 0 0, .slice none 0 0, .slice none 0 0, .slice none 0 0, .slice none 0 0]) (by kernel_rfl) ?_
    refine S_alloc ti_assayerlaw01_Book rfl rfl (cs := [.int .i64 0, .slice none 0 0, .slice none 0 0, .slice none 0 0, .slice none 0 0, .slice none 0 0, .slice none 0 0, .slice none 0 0, .slice none 0 0, .slice none 0 0, .slice none 0 0, .slice none 0 0, .slice none 0 0]) rfl ?_
    intro g37 w37 hg37 hs37 hB37 b37
    have hz37 := hB37.size
    have E := Below.step E hB37
    have hl_b1 := b1.lt
    have b1 := b1.below hB37
    have hl_b2 := b2.lt
    have b2 := b2.below hB37
    have hl_b3 := b3.lt
    have b3 := b3.below hB37
    have t1 := t1.below hB37
    have hl_b5 := b5.lt
    have b5 := b5.below hB37
    have t2 := t2.below hB37
    have hl_b8 := b8.lt
    have b8 := b8.below hB37
    have h3 := h3.below hB37
    have hl_b11 := b11.lt
    have b11 := b11.below hB37
    have h4 := h4.below hB37
    have hl_b14 := b14.lt
    have b14 := b14.below hB37
    have h5 := h5.below hB37
    have hl_b17 := b17.lt
    have b17 := b17.below hB37
    have h6 := h6.below hB37
    have hl_b20 := b20.lt
    have b20 := b20.below hB37
    refine S_store ti_assayerlaw01_Book rfl rfl rfl rfl (g := g37) (o := 0) (rfl) (v := (.agg #[.int .i64 0, .slice none 0 0, .slice none 0 0, .slice none 0 0, .slice none 0 0, .slice none 0 0, .slice none 0 0, .slice none 0 0, .slice none 0 0, .slice none 0 0, .slice none 0 0, .slice none 0 0, .slice none 0 0])) (rfl) (vs := [.int .i64 0, .slice none 0 0, .slice none 0 0, .slice none 0 0, .slice none 0 0, .slice none 0 0, .slice none 0 0, .slice none 0 0, .slice none 0 0, .slice none 0 0, .slice none 0 0, .slice none 0 0, .slice none 0 0]) rfl rfl (by simp [Value.oneCell']) b37 (by simp) (cs' := [.int .i64 0, .slice none 0 0, .slice none 0 0, .slice none 0 0, .slice none 0 0, .slice none 0 0, .slice none 0 0, .slice none 0 0, .slice none 0 0, .slice none 0 0, .slice none 0 0, .slice none 0 0, .slice none 0 0]) rfl ?_
    intro w38 hU38 b37
    have E := Below.stepU E hU38 (by omega)
    have b1 := b1.upd hU38 (by omega)
    have b2 := b2.upd hU38 (by omega)
    have b3 := b3.upd hU38 (by omega)
    have t1 := t1.updN hU38 (fun g hg => by have := hk1 g hg; omega)
    have b5 := b5.upd hU38 (by omega)
    have t2 := t2.updN hU38 (fun g hg => by have := hk2 g hg; omega)
    have b8 := b8.upd hU38 (by omega)
    have h3 := h3.updN hU38 (fun g hg => by have := hk3 g hg; omega)
    have b11 := b11.upd hU38 (by omega)
    have h4 := h4.updN hU38 (fun g hg => by have := hk4 g hg; omega)
    have b14 := b14.upd hU38 (by omega)
    have h5 := h5.updN hU38 (fun g hg => by have := hk5 g hg; omega)
    have b17 := b17.upd hU38 (by omega)
    have h6 := h6.updN hU38 (fun g hg => by have := hk6 g hg; omega)
    have b20 := b20.upd hU38 (by omega)
    have hz38 := hU38.size
    have HW := ((((((((((((OWF.nil w0.heap.size w38 g37).cons (o := ovB g20 25 [(.bool (decide (-(zv s la) < 0))), (.slice Ah6 (dg (-(zv s la)).natAbs).length ch6)]) (ovB_ok b20 (by omega)) box_bk (by omega) (by omega)).cons (o := ovN (.slice Ah6 (dg (-(zv s la)).natAbs).length ch6) (dg (-(zv s la)).natAbs)) (ON.ov (ON.mono (h6) (by omega))) hk6 (by omega) (by omega)).cons (o := ovB g17 25 [(.bool (decide (zv s la * zv t lb < 0))), (.slice Ah5 (dg (zv s la * zv t lb).natAbs).length ch5)]) (ovB_ok b17 (by omega)) box_bk (by omega) (by omega)).cons (o := ovN (.slice Ah5 (dg (zv s la * zv t lb).natAbs).length ch5) (dg (zv s la * zv t lb).natAbs)) (ON.ov (ON.mono (h5) (by omega))) hk5 (by omega) (by omega)).cons (o := ovB g14 25 [(.bool (decide (zv s la - zv t lb < 0))), (.slice Ah4 (dg (zv s la - zv t lb).natAbs).length ch4)]) (ovB_ok b14 (by omega)) box_bk (by omega) (by omega)).cons (o := ovN (.slice Ah4 (dg (zv s la - zv t lb).natAbs).length ch4) (dg (zv s la - zv t lb).natAbs)) (ON.ov (ON.mono (h4) (by omega))) hk4 (by omega) (by omega)).cons (o := ovB g11 25 [(.bool (decide (zv s la + zv t lb < 0))), (.slice Ah3 (dg (zv s la + zv t lb).natAbs).length ch3)]) (ovB_ok b11 (by omega)) box_bk (by omega) (by omega)).cons (o := ovN (.slice Ah3 (dg (zv s la + zv t lb).natAbs).length ch3) (dg (zv s la + zv t lb).natAbs)) (ON.ov (ON.mono (h3) (by omega))) hk3 (by omega) (by omega)).cons (o := ovB g8 25 [(.bool t), (.slice At2 (lb).length ct2)]) (ovB_ok b8 (by omega)) box_bk (by omega) (by omega)).cons (o := ovN (.slice At2 lb.length ct2) lb) (ON.ov (ON.mono (t2.on) (by omega))) hk2 (by omega) (by omega)).cons (o := ovB g5 25 [(.bool s), (.slice At1 (la).length ct1)]) (ovB_ok b5 (by omega)) box_bk (by omega) (by omega)).cons (o := ovN (.slice At1 la.length ct1) la) (ON.ov (ON.mono (t1.on) (by omega))) hk1 (by omega) (by omega)
    have HWP := OWN.perm HW.1 (perm_unzip [(ovN (.slice At1 la.length ct1) la, ovB g5 25 [(.bool s), (.slice At1 (la).length ct1)]), (ovN (.slice At2 lb.length ct2) lb, ovB g8 25 [(.bool t), (.slice At2 (lb).length ct2)]), (ovN (.slice Ah3 (dg (zv s la + zv t lb).natAbs).length ch3) (dg (zv s la + zv t lb).natAbs), ovB g11 25 [(.bool (decide (zv s la + zv t lb < 0))), (.slice Ah3 (dg (zv s la + zv t lb).natAbs).length ch3)]), (ovN (.slice Ah4 (dg (zv s la - zv t lb).natAbs).length ch4) (dg (zv s la - zv t lb).natAbs), ovB g14 25 [(.bool (decide (zv s la - zv t lb < 0))), (.slice Ah4 (dg (zv s la - zv t lb).natAbs).length ch4)]), (ovN (.slice Ah5 (dg (zv s la * zv t lb).natAbs).length ch5) (dg (zv s la * zv t lb).natAbs), ovB g17 25 [(.bool (decide (zv s la * zv t lb < 0))), (.slice Ah5 (dg (zv s la * zv t lb).natAbs).length ch5)]), (ovN (.slice Ah6 (dg (-(zv s la)).natAbs).length ch6) (dg (-(zv s la)).natAbs), ovB g20 25 [(.bool (decide (-(zv s la) < 0))), (.slice Ah6 (dg (-(zv s la)).natAbs).length ch6)])])
    have hkb : ∀ o ∈ [(ovN (.slice At1 la.length ct1) la), (ovN (.slice At2 lb.length ct2) lb), (ovN (.slice Ah3 (dg (zv s la + zv t lb).natAbs).length ch3) (dg (zv s la + zv t lb).natAbs)), (ovN (.slice Ah4 (dg (zv s la - zv t lb).natAbs).length ch4) (dg (zv s la - zv t lb).natAbs)), (ovN (.slice Ah5 (dg (zv s la * zv t lb).natAbs).length ch5) (dg (zv s la * zv t lb).natAbs)), (ovN (.slice Ah6 (dg (-(zv s la)).natAbs).length ch6) (dg (-(zv s la)).natAbs)), (ovB g5 25 [(.bool s), (.slice At1 (la).length ct1)]), (ovB g8 25 [(.bool t), (.slice At2 (lb).length ct2)]), (ovB g11 25 [(.bool (decide (zv s la + zv t lb < 0))), (.slice Ah3 (dg (zv s la + zv t lb).natAbs).length ch3)]), (ovB g14 25 [(.bool (decide (zv s la - zv t lb < 0))), (.slice Ah4 (dg (zv s la - zv t lb).natAbs).length ch4)]), (ovB g17 25 [(.bool (decide (zv s la * zv t lb < 0))), (.slice Ah5 (dg (zv s la * zv t lb).natAbs).length ch5)]), (ovB g20 25 [(.bool (decide (-(zv s la) < 0))), (.slice Ah6 (dg (-(zv s la)).natAbs).length ch6)])], bk o.v ≠ some g37 := fun o ho e => by
      have h9 := (HWP.ok o ho).bkB _ e
      simp only [List.mem_cons, List.not_mem_nil, or_false] at ho
      rcases ho with rfl | rfl | rfl | rfl | rfl | rfl | rfl | rfl | rfl | rfl | rfl | rfl
      · have := hk1 _ e; omega
      · have := hk2 _ e; omega
      · have := hk3 _ e; omega
      · have := hk4 _ e; omega
      · have := hk5 _ e; omega
      · have := hk6 _ e; omega
      · have := box_bk _ e; omega
      · have := box_bk _ e; omega
      · have := box_bk _ e; omega
      · have := box_bk _ e; omega
      · have := box_bk _ e; omega
      · have := box_bk _ e; omega
    have HB : BK w0.heap.size g37 w38 0 [(ovN (.slice At1 la.length ct1) la), (ovN (.slice At2 lb.length ct2) lb), (ovN (.slice Ah3 (dg (zv s la + zv t lb).natAbs).length ch3) (dg (zv s la + zv t lb).natAbs)), (ovN (.slice Ah4 (dg (zv s la - zv t lb).natAbs).length ch4) (dg (zv s la - zv t lb).natAbs)), (ovN (.slice Ah5 (dg (zv s la * zv t lb).natAbs).length ch5) (dg (zv s la * zv t lb).natAbs)), (ovN (.slice Ah6 (dg (-(zv s la)).natAbs).length ch6) (dg (-(zv s la)).natAbs)), (ovB g5 25 [(.bool s), (.slice At1 (la).length ct1)]), (ovB g8 25 [(.bool t), (.slice At2 (lb).length ct2)]), (ovB g11 25 [(.bool (decide (zv s la + zv t lb < 0))), (.slice Ah3 (dg (zv s la + zv t lb).natAbs).length ch3)]), (ovB g14 25 [(.bool (decide (zv s la - zv t lb < 0))), (.slice Ah4 (dg (zv s la - zv t lb).natAbs).length ch4)]), (ovB g17 25 [(.bool (decide (zv s la * zv t lb < 0))), (.slice Ah5 (dg (zv s la * zv t lb).natAbs).length ch5)]), (ovB g20 25 [(.bool (decide (-(zv s la) < 0))), (.slice Ah6 (dg (-(zv s la)).natAbs).length ch6)])] := BK.start b37 HWP hkb (by omega)
    refine OPS.nil ?_
    change WP _ _ _ _ _ _
    refine W_seq ?_
    refine W_region rfl ?_
    refine S_load rfl rfl rfl (rfl) (LD.blk ti_api_Int b5 (l := [(.bool s), (.slice At1 (la).length ct1)]) rfl rfl) ?_
    refine S_call en_passayerlaw01_Book_Int rfl rfl rfl (vs := [(.pointer (some ⟨g37, 0, none⟩)), (.agg #[(.bool s), (.slice At1 (la).length ct1)])]) (rfl) (bookInt_c _ _ 0 _ _ _ _ HB (by omega) (by omega)) ?_
    rintro _ w39 ⟨hT, HB⟩
    have E := E.trans hT
    obtain ⟨rest0, bx0⟩ := box_get (HB.ok (o := ovB g8 25 [(.bool t), (.slice At2 (lb).length ct2)]) (by simp))
    refine OPS.nil ?_
    change WP _ _ _ _ _ _
    refine W_seq ?_
    refine W_region rfl ?_
    refine S_load rfl rfl rfl (rfl) (LD.blk ti_api_Int bx0 (l := [(.bool t), (.slice At2 (lb).length ct2)]) rfl rfl) ?_
    refine S_call en_passayerlaw01_Book_Int rfl rfl rfl (vs := [(.pointer (some ⟨g37, 0, none⟩)), (.agg #[(.bool t), (.slice At2 (lb).length ct2)])]) (rfl) (bookInt_c _ _ 1 _ _ _ _ HB (by omega) (by omega)) ?_
    rintro _ w40 ⟨hT, HB⟩
    have E := E.trans hT
    obtain ⟨rest1, bx1⟩ := box_get (HB.ok (o := ovB g11 25 [(.bool (decide (zv s la + zv t lb < 0))), (.slice Ah3 (dg (zv s la + zv t lb).natAbs).length ch3)]) (by simp))
    refine OPS.nil ?_
    change WP _ _ _ _ _ _
    refine W_seq ?_
    refine W_region rfl ?_
    refine S_load rfl rfl rfl (rfl) (LD.blk ti_api_Int bx1 (l := [(.bool (decide (zv s la + zv t lb < 0))), (.slice Ah3 (dg (zv s la + zv t lb).natAbs).length ch3)]) rfl rfl) ?_
    refine S_call en_passayerlaw01_Book_Int rfl rfl rfl (vs := [(.pointer (some ⟨g37, 0, none⟩)), (.agg #[(.bool (decide (zv s la + zv t lb < 0))), (.slice Ah3 (dg (zv s la + zv t lb).natAbs).length ch3)])]) (rfl) (bookInt_c _ _ 2 _ _ _ _ HB (by omega) (by omega)) ?_
    rintro _ w41 ⟨hT, HB⟩
    have E := E.trans hT
    obtain ⟨rest2, bx2⟩ := box_get (HB.ok (o := ovB g14 25 [(.bool (decide (zv s la - zv t lb < 0))), (.slice Ah4 (dg (zv s la - zv t lb).natAbs).length ch4)]) (by simp))
    refine OPS.nil ?_
    change WP _ _ _ _ _ _
    refine W_seq ?_
    refine W_region rfl ?_
    refine S_load rfl rfl rfl (rfl) (LD.blk ti_api_Int bx2 (l := [(.bool (decide (zv s la - zv t lb < 0))), (.slice Ah4 (dg (zv s la - zv t lb).natAbs).length ch4)]) rfl rfl) ?_
    refine S_call en_passayerlaw01_Book_Int rfl rfl rfl (vs := [(.pointer (some ⟨g37, 0, none⟩)), (.agg #[(.bool (decide (zv s la - zv t lb < 0))), (.slice Ah4 (dg (zv s la - zv t lb).natAbs).length ch4)])]) (rfl) (bookInt_c _ _ 3 _ _ _ _ HB (by omega) (by omega)) ?_
    rintro _ w42 ⟨hT, HB⟩
    have E := E.trans hT
    obtain ⟨rest3, bx3⟩ := box_get (HB.ok (o := ovB g17 25 [(.bool (decide (zv s la * zv t lb < 0))), (.slice Ah5 (dg (zv s la * zv t lb).natAbs).length ch5)]) (by simp))
    refine OPS.nil ?_
    change WP _ _ _ _ _ _
    refine W_seq ?_
    refine W_region rfl ?_
    refine S_load rfl rfl rfl (rfl) (LD.blk ti_api_Int bx3 (l := [(.bool (decide (zv s la * zv t lb < 0))), (.slice Ah5 (dg (zv s la * zv t lb).natAbs).length ch5)]) rfl rfl) ?_
    refine S_call en_passayerlaw01_Book_Int rfl rfl rfl (vs := [(.pointer (some ⟨g37, 0, none⟩)), (.agg #[(.bool (decide (zv s la * zv t lb < 0))), (.slice Ah5 (dg (zv s la * zv t lb).natAbs).length ch5)])]) (rfl) (bookInt_c _ _ 4 _ _ _ _ HB (by omega) (by omega)) ?_
    rintro _ w43 ⟨hT, HB⟩
    have E := E.trans hT
    obtain ⟨rest4, bx4⟩ := box_get (HB.ok (o := ovB g20 25 [(.bool (decide (-(zv s la) < 0))), (.slice Ah6 (dg (-(zv s la)).natAbs).length ch6)]) (by simp))
    refine OPS.nil ?_
    change WP _ _ _ _ _ _
    refine W_seq ?_
    refine W_region rfl ?_
    refine S_load rfl rfl rfl (rfl) (LD.blk ti_api_Int bx4 (l := [(.bool (decide (-(zv s la) < 0))), (.slice Ah6 (dg (-(zv s la)).natAbs).length ch6)]) rfl rfl) ?_
    refine S_call en_passayerlaw01_Book_Int rfl rfl rfl (vs := [(.pointer (some ⟨g37, 0, none⟩)), (.agg #[(.bool (decide (-(zv s la) < 0))), (.slice Ah6 (dg (-(zv s la)).natAbs).length ch6)])]) (rfl) (bookInt_c _ _ 5 _ _ _ _ HB (by omega) (by omega)) ?_
    rintro _ w44 ⟨hT, HB⟩
    have E := E.trans hT
    refine OPS.nil ?_
    change WP _ _ _ _ _ _
    refine W_seq ?_
    refine W_region rfl ?_
    refine S_call en_passayerlaw01_Book_Apart rfl rfl rfl (vs := [(.pointer (some ⟨g37, 0, none⟩))]) (rfl) (apart_c _ _ _ _ HB) ?_
    rintro _ w45 ⟨hT, rfl⟩
    have E := E.trans hT
    refine S_assign rfl rfl rfl (v := (.bool true)) (rfl) ?_
    refine OPS.nil ?_
    change WP _ _ _ _ _ _
    refine W_ret ?_
    change Fin' _ _ _ _ _ _
    refine End1 (n := ⟨102, []⟩) (t := 4) rfl (by decide) (v := (.bool true)) (rfl) ?_
    exact ⟨E, rfl⟩

end Go.Proofs.YtccmicegihlfbaaGreatDoor
