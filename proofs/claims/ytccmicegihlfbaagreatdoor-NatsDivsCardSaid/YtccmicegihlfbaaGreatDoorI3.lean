/- Whole numbers: the document's. -/
import Derived.Test.YtccmicegihlfbaaGreatDoorI2
import Derived.Test.YtccmicegihlfbaaGreatDoorTy
set_option linter.unusedVariables false
set_option linter.unusedSimpArgs false
namespace Go.Proofs.YtccmicegihlfbaaGreatDoor
open Go.RowKit

set_option maxHeartbeats 400000 in
theorem ref02Sign_c (w0 : World) (s : Bool) (va : Value) (la : List Int) {a b : Nat} (ha : RN a b w0 va la) :
    Ret Tryz.prog 19 [.agg #[.bool s, va]] w0 (fun r w1 => Below w0.heap.size w0 w1 ∧ r = .int .i64 (cmpZ (zv s la) 0)) := by
  have E := Below.refl w0.heap.size w0
  refine Ret_of (n := 11) Tryz.func19 rfl rfl (Nat.le_of_ble_eq_true rfl) ?_
  refine W_seq ?_
  refine W_region rfl ?_
  refine S_box rfl rfl rfl (v := .agg #[.bool s, va]) (rfl) (cs := [(.bool s), va]) rfl ?_
  intro g1 w1 hg1 hs1 hB1 b1
  have hz1 := hB1.size
  have E := Below.step E hB1
  refine S_assign rfl rfl rfl (v := (.int .i64 0)) (rfl) ?_
  refine OPS.nil ?_
  change WP _ _ _ _ _ _
  refine W_seq ?_
  refine W_region rfl ?_
  refine S_load rfl rfl rfl (rfl) (LD.blk ti_api_Int b1 (l := [(.bool s), va]) rfl rfl) ?_
  refine S_call en_assayerref02_fit rfl rfl rfl (vs := [(.agg #[(.bool s), va])]) (rfl) (ref02Fit_c _ s va la (ha.below E)) ?_
  rintro _ w2 ⟨hB2, vh1, rfl, h1⟩
  have hz2 := hB2.size
  have E := Below.step E hB2
  have hl_b1 := b1.lt
  have b1 := b1.below hB2
  have h1 := h1 _ _ _ ha
  refine S_store ti_api_Int rfl rfl rfl rfl (g := g1) (o := 0) (rfl) (v := (.agg #[.bool (decide (zv s la < 0)), vh1])) (rfl) (vs := [(.bool (decide (zv s la < 0))), vh1]) rfl rfl (one2 (rfl) ((h1.below E).one_)) b1 (by simp) (cs' := [(.bool (decide (zv s la < 0))), vh1]) rfl ?_
  intro w3 hU3 b1
  have E := Below.stepU E hU3 (by omega)
  have hz3 := hU3.size
  refine OPS.nil ?_
  change WP _ _ _ _ _ _
  refine W_seq ?_
  refine W_seq ?_
  refine W_region rfl ?_
  refine S_field ft_api_Int_0 rfl rfl rfl (g := g1) (o := 0) (rfl) (o' := 0) rfl ?_
  refine S_load rfl rfl rfl (rfl) (LD.blk1 ti_bool b1 (v := (.bool (decide (zv s la < 0)))) rfl) ?_
  refine OPS.nil ?_
  change WP _ _ _ _ _ _
  refine W_cond rfl (rfl) (fun hq6 => ?_) (fun hq6 => ?_)
  · skip
    have pT := hq6
    skip
    try rw [pT]
    refine W_seq ?_
    refine W_region rfl ?_
    refine S_assign rfl rfl rfl (v := (.int .i64 (-1))) (rfl) ?_
    refine OPS.nil ?_
    change WP _ _ _ _ _ _
    refine W_ret ?_
    change Fin' _ _ _ _ _ _
    refine End1 (n := ⟨11, []⟩) (t := 2) rfl (by decide) (v := (.int .i64 (-1))) (rfl) ?_
    exact ⟨E, by rw [show cmpZ (zv s la) 0 = -1 from if_pos (of_decide_eq_true pT)]⟩
  · skip
    have pF := hq6
    skip
    try rw [pF]
    refine W_skip ?_
    change WP _ _ _ _ _ _
    refine W_seq ?_
    refine W_seq ?_
    refine W_region rfl ?_
    refine S_field ft_api_Int_1 rfl rfl rfl (g := g1) (o := 0) (rfl) (o' := 1) rfl ?_
    refine S_load rfl rfl rfl (rfl) (LD.blk1 ti_api_Nat b1 (v := vh1) rfl) ?_
    refine S_len Tryz.underlying23 rfl rfl rfl (rfl) (m := (dg (zv s la).natAbs).length) ((h1.below E).len) ?_
    refine S_bin rfl rfl rfl rfl rfl (rfl) (rfl) (v := .bool (decide (((dg (zv s la).natAbs).length : Int) > 0))) rfl ?_
    refine OPS.nil ?_
    change WP _ _ _ _ _ _
    refine W_cond rfl (rfl) (fun hq10 => ?_) (fun hq10 => ?_)
    · skip
      have pFT := hq10
      replace hq10 := of_decide_eq_true hq10
      have qFT := hq10
      try rw [pFT]
      refine W_seq ?_
      refine W_region rfl ?_
      refine S_assign rfl rfl rfl (v := (.int .i64 1)) (rfl) ?_
      refine OPS.nil ?_
      change WP _ _ _ _ _ _
      refine W_ret ?_
      change Fin' _ _ _ _ _ _
      refine End1 (n := ⟨11, []⟩) (t := 2) rfl (by decide) (v := (.int .i64 1)) (rfl) ?_
      have h8 := of_decide_eq_false pF
      have h9 : dg (zv s la).natAbs ≠ [] := fun e => by rw [e] at qFT; simp at qFT
      have h7 : (zv s la).natAbs ≠ 0 := fun e => h9 (dg_eq_nil.2 e)
      exact ⟨E, int_eq (by unfold cmpZ; rw [if_neg h8, if_neg (by omega)])⟩
    · skip
      have pFF := hq10
      replace hq10 := of_decide_eq_false hq10
      have qFF := hq10
      try rw [pFF]
      refine W_skip ?_
      change WP _ _ _ _ _ _
      refine W_seq ?_
      refine W_region rfl ?_
      refine S_assign rfl rfl rfl (v := (.int .i64 0)) (rfl) ?_
      refine OPS.nil ?_
      change WP _ _ _ _ _ _
      refine W_ret ?_
      change Fin' _ _ _ _ _ _
      refine End1 (n := ⟨11, []⟩) (t := 2) rfl (by decide) (v := (.int .i64 0)) (rfl) ?_
      have h8 := of_decide_eq_false pF
      have h9 : dg (zv s la).natAbs = [] := List.eq_nil_of_length_eq_zero (by omega)
      have h7 := dg_eq_nil.1 h9
      exact ⟨E, int_eq (by unfold cmpZ; rw [if_neg h8, if_pos (by omega)])⟩

set_option maxHeartbeats 400000 in
theorem ref02Neg_c (w0 : World) (s : Bool) (va : Value) (la : List Int) {a b : Nat} (ha : RN a b w0 va la) (hsa : la.length ≤ SZ) :
    Ret Tryz.prog 24 [.agg #[.bool s, va]] w0 (fun r w1 => Below w0.heap.size w0 w1 ∧ ∃ v, r = .agg #[.bool (decide (-(zv s la) < 0)), v] ∧ ON w0.heap.size w1 v (dg (-(zv s la)).natAbs)) := by
  have E := Below.refl w0.heap.size w0
  have hlx := zv_len (s := s) ha.u32
  refine Ret_of (n := 12) Tryz.func24 rfl rfl (Nat.le_of_ble_eq_true rfl) ?_
  refine W_seq ?_
  refine W_region rfl ?_
  refine S_box rfl rfl rfl (v := .agg #[.bool s, va]) (rfl) (cs := [(.bool s), va]) rfl ?_
  intro g1 w1 hg1 hs1 hB1 b1
  have hz1 := hB1.size
  have E := Below.step E hB1
  refine S_alloc ti_api_Int rfl rfl (cs := [.bool false, .slice none 0 0]) rfl ?_
  intro g2 w2 hg2 hs2 hB2 b2
  have hz2 := hB2.size
  have E := Below.step E hB2
  have hl_b1 := b1.lt
  have b1 := b1.below hB2
  refine OPS.nil ?_
  change WP _ _ _ _ _ _
  refine W_seq ?_
  refine W_region rfl ?_
  refine S_load rfl rfl rfl (rfl) (LD.blk ti_api_Int b1 (l := [(.bool s), va]) rfl rfl) ?_
  refine S_call en_assayerref02_fit rfl rfl rfl (vs := [(.agg #[(.bool s), va])]) (rfl) (ref02Fit_c _ s va la (ha.below E)) ?_
  rintro _ w3 ⟨hB3, vh1, rfl, h1⟩
  have hz3 := hB3.size
  have E := Below.step E hB3
  have hl_b1 := b1.lt
  have b1 := b1.below hB3
  have hl_b2 := b2.lt
  have b2 := b2.below hB3
  have h1 := h1 _ _ _ ha
  refine S_store ti_api_Int rfl rfl rfl rfl (g := g1) (o := 0) (rfl) (v := (.agg #[.bool (decide (zv s la < 0)), vh1])) (rfl) (vs := [(.bool (decide (zv s la < 0))), vh1]) rfl rfl (one2 (rfl) ((h1.below E).one_)) b1 (by simp) (cs' := [(.bool (decide (zv s la < 0))), vh1]) rfl ?_
  intro w4 hU4 b1
  have E := Below.stepU E hU4 (by omega)
  have b2 := b2.upd hU4 (by omega)
  have hz4 := hU4.size
  refine OPS.nil ?_
  change WP _ _ _ _ _ _
  refine W_seq ?_
  refine D_begin_ mixed_ rfl rfl ?_
  intro w5 hB5 hz_5
  have hz5 := hB5.size
  have E := Below.step E hB5
  have hl_b1 := b1.lt
  have b1 := b1.below hB5
  have hl_b2 := b2.lt
  have b2 := b2.below hB5
  have hS_ : Below w5.heap.size w5 w5 := Below.refl _ _
  have E_S := E
  have b1_S := b1
  have b2_S := b2
  refine D_field ft_api_Int_0 (i := 0) (by kernel_rfl) (by kernel_rfl) (by kernel_rfl) (listed2 := #[true, false, false, false, false, false, false, false]) (by kernel_rfl) rfl rfl rfl (g := g1) (o := 0) (rfl) (o' := 0) rfl hS_ ?_
  refine D_load (i := 1) (by kernel_rfl) (by kernel_rfl) (by kernel_rfl) (listed2 := #[true, true, false, false, false, false, false, false]) (by kernel_rfl) rfl rfl rfl (rfl) (fun _ hS2 => LD.blk1 ti_bool (b1_S.below hS2) (v := (.bool (decide (zv s la < 0)))) rfl) hS_ ?_
  refine D_not (i := 2) (by kernel_rfl) (by kernel_rfl) (by kernel_rfl) (listed2 := #[true, true, true, false, false, false, false, false]) (by kernel_rfl) rfl rfl rfl (rfl) hS_ ?_
  refine D_field ft_api_Int_1 (i := 3) (by kernel_rfl) (by kernel_rfl) (by kernel_rfl) (listed2 := #[true, true, true, true, false, false, false, false]) (by kernel_rfl) rfl rfl rfl (g := g1) (o := 0) (rfl) (o' := 1) rfl hS_ ?_
  refine D_load (i := 4) (by kernel_rfl) (by kernel_rfl) (by kernel_rfl) (listed2 := #[true, true, true, true, true, false, false, false]) (by kernel_rfl) rfl rfl rfl (rfl) (fun _ hS2 => LD.blk1 ti_api_Nat (b1_S.below hS2) (v := vh1) rfl) hS_ ?_
  refine D_only (i := 5) (by kernel_rfl) (listed2 := #[true, true, true, true, true, true, false, false]) (by kernel_rfl) ?_
  refine S_call en_assayerref01_Twin rfl rfl rfl (vs := [vh1]) (rfl) (ref01Twin_c _ _ _ (h1.below E) (by omega)) ?_
  rintro vh3 w6 ⟨hB6, h3⟩
  have hz6 := hB6.size
  have E := Below.step E hB6
  have hl_b1 := b1.lt
  have b1 := b1.below hB6
  have hl_b2 := b2.lt
  have b2 := b2.below hB6
  have hS_ := Below.step hS_ hB6
  refine OPS.nil ⟨hS_, ?_⟩
  refine D_last (i := 6) (f := 8) (by kernel_rfl) (by kernel_rfl) (listed2 := #[true, true, true, true, true, true, true, false]) (by kernel_rfl) ?_
  refine S_call en_assayerref02_Signed rfl rfl rfl (vs := [(.bool (!(decide (zv s la < 0)))), vh3]) (rfl) (ref02Signed_c _ (!(decide (zv s la < 0))) vh3 (dg (zv s la).natAbs) h3.r) ?_
  rintro _ w7 ⟨hB7, rfl⟩
  have hz7 := hB7.size
  have E := Below.step E hB7
  have hl_b1 := b1.lt
  have b1 := b1.below hB7
  have hl_b2 := b2.lt
  have b2 := b2.below hB7
  have h3 := h3.below hB7
  refine OPS.nil ?_
  refine D_last (i := 7) (f := 8) (by kernel_rfl) (by kernel_rfl) (listed2 := #[true, true, true, true, true, true, true, true]) (by kernel_rfl) ?_
  refine S_store ti_api_Int rfl rfl rfl rfl (g := g2) (o := 0) (rfl) (v := (.agg #[.bool ((!(decide (zv s la < 0))) && !((dg (zv s la).natAbs)).isEmpty), vh3])) (rfl) (vs := [(.bool ((!(decide (zv s la < 0))) && !((dg (zv s la).natAbs)).isEmpty)), vh3]) rfl rfl (one2 (rfl) (h3.r.one_)) b2 (by simp) (cs' := [(.bool ((!(decide (zv s la < 0))) && !((dg (zv s la).natAbs)).isEmpty)), vh3]) rfl ?_
  intro w8 hU8 b2
  have E := Below.stepU E hU8 (by omega)
  have b1 := b1.upd hU8 (by omega)
  have h3 := h3.upd hU8 (by omega) (by omega)
  have hz8 := hU8.size
  refine OPS.nil ?_
  refine D_done (by kernel_rfl) ?_
  change WP _ _ _ _ _ _
  refine W_ret ?_
  change Fin' _ _ _ _ _ _
  refine EndC (n := ⟨12, []⟩) (t := 2) rfl (by decide) (rfl) (LD.blk ti_api_Int b2 (l := [(.bool ((!(decide (zv s la < 0))) && !((dg (zv s la).natAbs)).isEmpty)), vh3]) rfl rfl) ?_
  have h9 := neg_sign (z := zv s la)
  exact ⟨E, vh3, by rw [h9.1], by rw [← h9.2]; exact h3.mono (by omega)⟩

set_option maxHeartbeats 400000 in
theorem ref02Add_c (w0 : World) (s t : Bool) (va vb : Value) (la lb : List Int) {a b a' b' : Nat} (ha : RN a b w0 va la) (hb : RN a' b' w0 vb lb) (hsa : la.length ≤ SZ) (hsb : lb.length ≤ SZ) :
    Ret Tryz.prog 21 [.agg #[.bool s, va], .agg #[.bool t, vb]] w0 (fun r w1 => Below w0.heap.size w0 w1 ∧ ∃ v, r = .agg #[.bool (decide (zv s la + zv t lb < 0)), v] ∧ ON w0.heap.size w1 v (dg (zv s la + zv t lb).natAbs)) := by
  have E := Below.refl w0.heap.size w0
  have hlx := zv_len (s := s) ha.u32
  have hly := zv_len (s := t) hb.u32
  refine Ret_of (n := 56) Tryz.func21 rfl rfl (Nat.le_of_ble_eq_true rfl) ?_
  refine W_seq ?_
  refine W_region rfl ?_
  refine S_box rfl rfl rfl (v := .agg #[.bool s, va]) (rfl) (cs := [(.bool s), va]) rfl ?_
  intro g1 w1 hg1 hs1 hB1 b1
  have hz1 := hB1.size
  have E := Below.step E hB1
  refine S_box rfl rfl rfl (v := .agg #[.bool t, vb]) (rfl) (cs := [(.bool t), vb]) rfl ?_
  intro g2 w2 hg2 hs2 hB2 b2
  have hz2 := hB2.size
  have E := Below.step E hB2
  have hl_b1 := b1.lt
  have b1 := b1.below hB2
  refine S_alloc ti_api_Int rfl rfl (cs := [.bool false, .slice none 0 0]) rfl ?_
  intro g3 w3 hg3 hs3 hB3 b3
  have hz3 := hB3.size
  have E := Below.step E hB3
  have hl_b1 := b1.lt
  have b1 := b1.below hB3
  have hl_b2 := b2.lt
  have b2 := b2.below hB3
  refine OPS.nil ?_
  change WP _ _ _ _ _ _
  refine W_seq ?_
  refine W_region rfl ?_
  refine S_load rfl rfl rfl (rfl) (LD.blk ti_api_Int b1 (l := [(.bool s), va]) rfl rfl) ?_
  refine S_call en_assayerref02_fit rfl rfl rfl (vs := [(.agg #[(.bool s), va])]) (rfl) (ref02Fit_c _ s va la (ha.below E)) ?_
  rintro _ w4 ⟨hB4, vh1, rfl, h1⟩
  have hz4 := hB4.size
  have E := Below.step E hB4
  have hl_b1 := b1.lt
  have b1 := b1.below hB4
  have hl_b2 := b2.lt
  have b2 := b2.below hB4
  have hl_b3 := b3.lt
  have b3 := b3.below hB4
  have h1 := h1 _ _ _ ha
  refine S_store ti_api_Int rfl rfl rfl rfl (g := g1) (o := 0) (rfl) (v := (.agg #[.bool (decide (zv s la < 0)), vh1])) (rfl) (vs := [(.bool (decide (zv s la < 0))), vh1]) rfl rfl (one2 (rfl) ((h1.below E).one_)) b1 (by simp) (cs' := [(.bool (decide (zv s la < 0))), vh1]) rfl ?_
  intro w5 hU5 b1
  have E := Below.stepU E hU5 (by omega)
  have b2 := b2.upd hU5 (by omega)
  have b3 := b3.upd hU5 (by omega)
  have hz5 := hU5.size
  refine OPS.nil ?_
  change WP _ _ _ _ _ _
  refine W_seq ?_
  refine W_region rfl ?_
  refine S_load rfl rfl rfl (rfl) (LD.blk ti_api_Int b2 (l := [(.bool t), vb]) rfl rfl) ?_
  refine S_call en_assayerref02_fit rfl rfl rfl (vs := [(.agg #[(.bool t), vb])]) (rfl) (ref02Fit_c _ t vb lb (hb.below E)) ?_
  rintro _ w6 ⟨hB6, vh2, rfl, h2⟩
  have hz6 := hB6.size
  have E := Below.step E hB6
  have hl_b1 := b1.lt
  have b1 := b1.below hB6
  have hl_b2 := b2.lt
  have b2 := b2.below hB6
  have hl_b3 := b3.lt
  have b3 := b3.below hB6
  have h2 := h2 _ _ _ hb
  refine S_store ti_api_Int rfl rfl rfl rfl (g := g2) (o := 0) (rfl) (v := (.agg #[.bool (decide (zv t lb < 0)), vh2])) (rfl) (vs := [(.bool (decide (zv t lb < 0))), vh2]) rfl rfl (one2 (rfl) ((h2.below E).one_)) b2 (by simp) (cs' := [(.bool (decide (zv t lb < 0))), vh2]) rfl ?_
  intro w7 hU7 b2
  have E := Below.stepU E hU7 (by omega)
  have b1 := b1.upd hU7 (by omega)
  have b3 := b3.upd hU7 (by omega)
  have hz7 := hU7.size
  refine OPS.nil ?_
  change WP _ _ _ _ _ _
  refine W_seq ?_
  refine W_seq ?_
  refine W_region rfl ?_
  refine S_field ft_api_Int_0 rfl rfl rfl (g := g1) (o := 0) (rfl) (o' := 0) rfl ?_
  refine S_load rfl rfl rfl (rfl) (LD.blk1 ti_bool b1 (v := (.bool (decide (zv s la < 0)))) rfl) ?_
  refine S_field ft_api_Int_0 rfl rfl rfl (g := g2) (o := 0) (rfl) (o' := 0) rfl ?_
  refine S_load rfl rfl rfl (rfl) (LD.blk1 ti_bool b2 (v := (.bool (decide (zv t lb < 0)))) rfl) ?_
  refine S_beq Tryz.underlying4 rfl rfl rfl rfl (rfl) (rfl) (c := ((decide (zv s la < 0)) == (decide (zv t lb < 0)))) (rfl) ?_
  refine OPS.nil ?_
  change WP _ _ _ _ _ _
  refine W_cond rfl (rfl) (fun hq17 => ?_) (fun hq17 => ?_)
  · skip
    have pT := hq17
    skip
    try rw [pT]
    refine W_seq ?_
    refine D_begin_ mixed_ rfl rfl ?_
    intro w8 hB8 hz_8
    have hz8 := hB8.size
    have E := Below.step E hB8
    have hl_b1 := b1.lt
    have b1 := b1.below hB8
    have hl_b2 := b2.lt
    have b2 := b2.below hB8
    have hl_b3 := b3.lt
    have b3 := b3.below hB8
    have hS_ : Below w8.heap.size w8 w8 := Below.refl _ _
    have E_S := E
    have b1_S := b1
    have b2_S := b2
    have b3_S := b3
    refine D_field ft_api_Int_0 (i := 0) (by kernel_rfl) (by kernel_rfl) (by kernel_rfl) (listed2 := #[true, false, false, false, false, false, false, false, false]) (by kernel_rfl) rfl rfl rfl (g := g1) (o := 0) (rfl) (o' := 0) rfl hS_ ?_
    refine D_load (i := 1) (by kernel_rfl) (by kernel_rfl) (by kernel_rfl) (listed2 := #[true, true, false, false, false, false, false, false, false]) (by kernel_rfl) rfl rfl rfl (rfl) (fun _ hS2 => LD.blk1 ti_bool (b1_S.below hS2) (v := (.bool (decide (zv s la < 0)))) rfl) hS_ ?_
    refine D_field ft_api_Int_1 (i := 2) (by kernel_rfl) (by kernel_rfl) (by kernel_rfl) (listed2 := #[true, true, true, false, false, false, false, false, false]) (by kernel_rfl) rfl rfl rfl (g := g1) (o := 0) (rfl) (o' := 1) rfl hS_ ?_
    refine D_load (i := 3) (by kernel_rfl) (by kernel_rfl) (by kernel_rfl) (listed2 := #[true, true, true, true, false, false, false, false, false]) (by kernel_rfl) rfl rfl rfl (rfl) (fun _ hS2 => LD.blk1 ti_api_Nat (b1_S.below hS2) (v := vh1) rfl) hS_ ?_
    refine D_field ft_api_Int_1 (i := 4) (by kernel_rfl) (by kernel_rfl) (by kernel_rfl) (listed2 := #[true, true, true, true, true, false, false, false, false]) (by kernel_rfl) rfl rfl rfl (g := g2) (o := 0) (rfl) (o' := 1) rfl hS_ ?_
    refine D_load (i := 5) (by kernel_rfl) (by kernel_rfl) (by kernel_rfl) (listed2 := #[true, true, true, true, true, true, false, false, false]) (by kernel_rfl) rfl rfl rfl (rfl) (fun _ hS2 => LD.blk1 ti_api_Nat (b2_S.below hS2) (v := vh2) rfl) hS_ ?_
    refine D_only (i := 6) (by kernel_rfl) (listed2 := #[true, true, true, true, true, true, true, false, false]) (by kernel_rfl) ?_
    refine S_call en_assayerref01_Add rfl rfl rfl (vs := [vh1, vh2]) (rfl) (ref01Add_d (h1.below E) (h2.below E) (by omega) (by omega)) ?_
    rintro vh9 w9 ⟨hB9, h9⟩
    have hz9 := hB9.size
    have E := Below.step E hB9
    have hl_b1 := b1.lt
    have b1 := b1.below hB9
    have hl_b2 := b2.lt
    have b2 := b2.below hB9
    have hl_b3 := b3.lt
    have b3 := b3.below hB9
    have hS_ := Below.step hS_ hB9
    refine OPS.nil ⟨hS_, ?_⟩
    refine D_last (i := 7) (f := 9) (by kernel_rfl) (by kernel_rfl) (listed2 := #[true, true, true, true, true, true, true, true, false]) (by kernel_rfl) ?_
    refine S_call en_assayerref02_Signed rfl rfl rfl (vs := [(.bool (decide (zv s la < 0))), vh9]) (rfl) (ref02Signed_c _ (decide (zv s la < 0)) vh9 (dg ((zv s la).natAbs + (zv t lb).natAbs)) h9.r) ?_
    rintro _ w10 ⟨hB10, rfl⟩
    have hz10 := hB10.size
    have E := Below.step E hB10
    have hl_b1 := b1.lt
    have b1 := b1.below hB10
    have hl_b2 := b2.lt
    have b2 := b2.below hB10
    have hl_b3 := b3.lt
    have b3 := b3.below hB10
    have h9 := h9.below hB10
    refine OPS.nil ?_
    refine D_last (i := 8) (f := 9) (by kernel_rfl) (by kernel_rfl) (listed2 := #[true, true, true, true, true, true, true, true, true]) (by kernel_rfl) ?_
    refine S_store ti_api_Int rfl rfl rfl rfl (g := g3) (o := 0) (rfl) (v := (.agg #[.bool ((decide (zv s la < 0)) && !((dg ((zv s la).natAbs + (zv t lb).natAbs))).isEmpty), vh9])) (rfl) (vs := [(.bool ((decide (zv s la < 0)) && !((dg ((zv s la).natAbs + (zv t lb).natAbs))).isEmpty)), vh9]) rfl rfl (one2 (rfl) (h9.r.one_)) b3 (by simp) (cs' := [(.bool ((decide (zv s la < 0)) && !((dg ((zv s la).natAbs + (zv t lb).natAbs))).isEmpty)), vh9]) rfl ?_
    intro w11 hU11 b3
    have E := Below.stepU E hU11 (by omega)
    have b1 := b1.upd hU11 (by omega)
    have b2 := b2.upd hU11 (by omega)
    have h9 := h9.upd hU11 (by omega) (by omega)
    have hz11 := hU11.size
    refine OPS.nil ?_
    refine D_done (by kernel_rfl) ?_
    change WP _ _ _ _ _ _
    refine W_ret ?_
    change Fin' _ _ _ _ _ _
    refine EndC (n := ⟨56, []⟩) (t := 4) rfl (by decide) (rfl) (LD.blk ti_api_Int b3 (l := [(.bool ((decide (zv s la < 0)) && !((dg ((zv s la).natAbs + (zv t lb).natAbs))).isEmpty)), vh9]) rfl rfl) ?_
    have h8 := sum_same (x := zv s la) (y := zv t lb) (eq_of_beq pT)
    exact ⟨E, vh9, by rw [h8.1], by rw [← h8.2]; exact h9.mono (by omega)⟩
  · skip
    have pF := hq17
    skip
    try rw [pF]
    refine W_skip ?_
    change WP _ _ _ _ _ _
    refine W_seq ?_
    refine W_seq ?_
    refine W_region rfl ?_
    refine S_field ft_api_Int_1 rfl rfl rfl (g := g1) (o := 0) (rfl) (o' := 1) rfl ?_
    refine S_load rfl rfl rfl (rfl) (LD.blk1 ti_api_Nat b1 (v := vh1) rfl) ?_
    refine S_field ft_api_Int_1 rfl rfl rfl (g := g2) (o := 0) (rfl) (o' := 1) rfl ?_
    refine S_load rfl rfl rfl (rfl) (LD.blk1 ti_api_Nat b2 (v := vh2) rfl) ?_
    refine S_call en_assayerref01_Cmp rfl rfl rfl (vs := [vh1, vh2]) (rfl) (ref01Cmp_d (h1.below E) (h2.below E)) ?_
    rintro _ w12 ⟨hB12, rfl⟩
    have hz12 := hB12.size
    have E := Below.step E hB12
    have hl_b1 := b1.lt
    have b1 := b1.below hB12
    have hl_b2 := b2.lt
    have b2 := b2.below hB12
    have hl_b3 := b3.lt
    have b3 := b3.below hB12
    refine S_bin rfl rfl rfl rfl rfl (rfl) (rfl) (v := .bool (decide ((cmpN (zv s la).natAbs (zv t lb).natAbs) < 0))) rfl ?_
    refine OPS.nil ?_
    change WP _ _ _ _ _ _
    refine W_cond rfl (rfl) (fun hq31 => ?_) (fun hq31 => ?_)
    · skip
      have pFT := hq31
      replace hq31 := of_decide_eq_true hq31
      have qFT := hq31
      have hle : (zv s la).natAbs ≤ (zv t lb).natAbs := Nat.le_of_lt (cmpN_lt0.1 qFT)
      try rw [pFT]
      refine W_seq ?_
      refine W_region rfl ?_
      refine S_field ft_api_Int_1 rfl rfl rfl (g := g2) (o := 0) (rfl) (o' := 1) rfl ?_
      refine S_load rfl rfl rfl (rfl) (LD.blk1 ti_api_Nat b2 (v := vh2) rfl) ?_
      refine S_field ft_api_Int_1 rfl rfl rfl (g := g1) (o := 0) (rfl) (o' := 1) rfl ?_
      refine S_load rfl rfl rfl (rfl) (LD.blk1 ti_api_Nat b1 (v := vh1) rfl) ?_
      refine S_call en_assayerref01_Sub rfl rfl rfl (vs := [vh2, vh1]) (rfl) (ref01Sub_d (h2.below E) (h1.below E) (by omega) hle) ?_
      rintro _ w13 ⟨hB13, vh9, rfl, h9⟩
      have hz13 := hB13.size
      have E := Below.step E hB13
      have hl_b1 := b1.lt
      have b1 := b1.below hB13
      have hl_b2 := b2.lt
      have b2 := b2.below hB13
      have hl_b3 := b3.lt
      have b3 := b3.below hB13
      refine S_move rfl rfl rfl (v := (.tuple #[vh9, .int .i64 0])) (rfl) ?_
      refine S_extract rfl rfl rfl (rfl) rfl ?_
      refine S_extract rfl rfl rfl (rfl) rfl ?_
      refine S_assign rfl rfl rfl (v := vh9) (rfl) ?_
      refine S_assign rfl rfl rfl (v := (.int .i64 0)) (rfl) ?_
      refine OPS.nil ?_
      change WP _ _ _ _ _ _
      refine W_seq ?_
      refine W_region rfl ?_
      refine S_field ft_api_Int_0 rfl rfl rfl (g := g2) (o := 0) (rfl) (o' := 0) rfl ?_
      refine S_load rfl rfl rfl (rfl) (LD.blk1 ti_bool b2 (v := (.bool (decide (zv t lb < 0)))) rfl) ?_
      refine S_move rfl rfl rfl (v := vh9) (rfl) ?_
      refine S_call en_assayerref02_Signed rfl rfl rfl (vs := [(.bool (decide (zv t lb < 0))), vh9]) (rfl) (ref02Signed_c _ (decide (zv t lb < 0)) vh9 (dg ((zv t lb).natAbs - (zv s la).natAbs)) h9.r) ?_
      rintro _ w14 ⟨hB14, rfl⟩
      have hz14 := hB14.size
      have E := Below.step E hB14
      have hl_b1 := b1.lt
      have b1 := b1.below hB14
      have hl_b2 := b2.lt
      have b2 := b2.below hB14
      have hl_b3 := b3.lt
      have b3 := b3.below hB14
      have h9 := h9.below hB14
      refine S_store ti_api_Int rfl rfl rfl rfl (g := g3) (o := 0) (rfl) (v := (.agg #[.bool ((decide (zv t lb < 0)) && !((dg ((zv t lb).natAbs - (zv s la).natAbs))).isEmpty), vh9])) (rfl) (vs := [(.bool ((decide (zv t lb < 0)) && !((dg ((zv t lb).natAbs - (zv s la).natAbs))).isEmpty)), vh9]) rfl rfl (one2 (rfl) (h9.r.one_)) b3 (by simp) (cs' := [(.bool ((decide (zv t lb < 0)) && !((dg ((zv t lb).natAbs - (zv s la).natAbs))).isEmpty)), vh9]) rfl ?_
      intro w15 hU15 b3
      have E := Below.stepU E hU15 (by omega)
      have b1 := b1.upd hU15 (by omega)
      have b2 := b2.upd hU15 (by omega)
      have h9 := h9.upd hU15 (by omega) (by omega)
      have hz15 := hU15.size
      refine OPS.nil ?_
      change WP _ _ _ _ _ _
      refine W_ret ?_
      change Fin' _ _ _ _ _ _
      refine EndC (n := ⟨56, []⟩) (t := 4) rfl (by decide) (rfl) (LD.blk ti_api_Int b3 (l := [(.bool ((decide (zv t lb < 0)) && !((dg ((zv t lb).natAbs - (zv s la).natAbs))).isEmpty)), vh9]) rfl rfl) ?_
      have h8 := sum_diff (x := zv t lb) (y := zv s la) (ne_of_beq_false pF).symm hle
      rw [Int.add_comm (zv s la) (zv t lb)]
      exact ⟨E, vh9, by rw [h8.1], by rw [← h8.2]; exact h9.mono (by omega)⟩
    · skip
      have pFF := hq31
      replace hq31 := of_decide_eq_false hq31
      have qFF := hq31
      have hle : (zv t lb).natAbs ≤ (zv s la).natAbs := by
        have := mt cmpN_lt0.2 qFF
        omega
      try rw [pFF]
      refine W_skip ?_
      change WP _ _ _ _ _ _
      refine W_seq ?_
      refine W_region rfl ?_
      refine S_field ft_api_Int_1 rfl rfl rfl (g := g1) (o := 0) (rfl) (o' := 1) rfl ?_
      refine S_load rfl rfl rfl (rfl) (LD.blk1 ti_api_Nat b1 (v := vh1) rfl) ?_
      refine S_field ft_api_Int_1 rfl rfl rfl (g := g2) (o := 0) (rfl) (o' := 1) rfl ?_
      refine S_load rfl rfl rfl (rfl) (LD.blk1 ti_api_Nat b2 (v := vh2) rfl) ?_
      refine S_call en_assayerref01_Sub rfl rfl rfl (vs := [vh1, vh2]) (rfl) (ref01Sub_d (h1.below E) (h2.below E) (by omega) hle) ?_
      rintro _ w16 ⟨hB16, vh9, rfl, h9⟩
      have hz16 := hB16.size
      have E := Below.step E hB16
      have hl_b1 := b1.lt
      have b1 := b1.below hB16
      have hl_b2 := b2.lt
      have b2 := b2.below hB16
      have hl_b3 := b3.lt
      have b3 := b3.below hB16
      refine S_move rfl rfl rfl (v := (.tuple #[vh9, .int .i64 0])) (rfl) ?_
      refine S_extract rfl rfl rfl (rfl) rfl ?_
      refine S_extract rfl rfl rfl (rfl) rfl ?_
      refine S_assign rfl rfl rfl (v := vh9) (rfl) ?_
      refine S_assign rfl rfl rfl (v := (.int .i64 0)) (rfl) ?_
      refine OPS.nil ?_
      change WP _ _ _ _ _ _
      refine W_seq ?_
      refine W_region rfl ?_
      refine S_field ft_api_Int_0 rfl rfl rfl (g := g1) (o := 0) (rfl) (o' := 0) rfl ?_
      refine S_load rfl rfl rfl (rfl) (LD.blk1 ti_bool b1 (v := (.bool (decide (zv s la < 0)))) rfl) ?_
      refine S_move rfl rfl rfl (v := vh9) (rfl) ?_
      refine S_call en_assayerref02_Signed rfl rfl rfl (vs := [(.bool (decide (zv s la < 0))), vh9]) (rfl) (ref02Signed_c _ (decide (zv s la < 0)) vh9 (dg ((zv s la).natAbs - (zv t lb).natAbs)) h9.r) ?_
      rintro _ w17 ⟨hB17, rfl⟩
      have hz17 := hB17.size
      have E := Below.step E hB17
      have hl_b1 := b1.lt
      have b1 := b1.below hB17
      have hl_b2 := b2.lt
      have b2 := b2.below hB17
      have hl_b3 := b3.lt
      have b3 := b3.below hB17
      have h9 := h9.below hB17
      refine S_store ti_api_Int rfl rfl rfl rfl (g := g3) (o := 0) (rfl) (v := (.agg #[.bool ((decide (zv s la < 0)) && !((dg ((zv s la).natAbs - (zv t lb).natAbs))).isEmpty), vh9])) (rfl) (vs := [(.bool ((decide (zv s la < 0)) && !((dg ((zv s la).natAbs - (zv t lb).natAbs))).isEmpty)), vh9]) rfl rfl (one2 (rfl) (h9.r.one_)) b3 (by simp) (cs' := [(.bool ((decide (zv s la < 0)) && !((dg ((zv s la).natAbs - (zv t lb).natAbs))).isEmpty)), vh9]) rfl ?_
      intro w18 hU18 b3
      have E := Below.stepU E hU18 (by omega)
      have b1 := b1.upd hU18 (by omega)
      have b2 := b2.upd hU18 (by omega)
      have h9 := h9.upd hU18 (by omega) (by omega)
      have hz18 := hU18.size
      refine OPS.nil ?_
      change WP _ _ _ _ _ _
      refine W_ret ?_
      change Fin' _ _ _ _ _ _
      refine EndC (n := ⟨56, []⟩) (t := 4) rfl (by decide) (rfl) (LD.blk ti_api_Int b3 (l := [(.bool ((decide (zv s la < 0)) && !((dg ((zv s la).natAbs - (zv t lb).natAbs))).isEmpty)), vh9]) rfl rfl) ?_
      have h8 := sum_diff (x := zv s la) (y := zv t lb) (ne_of_beq_false pF) hle
      exact ⟨E, vh9, by rw [h8.1], by rw [← h8.2]; exact h9.mono (by omega)⟩

set_option maxHeartbeats 400000 in
theorem ref02Sub_c (w0 : World) (s t : Bool) (va vb : Value) (la lb : List Int) {a b a' b' : Nat} (ha : RN a b w0 va la) (hb : RN a' b' w0 vb lb) (hsa : la.length ≤ SZ) (hsb : lb.length ≤ SZ) :
    Ret Tryz.prog 22 [.agg #[.bool s, va], .agg #[.bool t, vb]] w0 (fun r w1 => Below w0.heap.size w0 w1 ∧ ∃ v, r = .agg #[.bool (decide (zv s la - zv t lb < 0)), v] ∧ ON w0.heap.size w1 v (dg (zv s la - zv t lb).natAbs)) := by
  have E := Below.refl w0.heap.size w0
  have hlx := zv_len (s := s) ha.u32
  have hly := zv_len (s := t) hb.u32
  refine Ret_of (n := 9) Tryz.func22 rfl rfl (Nat.le_of_ble_eq_true rfl) ?_
  refine W_seq ?_
  refine W_region rfl ?_
  refine S_box rfl rfl rfl (v := .agg #[.bool s, va]) (rfl) (cs := [(.bool s), va]) rfl ?_
  intro g1 w1 hg1 hs1 hB1 b1
  have hz1 := hB1.size
  have E := Below.step E hB1
  refine S_box rfl rfl rfl (v := .agg #[.bool t, vb]) (rfl) (cs := [(.bool t), vb]) rfl ?_
  intro g2 w2 hg2 hs2 hB2 b2
  have hz2 := hB2.size
  have E := Below.step E hB2
  have hl_b1 := b1.lt
  have b1 := b1.below hB2
  refine S_alloc ti_api_Int rfl rfl (cs := [.bool false, .slice none 0 0]) rfl ?_
  intro g3 w3 hg3 hs3 hB3 b3
  have hz3 := hB3.size
  have E := Below.step E hB3
  have hl_b1 := b1.lt
  have b1 := b1.below hB3
  have hl_b2 := b2.lt
  have b2 := b2.below hB3
  refine OPS.nil ?_
  change WP _ _ _ _ _ _
  refine W_seq ?_
  refine D_begin_ mixed_ rfl rfl ?_
  intro w4 hB4 hz_4
  have hz4 := hB4.size
  have E := Below.step E hB4
  have hl_b1 := b1.lt
  have b1 := b1.below hB4
  have hl_b2 := b2.lt
  have b2 := b2.below hB4
  have hl_b3 := b3.lt
  have b3 := b3.below hB4
  have hS_ : Below w4.heap.size w4 w4 := Below.refl _ _
  have E_S := E
  have b1_S := b1
  have b2_S := b2
  have b3_S := b3
  refine D_load (i := 0) (by kernel_rfl) (by kernel_rfl) (by kernel_rfl) (listed2 := #[true, false, false, false, false]) (by kernel_rfl) rfl rfl rfl (rfl) (fun _ hS2 => LD.blk ti_api_Int (b1_S.below hS2) (l := [(.bool s), va]) rfl rfl) hS_ ?_
  refine D_load (i := 1) (by kernel_rfl) (by kernel_rfl) (by kernel_rfl) (listed2 := #[true, true, false, false, false]) (by kernel_rfl) rfl rfl rfl (rfl) (fun _ hS2 => LD.blk ti_api_Int (b2_S.below hS2) (l := [(.bool t), vb]) rfl rfl) hS_ ?_
  refine D_only (i := 2) (by kernel_rfl) (listed2 := #[true, true, true, false, false]) (by kernel_rfl) ?_
  refine S_call en_assayerref02_Neg rfl rfl rfl (vs := [(.agg #[(.bool t), vb])]) (rfl) (ref02Neg_c _ t vb lb (hb.below E) (by omega)) ?_
  rintro _ w5 ⟨hB5, vh2, rfl, h2⟩
  have hz5 := hB5.size
  have E := Below.step E hB5
  have hl_b1 := b1.lt
  have b1 := b1.below hB5
  have hl_b2 := b2.lt
  have b2 := b2.below hB5
  have hl_b3 := b3.lt
  have b3 := b3.below hB5
  have hS_ := Below.step hS_ hB5
  refine OPS.nil ⟨hS_, ?_⟩
  refine D_last (i := 3) (f := 5) (by kernel_rfl) (by kernel_rfl) (listed2 := #[true, true, true, true, false]) (by kernel_rfl) ?_
  have hl3 : (dg (-(zv t lb)).natAbs).length ≤ lb.length := by rw [Int.natAbs_neg]; exact hly
  refine S_call en_assayerref02_Add rfl rfl rfl (vs := [(.agg #[(.bool s), va]), (.agg #[.bool (decide (-(zv t lb) < 0)), vh2])]) (rfl) (ref02Add_c _ s (decide (-(zv t lb) < 0)) va vh2 la (dg (-(zv t lb)).natAbs) (ha.below E) h2.r (by omega) (by omega)) ?_
  rintro _ w6 ⟨hB6, vh9, rfl, h9⟩
  have hz6 := hB6.size
  have E := Below.step E hB6
  have hl_b1 := b1.lt
  have b1 := b1.below hB6
  have hl_b2 := b2.lt
  have b2 := b2.below hB6
  have hl_b3 := b3.lt
  have b3 := b3.below hB6
  have h2 := h2.below hB6
  refine OPS.nil ?_
  refine D_last (i := 4) (f := 5) (by kernel_rfl) (by kernel_rfl) (listed2 := #[true, true, true, true, true]) (by kernel_rfl) ?_
  refine S_store ti_api_Int rfl rfl rfl rfl (g := g3) (o := 0) (rfl) (v := (.agg #[.bool (decide (zv s la + zv (decide (-(zv t lb) < 0)) (dg (-(zv t lb)).natAbs) < 0)), vh9])) (rfl) (vs := [(.bool (decide (zv s la + zv (decide (-(zv t lb) < 0)) (dg (-(zv t lb)).natAbs) < 0))), vh9]) rfl rfl (one2 (rfl) (h9.r.one_)) b3 (by simp) (cs' := [(.bool (decide (zv s la + zv (decide (-(zv t lb) < 0)) (dg (-(zv t lb)).natAbs) < 0))), vh9]) rfl ?_
  intro w7 hU7 b3
  have E := Below.stepU E hU7 (by omega)
  have b1 := b1.upd hU7 (by omega)
  have b2 := b2.upd hU7 (by omega)
  have h2 := h2.upd hU7 (by omega) (by omega)
  have h9 := h9.upd hU7 (by omega) (by omega)
  have hz7 := hU7.size
  refine OPS.nil ?_
  refine D_done (by kernel_rfl) ?_
  change WP _ _ _ _ _ _
  refine W_ret ?_
  change Fin' _ _ _ _ _ _
  refine EndC (n := ⟨9, []⟩) (t := 4) rfl (by decide) (rfl) (LD.blk ti_api_Int b3 (l := [(.bool (decide (zv s la + zv (decide (-(zv t lb) < 0)) (dg (-(zv t lb)).natAbs) < 0))), vh9]) rfl rfl) ?_
  rw [zv_dg] at h9 ⊢
  exact ⟨E, vh9, rfl, h9.mono (by omega)⟩

set_option maxHeartbeats 400000 in
theorem ref02Mul_c (w0 : World) (s t : Bool) (va vb : Value) (la lb : List Int) {a b a' b' : Nat} (ha : RN a b w0 va la) (hb : RN a' b' w0 vb lb) (hsa : la.length ≤ SZ) (hsb : lb.length ≤ SZ) :
    Ret Tryz.prog 23 [.agg #[.bool s, va], .agg #[.bool t, vb]] w0 (fun r w1 => Below w0.heap.size w0 w1 ∧ ∃ v, r = .agg #[.bool (decide (zv s la * zv t lb < 0)), v] ∧ ON w0.heap.size w1 v (dg (zv s la * zv t lb).natAbs)) := by
  have E := Below.refl w0.heap.size w0
  have hlx := zv_len (s := s) ha.u32
  have hly := zv_len (s := t) hb.u32
  refine Ret_of (n := 20) Tryz.func23 rfl rfl (Nat.le_of_ble_eq_true rfl) ?_
  refine W_seq ?_
  refine W_region rfl ?_
  refine S_box rfl rfl rfl (v := .agg #[.bool s, va]) (rfl) (cs := [(.bool s), va]) rfl ?_
  intro g1 w1 hg1 hs1 hB1 b1
  have hz1 := hB1.size
  have E := Below.step E hB1
  refine S_box rfl rfl rfl (v := .agg #[.bool t, vb]) (rfl) (cs := [(.bool t), vb]) rfl ?_
  intro g2 w2 hg2 hs2 hB2 b2
  have hz2 := hB2.size
  have E := Below.step E hB2
  have hl_b1 := b1.lt
  have b1 := b1.below hB2
  refine S_alloc ti_api_Int rfl rfl (cs := [.bool false, .slice none 0 0]) rfl ?_
  intro g3 w3 hg3 hs3 hB3 b3
  have hz3 := hB3.size
  have E := Below.step E hB3
  have hl_b1 := b1.lt
  have b1 := b1.below hB3
  have hl_b2 := b2.lt
  have b2 := b2.below hB3
  refine OPS.nil ?_
  change WP _ _ _ _ _ _
  refine W_seq ?_
  refine W_region rfl ?_
  refine S_load rfl rfl rfl (rfl) (LD.blk ti_api_Int b1 (l := [(.bool s), va]) rfl rfl) ?_
  refine S_call en_assayerref02_fit rfl rfl rfl (vs := [(.agg #[(.bool s), va])]) (rfl) (ref02Fit_c _ s va la (ha.below E)) ?_
  rintro _ w4 ⟨hB4, vh1, rfl, h1⟩
  have hz4 := hB4.size
  have E := Below.step E hB4
  have hl_b1 := b1.lt
  have b1 := b1.below hB4
  have hl_b2 := b2.lt
  have b2 := b2.below hB4
  have hl_b3 := b3.lt
  have b3 := b3.below hB4
  have h1 := h1 _ _ _ ha
  refine S_store ti_api_Int rfl rfl rfl rfl (g := g1) (o := 0) (rfl) (v := (.agg #[.bool (decide (zv s la < 0)), vh1])) (rfl) (vs := [(.bool (decide (zv s la < 0))), vh1]) rfl rfl (one2 (rfl) ((h1.below E).one_)) b1 (by simp) (cs' := [(.bool (decide (zv s la < 0))), vh1]) rfl ?_
  intro w5 hU5 b1
  have E := Below.stepU E hU5 (by omega)
  have b2 := b2.upd hU5 (by omega)
  have b3 := b3.upd hU5 (by omega)
  have hz5 := hU5.size
  refine OPS.nil ?_
  change WP _ _ _ _ _ _
  refine W_seq ?_
  refine W_region rfl ?_
  refine S_load rfl rfl rfl (rfl) (LD.blk ti_api_Int b2 (l := [(.bool t), vb]) rfl rfl) ?_
  refine S_call en_assayerref02_fit rfl rfl rfl (vs := [(.agg #[(.bool t), vb])]) (rfl) (ref02Fit_c _ t vb lb (hb.below E)) ?_
  rintro _ w6 ⟨hB6, vh2, rfl, h2⟩
  have hz6 := hB6.size
  have E := Below.step E hB6
  have hl_b1 := b1.lt
  have b1 := b1.below hB6
  have hl_b2 := b2.lt
  have b2 := b2.below hB6
  have hl_b3 := b3.lt
  have b3 := b3.below hB6
  have h2 := h2 _ _ _ hb
  refine S_store ti_api_Int rfl rfl rfl rfl (g := g2) (o := 0) (rfl) (v := (.agg #[.bool (decide (zv t lb < 0)), vh2])) (rfl) (vs := [(.bool (decide (zv t lb < 0))), vh2]) rfl rfl (one2 (rfl) ((h2.below E).one_)) b2 (by simp) (cs' := [(.bool (decide (zv t lb < 0))), vh2]) rfl ?_
  intro w7 hU7 b2
  have E := Below.stepU E hU7 (by omega)
  have b1 := b1.upd hU7 (by omega)
  have b3 := b3.upd hU7 (by omega)
  have hz7 := hU7.size
  refine OPS.nil ?_
  change WP _ _ _ _ _ _
  refine W_seq ?_
  refine D_begin_ mixed_ rfl rfl ?_
  intro w8 hB8 hz_8
  have hz8 := hB8.size
  have E := Below.step E hB8
  have hl_b1 := b1.lt
  have b1 := b1.below hB8
  have hl_b2 := b2.lt
  have b2 := b2.below hB8
  have hl_b3 := b3.lt
  have b3 := b3.below hB8
  have hS_ : Below w8.heap.size w8 w8 := Below.refl _ _
  have E_S := E
  have b1_S := b1
  have b2_S := b2
  have b3_S := b3
  refine D_field ft_api_Int_0 (i := 0) (by kernel_rfl) (by kernel_rfl) (by kernel_rfl) (listed2 := #[true, false, false, false, false, false, false, false, false, false, false, false]) (by kernel_rfl) rfl rfl rfl (g := g1) (o := 0) (rfl) (o' := 0) rfl hS_ ?_
  refine D_load (i := 1) (by kernel_rfl) (by kernel_rfl) (by kernel_rfl) (listed2 := #[true, true, false, false, false, false, false, false, false, false, false, false]) (by kernel_rfl) rfl rfl rfl (rfl) (fun _ hS2 => LD.blk1 ti_bool (b1_S.below hS2) (v := (.bool (decide (zv s la < 0)))) rfl) hS_ ?_
  refine D_field ft_api_Int_0 (i := 2) (by kernel_rfl) (by kernel_rfl) (by kernel_rfl) (listed2 := #[true, true, true, false, false, false, false, false, false, false, false, false]) (by kernel_rfl) rfl rfl rfl (g := g2) (o := 0) (rfl) (o' := 0) rfl hS_ ?_
  refine D_load (i := 3) (by kernel_rfl) (by kernel_rfl) (by kernel_rfl) (listed2 := #[true, true, true, true, false, false, false, false, false, false, false, false]) (by kernel_rfl) rfl rfl rfl (rfl) (fun _ hS2 => LD.blk1 ti_bool (b2_S.below hS2) (v := (.bool (decide (zv t lb < 0)))) rfl) hS_ ?_
  refine D_bne Tryz.underlying4 (i := 4) (by kernel_rfl) (by kernel_rfl) (by kernel_rfl) (listed2 := #[true, true, true, true, true, false, false, false, false, false, false, false]) (by kernel_rfl) rfl rfl rfl rfl (rfl) (rfl) (c := (decide (zv s la < 0) != decide (zv t lb < 0))) (rfl) hS_ ?_
  refine D_field ft_api_Int_1 (i := 5) (by kernel_rfl) (by kernel_rfl) (by kernel_rfl) (listed2 := #[true, true, true, true, true, true, false, false, false, false, false, false]) (by kernel_rfl) rfl rfl rfl (g := g1) (o := 0) (rfl) (o' := 1) rfl hS_ ?_
  refine D_load (i := 6) (by kernel_rfl) (by kernel_rfl) (by kernel_rfl) (listed2 := #[true, true, true, true, true, true, true, false, false, false, false, false]) (by kernel_rfl) rfl rfl rfl (rfl) (fun _ hS2 => LD.blk1 ti_api_Nat (b1_S.below hS2) (v := vh1) rfl) hS_ ?_
  refine D_field ft_api_Int_1 (i := 7) (by kernel_rfl) (by kernel_rfl) (by kernel_rfl) (listed2 := #[true, true, true, true, true, true, true, true, false, false, false, false]) (by kernel_rfl) rfl rfl rfl (g := g2) (o := 0) (rfl) (o' := 1) rfl hS_ ?_
  refine D_load (i := 8) (by kernel_rfl) (by kernel_rfl) (by kernel_rfl) (listed2 := #[true, true, true, true, true, true, true, true, true, false, false, false]) (by kernel_rfl) rfl rfl rfl (rfl) (fun _ hS2 => LD.blk1 ti_api_Nat (b2_S.below hS2) (v := vh2) rfl) hS_ ?_
  refine D_only (i := 9) (by kernel_rfl) (listed2 := #[true, true, true, true, true, true, true, true, true, true, false, false]) (by kernel_rfl) ?_
  refine S_call en_assayerref01_Mul rfl rfl rfl (vs := [vh1, vh2]) (rfl) (ref01Mul_d (h1.below E) (h2.below E) (by omega) (by omega)) ?_
  rintro vh9 w9 ⟨hB9, h9⟩
  have hz9 := hB9.size
  have E := Below.step E hB9
  have hl_b1 := b1.lt
  have b1 := b1.below hB9
  have hl_b2 := b2.lt
  have b2 := b2.below hB9
  have hl_b3 := b3.lt
  have b3 := b3.below hB9
  have hS_ := Below.step hS_ hB9
  refine OPS.nil ⟨hS_, ?_⟩
  refine D_last (i := 10) (f := 12) (by kernel_rfl) (by kernel_rfl) (listed2 := #[true, true, true, true, true, true, true, true, true, true, true, false]) (by kernel_rfl) ?_
  refine S_call en_assayerref02_Signed rfl rfl rfl (vs := [(.bool (decide (zv s la < 0) != decide (zv t lb < 0))), vh9]) (rfl) (ref02Signed_c _ (decide (zv s la < 0) != decide (zv t lb < 0)) vh9 (dg ((zv s la).natAbs * (zv t lb).natAbs)) h9.r) ?_
  rintro _ w10 ⟨hB10, rfl⟩
  have hz10 := hB10.size
  have E := Below.step E hB10
  have hl_b1 := b1.lt
  have b1 := b1.below hB10
  have hl_b2 := b2.lt
  have b2 := b2.below hB10
  have hl_b3 := b3.lt
  have b3 := b3.below hB10
  have h9 := h9.below hB10
  refine OPS.nil ?_
  refine D_last (i := 11) (f := 12) (by kernel_rfl) (by kernel_rfl) (listed2 := #[true, true, true, true, true, true, true, true, true, true, true, true]) (by kernel_rfl) ?_
  refine S_store ti_api_Int rfl rfl rfl rfl (g := g3) (o := 0) (rfl) (v := (.agg #[.bool ((decide (zv s la < 0) != decide (zv t lb < 0)) && !((dg ((zv s la).natAbs * (zv t lb).natAbs))).isEmpty), vh9])) (rfl) (vs := [(.bool ((decide (zv s la < 0) != decide (zv t lb < 0)) && !((dg ((zv s la).natAbs * (zv t lb).natAbs))).isEmpty)), vh9]) rfl rfl (one2 (rfl) (h9.r.one_)) b3 (by simp) (cs' := [(.bool ((decide (zv s la < 0) != decide (zv t lb < 0)) && !((dg ((zv s la).natAbs * (zv t lb).natAbs))).isEmpty)), vh9]) rfl ?_
  intro w11 hU11 b3
  have E := Below.stepU E hU11 (by omega)
  have b1 := b1.upd hU11 (by omega)
  have b2 := b2.upd hU11 (by omega)
  have h9 := h9.upd hU11 (by omega) (by omega)
  have hz11 := hU11.size
  refine OPS.nil ?_
  refine D_done (by kernel_rfl) ?_
  change WP _ _ _ _ _ _
  refine W_ret ?_
  change Fin' _ _ _ _ _ _
  refine EndC (n := ⟨20, []⟩) (t := 4) rfl (by decide) (rfl) (LD.blk ti_api_Int b3 (l := [(.bool ((decide (zv s la < 0) != decide (zv t lb < 0)) && !((dg ((zv s la).natAbs * (zv t lb).natAbs))).isEmpty)), vh9]) rfl rfl) ?_
  have h8 := mul_sign (x := zv s la) (y := zv t lb)
  exact ⟨E, vh9, by rw [h8.1], by rw [← h8.2]; exact h9.mono (by omega)⟩

set_option maxHeartbeats 400000 in
theorem ref02Cmp_c (w0 : World) (s t : Bool) (va vb : Value) (la lb : List Int) {a b a' b' : Nat} (ha : RN a b w0 va la) (hb : RN a' b' w0 vb lb) (hsa : la.length ≤ SZ) (hsb : lb.length ≤ SZ) :
    Ret Tryz.prog 17 [.agg #[.bool s, va], .agg #[.bool t, vb]] w0 (fun r w1 => Below w0.heap.size w0 w1 ∧ r = .int .i64 (cmpZ (zv s la) (zv t lb))) := by
  have E := Below.refl w0.heap.size w0
  have hlx := zv_len (s := s) ha.u32
  have hly := zv_len (s := t) hb.u32
  refine Ret_of (n := 9) Tryz.func17 rfl rfl (Nat.le_of_ble_eq_true rfl) ?_
  refine W_seq ?_
  refine W_region rfl ?_
  refine S_box rfl rfl rfl (v := .agg #[.bool s, va]) (rfl) (cs := [(.bool s), va]) rfl ?_
  intro g1 w1 hg1 hs1 hB1 b1
  have hz1 := hB1.size
  have E := Below.step E hB1
  refine S_box rfl rfl rfl (v := .agg #[.bool t, vb]) (rfl) (cs := [(.bool t), vb]) rfl ?_
  intro g2 w2 hg2 hs2 hB2 b2
  have hz2 := hB2.size
  have E := Below.step E hB2
  have hl_b1 := b1.lt
  have b1 := b1.below hB2
  refine S_assign rfl rfl rfl (v := (.int .i64 0)) (rfl) ?_
  refine OPS.nil ?_
  change WP _ _ _ _ _ _
  refine W_seq ?_
  refine W_region rfl ?_
  refine S_load rfl rfl rfl (rfl) (LD.blk ti_api_Int b1 (l := [(.bool s), va]) rfl rfl) ?_
  refine S_load rfl rfl rfl (rfl) (LD.blk ti_api_Int b2 (l := [(.bool t), vb]) rfl rfl) ?_
  refine S_call en_assayerref02_Sub rfl rfl rfl (vs := [(.agg #[(.bool s), va]), (.agg #[(.bool t), vb])]) (rfl) (ref02Sub_c _ s t va vb la lb (ha.below E) (hb.below E) (by omega) (by omega)) ?_
  rintro _ w3 ⟨hB3, vh9, rfl, h9⟩
  have hz3 := hB3.size
  have E := Below.step E hB3
  have hl_b1 := b1.lt
  have b1 := b1.below hB3
  have hl_b2 := b2.lt
  have b2 := b2.below hB3
  refine S_call en_assayerref02_Sign rfl rfl rfl (vs := [(.agg #[.bool (decide (zv s la - zv t lb < 0)), vh9])]) (rfl) (ref02Sign_c _ _ _ _ h9.r) ?_
  rintro _ w4 ⟨hB4, rfl⟩
  have hz4 := hB4.size
  have E := Below.step E hB4
  have hl_b1 := b1.lt
  have b1 := b1.below hB4
  have hl_b2 := b2.lt
  have b2 := b2.below hB4
  have h9 := h9.below hB4
  refine S_assign rfl rfl rfl (v := (.int .i64 (cmpZ (zv (decide (zv s la - zv t lb < 0)) (dg (zv s la - zv t lb).natAbs)) 0))) (rfl) ?_
  refine OPS.nil ?_
  change WP _ _ _ _ _ _
  refine W_ret ?_
  change Fin' _ _ _ _ _ _
  refine End1 (n := ⟨9, []⟩) (t := 4) rfl (by decide) (v := (.int .i64 (cmpZ (zv (decide (zv s la - zv t lb < 0)) (dg (zv s la - zv t lb).natAbs)) 0))) (rfl) ?_
  exact ⟨E, int_eq (by rw [zv_dg, cmpZ_sub])⟩

end Go.Proofs.YtccmicegihlfbaaGreatDoor
