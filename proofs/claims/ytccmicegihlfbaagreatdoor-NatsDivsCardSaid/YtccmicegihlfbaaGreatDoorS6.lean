/- Quotients: the long way. -/
import Derived.Test.YtccmicegihlfbaaGreatDoorS5
import Derived.Test.YtccmicegihlfbaaGreatDoorTy
set_option linter.unusedVariables false
set_option linter.unusedSimpArgs false
namespace Go.Proofs.YtccmicegihlfbaaGreatDoor
open Go.RowKit


theorem SlAt.own2 {g o m c j p : Nat} (hj : j < m) (hp : p = o + j) : SlAt (.slice (some ⟨g, o, none⟩) m c) m 1 j ⟨g, p, none⟩ := by
  subst hp
  exact ⟨⟨g, o, none⟩, c, rfl, hj, by rw [add_plain, Nat.mul_one]⟩


theorem ON.cap_ {B : Nat} {w : World} {A : Option Addr} {l : List Int} {c k : Nat} (h : ON B w (.slice A k c) l) : ON B w (.slice A k k) l := by
  obtain ⟨⟨hu, A', c', hv, h1, h2, h3⟩, ho⟩ := h
  simp only [Value.slice.injEq] at hv
  obtain ⟨rfl, rfl, rfl⟩ := hv
  refine ⟨⟨hu, _, _, rfl, Nat.le_refl _, by omega, h3⟩, ?_⟩
  rcases ho with ⟨A', hv⟩ | ⟨g, m, c', cs, hv, g2, g3, g4, g5⟩
  · simp only [Value.slice.injEq] at hv
    obtain ⟨rfl, hl, rfl⟩ := hv
    exact .inl ⟨_, by rw [hl]⟩
  · simp only [Value.slice.injEq] at hv
    obtain ⟨rfl, rfl, rfl⟩ := hv
    exact .inr ⟨g, _, _, cs, rfl, g2, g3, Nat.le_refl _, by omega⟩
theorem natsCutN_c (w0 : World) (v : Value) (xs : List Int) {B : Nat} (h : ON B w0 v xs) : Ret Tryz.prog 205 [v] w0 (fun r w1 => ON B w0 r (dg (val xs)) ∧ w0 = w1) := by
  refine (natsCut_c w0 v xs h.r).mono ?_
  rintro r w1 ⟨⟨A, c, k, hv, hr, hk, ht⟩, hw⟩
  refine ⟨?_, hw⟩
  subst hv hr
  rw [← ht]
  exact (h.prefix_ hk).cap_

set_option maxHeartbeats 1000000 in
theorem natsLong_c (w0 : World) (va vb : Value) (la lb : List Int) (m : Nat) {a b a2 b2 : Nat} (ha : RN a b w0 va la) (hb : RN a2 b2 w0 vb lb) (hsa : la.length ≤ SZ) (hm : lb.length = m + 2) (hll : lb.length ≤ la.length) (h1 : 1 ≤ lb.getD (m + 1) 0) (hlt : val (la.drop (la.length + 1 - lb.length)) < val lb) :
    Ret Tryz.prog 156 [va, vb] w0 (fun r w1 => Below w0.heap.size w0 w1 ∧ ∃ v1 v2, r = .tuple #[v1, v2] ∧ ON w0.heap.size w1 v1 (dg (val la / val lb)) ∧ ON w0.heap.size w1 v2 (dg (val la % val lb))) := by
  have E := Below.refl w0.heap.size w0
  have hsa0 := hsa
  unfold SZ at hsa
  obtain ⟨v1, hv1, hv1l⟩ := hb.u32.nat (m + 1)
  obtain ⟨v2, hv2, hv2l⟩ := hb.u32.nat m
  have hv1p : 1 ≤ v1 := by omega
  have hV := top2 lb m hm
  rw [hv1, hv2, Int.toNat_natCast, Int.toNat_natCast] at hV
  have hvr := val_take_lt hb.u32 m
  have hMp : 0 < 4294967296 ^ m := Nat.pow_pos (by decide)
  have hvp : 0 < val lb := by
    have h9 : 4294967296 ^ m * 1 ≤ 4294967296 ^ m * (v2 + 4294967296 * v1) := Nat.mul_le_mul_left _ (by omega)
    omega
  have hbn := val_lt hb.u32
  refine Ret_of (n := 179) Tryz.func156 rfl rfl (Nat.le_of_ble_eq_true rfl) ?_
  refine W_seq ?_
  refine W_region rfl ?_
  refine S_assign rfl rfl rfl (v := (.slice none 0 0)) (rfl) ?_
  refine S_assign rfl rfl rfl (v := (.slice none 0 0)) (rfl) ?_
  refine OPS.nil ?_
  change WP _ _ _ _ _ _
  refine W_seq ?_
  refine W_region rfl ?_
  refine S_move rfl rfl rfl (v := vb) (rfl) ?_
  refine S_len Tryz.underlying23 rfl rfl rfl (rfl) (m := lb.length) (hb.len) ?_
  refine S_assign rfl rfl rfl (v := (.int .i64 (lb.length : Int))) (rfl) ?_
  refine OPS.nil ?_
  change WP _ _ _ _ _ _
  refine W_seq ?_
  refine D_begin mixed_ rfl rfl (fun w_ => Below w0.heap.size w0 w_) ?_
  intro w1 hB1 hz_1
  have hz1 := hB1.size
  have E := Below.step E hB1
  have hS_ : Below w0.heap.size w0 w1 := E
  have E_S := E
  refine D_move (i := 0) (by kernel_rfl) (by kernel_rfl) (by kernel_rfl) (listed2 := #[true, false, false, false, false, false, false, false, false, false, false, false, false, false]) (by kernel_rfl) rfl rfl rfl (v := vb) (rfl) hS_ ?_
  refine D_move (i := 1) (by kernel_rfl) (by kernel_rfl) (by kernel_rfl) (listed2 := #[true, true, false, false, false, false, false, false, false, false, false, false, false, false]) (by kernel_rfl) rfl rfl rfl (v := (.int .i64 (lb.length : Int))) (rfl) hS_ ?_
  refine D_sub64 (i := 2) (by kernel_rfl) (by kernel_rfl) (by kernel_rfl) (listed2 := #[true, true, true, false, false, false, false, false, false, false, false, false, false, false]) (by kernel_rfl) rfl rfl rfl rfl (rfl) (rfl) (by omega) hS_ ?_
  obtain ⟨ad1, hp3, hc2⟩ := hb.at (m + 1) (by omega)
  refine D_idx Tryz.underlying23 ti_uint32 (i := 3) (by kernel_rfl) (by kernel_rfl) (by kernel_rfl) (listed2 := #[true, true, true, true, false, false, false, false, false, false, false, false, false, false]) (by kernel_rfl) rfl rfl rfl rfl (rfl) (rfl) hp3 (by omega) hS_ ?_
  refine D_load (i := 4) (by kernel_rfl) (by kernel_rfl) (by kernel_rfl) (listed2 := #[true, true, true, true, true, false, false, false, false, false, false, false, false, false]) (by kernel_rfl) rfl rfl rfl (rfl) (fun _ hS2 => LD.one ti_uint32 (cell_below hS2 hc2)) hS_ ?_
  refine D_conv Tryz.underlying106 Tryz.underlying124 (i := 5) (by kernel_rfl) (by kernel_rfl) (by kernel_rfl) (listed2 := #[true, true, true, true, true, true, false, false, false, false, false, false, false, false]) (by kernel_rfl) rfl rfl rfl (rfl) (b := (v1 : Int)) ((wrap_u64 (by omega) (by omega)).trans hv1) hS_ ?_
  refine D_move (i := 6) (by kernel_rfl) (by kernel_rfl) (by kernel_rfl) (listed2 := #[true, true, true, true, true, true, true, false, false, false, false, false, false, false]) (by kernel_rfl) rfl rfl rfl (v := vb) (rfl) hS_ ?_
  refine D_move (i := 7) (by kernel_rfl) (by kernel_rfl) (by kernel_rfl) (listed2 := #[true, true, true, true, true, true, true, true, false, false, false, false, false, false]) (by kernel_rfl) rfl rfl rfl (v := (.int .i64 (lb.length : Int))) (rfl) hS_ ?_
  refine D_sub64 (i := 8) (by kernel_rfl) (by kernel_rfl) (by kernel_rfl) (listed2 := #[true, true, true, true, true, true, true, true, true, false, false, false, false, false]) (by kernel_rfl) rfl rfl rfl rfl (rfl) (rfl) (by omega) hS_ ?_
  obtain ⟨ad4, hp6, hc5⟩ := hb.at m (by omega)
  refine D_idx Tryz.underlying23 ti_uint32 (i := 9) (by kernel_rfl) (by kernel_rfl) (by kernel_rfl) (listed2 := #[true, true, true, true, true, true, true, true, true, true, false, false, false, false]) (by kernel_rfl) rfl rfl rfl rfl (rfl) (rfl) hp6 (by omega) hS_ ?_
  refine D_load (i := 10) (by kernel_rfl) (by kernel_rfl) (by kernel_rfl) (listed2 := #[true, true, true, true, true, true, true, true, true, true, true, false, false, false]) (by kernel_rfl) rfl rfl rfl (rfl) (fun _ hS2 => LD.one ti_uint32 (cell_below hS2 hc5)) hS_ ?_
  refine D_conv Tryz.underlying106 Tryz.underlying124 (i := 11) (by kernel_rfl) (by kernel_rfl) (by kernel_rfl) (listed2 := #[true, true, true, true, true, true, true, true, true, true, true, true, false, false]) (by kernel_rfl) rfl rfl rfl (rfl) (b := (v2 : Int)) ((wrap_u64 (by omega) (by omega)).trans hv2) hS_ ?_
  refine D_assign (i := 12) (by kernel_rfl) (by kernel_rfl) (by kernel_rfl) (listed2 := #[true, true, true, true, true, true, true, true, true, true, true, true, true, false]) (by kernel_rfl) rfl rfl rfl (v := (.int .u64 (v1 : Int))) (rfl) hS_ ?_
  refine D_assign (i := 13) (by kernel_rfl) (by kernel_rfl) (by kernel_rfl) (listed2 := #[true, true, true, true, true, true, true, true, true, true, true, true, true, true]) (by kernel_rfl) rfl rfl rfl (v := (.int .u64 (v2 : Int))) (rfl) hS_ ?_
  refine D_done (by kernel_rfl) ?_
  change WP _ _ _ _ _ _
  refine W_seq ?_
  refine W_region rfl ?_
  refine S_move rfl rfl rfl (v := va) (rfl) ?_
  refine S_call en_slices_Clone_api_Nat_uint32 rfl rfl rfl (vs := [va]) (rfl) (natsClone_c _ _ la (ha.below E) hsa0) ?_
  rintro vh1 w2 ⟨hB2, h1⟩
  have hz2 := hB2.size
  have E := Below.step E hB2
  have hsz1 := E.size
  refine S_lit Tryz.underlying23 ti_uint32 rfl rfl (by decide) (by decide) rfl (vs := [(.int .u32 0)]) (cs := [(.int .u32 0)]) rfl rfl (by simp [Value.cells]) rfl ?_
  intro g3 w3 hg3 hs3 hB3 b3
  have hz3 := hB3.size
  have E := Below.step E hB3
  have h1 := h1.below hB3
  replace b3 : Blk w3 g3 (nums .u32 [0]) 106 := b3
  refine S_appendR Tryz.underlying23 ti_uint32 rfl rfl rfl rfl rfl (v := vh1) (rfl) (rfl) h1.row (by decide) (news := nums .u32 [0]) rfl (fun j u hj => by rw [add_plain, b3.cell, Nat.zero_add]; exact hj) (one_nums _ _) (by omega) (by omega) (by omega) ?_
  intro v2 w4 RW2 hgr hbb _
  have E := Below.grownE E hgr (by omega) (fun g hg => by have := (h1.bkB g hg).1; omega)
  rw [nums_app] at RW2
  have hru : U32 (la ++ [0]) := ha.u32.append (U32.mk (by decide) (by decide) U32.nil)
  obtain ⟨g, cc, RW⟩ := (RW2.on hru).ow (by simp)
  obtain ⟨mr, hmr⟩ : ∃ mr, mr = la.length + 1 := ⟨_, rfl⟩
  obtain ⟨ru, hrue⟩ : ∃ ru, ru = la ++ [0] := ⟨_, rfl⟩
  rw [← hrue] at RW hru
  have hrl : ru.length = mr := by rw [hrue, hmr]; simp
  have hrv : val ru = val la := by rw [hrue, val_append]; simp [val]
  obtain rfl : v2 = .slice (some ⟨g, 0, none⟩) mr cc := by rw [← hrl]; exact RW.1
  have hgB := RW.2.1
  have RW : OW w0.heap.size g cc w4 (.slice (some ⟨g, 0, none⟩) mr cc) ru := ⟨RW.1, by omega, RW.2.2⟩
  have hglt : g < w4.heap.size := by obtain ⟨_, _, _, _, rr, hbb, _⟩ := RW; exact hbb.lt
  refine S_assign rfl rfl rfl (v := (.slice (some ⟨g, 0, none⟩) mr cc)) (rfl) ?_
  refine OPS.nil ?_
  change WP _ _ _ _ _ _
  refine W_seq ?_
  refine W_region rfl ?_
  obtain ⟨mq, hmq⟩ : ∃ mq, mq + lb.length = mr := ⟨mr - lb.length, by omega⟩
  refine S_move rfl rfl rfl (v := (.slice (some ⟨g, 0, none⟩) mr cc)) (rfl) ?_
  refine S_len Tryz.underlying23 rfl rfl rfl (rfl) (m := mr) (⟨_, _, rfl⟩) ?_
  refine S_move rfl rfl rfl (v := (.int .i64 (lb.length : Int))) (rfl) ?_
  refine S_sub64 rfl rfl rfl rfl (rfl) (rfl) (by omega) ?_
  refine S_make Tryz.underlying23 ti_uint32 rfl rfl rfl rfl (rfl) (m := mq) (by omega) (by omega) (by omega) ?_
  intro g5 w5 hg5 hs5 hB5 b5
  rw [nums_rep] at b5
  have hz5 := hB5.size
  have E := Below.step E hB5
  have RW := RW.below hB5
  refine S_assign rfl rfl rfl (v := (.slice (some ⟨g5, 0, none⟩) (mq) (mq))) (rfl) ?_
  refine OPS.nil ?_
  change WP _ _ _ _ _ _
  refine W_seq ?_
  refine W_seq ?_
  refine W_region rfl ?_
  have hlt0 : val (ru.drop mq) < val lb := by
    have e9 : ru.drop mq = la.drop (la.length + 1 - lb.length) ++ [0] := by
      rw [hrue, List.drop_append_of_le_length (by omega), show mq = la.length + 1 - lb.length by omega]
    rw [e9, val_append]
    simpa [val] using hlt
  refine S_move rfl rfl rfl (v := (.slice (some ⟨g5, 0, none⟩) (mq) (mq))) (rfl) ?_
  refine S_len Tryz.underlying23 rfl rfl rfl (rfl) (m := (mq)) (⟨_, _, rfl⟩) ?_
  refine S_sub64 rfl rfl rfl rfl (rfl) (rfl) (by omega) ?_
  refine S_assign rfl rfl rfl (v := (.int .i64 (((mq) : Int) - 1))) (rfl) ?_
  refine OPS.nil ?_
  change WP _ _ _ _ _ _
  refine W_block ?_
  refine W_loop (fun k σ w => ∃ (r0 qs : List Int), σ 1 = vb ∧ σ 4 = .slice (some ⟨g5, 0, none⟩) mq mq ∧ σ 6 = .int .i64 (lb.length : Int) ∧ σ 7 = .int .u64 (v1 : Int) ∧ σ 8 = .int .u64 (v2 : Int) ∧ σ 9 = .slice (some ⟨g, 0, none⟩) mr cc ∧ σ 10 = .int .i64 ((k : Int) - 1) ∧ k ≤ mq ∧ val ru = val (qs.drop k) * 4294967296 ^ k * val lb + val r0 ∧ val (r0.drop k) < val lb ∧ qs.length = mq ∧ U32 qs ∧ r0.length = mr ∧ U32 r0 ∧ OW w0.heap.size g cc w (.slice (some ⟨g, 0, none⟩) mr cc) r0 ∧ Blk w g5 (nums .u32 qs) 106 ∧ Below w0.heap.size w0 w) (mq) ⟨ru, List.replicate mq 0, rfl, rfl, rfl, rfl, rfl, rfl, rfl, Nat.le_refl _, by rw [List.drop_of_length_le (by simp)]; simp [val], hlt0, by simp, U32.replicate mq, hrl, hru, RW, b5, E⟩ ?_
  rintro k σ w ⟨r0, qs, s1, s4, s6, s7, s8, s9, s10, hk, hI, hlt, hql, hqu, hrl, hru, RW, bq, E⟩
  refine W_seq ?_
  refine W_seq ?_
  refine W_region rfl ?_
  refine S_move rfl rfl rfl (v := (.int .i64 ((k : Int) - 1))) (s10) ?_
  refine S_bin rfl rfl rfl rfl rfl (rfl) (rfl) (v := .bool (decide (((k : Int) - 1) ≥ 0))) rfl ?_
  refine OPS.nil ?_
  change WP _ _ _ _ _ _
  refine W_cond rfl (rfl) (fun hq49 => ?_) (fun hq49 => ?_)
  · skip
    have pT := hq49
    replace hq49 := of_decide_eq_true hq49
    have qT := hq49
    try rw [pT]
    refine W_skip ?_
    change WP _ _ _ _ _ _
    refine W_seq ?_
    refine W_block ?_
    refine W_seq ?_
    refine W_region rfl ?_
    refine S_move rfl rfl rfl (v := (.slice (some ⟨g, 0, none⟩) mr cc)) (s9) ?_
    refine S_move rfl rfl rfl (v := (.int .i64 ((k : Int) - 1))) (s10) ?_
    refine S_move rfl rfl rfl (v := (.int .i64 ((k : Int) - 1))) (s10) ?_
    refine S_move rfl rfl rfl (v := (.int .i64 (lb.length : Int))) (s6) ?_
    refine S_add64 rfl rfl rfl rfl (rfl) (rfl) (by omega) ?_
    refine S_add64 rfl rfl rfl rfl (rfl) (rfl) (by omega) ?_
    have hcc := RW.2.2.1
    refine S_sliceLoHi Tryz.underlying23 ti_uint32 rfl rfl rfl rfl rfl (ad := ⟨g, 0, none⟩) (m := mr) (c := cc) (rfl) (rfl) (rfl) (l := k - 1) (q := k - 1 + lb.length + 1) (by omega) (by omega) (by omega) (by omega) ?_
    rw [if_neg (show cc ≠ k - 1 by omega), add_plain, show 0 + (k - 1) * 1 = k - 1 by omega, show k - 1 + lb.length + 1 - (k - 1) = lb.length + 1 by omega]
    refine S_assign rfl rfl rfl (v := (.slice (some ⟨g, k - 1, none⟩) (lb.length + 1) (cc - (k - 1)))) (rfl) ?_
    refine OPS.nil ?_
    change WP _ _ _ _ _ _
    refine W_seq ?_
    refine D_begin_ mixed_ rfl rfl ?_
    intro w6 hB6 hz_6
    have hz6 := hB6.size
    have E := Below.step E hB6
    have RW := RW.below hB6
    have hl_bq := bq.lt
    have bq := bq.below hB6
    have hS_ : Below w6.heap.size w6 w6 := Below.refl _ _
    have E_S := E
    have RW_S := RW
    have bq_S := bq
    obtain ⟨t1, ht1, ht1l⟩ := hru.nat (k - 1 + m + 2)
    obtain ⟨t2, ht2, ht2l⟩ := hru.nat (k - 1 + m + 1)
    obtain ⟨u2, hu2, hu2l⟩ := hru.nat (k - 1 + m)
    have hU := top3 r0 (k - 1) m
    rw [ht1, ht2, hu2, Int.toNat_natCast, Int.toNat_natCast, Int.toNat_natCast, show m + 3 = lb.length + 1 by omega] at hU
    obtain ⟨tp, htp⟩ : ∃ tp, tp = t1 * 4294967296 + t2 := ⟨_, rfl⟩
    rw [← htp] at hU
    have hur := val_take_lt (hru.drop (k - 1)) m
    have hst := step_u (i := k - 1) (n := lb.length) hru (by rw [show k - 1 + 1 = k by omega]; exact hlt) hbn
    have hub9 : val ((r0.drop (k - 1)).take (lb.length + 1)) < 4294967296 * val lb := by rw [← hst.1]; exact hst.2
    have hQ0 := guess_start hV hU hur hu2l hv1p
    have hQ1 := Nat.le_of_lt_succ ((Nat.div_lt_iff_lt_mul hvp).2 hub9)
    obtain ⟨d0, hd0⟩ : ∃ d0, d0 = min (tp / v1) 4294967295 := ⟨_, rfl⟩
    have hd3 : val ((r0.drop (k - 1)).take (lb.length + 1)) / val lb ≤ d0 := by rw [hd0]; exact Nat.le_min.2 ⟨hQ0, hQ1⟩
    have hd1 : d0 ≤ 4294967295 := by rw [hd0]; exact Nat.min_le_right _ _
    have hd2 : d0 * v1 ≤ tp := Nat.le_trans (Nat.mul_le_mul_right _ (by rw [hd0]; exact Nat.min_le_left _ _)) (Nat.div_mul_le_self tp v1)
    obtain ⟨hh, hhe, hhl⟩ := hru.nat (k - 1 + lb.length)
    have hUh : val ((r0.drop (k - 1)).take (lb.length + 1)) = val ((r0.drop (k - 1)).take lb.length) + hh * 4294967296 ^ lb.length := by
      have h9 := val_part r0 (k - 1) lb.length
      rw [hhe, Int.toNat_natCast] at h9
      rw [h9, Nat.mul_comm]
    refine D_move (i := 0) (by kernel_rfl) (by kernel_rfl) (by kernel_rfl) (listed2 := #[true, false, false, false, false, false, false, false, false, false, false, false, false, false]) (by kernel_rfl) rfl rfl rfl (v := (.slice (some ⟨g, k - 1, none⟩) (lb.length + 1) (cc - (k - 1)))) (rfl) hS_ ?_
    refine D_move (i := 1) (by kernel_rfl) (by kernel_rfl) (by kernel_rfl) (listed2 := #[true, true, false, false, false, false, false, false, false, false, false, false, false, false]) (by kernel_rfl) rfl rfl rfl (v := (.int .i64 (lb.length : Int))) (s6) hS_ ?_
    refine D_idx Tryz.underlying23 ti_uint32 (i := 2) (by kernel_rfl) (by kernel_rfl) (by kernel_rfl) (listed2 := #[true, true, true, false, false, false, false, false, false, false, false, false, false, false]) (by kernel_rfl) rfl rfl rfl rfl (rfl) (rfl) (j := (m + 2)) (ad := ⟨g, (k - 1 + m + 2), none⟩) (SlAt.own2 (by omega) (by omega)) (by omega) hS_ ?_
    refine D_load (i := 3) (by kernel_rfl) (by kernel_rfl) (by kernel_rfl) (listed2 := #[true, true, true, true, false, false, false, false, false, false, false, false, false, false]) (by kernel_rfl) rfl rfl rfl (rfl) (fun _ hS2 => LD.one ti_uint32 (cell_below hS2 (RW_S.cell (by omega)))) hS_ ?_
    refine D_conv Tryz.underlying106 Tryz.underlying124 (i := 4) (by kernel_rfl) (by kernel_rfl) (by kernel_rfl) (listed2 := #[true, true, true, true, true, false, false, false, false, false, false, false, false, false]) (by kernel_rfl) rfl rfl rfl (rfl) (b := (t1 : Int)) ((wrap_u64 (by omega) (by omega)).trans ht1) hS_ ?_
    refine D_shl (i := 5) (by kernel_rfl) (by kernel_rfl) (by kernel_rfl) (listed2 := #[true, true, true, true, true, true, false, false, false, false, false, false, false, false]) (by kernel_rfl) rfl rfl rfl rfl (rfl) (rfl) (by omega) (v := ((t1 : Int) * 4294967296)) (S_shl32 ⟨by omega, by omega⟩) hS_ ?_
    refine D_move (i := 6) (by kernel_rfl) (by kernel_rfl) (by kernel_rfl) (listed2 := #[true, true, true, true, true, true, true, false, false, false, false, false, false, false]) (by kernel_rfl) rfl rfl rfl (v := (.slice (some ⟨g, k - 1, none⟩) (lb.length + 1) (cc - (k - 1)))) (rfl) hS_ ?_
    refine D_move (i := 7) (by kernel_rfl) (by kernel_rfl) (by kernel_rfl) (listed2 := #[true, true, true, true, true, true, true, true, false, false, false, false, false, false]) (by kernel_rfl) rfl rfl rfl (v := (.int .i64 (lb.length : Int))) (s6) hS_ ?_
    refine D_sub64 (i := 8) (by kernel_rfl) (by kernel_rfl) (by kernel_rfl) (listed2 := #[true, true, true, true, true, true, true, true, true, false, false, false, false, false]) (by kernel_rfl) rfl rfl rfl rfl (rfl) (rfl) (by omega) hS_ ?_
    refine D_idx Tryz.underlying23 ti_uint32 (i := 9) (by kernel_rfl) (by kernel_rfl) (by kernel_rfl) (listed2 := #[true, true, true, true, true, true, true, true, true, true, false, false, false, false]) (by kernel_rfl) rfl rfl rfl rfl (rfl) (rfl) (j := (m + 1)) (ad := ⟨g, (k - 1 + m + 1), none⟩) (SlAt.own2 (by omega) (by omega)) (by omega) hS_ ?_
    refine D_load (i := 10) (by kernel_rfl) (by kernel_rfl) (by kernel_rfl) (listed2 := #[true, true, true, true, true, true, true, true, true, true, true, false, false, false]) (by kernel_rfl) rfl rfl rfl (rfl) (fun _ hS2 => LD.one ti_uint32 (cell_below hS2 (RW_S.cell (by omega)))) hS_ ?_
    refine D_conv Tryz.underlying106 Tryz.underlying124 (i := 11) (by kernel_rfl) (by kernel_rfl) (by kernel_rfl) (listed2 := #[true, true, true, true, true, true, true, true, true, true, true, true, false, false]) (by kernel_rfl) rfl rfl rfl (rfl) (b := (t2 : Int)) ((wrap_u64 (by omega) (by omega)).trans ht2) hS_ ?_
    refine D_bits (i := 12) (by kernel_rfl) (by kernel_rfl) (by kernel_rfl) (listed2 := #[true, true, true, true, true, true, true, true, true, true, true, true, true, false]) (by kernel_rfl) rfl rfl rfl rfl (by simp) (rfl) (rfl) (v := (tp : Int)) ((hi_lo ⟨by omega, by omega⟩ ⟨by omega, by omega⟩).trans (by omega)) hS_ ?_
    refine D_assign (i := 13) (by kernel_rfl) (by kernel_rfl) (by kernel_rfl) (listed2 := #[true, true, true, true, true, true, true, true, true, true, true, true, true, true]) (by kernel_rfl) rfl rfl rfl (v := (.int .u64 (tp : Int))) (rfl) hS_ ?_
    refine D_done (by kernel_rfl) ?_
    change WP _ _ _ _ _ _
    refine W_seq ?_
    refine W_region rfl ?_
    refine S_move rfl rfl rfl (v := (.int .u64 (tp : Int))) (rfl) ?_
    refine S_move rfl rfl rfl (v := (.int .u64 (v1 : Int))) (s7) ?_
    refine S_quo rfl rfl rfl rfl (rfl) (rfl) (by omega) (v := ((tp / v1 : Nat) : Int)) (quoN rfl rfl (by omega) (by omega)) ?_
    refine S_min rfl rfl rfl rfl (rfl) (rfl) (v := (d0 : Int)) (by rw [hd0]; omega) ?_
    refine S_assign rfl rfl rfl (v := (.int .u64 (d0 : Int))) (rfl) ?_
    refine OPS.nil ?_
    change WP _ _ _ _ _ _
    refine W_seq ?_
    refine W_seq ?_
    refine W_region rfl ?_
    refine S_move rfl rfl rfl (v := (.int .u64 (tp : Int))) (rfl) ?_
    refine S_move rfl rfl rfl (v := (.int .u64 (d0 : Int))) (rfl) ?_
    refine S_move rfl rfl rfl (v := (.int .u64 (v1 : Int))) (s7) ?_
    refine S_bin rfl rfl rfl rfl rfl (rfl) (rfl) (v := .int .u64 ((d0 * v1 : Nat) : Int)) (congrArg (Value.int .u64) (mulN (by omega))) ?_
    refine S_bin rfl rfl rfl rfl rfl (rfl) (rfl) (v := .int .u64 ((tp - d0 * v1 : Nat) : Int)) (congrArg (Value.int .u64) ((wrap_u64 (by omega) (by omega)).trans (by omega))) ?_
    refine S_assign rfl rfl rfl (v := (.int .u64 ((tp - d0 * v1 : Nat) : Int))) (rfl) ?_
    refine OPS.nil ?_
    change WP _ _ _ _ _ _
    refine W_block ?_
    refine W_loop (fun p σ w => ∃ (r : Nat), σ 1 = vb ∧ σ 4 = .slice (some ⟨g5, 0, none⟩) mq mq ∧ σ 6 = .int .i64 (lb.length : Int) ∧ σ 7 = .int .u64 (v1 : Int) ∧ σ 8 = .int .u64 (v2 : Int) ∧ σ 9 = .slice (some ⟨g, 0, none⟩) mr cc ∧ σ 10 = .int .i64 ((k : Int) - 1) ∧ σ 11 = .slice (some ⟨g, k - 1, none⟩) (lb.length + 1) (cc - (k - 1)) ∧ σ 13 = .int .u64 (p : Int) ∧ σ 14 = .int .u64 (r : Int) ∧ p * v1 + r = tp ∧ val ((r0.drop (k - 1)).take (lb.length + 1)) / val lb ≤ p ∧ p ≤ 4294967295 ∧ r < 18446744073709551616 ∧ r0.length = mr ∧ U32 r0 ∧ OW w0.heap.size g cc w (.slice (some ⟨g, 0, none⟩) mr cc) r0 ∧ Blk w g5 (nums .u32 qs) 106 ∧ Below w0.heap.size w0 w) (d0) ⟨tp - d0 * v1, s1, s4, s6, s7, s8, s9, s10, rfl, rfl, rfl, by omega, hd3, by omega, by omega, hrl, hru, RW, bq, E⟩ ?_
    rintro p σ w ⟨r, s1, s4, s6, s7, s8, s9, s10, s11, s13, s14, hqr, hUq, hq, hr64, hrl, hru, RW, bq, E⟩
    refine W_seq ?_
    refine W_seq ?_
    refine W_region rfl ?_
    refine S_move rfl rfl rfl (v := (.int .u64 (r : Int))) (s14) ?_
    refine S_shr rfl rfl rfl rfl (rfl) (rfl) (by omega) (v := ((r : Int) / 4294967296)) (shr32 _) ?_
    refine S_bin rfl rfl rfl rfl rfl (rfl) (rfl) (v := .bool ((((r : Int) / 4294967296) == 0))) rfl ?_
    refine S_move rfl rfl rfl (v := (.bool ((((r : Int) / 4294967296) == 0)))) (rfl) ?_
    rcases Bool.eq_false_or_eq_true ((((r : Int) / 4294967296) == 0)) with pT | pF
    · skip
      rw [pT]
      have qT := eq_of_beq pT
      have hqv : p * v2 < 18446744073709551616 := by
        have := Nat.mul_le_mul (show p ≤ 4294967295 by omega) (show v2 ≤ 4294967295 by omega)
        omega
      refine S_move rfl rfl rfl (v := (.int .u64 (p : Int))) (s13) ?_
      refine S_move rfl rfl rfl (v := (.int .u64 (v2 : Int))) (s8) ?_
      refine S_bin rfl rfl rfl rfl rfl (rfl) (rfl) (v := .int .u64 ((p * v2 : Nat) : Int)) (congrArg (Value.int .u64) (mulN hqv)) ?_
      refine S_move rfl rfl rfl (v := (.int .u64 (r : Int))) (s14) ?_
      refine S_shl rfl rfl rfl rfl (rfl) (rfl) (by omega) (v := ((r : Int) * 4294967296)) (S_shl32 ⟨by omega, by omega⟩) ?_
      refine S_move rfl rfl rfl (v := (.slice (some ⟨g, k - 1, none⟩) (lb.length + 1) (cc - (k - 1)))) (s11) ?_
      refine S_move rfl rfl rfl (v := (.int .i64 (lb.length : Int))) (s6) ?_
      refine S_sub64 rfl rfl rfl rfl (rfl) (rfl) (by omega) ?_
      refine S_idx Tryz.underlying23 ti_uint32 rfl rfl rfl rfl (rfl) (rfl) (j := m) (ad := ⟨g, (k - 1 + m), none⟩) (SlAt.own2 (by omega) (by omega)) (by omega) ?_
      refine S_load rfl rfl rfl (rfl) (LD.one ti_uint32 (RW.cell (by omega))) ?_
      refine S_conv Tryz.underlying106 Tryz.underlying124 rfl rfl rfl (rfl) (b := (u2 : Int)) ((wrap_u64 (by omega) (by omega)).trans hu2) ?_
      refine S_bits rfl rfl rfl rfl (by simp) (rfl) (rfl) (v := ((r : Int) * 4294967296 + (u2 : Int))) (hi_lo ⟨by omega, by omega⟩ ⟨by omega, by omega⟩) ?_
      refine S_bin rfl rfl rfl rfl rfl (rfl) (rfl) (v := .bool (decide (((p * v2 : Nat) : Int) > ((r : Int) * 4294967296 + (u2 : Int))))) rfl ?_
      refine S_pick rfl rfl rfl rfl rfl (b := true) (rfl) (v := (.bool (decide (((p * v2 : Nat) : Int) > ((r : Int) * 4294967296 + (u2 : Int)))))) (rfl) ?_
      refine OPS.nil ?_
      change WP _ _ _ _ _ _
      refine W_cond rfl (rfl) (fun hq98 => ?_) (fun hq98 => ?_)
      · skip
        have pTT := hq98
        replace hq98 := of_decide_eq_true hq98
        have qTT := hq98
        try rw [pTT]
        refine W_skip ?_
        change WP _ _ _ _ _ _
        refine W_seq ?_
        refine W_block ?_
        refine W_region rfl ?_
        have hqd := guess_dec hV hU hur hqr (show r * 4294967296 + u2 < p * v2 by omega) hvp
        refine S_move rfl rfl rfl (v := (.int .u64 (p : Int))) (s13) ?_
        refine S_bin rfl rfl rfl rfl rfl (rfl) (rfl) (v := .int .u64 ((p - 1 : Nat) : Int)) (congrArg (Value.int .u64) ((wrap_u64 (by omega) (by omega)).trans (by omega))) ?_
        refine S_assign rfl rfl rfl (v := (.int .u64 ((p - 1 : Nat) : Int))) (rfl) ?_
        refine OPS.nil ?_
        change WP _ _ _ _ _ _
        refine W_region rfl ?_
        refine S_move rfl rfl rfl (v := (.int .u64 (r : Int))) (s14) ?_
        refine S_move rfl rfl rfl (v := (.int .u64 (v1 : Int))) (s7) ?_
        refine S_bin rfl rfl rfl rfl rfl (rfl) (rfl) (v := .int .u64 ((r + v1 : Nat) : Int)) (congrArg (Value.int .u64) ((wrap_u64 (by omega) (by omega)).trans (by omega))) ?_
        refine S_assign rfl rfl rfl (v := (.int .u64 ((r + v1 : Nat) : Int))) (rfl) ?_
        refine OPS.nil ?_
        have h9 := Nat.mul_le_mul_right v1 hqd.1
        exact ⟨p - 1, by omega, r + v1, s1, s4, s6, s7, s8, s9, s10, s11, rfl, rfl, by rw [Nat.sub_mul, Nat.one_mul]; omega, hqd.2, by omega, by omega, hrl, hru, RW, bq, E⟩
      · skip
        have pTF := hq98
        replace hq98 := of_decide_eq_false hq98
        have qTF := hq98
        try rw [pTF]
        refine W_exit ?_
        change WP _ _ _ _ _ _
        refine W_seq ?_
        refine W_region rfl ?_
        obtain ⟨f1, f2⟩ := guess_end hV hvr hv2l hU hub9 hv1p (by decide) hMp hqr (.inr ⟨by omega, by omega⟩)
        refine S_assign rfl rfl rfl (v := (.int .u64 0)) (rfl) ?_
        refine OPS.nil ?_
        change WP _ _ _ _ _ _
        refine W_seq ?_
        refine W_seq ?_
        refine W_region rfl ?_
        refine S_move rfl rfl rfl (v := vb) (s1) ?_
        refine S_len Tryz.underlying23 rfl rfl rfl (rfl) (m := lb.length) (hb.len) ?_
        refine S_move rfl rfl rfl (v := (.int .i64 0)) (rfl) ?_
        refine OPS.nil ?_
        change WP _ _ _ _ _ _
        refine W_block ?_
        refine W_loop (fun z σ w => ∃ (j : Nat) (owed : Int) (x1 : List Int), σ 1 = vb ∧ σ 4 = .slice (some ⟨g5, 0, none⟩) mq mq ∧ σ 6 = .int .i64 (lb.length : Int) ∧ σ 7 = .int .u64 (v1 : Int) ∧ σ 8 = .int .u64 (v2 : Int) ∧ σ 9 = .slice (some ⟨g, 0, none⟩) mr cc ∧ σ 10 = .int .i64 ((k : Int) - 1) ∧ σ 11 = .slice (some ⟨g, k - 1, none⟩) (lb.length + 1) (cc - (k - 1)) ∧ σ 13 = .int .u64 (p : Int) ∧ σ 15 = .int .u64 owed ∧ σ 104 = vb ∧ σ 105 = .int .i64 (lb.length : Int) ∧ σ 106 = .int .i64 (j : Int) ∧ j + z = lb.length ∧ (0 ≤ owed ∧ owed ≤ 4294967296) ∧ val ((r0.drop (k - 1)).take j) + 4294967296 ^ j * owed.toNat = val ((x1.drop (k - 1)).take j) + ((p : Nat) : Int).toNat * val (lb.take j) ∧ x1.take (k - 1) = r0.take (k - 1) ∧ (∀ t, k - 1 + j ≤ t → x1.getD t 0 = r0.getD t 0) ∧ x1.length = mr ∧ U32 x1 ∧ OW w0.heap.size g cc w (.slice (some ⟨g, 0, none⟩) mr cc) x1 ∧ Blk w g5 (nums .u32 qs) 106 ∧ Below w0.heap.size w0 w) (lb.length) ⟨0, 0, r0, s1, s4, s6, s7, s8, s9, s10, s11, s13, rfl, rfl, rfl, rfl, by omega, ⟨by decide, by decide⟩, by simp [val], rfl, fun _ _ => rfl, hrl, hru, RW, bq, E⟩ ?_
        rintro z σ w ⟨j, owed, x1, s1, s4, s6, s7, s8, s9, s10, s11, s13, s15, s104, s105, s106, hjz, ho, hval, hx1t, hx1o, hx1l, hx1u, RW, bq, E⟩
        have hux := hx1u.getD (k - 1 + j)
        have huy := hb.u32.getD j
        have hmu := mul_lt (x := (p : Int)) (y := lb.getD j 0) ⟨by omega, by omega⟩ huy
        refine W_seq ?_
        refine W_region rfl ?_
        refine S_bin rfl rfl rfl rfl rfl (s106) (s105) (v := .bool (decide ((j : Int) < (lb.length : Int)))) rfl ?_
        refine OPS.nil ?_
        change WP _ _ _ _ _ _
        refine W_seq ?_
        refine W_cond rfl (rfl) (fun hq107 => ?_) (fun hq107 => ?_)
        · skip
          have pT := hq107
          replace hq107 := of_decide_eq_true hq107
          have qT := hq107
          try rw [pT]
          refine W_skip ?_
          change WP _ _ _ _ _ _
          refine W_seq ?_
          refine W_block ?_
          refine W_seq ?_
          refine W_region rfl ?_
          refine S_move rfl rfl rfl (v := (.int .i64 (j : Int))) (s106) ?_
          obtain ⟨ad16, hp18, hc17⟩ := (hb.below E).at j (by omega)
          refine S_idx Tryz.underlying23 ti_uint32 rfl rfl rfl rfl (s104) (s106) hp18 (by omega) ?_
          refine S_load rfl rfl rfl (rfl) (LD.one ti_uint32 hc17) ?_
          refine S_assign rfl rfl rfl (v := (.int .i64 (j : Int))) (rfl) ?_
          refine S_assign rfl rfl rfl (v := (.int .u32 (lb.getD j 0))) (rfl) ?_
          refine OPS.nil ?_
          change WP _ _ _ _ _ _
          refine W_seq ?_
          refine W_region rfl ?_
          refine S_move rfl rfl rfl (v := (.int .u64 (p : Int))) (s13) ?_
          refine S_move rfl rfl rfl (v := (.int .u32 (lb.getD j 0))) (rfl) ?_
          refine S_conv Tryz.underlying106 Tryz.underlying124 rfl rfl rfl (rfl) (b := (lb.getD j 0)) (wrap_u64 huy.1 (by omega)) ?_
          refine S_bin rfl rfl rfl rfl rfl (rfl) (rfl) (v := .int .u64 ((p : Int) * (lb.getD j 0))) (congrArg _ (wrap_u64 (by omega) (by omega))) ?_
          refine S_move rfl rfl rfl (v := (.int .u64 owed)) (s15) ?_
          refine S_bin rfl rfl rfl rfl rfl (rfl) (rfl) (v := .int .u64 (((p : Int) * (lb.getD j 0)) + owed)) (congrArg _ (wrap_u64 (by omega) (by omega))) ?_
          refine S_assign rfl rfl rfl (v := (.int .u64 (((p : Int) * (lb.getD j 0)) + owed))) (rfl) ?_
          refine OPS.nil ?_
          change WP _ _ _ _ _ _
          refine W_seq ?_
          refine W_region rfl ?_
          refine S_move rfl rfl rfl (v := (.int .u64 (((p : Int) * (lb.getD j 0)) + owed))) (rfl) ?_
          refine S_shr rfl rfl rfl rfl (rfl) (rfl) (by omega) (v := ((((p : Int) * (lb.getD j 0)) + owed) / 4294967296)) (shr32 _) ?_
          refine S_assign rfl rfl rfl (v := (.int .u64 ((((p : Int) * (lb.getD j 0)) + owed) / 4294967296))) (rfl) ?_
          refine OPS.nil ?_
          change WP _ _ _ _ _ _
          refine W_seq ?_
          refine W_seq ?_
          refine W_region rfl ?_
          refine S_move rfl rfl rfl (v := (.slice (some ⟨g, k - 1, none⟩) (lb.length + 1) (cc - (k - 1)))) (s11) ?_
          refine S_move rfl rfl rfl (v := (.int .i64 (j : Int))) (rfl) ?_
          refine S_idx Tryz.underlying23 ti_uint32 rfl rfl rfl rfl (rfl) (rfl) (j := j) (ad := ⟨g, (k - 1 + j), none⟩) (SlAt.own2 (by omega) (by omega)) (by omega) ?_
          refine S_load rfl rfl rfl (rfl) (LD.one ti_uint32 (RW.cell (by omega))) ?_
          refine S_move rfl rfl rfl (v := (.int .u64 (((p : Int) * (lb.getD j 0)) + owed))) (rfl) ?_
          refine S_conv Tryz.underlying124 Tryz.underlying106 rfl rfl rfl (rfl) (b := ((((p : Int) * (lb.getD j 0)) + owed) % 4294967296)) (wrap_u32' _) ?_
          refine S_bin rfl rfl rfl rfl rfl (rfl) (rfl) (v := .bool (decide (((x1).getD ((k - 1 + j)) 0) < ((((p : Int) * (lb.getD j 0)) + owed) % 4294967296)))) rfl ?_
          refine OPS.nil ?_
          change WP _ _ _ _ _ _
          refine W_cond rfl (rfl) (fun hq125 => ?_) (fun hq125 => ?_)
          · skip
            have pTT := hq125
            replace hq125 := of_decide_eq_true hq125
            have qTT := hq125
            try rw [pTT]
            refine W_region rfl ?_
            refine S_move rfl rfl rfl (v := (.int .u64 ((((p : Int) * (lb.getD j 0)) + owed) / 4294967296))) (rfl) ?_
            refine S_bin rfl rfl rfl rfl rfl (rfl) (rfl) (v := .int .u64 (((((p : Int) * (lb.getD j 0)) + owed) / 4294967296) + 1)) (congrArg _ (wrap_u64 (by omega) (by omega))) ?_
            refine S_assign rfl rfl rfl (v := (.int .u64 (((((p : Int) * (lb.getD j 0)) + owed) / 4294967296) + 1))) (rfl) ?_
            refine OPS.nil ?_
            change WP _ _ _ _ _ _
            refine W_region rfl ?_
            refine S_move rfl rfl rfl (v := (.slice (some ⟨g, k - 1, none⟩) (lb.length + 1) (cc - (k - 1)))) (s11) ?_
            refine S_move rfl rfl rfl (v := (.int .i64 (j : Int))) (rfl) ?_
            refine S_idx Tryz.underlying23 ti_uint32 rfl rfl rfl rfl (rfl) (rfl) (j := j) (ad := ⟨g, (k - 1 + j), none⟩) (SlAt.own2 (by omega) (by omega)) (by omega) ?_
            refine S_load rfl rfl rfl (rfl) (LD.one ti_uint32 (RW.cell (by omega))) ?_
            refine S_move rfl rfl rfl (v := (.int .u64 (((p : Int) * (lb.getD j 0)) + owed))) (rfl) ?_
            refine S_conv Tryz.underlying124 Tryz.underlying106 rfl rfl rfl (rfl) (b := ((((p : Int) * (lb.getD j 0)) + owed) % 4294967296)) (wrap_u32' _) ?_
            refine S_bin rfl rfl rfl rfl rfl (rfl) (rfl) (v := .int .u32 (((x1.getD (k - 1 + j) 0) - ((p : Int) * (lb.getD j 0) + owed) % 4294967296) % 4294967296)) (congrArg (Value.int .u32) (wrap_u32' _)) ?_
            refine S_idx Tryz.underlying23 ti_uint32 rfl rfl rfl rfl (rfl) (rfl) (j := j) (ad := ⟨g, (k - 1 + j), none⟩) (SlAt.own2 (by omega) (by omega)) (by omega) ?_
            refine S_storeOW ti_uint32 rfl rfl rfl rfl (g := g) (o := (k - 1 + j)) (rfl) (a := (((x1.getD (k - 1 + j) 0) - ((p : Int) * (lb.getD j 0) + owed) % 4294967296) % 4294967296)) (rfl) RW (by omega) ?_
            intro w7 hU7 RW
            have E := Below.stepU E hU7 (by omega)
            have bq := bq.upd hU7 (by omega)
            have hz7 := hU7.size
            refine OPS.nil ?_
            change WP _ _ _ _ _ _
            refine W_region rfl ?_
            refine S_add64 rfl rfl rfl rfl (s106) (rfl) (by omega) ?_
            refine S_move rfl rfl rfl (v := (.int .i64 ((j : Int) + 1))) (rfl) ?_
            refine OPS.nil ?_
            have hd := msub_digit (x := (x1.getD (k - 1 + j) 0)) (p := ((p : Int) * (lb.getD j 0) + owed)) hux (by omega)
            rw [if_pos (by omega)] at hd
            exact ⟨z - 1, by omega, j + 1, _, _, s1, s4, s6, s7, s8, s9, s10, s11, s13, rfl, s104, s105, int_eq (by omega), by omega, ⟨by omega, by omega⟩, msub_step (x := (x1.getD (k - 1 + j) 0)) (y := (lb.getD j 0)) (g := (p : Int)) (by omega) (hx1o _ (Nat.le_refl _)).symm rfl hux.1 huy.1 (by omega) ho.1 (by omega) (by omega) hd hval, (set_take_le _ _ _ _ (by omega)).trans hx1t, fun t ht => by rw [getD_set_ne' _ _ _ _ (by omega)]; exact hx1o t (by omega), by simpa using hx1l, hx1u.set _ (by omega) (by omega), RW, bq, E⟩
          · skip
            have pTF := hq125
            replace hq125 := of_decide_eq_false hq125
            have qTF := hq125
            try rw [pTF]
            refine W_skip ?_
            change WP _ _ _ _ _ _
            refine W_region rfl ?_
            refine S_move rfl rfl rfl (v := (.slice (some ⟨g, k - 1, none⟩) (lb.length + 1) (cc - (k - 1)))) (s11) ?_
            refine S_move rfl rfl rfl (v := (.int .i64 (j : Int))) (rfl) ?_
            refine S_idx Tryz.underlying23 ti_uint32 rfl rfl rfl rfl (rfl) (rfl) (j := j) (ad := ⟨g, (k - 1 + j), none⟩) (SlAt.own2 (by omega) (by omega)) (by omega) ?_
            refine S_load rfl rfl rfl (rfl) (LD.one ti_uint32 (RW.cell (by omega))) ?_
            refine S_move rfl rfl rfl (v := (.int .u64 (((p : Int) * (lb.getD j 0)) + owed))) (rfl) ?_
            refine S_conv Tryz.underlying124 Tryz.underlying106 rfl rfl rfl (rfl) (b := ((((p : Int) * (lb.getD j 0)) + owed) % 4294967296)) (wrap_u32' _) ?_
            refine S_bin rfl rfl rfl rfl rfl (rfl) (rfl) (v := .int .u32 (((x1.getD (k - 1 + j) 0) - ((p : Int) * (lb.getD j 0) + owed) % 4294967296) % 4294967296)) (congrArg (Value.int .u32) (wrap_u32' _)) ?_
            refine S_idx Tryz.underlying23 ti_uint32 rfl rfl rfl rfl (rfl) (rfl) (j := j) (ad := ⟨g, (k - 1 + j), none⟩) (SlAt.own2 (by omega) (by omega)) (by omega) ?_
            refine S_storeOW ti_uint32 rfl rfl rfl rfl (g := g) (o := (k - 1 + j)) (rfl) (a := (((x1.getD (k - 1 + j) 0) - ((p : Int) * (lb.getD j 0) + owed) % 4294967296) % 4294967296)) (rfl) RW (by omega) ?_
            intro w8 hU8 RW
            have E := Below.stepU E hU8 (by omega)
            have bq := bq.upd hU8 (by omega)
            have hz8 := hU8.size
            refine OPS.nil ?_
            change WP _ _ _ _ _ _
            refine W_region rfl ?_
            refine S_add64 rfl rfl rfl rfl (s106) (rfl) (by omega) ?_
            refine S_move rfl rfl rfl (v := (.int .i64 ((j : Int) + 1))) (rfl) ?_
            refine OPS.nil ?_
            have hd := msub_digit (x := (x1.getD (k - 1 + j) 0)) (p := ((p : Int) * (lb.getD j 0) + owed)) hux (by omega)
            rw [if_neg (by omega)] at hd
            exact ⟨z - 1, by omega, j + 1, _, _, s1, s4, s6, s7, s8, s9, s10, s11, s13, rfl, s104, s105, int_eq (by omega), by omega, ⟨by omega, by omega⟩, msub_step (x := (x1.getD (k - 1 + j) 0)) (y := (lb.getD j 0)) (g := (p : Int)) (by omega) (hx1o _ (Nat.le_refl _)).symm rfl hux.1 huy.1 (by omega) ho.1 (by omega) (by omega) (by rw [Int.add_zero] at hd; exact hd) hval, (set_take_le _ _ _ _ (by omega)).trans hx1t, fun t ht => by rw [getD_set_ne' _ _ _ _ (by omega)]; exact hx1o t (by omega), by simpa using hx1l, hx1u.set _ (by omega) (by omega), RW, bq, E⟩
        · skip
          have pF := hq107
          replace hq107 := of_decide_eq_false hq107
          have qF := hq107
          try rw [pF]
          refine W_exit ?_
          change WP _ _ _ _ _ _
          refine W_seq ?_
          refine W_seq ?_
          refine W_region rfl ?_
          have hjl : j = lb.length := by omega
          subst hjl
          rw [List.take_length, Int.toNat_natCast] at hval
          have hhx := (hx1o (k - 1 + lb.length) (Nat.le_refl _)).trans hhe
          refine S_move rfl rfl rfl (v := (.slice (some ⟨g, k - 1, none⟩) (lb.length + 1) (cc - (k - 1)))) (s11) ?_
          refine S_move rfl rfl rfl (v := (.int .i64 (lb.length : Int))) (s6) ?_
          refine S_idx Tryz.underlying23 ti_uint32 rfl rfl rfl rfl (rfl) (rfl) (j := lb.length) (ad := ⟨g, (k - 1 + lb.length), none⟩) (SlAt.own2 (by omega) (by omega)) (by omega) ?_
          refine S_load rfl rfl rfl (rfl) (LD.one ti_uint32 (RW.cell (by omega))) ?_
          refine S_conv Tryz.underlying106 Tryz.underlying124 rfl rfl rfl (rfl) (b := (hh : Int)) ((wrap_u64 (by omega) (by omega)).trans hhx) ?_
          refine S_move rfl rfl rfl (v := (.int .u64 owed)) (s15) ?_
          refine S_bin rfl rfl rfl rfl rfl (rfl) (rfl) (v := .bool (decide ((hh : Int) < owed))) rfl ?_
          refine OPS.nil ?_
          change WP _ _ _ _ _ _
          refine W_cond rfl (rfl) (fun hq143 => ?_) (fun hq143 => ?_)
          · skip
            have pFT := hq143
            replace hq143 := of_decide_eq_true hq143
            have qFT := hq143
            try rw [pFT]
            refine W_seq ?_
            refine W_region rfl ?_
            have hp1 : 1 ≤ p := by
              refine Nat.pos_of_ne_zero fun h => ?_
              subst h
              have h8 := val_take_lt (hx1u.drop (k - 1)) lb.length
              have h7 : 4294967296 ^ lb.length * 1 ≤ 4294967296 ^ lb.length * owed.toNat := Nat.mul_le_mul_left _ (by omega)
              omega
            refine S_move rfl rfl rfl (v := (.int .u64 (p : Int))) (s13) ?_
            refine S_bin rfl rfl rfl rfl rfl (rfl) (rfl) (v := .int .u64 ((p - 1 : Nat) : Int)) (congrArg (Value.int .u64) ((wrap_u64 (by omega) (by omega)).trans (by omega))) ?_
            refine S_assign rfl rfl rfl (v := (.int .u64 ((p - 1 : Nat) : Int))) (rfl) ?_
            refine OPS.nil ?_
            change WP _ _ _ _ _ _
            refine W_seq ?_
            refine W_region rfl ?_
            refine S_assign rfl rfl rfl (v := (.int .u32 0)) (rfl) ?_
            refine OPS.nil ?_
            change WP _ _ _ _ _ _
            refine W_seq ?_
            refine W_region rfl ?_
            refine S_move rfl rfl rfl (v := vb) (s1) ?_
            refine S_len Tryz.underlying23 rfl rfl rfl (rfl) (m := lb.length) (hb.len) ?_
            refine S_move rfl rfl rfl (v := (.int .i64 0)) (rfl) ?_
            refine OPS.nil ?_
            change WP _ _ _ _ _ _
            refine W_block ?_
            refine W_loop (fun z σ w => ∃ (j : Nat) (c : Int) (x2 : List Int), σ 1 = vb ∧ σ 4 = .slice (some ⟨g5, 0, none⟩) mq mq ∧ σ 6 = .int .i64 (lb.length : Int) ∧ σ 7 = .int .u64 (v1 : Int) ∧ σ 8 = .int .u64 (v2 : Int) ∧ σ 9 = .slice (some ⟨g, 0, none⟩) mr cc ∧ σ 10 = .int .i64 ((k : Int) - 1) ∧ σ 11 = .slice (some ⟨g, k - 1, none⟩) (lb.length + 1) (cc - (k - 1)) ∧ σ 13 = .int .u64 ((p - 1 : Nat) : Int) ∧ σ 19 = .int .u32 c ∧ σ 146 = vb ∧ σ 147 = .int .i64 (lb.length : Int) ∧ σ 148 = .int .i64 (j : Int) ∧ j + z = lb.length ∧ (0 ≤ c ∧ c ≤ 1) ∧ val ((x1.drop (k - 1)).take j) + val (lb.take j) = val ((x2.drop (k - 1)).take j) + 4294967296 ^ j * c.toNat ∧ x2.take (k - 1) = x1.take (k - 1) ∧ (∀ t, k - 1 + j ≤ t → x2.getD t 0 = x1.getD t 0) ∧ x2.length = mr ∧ U32 x2 ∧ OW w0.heap.size g cc w (.slice (some ⟨g, 0, none⟩) mr cc) x2 ∧ Blk w g5 (nums .u32 qs) 106 ∧ Below w0.heap.size w0 w) (lb.length) ⟨0, 0, x1, s1, s4, s6, s7, s8, s9, s10, s11, rfl, rfl, rfl, rfl, rfl, by omega, ⟨by decide, by decide⟩, by simp [val], rfl, fun _ _ => rfl, hx1l, hx1u, RW, bq, E⟩ ?_
            rintro z σ w ⟨j, c, x2, s1, s4, s6, s7, s8, s9, s10, s11, s13, s19, s146, s147, s148, hjz, hc, hval2, hx2t, hx2o, hx2l, hx2u, RW, bq, E⟩
            have hux := hx2u.getD (k - 1 + j)
            have huy := hb.u32.getD j
            refine W_seq ?_
            refine W_region rfl ?_
            refine S_bin rfl rfl rfl rfl rfl (s148) (s147) (v := .bool (decide ((j : Int) < (lb.length : Int)))) rfl ?_
            refine OPS.nil ?_
            change WP _ _ _ _ _ _
            refine W_seq ?_
            refine W_cond rfl (rfl) (fun hq149 => ?_) (fun hq149 => ?_)
            · skip
              have pT := hq149
              replace hq149 := of_decide_eq_true hq149
              have qT := hq149
              try rw [pT]
              refine W_skip ?_
              change WP _ _ _ _ _ _
              refine W_seq ?_
              refine W_block ?_
              refine W_seq ?_
              refine W_region rfl ?_
              refine S_move rfl rfl rfl (v := (.int .i64 (j : Int))) (s148) ?_
              obtain ⟨ad37, hp39, hc38⟩ := (hb.below E).at j (by omega)
              refine S_idx Tryz.underlying23 ti_uint32 rfl rfl rfl rfl (s146) (s148) hp39 (by omega) ?_
              refine S_load rfl rfl rfl (rfl) (LD.one ti_uint32 hc38) ?_
              refine S_assign rfl rfl rfl (v := (.int .i64 (j : Int))) (rfl) ?_
              refine S_assign rfl rfl rfl (v := (.int .u32 (lb.getD j 0))) (rfl) ?_
              refine OPS.nil ?_
              change WP _ _ _ _ _ _
              refine W_region rfl ?_
              refine S_move rfl rfl rfl (v := (.slice (some ⟨g, k - 1, none⟩) (lb.length + 1) (cc - (k - 1)))) (s11) ?_
              refine S_move rfl rfl rfl (v := (.int .i64 (j : Int))) (rfl) ?_
              refine S_move rfl rfl rfl (v := (.slice (some ⟨g, k - 1, none⟩) (lb.length + 1) (cc - (k - 1)))) (s11) ?_
              refine S_move rfl rfl rfl (v := (.int .i64 (j : Int))) (rfl) ?_
              refine S_idx Tryz.underlying23 ti_uint32 rfl rfl rfl rfl (rfl) (rfl) (j := j) (ad := ⟨g, (k - 1 + j), none⟩) (SlAt.own2 (by omega) (by omega)) (by omega) ?_
              refine S_load rfl rfl rfl (rfl) (LD.one ti_uint32 (RW.cell (by omega))) ?_
              refine S_move rfl rfl rfl (v := (.int .u32 (lb.getD j 0))) (rfl) ?_
              refine S_move rfl rfl rfl (v := (.int .u32 c)) (s19) ?_
              refine S_call en_math_bits_Add32 rfl rfl rfl (vs := [(.int .u32 ((x2).getD ((k - 1 + j)) 0)), (.int .u32 (lb.getD j 0)), (.int .u32 c)]) (rfl) (add32_c _ _ _ _ hux huy hc) ?_
              rintro _ _ ⟨rfl, rfl⟩
              refine S_move rfl rfl rfl (v := (.tuple #[.int .u32 (((x2.getD (k - 1 + j) 0) + (lb.getD j 0) + c) % 4294967296), .int .u32 (((x2.getD (k - 1 + j) 0) + (lb.getD j 0) + c) / 4294967296)])) (rfl) ?_
              refine S_extract rfl rfl rfl (rfl) rfl ?_
              refine S_extract rfl rfl rfl (rfl) rfl ?_
              refine S_idx Tryz.underlying23 ti_uint32 rfl rfl rfl rfl (rfl) (rfl) (j := j) (ad := ⟨g, (k - 1 + j), none⟩) (SlAt.own2 (by omega) (by omega)) (by omega) ?_
              refine S_storeOW ti_uint32 rfl rfl rfl rfl (g := g) (o := (k - 1 + j)) (rfl) (a := (((x2.getD (k - 1 + j) 0) + (lb.getD j 0) + c) % 4294967296)) (rfl) RW (by omega) ?_
              intro w9 hU9 RW
              have E := Below.stepU E hU9 (by omega)
              have bq := bq.upd hU9 (by omega)
              have hz9 := hU9.size
              refine S_assign rfl rfl rfl (v := (.int .u32 (((x2.getD (k - 1 + j) 0) + (lb.getD j 0) + c) / 4294967296))) (rfl) ?_
              refine OPS.nil ?_
              change WP _ _ _ _ _ _
              refine W_region rfl ?_
              refine S_add64 rfl rfl rfl rfl (s148) (rfl) (by omega) ?_
              refine S_move rfl rfl rfl (v := (.int .i64 ((j : Int) + 1))) (rfl) ?_
              refine OPS.nil ?_
              exact ⟨z - 1, by omega, j + 1, _, _, s1, s4, s6, s7, s8, s9, s10, s11, s13, rfl, s146, s147, int_eq (by omega), by omega, ⟨by omega, by omega⟩, aback_step (x := (x2.getD (k - 1 + j) 0)) (y := (lb.getD j 0)) (by omega) (hx2o _ (Nat.le_refl _)).symm rfl hux.1 huy.1 hc.1 (by omega) (by omega) (by omega) hval2, (set_take_le _ _ _ _ (by omega)).trans hx2t, fun t ht => by rw [getD_set_ne' _ _ _ _ (by omega)]; exact hx2o t (by omega), by simpa using hx2l, hx2u.set _ (by omega) (by omega), RW, bq, E⟩
            · skip
              have pF := hq149
              replace hq149 := of_decide_eq_false hq149
              have qF := hq149
              try rw [pF]
              refine W_exit ?_
              change WP _ _ _ _ _ _
              refine W_seq ?_
              refine W_region rfl ?_
              have hjl : j = lb.length := by omega
              subst hjl
              rw [List.take_length] at hval2
              refine S_move rfl rfl rfl (v := (.slice (some ⟨g, k - 1, none⟩) (lb.length + 1) (cc - (k - 1)))) (s11) ?_
              refine S_move rfl rfl rfl (v := (.int .i64 (lb.length : Int))) (s6) ?_
              refine S_idx Tryz.underlying23 ti_uint32 rfl rfl rfl rfl (rfl) (rfl) (j := lb.length) (ad := ⟨g, (k - 1 + lb.length), none⟩) (SlAt.own2 (by omega) (by omega)) (by omega) ?_
              refine S_storeOW ti_uint32 rfl rfl rfl rfl (g := g) (o := (k - 1 + lb.length)) (rfl) (a := 0) (rfl) RW (by omega) ?_
              intro w10 hU10 RW
              have E := Below.stepU E hU10 (by omega)
              have bq := bq.upd hU10 (by omega)
              have hz10 := hU10.size
              refine OPS.nil ?_
              change WP _ _ _ _ _ _
              refine W_region rfl ?_
              refine S_move rfl rfl rfl (v := (.slice (some ⟨g5, 0, none⟩) mq mq)) (s4) ?_
              refine S_move rfl rfl rfl (v := (.int .i64 ((k : Int) - 1))) (s10) ?_
              refine S_move rfl rfl rfl (v := (.int .u64 ((p - 1 : Nat) : Int))) (s13) ?_
              refine S_conv Tryz.underlying124 Tryz.underlying106 rfl rfl rfl (rfl) (b := ((p - 1 : Nat) : Int)) (wrap_u32 (by omega) (by omega)) ?_
              refine S_idx Tryz.underlying23 ti_uint32 rfl rfl rfl rfl (rfl) (rfl) (j := (k - 1)) (ad := ⟨g5, (k - 1), none⟩) (SlAt.own1 (by omega)) (by omega) ?_
              refine S_storeN ti_uint32 rfl rfl rfl rfl (g := g5) (o := (k - 1)) (rfl) (a := ((p - 1 : Nat) : Int)) (rfl) bq (by omega) ?_
              intro w11 hU11 bq
              have E := Below.stepU E hU11 (by omega)
              have RW := RW.upd hU11 (by omega)
              have hz11 := hU11.size
              refine OPS.nil ?_
              change WP _ _ _ _ _ _
              refine W_region rfl ?_
              refine S_move rfl rfl rfl (v := (.int .i64 ((k : Int) - 1))) (s10) ?_
              refine S_sub64 rfl rfl rfl rfl (rfl) (rfl) (by omega) ?_
              refine S_assign rfl rfl rfl (v := (.int .i64 (((k : Int) - 1) - 1))) (rfl) ?_
              refine OPS.nil ?_
              obtain ⟨e1, e2, e3⟩ := fix_yes (u := val ((r0.drop (k - 1)).take (lb.length + 1))) (v := val lb) (q := p) (h := hh) (owed := owed.toNat) (P := 4294967296 ^ lb.length) (low := val ((r0.drop (k - 1)).take lb.length)) hUh (by rw [Nat.mul_comm owed.toNat]; exact hval) (by omega) (val_take_lt (hx1u.drop _) _) f2 hvp (by omega) (hval2.trans (by rw [Nat.add_comm, Nat.mul_comm])) (val_take_lt (hx2u.drop _) _)
              have er : val (((x2.set (k - 1 + lb.length) 0).drop (k - 1)).take (lb.length + 1)) = val ((r0.drop (k - 1)).take (lb.length + 1)) % val lb := by rw [val_part_set _ _ _ _ (by omega), e2]; rfl
              obtain ⟨y1, y2⟩ := div_round (i := k - 1) (n := lb.length) (x1 := x2.set (k - 1 + lb.length) 0) (by rw [show k - 1 + 1 = k by omega]; exact hI) hru (by rw [show k - 1 + 1 = k by omega]; exact hlt) hbn ((set_take_le _ _ _ _ (by omega)).trans (hx2t.trans hx1t)) (fun j hj => by rw [getD_set_ne' _ _ _ _ (by omega)]; exact (hx2o j (by omega)).trans (hx1o j (by omega))) (by rw [List.length_set]; omega) (by omega) e1 er
              exact ⟨k - 1, by omega, _, _, s1, s4, s6, s7, s8, s9, int_eq (by omega), by omega, y1, y2, by simpa using hql, hqu.set _ (by omega) (by omega), by simpa using hx2l, hx2u.set _ (by decide) (by decide), RW, bq, E⟩
          · skip
            have pFF := hq143
            replace hq143 := of_decide_eq_false hq143
            have qFF := hq143
            try rw [pFF]
            refine W_skip ?_
            change WP _ _ _ _ _ _
            refine W_seq ?_
            refine W_region rfl ?_
            refine S_move rfl rfl rfl (v := (.slice (some ⟨g, k - 1, none⟩) (lb.length + 1) (cc - (k - 1)))) (s11) ?_
            refine S_move rfl rfl rfl (v := (.int .i64 (lb.length : Int))) (s6) ?_
            refine S_idx Tryz.underlying23 ti_uint32 rfl rfl rfl rfl (rfl) (rfl) (j := lb.length) (ad := ⟨g, (k - 1 + lb.length), none⟩) (SlAt.own2 (by omega) (by omega)) (by omega) ?_
            refine S_storeOW ti_uint32 rfl rfl rfl rfl (g := g) (o := (k - 1 + lb.length)) (rfl) (a := 0) (rfl) RW (by omega) ?_
            intro w12 hU12 RW
            have E := Below.stepU E hU12 (by omega)
            have bq := bq.upd hU12 (by omega)
            have hz12 := hU12.size
            refine OPS.nil ?_
            change WP _ _ _ _ _ _
            refine W_region rfl ?_
            refine S_move rfl rfl rfl (v := (.slice (some ⟨g5, 0, none⟩) mq mq)) (s4) ?_
            refine S_move rfl rfl rfl (v := (.int .i64 ((k : Int) - 1))) (s10) ?_
            refine S_move rfl rfl rfl (v := (.int .u64 (p : Int))) (s13) ?_
            refine S_conv Tryz.underlying124 Tryz.underlying106 rfl rfl rfl (rfl) (b := (p : Int)) (wrap_u32 (by omega) (by omega)) ?_
            refine S_idx Tryz.underlying23 ti_uint32 rfl rfl rfl rfl (rfl) (rfl) (j := (k - 1)) (ad := ⟨g5, (k - 1), none⟩) (SlAt.own1 (by omega)) (by omega) ?_
            refine S_storeN ti_uint32 rfl rfl rfl rfl (g := g5) (o := (k - 1)) (rfl) (a := (p : Int)) (rfl) bq (by omega) ?_
            intro w13 hU13 bq
            have E := Below.stepU E hU13 (by omega)
            have RW := RW.upd hU13 (by omega)
            have hz13 := hU13.size
            refine OPS.nil ?_
            change WP _ _ _ _ _ _
            refine W_region rfl ?_
            refine S_move rfl rfl rfl (v := (.int .i64 ((k : Int) - 1))) (s10) ?_
            refine S_sub64 rfl rfl rfl rfl (rfl) (rfl) (by omega) ?_
            refine S_assign rfl rfl rfl (v := (.int .i64 (((k : Int) - 1) - 1))) (rfl) ?_
            refine OPS.nil ?_
            obtain ⟨e1, e2⟩ := fix_no (u := val ((r0.drop (k - 1)).take (lb.length + 1))) (v := val lb) (q := p) (h := hh) (owed := owed.toNat) (P := 4294967296 ^ lb.length) (low := val ((r0.drop (k - 1)).take lb.length)) hUh (by rw [Nat.mul_comm owed.toNat]; exact hval) (by omega) hUq hvp (by omega)
            have er : val (((x1.set (k - 1 + lb.length) 0).drop (k - 1)).take (lb.length + 1)) = val ((r0.drop (k - 1)).take (lb.length + 1)) % val lb := by rw [val_part_set _ _ _ _ (by omega), e2]; rfl
            obtain ⟨y1, y2⟩ := div_round (i := k - 1) (n := lb.length) (x1 := x1.set (k - 1 + lb.length) 0) (by rw [show k - 1 + 1 = k by omega]; exact hI) hru (by rw [show k - 1 + 1 = k by omega]; exact hlt) hbn ((set_take_le _ _ _ _ (by omega)).trans (hx1t)) (fun j hj => by rw [getD_set_ne' _ _ _ _ (by omega)]; exact hx1o j (by omega)) (by rw [List.length_set]; omega) (by omega) e1 er
            exact ⟨k - 1, by omega, _, _, s1, s4, s6, s7, s8, s9, int_eq (by omega), by omega, y1, y2, by simpa using hql, hqu.set _ (by omega) (by omega), by simpa using hx1l, hx1u.set _ (by decide) (by decide), RW, bq, E⟩
    · skip
      rw [pF]
      have qF := ne_of_beq_false pF
      refine S_skip (d := 85) (op := .move _) (gd := some (3, true)) rfl (wg_off rfl (rfl) rfl) ?_
      refine S_skip (d := 86) (op := .move _) (gd := some (3, true)) rfl (wg_off rfl (rfl) rfl) ?_
      refine S_skip (d := 87) (op := .binOp _ _ _ _ _) (gd := some (3, true)) rfl (wg_off rfl (rfl) rfl) ?_
      refine S_skip (d := 88) (op := .move _) (gd := some (3, true)) rfl (wg_off rfl (rfl) rfl) ?_
      refine S_skip (d := 89) (op := .binOp _ _ _ _ _) (gd := some (3, true)) rfl (wg_off rfl (rfl) rfl) ?_
      refine S_skip (d := 90) (op := .move _) (gd := some (3, true)) rfl (wg_off rfl (rfl) rfl) ?_
      refine S_skip (d := 91) (op := .move _) (gd := some (3, true)) rfl (wg_off rfl (rfl) rfl) ?_
      refine S_skip (d := 92) (op := .binOp _ _ _ _ _) (gd := some (3, true)) rfl (wg_off rfl (rfl) rfl) ?_
      refine S_skip (d := 93) (op := .indexAddr _ _ _) (gd := some (3, true)) rfl (wg_off rfl (rfl) rfl) ?_
      refine S_skip (d := 94) (op := .load _ _) (gd := some (3, true)) rfl (wg_off rfl (rfl) rfl) ?_
      refine S_skip (d := 95) (op := .convert _ _ _) (gd := some (3, true)) rfl (wg_off rfl (rfl) rfl) ?_
      refine S_skip (d := 96) (op := .binOp _ _ _ _ _) (gd := some (3, true)) rfl (wg_off rfl (rfl) rfl) ?_
      refine S_skip (d := 97) (op := .binOp _ _ _ _ _) (gd := some (3, true)) rfl (wg_off rfl (rfl) rfl) ?_
      refine S_pick rfl rfl rfl rfl rfl (b := false) (rfl) (v := (.bool false)) (rfl) ?_
      refine OPS.nil ?_
      change WP _ _ _ _ _ _
      refine W_cond rfl (b := false) (rfl) (fun h => (by cases h)) (fun _ => ?_)
      refine W_exit ?_
      change WP _ _ _ _ _ _
      refine W_seq ?_
      refine W_region rfl ?_
      obtain ⟨f1, f2⟩ := guess_end hV hvr hv2l hU hub9 hv1p (by decide) hMp hqr (.inl (by omega))
      refine S_assign rfl rfl rfl (v := (.int .u64 0)) (rfl) ?_
      refine OPS.nil ?_
      change WP _ _ _ _ _ _
      refine W_seq ?_
      refine W_seq ?_
      refine W_region rfl ?_
      refine S_move rfl rfl rfl (v := vb) (s1) ?_
      refine S_len Tryz.underlying23 rfl rfl rfl (rfl) (m := lb.length) (hb.len) ?_
      refine S_move rfl rfl rfl (v := (.int .i64 0)) (rfl) ?_
      refine OPS.nil ?_
      change WP _ _ _ _ _ _
      refine W_block ?_
      refine W_loop (fun z σ w => ∃ (j : Nat) (owed : Int) (x1 : List Int), σ 1 = vb ∧ σ 4 = .slice (some ⟨g5, 0, none⟩) mq mq ∧ σ 6 = .int .i64 (lb.length : Int) ∧ σ 7 = .int .u64 (v1 : Int) ∧ σ 8 = .int .u64 (v2 : Int) ∧ σ 9 = .slice (some ⟨g, 0, none⟩) mr cc ∧ σ 10 = .int .i64 ((k : Int) - 1) ∧ σ 11 = .slice (some ⟨g, k - 1, none⟩) (lb.length + 1) (cc - (k - 1)) ∧ σ 13 = .int .u64 (p : Int) ∧ σ 15 = .int .u64 owed ∧ σ 104 = vb ∧ σ 105 = .int .i64 (lb.length : Int) ∧ σ 106 = .int .i64 (j : Int) ∧ j + z = lb.length ∧ (0 ≤ owed ∧ owed ≤ 4294967296) ∧ val ((r0.drop (k - 1)).take j) + 4294967296 ^ j * owed.toNat = val ((x1.drop (k - 1)).take j) + ((p : Nat) : Int).toNat * val (lb.take j) ∧ x1.take (k - 1) = r0.take (k - 1) ∧ (∀ t, k - 1 + j ≤ t → x1.getD t 0 = r0.getD t 0) ∧ x1.length = mr ∧ U32 x1 ∧ OW w0.heap.size g cc w (.slice (some ⟨g, 0, none⟩) mr cc) x1 ∧ Blk w g5 (nums .u32 qs) 106 ∧ Below w0.heap.size w0 w) (lb.length) ⟨0, 0, r0, s1, s4, s6, s7, s8, s9, s10, s11, s13, rfl, rfl, rfl, rfl, by omega, ⟨by decide, by decide⟩, by simp [val], rfl, fun _ _ => rfl, hrl, hru, RW, bq, E⟩ ?_
      rintro z σ w ⟨j, owed, x1, s1, s4, s6, s7, s8, s9, s10, s11, s13, s15, s104, s105, s106, hjz, ho, hval, hx1t, hx1o, hx1l, hx1u, RW, bq, E⟩
      have hux := hx1u.getD (k - 1 + j)
      have huy := hb.u32.getD j
      have hmu := mul_lt (x := (p : Int)) (y := lb.getD j 0) ⟨by omega, by omega⟩ huy
      refine W_seq ?_
      refine W_region rfl ?_
      refine S_bin rfl rfl rfl rfl rfl (s106) (s105) (v := .bool (decide ((j : Int) < (lb.length : Int)))) rfl ?_
      refine OPS.nil ?_
      change WP _ _ _ _ _ _
      refine W_seq ?_
      refine W_cond rfl (rfl) (fun hq107 => ?_) (fun hq107 => ?_)
      · skip
        have pT := hq107
        replace hq107 := of_decide_eq_true hq107
        have qT := hq107
        try rw [pT]
        refine W_skip ?_
        change WP _ _ _ _ _ _
        refine W_seq ?_
        refine W_block ?_
        refine W_seq ?_
        refine W_region rfl ?_
        refine S_move rfl rfl rfl (v := (.int .i64 (j : Int))) (s106) ?_
        obtain ⟨ad58, hp60, hc59⟩ := (hb.below E).at j (by omega)
        refine S_idx Tryz.underlying23 ti_uint32 rfl rfl rfl rfl (s104) (s106) hp60 (by omega) ?_
        refine S_load rfl rfl rfl (rfl) (LD.one ti_uint32 hc59) ?_
        refine S_assign rfl rfl rfl (v := (.int .i64 (j : Int))) (rfl) ?_
        refine S_assign rfl rfl rfl (v := (.int .u32 (lb.getD j 0))) (rfl) ?_
        refine OPS.nil ?_
        change WP _ _ _ _ _ _
        refine W_seq ?_
        refine W_region rfl ?_
        refine S_move rfl rfl rfl (v := (.int .u64 (p : Int))) (s13) ?_
        refine S_move rfl rfl rfl (v := (.int .u32 (lb.getD j 0))) (rfl) ?_
        refine S_conv Tryz.underlying106 Tryz.underlying124 rfl rfl rfl (rfl) (b := (lb.getD j 0)) (wrap_u64 huy.1 (by omega)) ?_
        refine S_bin rfl rfl rfl rfl rfl (rfl) (rfl) (v := .int .u64 ((p : Int) * (lb.getD j 0))) (congrArg _ (wrap_u64 (by omega) (by omega))) ?_
        refine S_move rfl rfl rfl (v := (.int .u64 owed)) (s15) ?_
        refine S_bin rfl rfl rfl rfl rfl (rfl) (rfl) (v := .int .u64 (((p : Int) * (lb.getD j 0)) + owed)) (congrArg _ (wrap_u64 (by omega) (by omega))) ?_
        refine S_assign rfl rfl rfl (v := (.int .u64 (((p : Int) * (lb.getD j 0)) + owed))) (rfl) ?_
        refine OPS.nil ?_
        change WP _ _ _ _ _ _
        refine W_seq ?_
        refine W_region rfl ?_
        refine S_move rfl rfl rfl (v := (.int .u64 (((p : Int) * (lb.getD j 0)) + owed))) (rfl) ?_
        refine S_shr rfl rfl rfl rfl (rfl) (rfl) (by omega) (v := ((((p : Int) * (lb.getD j 0)) + owed) / 4294967296)) (shr32 _) ?_
        refine S_assign rfl rfl rfl (v := (.int .u64 ((((p : Int) * (lb.getD j 0)) + owed) / 4294967296))) (rfl) ?_
        refine OPS.nil ?_
        change WP _ _ _ _ _ _
        refine W_seq ?_
        refine W_seq ?_
        refine W_region rfl ?_
        refine S_move rfl rfl rfl (v := (.slice (some ⟨g, k - 1, none⟩) (lb.length + 1) (cc - (k - 1)))) (s11) ?_
        refine S_move rfl rfl rfl (v := (.int .i64 (j : Int))) (rfl) ?_
        refine S_idx Tryz.underlying23 ti_uint32 rfl rfl rfl rfl (rfl) (rfl) (j := j) (ad := ⟨g, (k - 1 + j), none⟩) (SlAt.own2 (by omega) (by omega)) (by omega) ?_
        refine S_load rfl rfl rfl (rfl) (LD.one ti_uint32 (RW.cell (by omega))) ?_
        refine S_move rfl rfl rfl (v := (.int .u64 (((p : Int) * (lb.getD j 0)) + owed))) (rfl) ?_
        refine S_conv Tryz.underlying124 Tryz.underlying106 rfl rfl rfl (rfl) (b := ((((p : Int) * (lb.getD j 0)) + owed) % 4294967296)) (wrap_u32' _) ?_
        refine S_bin rfl rfl rfl rfl rfl (rfl) (rfl) (v := .bool (decide (((x1).getD ((k - 1 + j)) 0) < ((((p : Int) * (lb.getD j 0)) + owed) % 4294967296)))) rfl ?_
        refine OPS.nil ?_
        change WP _ _ _ _ _ _
        refine W_cond rfl (rfl) (fun hq125 => ?_) (fun hq125 => ?_)
        · skip
          have pTT := hq125
          replace hq125 := of_decide_eq_true hq125
          have qTT := hq125
          try rw [pTT]
          refine W_region rfl ?_
          refine S_move rfl rfl rfl (v := (.int .u64 ((((p : Int) * (lb.getD j 0)) + owed) / 4294967296))) (rfl) ?_
          refine S_bin rfl rfl rfl rfl rfl (rfl) (rfl) (v := .int .u64 (((((p : Int) * (lb.getD j 0)) + owed) / 4294967296) + 1)) (congrArg _ (wrap_u64 (by omega) (by omega))) ?_
          refine S_assign rfl rfl rfl (v := (.int .u64 (((((p : Int) * (lb.getD j 0)) + owed) / 4294967296) + 1))) (rfl) ?_
          refine OPS.nil ?_
          change WP _ _ _ _ _ _
          refine W_region rfl ?_
          refine S_move rfl rfl rfl (v := (.slice (some ⟨g, k - 1, none⟩) (lb.length + 1) (cc - (k - 1)))) (s11) ?_
          refine S_move rfl rfl rfl (v := (.int .i64 (j : Int))) (rfl) ?_
          refine S_idx Tryz.underlying23 ti_uint32 rfl rfl rfl rfl (rfl) (rfl) (j := j) (ad := ⟨g, (k - 1 + j), none⟩) (SlAt.own2 (by omega) (by omega)) (by omega) ?_
          refine S_load rfl rfl rfl (rfl) (LD.one ti_uint32 (RW.cell (by omega))) ?_
          refine S_move rfl rfl rfl (v := (.int .u64 (((p : Int) * (lb.getD j 0)) + owed))) (rfl) ?_
          refine S_conv Tryz.underlying124 Tryz.underlying106 rfl rfl rfl (rfl) (b := ((((p : Int) * (lb.getD j 0)) + owed) % 4294967296)) (wrap_u32' _) ?_
          refine S_bin rfl rfl rfl rfl rfl (rfl) (rfl) (v := .int .u32 (((x1.getD (k - 1 + j) 0) - ((p : Int) * (lb.getD j 0) + owed) % 4294967296) % 4294967296)) (congrArg (Value.int .u32) (wrap_u32' _)) ?_
          refine S_idx Tryz.underlying23 ti_uint32 rfl rfl rfl rfl (rfl) (rfl) (j := j) (ad := ⟨g, (k - 1 + j), none⟩) (SlAt.own2 (by omega) (by omega)) (by omega) ?_
          refine S_storeOW ti_uint32 rfl rfl rfl rfl (g := g) (o := (k - 1 + j)) (rfl) (a := (((x1.getD (k - 1 + j) 0) - ((p : Int) * (lb.getD j 0) + owed) % 4294967296) % 4294967296)) (rfl) RW (by omega) ?_
          intro w14 hU14 RW
          have E := Below.stepU E hU14 (by omega)
          have bq := bq.upd hU14 (by omega)
          have hz14 := hU14.size
          refine OPS.nil ?_
          change WP _ _ _ _ _ _
          refine W_region rfl ?_
          refine S_add64 rfl rfl rfl rfl (s106) (rfl) (by omega) ?_
          refine S_move rfl rfl rfl (v := (.int .i64 ((j : Int) + 1))) (rfl) ?_
          refine OPS.nil ?_
          have hd := msub_digit (x := (x1.getD (k - 1 + j) 0)) (p := ((p : Int) * (lb.getD j 0) + owed)) hux (by omega)
          rw [if_pos (by omega)] at hd
          exact ⟨z - 1, by omega, j + 1, _, _, s1, s4, s6, s7, s8, s9, s10, s11, s13, rfl, s104, s105, int_eq (by omega), by omega, ⟨by omega, by omega⟩, msub_step (x := (x1.getD (k - 1 + j) 0)) (y := (lb.getD j 0)) (g := (p : Int)) (by omega) (hx1o _ (Nat.le_refl _)).symm rfl hux.1 huy.1 (by omega) ho.1 (by omega) (by omega) hd hval, (set_take_le _ _ _ _ (by omega)).trans hx1t, fun t ht => by rw [getD_set_ne' _ _ _ _ (by omega)]; exact hx1o t (by omega), by simpa using hx1l, hx1u.set _ (by omega) (by omega), RW, bq, E⟩
        · skip
          have pTF := hq125
          replace hq125 := of_decide_eq_false hq125
          have qTF := hq125
          try rw [pTF]
          refine W_skip ?_
          change WP _ _ _ _ _ _
          refine W_region rfl ?_
          refine S_move rfl rfl rfl (v := (.slice (some ⟨g, k - 1, none⟩) (lb.length + 1) (cc - (k - 1)))) (s11) ?_
          refine S_move rfl rfl rfl (v := (.int .i64 (j : Int))) (rfl) ?_
          refine S_idx Tryz.underlying23 ti_uint32 rfl rfl rfl rfl (rfl) (rfl) (j := j) (ad := ⟨g, (k - 1 + j), none⟩) (SlAt.own2 (by omega) (by omega)) (by omega) ?_
          refine S_load rfl rfl rfl (rfl) (LD.one ti_uint32 (RW.cell (by omega))) ?_
          refine S_move rfl rfl rfl (v := (.int .u64 (((p : Int) * (lb.getD j 0)) + owed))) (rfl) ?_
          refine S_conv Tryz.underlying124 Tryz.underlying106 rfl rfl rfl (rfl) (b := ((((p : Int) * (lb.getD j 0)) + owed) % 4294967296)) (wrap_u32' _) ?_
          refine S_bin rfl rfl rfl rfl rfl (rfl) (rfl) (v := .int .u32 (((x1.getD (k - 1 + j) 0) - ((p : Int) * (lb.getD j 0) + owed) % 4294967296) % 4294967296)) (congrArg (Value.int .u32) (wrap_u32' _)) ?_
          refine S_idx Tryz.underlying23 ti_uint32 rfl rfl rfl rfl (rfl) (rfl) (j := j) (ad := ⟨g, (k - 1 + j), none⟩) (SlAt.own2 (by omega) (by omega)) (by omega) ?_
          refine S_storeOW ti_uint32 rfl rfl rfl rfl (g := g) (o := (k - 1 + j)) (rfl) (a := (((x1.getD (k - 1 + j) 0) - ((p : Int) * (lb.getD j 0) + owed) % 4294967296) % 4294967296)) (rfl) RW (by omega) ?_
          intro w15 hU15 RW
          have E := Below.stepU E hU15 (by omega)
          have bq := bq.upd hU15 (by omega)
          have hz15 := hU15.size
          refine OPS.nil ?_
          change WP _ _ _ _ _ _
          refine W_region rfl ?_
          refine S_add64 rfl rfl rfl rfl (s106) (rfl) (by omega) ?_
          refine S_move rfl rfl rfl (v := (.int .i64 ((j : Int) + 1))) (rfl) ?_
          refine OPS.nil ?_
          have hd := msub_digit (x := (x1.getD (k - 1 + j) 0)) (p := ((p : Int) * (lb.getD j 0) + owed)) hux (by omega)
          rw [if_neg (by omega)] at hd
          exact ⟨z - 1, by omega, j + 1, _, _, s1, s4, s6, s7, s8, s9, s10, s11, s13, rfl, s104, s105, int_eq (by omega), by omega, ⟨by omega, by omega⟩, msub_step (x := (x1.getD (k - 1 + j) 0)) (y := (lb.getD j 0)) (g := (p : Int)) (by omega) (hx1o _ (Nat.le_refl _)).symm rfl hux.1 huy.1 (by omega) ho.1 (by omega) (by omega) (by rw [Int.add_zero] at hd; exact hd) hval, (set_take_le _ _ _ _ (by omega)).trans hx1t, fun t ht => by rw [getD_set_ne' _ _ _ _ (by omega)]; exact hx1o t (by omega), by simpa using hx1l, hx1u.set _ (by omega) (by omega), RW, bq, E⟩
      · skip
        have pF := hq107
        replace hq107 := of_decide_eq_false hq107
        have qF := hq107
        try rw [pF]
        refine W_exit ?_
        change WP _ _ _ _ _ _
        refine W_seq ?_
        refine W_seq ?_
        refine W_region rfl ?_
        have hjl : j = lb.length := by omega
        subst hjl
        rw [List.take_length, Int.toNat_natCast] at hval
        have hhx := (hx1o (k - 1 + lb.length) (Nat.le_refl _)).trans hhe
        refine S_move rfl rfl rfl (v := (.slice (some ⟨g, k - 1, none⟩) (lb.length + 1) (cc - (k - 1)))) (s11) ?_
        refine S_move rfl rfl rfl (v := (.int .i64 (lb.length : Int))) (s6) ?_
        refine S_idx Tryz.underlying23 ti_uint32 rfl rfl rfl rfl (rfl) (rfl) (j := lb.length) (ad := ⟨g, (k - 1 + lb.length), none⟩) (SlAt.own2 (by omega) (by omega)) (by omega) ?_
        refine S_load rfl rfl rfl (rfl) (LD.one ti_uint32 (RW.cell (by omega))) ?_
        refine S_conv Tryz.underlying106 Tryz.underlying124 rfl rfl rfl (rfl) (b := (hh : Int)) ((wrap_u64 (by omega) (by omega)).trans hhx) ?_
        refine S_move rfl rfl rfl (v := (.int .u64 owed)) (s15) ?_
        refine S_bin rfl rfl rfl rfl rfl (rfl) (rfl) (v := .bool (decide ((hh : Int) < owed))) rfl ?_
        refine OPS.nil ?_
        change WP _ _ _ _ _ _
        refine W_cond rfl (rfl) (fun hq143 => ?_) (fun hq143 => ?_)
        · skip
          have pFT := hq143
          replace hq143 := of_decide_eq_true hq143
          have qFT := hq143
          try rw [pFT]
          refine W_seq ?_
          refine W_region rfl ?_
          have hp1 : 1 ≤ p := by
            refine Nat.pos_of_ne_zero fun h => ?_
            subst h
            have h8 := val_take_lt (hx1u.drop (k - 1)) lb.length
            have h7 : 4294967296 ^ lb.length * 1 ≤ 4294967296 ^ lb.length * owed.toNat := Nat.mul_le_mul_left _ (by omega)
            omega
          refine S_move rfl rfl rfl (v := (.int .u64 (p : Int))) (s13) ?_
          refine S_bin rfl rfl rfl rfl rfl (rfl) (rfl) (v := .int .u64 ((p - 1 : Nat) : Int)) (congrArg (Value.int .u64) ((wrap_u64 (by omega) (by omega)).trans (by omega))) ?_
          refine S_assign rfl rfl rfl (v := (.int .u64 ((p - 1 : Nat) : Int))) (rfl) ?_
          refine OPS.nil ?_
          change WP _ _ _ _ _ _
          refine W_seq ?_
          refine W_region rfl ?_
          refine S_assign rfl rfl rfl (v := (.int .u32 0)) (rfl) ?_
          refine OPS.nil ?_
          change WP _ _ _ _ _ _
          refine W_seq ?_
          refine W_region rfl ?_
          refine S_move rfl rfl rfl (v := vb) (s1) ?_
          refine S_len Tryz.underlying23 rfl rfl rfl (rfl) (m := lb.length) (hb.len) ?_
          refine S_move rfl rfl rfl (v := (.int .i64 0)) (rfl) ?_
          refine OPS.nil ?_
          change WP _ _ _ _ _ _
          refine W_block ?_
          refine W_loop (fun z σ w => ∃ (j : Nat) (c : Int) (x2 : List Int), σ 1 = vb ∧ σ 4 = .slice (some ⟨g5, 0, none⟩) mq mq ∧ σ 6 = .int .i64 (lb.length : Int) ∧ σ 7 = .int .u64 (v1 : Int) ∧ σ 8 = .int .u64 (v2 : Int) ∧ σ 9 = .slice (some ⟨g, 0, none⟩) mr cc ∧ σ 10 = .int .i64 ((k : Int) - 1) ∧ σ 11 = .slice (some ⟨g, k - 1, none⟩) (lb.length + 1) (cc - (k - 1)) ∧ σ 13 = .int .u64 ((p - 1 : Nat) : Int) ∧ σ 19 = .int .u32 c ∧ σ 146 = vb ∧ σ 147 = .int .i64 (lb.length : Int) ∧ σ 148 = .int .i64 (j : Int) ∧ j + z = lb.length ∧ (0 ≤ c ∧ c ≤ 1) ∧ val ((x1.drop (k - 1)).take j) + val (lb.take j) = val ((x2.drop (k - 1)).take j) + 4294967296 ^ j * c.toNat ∧ x2.take (k - 1) = x1.take (k - 1) ∧ (∀ t, k - 1 + j ≤ t → x2.getD t 0 = x1.getD t 0) ∧ x2.length = mr ∧ U32 x2 ∧ OW w0.heap.size g cc w (.slice (some ⟨g, 0, none⟩) mr cc) x2 ∧ Blk w g5 (nums .u32 qs) 106 ∧ Below w0.heap.size w0 w) (lb.length) ⟨0, 0, x1, s1, s4, s6, s7, s8, s9, s10, s11, rfl, rfl, rfl, rfl, rfl, by omega, ⟨by decide, by decide⟩, by simp [val], rfl, fun _ _ => rfl, hx1l, hx1u, RW, bq, E⟩ ?_
          rintro z σ w ⟨j, c, x2, s1, s4, s6, s7, s8, s9, s10, s11, s13, s19, s146, s147, s148, hjz, hc, hval2, hx2t, hx2o, hx2l, hx2u, RW, bq, E⟩
          have hux := hx2u.getD (k - 1 + j)
          have huy := hb.u32.getD j
          refine W_seq ?_
          refine W_region rfl ?_
          refine S_bin rfl rfl rfl rfl rfl (s148) (s147) (v := .bool (decide ((j : Int) < (lb.length : Int)))) rfl ?_
          refine OPS.nil ?_
          change WP _ _ _ _ _ _
          refine W_seq ?_
          refine W_cond rfl (rfl) (fun hq149 => ?_) (fun hq149 => ?_)
          · skip
            have pT := hq149
            replace hq149 := of_decide_eq_true hq149
            have qT := hq149
            try rw [pT]
            refine W_skip ?_
            change WP _ _ _ _ _ _
            refine W_seq ?_
            refine W_block ?_
            refine W_seq ?_
            refine W_region rfl ?_
            refine S_move rfl rfl rfl (v := (.int .i64 (j : Int))) (s148) ?_
            obtain ⟨ad79, hp81, hc80⟩ := (hb.below E).at j (by omega)
            refine S_idx Tryz.underlying23 ti_uint32 rfl rfl rfl rfl (s146) (s148) hp81 (by omega) ?_
            refine S_load rfl rfl rfl (rfl) (LD.one ti_uint32 hc80) ?_
            refine S_assign rfl rfl rfl (v := (.int .i64 (j : Int))) (rfl) ?_
            refine S_assign rfl rfl rfl (v := (.int .u32 (lb.getD j 0))) (rfl) ?_
            refine OPS.nil ?_
            change WP _ _ _ _ _ _
            refine W_region rfl ?_
            refine S_move rfl rfl rfl (v := (.slice (some ⟨g, k - 1, none⟩) (lb.length + 1) (cc - (k - 1)))) (s11) ?_
            refine S_move rfl rfl rfl (v := (.int .i64 (j : Int))) (rfl) ?_
            refine S_move rfl rfl rfl (v := (.slice (some ⟨g, k - 1, none⟩) (lb.length + 1) (cc - (k - 1)))) (s11) ?_
            refine S_move rfl rfl rfl (v := (.int .i64 (j : Int))) (rfl) ?_
            refine S_idx Tryz.underlying23 ti_uint32 rfl rfl rfl rfl (rfl) (rfl) (j := j) (ad := ⟨g, (k - 1 + j), none⟩) (SlAt.own2 (by omega) (by omega)) (by omega) ?_
            refine S_load rfl rfl rfl (rfl) (LD.one ti_uint32 (RW.cell (by omega))) ?_
            refine S_move rfl rfl rfl (v := (.int .u32 (lb.getD j 0))) (rfl) ?_
            refine S_move rfl rfl rfl (v := (.int .u32 c)) (s19) ?_
            refine S_call en_math_bits_Add32 rfl rfl rfl (vs := [(.int .u32 ((x2).getD ((k - 1 + j)) 0)), (.int .u32 (lb.getD j 0)), (.int .u32 c)]) (rfl) (add32_c _ _ _ _ hux huy hc) ?_
            rintro _ _ ⟨rfl, rfl⟩
            refine S_move rfl rfl rfl (v := (.tuple #[.int .u32 (((x2.getD (k - 1 + j) 0) + (lb.getD j 0) + c) % 4294967296), .int .u32 (((x2.getD (k - 1 + j) 0) + (lb.getD j 0) + c) / 4294967296)])) (rfl) ?_
            refine S_extract rfl rfl rfl (rfl) rfl ?_
            refine S_extract rfl rfl rfl (rfl) rfl ?_
            refine S_idx Tryz.underlying23 ti_uint32 rfl rfl rfl rfl (rfl) (rfl) (j := j) (ad := ⟨g, (k - 1 + j), none⟩) (SlAt.own2 (by omega) (by omega)) (by omega) ?_
            refine S_storeOW ti_uint32 rfl rfl rfl rfl (g := g) (o := (k - 1 + j)) (rfl) (a := (((x2.getD (k - 1 + j) 0) + (lb.getD j 0) + c) % 4294967296)) (rfl) RW (by omega) ?_
            intro w16 hU16 RW
            have E := Below.stepU E hU16 (by omega)
            have bq := bq.upd hU16 (by omega)
            have hz16 := hU16.size
            refine S_assign rfl rfl rfl (v := (.int .u32 (((x2.getD (k - 1 + j) 0) + (lb.getD j 0) + c) / 4294967296))) (rfl) ?_
            refine OPS.nil ?_
            change WP _ _ _ _ _ _
            refine W_region rfl ?_
            refine S_add64 rfl rfl rfl rfl (s148) (rfl) (by omega) ?_
            refine S_move rfl rfl rfl (v := (.int .i64 ((j : Int) + 1))) (rfl) ?_
            refine OPS.nil ?_
            exact ⟨z - 1, by omega, j + 1, _, _, s1, s4, s6, s7, s8, s9, s10, s11, s13, rfl, s146, s147, int_eq (by omega), by omega, ⟨by omega, by omega⟩, aback_step (x := (x2.getD (k - 1 + j) 0)) (y := (lb.getD j 0)) (by omega) (hx2o _ (Nat.le_refl _)).symm rfl hux.1 huy.1 hc.1 (by omega) (by omega) (by omega) hval2, (set_take_le _ _ _ _ (by omega)).trans hx2t, fun t ht => by rw [getD_set_ne' _ _ _ _ (by omega)]; exact hx2o t (by omega), by simpa using hx2l, hx2u.set _ (by omega) (by omega), RW, bq, E⟩
          · skip
            have pF := hq149
            replace hq149 := of_decide_eq_false hq149
            have qF := hq149
            try rw [pF]
            refine W_exit ?_
            change WP _ _ _ _ _ _
            refine W_seq ?_
            refine W_region rfl ?_
            have hjl : j = lb.length := by omega
            subst hjl
            rw [List.take_length] at hval2
            refine S_move rfl rfl rfl (v := (.slice (some ⟨g, k - 1, none⟩) (lb.length + 1) (cc - (k - 1)))) (s11) ?_
            refine S_move rfl rfl rfl (v := (.int .i64 (lb.length : Int))) (s6) ?_
            refine S_idx Tryz.underlying23 ti_uint32 rfl rfl rfl rfl (rfl) (rfl) (j := lb.length) (ad := ⟨g, (k - 1 + lb.length), none⟩) (SlAt.own2 (by omega) (by omega)) (by omega) ?_
            refine S_storeOW ti_uint32 rfl rfl rfl rfl (g := g) (o := (k - 1 + lb.length)) (rfl) (a := 0) (rfl) RW (by omega) ?_
            intro w17 hU17 RW
            have E := Below.stepU E hU17 (by omega)
            have bq := bq.upd hU17 (by omega)
            have hz17 := hU17.size
            refine OPS.nil ?_
            change WP _ _ _ _ _ _
            refine W_region rfl ?_
            refine S_move rfl rfl rfl (v := (.slice (some ⟨g5, 0, none⟩) mq mq)) (s4) ?_
            refine S_move rfl rfl rfl (v := (.int .i64 ((k : Int) - 1))) (s10) ?_
            refine S_move rfl rfl rfl (v := (.int .u64 ((p - 1 : Nat) : Int))) (s13) ?_
            refine S_conv Tryz.underlying124 Tryz.underlying106 rfl rfl rfl (rfl) (b := ((p - 1 : Nat) : Int)) (wrap_u32 (by omega) (by omega)) ?_
            refine S_idx Tryz.underlying23 ti_uint32 rfl rfl rfl rfl (rfl) (rfl) (j := (k - 1)) (ad := ⟨g5, (k - 1), none⟩) (SlAt.own1 (by omega)) (by omega) ?_
            refine S_storeN ti_uint32 rfl rfl rfl rfl (g := g5) (o := (k - 1)) (rfl) (a := ((p - 1 : Nat) : Int)) (rfl) bq (by omega) ?_
            intro w18 hU18 bq
            have E := Below.stepU E hU18 (by omega)
            have RW := RW.upd hU18 (by omega)
            have hz18 := hU18.size
            refine OPS.nil ?_
            change WP _ _ _ _ _ _
            refine W_region rfl ?_
            refine S_move rfl rfl rfl (v := (.int .i64 ((k : Int) - 1))) (s10) ?_
            refine S_sub64 rfl rfl rfl rfl (rfl) (rfl) (by omega) ?_
            refine S_assign rfl rfl rfl (v := (.int .i64 (((k : Int) - 1) - 1))) (rfl) ?_
            refine OPS.nil ?_
            obtain ⟨e1, e2, e3⟩ := fix_yes (u := val ((r0.drop (k - 1)).take (lb.length + 1))) (v := val lb) (q := p) (h := hh) (owed := owed.toNat) (P := 4294967296 ^ lb.length) (low := val ((r0.drop (k - 1)).take lb.length)) hUh (by rw [Nat.mul_comm owed.toNat]; exact hval) (by omega) (val_take_lt (hx1u.drop _) _) f2 hvp (by omega) (hval2.trans (by rw [Nat.add_comm, Nat.mul_comm])) (val_take_lt (hx2u.drop _) _)
            have er : val (((x2.set (k - 1 + lb.length) 0).drop (k - 1)).take (lb.length + 1)) = val ((r0.drop (k - 1)).take (lb.length + 1)) % val lb := by rw [val_part_set _ _ _ _ (by omega), e2]; rfl
            obtain ⟨y1, y2⟩ := div_round (i := k - 1) (n := lb.length) (x1 := x2.set (k - 1 + lb.length) 0) (by rw [show k - 1 + 1 = k by omega]; exact hI) hru (by rw [show k - 1 + 1 = k by omega]; exact hlt) hbn ((set_take_le _ _ _ _ (by omega)).trans (hx2t.trans hx1t)) (fun j hj => by rw [getD_set_ne' _ _ _ _ (by omega)]; exact (hx2o j (by omega)).trans (hx1o j (by omega))) (by rw [List.length_set]; omega) (by omega) e1 er
            exact ⟨k - 1, by omega, _, _, s1, s4, s6, s7, s8, s9, int_eq (by omega), by omega, y1, y2, by simpa using hql, hqu.set _ (by omega) (by omega), by simpa using hx2l, hx2u.set _ (by decide) (by decide), RW, bq, E⟩
        · skip
          have pFF := hq143
          replace hq143 := of_decide_eq_false hq143
          have qFF := hq143
          try rw [pFF]
          refine W_skip ?_
          change WP _ _ _ _ _ _
          refine W_seq ?_
          refine W_region rfl ?_
          refine S_move rfl rfl rfl (v := (.slice (some ⟨g, k - 1, none⟩) (lb.length + 1) (cc - (k - 1)))) (s11) ?_
          refine S_move rfl rfl rfl (v := (.int .i64 (lb.length : Int))) (s6) ?_
          refine S_idx Tryz.underlying23 ti_uint32 rfl rfl rfl rfl (rfl) (rfl) (j := lb.length) (ad := ⟨g, (k - 1 + lb.length), none⟩) (SlAt.own2 (by omega) (by omega)) (by omega) ?_
          refine S_storeOW ti_uint32 rfl rfl rfl rfl (g := g) (o := (k - 1 + lb.length)) (rfl) (a := 0) (rfl) RW (by omega) ?_
          intro w19 hU19 RW
          have E := Below.stepU E hU19 (by omega)
          have bq := bq.upd hU19 (by omega)
          have hz19 := hU19.size
          refine OPS.nil ?_
          change WP _ _ _ _ _ _
          refine W_region rfl ?_
          refine S_move rfl rfl rfl (v := (.slice (some ⟨g5, 0, none⟩) mq mq)) (s4) ?_
          refine S_move rfl rfl rfl (v := (.int .i64 ((k : Int) - 1))) (s10) ?_
          refine S_move rfl rfl rfl (v := (.int .u64 (p : Int))) (s13) ?_
          refine S_conv Tryz.underlying124 Tryz.underlying106 rfl rfl rfl (rfl) (b := (p : Int)) (wrap_u32 (by omega) (by omega)) ?_
          refine S_idx Tryz.underlying23 ti_uint32 rfl rfl rfl rfl (rfl) (rfl) (j := (k - 1)) (ad := ⟨g5, (k - 1), none⟩) (SlAt.own1 (by omega)) (by omega) ?_
          refine S_storeN ti_uint32 rfl rfl rfl rfl (g := g5) (o := (k - 1)) (rfl) (a := (p : Int)) (rfl) bq (by omega) ?_
          intro w20 hU20 bq
          have E := Below.stepU E hU20 (by omega)
          have RW := RW.upd hU20 (by omega)
          have hz20 := hU20.size
          refine OPS.nil ?_
          change WP _ _ _ _ _ _
          refine W_region rfl ?_
          refine S_move rfl rfl rfl (v := (.int .i64 ((k : Int) - 1))) (s10) ?_
          refine S_sub64 rfl rfl rfl rfl (rfl) (rfl) (by omega) ?_
          refine S_assign rfl rfl rfl (v := (.int .i64 (((k : Int) - 1) - 1))) (rfl) ?_
          refine OPS.nil ?_
          obtain ⟨e1, e2⟩ := fix_no (u := val ((r0.drop (k - 1)).take (lb.length + 1))) (v := val lb) (q := p) (h := hh) (owed := owed.toNat) (P := 4294967296 ^ lb.length) (low := val ((r0.drop (k - 1)).take lb.length)) hUh (by rw [Nat.mul_comm owed.toNat]; exact hval) (by omega) hUq hvp (by omega)
          have er : val (((x1.set (k - 1 + lb.length) 0).drop (k - 1)).take (lb.length + 1)) = val ((r0.drop (k - 1)).take (lb.length + 1)) % val lb := by rw [val_part_set _ _ _ _ (by omega), e2]; rfl
          obtain ⟨y1, y2⟩ := div_round (i := k - 1) (n := lb.length) (x1 := x1.set (k - 1 + lb.length) 0) (by rw [show k - 1 + 1 = k by omega]; exact hI) hru (by rw [show k - 1 + 1 = k by omega]; exact hlt) hbn ((set_take_le _ _ _ _ (by omega)).trans (hx1t)) (fun j hj => by rw [getD_set_ne' _ _ _ _ (by omega)]; exact hx1o j (by omega)) (by rw [List.length_set]; omega) (by omega) e1 er
          exact ⟨k - 1, by omega, _, _, s1, s4, s6, s7, s8, s9, int_eq (by omega), by omega, y1, y2, by simpa using hql, hqu.set _ (by omega) (by omega), by simpa using hx1l, hx1u.set _ (by decide) (by decide), RW, bq, E⟩
  · skip
    have pF := hq49
    replace hq49 := of_decide_eq_false hq49
    have qF := hq49
    try rw [pF]
    refine W_exit ?_
    change WP _ _ _ _ _ _
    refine W_seq ?_
    refine W_region rfl ?_
    have hk0 : k = 0 := by omega
    subst hk0
    obtain ⟨d1, d2⟩ := div_end hI hlt
    rw [hrv] at d1 d2
    refine S_move rfl rfl rfl (v := (.slice (some ⟨g5, 0, none⟩) mq mq)) (s4) ?_
    refine S_call en_nats_cut rfl rfl rfl (vs := [(.slice (some ⟨g5, 0, none⟩) mq mq)]) (rfl) (natsCutN_c _ _ _ (ON.ofNums (B := g5) bq hqu (Nat.le_refl _) hql (by omega))) ?_
    rintro t1v _ ⟨t1, rfl⟩
    refine S_move rfl rfl rfl (v := (.slice (some ⟨g, 0, none⟩) mr cc)) (s9) ?_
    refine S_call en_nats_cut rfl rfl rfl (vs := [(.slice (some ⟨g, 0, none⟩) mr cc)]) (rfl) (natsCutN_c _ _ _ (RW.on hru)) ?_
    rintro t2v _ ⟨t2, rfl⟩
    refine S_assign rfl rfl rfl (v := t1v) (rfl) ?_
    refine S_assign rfl rfl rfl (v := t2v) (rfl) ?_
    refine OPS.nil ?_
    change WP _ _ _ _ _ _
    refine W_ret ?_
    change Fin' _ _ _ _ _ _
    refine End2 (n := ⟨179, []⟩) (t := 4) (u := 5) rfl (by decide) (by decide) (rfl) (rfl) ?_
    rw [d1] at t1
    rw [d2] at t2
    exact ⟨E, _, _, rfl, t1.mono (by omega), t2⟩

end Go.Proofs.YtccmicegihlfbaaGreatDoor
