/- The document's sums and products of numbers from 0 on. -/
import Derived.Test.YtccmicegihlfbaaGreatDoorS1
import Derived.Test.YtccmicegihlfbaaGreatDoorTy
import Derived.Test.YtccmicegihlfbaaGreatDoorN6
set_option linter.unusedVariables false
set_option linter.unusedSimpArgs false
namespace Go.Proofs.YtccmicegihlfbaaGreatDoor
open Go.RowKit

set_option maxHeartbeats 400000 in
theorem ref01Mul_c (w0 : World) (va vb : Value) (la lb : List Int) {a b a2 b2 : Nat} (ha : RN a b w0 va la) (hb : RN a2 b2 w0 vb lb) (hsa : la.length ≤ SZ) (hsb : lb.length ≤ SZ) :
    Ret Tryz.prog 99 [va, vb] w0 (fun r w1 => Below w0.heap.size w0 w1 ∧ ON w0.heap.size w1 r (dg (nv la * nv lb))) := by
  have E := Below.refl w0.heap.size w0
  have hfa := ha.fine
  have hfb := hb.fine
  have h1 := fineL_length la
  have h2 := fineL_length lb
  unfold SZ at hsa hsb
  refine Ret_of (n := 71) Tryz.func99 rfl rfl (Nat.le_of_ble_eq_true rfl) ?_
  refine W_seq ?_
  refine W_region rfl ?_
  refine S_assign rfl rfl rfl (v := (.slice none 0 0)) (rfl) ?_
  refine OPS.nil ?_
  change WP _ _ _ _ _ _
  refine W_seq ?_
  refine W_region rfl ?_
  refine S_move rfl rfl rfl (v := va) (rfl) ?_
  refine S_call en_assayerref01_fit rfl rfl rfl (vs := [va]) (rfl) (ref01Fit_c w0 va la ha) ?_
  rintro _ _ ⟨rfl, rfl⟩
  refine S_assign rfl rfl rfl (v := (if okL la then va else .slice none 0 0)) (rfl) ?_
  refine OPS.nil ?_
  change WP _ _ _ _ _ _
  refine W_seq ?_
  refine W_region rfl ?_
  refine S_move rfl rfl rfl (v := vb) (rfl) ?_
  refine S_call en_assayerref01_fit rfl rfl rfl (vs := [vb]) (rfl) (ref01Fit_c w0 vb lb hb) ?_
  rintro _ _ ⟨rfl, rfl⟩
  refine S_assign rfl rfl rfl (v := (if okL lb then vb else .slice none 0 0)) (rfl) ?_
  refine OPS.nil ?_
  change WP _ _ _ _ _ _
  refine W_seq ?_
  refine W_region rfl ?_
  refine S_move rfl rfl rfl (v := (if okL la then va else .slice none 0 0)) (rfl) ?_
  refine S_len Tryz.underlying23 rfl rfl rfl (rfl) (m := (fineL la).length) (hfa.len) ?_
  refine S_move rfl rfl rfl (v := (if okL lb then vb else .slice none 0 0)) (rfl) ?_
  refine S_len Tryz.underlying23 rfl rfl rfl (rfl) (m := (fineL lb).length) (hfb.len) ?_
  refine S_add64 rfl rfl rfl rfl (rfl) (rfl) (by omega) ?_
  refine S_make Tryz.underlying23 ti_uint32 rfl rfl rfl rfl (rfl) (m := (fineL la).length + (fineL lb).length) (by omega) (by omega) (by omega) ?_
  intro g1 w1 hg1 hs1 hB1 b1
  rw [nums_rep] at b1
  have hz1 := hB1.size
  have E := Below.step E hB1
  refine S_assign rfl rfl rfl (v := (.slice (some ⟨g1, 0, none⟩) ((fineL la).length + (fineL lb).length) ((fineL la).length + (fineL lb).length))) (rfl) ?_
  refine OPS.nil ?_
  change WP _ _ _ _ _ _
  refine W_seq ?_
  refine W_seq ?_
  refine W_region rfl ?_
  obtain ⟨m, hmm⟩ : ∃ m, m = (fineL la).length + (fineL lb).length := ⟨_, rfl⟩
  refine S_assign rfl rfl rfl (v := (.int .i64 0)) (rfl) ?_
  refine OPS.nil ?_
  change WP _ _ _ _ _ _
  refine W_block ?_
  refine W_loop (fun q σ w => ∃ (i : Nat) (xs : List Int), σ 0 = (if okL la then va else .slice none 0 0) ∧ σ 1 = (if okL lb then vb else .slice none 0 0) ∧ σ 5 = .slice (some ⟨g1, 0, none⟩) m m ∧ σ 6 = .int .i64 (i : Int) ∧ i + q = (fineL la).length ∧ val xs = val ((fineL la).take i) * val (fineL lb) ∧ (∀ j, i + (fineL lb).length ≤ j → xs.getD j 0 = 0) ∧ xs.length = m ∧ U32 xs ∧ Blk w g1 (nums .u32 xs) 106 ∧ Below w0.heap.size w0 w) ((fineL la).length) ⟨0, List.replicate m 0, rfl, rfl, by rw [hmm]; rfl, rfl, by omega, by rw [val_zeros]; simp [val], fun j _ => rep_getD m j, by simp, U32.replicate m, by rw [hmm]; exact b1, E⟩ ?_
  rintro q σ w ⟨i, xs, s0, s1, s5, s6, hiq, hval, hz, hxl, hxu, b1, E⟩
  have hua := hfa.u32.getD i
  refine W_seq ?_
  refine W_seq ?_
  refine W_region rfl ?_
  refine S_move rfl rfl rfl (v := (.int .i64 (i : Int))) (s6) ?_
  refine S_move rfl rfl rfl (v := (if okL la then va else .slice none 0 0)) (s0) ?_
  refine S_len Tryz.underlying23 rfl rfl rfl (rfl) (m := (fineL la).length) (hfa.len) ?_
  refine S_bin rfl rfl rfl rfl rfl (rfl) (rfl) (v := .bool (decide ((i : Int) < ((fineL la).length : Int)))) rfl ?_
  refine OPS.nil ?_
  change WP _ _ _ _ _ _
  refine W_cond rfl (rfl) (fun hq22 => ?_) (fun hq22 => ?_)
  · skip
    have pT := hq22
    replace hq22 := of_decide_eq_true hq22
    have qT := hq22
    try rw [pT]
    refine W_skip ?_
    change WP _ _ _ _ _ _
    refine W_seq ?_
    refine W_block ?_
    refine W_seq ?_
    refine W_region rfl ?_
    refine S_assign rfl rfl rfl (v := (.int .u64 0)) (rfl) ?_
    refine OPS.nil ?_
    change WP _ _ _ _ _ _
    refine W_seq ?_
    refine W_seq ?_
    refine W_region rfl ?_
    refine S_assign rfl rfl rfl (v := (.int .i64 0)) (rfl) ?_
    refine OPS.nil ?_
    change WP _ _ _ _ _ _
    refine W_block ?_
    refine W_loop (fun p σ w => ∃ (k : Nat) (h : Int) (ys : List Int), σ 0 = (if okL la then va else .slice none 0 0) ∧ σ 1 = (if okL lb then vb else .slice none 0 0) ∧ σ 5 = .slice (some ⟨g1, 0, none⟩) m m ∧ σ 6 = .int .i64 (i : Int) ∧ σ 7 = .int .u64 h ∧ σ 8 = .int .i64 (k : Int) ∧ k + p = (fineL lb).length ∧ (0 ≤ h ∧ h < 4294967296) ∧
      val ys + 4294967296 ^ (i + k) * h.toNat = val xs + 4294967296 ^ i * (((fineL la).getD i 0).toNat * val ((fineL lb).take k)) ∧ (∀ j, i + k ≤ j → ys.getD j 0 = xs.getD j 0) ∧ ys.length = m ∧ U32 ys ∧ Blk w g1 (nums .u32 ys) 106 ∧ Below w0.heap.size w0 w) ((fineL lb).length) ⟨0, 0, xs, s0, s1, s5, s6, rfl, rfl, by omega, ⟨by decide, by decide⟩, by simp [val], fun _ _ => rfl, hxl, hxu, b1, E⟩ ?_
    rintro p σ w ⟨k, h, ys, s0, s1, s5, s6, s7, s8, hkp, hh, hval2, hold, hyl, hyu, b1, E⟩
    have hub := hfb.u32.getD k
    have huo := hyu.getD (i + k)
    have hml := mul_lt hua hub
    refine W_seq ?_
    refine W_seq ?_
    refine W_region rfl ?_
    refine S_move rfl rfl rfl (v := (.int .i64 (k : Int))) (s8) ?_
    refine S_move rfl rfl rfl (v := (if okL lb then vb else .slice none 0 0)) (s1) ?_
    refine S_len Tryz.underlying23 rfl rfl rfl (rfl) (m := (fineL lb).length) (hfb.len) ?_
    refine S_bin rfl rfl rfl rfl rfl (rfl) (rfl) (v := .bool (decide ((k : Int) < ((fineL lb).length : Int)))) rfl ?_
    refine OPS.nil ?_
    change WP _ _ _ _ _ _
    refine W_cond rfl (rfl) (fun hq28 => ?_) (fun hq28 => ?_)
    · skip
      have pT := hq28
      replace hq28 := of_decide_eq_true hq28
      have qT := hq28
      try rw [pT]
      refine W_skip ?_
      change WP _ _ _ _ _ _
      refine W_seq ?_
      refine W_block ?_
      refine W_seq ?_
      refine D_begin_ mixed_ rfl rfl ?_
      intro w2 hB2 hz_2
      have hz2 := hB2.size
      have E := Below.step E hB2
      have hl_b1 := b1.lt
      have b1 := b1.below hB2
      have hS_ : Below w2.heap.size w2 w2 := Below.refl _ _
      have E_S := E
      have b1_S := b1
      refine D_move (i := 0) (by kernel_rfl) (by kernel_rfl) (by kernel_rfl) (listed2 := #[true, false, false, false, false, false, false, false, false, false, false, false, false, false, false, false, false, false, false, false, false, false]) (by kernel_rfl) rfl rfl rfl (v := (.int .u64 h)) (s7) hS_ ?_
      refine D_move (i := 1) (by kernel_rfl) (by kernel_rfl) (by kernel_rfl) (listed2 := #[true, true, false, false, false, false, false, false, false, false, false, false, false, false, false, false, false, false, false, false, false, false]) (by kernel_rfl) rfl rfl rfl (v := (if okL la then va else .slice none 0 0)) (s0) hS_ ?_
      refine D_move (i := 2) (by kernel_rfl) (by kernel_rfl) (by kernel_rfl) (listed2 := #[true, true, true, false, false, false, false, false, false, false, false, false, false, false, false, false, false, false, false, false, false, false]) (by kernel_rfl) rfl rfl rfl (v := (.int .i64 (i : Int))) (s6) hS_ ?_
      obtain ⟨ad1, hp3, hc2⟩ := (hfa.below E_S).at i (by omega)
      refine D_idx Tryz.underlying23 ti_uint32 (i := 3) (by kernel_rfl) (by kernel_rfl) (by kernel_rfl) (listed2 := #[true, true, true, true, false, false, false, false, false, false, false, false, false, false, false, false, false, false, false, false, false, false]) (by kernel_rfl) rfl rfl rfl rfl (rfl) (rfl) hp3 (by omega) hS_ ?_
      refine D_load (i := 4) (by kernel_rfl) (by kernel_rfl) (by kernel_rfl) (listed2 := #[true, true, true, true, true, false, false, false, false, false, false, false, false, false, false, false, false, false, false, false, false, false]) (by kernel_rfl) rfl rfl rfl (rfl) (fun _ hS2 => LD.one ti_uint32 (cell_below hS2 hc2)) hS_ ?_
      refine D_conv Tryz.underlying106 Tryz.underlying124 (i := 5) (by kernel_rfl) (by kernel_rfl) (by kernel_rfl) (listed2 := #[true, true, true, true, true, true, false, false, false, false, false, false, false, false, false, false, false, false, false, false, false, false]) (by kernel_rfl) rfl rfl rfl (rfl) (b := ((fineL la).getD i 0)) (wrap_u64 hua.1 (by omega)) hS_ ?_
      refine D_move (i := 6) (by kernel_rfl) (by kernel_rfl) (by kernel_rfl) (listed2 := #[true, true, true, true, true, true, true, false, false, false, false, false, false, false, false, false, false, false, false, false, false, false]) (by kernel_rfl) rfl rfl rfl (v := (if okL lb then vb else .slice none 0 0)) (s1) hS_ ?_
      refine D_move (i := 7) (by kernel_rfl) (by kernel_rfl) (by kernel_rfl) (listed2 := #[true, true, true, true, true, true, true, true, false, false, false, false, false, false, false, false, false, false, false, false, false, false]) (by kernel_rfl) rfl rfl rfl (v := (.int .i64 (k : Int))) (s8) hS_ ?_
      obtain ⟨ad4, hp6, hc5⟩ := (hfb.below E_S).at k (by omega)
      refine D_idx Tryz.underlying23 ti_uint32 (i := 8) (by kernel_rfl) (by kernel_rfl) (by kernel_rfl) (listed2 := #[true, true, true, true, true, true, true, true, true, false, false, false, false, false, false, false, false, false, false, false, false, false]) (by kernel_rfl) rfl rfl rfl rfl (rfl) (rfl) hp6 (by omega) hS_ ?_
      refine D_load (i := 9) (by kernel_rfl) (by kernel_rfl) (by kernel_rfl) (listed2 := #[true, true, true, true, true, true, true, true, true, true, false, false, false, false, false, false, false, false, false, false, false, false]) (by kernel_rfl) rfl rfl rfl (rfl) (fun _ hS2 => LD.one ti_uint32 (cell_below hS2 hc5)) hS_ ?_
      refine D_conv Tryz.underlying106 Tryz.underlying124 (i := 10) (by kernel_rfl) (by kernel_rfl) (by kernel_rfl) (listed2 := #[true, true, true, true, true, true, true, true, true, true, true, false, false, false, false, false, false, false, false, false, false, false]) (by kernel_rfl) rfl rfl rfl (rfl) (b := ((fineL lb).getD k 0)) (wrap_u64 hub.1 (by omega)) hS_ ?_
      refine D_bin (i := 11) (by kernel_rfl) (by kernel_rfl) (by kernel_rfl) (listed2 := #[true, true, true, true, true, true, true, true, true, true, true, true, false, false, false, false, false, false, false, false, false, false]) (by kernel_rfl) rfl rfl rfl rfl rfl (rfl) (rfl) (v := .int .u64 (((fineL la).getD i 0) * ((fineL lb).getD k 0))) (congrArg _ (wrap_u64 (by omega) (by omega))) hS_ ?_
      refine D_bin (i := 12) (by kernel_rfl) (by kernel_rfl) (by kernel_rfl) (listed2 := #[true, true, true, true, true, true, true, true, true, true, true, true, true, false, false, false, false, false, false, false, false, false]) (by kernel_rfl) rfl rfl rfl rfl rfl (rfl) (rfl) (v := .int .u64 (h + (((fineL la).getD i 0) * ((fineL lb).getD k 0)))) (congrArg _ (wrap_u64 (by omega) (by omega))) hS_ ?_
      refine D_move (i := 13) (by kernel_rfl) (by kernel_rfl) (by kernel_rfl) (listed2 := #[true, true, true, true, true, true, true, true, true, true, true, true, true, true, false, false, false, false, false, false, false, false]) (by kernel_rfl) rfl rfl rfl (v := (.slice (some ⟨g1, 0, none⟩) m m)) (s5) hS_ ?_
      refine D_move (i := 14) (by kernel_rfl) (by kernel_rfl) (by kernel_rfl) (listed2 := #[true, true, true, true, true, true, true, true, true, true, true, true, true, true, true, false, false, false, false, false, false, false]) (by kernel_rfl) rfl rfl rfl (v := (.int .i64 (i : Int))) (s6) hS_ ?_
      refine D_move (i := 15) (by kernel_rfl) (by kernel_rfl) (by kernel_rfl) (listed2 := #[true, true, true, true, true, true, true, true, true, true, true, true, true, true, true, true, false, false, false, false, false, false]) (by kernel_rfl) rfl rfl rfl (v := (.int .i64 (k : Int))) (s8) hS_ ?_
      refine D_add64 (i := 16) (by kernel_rfl) (by kernel_rfl) (by kernel_rfl) (listed2 := #[true, true, true, true, true, true, true, true, true, true, true, true, true, true, true, true, true, false, false, false, false, false]) (by kernel_rfl) rfl rfl rfl rfl (rfl) (rfl) (by omega) hS_ ?_
      refine D_idx Tryz.underlying23 ti_uint32 (i := 17) (by kernel_rfl) (by kernel_rfl) (by kernel_rfl) (listed2 := #[true, true, true, true, true, true, true, true, true, true, true, true, true, true, true, true, true, true, false, false, false, false]) (by kernel_rfl) rfl rfl rfl rfl (rfl) (rfl) (j := (i + k)) (ad := ⟨g1, (i + k), none⟩) (SlAt.own1 (by omega)) (by omega) hS_ ?_
      refine D_load (i := 18) (by kernel_rfl) (by kernel_rfl) (by kernel_rfl) (listed2 := #[true, true, true, true, true, true, true, true, true, true, true, true, true, true, true, true, true, true, true, false, false, false]) (by kernel_rfl) rfl rfl rfl (rfl) (fun _ hS2 => LD.one ti_uint32 (cell_below hS2 (b1_S.num (by omega)))) hS_ ?_
      refine D_conv Tryz.underlying106 Tryz.underlying124 (i := 19) (by kernel_rfl) (by kernel_rfl) (by kernel_rfl) (listed2 := #[true, true, true, true, true, true, true, true, true, true, true, true, true, true, true, true, true, true, true, true, false, false]) (by kernel_rfl) rfl rfl rfl (rfl) (b := (ys.getD (i + k) 0)) (wrap_u64 huo.1 (by omega)) hS_ ?_
      refine D_bin (i := 20) (by kernel_rfl) (by kernel_rfl) (by kernel_rfl) (listed2 := #[true, true, true, true, true, true, true, true, true, true, true, true, true, true, true, true, true, true, true, true, true, false]) (by kernel_rfl) rfl rfl rfl rfl rfl (rfl) (rfl) (v := .int .u64 ((h + (((fineL la).getD i 0) * ((fineL lb).getD k 0))) + (ys.getD (i + k) 0))) (congrArg _ (wrap_u64 (by omega) (by omega))) hS_ ?_
      refine D_assign (i := 21) (by kernel_rfl) (by kernel_rfl) (by kernel_rfl) (listed2 := #[true, true, true, true, true, true, true, true, true, true, true, true, true, true, true, true, true, true, true, true, true, true]) (by kernel_rfl) rfl rfl rfl (v := (.int .u64 ((h + (((fineL la).getD i 0) * ((fineL lb).getD k 0))) + (ys.getD (i + k) 0)))) (rfl) hS_ ?_
      refine D_done (by kernel_rfl) ?_
      change WP _ _ _ _ _ _
      refine W_seq ?_
      refine W_region rfl ?_
      refine S_move rfl rfl rfl (v := (.slice (some ⟨g1, 0, none⟩) m m)) (s5) ?_
      refine S_move rfl rfl rfl (v := (.int .i64 (i : Int))) (s6) ?_
      refine S_move rfl rfl rfl (v := (.int .i64 (k : Int))) (s8) ?_
      refine S_add64 rfl rfl rfl rfl (rfl) (rfl) (by omega) ?_
      refine S_move rfl rfl rfl (v := (.int .u64 ((h + (((fineL la).getD i 0) * ((fineL lb).getD k 0))) + (ys.getD (i + k) 0)))) (rfl) ?_
      refine S_conv Tryz.underlying124 Tryz.underlying106 rfl rfl rfl (rfl) (b := (((h + (((fineL la).getD i 0) * ((fineL lb).getD k 0))) + (ys.getD (i + k) 0)) % 4294967296)) (wrap_u32' _) ?_
      refine S_idx Tryz.underlying23 ti_uint32 rfl rfl rfl rfl (rfl) (rfl) (j := (i + k)) (ad := ⟨g1, (i + k), none⟩) (SlAt.own1 (by omega)) (by omega) ?_
      refine S_storeN ti_uint32 rfl rfl rfl rfl (g := g1) (o := (i + k)) (rfl) (a := (((h + (((fineL la).getD i 0) * ((fineL lb).getD k 0))) + (ys.getD (i + k) 0)) % 4294967296)) (rfl) b1 (by omega) ?_
      intro w3 hU3 b1
      have E := Below.stepU E hU3 (by omega)
      have hz3 := hU3.size
      refine OPS.nil ?_
      change WP _ _ _ _ _ _
      refine W_region rfl ?_
      refine S_move rfl rfl rfl (v := (.int .u64 ((h + (((fineL la).getD i 0) * ((fineL lb).getD k 0))) + (ys.getD (i + k) 0)))) (rfl) ?_
      refine S_shr rfl rfl rfl rfl (rfl) (rfl) (by omega) (v := (((h + (((fineL la).getD i 0) * ((fineL lb).getD k 0))) + (ys.getD (i + k) 0)) / 4294967296)) (shr32 _) ?_
      refine S_assign rfl rfl rfl (v := (.int .u64 (((h + (((fineL la).getD i 0) * ((fineL lb).getD k 0))) + (ys.getD (i + k) 0)) / 4294967296))) (rfl) ?_
      refine OPS.nil ?_
      change WP _ _ _ _ _ _
      refine W_region rfl ?_
      refine S_move rfl rfl rfl (v := (.int .i64 (k : Int))) (s8) ?_
      refine S_add64 rfl rfl rfl rfl (rfl) (rfl) (by omega) ?_
      refine S_assign rfl rfl rfl (v := (.int .i64 ((k : Int) + 1))) (rfl) ?_
      refine OPS.nil ?_
      exact ⟨p - 1, by omega, k + 1, _, _, s0, s1, s5, s6, rfl, int_eq (by omega), by omega, ⟨by omega, by omega⟩, mul_step (by omega) hua hub huo hh rfl rfl (by omega) hval2, fun j hj => by rw [getD_set_ne' _ _ _ _ (by omega)]; exact hold j (by omega), by simpa using hyl, hyu.set _ (by omega) (by omega), b1, E⟩
    · skip
      have pF := hq28
      replace hq28 := of_decide_eq_false hq28
      have qF := hq28
      try rw [pF]
      refine W_exit ?_
      change WP _ _ _ _ _ _
      refine W_region rfl ?_
      have hkl : k = (fineL lb).length := by omega
      subst hkl
      have hz2 : ys.getD (i + (fineL lb).length) 0 = 0 := by rw [hold _ (by omega)]; exact hz _ (by omega)
      refine S_move rfl rfl rfl (v := (.slice (some ⟨g1, 0, none⟩) m m)) (s5) ?_
      refine S_move rfl rfl rfl (v := (.int .i64 (i : Int))) (s6) ?_
      refine S_move rfl rfl rfl (v := (if okL lb then vb else .slice none 0 0)) (s1) ?_
      refine S_len Tryz.underlying23 rfl rfl rfl (rfl) (m := (fineL lb).length) (hfb.len) ?_
      refine S_add64 rfl rfl rfl rfl (rfl) (rfl) (by omega) ?_
      refine S_move rfl rfl rfl (v := (.int .u64 h)) (s7) ?_
      refine S_conv Tryz.underlying124 Tryz.underlying106 rfl rfl rfl (rfl) (b := h) (wrap_u32 hh.1 hh.2) ?_
      refine S_idx Tryz.underlying23 ti_uint32 rfl rfl rfl rfl (rfl) (rfl) (j := (i + (fineL lb).length)) (ad := ⟨g1, (i + (fineL lb).length), none⟩) (SlAt.own1 (by omega)) (by omega) ?_
      refine S_storeN ti_uint32 rfl rfl rfl rfl (g := g1) (o := (i + (fineL lb).length)) (rfl) (a := h) (rfl) b1 (by omega) ?_
      intro w4 hU4 b1
      have E := Below.stepU E hU4 (by omega)
      have hz4 := hU4.size
      refine OPS.nil ?_
      change WP _ _ _ _ _ _
      refine W_region rfl ?_
      refine S_move rfl rfl rfl (v := (.int .i64 (i : Int))) (s6) ?_
      refine S_add64 rfl rfl rfl rfl (rfl) (rfl) (by omega) ?_
      refine S_assign rfl rfl rfl (v := (.int .i64 ((i : Int) + 1))) (rfl) ?_
      refine OPS.nil ?_
      exact ⟨q - 1, by omega, i + 1, _, s0, s1, s5, int_eq (by omega), by omega, mul_row (by omega) rfl hz2 hval hval2, fun j hj => by rw [getD_set_ne' _ _ _ _ (by omega), hold j (by omega)]; exact hz j (by omega), by simpa using hyl, hyu.set _ (by omega) (by omega), b1, E⟩
  · skip
    have pF := hq22
    replace hq22 := of_decide_eq_false hq22
    have qF := hq22
    try rw [pF]
    refine W_exit ?_
    change WP _ _ _ _ _ _
    refine W_seq ?_
    refine W_region rfl ?_
    refine S_move rfl rfl rfl (v := (.slice (some ⟨g1, 0, none⟩) m m)) (s5) ?_
    refine S_call en_assayerref01_trim rfl rfl rfl (vs := [(.slice (some ⟨g1, 0, none⟩) m m)]) (rfl) (ref01Trim_c _ _ xs (RN.ofNums (a := 0) (b := 0) b1 hxu hxl (by omega))) ?_
    rintro r _ ⟨⟨A, c', k', hv, hr, hk', ht⟩, rfl⟩
    refine S_assign rfl rfl rfl (v := r) (rfl) ?_
    refine OPS.nil ?_
    change WP _ _ _ _ _ _
    refine W_ret ?_
    change Fin' _ _ _ _ _ _
    refine End1 (n := ⟨71, []⟩) (t := 4) rfl (by decide) (v := r) (rfl) ?_
    have hi : i = (fineL la).length := by omega
    subst hi
    rw [List.take_length] at hval
    have := trim_on b1 (m := m) (c0 := m) (by rw [List.take_of_length_le (by rw [nums_len]; omega)]) (by rw [nums_len]; omega) hxu (B := w0.heap.size) (by omega) hxl (by omega) (Nat.le_refl _) hv hr hk' ht
    rw [hval] at this
    exact ⟨E, this⟩


theorem add_round2 {la lb xs : List Int} {i : Nat} {n v : Int} (hl : xs.length = i) (hv : v = n + la.getD i 0 + lb.getD i 0) (hx : 0 ≤ la.getD i 0) (hy : 0 ≤ lb.getD i 0) (hn : 0 ≤ n) (h : val xs + 4294967296 ^ i * n.toNat = val (la.take i) + val (lb.take i)) :
    val (xs ++ [v % 4294967296]) + 4294967296 ^ (i + 1) * (v / 4294967296).toNat = val (la.take (i + 1)) + val (lb.take (i + 1)) := by
  rw [val_append, val_step la, val_step lb, Nat.pow_succ, hl]
  have e : (v % 4294967296).toNat + 4294967296 * (v / 4294967296).toNat = (la.getD i 0).toNat + (lb.getD i 0).toNat + n.toNat := by omega
  have h2 := congrArg (4294967296 ^ i * ·) e
  simp only [Nat.mul_add, ← Nat.mul_assoc] at h2
  simp only [val, Nat.mul_zero, Nat.add_zero]
  generalize 4294967296 ^ i * (v % 4294967296).toNat = a1 at *
  generalize 4294967296 ^ i * 4294967296 * (v / 4294967296).toNat = a2 at *
  generalize 4294967296 ^ i * (la.getD i 0).toNat = a3 at *
  generalize 4294967296 ^ i * (lb.getD i 0).toNat = a4 at *
  generalize 4294967296 ^ i * n.toNat = a5 at *
  omega
theorem getD_out {l : List Int} {i : Nat} (h : ¬ (i : Int) < (l.length : Int)) : l.getD i 0 = 0 := by
  rw [List.getD_eq_getElem?_getD, List.getElem?_eq_none (by omega)]; rfl

set_option maxHeartbeats 400000 in
theorem ref01Add_c (w0 : World) (va vb : Value) (la lb : List Int) {a b a2 b2 : Nat} (ha : RN a b w0 va la) (hb : RN a2 b2 w0 vb lb) (hsa : la.length ≤ SZ) (hsb : lb.length ≤ SZ) :
    Ret Tryz.prog 96 [va, vb] w0 (fun r w1 => Below w0.heap.size w0 w1 ∧ ON w0.heap.size w1 r (dg (nv la + nv lb))) := by
  have E := Below.refl w0.heap.size w0
  have hfa := ha.fine
  have hfb := hb.fine
  have h1 := fineL_length la
  have h2 := fineL_length lb
  unfold SZ at hsa hsb
  refine Ret_of (n := 59) Tryz.func96 rfl rfl (Nat.le_of_ble_eq_true rfl) ?_
  refine W_seq ?_
  refine W_region rfl ?_
  refine S_assign rfl rfl rfl (v := (.slice none 0 0)) (rfl) ?_
  refine OPS.nil ?_
  change WP _ _ _ _ _ _
  refine W_seq ?_
  refine W_region rfl ?_
  refine S_move rfl rfl rfl (v := va) (rfl) ?_
  refine S_call en_assayerref01_fit rfl rfl rfl (vs := [va]) (rfl) (ref01Fit_c w0 va la ha) ?_
  rintro _ _ ⟨rfl, rfl⟩
  refine S_assign rfl rfl rfl (v := (if okL la then va else .slice none 0 0)) (rfl) ?_
  refine OPS.nil ?_
  change WP _ _ _ _ _ _
  refine W_seq ?_
  refine W_region rfl ?_
  refine S_move rfl rfl rfl (v := vb) (rfl) ?_
  refine S_call en_assayerref01_fit rfl rfl rfl (vs := [vb]) (rfl) (ref01Fit_c w0 vb lb hb) ?_
  rintro _ _ ⟨rfl, rfl⟩
  refine S_assign rfl rfl rfl (v := (if okL lb then vb else .slice none 0 0)) (rfl) ?_
  refine OPS.nil ?_
  change WP _ _ _ _ _ _
  refine W_seq ?_
  refine W_region rfl ?_
  refine S_assign rfl rfl rfl (v := (.slice none 0 0)) (rfl) ?_
  refine OPS.nil ?_
  change WP _ _ _ _ _ _
  refine W_seq ?_
  refine W_region rfl ?_
  refine S_assign rfl rfl rfl (v := (.int .u64 0)) (rfl) ?_
  refine OPS.nil ?_
  change WP _ _ _ _ _ _
  refine W_seq ?_
  refine W_seq ?_
  refine W_region rfl ?_
  refine S_assign rfl rfl rfl (v := (.int .i64 0)) (rfl) ?_
  refine OPS.nil ?_
  change WP _ _ _ _ _ _
  refine W_block ?_
  refine W_loop (fun q σ w => ∃ (i : Nat) (n : Int) (v : Value) (xs : List Int), σ 0 = (if okL la then va else .slice none 0 0) ∧ σ 1 = (if okL lb then vb else .slice none 0 0) ∧ σ 5 = v ∧ σ 6 = .int .u64 n ∧ σ 7 = .int .i64 (i : Int) ∧ i + q = max (fineL la).length (fineL lb).length + 1 ∧ (0 ≤ n ∧ n ≤ 1) ∧ (q = 0 → n = 0) ∧ xs.length = i ∧ U32 xs ∧
      val xs + 4294967296 ^ i * n.toNat = val ((fineL la).take i) + val ((fineL lb).take i) ∧ Row w0.heap.size 106 1 w v i (nums .u32 xs) ∧ Below w0.heap.size w0 w) (max (fineL la).length (fineL lb).length + 1) ⟨0, 0, _, [], rfl, rfl, rfl, rfl, rfl, by omega, ⟨by decide, by decide⟩, fun _ => rfl, rfl, U32.nil, rfl, Row.nil _ _ _ _, E⟩ ?_
  rintro q σ w ⟨i, n, v, xs, s0, s1, s5, s6, s7, hiq, hn, hq0, hxl, hxu, hval, RW, E⟩
  have hua := hfa.u32.getD i
  have hub := hfb.u32.getD i
  have hz0 := E.size
  refine W_seq ?_
  refine W_seq ?_
  refine W_region rfl ?_
  refine S_move rfl rfl rfl (v := (.int .i64 (i : Int))) (s7) ?_
  refine S_move rfl rfl rfl (v := (if okL la then va else .slice none 0 0)) (s0) ?_
  refine S_len Tryz.underlying23 rfl rfl rfl (rfl) (m := (fineL la).length) (hfa.len) ?_
  refine S_bin rfl rfl rfl rfl rfl (rfl) (rfl) (v := .bool (decide ((i : Int) < ((fineL la).length : Int)))) rfl ?_
  refine S_move rfl rfl rfl (v := (.bool (decide ((i : Int) < ((fineL la).length : Int))))) (rfl) ?_
  rcases Bool.eq_false_or_eq_true (decide ((i : Int) < ((fineL la).length : Int))) with pT | pF
  · skip
    rw [pT]
    have qT := of_decide_eq_true pT
    refine S_skip (d := 17) (op := .move _) (gd := some (4, false)) rfl (wg_off rfl (rfl) rfl) ?_
    refine S_skip (d := 18) (op := .move _) (gd := some (4, false)) rfl (wg_off rfl (rfl) rfl) ?_
    refine S_skip (d := 19) (op := .call _) (gd := some (4, false)) rfl (wg_off rfl (rfl) rfl) ?_
    refine S_skip (d := 20) (op := .binOp _ _ _ _ _) (gd := some (4, false)) rfl (wg_off rfl (rfl) rfl) ?_
    refine S_pick rfl rfl rfl rfl rfl (b := true) (rfl) (v := (.bool true)) (rfl) ?_
    refine S_move rfl rfl rfl (v := (.bool true)) (rfl) ?_
    refine S_skip (d := 23) (op := .move _) (gd := some (10, false)) rfl (wg_off rfl (rfl) rfl) ?_
    refine S_skip (d := 24) (op := .binOp _ _ _ _ _) (gd := some (10, false)) rfl (wg_off rfl (rfl) rfl) ?_
    refine S_pick rfl rfl rfl rfl rfl (b := true) (rfl) (v := (.bool true)) (rfl) ?_
    refine OPS.nil ?_
    change WP _ _ _ _ _ _
    refine W_cond rfl (b := true) (rfl) (fun _ => ?_) (fun h => (by cases h))
    refine W_skip ?_
    change WP _ _ _ _ _ _
    refine W_seq ?_
    refine W_block ?_
    refine W_seq ?_
    refine W_seq ?_
    refine W_region rfl ?_
    refine S_move rfl rfl rfl (v := (.int .i64 (i : Int))) (s7) ?_
    refine S_move rfl rfl rfl (v := (if okL la then va else .slice none 0 0)) (s0) ?_
    refine S_len Tryz.underlying23 rfl rfl rfl (rfl) (m := (fineL la).length) (hfa.len) ?_
    refine S_bin rfl rfl rfl rfl rfl (rfl) (rfl) (v := .bool true) (congrArg Value.bool pT) ?_
    refine OPS.nil ?_
    change WP _ _ _ _ _ _
    refine W_cond rfl (b := true) (rfl) (fun _ => ?_) (fun h => (by cases h))
    refine W_region rfl ?_
    refine S_move rfl rfl rfl (v := (.int .u64 n)) (s6) ?_
    refine S_move rfl rfl rfl (v := (if okL la then va else .slice none 0 0)) (s0) ?_
    refine S_move rfl rfl rfl (v := (.int .i64 (i : Int))) (s7) ?_
    obtain ⟨ad1, hp3, hc2⟩ := (hfa.below E).at i (by omega)
    refine S_idx Tryz.underlying23 ti_uint32 rfl rfl rfl rfl (rfl) (rfl) hp3 (by omega) ?_
    refine S_load rfl rfl rfl (rfl) (LD.one ti_uint32 hc2) ?_
    refine S_conv Tryz.underlying106 Tryz.underlying124 rfl rfl rfl (rfl) (b := ((fineL la).getD i 0)) (wrap_u64 hua.1 (by omega)) ?_
    refine S_bin rfl rfl rfl rfl rfl (rfl) (rfl) (v := .int .u64 (n + ((fineL la).getD i 0))) (congrArg _ (wrap_u64 (by omega) (by omega))) ?_
    refine S_assign rfl rfl rfl (v := (.int .u64 (n + ((fineL la).getD i 0)))) (rfl) ?_
    refine OPS.nil ?_
    change WP _ _ _ _ _ _
    refine W_seq ?_
    refine W_seq ?_
    refine W_region rfl ?_
    refine S_move rfl rfl rfl (v := (.int .i64 (i : Int))) (s7) ?_
    refine S_move rfl rfl rfl (v := (if okL lb then vb else .slice none 0 0)) (s1) ?_
    refine S_len Tryz.underlying23 rfl rfl rfl (rfl) (m := (fineL lb).length) (hfb.len) ?_
    refine S_bin rfl rfl rfl rfl rfl (rfl) (rfl) (v := .bool (decide ((i : Int) < ((fineL lb).length : Int)))) rfl ?_
    refine OPS.nil ?_
    change WP _ _ _ _ _ _
    refine W_cond rfl (rfl) (fun hq42 => ?_) (fun hq42 => ?_)
    · skip
      have pTT := hq42
      replace hq42 := of_decide_eq_true hq42
      have qTT := hq42
      try rw [pTT]
      refine W_region rfl ?_
      refine S_move rfl rfl rfl (v := (.int .u64 (n + ((fineL la).getD i 0)))) (rfl) ?_
      refine S_move rfl rfl rfl (v := (if okL lb then vb else .slice none 0 0)) (s1) ?_
      refine S_move rfl rfl rfl (v := (.int .i64 (i : Int))) (s7) ?_
      obtain ⟨ad4, hp6, hc5⟩ := (hfb.below E).at i (by omega)
      refine S_idx Tryz.underlying23 ti_uint32 rfl rfl rfl rfl (rfl) (rfl) hp6 (by omega) ?_
      refine S_load rfl rfl rfl (rfl) (LD.one ti_uint32 hc5) ?_
      refine S_conv Tryz.underlying106 Tryz.underlying124 rfl rfl rfl (rfl) (b := ((fineL lb).getD i 0)) (wrap_u64 hub.1 (by omega)) ?_
      refine S_bin rfl rfl rfl rfl rfl (rfl) (rfl) (v := .int .u64 ((n + ((fineL la).getD i 0)) + ((fineL lb).getD i 0))) (congrArg _ (wrap_u64 (by omega) (by omega))) ?_
      refine S_assign rfl rfl rfl (v := (.int .u64 ((n + ((fineL la).getD i 0)) + ((fineL lb).getD i 0)))) (rfl) ?_
      refine OPS.nil ?_
      change WP _ _ _ _ _ _
      refine W_seq ?_
      refine W_region rfl ?_
      refine S_move rfl rfl rfl (v := v) (s5) ?_
      refine S_move rfl rfl rfl (v := (.int .u64 ((n + ((fineL la).getD i 0)) + ((fineL lb).getD i 0)))) (rfl) ?_
      refine S_conv Tryz.underlying124 Tryz.underlying106 rfl rfl rfl (rfl) (b := (((n + ((fineL la).getD i 0)) + ((fineL lb).getD i 0)) % 4294967296)) (wrap_u32' _) ?_
      refine S_lit Tryz.underlying23 ti_uint32 rfl rfl (by decide) (by decide) rfl (vs := [(.int .u32 (((n + ((fineL la).getD i 0)) + ((fineL lb).getD i 0)) % 4294967296))]) (cs := [(.int .u32 (((n + ((fineL la).getD i 0)) + ((fineL lb).getD i 0)) % 4294967296))]) rfl rfl (by simp [Value.cells]) rfl ?_
      intro g1 w1 hg1 hs1 hB1 b1
      have hz1 := hB1.size
      have E := Below.step E hB1
      have RW := RW.below hB1
      replace b1 : Blk w1 g1 (nums .u32 [(((n + ((fineL la).getD i 0)) + ((fineL lb).getD i 0)) % 4294967296)]) 106 := b1
      refine S_appendR Tryz.underlying23 ti_uint32 rfl rfl rfl rfl rfl (v := v) (rfl) (rfl) RW (by decide) (news := nums .u32 [(((n + ((fineL la).getD i 0)) + ((fineL lb).getD i 0)) % 4294967296)]) rfl (fun j u hj => by rw [add_plain, b1.cell, Nat.zero_add]; exact hj) (one_nums _ _) (by omega) (by omega) (by omega) ?_
      intro v2 w2 RW2 hgr hbb _
      have E := Below.grownE E hgr (by omega) (fun g hg => (RW.bkB g hg).1)
      rw [nums_app] at RW2
      refine S_assign rfl rfl rfl (v := v2) (rfl) ?_
      refine OPS.nil ?_
      change WP _ _ _ _ _ _
      refine W_region rfl ?_
      refine S_move rfl rfl rfl (v := (.int .u64 ((n + ((fineL la).getD i 0)) + ((fineL lb).getD i 0)))) (rfl) ?_
      refine S_shr rfl rfl rfl rfl (rfl) (rfl) (by omega) (v := (((n + ((fineL la).getD i 0)) + ((fineL lb).getD i 0)) / 4294967296)) (shr32 _) ?_
      refine S_assign rfl rfl rfl (v := (.int .u64 (((n + ((fineL la).getD i 0)) + ((fineL lb).getD i 0)) / 4294967296))) (rfl) ?_
      refine OPS.nil ?_
      change WP _ _ _ _ _ _
      refine W_region rfl ?_
      refine S_move rfl rfl rfl (v := (.int .i64 (i : Int))) (s7) ?_
      refine S_add64 rfl rfl rfl rfl (rfl) (rfl) (by omega) ?_
      refine S_assign rfl rfl rfl (v := (.int .i64 ((i : Int) + 1))) (rfl) ?_
      refine OPS.nil ?_
      have hvv : ((n + ((fineL la).getD i 0)) + ((fineL lb).getD i 0)) = n + (fineL la).getD i 0 + (fineL lb).getD i 0 := by omega
      exact ⟨q - 1, by omega, i + 1, _, _, _, s0, s1, rfl, rfl, int_eq (by omega), by omega, ⟨by omega, by omega⟩, fun h => by omega, by rw [List.length_append, hxl]; rfl, hxu.append (U32.mk (by omega) (by omega) U32.nil), add_round2 hxl hvv hua.1 hub.1 hn.1 hval, RW2, E⟩
    · skip
      have pTF := hq42
      replace hq42 := of_decide_eq_false hq42
      have qTF := hq42
      try rw [pTF]
      refine W_skip ?_
      change WP _ _ _ _ _ _
      refine W_seq ?_
      refine W_region rfl ?_
      refine S_move rfl rfl rfl (v := v) (s5) ?_
      refine S_move rfl rfl rfl (v := (.int .u64 (n + ((fineL la).getD i 0)))) (rfl) ?_
      refine S_conv Tryz.underlying124 Tryz.underlying106 rfl rfl rfl (rfl) (b := ((n + ((fineL la).getD i 0)) % 4294967296)) (wrap_u32' _) ?_
      refine S_lit Tryz.underlying23 ti_uint32 rfl rfl (by decide) (by decide) rfl (vs := [(.int .u32 ((n + ((fineL la).getD i 0)) % 4294967296))]) (cs := [(.int .u32 ((n + ((fineL la).getD i 0)) % 4294967296))]) rfl rfl (by simp [Value.cells]) rfl ?_
      intro g3 w3 hg3 hs3 hB3 b3
      have hz3 := hB3.size
      have E := Below.step E hB3
      have RW := RW.below hB3
      replace b3 : Blk w3 g3 (nums .u32 [((n + ((fineL la).getD i 0)) % 4294967296)]) 106 := b3
      refine S_appendR Tryz.underlying23 ti_uint32 rfl rfl rfl rfl rfl (v := v) (rfl) (rfl) RW (by decide) (news := nums .u32 [((n + ((fineL la).getD i 0)) % 4294967296)]) rfl (fun j u hj => by rw [add_plain, b3.cell, Nat.zero_add]; exact hj) (one_nums _ _) (by omega) (by omega) (by omega) ?_
      intro v2 w4 RW2 hgr hbb _
      have E := Below.grownE E hgr (by omega) (fun g hg => (RW.bkB g hg).1)
      rw [nums_app] at RW2
      refine S_assign rfl rfl rfl (v := v2) (rfl) ?_
      refine OPS.nil ?_
      change WP _ _ _ _ _ _
      refine W_region rfl ?_
      refine S_move rfl rfl rfl (v := (.int .u64 (n + ((fineL la).getD i 0)))) (rfl) ?_
      refine S_shr rfl rfl rfl rfl (rfl) (rfl) (by omega) (v := ((n + ((fineL la).getD i 0)) / 4294967296)) (shr32 _) ?_
      refine S_assign rfl rfl rfl (v := (.int .u64 ((n + ((fineL la).getD i 0)) / 4294967296))) (rfl) ?_
      refine OPS.nil ?_
      change WP _ _ _ _ _ _
      refine W_region rfl ?_
      refine S_move rfl rfl rfl (v := (.int .i64 (i : Int))) (s7) ?_
      refine S_add64 rfl rfl rfl rfl (rfl) (rfl) (by omega) ?_
      refine S_assign rfl rfl rfl (v := (.int .i64 ((i : Int) + 1))) (rfl) ?_
      refine OPS.nil ?_
      have hzb : (fineL lb).getD i 0 = 0 := getD_out (of_decide_eq_false pTF)
      have hvv : (n + ((fineL la).getD i 0)) = n + (fineL la).getD i 0 + (fineL lb).getD i 0 := by omega
      exact ⟨q - 1, by omega, i + 1, _, _, _, s0, s1, rfl, rfl, int_eq (by omega), by omega, ⟨by omega, by omega⟩, fun h => by omega, by rw [List.length_append, hxl]; rfl, hxu.append (U32.mk (by omega) (by omega) U32.nil), add_round2 hxl hvv hua.1 hub.1 hn.1 hval, RW2, E⟩
  · skip
    rw [pF]
    have qF := of_decide_eq_false pF
    refine S_move rfl rfl rfl (v := (.int .i64 (i : Int))) (s7) ?_
    refine S_move rfl rfl rfl (v := (if okL lb then vb else .slice none 0 0)) (s1) ?_
    refine S_len Tryz.underlying23 rfl rfl rfl (rfl) (m := (fineL lb).length) (hfb.len) ?_
    refine S_bin rfl rfl rfl rfl rfl (rfl) (rfl) (v := .bool (decide ((i : Int) < ((fineL lb).length : Int)))) rfl ?_
    refine S_pick rfl rfl rfl rfl rfl (b := false) (rfl) (v := (.bool (decide ((i : Int) < ((fineL lb).length : Int))))) (rfl) ?_
    refine S_move rfl rfl rfl (v := (.bool (decide ((i : Int) < ((fineL lb).length : Int))))) (rfl) ?_
    rcases Bool.eq_false_or_eq_true (decide ((i : Int) < ((fineL lb).length : Int))) with pFT | pFF
    · skip
      rw [pFT]
      have qFT := of_decide_eq_true pFT
      refine S_skip (d := 23) (op := .move _) (gd := some (10, false)) rfl (wg_off rfl (rfl) rfl) ?_
      refine S_skip (d := 24) (op := .binOp _ _ _ _ _) (gd := some (10, false)) rfl (wg_off rfl (rfl) rfl) ?_
      refine S_pick rfl rfl rfl rfl rfl (b := true) (rfl) (v := (.bool true)) (rfl) ?_
      refine OPS.nil ?_
      change WP _ _ _ _ _ _
      refine W_cond rfl (b := true) (rfl) (fun _ => ?_) (fun h => (by cases h))
      refine W_skip ?_
      change WP _ _ _ _ _ _
      refine W_seq ?_
      refine W_block ?_
      refine W_seq ?_
      refine W_seq ?_
      refine W_region rfl ?_
      refine S_move rfl rfl rfl (v := (.int .i64 (i : Int))) (s7) ?_
      refine S_move rfl rfl rfl (v := (if okL la then va else .slice none 0 0)) (s0) ?_
      refine S_len Tryz.underlying23 rfl rfl rfl (rfl) (m := (fineL la).length) (hfa.len) ?_
      refine S_bin rfl rfl rfl rfl rfl (rfl) (rfl) (v := .bool false) (congrArg Value.bool pF) ?_
      refine OPS.nil ?_
      change WP _ _ _ _ _ _
      refine W_cond rfl (b := false) (rfl) (fun h => (by cases h)) (fun _ => ?_)
      refine W_skip ?_
      change WP _ _ _ _ _ _
      refine W_seq ?_
      refine W_seq ?_
      refine W_region rfl ?_
      refine S_move rfl rfl rfl (v := (.int .i64 (i : Int))) (s7) ?_
      refine S_move rfl rfl rfl (v := (if okL lb then vb else .slice none 0 0)) (s1) ?_
      refine S_len Tryz.underlying23 rfl rfl rfl (rfl) (m := (fineL lb).length) (hfb.len) ?_
      refine S_bin rfl rfl rfl rfl rfl (rfl) (rfl) (v := .bool true) (congrArg Value.bool pFT) ?_
      refine OPS.nil ?_
      change WP _ _ _ _ _ _
      refine W_cond rfl (b := true) (rfl) (fun _ => ?_) (fun h => (by cases h))
      refine W_region rfl ?_
      refine S_move rfl rfl rfl (v := (.int .u64 n)) (s6) ?_
      refine S_move rfl rfl rfl (v := (if okL lb then vb else .slice none 0 0)) (s1) ?_
      refine S_move rfl rfl rfl (v := (.int .i64 (i : Int))) (s7) ?_
      obtain ⟨ad7, hp9, hc8⟩ := (hfb.below E).at i (by omega)
      refine S_idx Tryz.underlying23 ti_uint32 rfl rfl rfl rfl (rfl) (rfl) hp9 (by omega) ?_
      refine S_load rfl rfl rfl (rfl) (LD.one ti_uint32 hc8) ?_
      refine S_conv Tryz.underlying106 Tryz.underlying124 rfl rfl rfl (rfl) (b := ((fineL lb).getD i 0)) (wrap_u64 hub.1 (by omega)) ?_
      refine S_bin rfl rfl rfl rfl rfl (rfl) (rfl) (v := .int .u64 (n + ((fineL lb).getD i 0))) (congrArg _ (wrap_u64 (by omega) (by omega))) ?_
      refine S_assign rfl rfl rfl (v := (.int .u64 (n + ((fineL lb).getD i 0)))) (rfl) ?_
      refine OPS.nil ?_
      change WP _ _ _ _ _ _
      refine W_seq ?_
      refine W_region rfl ?_
      refine S_move rfl rfl rfl (v := v) (s5) ?_
      refine S_move rfl rfl rfl (v := (.int .u64 (n + ((fineL lb).getD i 0)))) (rfl) ?_
      refine S_conv Tryz.underlying124 Tryz.underlying106 rfl rfl rfl (rfl) (b := ((n + ((fineL lb).getD i 0)) % 4294967296)) (wrap_u32' _) ?_
      refine S_lit Tryz.underlying23 ti_uint32 rfl rfl (by decide) (by decide) rfl (vs := [(.int .u32 ((n + ((fineL lb).getD i 0)) % 4294967296))]) (cs := [(.int .u32 ((n + ((fineL lb).getD i 0)) % 4294967296))]) rfl rfl (by simp [Value.cells]) rfl ?_
      intro g5 w5 hg5 hs5 hB5 b5
      have hz5 := hB5.size
      have E := Below.step E hB5
      have RW := RW.below hB5
      replace b5 : Blk w5 g5 (nums .u32 [((n + ((fineL lb).getD i 0)) % 4294967296)]) 106 := b5
      refine S_appendR Tryz.underlying23 ti_uint32 rfl rfl rfl rfl rfl (v := v) (rfl) (rfl) RW (by decide) (news := nums .u32 [((n + ((fineL lb).getD i 0)) % 4294967296)]) rfl (fun j u hj => by rw [add_plain, b5.cell, Nat.zero_add]; exact hj) (one_nums _ _) (by omega) (by omega) (by omega) ?_
      intro v2 w6 RW2 hgr hbb _
      have E := Below.grownE E hgr (by omega) (fun g hg => (RW.bkB g hg).1)
      rw [nums_app] at RW2
      refine S_assign rfl rfl rfl (v := v2) (rfl) ?_
      refine OPS.nil ?_
      change WP _ _ _ _ _ _
      refine W_region rfl ?_
      refine S_move rfl rfl rfl (v := (.int .u64 (n + ((fineL lb).getD i 0)))) (rfl) ?_
      refine S_shr rfl rfl rfl rfl (rfl) (rfl) (by omega) (v := ((n + ((fineL lb).getD i 0)) / 4294967296)) (shr32 _) ?_
      refine S_assign rfl rfl rfl (v := (.int .u64 ((n + ((fineL lb).getD i 0)) / 4294967296))) (rfl) ?_
      refine OPS.nil ?_
      change WP _ _ _ _ _ _
      refine W_region rfl ?_
      refine S_move rfl rfl rfl (v := (.int .i64 (i : Int))) (s7) ?_
      refine S_add64 rfl rfl rfl rfl (rfl) (rfl) (by omega) ?_
      refine S_assign rfl rfl rfl (v := (.int .i64 ((i : Int) + 1))) (rfl) ?_
      refine OPS.nil ?_
      have hza : (fineL la).getD i 0 = 0 := getD_out (of_decide_eq_false pF)
      have hvv : (n + ((fineL lb).getD i 0)) = n + (fineL la).getD i 0 + (fineL lb).getD i 0 := by omega
      exact ⟨q - 1, by omega, i + 1, _, _, _, s0, s1, rfl, rfl, int_eq (by omega), by omega, ⟨by omega, by omega⟩, fun h => by omega, by rw [List.length_append, hxl]; rfl, hxu.append (U32.mk (by omega) (by omega) U32.nil), add_round2 hxl hvv hua.1 hub.1 hn.1 hval, RW2, E⟩
    · skip
      rw [pFF]
      have qFF := of_decide_eq_false pFF
      refine S_move rfl rfl rfl (v := (.int .u64 n)) (s6) ?_
      refine S_bin rfl rfl rfl rfl rfl (rfl) (rfl) (v := .bool (decide (n > 0))) rfl ?_
      refine S_pick rfl rfl rfl rfl rfl (b := false) (rfl) (v := (.bool (decide (n > 0)))) (rfl) ?_
      refine OPS.nil ?_
      change WP _ _ _ _ _ _
      refine W_cond rfl (rfl) (fun hq25 => ?_) (fun hq25 => ?_)
      · skip
        have pFFT := hq25
        replace hq25 := of_decide_eq_true hq25
        have qFFT := hq25
        try rw [pFFT]
        refine W_skip ?_
        change WP _ _ _ _ _ _
        refine W_seq ?_
        refine W_block ?_
        refine W_seq ?_
        refine W_seq ?_
        refine W_region rfl ?_
        refine S_move rfl rfl rfl (v := (.int .i64 (i : Int))) (s7) ?_
        refine S_move rfl rfl rfl (v := (if okL la then va else .slice none 0 0)) (s0) ?_
        refine S_len Tryz.underlying23 rfl rfl rfl (rfl) (m := (fineL la).length) (hfa.len) ?_
        refine S_bin rfl rfl rfl rfl rfl (rfl) (rfl) (v := .bool false) (congrArg Value.bool pF) ?_
        refine OPS.nil ?_
        change WP _ _ _ _ _ _
        refine W_cond rfl (b := false) (rfl) (fun h => (by cases h)) (fun _ => ?_)
        refine W_skip ?_
        change WP _ _ _ _ _ _
        refine W_seq ?_
        refine W_seq ?_
        refine W_region rfl ?_
        refine S_move rfl rfl rfl (v := (.int .i64 (i : Int))) (s7) ?_
        refine S_move rfl rfl rfl (v := (if okL lb then vb else .slice none 0 0)) (s1) ?_
        refine S_len Tryz.underlying23 rfl rfl rfl (rfl) (m := (fineL lb).length) (hfb.len) ?_
        refine S_bin rfl rfl rfl rfl rfl (rfl) (rfl) (v := .bool false) (congrArg Value.bool pFF) ?_
        refine OPS.nil ?_
        change WP _ _ _ _ _ _
        refine W_cond rfl (b := false) (rfl) (fun h => (by cases h)) (fun _ => ?_)
        refine W_skip ?_
        change WP _ _ _ _ _ _
        refine W_seq ?_
        refine W_region rfl ?_
        refine S_move rfl rfl rfl (v := v) (s5) ?_
        refine S_move rfl rfl rfl (v := (.int .u64 n)) (s6) ?_
        refine S_conv Tryz.underlying124 Tryz.underlying106 rfl rfl rfl (rfl) (b := (n % 4294967296)) (wrap_u32' _) ?_
        refine S_lit Tryz.underlying23 ti_uint32 rfl rfl (by decide) (by decide) rfl (vs := [(.int .u32 (n % 4294967296))]) (cs := [(.int .u32 (n % 4294967296))]) rfl rfl (by simp [Value.cells]) rfl ?_
        intro g7 w7 hg7 hs7 hB7 b7
        have hz7 := hB7.size
        have E := Below.step E hB7
        have RW := RW.below hB7
        replace b7 : Blk w7 g7 (nums .u32 [(n % 4294967296)]) 106 := b7
        refine S_appendR Tryz.underlying23 ti_uint32 rfl rfl rfl rfl rfl (v := v) (rfl) (rfl) RW (by decide) (news := nums .u32 [(n % 4294967296)]) rfl (fun j u hj => by rw [add_plain, b7.cell, Nat.zero_add]; exact hj) (one_nums _ _) (by omega) (by omega) (by omega) ?_
        intro v2 w8 RW2 hgr hbb _
        have E := Below.grownE E hgr (by omega) (fun g hg => (RW.bkB g hg).1)
        rw [nums_app] at RW2
        refine S_assign rfl rfl rfl (v := v2) (rfl) ?_
        refine OPS.nil ?_
        change WP _ _ _ _ _ _
        refine W_region rfl ?_
        refine S_move rfl rfl rfl (v := (.int .u64 n)) (s6) ?_
        refine S_shr rfl rfl rfl rfl (rfl) (rfl) (by omega) (v := (n / 4294967296)) (shr32 _) ?_
        refine S_assign rfl rfl rfl (v := (.int .u64 (n / 4294967296))) (rfl) ?_
        refine OPS.nil ?_
        change WP _ _ _ _ _ _
        refine W_region rfl ?_
        refine S_move rfl rfl rfl (v := (.int .i64 (i : Int))) (s7) ?_
        refine S_add64 rfl rfl rfl rfl (rfl) (rfl) (by omega) ?_
        refine S_assign rfl rfl rfl (v := (.int .i64 ((i : Int) + 1))) (rfl) ?_
        refine OPS.nil ?_
        have hza : (fineL la).getD i 0 = 0 := getD_out (of_decide_eq_false pF)
        have hzb : (fineL lb).getD i 0 = 0 := getD_out (of_decide_eq_false pFF)
        have hvv : n = n + (fineL la).getD i 0 + (fineL lb).getD i 0 := by omega
        exact ⟨q - 1, by omega, i + 1, _, _, _, s0, s1, rfl, rfl, int_eq (by omega), by omega, ⟨by omega, by omega⟩, fun h => by omega, by rw [List.length_append, hxl]; rfl, hxu.append (U32.mk (by omega) (by omega) U32.nil), add_round2 hxl hvv hua.1 hub.1 hn.1 hval, RW2, E⟩
      · skip
        have pFFF := hq25
        replace hq25 := of_decide_eq_false hq25
        have qFFF := hq25
        try rw [pFFF]
        refine W_exit ?_
        change WP _ _ _ _ _ _
        refine W_seq ?_
        refine W_region rfl ?_
        refine S_move rfl rfl rfl (v := v) (s5) ?_
        refine S_call en_assayerref01_trim rfl rfl rfl (vs := [v]) (rfl) (ref01Trim_c _ _ xs (RW.on hxu).r) ?_
        rintro r _ ⟨⟨A, c', k', hv, hr, hk', ht⟩, rfl⟩
        refine S_assign rfl rfl rfl (v := r) (rfl) ?_
        refine OPS.nil ?_
        change WP _ _ _ _ _ _
        refine W_ret ?_
        change Fin' _ _ _ _ _ _
        refine End1 (n := ⟨59, []⟩) (t := 4) rfl (by decide) (v := r) (rfl) ?_
        have e1 : (fineL la).take i = fineL la := List.take_of_length_le (by omega)
        have e2 : (fineL lb).take i = fineL lb := List.take_of_length_le (by omega)
        have e3 : n = 0 := by omega
        rw [e1, e2, e3] at hval
        have h9 := RW.on hxu
        rw [hv] at h9
        subst hr
        have := h9.prefix_ hk'
        rw [ht, show val xs = nv la + nv lb from by unfold nv; simpa using hval] at this
        exact ⟨E, this⟩

end Go.Proofs.YtccmicegihlfbaaGreatDoor
