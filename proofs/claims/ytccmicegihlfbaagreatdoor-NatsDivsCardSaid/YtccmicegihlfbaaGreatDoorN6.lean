/- Numbers from 0 on: products. -/
import Derived.Test.YtccmicegihlfbaaGreatDoorN5
import Derived.Test.YtccmicegihlfbaaGreatDoorTy
set_option linter.unusedVariables false
set_option linter.unusedSimpArgs false
namespace Go.Proofs.YtccmicegihlfbaaGreatDoor
open Go.RowKit


theorem rep_getD (m j : Nat) : (List.replicate m (0 : Int)).getD j 0 = 0 := by
  rw [List.getD_eq_getElem?_getD]
  by_cases h : j < m
  · simp [h]
  · rw [List.getElem?_eq_none (by simpa using h)]; rfl
/-- One part more of a row of the product. -/
theorem mul_step {xs0 xs lb : List Int} {i k : Nat} {x y h old v0 : Int} (hj : i + k < xs.length) (hx : 0 ≤ x ∧ x < 4294967296) (hy : 0 ≤ y ∧ y < 4294967296) (ho : 0 ≤ old ∧ old < 4294967296) (hh : 0 ≤ h ∧ h < 4294967296)
    (ey : lb.getD k 0 = y) (eo : xs.getD (i + k) 0 = old) (hv : v0 = h + (x * y + old))
    (hval : val xs + 4294967296 ^ (i + k) * h.toNat = val xs0 + 4294967296 ^ i * (x.toNat * val (lb.take k))) :
    val (xs.set (i + k) (v0 % 4294967296)) + 4294967296 ^ (i + (k + 1)) * (v0 / 4294967296).toNat = val xs0 + 4294967296 ^ i * (x.toNat * val (lb.take (k + 1))) := by
  have h1 := val_set xs (i + k) (v0 % 4294967296) hj
  rw [eo] at h1
  have hxy : 0 ≤ x * y := Int.mul_nonneg hx.1 hy.1
  have e : (v0 % 4294967296).toNat + 4294967296 * (v0 / 4294967296).toNat = h.toNat + x.toNat * y.toNat + old.toNat := by
    rw [← Int.toNat_mul hx.1 hy.1]
    omega
  rw [val_step lb, ey, Nat.mul_add, Nat.mul_add, show i + (k + 1) = (i + k) + 1 from rfl, Nat.pow_succ]
  have e2 : 4294967296 ^ i * (x.toNat * (4294967296 ^ k * y.toNat)) = 4294967296 ^ (i + k) * (x.toNat * y.toNat) := by
    rw [Nat.pow_add]
    simp only [Nat.mul_assoc, Nat.mul_left_comm, Nat.mul_comm]
  rw [e2]
  generalize 4294967296 ^ i * (x.toNat * val (lb.take k)) = T at *
  generalize 4294967296 ^ (i + k) = B at *
  generalize (v0 % 4294967296).toNat = p at *
  generalize (v0 / 4294967296).toNat = q at *
  have : B * p + B * 4294967296 * q = B * h.toNat + B * (x.toNat * y.toNat) + B * old.toNat := by
    rw [Nat.mul_assoc, ← Nat.mul_add, e, Nat.mul_add, Nat.mul_add]
  omega
theorem mul_row {xs0 xs la lb : List Int} {i : Nat} {x h : Int} (hj : i + lb.length < xs.length) (ex : la.getD i 0 = x) (hz : xs.getD (i + lb.length) 0 = 0)
    (h0 : val xs0 = val (la.take i) * val lb)
    (hval : val xs + 4294967296 ^ (i + lb.length) * h.toNat = val xs0 + 4294967296 ^ i * (x.toNat * val (lb.take lb.length))) :
    val (xs.set (i + lb.length) h) = val (la.take (i + 1)) * val lb := by
  have h1 := val_set xs (i + lb.length) h hj
  rw [hz] at h1
  rw [val_step la, ex, Nat.add_mul, ← h0]
  rw [List.take_length] at hval
  rw [Nat.mul_assoc]
  simp only [Int.toNat_zero, Nat.mul_zero, Nat.add_zero] at h1
  omega
theorem mul_lt {x y : Int} (hx : 0 ≤ x ∧ x < 4294967296) (hy : 0 ≤ y ∧ y < 4294967296) : 0 ≤ x * y ∧ x * y ≤ 18446744065119617025 := by
  refine ⟨Int.mul_nonneg hx.1 hy.1, ?_⟩
  have := Int.mul_le_mul (a := x) (b := y) (c := 4294967295) (d := 4294967295) (by omega) (by omega) hy.1 (by decide)
  omega

set_option maxHeartbeats 400000 in
theorem natsMul_c (w0 : World) (va vb : Value) (la lb : List Int) {a b a2 b2 : Nat} (ha : RN a b w0 va la) (hb : RN a2 b2 w0 vb lb) (hsa : la.length ≤ SZ) (hsb : lb.length ≤ SZ) :
    Ret Tryz.prog 90 [va, vb] w0 (fun r w1 => Below w0.heap.size w0 w1 ∧ ON w0.heap.size w1 r (dg (nv la * nv lb))) := by
  have E := Below.refl w0.heap.size w0
  have hfa := ha.fine
  have hfb := hb.fine
  have h1 := fineL_length la
  have h2 := fineL_length lb
  unfold SZ at hsa hsb
  refine Ret_of (n := 71) Tryz.func90 rfl rfl (Nat.le_of_ble_eq_true rfl) ?_
  refine W_seq ?_
  refine W_region rfl ?_
  refine S_assign rfl rfl rfl (v := (.slice none 0 0)) (rfl) ?_
  refine OPS.nil ?_
  change WP _ _ _ _ _ _
  refine W_seq ?_
  refine W_region rfl ?_
  refine S_move rfl rfl rfl (v := va) (rfl) ?_
  refine S_call en_nats_fine rfl rfl rfl (vs := [va]) (rfl) (natsFine_c w0 va la ha) ?_
  rintro _ _ ⟨rfl, rfl⟩
  refine S_move rfl rfl rfl (v := vb) (rfl) ?_
  refine S_call en_nats_fine rfl rfl rfl (vs := [vb]) (rfl) (natsFine_c w0 vb lb hb) ?_
  rintro _ _ ⟨rfl, rfl⟩
  refine S_assign rfl rfl rfl (v := (if okL la then va else .slice none 0 0)) (rfl) ?_
  refine S_assign rfl rfl rfl (v := (if okL lb then vb else .slice none 0 0)) (rfl) ?_
  refine OPS.nil ?_
  change WP _ _ _ _ _ _
  refine W_seq ?_
  refine W_region rfl ?_
  refine S_move rfl rfl rfl (v := (if okL la then va else .slice none 0 0)) (rfl) ?_
  refine S_len Tryz.underlying23 rfl rfl rfl (rfl) (m := (fineL la).length) (hfa.len) ?_
  refine S_move rfl rfl rfl (v := (if okL lb then vb else .slice none 0 0)) (rfl) ?_
  refine S_len Tryz.underlying23 rfl rfl rfl (rfl) (m := (fineL lb).length) (hfb.len) ?_
  refine S_add64 rfl rfl rfl rfl (rfl) (rfl) (by omega) ?_
  refine S_make Tryz.underlying23 ti_uint32 rfl rfl rfl rfl (rfl) (m := (fineL la).length + (fineL lb).length) (by omega) (by omega) (by omega) ?_
  intro g1 w1 hg1 hs1 hB1 b1
  rw [nums_rep] at b1
  have hz1 := hB1.size
  have E := Below.step E hB1
  refine S_assign rfl rfl rfl (v := (.slice (some ⟨g1, 0, none⟩) ((fineL la).length + (fineL lb).length) ((fineL la).length + (fineL lb).length))) (rfl) ?_
  refine OPS.nil ?_
  change WP _ _ _ _ _ _
  refine W_seq ?_
  refine W_seq ?_
  refine W_region rfl ?_
  obtain ⟨m, hmm⟩ : ∃ m, m = (fineL la).length + (fineL lb).length := ⟨_, rfl⟩
  refine S_move rfl rfl rfl (v := (if okL la then va else .slice none 0 0)) (rfl) ?_
  refine S_len Tryz.underlying23 rfl rfl rfl (rfl) (m := (fineL la).length) (hfa.len) ?_
  refine S_move rfl rfl rfl (v := (.int .i64 0)) (rfl) ?_
  refine OPS.nil ?_
  change WP _ _ _ _ _ _
  refine W_block ?_
  refine W_loop (fun q σ w => ∃ (i : Nat) (xs : List Int), σ 0 = (if okL la then va else .slice none 0 0) ∧ σ 1 = (if okL lb then vb else .slice none 0 0) ∧ σ 5 = .slice (some ⟨g1, 0, none⟩) m m ∧ σ 21 = (if okL la then va else .slice none 0 0) ∧ σ 22 = .int .i64 ((fineL la).length : Int) ∧ σ 23 = .int .i64 (i : Int) ∧ i + q = (fineL la).length ∧ val xs = val ((fineL la).take i) * val (fineL lb) ∧ (∀ j, i + (fineL lb).length ≤ j → xs.getD j 0 = 0) ∧ xs.length = m ∧ U32 xs ∧ Blk w g1 (nums .u32 xs) 106 ∧ Below w0.heap.size w0 w) ((fineL la).length) ⟨0, List.replicate m 0, rfl, rfl, by rw [hmm]; rfl, rfl, rfl, rfl, by omega, by rw [val_zeros]; simp [val], fun j _ => rep_getD m j, by simp, U32.replicate m, by rw [hmm]; exact b1, E⟩ ?_
  rintro q σ w ⟨i, xs, s0, s1, s5, s21, s22, s23, hiq, hval, hz, hxl, hxu, b1, E⟩
  have hua := hfa.u32.getD i
  refine W_seq ?_
  refine W_region rfl ?_
  refine S_bin rfl rfl rfl rfl rfl (s23) (s22) rfl ?_
  refine OPS.nil ?_
  change WP _ _ _ _ _ _
  refine W_seq ?_
  refine W_cond rfl (rfl) (fun hq24 => ?_) (fun hq24 => ?_)
  · skip
    replace hq24 := of_decide_eq_true hq24
    refine W_skip ?_
    change WP _ _ _ _ _ _
    refine W_seq ?_
    refine W_block ?_
    refine W_seq ?_
    refine W_region rfl ?_
    refine S_move rfl rfl rfl (v := (.int .i64 (i : Int))) (s23) ?_
    obtain ⟨ad1, hp3, hc2⟩ := (hfa.below E).at i (by omega)
    refine S_idx Tryz.underlying23 ti_uint32 rfl rfl rfl rfl (s21) (s23) hp3 (by omega) ?_
    refine S_load rfl rfl rfl (rfl) (LD.one ti_uint32 hc2) ?_
    refine S_assign rfl rfl rfl (v := (.int .i64 (i : Int))) (rfl) ?_
    refine S_assign rfl rfl rfl (v := (.int .u32 ((fineL la).getD i 0))) (rfl) ?_
    refine OPS.nil ?_
    change WP _ _ _ _ _ _
    refine W_seq ?_
    refine W_region rfl ?_
    refine S_assign rfl rfl rfl (v := (.int .u64 0)) (rfl) ?_
    refine OPS.nil ?_
    change WP _ _ _ _ _ _
    refine W_seq ?_
    refine W_seq ?_
    refine W_region rfl ?_
    refine S_move rfl rfl rfl (v := (if okL lb then vb else .slice none 0 0)) (s1) ?_
    refine S_len Tryz.underlying23 rfl rfl rfl (rfl) (m := (fineL lb).length) (hfb.len) ?_
    refine S_move rfl rfl rfl (v := (.int .i64 0)) (rfl) ?_
    refine OPS.nil ?_
    change WP _ _ _ _ _ _
    refine W_block ?_
    refine W_loop (fun p σ w => ∃ (k : Nat) (h : Int) (ys : List Int), σ 0 = (if okL la then va else .slice none 0 0) ∧ σ 1 = (if okL lb then vb else .slice none 0 0) ∧ σ 5 = .slice (some ⟨g1, 0, none⟩) m m ∧ σ 6 = .int .i64 (i : Int) ∧ σ 7 = .int .u32 ((fineL la).getD i 0) ∧ σ 8 = .int .u64 h ∧ σ 21 = (if okL la then va else .slice none 0 0) ∧ σ 22 = .int .i64 ((fineL la).length : Int) ∧ σ 23 = .int .i64 (i : Int) ∧ σ 28 = (if okL lb then vb else .slice none 0 0) ∧ σ 29 = .int .i64 ((fineL lb).length : Int) ∧ σ 30 = .int .i64 (k : Int) ∧ k + p = (fineL lb).length ∧ (0 ≤ h ∧ h < 4294967296) ∧
      val ys + 4294967296 ^ (i + k) * h.toNat = val xs + 4294967296 ^ i * (((fineL la).getD i 0).toNat * val ((fineL lb).take k)) ∧ (∀ j, i + k ≤ j → ys.getD j 0 = xs.getD j 0) ∧ ys.length = m ∧ U32 ys ∧ Blk w g1 (nums .u32 ys) 106 ∧ Below w0.heap.size w0 w) ((fineL lb).length) ⟨0, 0, xs, s0, s1, s5, rfl, rfl, rfl, s21, s22, s23, rfl, rfl, rfl, by omega, ⟨by decide, by decide⟩, by simp [val], fun _ _ => rfl, hxl, hxu, b1, E⟩ ?_
    rintro p σ w ⟨k, h, ys, s0, s1, s5, s6, s7, s8, s21, s22, s23, s28, s29, s30, hkp, hh, hval2, hold, hyl, hyu, b1, E⟩
    have hub := hfb.u32.getD k
    have huo := hyu.getD (i + k)
    have hml := mul_lt hua hub
    refine W_seq ?_
    refine W_region rfl ?_
    refine S_bin rfl rfl rfl rfl rfl (s30) (s29) rfl ?_
    refine OPS.nil ?_
    change WP _ _ _ _ _ _
    refine W_seq ?_
    refine W_cond rfl (rfl) (fun hq31 => ?_) (fun hq31 => ?_)
    · skip
      replace hq31 := of_decide_eq_true hq31
      refine W_skip ?_
      change WP _ _ _ _ _ _
      refine W_seq ?_
      refine W_block ?_
      refine W_seq ?_
      refine W_region rfl ?_
      refine S_move rfl rfl rfl (v := (.int .i64 (k : Int))) (s30) ?_
      obtain ⟨ad4, hp6, hc5⟩ := (hfb.below E).at k (by omega)
      refine S_idx Tryz.underlying23 ti_uint32 rfl rfl rfl rfl (s28) (s30) hp6 (by omega) ?_
      refine S_load rfl rfl rfl (rfl) (LD.one ti_uint32 hc5) ?_
      refine S_assign rfl rfl rfl (v := (.int .i64 (k : Int))) (rfl) ?_
      refine S_assign rfl rfl rfl (v := (.int .u32 ((fineL lb).getD k 0))) (rfl) ?_
      refine OPS.nil ?_
      change WP _ _ _ _ _ _
      refine W_seq ?_
      refine W_region rfl ?_
      refine S_move rfl rfl rfl (v := (.int .u64 h)) (s8) ?_
      refine S_move rfl rfl rfl (v := (.int .u32 ((fineL la).getD i 0))) (s7) ?_
      refine S_conv Tryz.underlying106 Tryz.underlying124 rfl rfl rfl (rfl) (b := ((fineL la).getD i 0)) (wrap_u64 hua.1 (by omega)) ?_
      refine S_move rfl rfl rfl (v := (.int .u32 ((fineL lb).getD k 0))) (rfl) ?_
      refine S_conv Tryz.underlying106 Tryz.underlying124 rfl rfl rfl (rfl) (b := ((fineL lb).getD k 0)) (wrap_u64 hub.1 (by omega)) ?_
      refine S_bin rfl rfl rfl rfl rfl (rfl) (rfl) (v := .int .u64 (((fineL la).getD i 0) * ((fineL lb).getD k 0))) (congrArg _ (wrap_u64 (by omega) (by omega))) ?_
      refine S_move rfl rfl rfl (v := (.slice (some ⟨g1, 0, none⟩) m m)) (s5) ?_
      refine S_move rfl rfl rfl (v := (.int .i64 (i : Int))) (s6) ?_
      refine S_move rfl rfl rfl (v := (.int .i64 (k : Int))) (rfl) ?_
      refine S_add64 rfl rfl rfl rfl (rfl) (rfl) (by omega) ?_
      refine S_idx Tryz.underlying23 ti_uint32 rfl rfl rfl rfl (rfl) (rfl) (j := (i + k)) (ad := ⟨g1, (i + k), none⟩) (SlAt.own1 (by omega)) (by omega) ?_
      refine S_load rfl rfl rfl (rfl) (LD.one ti_uint32 (b1.num (by omega))) ?_
      refine S_conv Tryz.underlying106 Tryz.underlying124 rfl rfl rfl (rfl) (b := (ys.getD (i + k) 0)) (wrap_u64 huo.1 (by omega)) ?_
      refine S_bin rfl rfl rfl rfl rfl (rfl) (rfl) (v := .int .u64 ((((fineL la).getD i 0) * ((fineL lb).getD k 0)) + (ys.getD (i + k) 0))) (congrArg _ (wrap_u64 (by omega) (by omega))) ?_
      refine S_bin rfl rfl rfl rfl rfl (rfl) (rfl) (v := .int .u64 (h + (((fineL la).getD i 0) * ((fineL lb).getD k 0) + (ys.getD (i + k) 0)))) (congrArg _ (wrap_u64 (by omega) (by omega))) ?_
      refine S_assign rfl rfl rfl (v := (.int .u64 (h + (((fineL la).getD i 0) * ((fineL lb).getD k 0) + (ys.getD (i + k) 0))))) (rfl) ?_
      refine OPS.nil ?_
      change WP _ _ _ _ _ _
      refine W_seq ?_
      refine W_region rfl ?_
      refine S_move rfl rfl rfl (v := (.slice (some ⟨g1, 0, none⟩) m m)) (s5) ?_
      refine S_move rfl rfl rfl (v := (.int .i64 (i : Int))) (s6) ?_
      refine S_move rfl rfl rfl (v := (.int .i64 (k : Int))) (rfl) ?_
      refine S_add64 rfl rfl rfl rfl (rfl) (rfl) (by omega) ?_
      refine S_move rfl rfl rfl (v := (.int .u64 (h + (((fineL la).getD i 0) * ((fineL lb).getD k 0) + (ys.getD (i + k) 0))))) (rfl) ?_
      refine S_conv Tryz.underlying124 Tryz.underlying106 rfl rfl rfl (rfl) (b := ((h + (((fineL la).getD i 0) * ((fineL lb).getD k 0) + (ys.getD (i + k) 0))) % 4294967296)) (wrap_u32' _) ?_
      refine S_idx Tryz.underlying23 ti_uint32 rfl rfl rfl rfl (rfl) (rfl) (j := (i + k)) (ad := ⟨g1, (i + k), none⟩) (SlAt.own1 (by omega)) (by omega) ?_
      refine S_storeN ti_uint32 rfl rfl rfl rfl (g := g1) (o := (i + k)) (rfl) (a := ((h + (((fineL la).getD i 0) * ((fineL lb).getD k 0) + (ys.getD (i + k) 0))) % 4294967296)) (rfl) b1 (by omega) ?_
      intro w2 hU2 b1
      have E := Below.stepU E hU2 (by omega)
      have hz2 := hU2.size
      refine OPS.nil ?_
      change WP _ _ _ _ _ _
      refine W_region rfl ?_
      refine S_move rfl rfl rfl (v := (.int .u64 (h + (((fineL la).getD i 0) * ((fineL lb).getD k 0) + (ys.getD (i + k) 0))))) (rfl) ?_
      refine S_shr rfl rfl rfl rfl (rfl) (rfl) (by omega) (v := ((h + (((fineL la).getD i 0) * ((fineL lb).getD k 0) + (ys.getD (i + k) 0))) / 4294967296)) (shr32 _) ?_
      refine S_assign rfl rfl rfl (v := (.int .u64 ((h + (((fineL la).getD i 0) * ((fineL lb).getD k 0) + (ys.getD (i + k) 0))) / 4294967296))) (rfl) ?_
      refine OPS.nil ?_
      change WP _ _ _ _ _ _
      refine W_region rfl ?_
      refine S_add64 rfl rfl rfl rfl (s30) (rfl) (by omega) ?_
      refine S_move rfl rfl rfl (v := (.int .i64 ((k : Int) + 1))) (rfl) ?_
      refine OPS.nil ?_
      exact ⟨p - 1, by omega, k + 1, _, _, s0, s1, s5, s6, s7, rfl, s21, s22, s23, s28, s29, int_eq (by omega), by omega, ⟨by omega, by omega⟩, mul_step (by omega) hua hub huo hh rfl rfl rfl hval2, fun j hj => by rw [getD_set_ne' _ _ _ _ (by omega)]; exact hold j (by omega), by simpa using hyl, hyu.set _ (by omega) (by omega), b1, E⟩
    · skip
      replace hq31 := of_decide_eq_false hq31
      refine W_exit ?_
      change WP _ _ _ _ _ _
      refine W_region rfl ?_
      have hkl : k = (fineL lb).length := by omega
      subst hkl
      have hz2 : ys.getD (i + (fineL lb).length) 0 = 0 := by rw [hold _ (by omega)]; exact hz _ (by omega)
      refine S_move rfl rfl rfl (v := (.slice (some ⟨g1, 0, none⟩) m m)) (s5) ?_
      refine S_move rfl rfl rfl (v := (.int .i64 (i : Int))) (s6) ?_
      refine S_move rfl rfl rfl (v := (if okL lb then vb else .slice none 0 0)) (s1) ?_
      refine S_len Tryz.underlying23 rfl rfl rfl (rfl) (m := (fineL lb).length) (hfb.len) ?_
      refine S_add64 rfl rfl rfl rfl (rfl) (rfl) (by omega) ?_
      refine S_move rfl rfl rfl (v := (.int .u64 h)) (s8) ?_
      refine S_conv Tryz.underlying124 Tryz.underlying106 rfl rfl rfl (rfl) (b := h) (wrap_u32 hh.1 hh.2) ?_
      refine S_idx Tryz.underlying23 ti_uint32 rfl rfl rfl rfl (rfl) (rfl) (j := (i + (fineL lb).length)) (ad := ⟨g1, (i + (fineL lb).length), none⟩) (SlAt.own1 (by omega)) (by omega) ?_
      refine S_storeN ti_uint32 rfl rfl rfl rfl (g := g1) (o := (i + (fineL lb).length)) (rfl) (a := h) (rfl) b1 (by omega) ?_
      intro w3 hU3 b1
      have E := Below.stepU E hU3 (by omega)
      have hz3 := hU3.size
      refine OPS.nil ?_
      change WP _ _ _ _ _ _
      refine W_region rfl ?_
      refine S_add64 rfl rfl rfl rfl (s23) (rfl) (by omega) ?_
      refine S_move rfl rfl rfl (v := (.int .i64 ((i : Int) + 1))) (rfl) ?_
      refine OPS.nil ?_
      exact ⟨q - 1, by omega, i + 1, _, s0, s1, s5, s21, s22, int_eq (by omega), by omega, mul_row (by omega) rfl hz2 hval hval2, fun j hj => by rw [getD_set_ne' _ _ _ _ (by omega), hold j (by omega)]; exact hz j (by omega), by simpa using hyl, hyu.set _ (by omega) (by omega), b1, E⟩
  · skip
    replace hq24 := of_decide_eq_false hq24
    refine W_exit ?_
    change WP _ _ _ _ _ _
    refine W_seq ?_
    refine W_region rfl ?_
    refine S_move rfl rfl rfl (v := (.slice (some ⟨g1, 0, none⟩) m m)) (s5) ?_
    refine S_call en_nats_cut rfl rfl rfl (vs := [(.slice (some ⟨g1, 0, none⟩) m m)]) (rfl) (natsCut_c _ _ xs (RN.ofNums (a := 0) (b := 0) b1 hxu hxl (by omega))) ?_
    rintro r _ ⟨⟨A, c', k', hv, hr, hk', ht⟩, rfl⟩
    refine S_assign rfl rfl rfl (v := r) (rfl) ?_
    refine OPS.nil ?_
    change WP _ _ _ _ _ _
    refine W_ret ?_
    change Fin' _ _ _ _ _ _
    refine End1 (n := ⟨71, []⟩) (t := 4) rfl (by decide) (v := r) (rfl) ?_
    have hi : i = (fineL la).length := by omega
    subst hi
    rw [List.take_length] at hval
    have := cut_on b1 hxu (B := w0.heap.size) (by omega) hxl (by omega) hv hr hk' ht
    rw [hval] at this
    exact ⟨E, this⟩

end Go.Proofs.YtccmicegihlfbaaGreatDoor
