/- The document's quotients: guesses, taking and giving back. -/
import Derived.Test.YtccmicegihlfbaaGreatDoorS3
import Derived.Test.YtccmicegihlfbaaGreatDoorTy
import Derived.Test.YtccmicegihlfbaaGreatDoorPD
set_option linter.unusedVariables false
set_option linter.unusedSimpArgs false
namespace Go.Proofs.YtccmicegihlfbaaGreatDoor
open Go.RowKit


section
variable {B M v v1 v2 vr u top u2 ur q r : Nat}
theorem guess_dec (hv : v = vr + M * (v2 + B * v1)) (hu : u = ur + M * (u2 + B * top)) (hur : ur < M) (hqr : q * v1 + r = top) (ht : r * B + u2 < q * v2) (hvp : 0 < v) : 1 ≤ q ∧ u / v ≤ q - 1 := by
  have h1 : u2 + B * top < q * (v2 + B * v1) := by
    rw [Nat.mul_add, ← hqr, Nat.mul_add, show q * (B * v1) = B * (q * v1) by rw [← Nat.mul_assoc, Nat.mul_comm q B, Nat.mul_assoc], Nat.mul_comm B r]
    omega
  have h2 := guess_lo hv hu hur h1
  have h3 := (Nat.div_lt_iff_lt_mul hvp).2 h2
  exact ⟨Nat.lt_of_le_of_lt (Nat.zero_le _) h3, Nat.le_sub_one_of_lt h3⟩
theorem guess_big (hub : u < B * v) (hq : B ≤ q) (hvp : 0 < v) (hB : 0 < B) : 1 ≤ q ∧ u / v ≤ q - 1 := by
  have h3 := Nat.lt_of_lt_of_le ((Nat.div_lt_iff_lt_mul hvp).2 hub) hq
  exact ⟨Nat.lt_of_le_of_lt (Nat.zero_le _) h3, Nat.le_sub_one_of_lt h3⟩
theorem guess_end (hv : v = vr + M * (v2 + B * v1)) (hvr : vr < M) (hv2 : v2 < B) (hu : u = ur + M * (u2 + B * top)) (hub : u < B * v) (h1 : 1 ≤ v1) (hB : 0 < B) (hM : 0 < M) (hqr : q * v1 + r = top) (ht : B ≤ r ∨ q < B ∧ q * v2 ≤ r * B + u2) : q < B ∧ q * v < u + v := by
  have hqB : q < B := by
    rcases ht with h | h
    · refine Nat.not_le.1 fun hc => ?_
      have e1 : B * v1 ≤ q * v1 := Nat.mul_le_mul_right _ hc
      have e2 : B * (v1 + 1) ≤ top := by rw [Nat.mul_add]; omega
      have e3 : v2 + B * v1 + 1 ≤ B * (v1 + 1) := by rw [Nat.mul_add]; omega
      have e4 : v < M * (v2 + B * v1 + 1) := by rw [Nat.mul_add M (v2 + B * v1)]; omega
      have e5 : M * (v2 + B * v1 + 1) ≤ M * top := Nat.mul_le_mul_left _ (Nat.le_trans e3 e2)
      have e6 : B * v ≤ B * (M * top) := Nat.mul_le_mul_left _ (by omega)
      have e7 : B * (M * top) = M * (B * top) := by ac_rfl
      rw [Nat.mul_add M u2] at hu
      omega
    · exact h.1
  refine ⟨hqB, guess_hi hv hvr hu hqB ?_ h1⟩
  rw [Nat.mul_add, ← hqr, Nat.mul_add, show q * (B * v1) = B * (q * v1) by rw [← Nat.mul_assoc, Nat.mul_comm q B, Nat.mul_assoc], Nat.mul_comm B r]
  rcases ht with h | h
  · have e1 : q * v2 ≤ B * B := Nat.mul_le_mul (by omega) (by omega)
    have e2 : B * B ≤ r * B := Nat.mul_le_mul_right _ h
    omega
  · omega
end

set_option maxHeartbeats 400000 in
theorem ref01Guess_c (w0 : World) (va vb : Value) (la lb : List Int) (i m : Nat) {a b a2 b2 : Nat} (ha : RN a b w0 va la) (hb : RN a2 b2 w0 vb lb) (hm : lb.length = m + 2) (hin : i + m + 2 < la.length) (h1 : 1 ≤ lb.getD (m + 1) 0) (hub : val ((la.drop i).take (m + 3)) < 4294967296 * val lb) :
    Ret Tryz.prog 167 [va, vb, (.int .i64 (i : Int))] w0 (fun r w1 => Below w0.heap.size w0 w1 ∧ ∃ q : Nat, r = .int .u64 (q : Int) ∧ q < 4294967296 ∧ val ((la.drop i).take (m + 3)) / val lb ≤ q ∧ q * val lb < val ((la.drop i).take (m + 3)) + val lb) := by
  have E := Below.refl w0.heap.size w0
  have hmx := ha.maxl
  obtain ⟨t1, ht1, ht1l⟩ := ha.u32.nat (i + m + 2)
  obtain ⟨t2, ht2, ht2l⟩ := ha.u32.nat (i + m + 1)
  obtain ⟨u2, hu2, hu2l⟩ := ha.u32.nat (i + m)
  obtain ⟨v1, hv1, hv1l⟩ := hb.u32.nat (m + 1)
  obtain ⟨v2, hv2, hv2l⟩ := hb.u32.nat m
  have hv1p : 1 ≤ v1 := by omega
  have hU := top3 la i m
  have hV := top2 lb m hm
  rw [ht1, ht2, hu2, Int.toNat_natCast, Int.toNat_natCast, Int.toNat_natCast] at hU
  rw [hv1, hv2, Int.toNat_natCast, Int.toNat_natCast] at hV
  have hur := val_take_lt (ha.u32.drop i) m
  have hvr := val_take_lt hb.u32 m
  have hMp : 0 < 4294967296 ^ m := Nat.pow_pos (by decide)
  have hvp : 0 < val lb := by
    have h9 : 4294967296 ^ m * 1 ≤ 4294967296 ^ m * (v2 + 4294967296 * v1) := Nat.mul_le_mul_left _ (by omega)
    omega
  have hQ0 := guess_start hV hU hur hu2l hv1p
  obtain ⟨tp, htp⟩ : ∃ tp, tp = t1 * 4294967296 + t2 := ⟨_, rfl⟩
  rw [← htp] at hU hQ0
  have hq0 := Nat.div_le_self tp v1
  have hr0 := Nat.mod_lt tp hv1p
  have hqr0 : tp / v1 * v1 + tp % v1 = tp := by rw [Nat.mul_comm]; exact Nat.div_add_mod tp v1
  refine Ret_of (n := 87) Tryz.func167 rfl rfl (Nat.le_of_ble_eq_true rfl) ?_
  refine W_seq ?_
  refine W_region rfl ?_
  refine S_assign rfl rfl rfl (v := (.int .u64 0)) (rfl) ?_
  refine OPS.nil ?_
  change WP _ _ _ _ _ _
  refine W_seq ?_
  refine W_region rfl ?_
  refine S_move rfl rfl rfl (v := vb) (rfl) ?_
  refine S_len Tryz.underlying23 rfl rfl rfl (rfl) (m := lb.length) (hb.len) ?_
  refine S_assign rfl rfl rfl (v := (.int .i64 (lb.length : Int))) (rfl) ?_
  refine OPS.nil ?_
  change WP _ _ _ _ _ _
  refine W_seq ?_
  refine D_begin mixed_ rfl rfl (fun w_ => Below w0.heap.size w0 w_) ?_
  intro w1 hB1 hz_1
  have hz1 := hB1.size
  have E := Below.step E hB1
  have hS_ : Below w0.heap.size w0 w1 := E
  have E_S := E
  refine D_move (i := 0) (by kernel_rfl) (by kernel_rfl) (by kernel_rfl) (listed2 := #[true, false, false, false, false, false, false, false, false, false, false, false, false, false, false, false, false, false]) (by kernel_rfl) rfl rfl rfl (v := va) (rfl) hS_ ?_
  refine D_move (i := 1) (by kernel_rfl) (by kernel_rfl) (by kernel_rfl) (listed2 := #[true, true, false, false, false, false, false, false, false, false, false, false, false, false, false, false, false, false]) (by kernel_rfl) rfl rfl rfl (v := (.int .i64 (i : Int))) (rfl) hS_ ?_
  refine D_move (i := 2) (by kernel_rfl) (by kernel_rfl) (by kernel_rfl) (listed2 := #[true, true, true, false, false, false, false, false, false, false, false, false, false, false, false, false, false, false]) (by kernel_rfl) rfl rfl rfl (v := (.int .i64 (lb.length : Int))) (rfl) hS_ ?_
  refine D_add64 (i := 3) (by kernel_rfl) (by kernel_rfl) (by kernel_rfl) (listed2 := #[true, true, true, true, false, false, false, false, false, false, false, false, false, false, false, false, false, false]) (by kernel_rfl) rfl rfl rfl rfl (rfl) (rfl) (by omega) hS_ ?_
  obtain ⟨ad1, hp3, hc2⟩ := ha.at (i + m + 2) (by omega)
  refine D_idx Tryz.underlying23 ti_uint32 (i := 4) (by kernel_rfl) (by kernel_rfl) (by kernel_rfl) (listed2 := #[true, true, true, true, true, false, false, false, false, false, false, false, false, false, false, false, false, false]) (by kernel_rfl) rfl rfl rfl rfl (rfl) (rfl) hp3 (by omega) hS_ ?_
  refine D_load (i := 5) (by kernel_rfl) (by kernel_rfl) (by kernel_rfl) (listed2 := #[true, true, true, true, true, true, false, false, false, false, false, false, false, false, false, false, false, false]) (by kernel_rfl) rfl rfl rfl (rfl) (fun _ hS2 => LD.one ti_uint32 (cell_below hS2 hc2)) hS_ ?_
  refine D_conv Tryz.underlying106 Tryz.underlying124 (i := 6) (by kernel_rfl) (by kernel_rfl) (by kernel_rfl) (listed2 := #[true, true, true, true, true, true, true, false, false, false, false, false, false, false, false, false, false, false]) (by kernel_rfl) rfl rfl rfl (rfl) (b := (t1 : Int)) ((wrap_u64 (by omega) (by omega)).trans ht1) hS_ ?_
  refine D_shl (i := 7) (by kernel_rfl) (by kernel_rfl) (by kernel_rfl) (listed2 := #[true, true, true, true, true, true, true, true, false, false, false, false, false, false, false, false, false, false]) (by kernel_rfl) rfl rfl rfl rfl (rfl) (rfl) (by omega) (v := ((t1 : Int) * 4294967296)) (S_shl32 ⟨by omega, by omega⟩) hS_ ?_
  refine D_move (i := 8) (by kernel_rfl) (by kernel_rfl) (by kernel_rfl) (listed2 := #[true, true, true, true, true, true, true, true, true, false, false, false, false, false, false, false, false, false]) (by kernel_rfl) rfl rfl rfl (v := va) (rfl) hS_ ?_
  refine D_move (i := 9) (by kernel_rfl) (by kernel_rfl) (by kernel_rfl) (listed2 := #[true, true, true, true, true, true, true, true, true, true, false, false, false, false, false, false, false, false]) (by kernel_rfl) rfl rfl rfl (v := (.int .i64 (i : Int))) (rfl) hS_ ?_
  refine D_move (i := 10) (by kernel_rfl) (by kernel_rfl) (by kernel_rfl) (listed2 := #[true, true, true, true, true, true, true, true, true, true, true, false, false, false, false, false, false, false]) (by kernel_rfl) rfl rfl rfl (v := (.int .i64 (lb.length : Int))) (rfl) hS_ ?_
  refine D_add64 (i := 11) (by kernel_rfl) (by kernel_rfl) (by kernel_rfl) (listed2 := #[true, true, true, true, true, true, true, true, true, true, true, true, false, false, false, false, false, false]) (by kernel_rfl) rfl rfl rfl rfl (rfl) (rfl) (by omega) hS_ ?_
  refine D_sub64 (i := 12) (by kernel_rfl) (by kernel_rfl) (by kernel_rfl) (listed2 := #[true, true, true, true, true, true, true, true, true, true, true, true, true, false, false, false, false, false]) (by kernel_rfl) rfl rfl rfl rfl (rfl) (rfl) (by omega) hS_ ?_
  obtain ⟨ad4, hp6, hc5⟩ := ha.at (i + m + 1) (by omega)
  refine D_idx Tryz.underlying23 ti_uint32 (i := 13) (by kernel_rfl) (by kernel_rfl) (by kernel_rfl) (listed2 := #[true, true, true, true, true, true, true, true, true, true, true, true, true, true, false, false, false, false]) (by kernel_rfl) rfl rfl rfl rfl (rfl) (rfl) hp6 (by omega) hS_ ?_
  refine D_load (i := 14) (by kernel_rfl) (by kernel_rfl) (by kernel_rfl) (listed2 := #[true, true, true, true, true, true, true, true, true, true, true, true, true, true, true, false, false, false]) (by kernel_rfl) rfl rfl rfl (rfl) (fun _ hS2 => LD.one ti_uint32 (cell_below hS2 hc5)) hS_ ?_
  refine D_conv Tryz.underlying106 Tryz.underlying124 (i := 15) (by kernel_rfl) (by kernel_rfl) (by kernel_rfl) (listed2 := #[true, true, true, true, true, true, true, true, true, true, true, true, true, true, true, true, false, false]) (by kernel_rfl) rfl rfl rfl (rfl) (b := (t2 : Int)) ((wrap_u64 (by omega) (by omega)).trans ht2) hS_ ?_
  refine D_bits (i := 16) (by kernel_rfl) (by kernel_rfl) (by kernel_rfl) (listed2 := #[true, true, true, true, true, true, true, true, true, true, true, true, true, true, true, true, true, false]) (by kernel_rfl) rfl rfl rfl rfl (by simp) (rfl) (rfl) (v := (tp : Int)) ((hi_lo ⟨by omega, by omega⟩ ⟨by omega, by omega⟩).trans (by omega)) hS_ ?_
  refine D_assign (i := 17) (by kernel_rfl) (by kernel_rfl) (by kernel_rfl) (listed2 := #[true, true, true, true, true, true, true, true, true, true, true, true, true, true, true, true, true, true]) (by kernel_rfl) rfl rfl rfl (v := (.int .u64 (tp : Int))) (rfl) hS_ ?_
  refine D_done (by kernel_rfl) ?_
  change WP _ _ _ _ _ _
  refine W_seq ?_
  refine W_region rfl ?_
  refine S_move rfl rfl rfl (v := (.int .u64 (tp : Int))) (rfl) ?_
  refine S_move rfl rfl rfl (v := vb) (rfl) ?_
  refine S_move rfl rfl rfl (v := (.int .i64 (lb.length : Int))) (rfl) ?_
  refine S_sub64 rfl rfl rfl rfl (rfl) (rfl) (by omega) ?_
  obtain ⟨ad7, hp9, hc8⟩ := (hb.below E).at (m + 1) (by omega)
  refine S_idx Tryz.underlying23 ti_uint32 rfl rfl rfl rfl (rfl) (rfl) hp9 (by omega) ?_
  refine S_load rfl rfl rfl (rfl) (LD.one ti_uint32 hc8) ?_
  refine S_conv Tryz.underlying106 Tryz.underlying124 rfl rfl rfl (rfl) (b := (v1 : Int)) ((wrap_u64 (by omega) (by omega)).trans hv1) ?_
  refine S_quo rfl rfl rfl rfl (rfl) (rfl) (by omega) (v := ((tp / v1 : Nat) : Int)) (quoN rfl rfl (by omega) (by omega)) ?_
  refine S_assign rfl rfl rfl (v := (.int .u64 ((tp / v1 : Nat) : Int))) (rfl) ?_
  refine OPS.nil ?_
  change WP _ _ _ _ _ _
  refine W_seq ?_
  refine W_region rfl ?_
  refine S_move rfl rfl rfl (v := (.int .u64 (tp : Int))) (rfl) ?_
  refine S_move rfl rfl rfl (v := vb) (rfl) ?_
  refine S_move rfl rfl rfl (v := (.int .i64 (lb.length : Int))) (rfl) ?_
  refine S_sub64 rfl rfl rfl rfl (rfl) (rfl) (by omega) ?_
  obtain ⟨ad10, hp12, hc11⟩ := (hb.below E).at (m + 1) (by omega)
  refine S_idx Tryz.underlying23 ti_uint32 rfl rfl rfl rfl (rfl) (rfl) hp12 (by omega) ?_
  refine S_load rfl rfl rfl (rfl) (LD.one ti_uint32 hc11) ?_
  refine S_conv Tryz.underlying106 Tryz.underlying124 rfl rfl rfl (rfl) (b := (v1 : Int)) ((wrap_u64 (by omega) (by omega)).trans hv1) ?_
  refine S_rem rfl rfl rfl rfl (rfl) (rfl) (by omega) (v := ((tp % v1 : Nat) : Int)) (remN rfl rfl) ?_
  refine S_assign rfl rfl rfl (v := (.int .u64 ((tp % v1 : Nat) : Int))) (rfl) ?_
  refine OPS.nil ?_
  change WP _ _ _ _ _ _
  refine W_seq ?_
  refine W_block ?_
  refine W_loop (fun k σ w => ∃ (q r : Nat), σ 0 = va ∧ σ 1 = vb ∧ σ 2 = .int .i64 (i : Int) ∧ σ 7 = .int .i64 (lb.length : Int) ∧ σ 9 = .int .u64 (q : Int) ∧ σ 10 = .int .u64 (r : Int) ∧ q * v1 + r = tp ∧ val ((la.drop i).take (m + 3)) / val lb ≤ q ∧ q < 18446744073709551616 ∧ k + r = 8589934592 ∧ Below w0.heap.size w0 w) (8589934592 - tp % v1) ⟨_, _, rfl, rfl, rfl, rfl, rfl, rfl, hqr0, hQ0, by omega, by omega, E⟩ ?_
  rintro k σ w ⟨q, r, s0, s1, s2, s7, s9, s10, hqr, hUq, hq, hkr, E⟩
  refine W_seq ?_
  refine W_seq ?_
  refine D_begin mixed_ rfl rfl (fun w_ => Below w0.heap.size w0 w_) ?_
  intro w2 hB2 hz_2
  have hz2 := hB2.size
  have E := Below.step E hB2
  have hS_ : Below w0.heap.size w0 w2 := E
  have E_S := E
  refine D_move (i := 0) (by kernel_rfl) (by kernel_rfl) (by kernel_rfl) (listed2 := #[true, false, false, false, false, false, false, false, false, false, false, false, false, false, false, false, false, false, false, false, false, false, false, false, false, false, false, false, false, false]) (by kernel_rfl) rfl rfl rfl (v := (.int .u64 (r : Int))) (s10) hS_ ?_
  refine D_shr (i := 1) (by kernel_rfl) (by kernel_rfl) (by kernel_rfl) (listed2 := #[true, true, false, false, false, false, false, false, false, false, false, false, false, false, false, false, false, false, false, false, false, false, false, false, false, false, false, false, false, false]) (by kernel_rfl) rfl rfl rfl rfl (rfl) (rfl) (by omega) (v := ((r : Int) / 4294967296)) (shr32 _) hS_ ?_
  refine D_bin (i := 2) (by kernel_rfl) (by kernel_rfl) (by kernel_rfl) (listed2 := #[true, true, true, false, false, false, false, false, false, false, false, false, false, false, false, false, false, false, false, false, false, false, false, false, false, false, false, false, false, false]) (by kernel_rfl) rfl rfl rfl rfl rfl (rfl) (rfl) (v := .bool ((((r : Int) / 4294967296) == 0))) rfl hS_ ?_
  refine D_move (i := 3) (by kernel_rfl) (by kernel_rfl) (by kernel_rfl) (listed2 := #[true, true, true, true, false, false, false, false, false, false, false, false, false, false, false, false, false, false, false, false, false, false, false, false, false, false, false, false, false, false]) (by kernel_rfl) rfl rfl rfl (v := (.bool ((((r : Int) / 4294967296) == 0)))) (rfl) hS_ ?_
  rcases Bool.eq_false_or_eq_true ((((r : Int) / 4294967296) == 0)) with pT | pF
  · skip
    rw [pT]
    have qT := eq_of_beq pT
    refine D_move (i := 4) (by kernel_rfl) (by kernel_rfl) (by kernel_rfl) (listed2 := #[true, true, true, true, true, false, false, false, false, false, false, false, false, false, false, false, false, false, false, false, false, false, false, false, false, false, false, false, false, false]) (by kernel_rfl) rfl rfl rfl (v := (.int .u64 (q : Int))) (s9) hS_ ?_
    refine D_shr (i := 5) (by kernel_rfl) (by kernel_rfl) (by kernel_rfl) (listed2 := #[true, true, true, true, true, true, false, false, false, false, false, false, false, false, false, false, false, false, false, false, false, false, false, false, false, false, false, false, false, false]) (by kernel_rfl) rfl rfl rfl rfl (rfl) (rfl) (by omega) (v := ((q : Int) / 4294967296)) (shr32 _) hS_ ?_
    refine D_bin (i := 6) (by kernel_rfl) (by kernel_rfl) (by kernel_rfl) (listed2 := #[true, true, true, true, true, true, true, false, false, false, false, false, false, false, false, false, false, false, false, false, false, false, false, false, false, false, false, false, false, false]) (by kernel_rfl) rfl rfl rfl rfl rfl (rfl) (rfl) (v := .bool (decide (((q : Int) / 4294967296) > 0))) rfl hS_ ?_
    refine D_move (i := 7) (by kernel_rfl) (by kernel_rfl) (by kernel_rfl) (listed2 := #[true, true, true, true, true, true, true, true, false, false, false, false, false, false, false, false, false, false, false, false, false, false, false, false, false, false, false, false, false, false]) (by kernel_rfl) rfl rfl rfl (v := (.bool (decide (((q : Int) / 4294967296) > 0)))) (rfl) hS_ ?_
    rcases Bool.eq_false_or_eq_true (decide (((q : Int) / 4294967296) > 0)) with pTT | pTF
    · skip
      rw [pTT]
      have qTT := of_decide_eq_true pTT
      have hqd := guess_big (q := q) hub (by omega) hvp (by decide)
      refine D_skip (d := 54) (op := .move _) (gd := some (7, false)) (i := 8) (by kernel_rfl) (by kernel_rfl) (by kernel_rfl) (listed2 := #[true, true, true, true, true, true, true, true, true, false, false, false, false, false, false, false, false, false, false, false, false, false, false, false, false, false, false, false, false, false]) (by kernel_rfl) rfl (wg_off rfl (rfl) rfl) hS_ ?_
      refine D_skip (d := 55) (op := .move _) (gd := some (7, false)) (i := 9) (by kernel_rfl) (by kernel_rfl) (by kernel_rfl) (listed2 := #[true, true, true, true, true, true, true, true, true, true, false, false, false, false, false, false, false, false, false, false, false, false, false, false, false, false, false, false, false, false]) (by kernel_rfl) rfl (wg_off rfl (rfl) rfl) hS_ ?_
      refine D_skip (d := 56) (op := .move _) (gd := some (7, false)) (i := 10) (by kernel_rfl) (by kernel_rfl) (by kernel_rfl) (listed2 := #[true, true, true, true, true, true, true, true, true, true, true, false, false, false, false, false, false, false, false, false, false, false, false, false, false, false, false, false, false, false]) (by kernel_rfl) rfl (wg_off rfl (rfl) rfl) hS_ ?_
      refine D_skip (d := 57) (op := .binOp _ _ _ _ _) (gd := some (7, false)) (i := 11) (by kernel_rfl) (by kernel_rfl) (by kernel_rfl) (listed2 := #[true, true, true, true, true, true, true, true, true, true, true, true, false, false, false, false, false, false, false, false, false, false, false, false, false, false, false, false, false, false]) (by kernel_rfl) rfl (wg_off rfl (rfl) rfl) hS_ ?_
      refine D_skip (d := 58) (op := .indexAddr _ _ _) (gd := some (7, false)) (i := 12) (by kernel_rfl) (by kernel_rfl) (by kernel_rfl) (listed2 := #[true, true, true, true, true, true, true, true, true, true, true, true, true, false, false, false, false, false, false, false, false, false, false, false, false, false, false, false, false, false]) (by kernel_rfl) rfl (wg_off rfl (rfl) rfl) hS_ ?_
      refine D_skip (d := 59) (op := .load _ _) (gd := some (7, false)) (i := 13) (by kernel_rfl) (by kernel_rfl) (by kernel_rfl) (listed2 := #[true, true, true, true, true, true, true, true, true, true, true, true, true, true, false, false, false, false, false, false, false, false, false, false, false, false, false, false, false, false]) (by kernel_rfl) rfl (wg_off rfl (rfl) rfl) hS_ ?_
      refine D_skip (d := 60) (op := .convert _ _ _) (gd := some (7, false)) (i := 14) (by kernel_rfl) (by kernel_rfl) (by kernel_rfl) (listed2 := #[true, true, true, true, true, true, true, true, true, true, true, true, true, true, true, false, false, false, false, false, false, false, false, false, false, false, false, false, false, false]) (by kernel_rfl) rfl (wg_off rfl (rfl) rfl) hS_ ?_
      refine D_skip (d := 61) (op := .binOp _ _ _ _ _) (gd := some (7, false)) (i := 15) (by kernel_rfl) (by kernel_rfl) (by kernel_rfl) (listed2 := #[true, true, true, true, true, true, true, true, true, true, true, true, true, true, true, true, false, false, false, false, false, false, false, false, false, false, false, false, false, false]) (by kernel_rfl) rfl (wg_off rfl (rfl) rfl) hS_ ?_
      refine D_skip (d := 62) (op := .move _) (gd := some (7, false)) (i := 16) (by kernel_rfl) (by kernel_rfl) (by kernel_rfl) (listed2 := #[true, true, true, true, true, true, true, true, true, true, true, true, true, true, true, true, true, false, false, false, false, false, false, false, false, false, false, false, false, false]) (by kernel_rfl) rfl (wg_off rfl (rfl) rfl) hS_ ?_
      refine D_skip (d := 63) (op := .binOp _ _ _ _ _) (gd := some (7, false)) (i := 17) (by kernel_rfl) (by kernel_rfl) (by kernel_rfl) (listed2 := #[true, true, true, true, true, true, true, true, true, true, true, true, true, true, true, true, true, true, false, false, false, false, false, false, false, false, false, false, false, false]) (by kernel_rfl) rfl (wg_off rfl (rfl) rfl) hS_ ?_
      refine D_skip (d := 64) (op := .move _) (gd := some (7, false)) (i := 18) (by kernel_rfl) (by kernel_rfl) (by kernel_rfl) (listed2 := #[true, true, true, true, true, true, true, true, true, true, true, true, true, true, true, true, true, true, true, false, false, false, false, false, false, false, false, false, false, false]) (by kernel_rfl) rfl (wg_off rfl (rfl) rfl) hS_ ?_
      refine D_skip (d := 65) (op := .move _) (gd := some (7, false)) (i := 19) (by kernel_rfl) (by kernel_rfl) (by kernel_rfl) (listed2 := #[true, true, true, true, true, true, true, true, true, true, true, true, true, true, true, true, true, true, true, true, false, false, false, false, false, false, false, false, false, false]) (by kernel_rfl) rfl (wg_off rfl (rfl) rfl) hS_ ?_
      refine D_skip (d := 66) (op := .move _) (gd := some (7, false)) (i := 20) (by kernel_rfl) (by kernel_rfl) (by kernel_rfl) (listed2 := #[true, true, true, true, true, true, true, true, true, true, true, true, true, true, true, true, true, true, true, true, true, false, false, false, false, false, false, false, false, false]) (by kernel_rfl) rfl (wg_off rfl (rfl) rfl) hS_ ?_
      refine D_skip (d := 67) (op := .binOp _ _ _ _ _) (gd := some (7, false)) (i := 21) (by kernel_rfl) (by kernel_rfl) (by kernel_rfl) (listed2 := #[true, true, true, true, true, true, true, true, true, true, true, true, true, true, true, true, true, true, true, true, true, true, false, false, false, false, false, false, false, false]) (by kernel_rfl) rfl (wg_off rfl (rfl) rfl) hS_ ?_
      refine D_skip (d := 68) (op := .binOp _ _ _ _ _) (gd := some (7, false)) (i := 22) (by kernel_rfl) (by kernel_rfl) (by kernel_rfl) (listed2 := #[true, true, true, true, true, true, true, true, true, true, true, true, true, true, true, true, true, true, true, true, true, true, true, false, false, false, false, false, false, false]) (by kernel_rfl) rfl (wg_off rfl (rfl) rfl) hS_ ?_
      refine D_skip (d := 69) (op := .indexAddr _ _ _) (gd := some (7, false)) (i := 23) (by kernel_rfl) (by kernel_rfl) (by kernel_rfl) (listed2 := #[true, true, true, true, true, true, true, true, true, true, true, true, true, true, true, true, true, true, true, true, true, true, true, true, false, false, false, false, false, false]) (by kernel_rfl) rfl (wg_off rfl (rfl) rfl) hS_ ?_
      refine D_skip (d := 70) (op := .load _ _) (gd := some (7, false)) (i := 24) (by kernel_rfl) (by kernel_rfl) (by kernel_rfl) (listed2 := #[true, true, true, true, true, true, true, true, true, true, true, true, true, true, true, true, true, true, true, true, true, true, true, true, true, false, false, false, false, false]) (by kernel_rfl) rfl (wg_off rfl (rfl) rfl) hS_ ?_
      refine D_skip (d := 71) (op := .convert _ _ _) (gd := some (7, false)) (i := 25) (by kernel_rfl) (by kernel_rfl) (by kernel_rfl) (listed2 := #[true, true, true, true, true, true, true, true, true, true, true, true, true, true, true, true, true, true, true, true, true, true, true, true, true, true, false, false, false, false]) (by kernel_rfl) rfl (wg_off rfl (rfl) rfl) hS_ ?_
      refine D_skip (d := 72) (op := .binOp _ _ _ _ _) (gd := some (7, false)) (i := 26) (by kernel_rfl) (by kernel_rfl) (by kernel_rfl) (listed2 := #[true, true, true, true, true, true, true, true, true, true, true, true, true, true, true, true, true, true, true, true, true, true, true, true, true, true, true, false, false, false]) (by kernel_rfl) rfl (wg_off rfl (rfl) rfl) hS_ ?_
      refine D_skip (d := 73) (op := .binOp _ _ _ _ _) (gd := some (7, false)) (i := 27) (by kernel_rfl) (by kernel_rfl) (by kernel_rfl) (listed2 := #[true, true, true, true, true, true, true, true, true, true, true, true, true, true, true, true, true, true, true, true, true, true, true, true, true, true, true, true, false, false]) (by kernel_rfl) rfl (wg_off rfl (rfl) rfl) hS_ ?_
      refine D_pick (i := 28) (by kernel_rfl) (by kernel_rfl) (by kernel_rfl) (listed2 := #[true, true, true, true, true, true, true, true, true, true, true, true, true, true, true, true, true, true, true, true, true, true, true, true, true, true, true, true, true, false]) (by kernel_rfl) rfl rfl rfl rfl rfl (b := true) (rfl) (v := (.bool true)) (rfl) hS_ ?_
      refine D_pick (i := 29) (by kernel_rfl) (by kernel_rfl) (by kernel_rfl) (listed2 := #[true, true, true, true, true, true, true, true, true, true, true, true, true, true, true, true, true, true, true, true, true, true, true, true, true, true, true, true, true, true]) (by kernel_rfl) rfl rfl rfl rfl rfl (b := true) (rfl) (v := (.bool true)) (rfl) hS_ ?_
      refine D_done (by kernel_rfl) ?_
      change WP _ _ _ _ _ _
      refine W_cond rfl (b := true) (rfl) (fun _ => ?_) (fun h => (by cases h))
      refine W_skip ?_
      change WP _ _ _ _ _ _
      refine W_block ?_
      refine W_seq ?_
      refine W_region rfl ?_
      refine S_move rfl rfl rfl (v := (.int .u64 (q : Int))) (s9) ?_
      refine S_bin rfl rfl rfl rfl rfl (rfl) (rfl) (v := .int .u64 ((q - 1 : Nat) : Int)) (congrArg (Value.int .u64) ((wrap_u64 (by omega) (by omega)).trans (by omega))) ?_
      refine S_assign rfl rfl rfl (v := (.int .u64 ((q - 1 : Nat) : Int))) (rfl) ?_
      refine OPS.nil ?_
      change WP _ _ _ _ _ _
      refine W_region rfl ?_
      refine S_move rfl rfl rfl (v := (.int .u64 (r : Int))) (s10) ?_
      refine S_move rfl rfl rfl (v := vb) (s1) ?_
      refine S_move rfl rfl rfl (v := (.int .i64 (lb.length : Int))) (s7) ?_
      refine S_sub64 rfl rfl rfl rfl (rfl) (rfl) (by omega) ?_
      obtain ⟨ad13, hp15, hc14⟩ := (hb.below E).at (m + 1) (by omega)
      refine S_idx Tryz.underlying23 ti_uint32 rfl rfl rfl rfl (rfl) (rfl) hp15 (by omega) ?_
      refine S_load rfl rfl rfl (rfl) (LD.one ti_uint32 hc14) ?_
      refine S_conv Tryz.underlying106 Tryz.underlying124 rfl rfl rfl (rfl) (b := (v1 : Int)) ((wrap_u64 (by omega) (by omega)).trans hv1) ?_
      refine S_bin rfl rfl rfl rfl rfl (rfl) (rfl) (v := .int .u64 ((r + v1 : Nat) : Int)) (congrArg (Value.int .u64) ((wrap_u64 (by omega) (by omega)).trans (by omega))) ?_
      refine S_assign rfl rfl rfl (v := (.int .u64 ((r + v1 : Nat) : Int))) (rfl) ?_
      refine OPS.nil ?_
      exact ⟨k - v1, by omega, q - 1, r + v1, s0, s1, s2, s7, rfl, rfl, by rw [Nat.sub_mul, Nat.one_mul]; have := Nat.mul_le_mul_right v1 hqd.1; omega, hqd.2, by omega, by omega, E⟩
    · skip
      rw [pTF]
      have qTF := of_decide_eq_false pTF
      have hqv : q * v2 < 18446744073709551616 := by
        have := Nat.mul_le_mul (show q ≤ 4294967295 by omega) (show v2 ≤ 4294967295 by omega)
        omega
      refine D_move (i := 8) (by kernel_rfl) (by kernel_rfl) (by kernel_rfl) (listed2 := #[true, true, true, true, true, true, true, true, true, false, false, false, false, false, false, false, false, false, false, false, false, false, false, false, false, false, false, false, false, false]) (by kernel_rfl) rfl rfl rfl (v := (.int .u64 (q : Int))) (s9) hS_ ?_
      refine D_move (i := 9) (by kernel_rfl) (by kernel_rfl) (by kernel_rfl) (listed2 := #[true, true, true, true, true, true, true, true, true, true, false, false, false, false, false, false, false, false, false, false, false, false, false, false, false, false, false, false, false, false]) (by kernel_rfl) rfl rfl rfl (v := vb) (s1) hS_ ?_
      refine D_move (i := 10) (by kernel_rfl) (by kernel_rfl) (by kernel_rfl) (listed2 := #[true, true, true, true, true, true, true, true, true, true, true, false, false, false, false, false, false, false, false, false, false, false, false, false, false, false, false, false, false, false]) (by kernel_rfl) rfl rfl rfl (v := (.int .i64 (lb.length : Int))) (s7) hS_ ?_
      refine D_sub64 (i := 11) (by kernel_rfl) (by kernel_rfl) (by kernel_rfl) (listed2 := #[true, true, true, true, true, true, true, true, true, true, true, true, false, false, false, false, false, false, false, false, false, false, false, false, false, false, false, false, false, false]) (by kernel_rfl) rfl rfl rfl rfl (rfl) (rfl) (by omega) hS_ ?_
      obtain ⟨ad16, hp18, hc17⟩ := hb.at m (by omega)
      refine D_idx Tryz.underlying23 ti_uint32 (i := 12) (by kernel_rfl) (by kernel_rfl) (by kernel_rfl) (listed2 := #[true, true, true, true, true, true, true, true, true, true, true, true, true, false, false, false, false, false, false, false, false, false, false, false, false, false, false, false, false, false]) (by kernel_rfl) rfl rfl rfl rfl (rfl) (rfl) hp18 (by omega) hS_ ?_
      refine D_load (i := 13) (by kernel_rfl) (by kernel_rfl) (by kernel_rfl) (listed2 := #[true, true, true, true, true, true, true, true, true, true, true, true, true, true, false, false, false, false, false, false, false, false, false, false, false, false, false, false, false, false]) (by kernel_rfl) rfl rfl rfl (rfl) (fun _ hS2 => LD.one ti_uint32 (cell_below hS2 hc17)) hS_ ?_
      refine D_conv Tryz.underlying106 Tryz.underlying124 (i := 14) (by kernel_rfl) (by kernel_rfl) (by kernel_rfl) (listed2 := #[true, true, true, true, true, true, true, true, true, true, true, true, true, true, true, false, false, false, false, false, false, false, false, false, false, false, false, false, false, false]) (by kernel_rfl) rfl rfl rfl (rfl) (b := (v2 : Int)) ((wrap_u64 (by omega) (by omega)).trans hv2) hS_ ?_
      refine D_bin (i := 15) (by kernel_rfl) (by kernel_rfl) (by kernel_rfl) (listed2 := #[true, true, true, true, true, true, true, true, true, true, true, true, true, true, true, true, false, false, false, false, false, false, false, false, false, false, false, false, false, false]) (by kernel_rfl) rfl rfl rfl rfl rfl (rfl) (rfl) (v := .int .u64 ((q * v2 : Nat) : Int)) (congrArg (Value.int .u64) (mulN hqv)) hS_ ?_
      refine D_move (i := 16) (by kernel_rfl) (by kernel_rfl) (by kernel_rfl) (listed2 := #[true, true, true, true, true, true, true, true, true, true, true, true, true, true, true, true, true, false, false, false, false, false, false, false, false, false, false, false, false, false]) (by kernel_rfl) rfl rfl rfl (v := (.int .u64 (r : Int))) (s10) hS_ ?_
      refine D_shl (i := 17) (by kernel_rfl) (by kernel_rfl) (by kernel_rfl) (listed2 := #[true, true, true, true, true, true, true, true, true, true, true, true, true, true, true, true, true, true, false, false, false, false, false, false, false, false, false, false, false, false]) (by kernel_rfl) rfl rfl rfl rfl (rfl) (rfl) (by omega) (v := ((r : Int) * 4294967296)) (S_shl32 ⟨by omega, by omega⟩) hS_ ?_
      refine D_move (i := 18) (by kernel_rfl) (by kernel_rfl) (by kernel_rfl) (listed2 := #[true, true, true, true, true, true, true, true, true, true, true, true, true, true, true, true, true, true, true, false, false, false, false, false, false, false, false, false, false, false]) (by kernel_rfl) rfl rfl rfl (v := va) (s0) hS_ ?_
      refine D_move (i := 19) (by kernel_rfl) (by kernel_rfl) (by kernel_rfl) (listed2 := #[true, true, true, true, true, true, true, true, true, true, true, true, true, true, true, true, true, true, true, true, false, false, false, false, false, false, false, false, false, false]) (by kernel_rfl) rfl rfl rfl (v := (.int .i64 (i : Int))) (s2) hS_ ?_
      refine D_move (i := 20) (by kernel_rfl) (by kernel_rfl) (by kernel_rfl) (listed2 := #[true, true, true, true, true, true, true, true, true, true, true, true, true, true, true, true, true, true, true, true, true, false, false, false, false, false, false, false, false, false]) (by kernel_rfl) rfl rfl rfl (v := (.int .i64 (lb.length : Int))) (s7) hS_ ?_
      refine D_add64 (i := 21) (by kernel_rfl) (by kernel_rfl) (by kernel_rfl) (listed2 := #[true, true, true, true, true, true, true, true, true, true, true, true, true, true, true, true, true, true, true, true, true, true, false, false, false, false, false, false, false, false]) (by kernel_rfl) rfl rfl rfl rfl (rfl) (rfl) (by omega) hS_ ?_
      refine D_sub64 (i := 22) (by kernel_rfl) (by kernel_rfl) (by kernel_rfl) (listed2 := #[true, true, true, true, true, true, true, true, true, true, true, true, true, true, true, true, true, true, true, true, true, true, true, false, false, false, false, false, false, false]) (by kernel_rfl) rfl rfl rfl rfl (rfl) (rfl) (by omega) hS_ ?_
      obtain ⟨ad19, hp21, hc20⟩ := ha.at (i + m) (by omega)
      refine D_idx Tryz.underlying23 ti_uint32 (i := 23) (by kernel_rfl) (by kernel_rfl) (by kernel_rfl) (listed2 := #[true, true, true, true, true, true, true, true, true, true, true, true, true, true, true, true, true, true, true, true, true, true, true, true, false, false, false, false, false, false]) (by kernel_rfl) rfl rfl rfl rfl (rfl) (rfl) hp21 (by omega) hS_ ?_
      refine D_load (i := 24) (by kernel_rfl) (by kernel_rfl) (by kernel_rfl) (listed2 := #[true, true, true, true, true, true, true, true, true, true, true, true, true, true, true, true, true, true, true, true, true, true, true, true, true, false, false, false, false, false]) (by kernel_rfl) rfl rfl rfl (rfl) (fun _ hS2 => LD.one ti_uint32 (cell_below hS2 hc20)) hS_ ?_
      refine D_conv Tryz.underlying106 Tryz.underlying124 (i := 25) (by kernel_rfl) (by kernel_rfl) (by kernel_rfl) (listed2 := #[true, true, true, true, true, true, true, true, true, true, true, true, true, true, true, true, true, true, true, true, true, true, true, true, true, true, false, false, false, false]) (by kernel_rfl) rfl rfl rfl (rfl) (b := (u2 : Int)) ((wrap_u64 (by omega) (by omega)).trans hu2) hS_ ?_
      refine D_bits (i := 26) (by kernel_rfl) (by kernel_rfl) (by kernel_rfl) (listed2 := #[true, true, true, true, true, true, true, true, true, true, true, true, true, true, true, true, true, true, true, true, true, true, true, true, true, true, true, false, false, false]) (by kernel_rfl) rfl rfl rfl rfl (by simp) (rfl) (rfl) (v := ((r : Int) * 4294967296 + (u2 : Int))) (hi_lo ⟨by omega, by omega⟩ ⟨by omega, by omega⟩) hS_ ?_
      refine D_bin (i := 27) (by kernel_rfl) (by kernel_rfl) (by kernel_rfl) (listed2 := #[true, true, true, true, true, true, true, true, true, true, true, true, true, true, true, true, true, true, true, true, true, true, true, true, true, true, true, true, false, false]) (by kernel_rfl) rfl rfl rfl rfl rfl (rfl) (rfl) (v := .bool (decide (((q * v2 : Nat) : Int) > ((r : Int) * 4294967296 + (u2 : Int))))) rfl hS_ ?_
      refine D_pick (i := 28) (by kernel_rfl) (by kernel_rfl) (by kernel_rfl) (listed2 := #[true, true, true, true, true, true, true, true, true, true, true, true, true, true, true, true, true, true, true, true, true, true, true, true, true, true, true, true, true, false]) (by kernel_rfl) rfl rfl rfl rfl rfl (b := false) (rfl) (v := (.bool (decide (((q * v2 : Nat) : Int) > ((r : Int) * 4294967296 + (u2 : Int)))))) (rfl) hS_ ?_
      refine D_pick (i := 29) (by kernel_rfl) (by kernel_rfl) (by kernel_rfl) (listed2 := #[true, true, true, true, true, true, true, true, true, true, true, true, true, true, true, true, true, true, true, true, true, true, true, true, true, true, true, true, true, true]) (by kernel_rfl) rfl rfl rfl rfl rfl (b := true) (rfl) (v := (.bool (decide (((q * v2 : Nat) : Int) > ((r : Int) * 4294967296 + (u2 : Int)))))) (rfl) hS_ ?_
      refine D_done (by kernel_rfl) ?_
      change WP _ _ _ _ _ _
      refine W_cond rfl (rfl) (fun hq75 => ?_) (fun hq75 => ?_)
      · skip
        have pTFT := hq75
        replace hq75 := of_decide_eq_true hq75
        have qTFT := hq75
        have hqd := guess_dec hV hU hur hqr (show r * 4294967296 + u2 < q * v2 by omega) hvp
        try rw [pTFT]
        refine W_skip ?_
        change WP _ _ _ _ _ _
        refine W_block ?_
        refine W_seq ?_
        refine W_region rfl ?_
        refine S_move rfl rfl rfl (v := (.int .u64 (q : Int))) (s9) ?_
        refine S_bin rfl rfl rfl rfl rfl (rfl) (rfl) (v := .int .u64 ((q - 1 : Nat) : Int)) (congrArg (Value.int .u64) ((wrap_u64 (by omega) (by omega)).trans (by omega))) ?_
        refine S_assign rfl rfl rfl (v := (.int .u64 ((q - 1 : Nat) : Int))) (rfl) ?_
        refine OPS.nil ?_
        change WP _ _ _ _ _ _
        refine W_region rfl ?_
        refine S_move rfl rfl rfl (v := (.int .u64 (r : Int))) (s10) ?_
        refine S_move rfl rfl rfl (v := vb) (s1) ?_
        refine S_move rfl rfl rfl (v := (.int .i64 (lb.length : Int))) (s7) ?_
        refine S_sub64 rfl rfl rfl rfl (rfl) (rfl) (by omega) ?_
        obtain ⟨ad22, hp24, hc23⟩ := (hb.below E).at (m + 1) (by omega)
        refine S_idx Tryz.underlying23 ti_uint32 rfl rfl rfl rfl (rfl) (rfl) hp24 (by omega) ?_
        refine S_load rfl rfl rfl (rfl) (LD.one ti_uint32 hc23) ?_
        refine S_conv Tryz.underlying106 Tryz.underlying124 rfl rfl rfl (rfl) (b := (v1 : Int)) ((wrap_u64 (by omega) (by omega)).trans hv1) ?_
        refine S_bin rfl rfl rfl rfl rfl (rfl) (rfl) (v := .int .u64 ((r + v1 : Nat) : Int)) (congrArg (Value.int .u64) ((wrap_u64 (by omega) (by omega)).trans (by omega))) ?_
        refine S_assign rfl rfl rfl (v := (.int .u64 ((r + v1 : Nat) : Int))) (rfl) ?_
        refine OPS.nil ?_
        exact ⟨k - v1, by omega, q - 1, r + v1, s0, s1, s2, s7, rfl, rfl, by rw [Nat.sub_mul, Nat.one_mul]; have := Nat.mul_le_mul_right v1 hqd.1; omega, hqd.2, by omega, by omega, E⟩
      · skip
        have pTFF := hq75
        replace hq75 := of_decide_eq_false hq75
        have qTFF := hq75
        try rw [pTFF]
        refine W_exit ?_
        change WP _ _ _ _ _ _
        refine W_seq ?_
        refine W_region rfl ?_
        refine S_move rfl rfl rfl (v := (.int .u64 (q : Int))) (s9) ?_
        refine S_assign rfl rfl rfl (v := (.int .u64 (q : Int))) (rfl) ?_
        refine OPS.nil ?_
        change WP _ _ _ _ _ _
        refine W_ret ?_
        change Fin' _ _ _ _ _ _
        refine End1 (n := ⟨87, []⟩) (t := 6) rfl (by decide) (v := (.int .u64 (q : Int))) (rfl) ?_
        obtain ⟨f1, f2⟩ := guess_end hV hvr hv2l hU hub hv1p (by decide) hMp hqr (.inr ⟨by omega, by omega⟩)
        exact ⟨E, q, rfl, f1, hUq, f2⟩
  · skip
    rw [pF]
    have qF := ne_of_beq_false pF
    refine D_skip (d := 50) (op := .move _) (gd := some (3, true)) (i := 4) (by kernel_rfl) (by kernel_rfl) (by kernel_rfl) (listed2 := #[true, true, true, true, true, false, false, false, false, false, false, false, false, false, false, false, false, false, false, false, false, false, false, false, false, false, false, false, false, false]) (by kernel_rfl) rfl (wg_off rfl (rfl) rfl) hS_ ?_
    refine D_skip (d := 51) (op := .binOp _ _ _ _ _) (gd := some (3, true)) (i := 5) (by kernel_rfl) (by kernel_rfl) (by kernel_rfl) (listed2 := #[true, true, true, true, true, true, false, false, false, false, false, false, false, false, false, false, false, false, false, false, false, false, false, false, false, false, false, false, false, false]) (by kernel_rfl) rfl (wg_off rfl (rfl) rfl) hS_ ?_
    refine D_skip (d := 52) (op := .binOp _ _ _ _ _) (gd := some (3, true)) (i := 6) (by kernel_rfl) (by kernel_rfl) (by kernel_rfl) (listed2 := #[true, true, true, true, true, true, true, false, false, false, false, false, false, false, false, false, false, false, false, false, false, false, false, false, false, false, false, false, false, false]) (by kernel_rfl) rfl (wg_off rfl (rfl) rfl) hS_ ?_
    refine D_skip (d := 53) (op := .move _) (gd := some (3, true)) (i := 7) (by kernel_rfl) (by kernel_rfl) (by kernel_rfl) (listed2 := #[true, true, true, true, true, true, true, true, false, false, false, false, false, false, false, false, false, false, false, false, false, false, false, false, false, false, false, false, false, false]) (by kernel_rfl) rfl (wg_off rfl (rfl) rfl) hS_ ?_
    refine D_skip (d := 54) (op := .move _) (gd := some (7, false)) (i := 8) (by kernel_rfl) (by kernel_rfl) (by kernel_rfl) (listed2 := #[true, true, true, true, true, true, true, true, true, false, false, false, false, false, false, false, false, false, false, false, false, false, false, false, false, false, false, false, false, false]) (by kernel_rfl) rfl (wg_undef rfl (rfl)) hS_ ?_
    refine D_skip (d := 55) (op := .move _) (gd := some (7, false)) (i := 9) (by kernel_rfl) (by kernel_rfl) (by kernel_rfl) (listed2 := #[true, true, true, true, true, true, true, true, true, true, false, false, false, false, false, false, false, false, false, false, false, false, false, false, false, false, false, false, false, false]) (by kernel_rfl) rfl (wg_undef rfl (rfl)) hS_ ?_
    refine D_skip (d := 56) (op := .move _) (gd := some (7, false)) (i := 10) (by kernel_rfl) (by kernel_rfl) (by kernel_rfl) (listed2 := #[true, true, true, true, true, true, true, true, true, true, true, false, false, false, false, false, false, false, false, false, false, false, false, false, false, false, false, false, false, false]) (by kernel_rfl) rfl (wg_undef rfl (rfl)) hS_ ?_
    refine D_skip (d := 57) (op := .binOp _ _ _ _ _) (gd := some (7, false)) (i := 11) (by kernel_rfl) (by kernel_rfl) (by kernel_rfl) (listed2 := #[true, true, true, true, true, true, true, true, true, true, true, true, false, false, false, false, false, false, false, false, false, false, false, false, false, false, false, false, false, false]) (by kernel_rfl) rfl (wg_undef rfl (rfl)) hS_ ?_
    refine D_skip (d := 58) (op := .indexAddr _ _ _) (gd := some (7, false)) (i := 12) (by kernel_rfl) (by kernel_rfl) (by kernel_rfl) (listed2 := #[true, true, true, true, true, true, true, true, true, true, true, true, true, false, false, false, false, false, false, false, false, false, false, false, false, false, false, false, false, false]) (by kernel_rfl) rfl (wg_undef rfl (rfl)) hS_ ?_
    refine D_skip (d := 59) (op := .load _ _) (gd := some (7, false)) (i := 13) (by kernel_rfl) (by kernel_rfl) (by kernel_rfl) (listed2 := #[true, true, true, true, true, true, true, true, true, true, true, true, true, true, false, false, false, false, false, false, false, false, false, false, false, false, false, false, false, false]) (by kernel_rfl) rfl (wg_undef rfl (rfl)) hS_ ?_
    refine D_skip (d := 60) (op := .convert _ _ _) (gd := some (7, false)) (i := 14) (by kernel_rfl) (by kernel_rfl) (by kernel_rfl) (listed2 := #[true, true, true, true, true, true, true, true, true, true, true, true, true, true, true, false, false, false, false, false, false, false, false, false, false, false, false, false, false, false]) (by kernel_rfl) rfl (wg_undef rfl (rfl)) hS_ ?_
    refine D_skip (d := 61) (op := .binOp _ _ _ _ _) (gd := some (7, false)) (i := 15) (by kernel_rfl) (by kernel_rfl) (by kernel_rfl) (listed2 := #[true, true, true, true, true, true, true, true, true, true, true, true, true, true, true, true, false, false, false, false, false, false, false, false, false, false, false, false, false, false]) (by kernel_rfl) rfl (wg_undef rfl (rfl)) hS_ ?_
    refine D_skip (d := 62) (op := .move _) (gd := some (7, false)) (i := 16) (by kernel_rfl) (by kernel_rfl) (by kernel_rfl) (listed2 := #[true, true, true, true, true, true, true, true, true, true, true, true, true, true, true, true, true, false, false, false, false, false, false, false, false, false, false, false, false, false]) (by kernel_rfl) rfl (wg_undef rfl (rfl)) hS_ ?_
    refine D_skip (d := 63) (op := .binOp _ _ _ _ _) (gd := some (7, false)) (i := 17) (by kernel_rfl) (by kernel_rfl) (by kernel_rfl) (listed2 := #[true, true, true, true, true, true, true, true, true, true, true, true, true, true, true, true, true, true, false, false, false, false, false, false, false, false, false, false, false, false]) (by kernel_rfl) rfl (wg_undef rfl (rfl)) hS_ ?_
    refine D_skip (d := 64) (op := .move _) (gd := some (7, false)) (i := 18) (by kernel_rfl) (by kernel_rfl) (by kernel_rfl) (listed2 := #[true, true, true, true, true, true, true, true, true, true, true, true, true, true, true, true, true, true, true, false, false, false, false, false, false, false, false, false, false, false]) (by kernel_rfl) rfl (wg_undef rfl (rfl)) hS_ ?_
    refine D_skip (d := 65) (op := .move _) (gd := some (7, false)) (i := 19) (by kernel_rfl) (by kernel_rfl) (by kernel_rfl) (listed2 := #[true, true, true, true, true, true, true, true, true, true, true, true, true, true, true, true, true, true, true, true, false, false, false, false, false, false, false, false, false, false]) (by kernel_rfl) rfl (wg_undef rfl (rfl)) hS_ ?_
    refine D_skip (d := 66) (op := .move _) (gd := some (7, false)) (i := 20) (by kernel_rfl) (by kernel_rfl) (by kernel_rfl) (listed2 := #[true, true, true, true, true, true, true, true, true, true, true, true, true, true, true, true, true, true, true, true, true, false, false, false, false, false, false, false, false, false]) (by kernel_rfl) rfl (wg_undef rfl (rfl)) hS_ ?_
    refine D_skip (d := 67) (op := .binOp _ _ _ _ _) (gd := some (7, false)) (i := 21) (by kernel_rfl) (by kernel_rfl) (by kernel_rfl) (listed2 := #[true, true, true, true, true, true, true, true, true, true, true, true, true, true, true, true, true, true, true, true, true, true, false, false, false, false, false, false, false, false]) (by kernel_rfl) rfl (wg_undef rfl (rfl)) hS_ ?_
    refine D_skip (d := 68) (op := .binOp _ _ _ _ _) (gd := some (7, false)) (i := 22) (by kernel_rfl) (by kernel_rfl) (by kernel_rfl) (listed2 := #[true, true, true, true, true, true, true, true, true, true, true, true, true, true, true, true, true, true, true, true, true, true, true, false, false, false, false, false, false, false]) (by kernel_rfl) rfl (wg_undef rfl (rfl)) hS_ ?_
    refine D_skip (d := 69) (op := .indexAddr _ _ _) (gd := some (7, false)) (i := 23) (by kernel_rfl) (by kernel_rfl) (by kernel_rfl) (listed2 := #[true, true, true, true, true, true, true, true, true, true, true, true, true, true, true, true, true, true, true, true, true, true, true, true, false, false, false, false, false, false]) (by kernel_rfl) rfl (wg_undef rfl (rfl)) hS_ ?_
    refine D_skip (d := 70) (op := .load _ _) (gd := some (7, false)) (i := 24) (by kernel_rfl) (by kernel_rfl) (by kernel_rfl) (listed2 := #[true, true, true, true, true, true, true, true, true, true, true, true, true, true, true, true, true, true, true, true, true, true, true, true, true, false, false, false, false, false]) (by kernel_rfl) rfl (wg_undef rfl (rfl)) hS_ ?_
    refine D_skip (d := 71) (op := .convert _ _ _) (gd := some (7, false)) (i := 25) (by kernel_rfl) (by kernel_rfl) (by kernel_rfl) (listed2 := #[true, true, true, true, true, true, true, true, true, true, true, true, true, true, true, true, true, true, true, true, true, true, true, true, true, true, false, false, false, false]) (by kernel_rfl) rfl (wg_undef rfl (rfl)) hS_ ?_
    refine D_skip (d := 72) (op := .binOp _ _ _ _ _) (gd := some (7, false)) (i := 26) (by kernel_rfl) (by kernel_rfl) (by kernel_rfl) (listed2 := #[true, true, true, true, true, true, true, true, true, true, true, true, true, true, true, true, true, true, true, true, true, true, true, true, true, true, true, false, false, false]) (by kernel_rfl) rfl (wg_undef rfl (rfl)) hS_ ?_
    refine D_skip (d := 73) (op := .binOp _ _ _ _ _) (gd := some (7, false)) (i := 27) (by kernel_rfl) (by kernel_rfl) (by kernel_rfl) (listed2 := #[true, true, true, true, true, true, true, true, true, true, true, true, true, true, true, true, true, true, true, true, true, true, true, true, true, true, true, true, false, false]) (by kernel_rfl) rfl (wg_undef rfl (rfl)) hS_ ?_
    refine D_skip (d := 74) (op := .pick _ _ _) (gd := some (3, true)) (i := 28) (by kernel_rfl) (by kernel_rfl) (by kernel_rfl) (listed2 := #[true, true, true, true, true, true, true, true, true, true, true, true, true, true, true, true, true, true, true, true, true, true, true, true, true, true, true, true, true, false]) (by kernel_rfl) rfl (wg_off rfl (rfl) rfl) hS_ ?_
    refine D_pick (i := 29) (by kernel_rfl) (by kernel_rfl) (by kernel_rfl) (listed2 := #[true, true, true, true, true, true, true, true, true, true, true, true, true, true, true, true, true, true, true, true, true, true, true, true, true, true, true, true, true, true]) (by kernel_rfl) rfl rfl rfl rfl rfl (b := false) (rfl) (v := (.bool false)) (rfl) hS_ ?_
    refine D_done (by kernel_rfl) ?_
    change WP _ _ _ _ _ _
    refine W_cond rfl (b := false) (rfl) (fun h => (by cases h)) (fun _ => ?_)
    refine W_exit ?_
    change WP _ _ _ _ _ _
    refine W_seq ?_
    refine W_region rfl ?_
    refine S_move rfl rfl rfl (v := (.int .u64 (q : Int))) (s9) ?_
    refine S_assign rfl rfl rfl (v := (.int .u64 (q : Int))) (rfl) ?_
    refine OPS.nil ?_
    change WP _ _ _ _ _ _
    refine W_ret ?_
    change Fin' _ _ _ _ _ _
    refine End1 (n := ⟨87, []⟩) (t := 6) rfl (by decide) (v := (.int .u64 (q : Int))) (rfl) ?_
    obtain ⟨f1, f2⟩ := guess_end hV hvr hv2l hU hub hv1p (by decide) hMp hqr (.inl (by omega))
    exact ⟨E, q, rfl, f1, hUq, f2⟩

set_option maxHeartbeats 400000 in
theorem ref01Takes_c (w0 : World) (g m i : Nat) (vb : Value) (lb r0 : List Int) (hb : ∀ w, Upd g w0 w → RN 0 0 w vb lb) (b1 : Blk w0 g (nums .u32 r0) 106) (hm : r0.length = m) (hu : U32 r0) (hmx : m ≤ 9223372036854775807) (hin : i + lb.length < m) (q : Int) (hq : 0 ≤ q ∧ q < 4294967296) :
    Ret Tryz.prog 168 [(.slice (some ⟨g, 0, none⟩) m m), vb, (.int .i64 (i : Int)), (.int .u64 q)] w0 (fun r w1 => Upd g w0 w1 ∧ ∃ (xs : List Int) (owed : Int), r = .bool (decide (owed > 0)) ∧ 0 ≤ owed ∧ val ((r0.drop i).take (lb.length + 1)) + 4294967296 ^ (lb.length + 1) * owed.toNat = val ((xs.drop i).take (lb.length + 1)) + q.toNat * val lb ∧ xs.take i = r0.take i ∧ (∀ j, i + (lb.length + 1) ≤ j → xs.getD j 0 = r0.getD j 0) ∧ xs.length = m ∧ U32 xs ∧ Blk w1 g (nums .u32 xs) 106) := by
  have U := Upd.refl g w0
  have hu0 := (hb w0 U).u32
  have hlb := (hb w0 U).maxl
  refine Ret_of (n := 57) Tryz.func168 rfl rfl (Nat.le_of_ble_eq_true rfl) ?_
  refine W_seq ?_
  refine W_region rfl ?_
  refine S_assign rfl rfl rfl (v := (.bool false)) (rfl) ?_
  refine OPS.nil ?_
  change WP _ _ _ _ _ _
  refine W_seq ?_
  refine W_region rfl ?_
  refine S_assign rfl rfl rfl (v := (.int .u64 0)) (rfl) ?_
  refine OPS.nil ?_
  change WP _ _ _ _ _ _
  refine W_seq ?_
  refine W_seq ?_
  refine W_region rfl ?_
  refine S_assign rfl rfl rfl (v := (.int .i64 0)) (rfl) ?_
  refine OPS.nil ?_
  change WP _ _ _ _ _ _
  refine W_block ?_
  refine W_loop (fun p σ w => ∃ (k : Nat) (owed : Int) (xs : List Int), σ 0 = .slice (some ⟨g, 0, none⟩) m m ∧ σ 1 = vb ∧ σ 2 = .int .i64 (i : Int) ∧ σ 3 = .int .u64 q ∧ σ 9 = .int .u64 owed ∧ σ 10 = .int .i64 (k : Int) ∧ k + p = lb.length + 1 ∧ (0 ≤ owed ∧ owed ≤ 4294967296) ∧
      val ((r0.drop i).take k) + 4294967296 ^ k * owed.toNat = val ((xs.drop i).take k) + q.toNat * val (lb.take k) ∧ xs.take i = r0.take i ∧ (∀ j, i + k ≤ j → xs.getD j 0 = r0.getD j 0) ∧ xs.length = m ∧ U32 xs ∧ Blk w g (nums .u32 xs) 106 ∧ Upd g w0 w) (lb.length + 1) ⟨0, 0, r0, rfl, rfl, rfl, rfl, rfl, rfl, by omega, ⟨by decide, by decide⟩, by simp [val], rfl, fun _ _ => rfl, hm, hu, b1, U⟩ ?_
  rintro p σ w ⟨k, owed, xs, s0, s1, s2, s3, s9, s10, hkp, ho, hval, htk, hold, hxl, hxu, b1, U⟩
  have hux := hu.getD (i + k)
  have huy := hu0.getD k
  have hxi := hold (i + k) (by omega)
  have hmu := mul_lt hq huy
  refine W_seq ?_
  refine W_seq ?_
  refine W_region rfl ?_
  refine S_move rfl rfl rfl (v := (.int .i64 (k : Int))) (s10) ?_
  refine S_move rfl rfl rfl (v := vb) (s1) ?_
  refine S_len Tryz.underlying23 rfl rfl rfl (rfl) (m := lb.length) ((hb _ U).len) ?_
  refine S_bin rfl rfl rfl rfl rfl (rfl) (rfl) (v := .bool (decide ((k : Int) ≤ (lb.length : Int)))) rfl ?_
  refine OPS.nil ?_
  change WP _ _ _ _ _ _
  refine W_cond rfl (rfl) (fun hq16 => ?_) (fun hq16 => ?_)
  · skip
    have pT := hq16
    replace hq16 := of_decide_eq_true hq16
    have qT := hq16
    try rw [pT]
    refine W_skip ?_
    change WP _ _ _ _ _ _
    refine W_seq ?_
    refine W_block ?_
    refine W_seq ?_
    refine W_region rfl ?_
    refine S_move rfl rfl rfl (v := (.int .u64 owed)) (s9) ?_
    refine S_assign rfl rfl rfl (v := (.int .u64 owed)) (rfl) ?_
    refine OPS.nil ?_
    change WP _ _ _ _ _ _
    refine W_seq ?_
    refine W_seq ?_
    refine W_region rfl ?_
    refine S_move rfl rfl rfl (v := (.int .i64 (k : Int))) (s10) ?_
    refine S_move rfl rfl rfl (v := vb) (s1) ?_
    refine S_len Tryz.underlying23 rfl rfl rfl (rfl) (m := lb.length) ((hb _ U).len) ?_
    refine S_bin rfl rfl rfl rfl rfl (rfl) (rfl) (v := .bool (decide ((k : Int) < (lb.length : Int)))) rfl ?_
    refine OPS.nil ?_
    change WP _ _ _ _ _ _
    refine W_cond rfl (rfl) (fun hq23 => ?_) (fun hq23 => ?_)
    · skip
      have pTT := hq23
      replace hq23 := of_decide_eq_true hq23
      have qTT := hq23
      try rw [pTT]
      refine W_region rfl ?_
      refine S_move rfl rfl rfl (v := (.int .u64 owed)) (rfl) ?_
      refine S_move rfl rfl rfl (v := (.int .u64 q)) (s3) ?_
      refine S_move rfl rfl rfl (v := vb) (s1) ?_
      refine S_move rfl rfl rfl (v := (.int .i64 (k : Int))) (s10) ?_
      obtain ⟨ad1, hp3, hc2⟩ := (hb _ U).at k (by omega)
      refine S_idx Tryz.underlying23 ti_uint32 rfl rfl rfl rfl (rfl) (rfl) hp3 (by omega) ?_
      refine S_load rfl rfl rfl (rfl) (LD.one ti_uint32 hc2) ?_
      refine S_conv Tryz.underlying106 Tryz.underlying124 rfl rfl rfl (rfl) (b := (lb.getD k 0)) (wrap_u64 huy.1 (by omega)) ?_
      refine S_bin rfl rfl rfl rfl rfl (rfl) (rfl) (v := .int .u64 (q * (lb.getD k 0))) (congrArg _ (wrap_u64 (by omega) (by omega))) ?_
      refine S_bin rfl rfl rfl rfl rfl (rfl) (rfl) (v := .int .u64 (owed + (q * (lb.getD k 0)))) (congrArg _ (wrap_u64 (by omega) (by omega))) ?_
      refine S_assign rfl rfl rfl (v := (.int .u64 (owed + (q * (lb.getD k 0))))) (rfl) ?_
      refine OPS.nil ?_
      change WP _ _ _ _ _ _
      refine W_seq ?_
      refine W_region rfl ?_
      refine S_move rfl rfl rfl (v := (.slice (some ⟨g, 0, none⟩) m m)) (s0) ?_
      refine S_move rfl rfl rfl (v := (.int .i64 (i : Int))) (s2) ?_
      refine S_move rfl rfl rfl (v := (.int .i64 (k : Int))) (s10) ?_
      refine S_add64 rfl rfl rfl rfl (rfl) (rfl) (by omega) ?_
      refine S_idx Tryz.underlying23 ti_uint32 rfl rfl rfl rfl (rfl) (rfl) (j := (i + k)) (ad := ⟨g, (i + k), none⟩) (SlAt.own1 (by omega)) (by omega) ?_
      refine S_load rfl rfl rfl (rfl) (LD.one ti_uint32 (b1.num (by omega))) ?_
      refine S_conv Tryz.underlying106 Tryz.underlying124 rfl rfl rfl (rfl) (b := (r0.getD (i + k) 0)) ((wrap_u64 (by omega) (by omega)).trans hxi) ?_
      refine S_move rfl rfl rfl (v := (.int .u64 (owed + (q * (lb.getD k 0))))) (rfl) ?_
      refine S_bits rfl rfl rfl rfl (by simp) (rfl) (rfl) (v := ((owed + q * (lb.getD k 0)) % 4294967296)) (mask32 ⟨by omega, by omega⟩) ?_
      refine S_bin rfl rfl rfl rfl rfl (rfl) (rfl) (v := .int .u64 (((r0.getD (i + k) 0) - (owed + q * (lb.getD k 0)) % 4294967296) % 18446744073709551616)) (congrArg (Value.int .u64) (wrap_u64' _)) ?_
      refine S_assign rfl rfl rfl (v := (.int .u64 (((r0.getD (i + k) 0) - (owed + q * (lb.getD k 0)) % 4294967296) % 18446744073709551616))) (rfl) ?_
      refine OPS.nil ?_
      change WP _ _ _ _ _ _
      refine W_seq ?_
      refine W_region rfl ?_
      refine S_move rfl rfl rfl (v := (.slice (some ⟨g, 0, none⟩) m m)) (s0) ?_
      refine S_move rfl rfl rfl (v := (.int .i64 (i : Int))) (s2) ?_
      refine S_move rfl rfl rfl (v := (.int .i64 (k : Int))) (s10) ?_
      refine S_add64 rfl rfl rfl rfl (rfl) (rfl) (by omega) ?_
      refine S_move rfl rfl rfl (v := (.int .u64 (((r0.getD (i + k) 0) - (owed + q * (lb.getD k 0)) % 4294967296) % 18446744073709551616))) (rfl) ?_
      refine S_conv Tryz.underlying124 Tryz.underlying106 rfl rfl rfl (rfl) (b := ((((r0.getD (i + k) 0) - (owed + q * (lb.getD k 0)) % 4294967296) % 18446744073709551616) % 4294967296)) (wrap_u32' _) ?_
      refine S_idx Tryz.underlying23 ti_uint32 rfl rfl rfl rfl (rfl) (rfl) (j := (i + k)) (ad := ⟨g, (i + k), none⟩) (SlAt.own1 (by omega)) (by omega) ?_
      refine S_storeN ti_uint32 rfl rfl rfl rfl (g := g) (o := (i + k)) (rfl) (a := ((((r0.getD (i + k) 0) - (owed + q * (lb.getD k 0)) % 4294967296) % 18446744073709551616) % 4294967296)) (rfl) b1 (by omega) ?_
      intro w1 hU1 b1
      have U := U.trans hU1
      have hz1 := hU1.size
      refine OPS.nil ?_
      change WP _ _ _ _ _ _
      refine W_region rfl ?_
      refine S_move rfl rfl rfl (v := (.int .u64 (owed + (q * (lb.getD k 0))))) (rfl) ?_
      refine S_shr rfl rfl rfl rfl (rfl) (rfl) (by omega) (v := ((owed + (q * (lb.getD k 0))) / 4294967296)) (shr32 _) ?_
      refine S_move rfl rfl rfl (v := (.int .u64 (((r0.getD (i + k) 0) - (owed + q * (lb.getD k 0)) % 4294967296) % 18446744073709551616))) (rfl) ?_
      refine S_shr rfl rfl rfl rfl (rfl) (rfl) (by omega) (v := ((((r0.getD (i + k) 0) - (owed + q * (lb.getD k 0)) % 4294967296) % 18446744073709551616) / 9223372036854775808)) (shr63) ?_
      refine S_bin rfl rfl rfl rfl rfl (rfl) (rfl) (v := .int .u64 (((owed + (q * (lb.getD k 0))) / 4294967296) + ((((r0.getD (i + k) 0) - (owed + q * (lb.getD k 0)) % 4294967296) % 18446744073709551616) / 9223372036854775808))) (congrArg _ (wrap_u64 (by omega) (by omega))) ?_
      refine S_assign rfl rfl rfl (v := (.int .u64 (((owed + (q * (lb.getD k 0))) / 4294967296) + ((((r0.getD (i + k) 0) - (owed + q * (lb.getD k 0)) % 4294967296) % 18446744073709551616) / 9223372036854775808)))) (rfl) ?_
      refine OPS.nil ?_
      change WP _ _ _ _ _ _
      refine W_region rfl ?_
      refine S_move rfl rfl rfl (v := (.int .i64 (k : Int))) (s10) ?_
      refine S_add64 rfl rfl rfl rfl (rfl) (rfl) (by omega) ?_
      refine S_assign rfl rfl rfl (v := (.int .i64 ((k : Int) + 1))) (rfl) ?_
      refine OPS.nil ?_
      have e1 : (((r0.getD (i + k) 0) - (owed + q * (lb.getD k 0)) % 4294967296) % 18446744073709551616) % 4294967296 = ((r0.getD (i + k) 0) - (owed + q * (lb.getD k 0)) % 4294967296) % 4294967296 := by omega
      have e2 : (((r0.getD (i + k) 0) - (owed + q * (lb.getD k 0)) % 4294967296) % 18446744073709551616) / 9223372036854775808 = if (r0.getD (i + k) 0) < (owed + q * (lb.getD k 0)) % 4294967296 then 1 else 0 := by split <;> omega
      have hd := msub_digit (p := (owed + q * (lb.getD k 0))) hux (by omega)
      rw [← e1, ← e2] at hd
      exact ⟨p - 1, by omega, k + 1, _, _, s0, s1, s2, s3, rfl, int_eq (by omega), by omega, ⟨by omega, by omega⟩, msub_step (x := (r0.getD (i + k) 0)) (y := (lb.getD k 0)) (by omega) rfl rfl hux.1 huy.1 hq.1 ho.1 (by omega) (by omega) (by omega) hval, (set_take_le _ _ _ _ (by omega)).trans htk, fun j hj => by rw [getD_set_ne' _ _ _ _ (by omega)]; exact hold j (by omega), by simpa using hxl, hxu.set _ (by omega) (by omega), b1, U⟩
    · skip
      have pTF := hq23
      replace hq23 := of_decide_eq_false hq23
      have qTF := hq23
      try rw [pTF]
      refine W_skip ?_
      change WP _ _ _ _ _ _
      refine W_seq ?_
      refine W_region rfl ?_
      refine S_move rfl rfl rfl (v := (.slice (some ⟨g, 0, none⟩) m m)) (s0) ?_
      refine S_move rfl rfl rfl (v := (.int .i64 (i : Int))) (s2) ?_
      refine S_move rfl rfl rfl (v := (.int .i64 (k : Int))) (s10) ?_
      refine S_add64 rfl rfl rfl rfl (rfl) (rfl) (by omega) ?_
      refine S_idx Tryz.underlying23 ti_uint32 rfl rfl rfl rfl (rfl) (rfl) (j := (i + k)) (ad := ⟨g, (i + k), none⟩) (SlAt.own1 (by omega)) (by omega) ?_
      refine S_load rfl rfl rfl (rfl) (LD.one ti_uint32 (b1.num (by omega))) ?_
      refine S_conv Tryz.underlying106 Tryz.underlying124 rfl rfl rfl (rfl) (b := (r0.getD (i + k) 0)) ((wrap_u64 (by omega) (by omega)).trans hxi) ?_
      refine S_move rfl rfl rfl (v := (.int .u64 owed)) (rfl) ?_
      refine S_bits rfl rfl rfl rfl (by simp) (rfl) (rfl) (v := (owed % 4294967296)) (mask32 ⟨by omega, by omega⟩) ?_
      refine S_bin rfl rfl rfl rfl rfl (rfl) (rfl) (v := .int .u64 (((r0.getD (i + k) 0) - owed % 4294967296) % 18446744073709551616)) (congrArg (Value.int .u64) (wrap_u64' _)) ?_
      refine S_assign rfl rfl rfl (v := (.int .u64 (((r0.getD (i + k) 0) - owed % 4294967296) % 18446744073709551616))) (rfl) ?_
      refine OPS.nil ?_
      change WP _ _ _ _ _ _
      refine W_seq ?_
      refine W_region rfl ?_
      refine S_move rfl rfl rfl (v := (.slice (some ⟨g, 0, none⟩) m m)) (s0) ?_
      refine S_move rfl rfl rfl (v := (.int .i64 (i : Int))) (s2) ?_
      refine S_move rfl rfl rfl (v := (.int .i64 (k : Int))) (s10) ?_
      refine S_add64 rfl rfl rfl rfl (rfl) (rfl) (by omega) ?_
      refine S_move rfl rfl rfl (v := (.int .u64 (((r0.getD (i + k) 0) - owed % 4294967296) % 18446744073709551616))) (rfl) ?_
      refine S_conv Tryz.underlying124 Tryz.underlying106 rfl rfl rfl (rfl) (b := ((((r0.getD (i + k) 0) - owed % 4294967296) % 18446744073709551616) % 4294967296)) (wrap_u32' _) ?_
      refine S_idx Tryz.underlying23 ti_uint32 rfl rfl rfl rfl (rfl) (rfl) (j := (i + k)) (ad := ⟨g, (i + k), none⟩) (SlAt.own1 (by omega)) (by omega) ?_
      refine S_storeN ti_uint32 rfl rfl rfl rfl (g := g) (o := (i + k)) (rfl) (a := ((((r0.getD (i + k) 0) - owed % 4294967296) % 18446744073709551616) % 4294967296)) (rfl) b1 (by omega) ?_
      intro w2 hU2 b1
      have U := U.trans hU2
      have hz2 := hU2.size
      refine OPS.nil ?_
      change WP _ _ _ _ _ _
      refine W_region rfl ?_
      refine S_move rfl rfl rfl (v := (.int .u64 owed)) (rfl) ?_
      refine S_shr rfl rfl rfl rfl (rfl) (rfl) (by omega) (v := (owed / 4294967296)) (shr32 _) ?_
      refine S_move rfl rfl rfl (v := (.int .u64 (((r0.getD (i + k) 0) - owed % 4294967296) % 18446744073709551616))) (rfl) ?_
      refine S_shr rfl rfl rfl rfl (rfl) (rfl) (by omega) (v := ((((r0.getD (i + k) 0) - owed % 4294967296) % 18446744073709551616) / 9223372036854775808)) (shr63) ?_
      refine S_bin rfl rfl rfl rfl rfl (rfl) (rfl) (v := .int .u64 ((owed / 4294967296) + ((((r0.getD (i + k) 0) - owed % 4294967296) % 18446744073709551616) / 9223372036854775808))) (congrArg _ (wrap_u64 (by omega) (by omega))) ?_
      refine S_assign rfl rfl rfl (v := (.int .u64 ((owed / 4294967296) + ((((r0.getD (i + k) 0) - owed % 4294967296) % 18446744073709551616) / 9223372036854775808)))) (rfl) ?_
      refine OPS.nil ?_
      change WP _ _ _ _ _ _
      refine W_region rfl ?_
      refine S_move rfl rfl rfl (v := (.int .i64 (k : Int))) (s10) ?_
      refine S_add64 rfl rfl rfl rfl (rfl) (rfl) (by omega) ?_
      refine S_assign rfl rfl rfl (v := (.int .i64 ((k : Int) + 1))) (rfl) ?_
      refine OPS.nil ?_
      have hyl : (lb.getD k 0) = 0 := getD_out (by omega)
      have hp9 : owed = q * (lb.getD k 0) + owed := by rw [hyl]; omega
      have e1 : (((r0.getD (i + k) 0) - owed % 4294967296) % 18446744073709551616) % 4294967296 = ((r0.getD (i + k) 0) - owed % 4294967296) % 4294967296 := by omega
      have e2 : (((r0.getD (i + k) 0) - owed % 4294967296) % 18446744073709551616) / 9223372036854775808 = if (r0.getD (i + k) 0) < owed % 4294967296 then 1 else 0 := by split <;> omega
      have hd := msub_digit (p := owed) hux (by omega)
      rw [← e1, ← e2] at hd
      exact ⟨p - 1, by omega, k + 1, _, _, s0, s1, s2, s3, rfl, int_eq (by omega), by omega, ⟨by omega, by omega⟩, msub_step (x := (r0.getD (i + k) 0)) (y := (lb.getD k 0)) (by omega) rfl rfl hux.1 huy.1 hq.1 ho.1 (by omega) (by omega) (by omega) hval, (set_take_le _ _ _ _ (by omega)).trans htk, fun j hj => by rw [getD_set_ne' _ _ _ _ (by omega)]; exact hold j (by omega), by simpa using hxl, hxu.set _ (by omega) (by omega), b1, U⟩
  · skip
    have pF := hq16
    replace hq16 := of_decide_eq_false hq16
    have qF := hq16
    try rw [pF]
    refine W_exit ?_
    change WP _ _ _ _ _ _
    refine W_seq ?_
    refine W_region rfl ?_
    refine S_move rfl rfl rfl (v := (.int .u64 owed)) (s9) ?_
    refine S_bin rfl rfl rfl rfl rfl (rfl) (rfl) (v := .bool (decide (owed > 0))) rfl ?_
    refine S_assign rfl rfl rfl (v := (.bool (decide (owed > 0)))) (rfl) ?_
    refine OPS.nil ?_
    change WP _ _ _ _ _ _
    refine W_ret ?_
    change Fin' _ _ _ _ _ _
    refine End1 (n := ⟨57, []⟩) (t := 8) rfl (by decide) (v := (.bool (decide (owed > 0)))) (rfl) ?_
    have hkl : k = lb.length + 1 := by omega
    subst hkl
    have hbt : lb.take (lb.length + 1) = lb := List.take_of_length_le (by omega)
    rw [hbt] at hval
    exact ⟨U, xs, owed, rfl, ho.1, hval, htk, hold, hxl, hxu, b1⟩

set_option maxHeartbeats 400000 in
theorem ref01Gives_c (w0 : World) (g m i : Nat) (vb : Value) (lb r0 : List Int) (hb : ∀ w, Upd g w0 w → RN 0 0 w vb lb) (b1 : Blk w0 g (nums .u32 r0) 106) (hm : r0.length = m) (hu : U32 r0) (hmx : m ≤ 9223372036854775807) (hin : i + lb.length < m) :
    Ret Tryz.prog 169 [(.slice (some ⟨g, 0, none⟩) m m), vb, (.int .i64 (i : Int))] w0 (fun r w1 => Upd g w0 w1 ∧ ∃ (xs : List Int) (c : Int), val ((r0.drop i).take (lb.length + 1)) + val lb = val ((xs.drop i).take (lb.length + 1)) + 4294967296 ^ (lb.length + 1) * c.toNat ∧ xs.take i = r0.take i ∧ (∀ j, i + (lb.length + 1) ≤ j → xs.getD j 0 = r0.getD j 0) ∧ xs.length = m ∧ U32 xs ∧ Blk w1 g (nums .u32 xs) 106) := by
  have U := Upd.refl g w0
  have hu0 := (hb w0 U).u32
  have hlb := (hb w0 U).maxl
  refine Ret_of (n := 43) Tryz.func169 rfl rfl (Nat.le_of_ble_eq_true rfl) ?_
  refine W_seq ?_
  refine W_region rfl ?_
  refine S_assign rfl rfl rfl (v := (.int .u64 0)) (rfl) ?_
  refine OPS.nil ?_
  change WP _ _ _ _ _ _
  refine W_seq ?_
  refine W_region rfl ?_
  refine S_assign rfl rfl rfl (v := (.int .i64 0)) (rfl) ?_
  refine OPS.nil ?_
  change WP _ _ _ _ _ _
  refine W_block ?_
  refine W_loop (fun p σ w => ∃ (k : Nat) (c : Int) (xs : List Int), σ 0 = .slice (some ⟨g, 0, none⟩) m m ∧ σ 1 = vb ∧ σ 2 = .int .i64 (i : Int) ∧ σ 6 = .int .u64 c ∧ σ 7 = .int .i64 (k : Int) ∧ k + p = lb.length + 1 ∧ (0 ≤ c ∧ c ≤ 1) ∧
      val ((r0.drop i).take k) + val (lb.take k) = val ((xs.drop i).take k) + 4294967296 ^ k * c.toNat ∧ xs.take i = r0.take i ∧ (∀ j, i + k ≤ j → xs.getD j 0 = r0.getD j 0) ∧ xs.length = m ∧ U32 xs ∧ Blk w g (nums .u32 xs) 106 ∧ Upd g w0 w) (lb.length + 1) ⟨0, 0, r0, rfl, rfl, rfl, rfl, rfl, by omega, ⟨by decide, by decide⟩, by simp [val], rfl, fun _ _ => rfl, hm, hu, b1, U⟩ ?_
  rintro p σ w ⟨k, c, xs, s0, s1, s2, s6, s7, hkp, ho, hval, htk, hold, hxl, hxu, b1, U⟩
  have hux := hu.getD (i + k)
  have huy := hu0.getD k
  have hxi := hold (i + k) (by omega)
  refine W_seq ?_
  refine W_seq ?_
  refine W_region rfl ?_
  refine S_move rfl rfl rfl (v := (.int .i64 (k : Int))) (s7) ?_
  refine S_move rfl rfl rfl (v := vb) (s1) ?_
  refine S_len Tryz.underlying23 rfl rfl rfl (rfl) (m := lb.length) ((hb _ U).len) ?_
  refine S_bin rfl rfl rfl rfl rfl (rfl) (rfl) (v := .bool (decide ((k : Int) ≤ (lb.length : Int)))) rfl ?_
  refine OPS.nil ?_
  change WP _ _ _ _ _ _
  refine W_cond rfl (rfl) (fun hq11 => ?_) (fun hq11 => ?_)
  · skip
    have pT := hq11
    replace hq11 := of_decide_eq_true hq11
    have qT := hq11
    try rw [pT]
    refine W_skip ?_
    change WP _ _ _ _ _ _
    refine W_seq ?_
    refine W_block ?_
    refine W_seq ?_
    refine W_region rfl ?_
    refine S_move rfl rfl rfl (v := (.int .u64 c)) (s6) ?_
    refine S_move rfl rfl rfl (v := (.slice (some ⟨g, 0, none⟩) m m)) (s0) ?_
    refine S_move rfl rfl rfl (v := (.int .i64 (i : Int))) (s2) ?_
    refine S_move rfl rfl rfl (v := (.int .i64 (k : Int))) (s7) ?_
    refine S_add64 rfl rfl rfl rfl (rfl) (rfl) (by omega) ?_
    refine S_idx Tryz.underlying23 ti_uint32 rfl rfl rfl rfl (rfl) (rfl) (j := (i + k)) (ad := ⟨g, (i + k), none⟩) (SlAt.own1 (by omega)) (by omega) ?_
    refine S_load rfl rfl rfl (rfl) (LD.one ti_uint32 (b1.num (by omega))) ?_
    refine S_conv Tryz.underlying106 Tryz.underlying124 rfl rfl rfl (rfl) (b := (r0.getD (i + k) 0)) ((wrap_u64 (by omega) (by omega)).trans hxi) ?_
    refine S_bin rfl rfl rfl rfl rfl (rfl) (rfl) (v := .int .u64 (c + (r0.getD (i + k) 0))) (congrArg _ (wrap_u64 (by omega) (by omega))) ?_
    refine S_assign rfl rfl rfl (v := (.int .u64 (c + (r0.getD (i + k) 0)))) (rfl) ?_
    refine OPS.nil ?_
    change WP _ _ _ _ _ _
    refine W_seq ?_
    refine W_seq ?_
    refine W_region rfl ?_
    refine S_move rfl rfl rfl (v := (.int .i64 (k : Int))) (s7) ?_
    refine S_move rfl rfl rfl (v := vb) (s1) ?_
    refine S_len Tryz.underlying23 rfl rfl rfl (rfl) (m := lb.length) ((hb _ U).len) ?_
    refine S_bin rfl rfl rfl rfl rfl (rfl) (rfl) (v := .bool (decide ((k : Int) < (lb.length : Int)))) rfl ?_
    refine OPS.nil ?_
    change WP _ _ _ _ _ _
    refine W_cond rfl (rfl) (fun hq26 => ?_) (fun hq26 => ?_)
    · skip
      have pTT := hq26
      replace hq26 := of_decide_eq_true hq26
      have qTT := hq26
      try rw [pTT]
      refine W_region rfl ?_
      refine S_move rfl rfl rfl (v := (.int .u64 (c + (r0.getD (i + k) 0)))) (rfl) ?_
      refine S_move rfl rfl rfl (v := vb) (s1) ?_
      refine S_move rfl rfl rfl (v := (.int .i64 (k : Int))) (s7) ?_
      obtain ⟨ad4, hp6, hc5⟩ := (hb _ U).at k (by omega)
      refine S_idx Tryz.underlying23 ti_uint32 rfl rfl rfl rfl (rfl) (rfl) hp6 (by omega) ?_
      refine S_load rfl rfl rfl (rfl) (LD.one ti_uint32 hc5) ?_
      refine S_conv Tryz.underlying106 Tryz.underlying124 rfl rfl rfl (rfl) (b := (lb.getD k 0)) (wrap_u64 huy.1 (by omega)) ?_
      refine S_bin rfl rfl rfl rfl rfl (rfl) (rfl) (v := .int .u64 ((c + (r0.getD (i + k) 0)) + (lb.getD k 0))) (congrArg _ (wrap_u64 (by omega) (by omega))) ?_
      refine S_assign rfl rfl rfl (v := (.int .u64 ((c + (r0.getD (i + k) 0)) + (lb.getD k 0)))) (rfl) ?_
      refine OPS.nil ?_
      change WP _ _ _ _ _ _
      refine W_seq ?_
      refine W_region rfl ?_
      refine S_move rfl rfl rfl (v := (.slice (some ⟨g, 0, none⟩) m m)) (s0) ?_
      refine S_move rfl rfl rfl (v := (.int .i64 (i : Int))) (s2) ?_
      refine S_move rfl rfl rfl (v := (.int .i64 (k : Int))) (s7) ?_
      refine S_add64 rfl rfl rfl rfl (rfl) (rfl) (by omega) ?_
      refine S_move rfl rfl rfl (v := (.int .u64 ((c + (r0.getD (i + k) 0)) + (lb.getD k 0)))) (rfl) ?_
      refine S_conv Tryz.underlying124 Tryz.underlying106 rfl rfl rfl (rfl) (b := (((c + (r0.getD (i + k) 0)) + (lb.getD k 0)) % 4294967296)) (wrap_u32' _) ?_
      refine S_idx Tryz.underlying23 ti_uint32 rfl rfl rfl rfl (rfl) (rfl) (j := (i + k)) (ad := ⟨g, (i + k), none⟩) (SlAt.own1 (by omega)) (by omega) ?_
      refine S_storeN ti_uint32 rfl rfl rfl rfl (g := g) (o := (i + k)) (rfl) (a := (((c + (r0.getD (i + k) 0)) + (lb.getD k 0)) % 4294967296)) (rfl) b1 (by omega) ?_
      intro w1 hU1 b1
      have U := U.trans hU1
      have hz1 := hU1.size
      refine OPS.nil ?_
      change WP _ _ _ _ _ _
      refine W_region rfl ?_
      refine S_move rfl rfl rfl (v := (.int .u64 ((c + (r0.getD (i + k) 0)) + (lb.getD k 0)))) (rfl) ?_
      refine S_shr rfl rfl rfl rfl (rfl) (rfl) (by omega) (v := (((c + (r0.getD (i + k) 0)) + (lb.getD k 0)) / 4294967296)) (shr32 _) ?_
      refine S_assign rfl rfl rfl (v := (.int .u64 (((c + (r0.getD (i + k) 0)) + (lb.getD k 0)) / 4294967296))) (rfl) ?_
      refine OPS.nil ?_
      change WP _ _ _ _ _ _
      refine W_region rfl ?_
      refine S_move rfl rfl rfl (v := (.int .i64 (k : Int))) (s7) ?_
      refine S_add64 rfl rfl rfl rfl (rfl) (rfl) (by omega) ?_
      refine S_assign rfl rfl rfl (v := (.int .i64 ((k : Int) + 1))) (rfl) ?_
      refine OPS.nil ?_
      exact ⟨p - 1, by omega, k + 1, _, _, s0, s1, s2, rfl, int_eq (by omega), by omega, ⟨by omega, by omega⟩, aback_step (x := (r0.getD (i + k) 0)) (y := (lb.getD k 0)) (by omega) rfl rfl hux.1 huy.1 ho.1 (by omega) (by omega) (by omega) hval, (set_take_le _ _ _ _ (by omega)).trans htk, fun j hj => by rw [getD_set_ne' _ _ _ _ (by omega)]; exact hold j (by omega), by simpa using hxl, hxu.set _ (by omega) (by omega), b1, U⟩
    · skip
      have pTF := hq26
      replace hq26 := of_decide_eq_false hq26
      have qTF := hq26
      try rw [pTF]
      refine W_skip ?_
      change WP _ _ _ _ _ _
      refine W_seq ?_
      refine W_region rfl ?_
      refine S_move rfl rfl rfl (v := (.slice (some ⟨g, 0, none⟩) m m)) (s0) ?_
      refine S_move rfl rfl rfl (v := (.int .i64 (i : Int))) (s2) ?_
      refine S_move rfl rfl rfl (v := (.int .i64 (k : Int))) (s7) ?_
      refine S_add64 rfl rfl rfl rfl (rfl) (rfl) (by omega) ?_
      refine S_move rfl rfl rfl (v := (.int .u64 (c + (r0.getD (i + k) 0)))) (rfl) ?_
      refine S_conv Tryz.underlying124 Tryz.underlying106 rfl rfl rfl (rfl) (b := ((c + (r0.getD (i + k) 0)) % 4294967296)) (wrap_u32' _) ?_
      refine S_idx Tryz.underlying23 ti_uint32 rfl rfl rfl rfl (rfl) (rfl) (j := (i + k)) (ad := ⟨g, (i + k), none⟩) (SlAt.own1 (by omega)) (by omega) ?_
      refine S_storeN ti_uint32 rfl rfl rfl rfl (g := g) (o := (i + k)) (rfl) (a := ((c + (r0.getD (i + k) 0)) % 4294967296)) (rfl) b1 (by omega) ?_
      intro w2 hU2 b1
      have U := U.trans hU2
      have hz2 := hU2.size
      refine OPS.nil ?_
      change WP _ _ _ _ _ _
      refine W_region rfl ?_
      refine S_move rfl rfl rfl (v := (.int .u64 (c + (r0.getD (i + k) 0)))) (rfl) ?_
      refine S_shr rfl rfl rfl rfl (rfl) (rfl) (by omega) (v := ((c + (r0.getD (i + k) 0)) / 4294967296)) (shr32 _) ?_
      refine S_assign rfl rfl rfl (v := (.int .u64 ((c + (r0.getD (i + k) 0)) / 4294967296))) (rfl) ?_
      refine OPS.nil ?_
      change WP _ _ _ _ _ _
      refine W_region rfl ?_
      refine S_move rfl rfl rfl (v := (.int .i64 (k : Int))) (s7) ?_
      refine S_add64 rfl rfl rfl rfl (rfl) (rfl) (by omega) ?_
      refine S_assign rfl rfl rfl (v := (.int .i64 ((k : Int) + 1))) (rfl) ?_
      refine OPS.nil ?_
      have hyl : (lb.getD k 0) = 0 := getD_out (by omega)
      exact ⟨p - 1, by omega, k + 1, _, _, s0, s1, s2, rfl, int_eq (by omega), by omega, ⟨by omega, by omega⟩, aback_step (x := (r0.getD (i + k) 0)) (y := (lb.getD k 0)) (by omega) rfl rfl hux.1 huy.1 ho.1 (by omega) (by omega) (by omega) hval, (set_take_le _ _ _ _ (by omega)).trans htk, fun j hj => by rw [getD_set_ne' _ _ _ _ (by omega)]; exact hold j (by omega), by simpa using hxl, hxu.set _ (by omega) (by omega), b1, U⟩
  · skip
    have pF := hq11
    replace hq11 := of_decide_eq_false hq11
    have qF := hq11
    try rw [pF]
    refine W_exit ?_
    change Fin' _ _ _ _ _ _
    refine End0 rfl ?_
    have hkl : k = lb.length + 1 := by omega
    subst hkl
    have hbt : lb.take (lb.length + 1) = lb := List.take_of_length_le (by omega)
    rw [hbt] at hval
    exact ⟨U, xs, c, hval, htk, hold, hxl, hxu, b1⟩

end Go.Proofs.YtccmicegihlfbaaGreatDoor
