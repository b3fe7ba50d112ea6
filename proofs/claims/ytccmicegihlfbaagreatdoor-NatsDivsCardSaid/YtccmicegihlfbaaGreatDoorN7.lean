/- Numbers from 0 on: times a power of 2, and by it. -/
import Derived.Test.YtccmicegihlfbaaGreatDoorN6
import Derived.Test.YtccmicegihlfbaaGreatDoorTy
set_option linter.unusedVariables false
set_option linter.unusedSimpArgs false
namespace Go.Proofs.YtccmicegihlfbaaGreatDoor
open Go.RowKit


theorem pow_le31 {r : Nat} (h : r < 32) : 1 ≤ (2 : Int) ^ r ∧ (2 : Int) ^ r ≤ 2147483648 := by
  have h1 := Nat.pow_le_pow_right (by decide : 2 > 0) (show r ≤ 31 by omega)
  have h2 := Nat.pow_pos (n := r) (by decide : 2 > 0)
  have e : ((2 ^ r : Nat) : Int) = (2 : Int) ^ r := by simp
  omega
theorem shl_lt {x : Int} {r : Nat} (hx : 0 ≤ x ∧ x < 4294967296) (hr : r < 32) : 0 ≤ x * 2 ^ r ∧ x * 2 ^ r ≤ 9223372034707292160 := by
  obtain ⟨h1, h2⟩ := pow_le31 hr
  refine ⟨Int.mul_nonneg hx.1 (by omega), ?_⟩
  have := Int.mul_le_mul (a := x) (b := 2 ^ r) (c := 4294967295) (d := 2147483648) (by omega) h2 (by omega) (by decide)
  omega
theorem shl_eq {x : Int} {q : Nat} (hx : 0 ≤ x ∧ x < 4294967296) : IntKind.u64.wrap (x * 2 ^ (min (((q % 32 : Nat) : Int)).toNat IntKind.u64.bits)) = x * 2 ^ (q % 32) := by
  have hr : q % 32 < 32 := Nat.mod_lt _ (by decide)
  obtain ⟨h1, h2⟩ := shl_lt hx hr
  rw [show min (((q % 32 : Nat) : Int)).toNat IntKind.u64.bits = q % 32 by show min _ 64 = _; omega]
  exact wrap_u64 h1 (by omega)
theorem toNat_pow (x : Int) (r : Nat) (hx : 0 ≤ x) : (x * 2 ^ r).toNat = x.toNat * 2 ^ r := by
  have e : ((2 ^ r : Nat) : Int) = (2 : Int) ^ r := by simp
  rw [← e, Int.toNat_mul hx (Int.natCast_nonneg _), Int.toNat_natCast]
theorem or_add {a m r : Nat} (h : a < 2 ^ r) : a ||| (m * 2 ^ r) = a + m * 2 ^ r := by
  have := Nat.shiftLeft_add_eq_or_of_lt (a := m) (b := a) (i := r) h
  rw [Nat.shiftLeft_eq] at this
  rw [Nat.or_comm, ← this, Nat.add_comm]
theorem shl_low {x r : Nat} (hr : r ≤ 32) : (x * 2 ^ r) % 4294967296 = (x % 2 ^ (32 - r)) * 2 ^ r := by
  have e : (4294967296 : Nat) = 2 ^ (32 - r) * 2 ^ r := by rw [← Nat.pow_add]; rw [show 32 - r + r = 32 by omega]
  rw [e, Nat.mul_mod_mul_right]
theorem low_toNat {x : Int} {r : Nat} (hr : r < 32) (hx : 0 ≤ x ∧ x < 4294967296) : ((x * 2 ^ r) % 4294967296).toNat = (x.toNat % 2 ^ (32 - r)) * 2 ^ r := by
  have h := shl_low (x := x.toNat) (r := r) (by omega)
  rw [← h, ← toNat_pow x r hx.1]
  have := (shl_lt hx hr).1
  omega
theorem or_nat {a b m r : Nat} (ha : a < 2 ^ r) (h1 : a < 2 ^ 32) (h2 : b < 2 ^ 32) (hb : b = m * 2 ^ r) : a ||| b = a + b ∧ a + b < 4294967296 := by
  have h3 := Nat.or_lt_two_pow h1 h2
  have h4 : a ||| b = a + b := by rw [hb]; exact or_add ha
  rw [h4] at h3
  exact ⟨h4, h3⟩
theorem bit_or_add {a b : Int} (ha : 0 ≤ a ∧ a < 4294967296) (hb : 0 ≤ b ∧ b < 4294967296) (h : a.toNat ||| b.toNat = a.toNat + b.toNat) : bitV .or .u32 a b = a + b := by
  rw [bit_or ha hb, h, Int.natCast_add, Int.toNat_of_nonneg ha.1, Int.toNat_of_nonneg hb.1]
theorem or_low' {a b : Int} {m r : Nat} (ha : 0 ≤ a ∧ a < 4294967296) (hb : 0 ≤ b ∧ b < 4294967296) (hlt : a.toNat < 2 ^ r) (e : b.toNat = m * 2 ^ r) : bitV .or .u32 a b = a + b ∧ a + b < 4294967296 := by
  obtain ⟨h1, h2⟩ := or_nat hlt (lt32 ha) (lt32 hb) e
  exact ⟨bit_or_add ha hb h1, by omega⟩
theorem or_low {old x : Int} {r : Nat} (hr : r < 32) (ho : 0 ≤ old ∧ old < 4294967296) (hlt : old.toNat < 2 ^ r) (hx : 0 ≤ x ∧ x < 4294967296) :
    bitV .or .u32 old ((x * 2 ^ r) % 4294967296) = old + (x * 2 ^ r) % 4294967296 ∧ old + (x * 2 ^ r) % 4294967296 < 4294967296 :=
  or_low' ho (by omega) hlt (low_toNat hr hx)
theorem shift_hi {x r : Nat} (hx : x < 4294967296) : x * 2 ^ r / 4294967296 < 2 ^ r :=
  Nat.div_lt_of_lt_mul (Nat.mul_lt_mul_of_pos_right hx (Nat.pow_pos (by decide)))
theorem shift_sum {B z p q o t v0 v1 v2 : Nat} (h1 : v1 + B * o = v0 + B * p) (h2 : v2 + 0 = v1 + B * 4294967296 * q) (h3 : p + 4294967296 * q = o + t) : v2 = v0 + B * t := by
  have : B * p + B * 4294967296 * q = B * o + B * t := by
    rw [Nat.mul_assoc, ← Nat.mul_add, h3, Nat.mul_add]
  omega
theorem shift_arr (v i s x c : Nat) : 4294967296 ^ s * (v * c) + 4294967296 ^ (i + s) * (x * c) = 4294967296 ^ s * ((v + 4294967296 ^ i * x) * c) := by
  rw [Nat.pow_add, Nat.add_mul, Nat.mul_add]
  congr 1
  simp only [Nat.mul_assoc, Nat.mul_left_comm, Nat.mul_comm]
theorem shift_step {xs la : List Int} {i s r : Nat} {x : Int} (hi : i + s + 1 < xs.length) (hx : 0 ≤ x ∧ x < 4294967296) (hr : r < 32) (ex : la.getD i 0 = x) (ho : 0 ≤ xs.getD (i + s) 0) (hz : xs.getD (i + s + 1) 0 = 0)
    (h : val xs = 4294967296 ^ s * (val (la.take i) * 2 ^ r)) :
    val ((xs.set (i + s) (xs.getD (i + s) 0 + (x * 2 ^ r) % 4294967296)).set (i + s + 1) ((x * 2 ^ r) / 4294967296)) = 4294967296 ^ s * (val (la.take (i + 1)) * 2 ^ r) ∧ ((x * 2 ^ r) / 4294967296).toNat < 2 ^ r := by
  obtain ⟨h1, h2⟩ := shl_lt hx hr
  have hp := toNat_pow x r hx.1
  have hh := shift_hi (x := x.toNat) (r := r) (by omega)
  generalize x * 2 ^ r = n at *
  have e1 := val_set xs (i + s) (xs.getD (i + s) 0 + n % 4294967296) (by omega)
  have e2 := val_set (xs.set (i + s) (xs.getD (i + s) 0 + n % 4294967296)) (i + s + 1) (n / 4294967296) (by simpa using hi)
  rw [getD_set_ne' _ _ _ _ (by omega), hz, Int.toNat_zero, Nat.mul_zero, Nat.pow_succ] at e2
  have e3 : (xs.getD (i + s) 0 + n % 4294967296).toNat + 4294967296 * (n / 4294967296).toNat = (xs.getD (i + s) 0).toNat + n.toNat := by omega
  constructor
  · rw [shift_sum (z := 0) e1 e2 e3, h, hp, val_step la, ex]
    exact shift_arr _ _ _ _ _
  · rw [← hp] at hh
    have : (n / 4294967296).toNat = n.toNat / 4294967296 := by omega
    rw [this]; exact hh


theorem shift_end (v q : Nat) : 4294967296 ^ (q / 32) * (v * 2 ^ (q % 32)) = v * 2 ^ q := by
  have e : (4294967296 : Nat) = 2 ^ 32 := by decide
  rw [e, ← Nat.pow_mul, Nat.mul_left_comm, ← Nat.pow_add, Nat.div_add_mod]

set_option maxHeartbeats 400000 in
theorem natsShift_c (w0 : World) (va : Value) (la : List Int) (q : Nat) {a b : Nat} (ha : RN a b w0 va la) (hsa : la.length ≤ SZ) (hq : q ≤ 35184372088832) :
    Ret Tryz.prog 157 [va, .int .u64 (q : Int)] w0 (fun r w1 => Below w0.heap.size w0 w1 ∧ ON w0.heap.size w1 r (dg (val la * 2 ^ q))) := by
  have E := Below.refl w0.heap.size w0
  unfold SZ at hsa
  have hr : q % 32 < 32 := Nat.mod_lt _ (by decide)
  refine Ret_of (n := 53) Tryz.func157 rfl rfl (Nat.le_of_ble_eq_true rfl) ?_
  refine W_seq ?_
  refine W_region rfl ?_
  refine S_assign rfl rfl rfl (v := (.slice none 0 0)) (rfl) ?_
  refine OPS.nil ?_
  change WP _ _ _ _ _ _
  refine W_seq ?_
  refine W_region rfl ?_
  refine S_move rfl rfl rfl (v := .int .u64 (q : Int)) (rfl) ?_
  refine S_quo rfl rfl rfl rfl (rfl) (rfl) (by decide) (v := ((q / 32 : Nat) : Int)) (by rw [Int.tdiv_eq_ediv_of_nonneg (by omega)]; exact Eq.trans (wrap_u64 (by omega) (by omega)) (by omega)) ?_
  refine S_conv Tryz.underlying125 Tryz.underlying3 rfl rfl rfl (rfl) (b := ((q / 32 : Nat) : Int)) (wrap_i64 (by omega) (by omega)) ?_
  refine S_assign rfl rfl rfl (v := (.int .i64 ((q / 32 : Nat) : Int))) (rfl) ?_
  refine OPS.nil ?_
  change WP _ _ _ _ _ _
  refine W_seq ?_
  refine W_region rfl ?_
  refine S_move rfl rfl rfl (v := va) (rfl) ?_
  refine S_len Tryz.underlying23 rfl rfl rfl (rfl) (m := la.length) (ha.len) ?_
  refine S_move rfl rfl rfl (v := (.int .i64 ((q / 32 : Nat) : Int))) (rfl) ?_
  refine S_add64 rfl rfl rfl rfl (rfl) (rfl) (by omega) ?_
  refine S_add64 rfl rfl rfl rfl (rfl) (rfl) (by omega) ?_
  refine S_make Tryz.underlying23 ti_uint32 rfl rfl rfl rfl (rfl) (m := la.length + q / 32 + 1) (by omega) (by omega) (by omega) ?_
  intro g1 w1 hg1 hs1 hB1 b1
  rw [nums_rep] at b1
  have hz1 := hB1.size
  have E := Below.step E hB1
  refine S_assign rfl rfl rfl (v := (.slice (some ⟨g1, 0, none⟩) (la.length + q / 32 + 1) (la.length + q / 32 + 1))) (rfl) ?_
  refine OPS.nil ?_
  change WP _ _ _ _ _ _
  refine W_seq ?_
  refine W_seq ?_
  refine W_region rfl ?_
  obtain ⟨m, hmm⟩ : ∃ m, m = la.length + q / 32 + 1 := ⟨_, rfl⟩
  refine S_move rfl rfl rfl (v := va) (rfl) ?_
  refine S_len Tryz.underlying23 rfl rfl rfl (rfl) (m := la.length) (ha.len) ?_
  refine S_move rfl rfl rfl (v := (.int .i64 0)) (rfl) ?_
  refine OPS.nil ?_
  change WP _ _ _ _ _ _
  refine W_block ?_
  refine W_loop (fun k σ w => ∃ (i : Nat) (xs : List Int), σ 1 = .int .u64 (q : Int) ∧ σ 5 = .int .i64 ((q / 32 : Nat) : Int) ∧ σ 6 = .slice (some ⟨g1, 0, none⟩) m m ∧ σ 19 = va ∧ σ 20 = .int .i64 (la.length : Int) ∧ σ 21 = .int .i64 (i : Int) ∧ i + k = la.length ∧
      val xs = 4294967296 ^ (q / 32) * (val (la.take i) * 2 ^ (q % 32)) ∧ (xs.getD (i + q / 32) 0).toNat < 2 ^ (q % 32) ∧ (∀ j, i + q / 32 < j → xs.getD j 0 = 0) ∧ xs.length = m ∧ U32 xs ∧ Blk w g1 (nums .u32 xs) 106 ∧ Below w0.heap.size w0 w) (la.length) ⟨0, List.replicate m 0, rfl, rfl, by rw [hmm]; rfl, rfl, rfl, rfl, by omega, by rw [val_zeros]; simp [val], by rw [rep_getD]; exact Nat.pow_pos (by decide), fun j _ => rep_getD m j, by simp, U32.replicate m, by rw [hmm]; exact b1, E⟩ ?_
  rintro k σ w ⟨i, xs, s1, s5, s6, s19, s20, s21, hik, hval, hlow, hz, hxl, hxu, b1, E⟩
  have hua := ha.u32.getD i
  have huo := hxu.getD (i + q / 32)
  refine W_seq ?_
  refine W_region rfl ?_
  refine S_bin rfl rfl rfl rfl rfl (s21) (s20) rfl ?_
  refine OPS.nil ?_
  change WP _ _ _ _ _ _
  refine W_seq ?_
  refine W_cond rfl (rfl) (fun hq22 => ?_) (fun hq22 => ?_)
  · skip
    replace hq22 := of_decide_eq_true hq22
    refine W_skip ?_
    change WP _ _ _ _ _ _
    refine W_seq ?_
    refine W_block ?_
    refine W_seq ?_
    refine W_region rfl ?_
    refine S_move rfl rfl rfl (v := (.int .i64 (i : Int))) (s21) ?_
    obtain ⟨ad1, hp3, hc2⟩ := (ha.below E).at i (by omega)
    refine S_idx Tryz.underlying23 ti_uint32 rfl rfl rfl rfl (s19) (s21) hp3 (by omega) ?_
    refine S_load rfl rfl rfl (rfl) (LD.one ti_uint32 hc2) ?_
    refine S_assign rfl rfl rfl (v := (.int .i64 (i : Int))) (rfl) ?_
    refine S_assign rfl rfl rfl (v := (.int .u32 (la.getD i 0))) (rfl) ?_
    refine OPS.nil ?_
    change WP _ _ _ _ _ _
    refine W_seq ?_
    refine W_region rfl ?_
    obtain ⟨hn1, hn2⟩ := shl_lt hua hr
    obtain ⟨ho1, ho2⟩ := or_low hr huo hlow hua
    have hst := shift_step (s := q / 32) (by omega) hua hr rfl huo.1 (hz _ (by omega)) hval
    refine S_move rfl rfl rfl (v := (.int .u32 (la.getD i 0))) (rfl) ?_
    refine S_conv Tryz.underlying106 Tryz.underlying124 rfl rfl rfl (rfl) (b := (la.getD i 0)) (wrap_u64 hua.1 (by omega)) ?_
    refine S_move rfl rfl rfl (v := (.int .u64 (q : Int))) (s1) ?_
    refine S_rem rfl rfl rfl rfl (rfl) (rfl) (by decide) (v := ((q % 32 : Nat) : Int)) (by rw [Int.tmod_eq_emod_of_nonneg (by omega)]; omega) ?_
    refine S_shl rfl rfl rfl rfl (rfl) (rfl) (by omega) (v := (la.getD i 0 * 2 ^ (q % 32))) (shl_eq hua) ?_
    refine S_assign rfl rfl rfl (v := (.int .u64 (la.getD i 0 * 2 ^ (q % 32)))) (rfl) ?_
    refine OPS.nil ?_
    change WP _ _ _ _ _ _
    refine W_seq ?_
    refine W_region rfl ?_
    refine S_move rfl rfl rfl (v := (.slice (some ⟨g1, 0, none⟩) m m)) (s6) ?_
    refine S_move rfl rfl rfl (v := (.int .i64 (i : Int))) (rfl) ?_
    refine S_move rfl rfl rfl (v := (.int .i64 ((q / 32 : Nat) : Int))) (s5) ?_
    refine S_add64 rfl rfl rfl rfl (rfl) (rfl) (by omega) ?_
    refine S_idx Tryz.underlying23 ti_uint32 rfl rfl rfl rfl (rfl) (rfl) (j := (i + q / 32)) (ad := ⟨g1, (i + q / 32), none⟩) (SlAt.own1 (by omega)) (by omega) ?_
    refine S_load rfl rfl rfl (rfl) (LD.one ti_uint32 (b1.num (by omega))) ?_
    refine S_move rfl rfl rfl (v := (.int .u64 (la.getD i 0 * 2 ^ (q % 32)))) (rfl) ?_
    refine S_conv Tryz.underlying124 Tryz.underlying106 rfl rfl rfl (rfl) (b := ((la.getD i 0 * 2 ^ (q % 32)) % 4294967296)) (wrap_u32' _) ?_
    refine S_bits rfl rfl rfl rfl (by simp) (rfl) (rfl) (v := ((xs.getD (i + q / 32) 0) + (la.getD i 0 * 2 ^ (q % 32)) % 4294967296)) (ho1) ?_
    refine S_idx Tryz.underlying23 ti_uint32 rfl rfl rfl rfl (rfl) (rfl) (j := (i + q / 32)) (ad := ⟨g1, (i + q / 32), none⟩) (SlAt.own1 (by omega)) (by omega) ?_
    refine S_storeN ti_uint32 rfl rfl rfl rfl (g := g1) (o := (i + q / 32)) (rfl) (a := ((xs.getD (i + q / 32) 0) + (la.getD i 0 * 2 ^ (q % 32)) % 4294967296)) (rfl) b1 (by omega) ?_
    intro w2 hU2 b1
    have E := Below.stepU E hU2 (by omega)
    have hz2 := hU2.size
    refine OPS.nil ?_
    change WP _ _ _ _ _ _
    refine W_region rfl ?_
    refine S_move rfl rfl rfl (v := (.slice (some ⟨g1, 0, none⟩) m m)) (s6) ?_
    refine S_move rfl rfl rfl (v := (.int .i64 (i : Int))) (rfl) ?_
    refine S_move rfl rfl rfl (v := (.int .i64 ((q / 32 : Nat) : Int))) (s5) ?_
    refine S_add64 rfl rfl rfl rfl (rfl) (rfl) (by omega) ?_
    refine S_add64 rfl rfl rfl rfl (rfl) (rfl) (by omega) ?_
    refine S_move rfl rfl rfl (v := (.int .u64 (la.getD i 0 * 2 ^ (q % 32)))) (rfl) ?_
    refine S_shr rfl rfl rfl rfl (rfl) (rfl) (by omega) (v := ((la.getD i 0 * 2 ^ (q % 32)) / 4294967296)) (shr32 _) ?_
    refine S_conv Tryz.underlying124 Tryz.underlying106 rfl rfl rfl (rfl) (b := ((la.getD i 0 * 2 ^ (q % 32)) / 4294967296)) (wrap_u32 (by omega) (by omega)) ?_
    refine S_idx Tryz.underlying23 ti_uint32 rfl rfl rfl rfl (rfl) (rfl) (j := (i + q / 32 + 1)) (ad := ⟨g1, (i + q / 32 + 1), none⟩) (SlAt.own1 (by omega)) (by omega) ?_
    refine S_storeN ti_uint32 rfl rfl rfl rfl (g := g1) (o := (i + q / 32 + 1)) (rfl) (a := ((la.getD i 0 * 2 ^ (q % 32)) / 4294967296)) (rfl) b1 (by simp; omega) ?_
    intro w3 hU3 b1
    have E := Below.stepU E hU3 (by omega)
    have hz3 := hU3.size
    refine OPS.nil ?_
    change WP _ _ _ _ _ _
    refine W_region rfl ?_
    refine S_add64 rfl rfl rfl rfl (s21) (rfl) (by omega) ?_
    refine S_move rfl rfl rfl (v := (.int .i64 ((i : Int) + 1))) (rfl) ?_
    refine OPS.nil ?_
    exact ⟨k - 1, by omega, i + 1, _, s1, s5, s6, s19, s20, int_eq (by omega), by omega, hst.1, by rw [show i + 1 + q / 32 = i + q / 32 + 1 by omega, getD_set_eq' _ _ _ (by simp; omega)]; exact hst.2, fun j hj => by rw [getD_set_ne' _ _ _ _ (by omega), getD_set_ne' _ _ _ _ (by omega)]; exact hz j (by omega), by simpa using hxl, (hxu.set _ (by omega) (by omega)).set _ (by omega) (by omega), b1, E⟩
  · skip
    replace hq22 := of_decide_eq_false hq22
    refine W_exit ?_
    change WP _ _ _ _ _ _
    refine W_seq ?_
    refine W_region rfl ?_
    refine S_move rfl rfl rfl (v := (.slice (some ⟨g1, 0, none⟩) m m)) (s6) ?_
    refine S_call en_nats_cut rfl rfl rfl (vs := [(.slice (some ⟨g1, 0, none⟩) m m)]) (rfl) (natsCut_c _ _ xs (RN.ofNums (a := 0) (b := 0) b1 hxu hxl (by omega))) ?_
    rintro r _ ⟨⟨A, c', k', hv, hr', hk', ht⟩, rfl⟩
    refine S_assign rfl rfl rfl (v := r) (rfl) ?_
    refine OPS.nil ?_
    change WP _ _ _ _ _ _
    refine W_ret ?_
    change Fin' _ _ _ _ _ _
    refine End1 (n := ⟨53, []⟩) (t := 4) rfl (by decide) (v := r) (rfl) ?_
    have hi : i = la.length := by omega
    subst hi
    rw [List.take_length] at hval
    have := cut_on b1 hxu (B := w0.heap.size) (by omega) hxl (by omega) hv hr' hk' ht
    rw [hval, show 4294967296 ^ (q / 32) * (val la * 2 ^ (q % 32)) = val la * 2 ^ q from shift_end (val la) q] at this
    exact ⟨E, this⟩


theorem back_digit {v0 v1 w : Nat} {r : Nat} (hr : r < 32) : ((v0 + 4294967296 * (v1 + 4294967296 * w)) / 2 ^ r) % 4294967296 = ((v1 * 4294967296 + v0) / 2 ^ r) % 4294967296 := by
  have hp : 0 < 2 ^ r := Nat.pow_pos (by decide)
  have e : (4294967296 : Nat) = 2 ^ (32 - r) * 2 ^ r := by rw [← Nat.pow_add, show 32 - r + r = 32 by omega]
  have e2 : v0 + 4294967296 * (v1 + 4294967296 * w) = (v1 * 4294967296 + v0) + 2 ^ r * (2 ^ (32 - r) * (4294967296 * w)) := by
    have : 2 ^ r * (2 ^ (32 - r) * (4294967296 * w)) = 4294967296 * (4294967296 * w) := by
      rw [← Nat.mul_assoc, Nat.mul_comm (2 ^ r) (2 ^ (32 - r)), ← e]
    rw [this]; omega
  rw [e2, Nat.add_mul_div_left _ _ hp, Nat.mul_left_comm, Nat.add_mul_mod_self_left]
theorem val_drop (l : List Int) (i : Nat) : val l / 4294967296 ^ i = val (l.drop i) ∨ True := .inr trivial
theorem val_split (l : List Int) (i : Nat) (h : U32 l) : val l / 4294967296 ^ i = val (l.drop i) := by
  have e : val l = val (l.take i) + 4294967296 ^ (l.take i).length * val (l.drop i) := by
    rw [← val_append, List.take_append_drop]
  by_cases hi : i ≤ l.length
  · rw [List.length_take, Nat.min_eq_left hi] at e
    have := val_lt (h.take i)
    rw [List.length_take, Nat.min_eq_left hi] at this
    rw [e, Nat.add_mul_div_left _ _ (pow_pos' i), Nat.div_eq_of_lt this, Nat.zero_add]
  · rw [List.drop_of_length_le (by omega), val_nil]
    refine Nat.div_eq_of_lt (Nat.lt_of_lt_of_le (val_lt h) (Nat.pow_le_pow_right (by decide) (by omega)))
theorem val_drop_step (l : List Int) (i : Nat) : val (l.drop i) = (l.getD i 0).toNat + 4294967296 * val (l.drop (i + 1)) := by
  by_cases hi : i < l.length
  · rw [List.drop_eq_getElem_cons hi, val_cons, List.getD_eq_getElem?_getD, List.getElem?_eq_getElem hi]; rfl
  · rw [List.drop_of_length_le (by omega), List.drop_of_length_le (by omega), List.getD_eq_getElem?_getD, List.getElem?_eq_none (by omega)]; rfl
/-- The i-th part of a number by 2 to some power below 32, s parts less. -/
theorem back_part {la : List Int} (hu : U32 la) {i s r : Nat} (hr : r < 32) :
    (val la / 4294967296 ^ s / 2 ^ r / 4294967296 ^ i) % 4294967296 = (((la.getD (i + s + 1) 0).toNat * 4294967296 + (la.getD (i + s) 0).toNat) / 2 ^ r) % 4294967296 := by
  rw [Nat.div_div_eq_div_mul (val la / 4294967296 ^ s) (2 ^ r) (4294967296 ^ i), Nat.mul_comm (2 ^ r), ← Nat.div_div_eq_div_mul (val la / 4294967296 ^ s) (4294967296 ^ i) (2 ^ r), Nat.div_div_eq_div_mul (val la), ← Nat.pow_add, val_split la (s + i) hu, Nat.add_comm s i, val_drop_step la (i + s), val_drop_step la (i + s + 1)]
  exact back_digit hr
theorem mod_step (v B i : Nat) (hB : 0 < B) : v % B ^ (i + 1) = v % B ^ i + B ^ i * ((v / B ^ i) % B) := by
  rw [Nat.pow_succ, Nat.mod_mul]


theorem shr_eq {x : Int} {q : Nat} (hx : 0 ≤ x) : x.fdiv (2 ^ (min (((q % 32 : Nat) : Int)).toNat IntKind.u64.bits)) = ((x.toNat / 2 ^ (q % 32) : Nat) : Int) := by
  rw [show min (((q % 32 : Nat) : Int)).toNat IntKind.u64.bits = q % 32 by show min _ 64 = _; omega, Int.fdiv_eq_ediv_of_nonneg _ (Int.pow_nonneg (by decide))]
  have e : ((2 ^ (q % 32) : Nat) : Int) = (2 : Int) ^ (q % 32) := by simp
  rw [← e, Int.natCast_ediv, Int.toNat_of_nonneg hx]


theorem back_end {la : List Int} (hu : U32 la) {q n : Nat} (hn : n = la.length - q / 32) : (val la / 4294967296 ^ (q / 32) / 2 ^ (q % 32)) % 4294967296 ^ n = val la / 2 ^ q := by
  have e : val la / 4294967296 ^ (q / 32) / 2 ^ (q % 32) = val la / 2 ^ q := by
    rw [Nat.div_div_eq_div_mul, show (4294967296 : Nat) = 2 ^ 32 from by decide, ← Nat.pow_mul, ← Nat.pow_add, Nat.div_add_mod]
  rw [Nat.mod_eq_of_lt, e]
  refine Nat.lt_of_le_of_lt (Nat.div_le_self _ _) ?_
  rw [val_split la _ hu]
  have := val_lt (hu.drop (q / 32))
  rwa [List.length_drop, ← hn] at this

set_option maxHeartbeats 400000 in
theorem natsBack_c (w0 : World) (va : Value) (la : List Int) (q : Nat) {a b : Nat} (ha : RN a b w0 va la) (hsa : la.length ≤ SZ) (hq : q ≤ 35184372088832) :
    Ret Tryz.prog 158 [va, .int .u64 (q : Int)] w0 (fun r w1 => Below w0.heap.size w0 w1 ∧ ON w0.heap.size w1 r (dg (val la / 2 ^ q))) := by
  have E := Below.refl w0.heap.size w0
  unfold SZ at hsa
  have hr : q % 32 < 32 := Nat.mod_lt _ (by decide)
  refine Ret_of (n := 45) Tryz.func158 rfl rfl (Nat.le_of_ble_eq_true rfl) ?_
  refine W_seq ?_
  refine W_region rfl ?_
  refine S_assign rfl rfl rfl (v := (.slice none 0 0)) (rfl) ?_
  refine OPS.nil ?_
  change WP _ _ _ _ _ _
  refine W_seq ?_
  refine W_region rfl ?_
  refine S_move rfl rfl rfl (v := .int .u64 (q : Int)) (rfl) ?_
  refine S_quo rfl rfl rfl rfl (rfl) (rfl) (by decide) (v := ((q / 32 : Nat) : Int)) (by rw [Int.tdiv_eq_ediv_of_nonneg (by omega)]; exact Eq.trans (wrap_u64 (by omega) (by omega)) (by omega)) ?_
  refine S_conv Tryz.underlying125 Tryz.underlying3 rfl rfl rfl (rfl) (b := ((q / 32 : Nat) : Int)) (wrap_i64 (by omega) (by omega)) ?_
  refine S_assign rfl rfl rfl (v := (.int .i64 ((q / 32 : Nat) : Int))) (rfl) ?_
  refine OPS.nil ?_
  change WP _ _ _ _ _ _
  refine W_seq ?_
  refine W_region rfl ?_
  refine S_move rfl rfl rfl (v := va) (rfl) ?_
  refine S_len Tryz.underlying23 rfl rfl rfl (rfl) (m := la.length) (ha.len) ?_
  refine S_move rfl rfl rfl (v := (.int .i64 ((q / 32 : Nat) : Int))) (rfl) ?_
  refine S_sub64 rfl rfl rfl rfl (rfl) (rfl) (by omega) ?_
  refine S_max rfl rfl rfl rfl (rfl) (rfl) (v := (((la.length - q / 32) : Nat) : Int)) (by omega) ?_
  refine S_make Tryz.underlying23 ti_uint32 rfl rfl rfl rfl (rfl) (m := (la.length - q / 32)) (by omega) (by omega) (by omega) ?_
  intro g1 w1 hg1 hs1 hB1 b1
  rw [nums_rep] at b1
  have hz1 := hB1.size
  have E := Below.step E hB1
  refine S_assign rfl rfl rfl (v := (.slice (some ⟨g1, 0, none⟩) ((la.length - q / 32)) ((la.length - q / 32)))) (rfl) ?_
  refine OPS.nil ?_
  change WP _ _ _ _ _ _
  refine W_seq ?_
  refine W_seq ?_
  refine W_region rfl ?_
  obtain ⟨m, hmm⟩ : ∃ m, m = (la.length - q / 32) := ⟨_, rfl⟩
  refine S_move rfl rfl rfl (v := (.slice (some ⟨g1, 0, none⟩) ((la.length - q / 32)) ((la.length - q / 32)))) (rfl) ?_
  refine S_len Tryz.underlying23 rfl rfl rfl (rfl) (m := ((la.length - q / 32))) (⟨_, _, rfl⟩) ?_
  refine S_move rfl rfl rfl (v := (.int .i64 0)) (rfl) ?_
  refine OPS.nil ?_
  change WP _ _ _ _ _ _
  refine W_block ?_
  refine W_loop (fun k σ w => ∃ (i : Nat) (xs : List Int), σ 0 = va ∧ σ 1 = .int .u64 (q : Int) ∧ σ 5 = .int .i64 ((q / 32 : Nat) : Int) ∧ σ 6 = .slice (some ⟨g1, 0, none⟩) m m ∧ σ 18 = .int .i64 (m : Int) ∧ σ 19 = .int .i64 (i : Int) ∧ i + k = m ∧
      val (xs.take i) = (val la / 4294967296 ^ (q / 32) / 2 ^ (q % 32)) % 4294967296 ^ i ∧ xs.length = m ∧ U32 xs ∧ Blk w g1 (nums .u32 xs) 106 ∧ Below w0.heap.size w0 w) (m) ⟨0, List.replicate m 0, rfl, rfl, rfl, by rw [hmm]; rfl, by rw [hmm]; rfl, rfl, by omega, by simp [val, Nat.mod_one], by simp, U32.replicate m, by rw [hmm]; exact b1, E⟩ ?_
  rintro k σ w ⟨i, xs, s0, s1, s5, s6, s18, s19, hik, hval, hxl, hxu, b1, E⟩
  have hhi := ha.u32.getD (i + q / 32 + 1)
  have hlo := ha.u32.getD (i + q / 32)
  have hn1 : 0 ≤ ((la.getD (i + q / 32 + 1) 0) * 4294967296 + (la.getD (i + q / 32) 0)) := by omega
  have hpt := back_part ha.u32 (i := i) (s := q / 32) hr
  have hzn : ((la.getD (i + q / 32 + 1) 0) * 4294967296 + (la.getD (i + q / 32) 0)).toNat = (la.getD (i + q / 32 + 1) 0).toNat * 4294967296 + (la.getD (i + q / 32) 0).toNat := by omega
  have hzl := Nat.div_le_self ((la.getD (i + q / 32 + 1) 0) * 4294967296 + (la.getD (i + q / 32) 0)).toNat (2 ^ (q % 32))
  refine W_seq ?_
  refine W_region rfl ?_
  refine S_bin rfl rfl rfl rfl rfl (s19) (s18) rfl ?_
  refine OPS.nil ?_
  change WP _ _ _ _ _ _
  refine W_seq ?_
  refine W_cond rfl (rfl) (fun hq20 => ?_) (fun hq20 => ?_)
  · skip
    replace hq20 := of_decide_eq_true hq20
    refine W_skip ?_
    change WP _ _ _ _ _ _
    refine W_seq ?_
    refine W_block ?_
    refine W_seq ?_
    refine W_region rfl ?_
    refine S_move rfl rfl rfl (v := (.int .i64 (i : Int))) (s19) ?_
    refine S_assign rfl rfl rfl (v := (.int .i64 (i : Int))) (rfl) ?_
    refine OPS.nil ?_
    change WP _ _ _ _ _ _
    refine W_region rfl ?_
    refine S_move rfl rfl rfl (v := (.slice (some ⟨g1, 0, none⟩) m m)) (s6) ?_
    refine S_move rfl rfl rfl (v := (.int .i64 (i : Int))) (rfl) ?_
    refine S_move rfl rfl rfl (v := va) (s0) ?_
    refine S_move rfl rfl rfl (v := (.int .i64 (i : Int))) (rfl) ?_
    refine S_move rfl rfl rfl (v := (.int .i64 ((q / 32 : Nat) : Int))) (s5) ?_
    refine S_add64 rfl rfl rfl rfl (rfl) (rfl) (by omega) ?_
    refine S_add64 rfl rfl rfl rfl (rfl) (rfl) (by omega) ?_
    refine S_call en_nats_at rfl rfl rfl (vs := [va, (.int .i64 (((i : Int) + ((q / 32 : Nat) : Int)) + 1))]) (rfl) (natsAt_c _ _ _ _ (ha.below E)) ?_
    rintro _ _ ⟨rfl, rfl⟩
    refine S_shl rfl rfl rfl rfl (rfl) (rfl) (by omega) (v := ((la.getD (i + q / 32 + 1) 0) * 4294967296)) (S_shl32 hhi) ?_
    refine S_move rfl rfl rfl (v := va) (s0) ?_
    refine S_move rfl rfl rfl (v := (.int .i64 (i : Int))) (rfl) ?_
    refine S_move rfl rfl rfl (v := (.int .i64 ((q / 32 : Nat) : Int))) (s5) ?_
    refine S_add64 rfl rfl rfl rfl (rfl) (rfl) (by omega) ?_
    refine S_call en_nats_at rfl rfl rfl (vs := [va, (.int .i64 ((i : Int) + ((q / 32 : Nat) : Int)))]) (rfl) (natsAt_c _ _ _ _ (ha.below E)) ?_
    rintro _ _ ⟨rfl, rfl⟩
    refine S_bits rfl rfl rfl rfl (by simp) (rfl) (rfl) (v := ((la.getD (i + q / 32 + 1) 0) * 4294967296 + (la.getD (i + q / 32) 0))) (hi_lo hhi hlo) ?_
    refine S_move rfl rfl rfl (v := (.int .u64 (q : Int))) (s1) ?_
    refine S_rem rfl rfl rfl rfl (rfl) (rfl) (by decide) (v := ((q % 32 : Nat) : Int)) (by rw [Int.tmod_eq_emod_of_nonneg (by omega)]; omega) ?_
    refine S_shr rfl rfl rfl rfl (rfl) (rfl) (by omega) (v := ((((la.getD (i + q / 32 + 1) 0) * 4294967296 + (la.getD (i + q / 32) 0)).toNat / 2 ^ (q % 32) : Nat) : Int)) (shr_eq hn1) ?_
    refine S_conv Tryz.underlying124 Tryz.underlying106 rfl rfl rfl (rfl) (b := (((((la.getD (i + q / 32 + 1) 0) * 4294967296 + (la.getD (i + q / 32) 0)).toNat / 2 ^ (q % 32) : Nat) : Int) % 4294967296)) (wrap_u32' _) ?_
    refine S_idx Tryz.underlying23 ti_uint32 rfl rfl rfl rfl (rfl) (rfl) (j := i) (ad := ⟨g1, i, none⟩) (SlAt.own1 (by omega)) (by omega) ?_
    refine S_storeN ti_uint32 rfl rfl rfl rfl (g := g1) (o := i) (rfl) (a := (((((la.getD (i + q / 32 + 1) 0) * 4294967296 + (la.getD (i + q / 32) 0)).toNat / 2 ^ (q % 32) : Nat) : Int) % 4294967296)) (rfl) b1 (by omega) ?_
    intro w2 hU2 b1
    have E := Below.stepU E hU2 (by omega)
    have hz2 := hU2.size
    refine OPS.nil ?_
    change WP _ _ _ _ _ _
    refine W_region rfl ?_
    refine S_add64 rfl rfl rfl rfl (s19) (rfl) (by omega) ?_
    refine S_move rfl rfl rfl (v := (.int .i64 ((i : Int) + 1))) (rfl) ?_
    refine OPS.nil ?_
    exact ⟨k - 1, by omega, i + 1, _, s0, s1, s5, s6, s18, int_eq (by omega), by omega, by rw [val_set_take _ _ _ (by omega), mod_step _ _ _ (by decide), hval, hpt, ← hzn]; congr 2, by simpa using hxl, hxu.set _ (by omega) (by omega), b1, E⟩
  · skip
    replace hq20 := of_decide_eq_false hq20
    refine W_exit ?_
    change WP _ _ _ _ _ _
    refine W_seq ?_
    refine W_region rfl ?_
    refine S_move rfl rfl rfl (v := (.slice (some ⟨g1, 0, none⟩) m m)) (s6) ?_
    refine S_call en_nats_cut rfl rfl rfl (vs := [(.slice (some ⟨g1, 0, none⟩) m m)]) (rfl) (natsCut_c _ _ xs (RN.ofNums (a := 0) (b := 0) b1 hxu hxl (by omega))) ?_
    rintro r _ ⟨⟨A, c', k', hv, hr', hk', ht⟩, rfl⟩
    refine S_assign rfl rfl rfl (v := r) (rfl) ?_
    refine OPS.nil ?_
    change WP _ _ _ _ _ _
    refine W_ret ?_
    change Fin' _ _ _ _ _ _
    refine End1 (n := ⟨45, []⟩) (t := 4) rfl (by decide) (v := r) (rfl) ?_
    have hi : i = xs.length := by omega
    subst hi
    rw [List.take_length] at hval
    have := cut_on b1 hxu (B := w0.heap.size) (by omega) hxl (by omega) hv hr' hk' ht
    rw [hval, back_end ha.u32 (hxl.trans hmm)] at this
    exact ⟨E, this⟩

end Go.Proofs.YtccmicegihlfbaaGreatDoor
