/- The document's quotients: parts. -/
import Derived.Test.YtccmicegihlfbaaGreatDoorS2
import Derived.Test.YtccmicegihlfbaaGreatDoorTy
set_option linter.unusedVariables false
set_option linter.unusedSimpArgs false
namespace Go.Proofs.YtccmicegihlfbaaGreatDoor
open Go.RowKit


theorem Upd.refl (g : Nat) (w : World) : Upd g w w := ⟨rfl, rfl, rfl, rfl, fun _ _ => rfl⟩
theorem Upd.trans {g : Nat} {a b c : World} (h : Upd g a b) (k : Upd g b c) : Upd g a c :=
  ⟨k.os.trans h.os, k.tape.trans h.tape, k.output.trans h.output, k.size.trans h.size, fun j hj => (k.block j hj).trans (h.block j hj)⟩
theorem quo64 {z y : Int} (hz : 0 ≤ z ∧ z < 18446744073709551616) (hy : 0 < y) : IntKind.u64.wrap (z.tdiv y) = z / y := by
  rw [Int.tdiv_eq_ediv_of_nonneg hz.1]
  have h1 := Int.ediv_nonneg hz.1 (show 0 ≤ y by omega)
  have h2 := Int.ediv_le_self y hz.1
  exact wrap_u64 h1 (by omega)
theorem quoN {z y : Nat} {a b : Int} (ha : a = (z : Int)) (hb : b = (y : Int)) (hz : z < 18446744073709551616) (hy : 0 < y) : IntKind.u64.wrap (a.tdiv b) = ((z / y : Nat) : Int) := by
  subst ha hb
  rw [quo64 (by omega) (by omega), Int.natCast_ediv]
theorem remN {z y : Nat} {a b : Int} (ha : a = (z : Int)) (hb : b = (y : Int)) : a.tmod b = ((z % y : Nat) : Int) := by
  subst ha hb
  rw [Int.tmod_eq_emod_of_nonneg (by omega), Int.natCast_emod]
theorem mulN {x y : Nat} (h : x * y < 18446744073709551616) : IntKind.u64.wrap ((x : Int) * (y : Int)) = ((x * y : Nat) : Int) := by
  rw [← Int.natCast_mul]
  generalize x * y = z at *
  exact wrap_u64 (by omega) (by omega)
theorem mask32 {x : Int} (hx : 0 ≤ x ∧ x < 18446744073709551616) : bitV .and .u64 x 4294967295 = x % 4294967296 := by
  show IntKind.u64.wrap (((BitVec.ofInt 64 x &&& BitVec.ofInt 64 4294967295).toNat : Nat) : Int) = _
  have h := Nat.and_two_pow_sub_one_eq_mod x.toNat 32
  have e1 : (BitVec.ofInt 64 x).toNat = x.toNat := by simp [BitVec.toNat_ofInt]; omega
  rw [BitVec.toNat_and, e1, show (BitVec.ofInt 64 4294967295).toNat = 2 ^ 32 - 1 by decide, h]
  rw [wrap_u64 (by omega) (by omega)]
  omega
theorem lo_hi {hi lo : Int} (hh : 0 ≤ hi ∧ hi < 4294967296) (hl : 0 ≤ lo ∧ lo < 4294967296) : bitV .or .u64 lo (hi * 4294967296) = hi * 4294967296 + lo := by
  rw [← hi_lo hh hl]
  show IntKind.u64.wrap (((BitVec.ofInt 64 lo ||| BitVec.ofInt 64 (hi * 4294967296)).toNat : Nat) : Int) = IntKind.u64.wrap (((BitVec.ofInt 64 (hi * 4294967296) ||| BitVec.ofInt 64 lo).toNat : Nat) : Int)
  rw [BitVec.or_comm]
theorem U32.nat {l : List Int} (h : U32 l) (j : Nat) : ∃ x : Nat, l.getD j 0 = (x : Int) ∧ x < 4294967296 := ⟨(l.getD j 0).toNat, by have := h.getD j; omega, by have := h.getD j; omega⟩
theorem shift_step0 {xs la : List Int} {i r : Nat} {x : Int} (hi : i + 1 < xs.length) (hx : 0 ≤ x ∧ x < 4294967296) (hr : r < 32) (ex : la.getD i 0 = x) (ho : 0 ≤ xs.getD i 0) (hz : xs.getD (i + 1) 0 = 0) (h : val xs = val (la.take i) * 2 ^ r) :
    val ((xs.set i (xs.getD i 0 + (x * 2 ^ r) % 4294967296)).set (i + 1) ((x * 2 ^ r) / 4294967296)) = val (la.take (i + 1)) * 2 ^ r ∧ ((x * 2 ^ r) / 4294967296).toNat < 2 ^ r := by
  have := shift_step (s := 0) hi hx hr ex ho hz (by rw [Nat.pow_zero, Nat.one_mul]; exact h)
  rwa [Nat.pow_zero, Nat.one_mul] at this
theorem back_part0 {la : List Int} (hu : U32 la) {i r : Nat} (hr : r < 32) : (val la / 2 ^ r / 4294967296 ^ i) % 4294967296 = (((la.getD (i + 1) 0).toNat * 4294967296 + (la.getD i 0).toNat) / 2 ^ r) % 4294967296 := by
  have := back_part (s := 0) hu (i := i) hr
  rwa [Nat.pow_zero, Nat.div_one] at this
theorem back_end0 {la : List Int} (hu : U32 la) {r : Nat} : (val la / 2 ^ r) % 4294967296 ^ la.length = val la / 2 ^ r :=
  Nat.mod_eq_of_lt (Nat.lt_of_le_of_lt (Nat.div_le_self _ _) (val_lt hu))

set_option maxHeartbeats 400000 in
theorem ref01Small_c (w0 : World) (va : Value) (la : List Int) (y : Int) {a b : Nat} (ha : RN a b w0 va la) (hsa : la.length ≤ SZ) (hy : 0 < y ∧ y < 4294967296) (h0 : 0 < la.length) :
    Ret Tryz.prog 163 [va, .int .u32 y] w0 (fun r w1 => Below w0.heap.size w0 w1 ∧ ∃ v, r = .tuple #[v, .int .u32 ((val la % y.toNat : Nat) : Int)] ∧ ON w0.heap.size w1 v (dg (val la / y.toNat))) := by
  have E := Below.refl w0.heap.size w0
  unfold SZ at hsa
  obtain ⟨m, hmm⟩ : ∃ m, m = la.length := ⟨_, rfl⟩
  refine Ret_of (n := 42) Tryz.func163 rfl rfl (Nat.le_of_ble_eq_true rfl) ?_
  refine W_seq ?_
  refine W_region rfl ?_
  refine S_assign rfl rfl rfl (v := (.slice none 0 0)) (rfl) ?_
  refine S_assign rfl rfl rfl (v := (.int .u32 0)) (rfl) ?_
  refine OPS.nil ?_
  change WP _ _ _ _ _ _
  refine W_seq ?_
  refine W_region rfl ?_
  refine S_move rfl rfl rfl (v := va) (rfl) ?_
  refine S_call en_assayerref01_Twin rfl rfl rfl (vs := [va]) (rfl) (ref01Twin_c _ _ la ha hsa) ?_
  rintro vh1 w1 ⟨hB1, h1⟩
  have hz1 := hB1.size
  have E := Below.step E hB1
  obtain ⟨g, cc, RW⟩ := h1.ow h0
  have hgE := RW.2.1
  refine S_assign rfl rfl rfl (v := vh1) (rfl) ?_
  refine OPS.nil ?_
  change WP _ _ _ _ _ _
  refine W_seq ?_
  refine W_region rfl ?_
  refine S_assign rfl rfl rfl (v := (.int .u64 0)) (rfl) ?_
  refine OPS.nil ?_
  change WP _ _ _ _ _ _
  refine W_seq ?_
  refine W_seq ?_
  refine W_region rfl ?_
  refine S_move rfl rfl rfl (v := vh1) (rfl) ?_
  refine S_len Tryz.underlying23 rfl rfl rfl (rfl) (m := la.length) (h1.r.len) ?_
  refine S_sub64 rfl rfl rfl rfl (rfl) (rfl) (by omega) ?_
  refine S_assign rfl rfl rfl (v := (.int .i64 ((la.length : Int) - 1))) (rfl) ?_
  refine OPS.nil ?_
  change WP _ _ _ _ _ _
  refine W_block ?_
  refine W_loop (fun k σ w => ∃ (r : Int) (xs : List Int), σ 0 = va ∧ σ 1 = .int .u32 y ∧ σ 6 = .slice (some ⟨g, 0, none⟩) m cc ∧ σ 7 = .int .u64 r ∧ σ 8 = .int .i64 ((k : Int) - 1) ∧ k ≤ m ∧ (0 ≤ r ∧ r < y) ∧
      val (la.drop k) = val (xs.drop k) * y.toNat + r.toNat ∧ (∀ j, j < k → xs.getD j 0 = la.getD j 0) ∧ xs.length = m ∧ U32 xs ∧ OW w0.heap.size g cc w (.slice (some ⟨g, 0, none⟩) m cc) xs ∧ Below w0.heap.size w0 w) (m) ⟨0, la, rfl, rfl, by rw [hmm]; exact RW.1, rfl, by rw [hmm]; rfl, Nat.le_refl _, ⟨by omega, by omega⟩, by rw [List.drop_of_length_le (by omega)]; simp [val], fun _ _ => rfl, by omega, ha.u32, by rw [hmm, ← RW.1]; exact RW, E⟩ ?_
  rintro k σ w ⟨r, xs, s0, s1, s6, s7, s8, hk, hr, hval, hold, hxl, hxu, RW, E⟩
  have hua := ha.u32.getD (k - 1)
  obtain ⟨q1, q2, q3, q4⟩ := div_small (lo := la.getD (k - 1) 0) hr hua
  refine W_seq ?_
  refine W_seq ?_
  refine W_region rfl ?_
  refine S_move rfl rfl rfl (v := (.int .i64 ((k : Int) - 1))) (s8) ?_
  refine S_bin rfl rfl rfl rfl rfl (rfl) (rfl) (v := .bool (decide (((k : Int) - 1) ≥ 0))) rfl ?_
  refine OPS.nil ?_
  change WP _ _ _ _ _ _
  refine W_cond rfl (rfl) (fun hq15 => ?_) (fun hq15 => ?_)
  · skip
    have pT := hq15
    replace hq15 := of_decide_eq_true hq15
    have qT := hq15
    try rw [pT]
    refine W_skip ?_
    change WP _ _ _ _ _ _
    refine W_seq ?_
    refine W_block ?_
    refine W_seq ?_
    refine W_region rfl ?_
    refine S_move rfl rfl rfl (v := (.int .u64 r)) (s7) ?_
    refine S_shl rfl rfl rfl rfl (rfl) (rfl) (by omega) (v := (r * 4294967296)) (S_shl32 ⟨by omega, by omega⟩) ?_
    refine S_move rfl rfl rfl (v := (.slice (some ⟨g, 0, none⟩) m cc)) (s6) ?_
    refine S_move rfl rfl rfl (v := (.int .i64 ((k : Int) - 1))) (s8) ?_
    have hxi := hold (k - 1) (by omega)
    refine S_idx Tryz.underlying23 ti_uint32 rfl rfl rfl rfl (rfl) (rfl) (j := (k - 1)) (ad := ⟨g, (k - 1), none⟩) (SlAt.own1 (by omega)) (by omega) ?_
    refine S_load rfl rfl rfl (rfl) (LD.one ti_uint32 (RW.cell (by omega))) ?_
    refine S_conv Tryz.underlying106 Tryz.underlying124 rfl rfl rfl (rfl) (b := (la.getD (k - 1) 0)) ((wrap_u64 (by omega) (by omega)).trans hxi) ?_
    refine S_bits rfl rfl rfl rfl (by simp) (rfl) (rfl) (v := (r * 4294967296 + la.getD (k - 1) 0)) (hi_lo ⟨by omega, by omega⟩ hua) ?_
    refine S_assign rfl rfl rfl (v := (.int .u64 (r * 4294967296 + la.getD (k - 1) 0))) (rfl) ?_
    refine OPS.nil ?_
    change WP _ _ _ _ _ _
    refine W_seq ?_
    refine W_region rfl ?_
    refine S_move rfl rfl rfl (v := (.slice (some ⟨g, 0, none⟩) m cc)) (s6) ?_
    refine S_move rfl rfl rfl (v := (.int .i64 ((k : Int) - 1))) (s8) ?_
    refine S_move rfl rfl rfl (v := (.int .u64 (r * 4294967296 + la.getD (k - 1) 0))) (rfl) ?_
    refine S_move rfl rfl rfl (v := (.int .u32 y)) (s1) ?_
    refine S_conv Tryz.underlying106 Tryz.underlying124 rfl rfl rfl (rfl) (b := y) (wrap_u64 (by omega) (by omega)) ?_
    refine S_quo rfl rfl rfl rfl (rfl) (rfl) (by omega) (v := ((r * 4294967296 + la.getD (k - 1) 0) / y)) (quo64 ⟨by omega, by omega⟩ hy.1) ?_
    refine S_conv Tryz.underlying124 Tryz.underlying106 rfl rfl rfl (rfl) (b := ((r * 4294967296 + la.getD (k - 1) 0) / y)) (wrap_u32 (by omega) (by omega)) ?_
    refine S_idx Tryz.underlying23 ti_uint32 rfl rfl rfl rfl (rfl) (rfl) (j := (k - 1)) (ad := ⟨g, (k - 1), none⟩) (SlAt.own1 (by omega)) (by omega) ?_
    refine S_storeOW ti_uint32 rfl rfl rfl rfl (g := g) (o := (k - 1)) (rfl) (a := ((r * 4294967296 + la.getD (k - 1) 0) / y)) (rfl) RW (by omega) ?_
    intro w2 hU2 RW
    have E := Below.stepU E hU2 (by omega)
    have hz2 := hU2.size
    refine OPS.nil ?_
    change WP _ _ _ _ _ _
    refine W_region rfl ?_
    refine S_move rfl rfl rfl (v := (.int .u64 (r * 4294967296 + la.getD (k - 1) 0))) (rfl) ?_
    refine S_move rfl rfl rfl (v := (.int .u32 y)) (s1) ?_
    refine S_conv Tryz.underlying106 Tryz.underlying124 rfl rfl rfl (rfl) (b := y) (wrap_u64 (by omega) (by omega)) ?_
    refine S_rem rfl rfl rfl rfl (rfl) (rfl) (by omega) (v := ((r * 4294967296 + la.getD (k - 1) 0) % y)) (Int.tmod_eq_emod_of_nonneg (by omega)) ?_
    refine S_assign rfl rfl rfl (v := (.int .u64 ((r * 4294967296 + la.getD (k - 1) 0) % y))) (rfl) ?_
    refine OPS.nil ?_
    change WP _ _ _ _ _ _
    refine W_region rfl ?_
    refine S_move rfl rfl rfl (v := (.int .i64 ((k : Int) - 1))) (s8) ?_
    refine S_sub64 rfl rfl rfl rfl (rfl) (rfl) (by omega) ?_
    refine S_assign rfl rfl rfl (v := (.int .i64 (((k : Int) - 1) - 1))) (rfl) ?_
    refine OPS.nil ?_
    exact ⟨k - 1, by omega, _, _, s0, s1, s6, rfl, int_eq (by omega), by omega, ⟨q3, q4⟩, short_step (by omega) hy.1 hr.1 hua.1 rfl (by rw [show k - 1 + 1 = k by omega]; exact hval), fun j hj => by rw [getD_set_ne' _ _ _ _ (by omega)]; exact hold j (by omega), by simpa using hxl, hxu.set _ (by omega) (by omega), RW, E⟩
  · skip
    have pF := hq15
    replace hq15 := of_decide_eq_false hq15
    have qF := hq15
    try rw [pF]
    refine W_exit ?_
    change WP _ _ _ _ _ _
    refine W_seq ?_
    refine W_region rfl ?_
    refine S_move rfl rfl rfl (v := (.slice (some ⟨g, 0, none⟩) m cc)) (s6) ?_
    refine S_call en_assayerref01_trim rfl rfl rfl (vs := [(.slice (some ⟨g, 0, none⟩) m cc)]) (rfl) (ref01Trim_c _ _ xs (RW.on hxu).r) ?_
    rintro r_ _ ⟨⟨A, c', k', hv, hr_, hk', ht⟩, rfl⟩
    refine S_move rfl rfl rfl (v := (.int .u64 r)) (s7) ?_
    refine S_conv Tryz.underlying124 Tryz.underlying106 rfl rfl rfl (rfl) (b := r) (wrap_u32 (by omega) (by omega)) ?_
    refine S_assign rfl rfl rfl (v := r_) (rfl) ?_
    refine S_assign rfl rfl rfl (v := (.int .u32 r)) (rfl) ?_
    refine OPS.nil ?_
    change WP _ _ _ _ _ _
    refine W_ret ?_
    change Fin' _ _ _ _ _ _
    refine End2 (n := ⟨42, []⟩) (t := 4) (u := 5) rfl (by decide) (by decide) (rfl) (rfl) ?_
    have hi : k = 0 := by omega
    subst hi
    simp only [List.drop_zero] at hval
    have h9 := RW.on hxu
    rw [hv] at h9
    subst hr_
    have h8 := h9.prefix_ hk'
    rw [ht] at h8
    have hry : r.toNat < y.toNat := by omega
    have e1 : val la / y.toNat = val xs := by rw [hval, Nat.mul_comm, Nat.mul_add_div (by omega), Nat.div_eq_of_lt hry, Nat.add_zero]
    have e2 : val la % y.toNat = r.toNat := by rw [hval, Nat.mul_comm, Nat.mul_add_mod, Nat.mod_eq_of_lt hry]
    refine ⟨E, _, ?_, by rw [e1]; exact h8⟩
    rw [e2, Int.toNat_of_nonneg hr.1]
    rfl

set_option maxHeartbeats 400000 in
theorem ref01Up_c (w0 : World) (va : Value) (la : List Int) (q : Nat) {a b : Nat} (ha : RN a b w0 va la) (hsa : la.length ≤ SZ) :
    Ret Tryz.prog 165 [va, (.int .u64 ((q % 32 : Nat) : Int))] w0 (fun r w1 => Below w0.heap.size w0 w1 ∧ ∃ (g : Nat) (xs : List Int), r = .slice (some ⟨g, 0, none⟩) (la.length + 1) (la.length + 1) ∧ w0.heap.size ≤ g ∧ xs.length = la.length + 1 ∧ U32 xs ∧ val xs = val la * 2 ^ (q % 32) ∧ Blk w1 g (nums .u32 xs) 106) := by
  have E := Below.refl w0.heap.size w0
  unfold SZ at hsa
  have hr : q % 32 < 32 := Nat.mod_lt _ (by decide)
  refine Ret_of (n := 43) Tryz.func165 rfl rfl (Nat.le_of_ble_eq_true rfl) ?_
  refine W_seq ?_
  refine W_region rfl ?_
  refine S_assign rfl rfl rfl (v := (.slice none 0 0)) (rfl) ?_
  refine OPS.nil ?_
  change WP _ _ _ _ _ _
  refine W_seq ?_
  refine W_region rfl ?_
  refine S_move rfl rfl rfl (v := va) (rfl) ?_
  refine S_len Tryz.underlying23 rfl rfl rfl (rfl) (m := la.length) (ha.len) ?_
  refine S_add64 rfl rfl rfl rfl (rfl) (rfl) (by omega) ?_
  refine S_make Tryz.underlying23 ti_uint32 rfl rfl rfl rfl (rfl) (m := la.length + 1) (by omega) (by omega) (by omega) ?_
  intro g1 w1 hg1 hs1 hB1 b1
  rw [nums_rep] at b1
  have hz1 := hB1.size
  have E := Below.step E hB1
  refine S_assign rfl rfl rfl (v := (.slice (some ⟨g1, 0, none⟩) (la.length + 1) (la.length + 1))) (rfl) ?_
  refine OPS.nil ?_
  change WP _ _ _ _ _ _
  refine W_seq ?_
  refine W_seq ?_
  refine W_region rfl ?_
  obtain ⟨m, hmm⟩ : ∃ m, m = la.length + 1 := ⟨_, rfl⟩
  refine S_assign rfl rfl rfl (v := (.int .i64 0)) (rfl) ?_
  refine OPS.nil ?_
  change WP _ _ _ _ _ _
  refine W_block ?_
  refine W_loop (fun k σ w => ∃ (i : Nat) (xs : List Int), σ 0 = va ∧ σ 1 = .int .u64 ((q % 32 : Nat) : Int) ∧ σ 5 = .slice (some ⟨g1, 0, none⟩) m m ∧ σ 6 = .int .i64 (i : Int) ∧ i + k = la.length ∧
      val xs = val (la.take i) * 2 ^ (q % 32) ∧ (xs.getD i 0).toNat < 2 ^ (q % 32) ∧ (∀ j, i < j → xs.getD j 0 = 0) ∧ xs.length = m ∧ U32 xs ∧ Blk w g1 (nums .u32 xs) 106 ∧ Below w0.heap.size w0 w) (la.length) ⟨0, List.replicate m 0, rfl, rfl, by rw [hmm]; rfl, rfl, by omega, by rw [val_zeros]; simp [val], by rw [rep_getD]; exact Nat.pow_pos (by decide), fun j _ => rep_getD m j, by simp, U32.replicate m, by rw [hmm]; exact b1, E⟩ ?_
  rintro k σ w ⟨i, xs, s0, s1, s5, s6, hik, hval, hlow, hz, hxl, hxu, b1, E⟩
  have hua := ha.u32.getD i
  have huo := hxu.getD i
  obtain ⟨hn1, hn2⟩ := shl_lt hua hr
  obtain ⟨ho1, ho2⟩ := or_low hr huo hlow hua
  refine W_seq ?_
  refine W_seq ?_
  refine W_region rfl ?_
  refine S_move rfl rfl rfl (v := (.int .i64 (i : Int))) (s6) ?_
  refine S_move rfl rfl rfl (v := va) (s0) ?_
  refine S_len Tryz.underlying23 rfl rfl rfl (rfl) (m := la.length) (ha.len) ?_
  refine S_bin rfl rfl rfl rfl rfl (rfl) (rfl) (v := .bool (decide ((i : Int) < (la.length : Int)))) rfl ?_
  refine OPS.nil ?_
  change WP _ _ _ _ _ _
  refine W_cond rfl (rfl) (fun hq15 => ?_) (fun hq15 => ?_)
  · skip
    have pT := hq15
    replace hq15 := of_decide_eq_true hq15
    have qT := hq15
    try rw [pT]
    refine W_skip ?_
    change WP _ _ _ _ _ _
    refine W_seq ?_
    refine W_block ?_
    refine W_seq ?_
    refine W_region rfl ?_
    have hst := shift_step0 (xs := xs) (by omega) hua hr rfl huo.1 (hz _ (by omega)) hval
    refine S_move rfl rfl rfl (v := va) (s0) ?_
    refine S_move rfl rfl rfl (v := (.int .i64 (i : Int))) (s6) ?_
    obtain ⟨ad1, hp3, hc2⟩ := (ha.below E).at i (by omega)
    refine S_idx Tryz.underlying23 ti_uint32 rfl rfl rfl rfl (rfl) (rfl) hp3 (by omega) ?_
    refine S_load rfl rfl rfl (rfl) (LD.one ti_uint32 hc2) ?_
    refine S_conv Tryz.underlying106 Tryz.underlying124 rfl rfl rfl (rfl) (b := (la.getD i 0)) (wrap_u64 hua.1 (by omega)) ?_
    refine S_move rfl rfl rfl (v := (.int .u64 ((q % 32 : Nat) : Int))) (s1) ?_
    refine S_shl rfl rfl rfl rfl (rfl) (rfl) (by omega) (v := (la.getD i 0 * 2 ^ (q % 32))) (shl_eq hua) ?_
    refine S_assign rfl rfl rfl (v := (.int .u64 (la.getD i 0 * 2 ^ (q % 32)))) (rfl) ?_
    refine OPS.nil ?_
    change WP _ _ _ _ _ _
    refine W_seq ?_
    refine W_region rfl ?_
    refine S_move rfl rfl rfl (v := (.slice (some ⟨g1, 0, none⟩) m m)) (s5) ?_
    refine S_move rfl rfl rfl (v := (.int .i64 (i : Int))) (s6) ?_
    refine S_move rfl rfl rfl (v := (.slice (some ⟨g1, 0, none⟩) m m)) (s5) ?_
    refine S_move rfl rfl rfl (v := (.int .i64 (i : Int))) (s6) ?_
    refine S_idx Tryz.underlying23 ti_uint32 rfl rfl rfl rfl (rfl) (rfl) (j := i) (ad := ⟨g1, i, none⟩) (SlAt.own1 (by omega)) (by omega) ?_
    refine S_load rfl rfl rfl (rfl) (LD.one ti_uint32 (b1.num (by omega))) ?_
    refine S_move rfl rfl rfl (v := (.int .u64 (la.getD i 0 * 2 ^ (q % 32)))) (rfl) ?_
    refine S_conv Tryz.underlying124 Tryz.underlying106 rfl rfl rfl (rfl) (b := ((la.getD i 0 * 2 ^ (q % 32)) % 4294967296)) (wrap_u32' _) ?_
    refine S_bits rfl rfl rfl rfl (by simp) (rfl) (rfl) (v := ((xs.getD i 0) + (la.getD i 0 * 2 ^ (q % 32)) % 4294967296)) (ho1) ?_
    refine S_idx Tryz.underlying23 ti_uint32 rfl rfl rfl rfl (rfl) (rfl) (j := i) (ad := ⟨g1, i, none⟩) (SlAt.own1 (by omega)) (by omega) ?_
    refine S_storeN ti_uint32 rfl rfl rfl rfl (g := g1) (o := i) (rfl) (a := ((xs.getD i 0) + (la.getD i 0 * 2 ^ (q % 32)) % 4294967296)) (rfl) b1 (by omega) ?_
    intro w2 hU2 b1
    have E := Below.stepU E hU2 (by omega)
    have hz2 := hU2.size
    refine OPS.nil ?_
    change WP _ _ _ _ _ _
    refine W_region rfl ?_
    refine S_move rfl rfl rfl (v := (.slice (some ⟨g1, 0, none⟩) m m)) (s5) ?_
    refine S_move rfl rfl rfl (v := (.int .i64 (i : Int))) (s6) ?_
    refine S_add64 rfl rfl rfl rfl (rfl) (rfl) (by omega) ?_
    refine S_move rfl rfl rfl (v := (.int .u64 (la.getD i 0 * 2 ^ (q % 32)))) (rfl) ?_
    refine S_shr rfl rfl rfl rfl (rfl) (rfl) (by omega) (v := ((la.getD i 0 * 2 ^ (q % 32)) / 4294967296)) (shr32 _) ?_
    refine S_conv Tryz.underlying124 Tryz.underlying106 rfl rfl rfl (rfl) (b := ((la.getD i 0 * 2 ^ (q % 32)) / 4294967296)) (wrap_u32 (by omega) (by omega)) ?_
    refine S_idx Tryz.underlying23 ti_uint32 rfl rfl rfl rfl (rfl) (rfl) (j := (i + 1)) (ad := ⟨g1, (i + 1), none⟩) (SlAt.own1 (by omega)) (by omega) ?_
    refine S_storeN ti_uint32 rfl rfl rfl rfl (g := g1) (o := (i + 1)) (rfl) (a := ((la.getD i 0 * 2 ^ (q % 32)) / 4294967296)) (rfl) b1 (by simp; omega) ?_
    intro w3 hU3 b1
    have E := Below.stepU E hU3 (by omega)
    have hz3 := hU3.size
    refine OPS.nil ?_
    change WP _ _ _ _ _ _
    refine W_region rfl ?_
    refine S_move rfl rfl rfl (v := (.int .i64 (i : Int))) (s6) ?_
    refine S_add64 rfl rfl rfl rfl (rfl) (rfl) (by omega) ?_
    refine S_assign rfl rfl rfl (v := (.int .i64 ((i : Int) + 1))) (rfl) ?_
    refine OPS.nil ?_
    exact ⟨k - 1, by omega, i + 1, _, s0, s1, s5, int_eq (by omega), by omega, hst.1, by rw [getD_set_eq' _ _ _ (by simp; omega)]; exact hst.2, fun j hj => by rw [getD_set_ne' _ _ _ _ (by omega), getD_set_ne' _ _ _ _ (by omega)]; exact hz j (by omega), by simpa using hxl, (hxu.set _ (by omega) (by omega)).set _ (by omega) (by omega), b1, E⟩
  · skip
    have pF := hq15
    replace hq15 := of_decide_eq_false hq15
    have qF := hq15
    try rw [pF]
    refine W_exit ?_
    change WP _ _ _ _ _ _
    refine W_seq ?_
    refine W_region rfl ?_
    refine S_move rfl rfl rfl (v := (.slice (some ⟨g1, 0, none⟩) m m)) (s5) ?_
    refine S_assign rfl rfl rfl (v := (.slice (some ⟨g1, 0, none⟩) m m)) (rfl) ?_
    refine OPS.nil ?_
    change WP _ _ _ _ _ _
    refine W_ret ?_
    change Fin' _ _ _ _ _ _
    refine End1 (n := ⟨43, []⟩) (t := 4) rfl (by decide) (v := (.slice (some ⟨g1, 0, none⟩) m m)) (rfl) ?_
    have hi : i = la.length := by omega
    subst hi
    rw [List.take_length] at hval
    exact ⟨E, g1, xs, by rw [hmm], by omega, by omega, hxu, hval, b1⟩

set_option maxHeartbeats 400000 in
theorem ref01Down_0 (w0 : World) (va : Value) (la : List Int) (q : Nat) {a b : Nat} (ha : RN a b w0 va la) (hsa : la.length ≤ SZ) (h0 : la.length = 0) :
    Ret Tryz.prog 170 [va, (.int .u64 ((q % 32 : Nat) : Int))] w0 (fun r w1 => Below w0.heap.size w0 w1 ∧ ON w0.heap.size w1 r (dg (val la / 2 ^ (q % 32)))) := by
  have E := Below.refl w0.heap.size w0
  refine Ret_of (n := 44) Tryz.func170 rfl rfl (Nat.le_of_ble_eq_true rfl) ?_
  refine W_seq ?_
  refine W_region rfl ?_
  refine S_assign rfl rfl rfl (v := (.slice none 0 0)) (rfl) ?_
  refine OPS.nil ?_
  change WP _ _ _ _ _ _
  refine W_seq ?_
  refine W_region rfl ?_
  refine S_move rfl rfl rfl (v := va) (rfl) ?_
  refine S_call en_assayerref01_Twin rfl rfl rfl (vs := [va]) (rfl) (ref01Twin_c _ _ la ha hsa) ?_
  rintro vh1 w1 ⟨hB1, h1⟩
  have hz1 := hB1.size
  have E := Below.step E hB1
  refine S_assign rfl rfl rfl (v := vh1) (rfl) ?_
  refine OPS.nil ?_
  change WP _ _ _ _ _ _
  refine W_seq ?_
  refine W_seq ?_
  refine W_region rfl ?_
  refine S_assign rfl rfl rfl (v := (.int .i64 0)) (rfl) ?_
  refine OPS.nil ?_
  change WP _ _ _ _ _ _
  refine W_block ?_
  refine W_loop (fun k σ w => ∃ v, σ 5 = v ∧ σ 6 = .int .i64 0 ∧ ON w0.heap.size w v la ∧ Below w0.heap.size w0 w) (0) ⟨_, rfl, rfl, h1, E⟩ ?_
  rintro k σ w ⟨v, s5, s6, h1, E⟩
  refine W_seq ?_
  refine W_seq ?_
  refine W_region rfl ?_
  refine S_move rfl rfl rfl (v := (.int .i64 (0 : Int))) (s6) ?_
  refine S_move rfl rfl rfl (v := v) (s5) ?_
  refine S_len Tryz.underlying23 rfl rfl rfl (rfl) (m := la.length) (h1.r.len) ?_
  refine S_bin rfl rfl rfl rfl rfl (rfl) (rfl) (v := .bool false) (by simp [binV, h0]) ?_
  refine OPS.nil ?_
  change WP _ _ _ _ _ _
  refine W_cond rfl (b := false) (rfl) (fun h => (by cases h)) (fun _ => ?_)
  refine W_exit ?_
  change WP _ _ _ _ _ _
  refine W_seq ?_
  refine W_region rfl ?_
  refine S_move rfl rfl rfl (v := v) (s5) ?_
  refine S_call en_assayerref01_trim rfl rfl rfl (vs := [v]) (rfl) (ref01Trim_c _ _ la h1.r) ?_
  rintro r_ _ ⟨⟨A, c', k', hv, hr, hk', ht⟩, rfl⟩
  refine S_assign rfl rfl rfl (v := r_) (rfl) ?_
  refine OPS.nil ?_
  change WP _ _ _ _ _ _
  refine W_ret ?_
  change Fin' _ _ _ _ _ _
  refine End1 (n := ⟨44, []⟩) (t := 4) rfl (by decide) (v := r_) (rfl) ?_
  subst hv
  subst hr
  have := h1.prefix_ hk'
  rw [ht, List.eq_nil_of_length_eq_zero h0, val_nil] at this
  rw [List.eq_nil_of_length_eq_zero h0, val_nil, Nat.zero_div]
  exact ⟨E, this⟩

set_option maxHeartbeats 400000 in
theorem ref01Down_1 (w0 : World) (va : Value) (la : List Int) (q : Nat) {a b : Nat} (ha : RN a b w0 va la) (hsa : la.length ≤ SZ) (h0 : 0 < la.length) :
    Ret Tryz.prog 170 [va, (.int .u64 ((q % 32 : Nat) : Int))] w0 (fun r w1 => Below w0.heap.size w0 w1 ∧ ON w0.heap.size w1 r (dg (val la / 2 ^ (q % 32)))) := by
  have E := Below.refl w0.heap.size w0
  unfold SZ at hsa
  have hr : q % 32 < 32 := Nat.mod_lt _ (by decide)
  obtain ⟨m, hmm⟩ : ∃ m, m = la.length := ⟨_, rfl⟩
  refine Ret_of (n := 44) Tryz.func170 rfl rfl (Nat.le_of_ble_eq_true rfl) ?_
  refine W_seq ?_
  refine W_region rfl ?_
  refine S_assign rfl rfl rfl (v := (.slice none 0 0)) (rfl) ?_
  refine OPS.nil ?_
  change WP _ _ _ _ _ _
  refine W_seq ?_
  refine W_region rfl ?_
  refine S_move rfl rfl rfl (v := va) (rfl) ?_
  refine S_call en_assayerref01_Twin rfl rfl rfl (vs := [va]) (rfl) (ref01Twin_c _ _ la ha hsa) ?_
  rintro vh1 w1 ⟨hB1, h1⟩
  have hz1 := hB1.size
  have E := Below.step E hB1
  obtain ⟨g, cc, RW⟩ := h1.ow h0
  have hgE := RW.2.1
  refine S_assign rfl rfl rfl (v := vh1) (rfl) ?_
  refine OPS.nil ?_
  change WP _ _ _ _ _ _
  refine W_seq ?_
  refine W_seq ?_
  refine W_region rfl ?_
  refine S_assign rfl rfl rfl (v := (.int .i64 0)) (rfl) ?_
  refine OPS.nil ?_
  change WP _ _ _ _ _ _
  refine W_block ?_
  refine W_loop (fun k σ w => ∃ (i : Nat) (xs : List Int), σ 1 = .int .u64 ((q % 32 : Nat) : Int) ∧ σ 5 = .slice (some ⟨g, 0, none⟩) m cc ∧ σ 6 = .int .i64 (i : Int) ∧ i + k = m ∧
      val (xs.take i) = (val la / 2 ^ (q % 32)) % 4294967296 ^ i ∧ (∀ j, i ≤ j → xs.getD j 0 = la.getD j 0) ∧ xs.length = m ∧ U32 xs ∧ OW w0.heap.size g cc w (.slice (some ⟨g, 0, none⟩) m cc) xs ∧ Below w0.heap.size w0 w) (m) ⟨0, la, rfl, by rw [hmm]; exact RW.1, rfl, by omega, by simp [val, Nat.mod_one], fun _ _ => rfl, by omega, ha.u32, by rw [hmm, ← RW.1]; exact RW, E⟩ ?_
  rintro k σ w ⟨i, xs, s1, s5, s6, hik, hval, hold, hxl, hxu, RW, E⟩
  have hhi := ha.u32.getD (i + 1)
  have hlo := ha.u32.getD i
  have hxi := hold i (by omega)
  have hxj := hold (i + 1) (by omega)
  have hpt := back_part0 ha.u32 (i := i) hr
  have hzl := Nat.div_le_self ((la.getD (i + 1) 0) * 4294967296 + (la.getD i 0)).toNat (2 ^ (q % 32))
  have hzl2 := Nat.div_le_self (la.getD i 0).toNat (2 ^ (q % 32))
  refine W_seq ?_
  refine W_seq ?_
  refine W_region rfl ?_
  refine S_move rfl rfl rfl (v := (.int .i64 (i : Int))) (s6) ?_
  refine S_move rfl rfl rfl (v := (.slice (some ⟨g, 0, none⟩) m cc)) (s5) ?_
  refine S_len Tryz.underlying23 rfl rfl rfl (rfl) (m := m) (⟨_, _, rfl⟩) ?_
  refine S_bin rfl rfl rfl rfl rfl (rfl) (rfl) (v := .bool (decide ((i : Int) < (m : Int)))) rfl ?_
  refine OPS.nil ?_
  change WP _ _ _ _ _ _
  refine W_cond rfl (rfl) (fun hq13 => ?_) (fun hq13 => ?_)
  · skip
    have pT := hq13
    replace hq13 := of_decide_eq_true hq13
    have qT := hq13
    try rw [pT]
    refine W_skip ?_
    change WP _ _ _ _ _ _
    refine W_seq ?_
    refine W_block ?_
    refine W_seq ?_
    refine W_region rfl ?_
    refine S_move rfl rfl rfl (v := (.slice (some ⟨g, 0, none⟩) m cc)) (s5) ?_
    refine S_move rfl rfl rfl (v := (.int .i64 (i : Int))) (s6) ?_
    refine S_idx Tryz.underlying23 ti_uint32 rfl rfl rfl rfl (rfl) (rfl) (j := i) (ad := ⟨g, i, none⟩) (SlAt.own1 (by omega)) (by omega) ?_
    refine S_load rfl rfl rfl (rfl) (LD.one ti_uint32 (RW.cell (by omega))) ?_
    refine S_conv Tryz.underlying106 Tryz.underlying124 rfl rfl rfl (rfl) (b := (la.getD i 0)) ((wrap_u64 (by omega) (by omega)).trans hxi) ?_
    refine S_assign rfl rfl rfl (v := (.int .u64 (la.getD i 0))) (rfl) ?_
    refine OPS.nil ?_
    change WP _ _ _ _ _ _
    refine W_seq ?_
    refine W_seq ?_
    refine W_region rfl ?_
    refine S_move rfl rfl rfl (v := (.int .i64 (i : Int))) (s6) ?_
    refine S_add64 rfl rfl rfl rfl (rfl) (rfl) (by omega) ?_
    refine S_move rfl rfl rfl (v := (.slice (some ⟨g, 0, none⟩) m cc)) (s5) ?_
    refine S_len Tryz.underlying23 rfl rfl rfl (rfl) (m := m) (⟨_, _, rfl⟩) ?_
    refine S_bin rfl rfl rfl rfl rfl (rfl) (rfl) (v := .bool (decide (((i : Int) + 1) < (m : Int)))) rfl ?_
    refine OPS.nil ?_
    change WP _ _ _ _ _ _
    refine W_cond rfl (rfl) (fun hq25 => ?_) (fun hq25 => ?_)
    · skip
      have pTT := hq25
      replace hq25 := of_decide_eq_true hq25
      have qTT := hq25
      try rw [pTT]
      refine W_region rfl ?_
      refine S_move rfl rfl rfl (v := (.int .u64 (la.getD i 0))) (rfl) ?_
      refine S_move rfl rfl rfl (v := (.slice (some ⟨g, 0, none⟩) m cc)) (s5) ?_
      refine S_move rfl rfl rfl (v := (.int .i64 (i : Int))) (s6) ?_
      refine S_add64 rfl rfl rfl rfl (rfl) (rfl) (by omega) ?_
      refine S_idx Tryz.underlying23 ti_uint32 rfl rfl rfl rfl (rfl) (rfl) (j := (i + 1)) (ad := ⟨g, (i + 1), none⟩) (SlAt.own1 (by omega)) (by omega) ?_
      refine S_load rfl rfl rfl (rfl) (LD.one ti_uint32 (RW.cell (by omega))) ?_
      refine S_conv Tryz.underlying106 Tryz.underlying124 rfl rfl rfl (rfl) (b := (la.getD (i + 1) 0)) ((wrap_u64 (by omega) (by omega)).trans hxj) ?_
      refine S_shl rfl rfl rfl rfl (rfl) (rfl) (by omega) (v := ((la.getD (i + 1) 0) * 4294967296)) (S_shl32 hhi) ?_
      refine S_bits rfl rfl rfl rfl (by simp) (rfl) (rfl) (v := ((la.getD (i + 1) 0) * 4294967296 + (la.getD i 0))) (lo_hi hhi hlo) ?_
      refine S_assign rfl rfl rfl (v := (.int .u64 ((la.getD (i + 1) 0) * 4294967296 + (la.getD i 0)))) (rfl) ?_
      refine OPS.nil ?_
      change WP _ _ _ _ _ _
      refine W_region rfl ?_
      refine S_move rfl rfl rfl (v := (.slice (some ⟨g, 0, none⟩) m cc)) (s5) ?_
      refine S_move rfl rfl rfl (v := (.int .i64 (i : Int))) (s6) ?_
      refine S_move rfl rfl rfl (v := (.int .u64 ((la.getD (i + 1) 0) * 4294967296 + (la.getD i 0)))) (rfl) ?_
      refine S_move rfl rfl rfl (v := (.int .u64 ((q % 32 : Nat) : Int))) (s1) ?_
      refine S_shr rfl rfl rfl rfl (rfl) (rfl) (by omega) (v := ((((la.getD (i + 1) 0) * 4294967296 + (la.getD i 0)).toNat / 2 ^ (q % 32) : Nat) : Int)) (shr_eq (by omega)) ?_
      refine S_conv Tryz.underlying124 Tryz.underlying106 rfl rfl rfl (rfl) (b := (((((la.getD (i + 1) 0) * 4294967296 + (la.getD i 0)).toNat / 2 ^ (q % 32) : Nat) : Int) % 4294967296)) (wrap_u32' _) ?_
      refine S_idx Tryz.underlying23 ti_uint32 rfl rfl rfl rfl (rfl) (rfl) (j := i) (ad := ⟨g, i, none⟩) (SlAt.own1 (by omega)) (by omega) ?_
      refine S_storeOW ti_uint32 rfl rfl rfl rfl (g := g) (o := i) (rfl) (a := (((((la.getD (i + 1) 0) * 4294967296 + (la.getD i 0)).toNat / 2 ^ (q % 32) : Nat) : Int) % 4294967296)) (rfl) RW (by omega) ?_
      intro w2 hU2 RW
      have E := Below.stepU E hU2 (by omega)
      have hz2 := hU2.size
      refine OPS.nil ?_
      change WP _ _ _ _ _ _
      refine W_region rfl ?_
      refine S_move rfl rfl rfl (v := (.int .i64 (i : Int))) (s6) ?_
      refine S_add64 rfl rfl rfl rfl (rfl) (rfl) (by omega) ?_
      refine S_assign rfl rfl rfl (v := (.int .i64 ((i : Int) + 1))) (rfl) ?_
      refine OPS.nil ?_
      have hzn : ((la.getD (i + 1) 0) * 4294967296 + (la.getD i 0)).toNat = (la.getD (i + 1) 0).toNat * 4294967296 + (la.getD i 0).toNat := by omega
      exact ⟨k - 1, by omega, i + 1, _, s1, s5, int_eq (by omega), by omega, by rw [val_set_take _ _ _ (by omega), mod_step _ _ _ (by decide), hval, hpt, ← hzn]; congr 2, fun j hj => by rw [getD_set_ne' _ _ _ _ (by omega)]; exact hold j (by omega), by simpa using hxl, hxu.set _ (by omega) (by omega), RW, E⟩
    · skip
      have pTF := hq25
      replace hq25 := of_decide_eq_false hq25
      have qTF := hq25
      try rw [pTF]
      refine W_skip ?_
      change WP _ _ _ _ _ _
      refine W_region rfl ?_
      refine S_move rfl rfl rfl (v := (.slice (some ⟨g, 0, none⟩) m cc)) (s5) ?_
      refine S_move rfl rfl rfl (v := (.int .i64 (i : Int))) (s6) ?_
      refine S_move rfl rfl rfl (v := (.int .u64 (la.getD i 0))) (rfl) ?_
      refine S_move rfl rfl rfl (v := (.int .u64 ((q % 32 : Nat) : Int))) (s1) ?_
      refine S_shr rfl rfl rfl rfl (rfl) (rfl) (by omega) (v := (((la.getD i 0).toNat / 2 ^ (q % 32) : Nat) : Int)) (shr_eq (by omega)) ?_
      refine S_conv Tryz.underlying124 Tryz.underlying106 rfl rfl rfl (rfl) (b := ((((la.getD i 0).toNat / 2 ^ (q % 32) : Nat) : Int) % 4294967296)) (wrap_u32' _) ?_
      refine S_idx Tryz.underlying23 ti_uint32 rfl rfl rfl rfl (rfl) (rfl) (j := i) (ad := ⟨g, i, none⟩) (SlAt.own1 (by omega)) (by omega) ?_
      refine S_storeOW ti_uint32 rfl rfl rfl rfl (g := g) (o := i) (rfl) (a := ((((la.getD i 0).toNat / 2 ^ (q % 32) : Nat) : Int) % 4294967296)) (rfl) RW (by omega) ?_
      intro w3 hU3 RW
      have E := Below.stepU E hU3 (by omega)
      have hz3 := hU3.size
      refine OPS.nil ?_
      change WP _ _ _ _ _ _
      refine W_region rfl ?_
      refine S_move rfl rfl rfl (v := (.int .i64 (i : Int))) (s6) ?_
      refine S_add64 rfl rfl rfl rfl (rfl) (rfl) (by omega) ?_
      refine S_assign rfl rfl rfl (v := (.int .i64 ((i : Int) + 1))) (rfl) ?_
      refine OPS.nil ?_
      have hz0 : la.getD (i + 1) 0 = 0 := getD_out (by omega)
      have hzn : (la.getD i 0).toNat = (la.getD (i + 1) 0).toNat * 4294967296 + (la.getD i 0).toNat := by omega
      exact ⟨k - 1, by omega, i + 1, _, s1, s5, int_eq (by omega), by omega, by rw [val_set_take _ _ _ (by omega), mod_step _ _ _ (by decide), hval, hpt, ← hzn]; congr 2, fun j hj => by rw [getD_set_ne' _ _ _ _ (by omega)]; exact hold j (by omega), by simpa using hxl, hxu.set _ (by omega) (by omega), RW, E⟩
  · skip
    have pF := hq13
    replace hq13 := of_decide_eq_false hq13
    have qF := hq13
    try rw [pF]
    refine W_exit ?_
    change WP _ _ _ _ _ _
    refine W_seq ?_
    refine W_region rfl ?_
    refine S_move rfl rfl rfl (v := (.slice (some ⟨g, 0, none⟩) m cc)) (s5) ?_
    refine S_call en_assayerref01_trim rfl rfl rfl (vs := [(.slice (some ⟨g, 0, none⟩) m cc)]) (rfl) (ref01Trim_c _ _ xs (RW.on hxu).r) ?_
    rintro r_ _ ⟨⟨A, c', k', hv, hr_, hk', ht⟩, rfl⟩
    refine S_assign rfl rfl rfl (v := r_) (rfl) ?_
    refine OPS.nil ?_
    change WP _ _ _ _ _ _
    refine W_ret ?_
    change Fin' _ _ _ _ _ _
    refine End1 (n := ⟨44, []⟩) (t := 4) rfl (by decide) (v := r_) (rfl) ?_
    have hi : i = xs.length := by omega
    subst hi
    rw [List.take_length] at hval
    have h9 := RW.on hxu
    rw [hv] at h9
    subst hr_
    have h8 := h9.prefix_ hk'
    rw [ht, hval, show xs.length = la.length by omega, back_end0 ha.u32] at h8
    exact ⟨E, h8⟩


theorem ref01Down_c (w0 : World) (va : Value) (la : List Int) (q : Nat) {a b : Nat} (ha : RN a b w0 va la) (hsa : la.length ≤ SZ) : Ret Tryz.prog 170 [va, .int .u64 ((q % 32 : Nat) : Int)] w0 (fun r w1 => Below w0.heap.size w0 w1 ∧ ON w0.heap.size w1 r (dg (val la / 2 ^ (q % 32)))) := by
  rcases Nat.eq_zero_or_pos la.length with h0 | h0
  · exact ref01Down_0 w0 va la q ha hsa h0
  · exact ref01Down_1 w0 va la q ha hsa h0

end Go.Proofs.YtccmicegihlfbaaGreatDoor
