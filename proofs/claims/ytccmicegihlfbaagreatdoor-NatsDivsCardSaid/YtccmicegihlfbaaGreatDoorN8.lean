/- Numbers from 0 on: clones, numbers of 64 bits, by one part, noughts. -/
import Derived.Test.YtccmicegihlfbaaGreatDoorN7
import Derived.Test.YtccmicegihlfbaaGreatDoorTy
import Derived.Test.YtccmicegihlfbaaGreatDoorApp
set_option linter.unusedVariables false
set_option linter.unusedSimpArgs false
namespace Go.Proofs.YtccmicegihlfbaaGreatDoor
open Go.RowKit


theorem RN.srcs {a b : Nat} {w : World} {a0 : Addr} {l : List Int} {c : Nat} (h : RN a b w (.slice (some a0) l.length c) l) : ∀ j u, (nums .u32 l)[j]? = some u → w.cell? (a0.add j) = some u := by
  obtain ⟨hu, A, c', hv, h1, h2, h3⟩ := h
  simp only [Value.slice.injEq] at hv
  obtain ⟨rfl, _, _⟩ := hv
  intro j u hj
  have hlt : j < l.length := by
    have := (List.getElem?_eq_some_iff.1 hj).1
    rwa [nums_len] at this
  obtain ⟨ad, hA, _, hc⟩ := h3 j hlt
  simp only [Option.some.injEq] at hA
  subst hA
  rw [nums_get _ _ _ hlt] at hj
  rw [hc, ← hj]
theorem one_nums (k : IntKind) (l : List Int) : ∀ u ∈ nums k l, u.oneCell' = true := by
  intro u hu
  simp only [nums, List.mem_map] at hu
  obtain ⟨x, _, rfl⟩ := hu
  rfl

set_option maxHeartbeats 400000 in
theorem natsClone_n (w0 : World) (A : Option Addr) (l : List Int) (c : Nat) {a b : Nat} (h : RN a b w0 (.slice A l.length c) l) (hs : l.length ≤ SZ) (hA : A.isNone = true) :
    Ret Tryz.prog 91 [.slice A l.length c] w0 (fun r w1 => Below w0.heap.size w0 w1 ∧ ON w0.heap.size w1 r l) := by
  have E := Below.refl w0.heap.size w0
  unfold SZ at hs
  refine Ret_of (n := 8) Tryz.func91 rfl rfl (Nat.le_of_ble_eq_true rfl) ?_
  refine W_seq ?_
  refine W_region rfl ?_
  refine S_assign rfl rfl rfl (v := (.slice none 0 0)) (rfl) ?_
  refine OPS.nil ?_
  change WP _ _ _ _ _ _
  refine W_seq ?_
  refine W_seq ?_
  refine W_region rfl ?_
  refine S_move rfl rfl rfl (v := .slice A l.length c) (rfl) ?_
  refine S_eqNil Tryz.underlying23 rfl rfl rfl (rfl) ?_
  rw [hA]
  refine OPS.nil ?_
  change WP _ _ _ _ _ _
  refine W_cond rfl (b := true) (rfl) (fun _ => ?_) (fun h => (by cases h))
  refine W_seq ?_
  refine W_region rfl ?_
  refine S_assign rfl rfl rfl (v := (.slice none 0 0)) (rfl) ?_
  refine OPS.nil ?_
  change WP _ _ _ _ _ _
  refine W_ret ?_
  change Fin' _ _ _ _ _ _
  refine End1 (n := ⟨8, []⟩) (t := 2) rfl (by decide) (v := (.slice none 0 0)) (rfl) ?_
  obtain rfl : l = [] := by
    cases A with
    | none =>
      obtain ⟨hu, A, c1, hv, h1, h2, h3⟩ := h
      cases l with
      | nil => rfl
      | cons x l =>
        obtain ⟨ad, hA2, _⟩ := h3 0 (by simp)
        simp only [Value.slice.injEq] at hv
        rw [← hv.1] at hA2; cases hA2
    | some a0 => simp at hA
  exact ⟨E, ON.nil _ _⟩

set_option maxHeartbeats 400000 in
theorem natsClone_s (w0 : World) (A : Option Addr) (l : List Int) (c : Nat) {a b : Nat} (h : RN a b w0 (.slice A l.length c) l) (hs : l.length ≤ SZ) (hA : A.isNone = false) :
    Ret Tryz.prog 91 [.slice A l.length c] w0 (fun r w1 => Below w0.heap.size w0 w1 ∧ ON w0.heap.size w1 r l) := by
  have E := Below.refl w0.heap.size w0
  unfold SZ at hs
  refine Ret_of (n := 8) Tryz.func91 rfl rfl (Nat.le_of_ble_eq_true rfl) ?_
  refine W_seq ?_
  refine W_region rfl ?_
  refine S_assign rfl rfl rfl (v := (.slice none 0 0)) (rfl) ?_
  refine OPS.nil ?_
  change WP _ _ _ _ _ _
  refine W_seq ?_
  refine W_seq ?_
  refine W_region rfl ?_
  refine S_move rfl rfl rfl (v := .slice A l.length c) (rfl) ?_
  refine S_eqNil Tryz.underlying23 rfl rfl rfl (rfl) ?_
  rw [hA]
  refine OPS.nil ?_
  change WP _ _ _ _ _ _
  refine W_cond rfl (b := false) (rfl) (fun h => (by cases h)) (fun _ => ?_)
  refine W_skip ?_
  change WP _ _ _ _ _ _
  refine W_seq ?_
  refine W_region rfl ?_
  refine S_lit0 Tryz.underlying23 ti_uint32 rfl rfl ?_
  intro g1 w1 hg1 hs1 hB1 b1
  have hz1 := hB1.size
  have E := Below.step E hB1
  refine S_move rfl rfl rfl (v := .slice A l.length c) (rfl) ?_
  obtain ⟨a0, rfl⟩ : ∃ a0, A = some a0 := by cases A with | none => simp at hA | some a0 => exact ⟨a0, rfl⟩
  have hown : w1.ownsRow w0.heap.size 106 1 (.slice (some ⟨g1, 0, none⟩) 0 0) 0 [] := ⟨rfl, .inr ⟨g1, 0, #[], rfl, by omega, b1.at_, Nat.le_refl _, by simp [maxLen], rfl, rfl⟩⟩
  have h1 := h.below hB1
  refine S_append Tryz.underlying23 ti_uint32 rfl (by decide) rfl rfl rfl rfl (base := w0.heap.size) (a := a0) (k := l.length) (c := c) (news := nums .u32 l) (rfl) (rfl) hown (by rw [nums_len]; simp) (RN.srcs h1) (one_nums _ _) (by omega) (by omega) (by omega) ?_
  intro v2 w2 ho hg
  have E := Below.grownE E hg (by omega) (own_ge (by omega))
  refine S_assign rfl rfl rfl (v := v2) (rfl) ?_
  refine OPS.nil ?_
  change WP _ _ _ _ _ _
  refine W_ret ?_
  change Fin' _ _ _ _ _ _
  refine End1 (n := ⟨8, []⟩) (t := 2) rfl (by decide) (v := v2) (rfl) ?_
  exact ⟨E, ON.ofOwns (by simpa using ho) h.u32⟩


theorem natsClone_c (w0 : World) (v : Value) (l : List Int) {a b : Nat} (h : RN a b w0 v l) (hs : l.length ≤ SZ) : Ret Tryz.prog 91 [v] w0 (fun r w1 => Below w0.heap.size w0 w1 ∧ ON w0.heap.size w1 r l) := by
  obtain ⟨A, c, hv, hc, hm⟩ := h.form
  subst hv
  cases hA : A.isNone with
  | true => exact natsClone_n w0 A l c h hs hA
  | false => exact natsClone_s w0 A l c h hs hA


theorem val_two (x y : Int) : val [x, y] = x.toNat + 4294967296 * y.toNat := by simp [val]

set_option maxHeartbeats 400000 in
theorem natsOf_c (w0 : World) (x : Int) (hx : 0 ≤ x ∧ x < 18446744073709551616) :
    Ret Tryz.prog 154 [.int .u64 x] w0 (fun r w1 => Below w0.heap.size w0 w1 ∧ ON w0.heap.size w1 r (dg x.toNat)) := by
  have E := Below.refl w0.heap.size w0
  refine Ret_of (n := 10) Tryz.func154 rfl rfl (Nat.le_of_ble_eq_true rfl) ?_
  refine W_seq ?_
  refine W_region rfl ?_
  refine S_assign rfl rfl rfl (v := (.slice none 0 0)) (rfl) ?_
  refine OPS.nil ?_
  change WP _ _ _ _ _ _
  refine W_seq ?_
  refine W_region rfl ?_
  refine S_move rfl rfl rfl (v := .int .u64 x) (rfl) ?_
  refine S_conv Tryz.underlying124 Tryz.underlying106 rfl rfl rfl (rfl) (b := (x % 4294967296)) (wrap_u32' _) ?_
  refine S_move rfl rfl rfl (v := .int .u64 x) (rfl) ?_
  refine S_shr rfl rfl rfl rfl (rfl) (rfl) (by omega) (v := (x / 4294967296)) (shr32 _) ?_
  refine S_conv Tryz.underlying124 Tryz.underlying106 rfl rfl rfl (rfl) (b := (x / 4294967296)) (wrap_u32 (by omega) (by omega)) ?_
  refine S_lit Tryz.underlying23 ti_uint32 rfl rfl (by decide) (by decide) rfl (vs := [(.int .u32 (x % 4294967296)), (.int .u32 (x / 4294967296))]) (cs := [(.int .u32 (x % 4294967296)), (.int .u32 (x / 4294967296))]) rfl rfl (by simp [Value.cells]) rfl ?_
  intro g1 w1 hg1 hs1 hB1 b1
  have hz1 := hB1.size
  have E := Below.step E hB1
  replace b1 : Blk w1 g1 (nums .u32 [(x % 4294967296), (x / 4294967296)]) 106 := b1
  have hxu : U32 [(x % 4294967296), (x / 4294967296)] := U32.mk (by omega) (by omega) (U32.mk (by omega) (by omega) U32.nil)
  refine S_call en_nats_cut rfl rfl rfl (vs := [(.slice (some ⟨g1, 0, none⟩) 2 2)]) (rfl) (natsCut_c _ _ [(x % 4294967296), (x / 4294967296)] (RN.ofNums (a := 0) (b := 0) b1 hxu rfl (by omega))) ?_
  rintro r _ ⟨⟨A, c', k', hv, hr', hk', ht⟩, rfl⟩
  refine S_assign rfl rfl rfl (v := r) (rfl) ?_
  refine OPS.nil ?_
  change WP _ _ _ _ _ _
  refine W_ret ?_
  change Fin' _ _ _ _ _ _
  refine End1 (n := ⟨10, []⟩) (t := 2) rfl (by decide) (v := r) (rfl) ?_
  have := cut_on b1 hxu (B := w0.heap.size) (by omega) (m := 2) rfl (by omega) hv hr' hk' ht
  rw [val_two, show (x % 4294967296).toNat + 4294967296 * (x / 4294967296).toNat = x.toNat by omega] at this
  exact ⟨E, this⟩


theorem short_step {la xs : List Int} {i : Nat} {y r a : Int} (hi : i < xs.length) (hy : 0 < y) (hr : 0 ≤ r) (ha : 0 ≤ a) (ea : la.getD i 0 = a) (h : val (la.drop (i + 1)) = val (xs.drop (i + 1)) * y.toNat + r.toNat) :
    val (la.drop i) = val ((xs.set i ((r * 4294967296 + a) / y)).drop i) * y.toNat + ((r * 4294967296 + a) % y).toNat := by
  rw [val_drop_step la i, val_drop_step (xs.set i _) i, ea, getD_set_eq' _ _ _ hi, List.drop_set_of_lt (by omega), h]
  have h1 : 0 ≤ (r * 4294967296 + a) / y := Int.ediv_nonneg (by omega) (by omega)
  have h2 := Int.emod_nonneg (r * 4294967296 + a) (show y ≠ 0 by omega)
  have e : ((r * 4294967296 + a) / y).toNat * y.toNat + ((r * 4294967296 + a) % y).toNat = r.toNat * 4294967296 + a.toNat := by
    have ez : r * 4294967296 + a = ((r.toNat * 4294967296 + a.toNat : Nat) : Int) := by omega
    have ey : y = ((y.toNat : Nat) : Int) := by omega
    generalize r.toNat * 4294967296 + a.toNat = Z at *
    generalize y.toNat = Y at *
    subst ey
    rw [ez, ← Int.natCast_ediv, ← Int.natCast_emod, Int.toNat_natCast, Int.toNat_natCast, Nat.mul_comm]
    exact Nat.div_add_mod Z Y
  generalize ((r * 4294967296 + a) / y).toNat = q at *
  generalize ((r * 4294967296 + a) % y).toNat = s at *
  rw [Nat.mul_add, Nat.add_mul, Nat.mul_assoc 4294967296]
  omega

set_option maxHeartbeats 400000 in
theorem natsShort_c (w0 : World) (va : Value) (la : List Int) (y : Int) {a b : Nat} (ha : RN a b w0 va la) (hsa : la.length ≤ SZ) (hy : 0 < y ∧ y < 4294967296) :
    Ret Tryz.prog 153 [va, .int .u32 y] w0 (fun r w1 => Below w0.heap.size w0 w1 ∧ ∃ v, r = .tuple #[v, .int .u32 ((val la % y.toNat : Nat) : Int)] ∧ ON w0.heap.size w1 v (dg (val la / y.toNat))) := by
  have E := Below.refl w0.heap.size w0
  unfold SZ at hsa
  refine Ret_of (n := 33) Tryz.func153 rfl rfl (Nat.le_of_ble_eq_true rfl) ?_
  refine W_seq ?_
  refine W_region rfl ?_
  refine S_assign rfl rfl rfl (v := (.slice none 0 0)) (rfl) ?_
  refine S_assign rfl rfl rfl (v := (.int .u32 0)) (rfl) ?_
  refine OPS.nil ?_
  change WP _ _ _ _ _ _
  refine W_seq ?_
  refine W_region rfl ?_
  refine S_move rfl rfl rfl (v := va) (rfl) ?_
  refine S_len Tryz.underlying23 rfl rfl rfl (rfl) (m := la.length) (ha.len) ?_
  refine S_make Tryz.underlying23 ti_uint32 rfl rfl rfl rfl (rfl) (m := la.length) (by omega) (by omega) (by omega) ?_
  intro g1 w1 hg1 hs1 hB1 b1
  rw [nums_rep] at b1
  have hz1 := hB1.size
  have E := Below.step E hB1
  refine S_assign rfl rfl rfl (v := (.slice (some ⟨g1, 0, none⟩) (la.length) (la.length))) (rfl) ?_
  refine OPS.nil ?_
  change WP _ _ _ _ _ _
  refine W_seq ?_
  refine W_seq ?_
  refine W_region rfl ?_
  obtain ⟨m, hmm⟩ : ∃ m, m = la.length := ⟨_, rfl⟩
  refine S_move rfl rfl rfl (v := va) (rfl) ?_
  refine S_len Tryz.underlying23 rfl rfl rfl (rfl) (m := la.length) (ha.len) ?_
  refine S_sub64 rfl rfl rfl rfl (rfl) (rfl) (by omega) ?_
  refine S_assign rfl rfl rfl (v := (.int .i64 ((la.length : Int) - 1))) (rfl) ?_
  refine OPS.nil ?_
  change WP _ _ _ _ _ _
  refine W_block ?_
  refine W_loop (fun k σ w => ∃ (r : Int) (xs : List Int), σ 0 = va ∧ σ 1 = .int .u32 y ∧ σ 4 = .slice (some ⟨g1, 0, none⟩) m m ∧ σ 5 = .int .u32 r ∧ σ 6 = .int .i64 ((k : Int) - 1) ∧ k ≤ m ∧ (0 ≤ r ∧ r < y) ∧
      val (la.drop k) = val (xs.drop k) * y.toNat + r.toNat ∧ xs.length = m ∧ U32 xs ∧ Blk w g1 (nums .u32 xs) 106 ∧ Below w0.heap.size w0 w) (m) ⟨0, List.replicate m 0, rfl, rfl, by rw [hmm]; rfl, rfl, by rw [hmm]; rfl, Nat.le_refl _, ⟨by omega, by omega⟩, by rw [List.drop_of_length_le (by omega), List.drop_of_length_le (by simp)]; simp [val], by simp, U32.replicate m, by rw [hmm]; exact b1, E⟩ ?_
  rintro k σ w ⟨r, xs, s0, s1, s4, s5, s6, hk, hr, hval, hxl, hxu, b1, E⟩
  have hua := ha.u32.getD (k - 1)
  refine W_seq ?_
  refine W_seq ?_
  refine W_region rfl ?_
  refine S_move rfl rfl rfl (v := (.int .i64 ((k : Int) - 1))) (s6) ?_
  refine S_bin rfl rfl rfl rfl rfl (rfl) (rfl) rfl ?_
  refine OPS.nil ?_
  change WP _ _ _ _ _ _
  refine W_cond rfl (rfl) (fun hq14 => ?_) (fun hq14 => ?_)
  · skip
    replace hq14 := of_decide_eq_true hq14
    refine W_skip ?_
    change WP _ _ _ _ _ _
    refine W_seq ?_
    refine W_block ?_
    refine W_region rfl ?_
    obtain ⟨q1, q2, q3, q4⟩ := div_small (lo := la.getD (k - 1) 0) hr hua
    refine S_move rfl rfl rfl (v := (.slice (some ⟨g1, 0, none⟩) m m)) (s4) ?_
    refine S_move rfl rfl rfl (v := (.int .i64 ((k : Int) - 1))) (s6) ?_
    refine S_move rfl rfl rfl (v := (.int .u32 r)) (s5) ?_
    refine S_move rfl rfl rfl (v := va) (s0) ?_
    refine S_move rfl rfl rfl (v := (.int .i64 ((k : Int) - 1))) (s6) ?_
    obtain ⟨ad1, hp3, hc2⟩ := (ha.below E).at (k - 1) (by omega)
    refine S_idx Tryz.underlying23 ti_uint32 rfl rfl rfl rfl (rfl) (rfl) hp3 (by omega) ?_
    refine S_load rfl rfl rfl (rfl) (LD.one ti_uint32 hc2) ?_
    refine S_move rfl rfl rfl (v := (.int .u32 y)) (s1) ?_
    refine S_call en_math_bits_Div32 rfl rfl rfl (vs := [(.int .u32 r), (.int .u32 (la.getD ((k - 1)) 0)), (.int .u32 y)]) (rfl) (div32_c _ _ _ _ hr hua hy.2) ?_
    rintro _ w2 ⟨hB2, rfl⟩
    have hz2 := hB2.size
    have E := Below.step E hB2
    have hl_b1 := b1.lt
    have b1 := b1.below hB2
    refine S_move rfl rfl rfl (v := (.tuple #[.int .u32 ((r * 4294967296 + la.getD (k - 1) 0) / y), .int .u32 ((r * 4294967296 + la.getD (k - 1) 0) % y)])) (rfl) ?_
    refine S_extract rfl rfl rfl (rfl) rfl ?_
    refine S_extract rfl rfl rfl (rfl) rfl ?_
    refine S_idx Tryz.underlying23 ti_uint32 rfl rfl rfl rfl (rfl) (rfl) (j := (k - 1)) (ad := ⟨g1, (k - 1), none⟩) (SlAt.own1 (by omega)) (by omega) ?_
    refine S_storeN ti_uint32 rfl rfl rfl rfl (g := g1) (o := (k - 1)) (rfl) (a := ((r * 4294967296 + la.getD (k - 1) 0) / y)) (rfl) b1 (by omega) ?_
    intro w3 hU3 b1
    have E := Below.stepU E hU3 (by omega)
    have hz3 := hU3.size
    refine S_assign rfl rfl rfl (v := (.int .u32 ((r * 4294967296 + la.getD (k - 1) 0) % y))) (rfl) ?_
    refine OPS.nil ?_
    change WP _ _ _ _ _ _
    refine W_region rfl ?_
    refine S_move rfl rfl rfl (v := (.int .i64 ((k : Int) - 1))) (s6) ?_
    refine S_sub64 rfl rfl rfl rfl (rfl) (rfl) (by omega) ?_
    refine S_assign rfl rfl rfl (v := (.int .i64 (((k : Int) - 1) - 1))) (rfl) ?_
    refine OPS.nil ?_
    exact ⟨k - 1, by omega, _, _, s0, s1, s4, rfl, int_eq (by omega), by omega, ⟨q3, q4⟩, short_step (by omega) hy.1 hr.1 hua.1 rfl (by rw [show k - 1 + 1 = k by omega]; exact hval), by simpa using hxl, hxu.set _ (by omega) (by omega), b1, E⟩
  · skip
    replace hq14 := of_decide_eq_false hq14
    refine W_exit ?_
    change WP _ _ _ _ _ _
    refine W_seq ?_
    refine W_region rfl ?_
    refine S_move rfl rfl rfl (v := (.slice (some ⟨g1, 0, none⟩) m m)) (s4) ?_
    refine S_call en_nats_cut rfl rfl rfl (vs := [(.slice (some ⟨g1, 0, none⟩) m m)]) (rfl) (natsCut_c _ _ xs (RN.ofNums (a := 0) (b := 0) b1 hxu hxl (by omega))) ?_
    rintro r2 _ ⟨⟨A, c', k', hv, hr', hk', ht⟩, rfl⟩
    refine S_move rfl rfl rfl (v := (.int .u32 r)) (s5) ?_
    refine S_assign rfl rfl rfl (v := r2) (rfl) ?_
    refine S_assign rfl rfl rfl (v := (.int .u32 r)) (rfl) ?_
    refine OPS.nil ?_
    change WP _ _ _ _ _ _
    refine W_ret ?_
    change Fin' _ _ _ _ _ _
    refine End2 (n := ⟨33, []⟩) (t := 4) (u := 5) rfl (by decide) (by decide) (rfl) (rfl) ?_
    have hi : k = 0 := by omega
    subst hi
    simp only [List.drop_zero] at hval
    have := cut_on b1 hxu (B := w0.heap.size) (by omega) hxl (by omega) hv hr' hk' ht
    have hry : r.toNat < y.toNat := by omega
    have e1 : val la / y.toNat = val xs := by rw [hval, Nat.mul_comm, Nat.mul_add_div (by omega), Nat.div_eq_of_lt hry, Nat.add_zero]
    have e2 : val la % y.toNat = r.toNat := by rw [hval, Nat.mul_comm, Nat.mul_add_mod, Nat.mod_eq_of_lt hry]
    refine ⟨E, _, ?_, by rw [e1]; exact this⟩
    rw [e2, Int.toNat_of_nonneg hr.1]
    rfl


/-- How many noughts stand at the end of a number, and what is left is odd. -/
def Odd2 (n q : Nat) : Prop := ∃ m, n = 2 ^ q * (2 * m + 1)
theorem noughts_step {la : List Int} {i : Nat} (hz : la.getD i 0 = 0) (h : val la = 4294967296 ^ i * val (la.drop i)) : val la = 4294967296 ^ (i + 1) * val (la.drop (i + 1)) := by
  rw [h, val_drop_step la i, hz, Nat.pow_succ, Nat.mul_assoc]
  simp
theorem noughts_end {la : List Int} {i : Nat} {x : Int} (hx : 0 < x ∧ x < 4294967296) (ex : la.getD i 0 = x) (h : val la = 4294967296 ^ i * val (la.drop i)) : Odd2 (val la) (32 * i + ctz32 x) := by
  obtain ⟨m, hm⟩ := ctz32_spec hx
  have hc := (low_bit hx).2
  refine ⟨m + 2 ^ (31 - ctz32 x) * val (la.drop (i + 1)), ?_⟩
  rw [h, val_drop_step la i, ex, hm]
  have e : (4294967296 : Nat) = 2 ^ ctz32 x * (2 * 2 ^ (31 - ctz32 x)) := by
    rw [← Nat.pow_succ', ← Nat.pow_add, show ctz32 x + (31 - ctz32 x).succ = 32 by omega]
  have e2 : 2 ^ ctz32 x * (2 * m + 1) + 4294967296 * val (la.drop (i + 1)) = 2 ^ ctz32 x * (2 * (m + 2 ^ (31 - ctz32 x) * val (la.drop (i + 1))) + 1) := by
    rw [e, Nat.mul_assoc, ← Nat.mul_add, Nat.mul_assoc]
    congr 1
    omega
  rw [e2, Nat.pow_add, Nat.pow_mul, ← Nat.mul_assoc]

set_option maxHeartbeats 400000 in
theorem natsNoughts_c (w0 : World) (va : Value) (la : List Int) {a b : Nat} (ha : RN a b w0 va la) (hsa : la.length ≤ SZ) (hT : Tab w0) (h0 : 0 < val la) :
    Ret Tryz.prog 160 [va] w0 (fun r w1 => (∃ q : Nat, r = .int .u64 (q : Int) ∧ Odd2 (val la) q ∧ q < 32 * la.length) ∧ w0 = w1) := by
  unfold SZ at hsa
  refine Ret_of (n := 22) Tryz.func160 rfl rfl (Nat.le_of_ble_eq_true rfl) ?_
  refine W_seq ?_
  refine W_region rfl ?_
  refine S_assign rfl rfl rfl (v := (.int .u64 0)) (rfl) ?_
  refine OPS.nil ?_
  change WP _ _ _ _ _ _
  refine W_seq ?_
  refine W_seq ?_
  refine W_region rfl ?_
  refine S_move rfl rfl rfl (v := va) (rfl) ?_
  refine S_len Tryz.underlying23 rfl rfl rfl (rfl) (m := la.length) (ha.len) ?_
  refine S_move rfl rfl rfl (v := (.int .i64 0)) (rfl) ?_
  refine OPS.nil ?_
  change WP _ _ _ _ _ _
  refine W_block ?_
  refine W_loop (fun k σ w => ∃ (i : Nat), σ 2 = .int .u64 ((32 * i : Nat) : Int) ∧ σ 5 = va ∧ σ 6 = .int .i64 (la.length : Int) ∧ σ 7 = .int .i64 (i : Int) ∧ i + k = la.length ∧ val la = 4294967296 ^ i * val (la.drop i) ∧ w0 = w) (la.length) ⟨0, rfl, rfl, rfl, rfl, by omega, by simp, rfl⟩ ?_
  rintro k σ w ⟨i, s2, s5, s6, s7, hik, hval, rfl⟩
  have hua := ha.u32.getD i
  refine W_seq ?_
  refine W_region rfl ?_
  refine S_bin rfl rfl rfl rfl rfl (s7) (s6) rfl ?_
  refine OPS.nil ?_
  change WP _ _ _ _ _ _
  refine W_seq ?_
  refine W_cond rfl (rfl) (fun hq8 => ?_) (fun hq8 => ?_)
  · skip
    replace hq8 := of_decide_eq_true hq8
    refine W_skip ?_
    change WP _ _ _ _ _ _
    refine W_seq ?_
    refine W_block ?_
    refine W_seq ?_
    refine W_region rfl ?_
    obtain ⟨ad1, hp3, hc2⟩ := ha.at i (by omega)
    refine S_idx Tryz.underlying23 ti_uint32 rfl rfl rfl rfl (s5) (s7) hp3 (by omega) ?_
    refine S_load rfl rfl rfl (rfl) (LD.one ti_uint32 hc2) ?_
    refine S_assign rfl rfl rfl (v := (.int .u32 (la.getD i 0))) (rfl) ?_
    refine OPS.nil ?_
    change WP _ _ _ _ _ _
    refine W_seq ?_
    refine W_seq ?_
    refine W_region rfl ?_
    refine S_move rfl rfl rfl (v := (.int .u32 (la.getD i 0))) (rfl) ?_
    refine S_bin rfl rfl rfl rfl rfl (rfl) (rfl) rfl ?_
    refine OPS.nil ?_
    change WP _ _ _ _ _ _
    refine W_cond rfl (rfl) (fun hq12 => ?_) (fun hq12 => ?_)
    · skip
      replace hq12 := bne_iff_ne.1 hq12
      refine W_seq ?_
      refine W_region rfl ?_
      have hc := (low_bit (x := la.getD i 0) (by omega)).2
      refine S_move rfl rfl rfl (v := (.int .u64 ((32 * i : Nat) : Int))) (s2) ?_
      refine S_move rfl rfl rfl (v := (.int .u32 (la.getD i 0))) (rfl) ?_
      refine S_call en_math_bits_TrailingZeros32 rfl rfl rfl (vs := [(.int .u32 (la.getD i 0))]) (rfl) (tz32_c _ _ (by omega) hT) ?_
      rintro _ _ ⟨rfl, rfl⟩
      refine S_conv Tryz.underlying3 Tryz.underlying125 rfl rfl rfl (rfl) (b := ((ctz32 (la.getD i 0) : Nat) : Int)) (wrap_u64 (by omega) (by omega)) ?_
      refine S_bin rfl rfl rfl rfl rfl (rfl) (rfl) (v := .int .u64 ((32 * i + ctz32 (la.getD i 0) : Nat) : Int)) (congrArg _ (Eq.trans (wrap_u64 (by omega) (by omega)) (by omega))) ?_
      refine S_assign rfl rfl rfl (v := (.int .u64 ((32 * i + ctz32 (la.getD i 0) : Nat) : Int))) (rfl) ?_
      refine OPS.nil ?_
      change WP _ _ _ _ _ _
      refine W_ret ?_
      change Fin' _ _ _ _ _ _
      refine End1 (n := ⟨22, []⟩) (t := 2) rfl (by decide) (v := (.int .u64 ((32 * i + ctz32 (la.getD i 0) : Nat) : Int))) (rfl) ?_
      exact ⟨⟨_, rfl, noughts_end (by omega) rfl hval, by omega⟩, rfl⟩
    · skip
      replace hq12 := bne_eq_false_iff_eq.1 hq12
      refine W_skip ?_
      change WP _ _ _ _ _ _
      refine W_region rfl ?_
      refine S_move rfl rfl rfl (v := (.int .u64 ((32 * i : Nat) : Int))) (s2) ?_
      refine S_bin rfl rfl rfl rfl rfl (rfl) (rfl) (v := .int .u64 ((32 * (i + 1) : Nat) : Int)) (congrArg _ (Eq.trans (wrap_u64 (by omega) (by omega)) (by omega))) ?_
      refine S_assign rfl rfl rfl (v := (.int .u64 ((32 * (i + 1) : Nat) : Int))) (rfl) ?_
      refine OPS.nil ?_
      change WP _ _ _ _ _ _
      refine W_region rfl ?_
      refine S_add64 rfl rfl rfl rfl (s7) (rfl) (by omega) ?_
      refine S_move rfl rfl rfl (v := (.int .i64 ((i : Int) + 1))) (rfl) ?_
      refine OPS.nil ?_
      exact ⟨k - 1, by omega, i + 1, int_eq (by omega), s5, s6, int_eq (by omega), by omega, noughts_step hq12 hval, rfl⟩
  · skip
    replace hq8 := of_decide_eq_false hq8
    exfalso
    have hi : i = la.length := by omega
    rw [hi, List.drop_length, val_nil, Nat.mul_zero] at hval
    omega

end Go.Proofs.YtccmicegihlfbaaGreatDoor
