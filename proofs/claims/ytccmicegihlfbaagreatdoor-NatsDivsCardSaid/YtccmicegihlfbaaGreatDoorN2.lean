/- Numbers from 0 on: sums. -/
import Derived.Test.YtccmicegihlfbaaGreatDoorN1
import Derived.Test.YtccmicegihlfbaaGreatDoorTy
set_option linter.unusedVariables false
set_option linter.unusedSimpArgs false
namespace Go.Proofs.YtccmicegihlfbaaGreatDoor
open Go.RowKit

set_option maxHeartbeats 400000 in
theorem add32_c (w0 : World) (x y c : Int) (hx : 0 ≤ x ∧ x < 4294967296) (hy : 0 ≤ y ∧ y < 4294967296) (hc : 0 ≤ c ∧ c ≤ 1) :
    Ret Tryz.prog 240 [.int .u32 x, .int .u32 y, .int .u32 c] w0 (fun r w1 => r = .tuple #[.int .u32 ((x + y + c) % 4294967296), .int .u32 ((x + y + c) / 4294967296)] ∧ w0 = w1) := by
  refine Ret_of (n := 22) Tryz.func240 rfl rfl (Nat.le_of_ble_eq_true rfl) ?_
  refine W_seq ?_
  refine W_region rfl ?_
  refine S_assign rfl rfl rfl (v := (.int .u32 0)) (rfl) ?_
  refine S_assign rfl rfl rfl (v := (.int .u32 0)) (rfl) ?_
  refine OPS.nil ?_
  change WP _ _ _ _ _ _
  refine W_seq ?_
  refine W_region rfl ?_
  refine S_move rfl rfl rfl (v := .int .u32 x) (rfl) ?_
  refine S_conv Tryz.underlying106 Tryz.underlying124 rfl rfl rfl (rfl) (b := x) (wrap_u64 hx.1 (by omega)) ?_
  refine S_move rfl rfl rfl (v := .int .u32 y) (rfl) ?_
  refine S_conv Tryz.underlying106 Tryz.underlying124 rfl rfl rfl (rfl) (b := y) (wrap_u64 hy.1 (by omega)) ?_
  refine S_bin rfl rfl rfl rfl rfl (rfl) (rfl) (v := .int .u64 (x + y)) (congrArg _ (wrap_u64 (by omega) (by omega))) ?_
  refine S_move rfl rfl rfl (v := .int .u32 c) (rfl) ?_
  refine S_conv Tryz.underlying106 Tryz.underlying124 rfl rfl rfl (rfl) (b := c) (wrap_u64 hc.1 (by omega)) ?_
  refine S_bin rfl rfl rfl rfl rfl (rfl) (rfl) (v := .int .u64 (x + y + c)) (congrArg _ (wrap_u64 (by omega) (by omega))) ?_
  refine S_assign rfl rfl rfl (v := (.int .u64 (x + y + c))) (rfl) ?_
  refine OPS.nil ?_
  change WP _ _ _ _ _ _
  refine W_seq ?_
  refine W_region rfl ?_
  refine S_move rfl rfl rfl (v := (.int .u64 (x + y + c))) (rfl) ?_
  refine S_conv Tryz.underlying124 Tryz.underlying106 rfl rfl rfl (rfl) (b := ((x + y + c) % 4294967296)) (wrap_u32' _) ?_
  refine S_assign rfl rfl rfl (v := (.int .u32 ((x + y + c) % 4294967296))) (rfl) ?_
  refine OPS.nil ?_
  change WP _ _ _ _ _ _
  refine W_seq ?_
  refine W_region rfl ?_
  refine S_move rfl rfl rfl (v := (.int .u64 (x + y + c))) (rfl) ?_
  refine S_shr rfl rfl rfl rfl (rfl) (rfl) (by omega) (v := ((x + y + c) / 4294967296)) (by rw [Int.fdiv_eq_ediv_of_nonneg _ (by decide)]; rfl) ?_
  refine S_conv Tryz.underlying124 Tryz.underlying106 rfl rfl rfl (rfl) (b := ((x + y + c) / 4294967296)) (wrap_u32 (by omega) (by omega)) ?_
  refine S_assign rfl rfl rfl (v := (.int .u32 ((x + y + c) / 4294967296))) (rfl) ?_
  refine OPS.nil ?_
  change WP _ _ _ _ _ _
  refine W_ret ?_
  change Fin' _ _ _ _ _ _
  refine End2 (n := ⟨22, []⟩) (t := 6) (u := 7) rfl (by decide) (by decide) (rfl) (rfl) ?_
  exact ⟨rfl, rfl⟩


/-- Below 2 ^ (32 * 2 ^ 35): what a list's length may be here. -/
abbrev SZ : Nat := 1099511627776
theorem val_step (l : List Int) (i : Nat) : val (l.take (i + 1)) = val (l.take i) + 4294967296 ^ i * (l.getD i 0).toNat := by
  by_cases hi : i < l.length
  · exact val_take_succ l i hi
  · rw [List.take_of_length_le (by omega), List.take_of_length_le (by omega), List.getD_eq_getElem?_getD, List.getElem?_eq_none (by omega)]
    simp
theorem take_set_succ (xs : List Int) (i : Nat) (x : Int) (hi : i < xs.length) : (xs.set i x).take (i + 1) = xs.take i ++ [x] := by
  rw [List.take_succ_eq_append_getElem (by simpa using hi)]
  simp [List.take_set_of_le]
theorem val_set_take (xs : List Int) (i : Nat) (x : Int) (hi : i < xs.length) : val ((xs.set i x).take (i + 1)) = val (xs.take i) + 4294967296 ^ i * x.toNat := by
  rw [take_set_succ xs i x hi, val_append, List.length_take, Nat.min_eq_left (by omega)]
  simp [val]
theorem add_round {la lb xs : List Int} {i : Nat} {c x y : Int} (hi : i < xs.length) (hx : 0 ≤ x) (hy : 0 ≤ y) (hc : 0 ≤ c) (ex : la.getD i 0 = x) (ey : lb.getD i 0 = y)
    (h : val (xs.take i) + 4294967296 ^ i * c.toNat = val (la.take i) + val (lb.take i)) :
    val ((xs.set i ((x + y + c) % 4294967296)).take (i + 1)) + 4294967296 ^ (i + 1) * ((x + y + c) / 4294967296).toNat = val (la.take (i + 1)) + val (lb.take (i + 1)) := by
  rw [val_set_take xs i _ hi, val_step la, val_step lb, ex, ey, Nat.pow_succ]
  have e : ((x + y + c) % 4294967296).toNat + 4294967296 * ((x + y + c) / 4294967296).toNat = x.toNat + y.toNat + c.toNat := by omega
  generalize ((x + y + c) % 4294967296).toNat = p at e
  generalize ((x + y + c) / 4294967296).toNat = q at e
  generalize 4294967296 ^ i = B at *
  have : B * p + B * 4294967296 * q = B * x.toNat + B * y.toNat + B * c.toNat := by
    rw [Nat.mul_assoc, ← Nat.mul_add, e, Nat.mul_add, Nat.mul_add]
  omega
theorem pow_pos' (m : Nat) : 0 < 4294967296 ^ m := Nat.pow_pos (by decide)
theorem add_end {la lb xs : List Int} {m : Nat} {c : Int} (hl : xs.length = m) (hm : m = max la.length lb.length + 1) (ha : U32 la) (hb : U32 lb) (hc : 0 ≤ c)
    (h : val (xs.take m) + 4294967296 ^ m * c.toNat = val (la.take m) + val (lb.take m)) : val xs = val la + val lb := by
  rw [List.take_of_length_le (by omega), List.take_of_length_le (l := la) (by omega), List.take_of_length_le (l := lb) (by omega)] at h
  have h1 := Nat.lt_of_lt_of_le (val_lt ha) (Nat.pow_le_pow_right (by decide : 4294967296 > 0) (Nat.le_max_left la.length lb.length))
  have h2 := Nat.lt_of_lt_of_le (val_lt hb) (Nat.pow_le_pow_right (by decide : 4294967296 > 0) (Nat.le_max_right la.length lb.length))
  have e : 4294967296 ^ m = 4294967296 ^ (max la.length lb.length) * 4294967296 := by rw [hm, Nat.pow_succ]
  generalize 4294967296 ^ (max la.length lb.length) = q at h1 h2 e
  rcases Nat.eq_zero_or_pos c.toNat with h0 | h0
  · rw [h0] at h; omega
  · have := Nat.mul_le_mul_left (4294967296 ^ m) h0
    omega
theorem cut_on {B g m : Nat} {w : World} {xs : List Int} {r : Value} {A : Option Addr} {c k : Nat} (hb : Blk w g (nums .u32 xs) 106) (hu : U32 xs) (hB : B ≤ g) (hm : xs.length = m) (hmx : m ≤ 9223372036854775807)
    (hv : Value.slice (some ⟨g, 0, none⟩) m m = .slice A xs.length c) (hr : r = .slice A k k) (hk : k ≤ xs.length) (ht : xs.take k = dg (val xs)) : ON B w r (dg (val xs)) := by
  simp only [Value.slice.injEq] at hv
  obtain ⟨rfl, _, _⟩ := hv
  subst hr
  rw [← ht]
  exact ON.mkNums hb hu hB hk (by omega)
theorem RN.ofNums {a b g m : Nat} {w : World} {xs : List Int} (hb : Blk w g (nums .u32 xs) 106) (hu : U32 xs) (hm : xs.length = m) (hmx : m ≤ 9223372036854775807) : RN 0 0 w (.slice (some ⟨g, 0, none⟩) m m) xs := by
  subst hm
  have := (ON.mkNums (B := 0) hb hu (Nat.zero_le _) (Nat.le_refl _) hmx).r
  rw [List.take_length] at this
  exact this.any

set_option maxHeartbeats 400000 in
theorem natsAdd_c (w0 : World) (va vb : Value) (la lb : List Int) {a b a2 b2 : Nat} (ha : RN a b w0 va la) (hb : RN a2 b2 w0 vb lb) (hsa : la.length ≤ SZ) (hsb : lb.length ≤ SZ) :
    Ret Tryz.prog 203 [va, vb] w0 (fun r w1 => Below w0.heap.size w0 w1 ∧ ON w0.heap.size w1 r (dg (nv la + nv lb))) := by
  have E := Below.refl w0.heap.size w0
  have hfa := ha.fine
  have hfb := hb.fine
  have h1 := fineL_length la
  have h2 := fineL_length lb
  unfold SZ at hsa hsb
  refine Ret_of (n := 43) Tryz.func203 rfl rfl (Nat.le_of_ble_eq_true rfl) ?_
  refine W_seq ?_
  refine W_region rfl ?_
  refine S_assign rfl rfl rfl (v := (.slice none 0 0)) (rfl) ?_
  refine OPS.nil ?_
  change WP _ _ _ _ _ _
  refine W_seq ?_
  refine W_region rfl ?_
  refine S_move rfl rfl rfl (v := va) (rfl) ?_
  refine S_call en_nats_fine rfl rfl rfl (vs := [va]) (rfl) (natsFine_c w0 va la ha) ?_
  rintro _ _ ⟨rfl, rfl⟩
  refine S_move rfl rfl rfl (v := vb) (rfl) ?_
  refine S_call en_nats_fine rfl rfl rfl (vs := [vb]) (rfl) (natsFine_c w0 vb lb hb) ?_
  rintro _ _ ⟨rfl, rfl⟩
  refine S_assign rfl rfl rfl (v := (if okL la then va else .slice none 0 0)) (rfl) ?_
  refine S_assign rfl rfl rfl (v := (if okL lb then vb else .slice none 0 0)) (rfl) ?_
  refine OPS.nil ?_
  change WP _ _ _ _ _ _
  refine W_seq ?_
  refine W_region rfl ?_
  refine S_move rfl rfl rfl (v := (if okL la then va else .slice none 0 0)) (rfl) ?_
  refine S_len Tryz.underlying23 rfl rfl rfl (rfl) (m := (fineL la).length) (hfa.len) ?_
  refine S_move rfl rfl rfl (v := (if okL lb then vb else .slice none 0 0)) (rfl) ?_
  refine S_len Tryz.underlying23 rfl rfl rfl (rfl) (m := (fineL lb).length) (hfb.len) ?_
  refine S_max rfl rfl rfl rfl (rfl) (rfl) (v := (max ((fineL la).length : Int) ((fineL lb).length : Int))) (rfl) ?_
  refine S_add64 rfl rfl rfl rfl (rfl) (rfl) (by omega) ?_
  refine S_make Tryz.underlying23 ti_uint32 rfl rfl rfl rfl (rfl) (m := max (fineL la).length (fineL lb).length + 1) (by omega) (by omega) (by omega) ?_
  intro g1 w1 hg1 hs1 hB1 b1
  rw [nums_rep] at b1
  have hz1 := hB1.size
  have E := Below.step E hB1
  refine S_assign rfl rfl rfl (v := (.slice (some ⟨g1, 0, none⟩) (max (fineL la).length (fineL lb).length + 1) (max (fineL la).length (fineL lb).length + 1))) (rfl) ?_
  refine OPS.nil ?_
  change WP _ _ _ _ _ _
  refine W_seq ?_
  refine W_region rfl ?_
  obtain ⟨m, hmm⟩ : ∃ m, m = max (fineL la).length (fineL lb).length + 1 := ⟨_, rfl⟩
  refine S_assign rfl rfl rfl (v := (.int .u32 0)) (rfl) ?_
  refine OPS.nil ?_
  change WP _ _ _ _ _ _
  refine W_seq ?_
  refine W_seq ?_
  refine W_region rfl ?_
  refine S_move rfl rfl rfl (v := (.slice (some ⟨g1, 0, none⟩) (max (fineL la).length (fineL lb).length + 1) (max (fineL la).length (fineL lb).length + 1))) (rfl) ?_
  refine S_len Tryz.underlying23 rfl rfl rfl (rfl) (m := (max (fineL la).length (fineL lb).length + 1)) (⟨_, _, rfl⟩) ?_
  refine S_move rfl rfl rfl (v := (.int .i64 0)) (rfl) ?_
  refine OPS.nil ?_
  change WP _ _ _ _ _ _
  refine W_block ?_
  refine W_loop (fun k σ w => ∃ (i : Nat) (c : Int) (xs : List Int), σ 0 = (if okL la then va else .slice none 0 0) ∧ σ 1 = (if okL lb then vb else .slice none 0 0) ∧ σ 5 = .slice (some ⟨g1, 0, none⟩) m m ∧ σ 6 = .int .u32 c ∧ σ 20 = .int .i64 (m : Int) ∧ σ 21 = .int .i64 (i : Int) ∧ i + k = m ∧ xs.length = m ∧ U32 xs ∧ (0 ≤ c ∧ c ≤ 1) ∧
      val (xs.take i) + 4294967296 ^ i * c.toNat = val ((fineL la).take i) + val ((fineL lb).take i) ∧ Blk w g1 (nums .u32 xs) 106 ∧ Below w0.heap.size w0 w) (m) ⟨0, 0, List.replicate m 0, rfl, rfl, by rw [hmm]; rfl, rfl, by rw [hmm]; rfl, rfl, by omega, by simp, U32.replicate m, ⟨by decide, by decide⟩, rfl, by rw [hmm]; exact b1, E⟩ ?_
  rintro k σ w ⟨i, c, xs, s0, s1, s5, s6, s20, s21, hik, hxl, hxu, hc, hval, b1, E⟩
  have hua := hfa.u32.getD i
  have hub := hfb.u32.getD i
  refine W_seq ?_
  refine W_region rfl ?_
  refine S_bin rfl rfl rfl rfl rfl (s21) (s20) rfl ?_
  refine OPS.nil ?_
  change WP _ _ _ _ _ _
  refine W_seq ?_
  refine W_cond rfl (rfl) (fun hq22 => ?_) (fun hq22 => ?_)
  · skip
    replace hq22 := of_decide_eq_true hq22
    refine W_skip ?_
    change WP _ _ _ _ _ _
    refine W_seq ?_
    refine W_block ?_
    refine W_seq ?_
    refine W_region rfl ?_
    refine S_move rfl rfl rfl (v := (.int .i64 (i : Int))) (s21) ?_
    refine S_assign rfl rfl rfl (v := (.int .i64 (i : Int))) (rfl) ?_
    refine OPS.nil ?_
    change WP _ _ _ _ _ _
    refine W_region rfl ?_
    refine S_move rfl rfl rfl (v := (.slice (some ⟨g1, 0, none⟩) m m)) (s5) ?_
    refine S_move rfl rfl rfl (v := (.int .i64 (i : Int))) (rfl) ?_
    refine S_move rfl rfl rfl (v := (if okL la then va else .slice none 0 0)) (s0) ?_
    refine S_move rfl rfl rfl (v := (.int .i64 (i : Int))) (rfl) ?_
    refine S_call en_nats_at rfl rfl rfl (vs := [(if okL la then va else .slice none 0 0), (.int .i64 (i : Int))]) (rfl) (natsAt_c _ _ _ _ (hfa.below E)) ?_
    rintro _ _ ⟨rfl, rfl⟩
    refine S_conv Tryz.underlying124 Tryz.underlying106 rfl rfl rfl (rfl) (b := ((fineL la).getD i 0)) (by rw [atN_nat]; exact wrap_u32 hua.1 hua.2) ?_
    refine S_move rfl rfl rfl (v := (if okL lb then vb else .slice none 0 0)) (s1) ?_
    refine S_move rfl rfl rfl (v := (.int .i64 (i : Int))) (rfl) ?_
    refine S_call en_nats_at rfl rfl rfl (vs := [(if okL lb then vb else .slice none 0 0), (.int .i64 (i : Int))]) (rfl) (natsAt_c _ _ _ _ (hfb.below E)) ?_
    rintro _ _ ⟨rfl, rfl⟩
    refine S_conv Tryz.underlying124 Tryz.underlying106 rfl rfl rfl (rfl) (b := ((fineL lb).getD i 0)) (by rw [atN_nat]; exact wrap_u32 hub.1 hub.2) ?_
    refine S_move rfl rfl rfl (v := (.int .u32 c)) (s6) ?_
    refine S_call en_math_bits_Add32 rfl rfl rfl (vs := [(.int .u32 ((fineL la).getD i 0)), (.int .u32 ((fineL lb).getD i 0)), (.int .u32 c)]) (rfl) (add32_c _ _ _ _ hua hub hc) ?_
    rintro _ _ ⟨rfl, rfl⟩
    refine S_move rfl rfl rfl (v := (.tuple #[.int .u32 (((fineL la).getD i 0 + (fineL lb).getD i 0 + c) % 4294967296), .int .u32 (((fineL la).getD i 0 + (fineL lb).getD i 0 + c) / 4294967296)])) (rfl) ?_
    refine S_extract rfl rfl rfl (rfl) rfl ?_
    refine S_extract rfl rfl rfl (rfl) rfl ?_
    refine S_idx Tryz.underlying23 ti_uint32 rfl rfl rfl rfl (rfl) (rfl) (j := i) (ad := ⟨g1, i, none⟩) (SlAt.own1 (by omega)) (by omega) ?_
    refine S_storeN ti_uint32 rfl rfl rfl rfl (g := g1) (o := i) (rfl) (a := (((fineL la).getD i 0 + (fineL lb).getD i 0 + c) % 4294967296)) (rfl) b1 (by omega) ?_
    intro w2 hU2 b1
    have E := Below.stepU E hU2 (by omega)
    have hz2 := hU2.size
    refine S_assign rfl rfl rfl (v := (.int .u32 (((fineL la).getD i 0 + (fineL lb).getD i 0 + c) / 4294967296))) (rfl) ?_
    refine OPS.nil ?_
    change WP _ _ _ _ _ _
    refine W_region rfl ?_
    refine S_add64 rfl rfl rfl rfl (s21) (rfl) (by omega) ?_
    refine S_move rfl rfl rfl (v := (.int .i64 ((i : Int) + 1))) (rfl) ?_
    refine OPS.nil ?_
    exact ⟨k - 1, by omega, i + 1, _, _, s0, s1, s5, rfl, s20, int_eq (by omega), by omega, by simpa using hxl, hxu.set _ (by omega) (by omega), ⟨by omega, by omega⟩, add_round (by omega) hua.1 hub.1 hc.1 rfl rfl hval, b1, E⟩
  · skip
    replace hq22 := of_decide_eq_false hq22
    refine W_exit ?_
    change WP _ _ _ _ _ _
    refine W_seq ?_
    refine W_region rfl ?_
    refine S_move rfl rfl rfl (v := (.slice (some ⟨g1, 0, none⟩) m m)) (s5) ?_
    refine S_call en_nats_cut rfl rfl rfl (vs := [(.slice (some ⟨g1, 0, none⟩) m m)]) (rfl) (natsCut_c _ _ xs (RN.ofNums (a := 0) (b := 0) b1 hxu hxl (by omega))) ?_
    rintro r _ ⟨⟨A, c', k', hv, hr, hk', ht⟩, rfl⟩
    refine S_assign rfl rfl rfl (v := r) (rfl) ?_
    refine OPS.nil ?_
    change WP _ _ _ _ _ _
    refine W_ret ?_
    change Fin' _ _ _ _ _ _
    refine End1 (n := ⟨43, []⟩) (t := 4) rfl (by decide) (v := r) (rfl) ?_
    have hi : i = m := by omega
    subst hi
    have he := add_end hxl hmm hfa.u32 hfb.u32 hc.1 hval
    have := cut_on b1 hxu (B := w0.heap.size) (by omega) hxl (by omega) hv hr hk' ht
    rw [he] at this
    exact ⟨E, this⟩

end Go.Proofs.YtccmicegihlfbaaGreatDoor
