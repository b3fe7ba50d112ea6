/- Numbers from 0 on: differences. -/
import Derived.Test.YtccmicegihlfbaaGreatDoorB4
import Derived.Test.YtccmicegihlfbaaGreatDoorTy
import Derived.Test.YtccmicegihlfbaaGreatDoorN2
set_option linter.unusedVariables false
set_option linter.unusedSimpArgs false
namespace Go.Proofs.YtccmicegihlfbaaGreatDoor
open Go.RowKit


theorem val_set (xs : List Int) (j : Nat) (v : Int) (hj : j < xs.length) : val (xs.set j v) + 4294967296 ^ j * (xs.getD j 0).toNat = val xs + 4294967296 ^ j * v.toNat := by
  induction xs generalizing j with
  | nil => simp at hj
  | cons x xs ih =>
    cases j with
    | zero => simp [val]; omega
    | succ j =>
      have := ih j (by simpa using hj)
      simp only [List.set_cons_succ, val_cons, List.getD_cons_succ, Nat.pow_succ]
      have e : ∀ z : Nat, 4294967296 ^ j * 4294967296 * z = 4294967296 * (4294967296 ^ j * z) := fun z => by rw [Nat.mul_comm (4294967296 ^ j), Nat.mul_assoc]
      rw [e, e]
      omega
theorem getD_set_ne' (xs : List Int) (i j : Nat) (v : Int) (h : i ≠ j) : (xs.set i v).getD j 0 = xs.getD j 0 := by
  simp [List.getD_eq_getElem?_getD, List.getElem?_set_ne h]
theorem getD_set_eq' (xs : List Int) (i : Nat) (v : Int) (h : i < xs.length) : (xs.set i v).getD i 0 = v := by
  simp [List.getD_eq_getElem?_getD, h]
theorem sub_round {la lb xs : List Int} {i : Nat} {c x y : Int} (hi : i < xs.length) (hx : 0 ≤ x ∧ x < 4294967296) (hy : 0 ≤ y ∧ y < 4294967296) (hc : 0 ≤ c ∧ c ≤ 1) (ex : la.getD i 0 = x) (ey : lb.getD i 0 = y)
    (h : val (xs.take i) + val (lb.take i) = val (la.take i) + 4294967296 ^ i * c.toNat) :
    val ((xs.set i ((x - y - c) % 4294967296)).take (i + 1)) + val (lb.take (i + 1)) = val (la.take (i + 1)) + 4294967296 ^ (i + 1) * (if x < y + c then 1 else 0 : Int).toNat := by
  rw [val_set_take xs i _ hi, val_step la, val_step lb, ex, ey, Nat.pow_succ]
  have e : ((x - y - c) % 4294967296).toNat + y.toNat + c.toNat = x.toNat + 4294967296 * (if x < y + c then 1 else 0 : Int).toNat := by
    split <;> simp <;> omega
  generalize ((x - y - c) % 4294967296).toNat = p at e
  generalize (if x < y + c then 1 else 0 : Int).toNat = q at e
  generalize 4294967296 ^ i = B at *
  have : B * p + B * y.toNat + B * c.toNat = B * x.toNat + B * 4294967296 * q := by
    rw [Nat.mul_assoc, ← Nat.mul_add, ← Nat.mul_add, e, Nat.mul_add]
  omega
theorem sub_end {la lb xs : List Int} {m : Nat} {c : Int} (hl : xs.length = m) (hm : m = la.length) (hb : lb.length ≤ la.length) (hxu : U32 xs) (hle : val lb ≤ val la) (hc : 0 ≤ c)
    (h : val (xs.take m) + val (lb.take m) = val (la.take m) + 4294967296 ^ m * c.toNat) : val xs = val la - val lb := by
  have hx := val_lt hxu
  rw [hl] at hx
  rw [List.take_of_length_le (by omega), List.take_of_length_le (l := la) (by omega), List.take_of_length_le (l := lb) (by omega)] at h
  rcases Nat.eq_zero_or_pos c.toNat with h0 | h0
  · rw [h0] at h; omega
  · have := Nat.mul_le_mul_left (4294967296 ^ m) h0
    omega

set_option maxHeartbeats 400000 in
theorem natsMinus_c (w0 : World) (va vb : Value) (la lb : List Int) {a b a2 b2 : Nat} (ha : RN a b w0 va la) (hb : RN a2 b2 w0 vb lb) (hsa : la.length ≤ SZ) (hlb : lb.length ≤ la.length) (hle : val lb ≤ val la) :
    Ret Tryz.prog 161 [va, vb] w0 (fun r w1 => Below w0.heap.size w0 w1 ∧ ON w0.heap.size w1 r (dg (val la - val lb))) := by
  have E := Below.refl w0.heap.size w0
  unfold SZ at hsa
  refine Ret_of (n := 35) Tryz.func161 rfl rfl (Nat.le_of_ble_eq_true rfl) ?_
  refine W_seq ?_
  refine W_region rfl ?_
  refine S_assign rfl rfl rfl (v := (.slice none 0 0)) (rfl) ?_
  refine OPS.nil ?_
  change WP _ _ _ _ _ _
  refine W_seq ?_
  refine W_region rfl ?_
  refine S_move rfl rfl rfl (v := va) (rfl) ?_
  refine S_len Tryz.underlying23 rfl rfl rfl (rfl) (m := la.length) (ha.len) ?_
  refine S_make Tryz.underlying23 ti_uint32 rfl rfl rfl rfl (rfl) (m := la.length) (by omega) (by omega) (by omega) ?_
  intro g1 w1 hg1 hs1 hB1 b1
  rw [nums_rep] at b1
  have hz1 := hB1.size
  have E := Below.step E hB1
  refine S_assign rfl rfl rfl (v := (.slice (some ⟨g1, 0, none⟩) (la.length) (la.length))) (rfl) ?_
  refine OPS.nil ?_
  change WP _ _ _ _ _ _
  refine W_seq ?_
  refine W_region rfl ?_
  obtain ⟨m, hmm⟩ : ∃ m, m = la.length := ⟨_, rfl⟩
  refine S_assign rfl rfl rfl (v := (.int .u32 0)) (rfl) ?_
  refine OPS.nil ?_
  change WP _ _ _ _ _ _
  refine W_seq ?_
  refine W_seq ?_
  refine W_region rfl ?_
  refine S_move rfl rfl rfl (v := (.slice (some ⟨g1, 0, none⟩) (la.length) (la.length))) (rfl) ?_
  refine S_len Tryz.underlying23 rfl rfl rfl (rfl) (m := (la.length)) (⟨_, _, rfl⟩) ?_
  refine S_move rfl rfl rfl (v := (.int .i64 0)) (rfl) ?_
  refine OPS.nil ?_
  change WP _ _ _ _ _ _
  refine W_block ?_
  refine W_loop (fun k σ w => ∃ (i : Nat) (c : Int) (xs : List Int), σ 0 = va ∧ σ 1 = vb ∧ σ 5 = .slice (some ⟨g1, 0, none⟩) m m ∧ σ 6 = .int .u32 c ∧ σ 12 = .int .i64 (m : Int) ∧ σ 13 = .int .i64 (i : Int) ∧ i + k = m ∧ xs.length = m ∧ U32 xs ∧ (0 ≤ c ∧ c ≤ 1) ∧
      val (xs.take i) + val (lb.take i) = val (la.take i) + 4294967296 ^ i * c.toNat ∧ Blk w g1 (nums .u32 xs) 106 ∧ Below w0.heap.size w0 w) (m) ⟨0, 0, List.replicate m 0, rfl, rfl, by rw [hmm]; rfl, rfl, by rw [hmm]; rfl, rfl, by omega, by simp, U32.replicate m, ⟨by decide, by decide⟩, rfl, by rw [hmm]; exact b1, E⟩ ?_
  rintro k σ w ⟨i, c, xs, s0, s1, s5, s6, s12, s13, hik, hxl, hxu, hc, hval, b1, E⟩
  have hua := ha.u32.getD i
  have hub := hb.u32.getD i
  refine W_seq ?_
  refine W_region rfl ?_
  refine S_bin rfl rfl rfl rfl rfl (s13) (s12) rfl ?_
  refine OPS.nil ?_
  change WP _ _ _ _ _ _
  refine W_seq ?_
  refine W_cond rfl (rfl) (fun hq14 => ?_) (fun hq14 => ?_)
  · skip
    replace hq14 := of_decide_eq_true hq14
    refine W_skip ?_
    change WP _ _ _ _ _ _
    refine W_seq ?_
    refine W_block ?_
    refine W_seq ?_
    refine W_region rfl ?_
    refine S_move rfl rfl rfl (v := (.int .i64 (i : Int))) (s13) ?_
    refine S_assign rfl rfl rfl (v := (.int .i64 (i : Int))) (rfl) ?_
    refine OPS.nil ?_
    change WP _ _ _ _ _ _
    refine D_begin mixed_ rfl rfl (fun w_ => Below w0.heap.size w0 w_) ?_
    intro w2 hB2 hz_2
    have hz2 := hB2.size
    have E := Below.step E hB2
    have hl_b1 := b1.lt
    have b1 := b1.below hB2
    have hS_ : Below w0.heap.size w0 w2 := E
    have E_S := E
    have b1_S := b1
    refine D_move (i := 0) (by kernel_rfl) (by kernel_rfl) (by kernel_rfl) (listed2 := #[true, false, false, false, false, false, false, false, false, false, false, false, false, false, false, false, false, false]) (by kernel_rfl) rfl rfl rfl (v := (.slice (some ⟨g1, 0, none⟩) m m)) (s5) hS_ ?_
    refine D_move (i := 1) (by kernel_rfl) (by kernel_rfl) (by kernel_rfl) (listed2 := #[true, true, false, false, false, false, false, false, false, false, false, false, false, false, false, false, false, false]) (by kernel_rfl) rfl rfl rfl (v := (.int .i64 (i : Int))) (rfl) hS_ ?_
    refine D_move (i := 2) (by kernel_rfl) (by kernel_rfl) (by kernel_rfl) (listed2 := #[true, true, true, false, false, false, false, false, false, false, false, false, false, false, false, false, false, false]) (by kernel_rfl) rfl rfl rfl (v := va) (s0) hS_ ?_
    refine D_move (i := 3) (by kernel_rfl) (by kernel_rfl) (by kernel_rfl) (listed2 := #[true, true, true, true, false, false, false, false, false, false, false, false, false, false, false, false, false, false]) (by kernel_rfl) rfl rfl rfl (v := (.int .i64 (i : Int))) (rfl) hS_ ?_
    obtain ⟨ad1, hp3, hc2⟩ := ha.at i (by omega)
    refine D_idx Tryz.underlying23 ti_uint32 (i := 4) (by kernel_rfl) (by kernel_rfl) (by kernel_rfl) (listed2 := #[true, true, true, true, true, false, false, false, false, false, false, false, false, false, false, false, false, false]) (by kernel_rfl) rfl rfl rfl rfl (rfl) (rfl) hp3 (by omega) hS_ ?_
    refine D_load (i := 5) (by kernel_rfl) (by kernel_rfl) (by kernel_rfl) (listed2 := #[true, true, true, true, true, true, false, false, false, false, false, false, false, false, false, false, false, false]) (by kernel_rfl) rfl rfl rfl (rfl) (fun _ hS2 => LD.one ti_uint32 (cell_below hS2 hc2)) hS_ ?_
    refine D_move (i := 6) (by kernel_rfl) (by kernel_rfl) (by kernel_rfl) (listed2 := #[true, true, true, true, true, true, true, false, false, false, false, false, false, false, false, false, false, false]) (by kernel_rfl) rfl rfl rfl (v := vb) (s1) hS_ ?_
    refine D_move (i := 7) (by kernel_rfl) (by kernel_rfl) (by kernel_rfl) (listed2 := #[true, true, true, true, true, true, true, true, false, false, false, false, false, false, false, false, false, false]) (by kernel_rfl) rfl rfl rfl (v := (.int .i64 (i : Int))) (rfl) hS_ ?_
    refine D_move (i := 10) (by kernel_rfl) (by kernel_rfl) (by kernel_rfl) (listed2 := #[true, true, true, true, true, true, true, true, false, false, true, false, false, false, false, false, false, false]) (by kernel_rfl) rfl rfl rfl (v := (.int .u32 c)) (s6) hS_ ?_
    refine D_only (i := 8) (by kernel_rfl) (listed2 := #[true, true, true, true, true, true, true, true, true, false, true, false, false, false, false, false, false, false]) (by kernel_rfl) ?_
    refine S_call en_nats_at rfl rfl rfl (vs := [vb, (.int .i64 (i : Int))]) (rfl) (natsAt_c _ _ _ _ (hb.below E)) ?_
    rintro _ _ ⟨rfl, rfl⟩
    refine OPS.nil ⟨hS_, ?_⟩
    refine D_conv Tryz.underlying124 Tryz.underlying106 (i := 9) (by kernel_rfl) (by kernel_rfl) (by kernel_rfl) (listed2 := #[true, true, true, true, true, true, true, true, true, true, true, false, false, false, false, false, false, false]) (by kernel_rfl) rfl rfl rfl (rfl) (b := (lb.getD i 0)) (by rw [atN_nat]; exact wrap_u32 hub.1 hub.2) hS_ ?_
    refine D_only (i := 11) (by kernel_rfl) (listed2 := #[true, true, true, true, true, true, true, true, true, true, true, true, false, false, false, false, false, false]) (by kernel_rfl) ?_
    refine S_call en_math_bits_Sub32 rfl rfl rfl (vs := [(.int .u32 (la.getD i 0)), (.int .u32 (lb.getD i 0)), (.int .u32 c)]) (rfl) (sub32_c _ _ _ _ hua hub hc) ?_
    rintro _ _ ⟨rfl, rfl⟩
    refine OPS.nil ⟨hS_, ?_⟩
    refine D_move (i := 12) (by kernel_rfl) (by kernel_rfl) (by kernel_rfl) (listed2 := #[true, true, true, true, true, true, true, true, true, true, true, true, true, false, false, false, false, false]) (by kernel_rfl) rfl rfl rfl (v := (.tuple #[.int .u32 (((la.getD i 0) - (lb.getD i 0) - c) % 4294967296), .int .u32 (if la.getD i 0 < lb.getD i 0 + c then 1 else 0)])) (rfl) hS_ ?_
    refine D_extract (i := 13) (by kernel_rfl) (by kernel_rfl) (by kernel_rfl) (listed2 := #[true, true, true, true, true, true, true, true, true, true, true, true, true, true, false, false, false, false]) (by kernel_rfl) rfl rfl rfl (rfl) rfl hS_ ?_
    refine D_extract (i := 14) (by kernel_rfl) (by kernel_rfl) (by kernel_rfl) (listed2 := #[true, true, true, true, true, true, true, true, true, true, true, true, true, true, true, false, false, false]) (by kernel_rfl) rfl rfl rfl (rfl) rfl hS_ ?_
    refine D_idx Tryz.underlying23 ti_uint32 (i := 15) (by kernel_rfl) (by kernel_rfl) (by kernel_rfl) (listed2 := #[true, true, true, true, true, true, true, true, true, true, true, true, true, true, true, true, false, false]) (by kernel_rfl) rfl rfl rfl rfl (rfl) (rfl) (j := i) (ad := ⟨g1, i, none⟩) (SlAt.own1 (by omega)) (by omega) hS_ ?_
    refine D_only (i := 16) (by kernel_rfl) (listed2 := #[true, true, true, true, true, true, true, true, true, true, true, true, true, true, true, true, true, false]) (by kernel_rfl) ?_
    refine S_storeN ti_uint32 rfl rfl rfl rfl (g := g1) (o := i) (rfl) (a := (((la.getD i 0) - (lb.getD i 0) - c) % 4294967296)) (rfl) b1 (by omega) ?_
    intro w3 hU3 b1
    have E := Below.stepU E hU3 (by omega)
    have hS_ := Below.stepU hS_ hU3 (by omega)
    have hz3 := hU3.size
    refine OPS.nil ⟨hS_, ?_⟩
    refine D_assign (i := 17) (by kernel_rfl) (by kernel_rfl) (by kernel_rfl) (listed2 := #[true, true, true, true, true, true, true, true, true, true, true, true, true, true, true, true, true, true]) (by kernel_rfl) rfl rfl rfl (v := (.int .u32 (if la.getD i 0 < lb.getD i 0 + c then 1 else 0))) (rfl) hS_ ?_
    refine D_done (by kernel_rfl) ?_
    change WP _ _ _ _ _ _
    refine W_region rfl ?_
    refine S_add64 rfl rfl rfl rfl (s13) (rfl) (by omega) ?_
    refine S_move rfl rfl rfl (v := (.int .i64 ((i : Int) + 1))) (rfl) ?_
    refine OPS.nil ?_
    exact ⟨k - 1, by omega, i + 1, _, _, s0, s1, s5, rfl, s12, int_eq (by omega), by omega, by simpa using hxl, hxu.set _ (by omega) (by omega), ⟨by split <;> decide, by split <;> decide⟩, sub_round (by omega) hua hub hc rfl rfl hval, b1, E⟩
  · skip
    replace hq14 := of_decide_eq_false hq14
    refine W_exit ?_
    change WP _ _ _ _ _ _
    refine W_seq ?_
    refine W_region rfl ?_
    refine S_move rfl rfl rfl (v := (.slice (some ⟨g1, 0, none⟩) m m)) (s5) ?_
    refine S_call en_nats_cut rfl rfl rfl (vs := [(.slice (some ⟨g1, 0, none⟩) m m)]) (rfl) (natsCut_c _ _ xs (RN.ofNums (a := 0) (b := 0) b1 hxu hxl (by omega))) ?_
    rintro r _ ⟨⟨A, c', k', hv, hr, hk', ht⟩, rfl⟩
    refine S_assign rfl rfl rfl (v := r) (rfl) ?_
    refine OPS.nil ?_
    change WP _ _ _ _ _ _
    refine W_ret ?_
    change Fin' _ _ _ _ _ _
    refine End1 (n := ⟨35, []⟩) (t := 4) rfl (by decide) (v := r) (rfl) ?_
    have hi : i = m := by omega
    subst hi
    have he := sub_end hxl hmm hlb hxu hle hc.1 hval
    have := cut_on b1 hxu (B := w0.heap.size) (by omega) hxl (by omega) hv hr hk' ht
    rw [he] at this
    exact ⟨E, this⟩

end Go.Proofs.YtccmicegihlfbaaGreatDoor
