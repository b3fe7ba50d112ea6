/- Numbers from 0 on: the simplest calls. -/
import Derived.Test.YtccmicegihlfbaaGreatDoorBase
import Derived.Test.YtccmicegihlfbaaGreatDoorTy
set_option linter.unusedVariables false
set_option linter.unusedSimpArgs false
namespace Go.Proofs.YtccmicegihlfbaaGreatDoor
open Go.RowKit


theorem val_drop0 {l : List Int} {k : Nat} (h0 : 0 < k) (hk : k ≤ l.length) (hz : l.getD (k - 1) 0 = 0) : val (l.take k) = val (l.take (k - 1)) := by
  have := val_take_succ l (k - 1) (by omega)
  rw [show k - 1 + 1 = k by omega, hz] at this
  simpa using this
theorem dg_take {l : List Int} {k : Nat} (h0 : 0 < k) (hk : k ≤ l.length) (hu : U32 l) (hz : l.getD (k - 1) 0 ≠ 0) : dg (val (l.take k)) = l.take k := by
  refine dg_val (hu.take k) ?_
  have := okL_take (l := l) (n := k - 1) (by omega)
  rw [show k - 1 + 1 = k by omega] at this
  rw [this]
  simpa using hz

theorem okL_len0 {l : List Int} (h : l.length = 0) : okL l = true := by
  obtain rfl : l = [] := List.eq_nil_of_length_eq_zero h
  rfl

set_option maxHeartbeats 400000 in
theorem natsCheck_c0 (w0 : World) (v : Value) (l : List Int) (h : RN 0 0 w0 v l) (h0 : l.length = 0) :
    Ret Tryz.prog 152 [v] w0 (fun r w1 => r = .bool (okL l) ∧ w0 = w1) := by
  refine Ret_of (n := 15) Tryz.func152 rfl rfl (Nat.le_of_ble_eq_true rfl) ?_
  refine W_seq ?_
  refine W_region rfl ?_
  refine S_assign rfl rfl rfl (v := (.bool false)) (rfl) ?_
  refine OPS.nil ?_
  change WP _ _ _ _ _ _
  refine W_seq ?_
  refine W_region rfl ?_
  refine S_move rfl rfl rfl (v := v) (rfl) ?_
  refine S_len Tryz.underlying23 rfl rfl rfl (rfl) (m := l.length) (h.len) ?_
  refine S_bin rfl rfl rfl rfl rfl (rfl) (rfl) (v := .bool true) (by simp [binV, h0]) ?_
  refine S_move rfl rfl rfl (v := (.bool true)) (rfl) ?_
  refine S_skip (d := 7) (op := .move _) (gd := some (3, false)) rfl (wg_off rfl (rfl) rfl) ?_
  refine S_skip (d := 8) (op := .move _) (gd := some (3, false)) rfl (wg_off rfl (rfl) rfl) ?_
  refine S_skip (d := 9) (op := .call _) (gd := some (3, false)) rfl (wg_off rfl (rfl) rfl) ?_
  refine S_skip (d := 10) (op := .binOp _ _ _ _ _) (gd := some (3, false)) rfl (wg_off rfl (rfl) rfl) ?_
  refine S_skip (d := 11) (op := .indexAddr _ _ _) (gd := some (3, false)) rfl (wg_off rfl (rfl) rfl) ?_
  refine S_skip (d := 12) (op := .load _ _) (gd := some (3, false)) rfl (wg_off rfl (rfl) rfl) ?_
  refine S_skip (d := 13) (op := .binOp _ _ _ _ _) (gd := some (3, false)) rfl (wg_off rfl (rfl) rfl) ?_
  refine S_pick rfl rfl rfl rfl rfl (b := true) (rfl) (v := (.bool true)) (rfl) ?_
  refine S_assign rfl rfl rfl (v := (.bool true)) (rfl) ?_
  refine OPS.nil ?_
  change WP _ _ _ _ _ _
  refine W_ret ?_
  change Fin' _ _ _ _ _ _
  refine End1 (n := ⟨15, []⟩) (t := 2) rfl (by decide) (v := (.bool true)) (rfl) ?_
  exact ⟨by rw [okL_len0 h0], rfl⟩

set_option maxHeartbeats 400000 in
theorem natsCheck_c1 (w0 : World) (v : Value) (l : List Int) (h : RN 0 0 w0 v l) (h0 : 0 < l.length) :
    Ret Tryz.prog 152 [v] w0 (fun r w1 => r = .bool (okL l) ∧ w0 = w1) := by
  refine Ret_of (n := 15) Tryz.func152 rfl rfl (Nat.le_of_ble_eq_true rfl) ?_
  refine W_seq ?_
  refine W_region rfl ?_
  have hm := h.maxl
  refine S_assign rfl rfl rfl (v := (.bool false)) (rfl) ?_
  refine OPS.nil ?_
  change WP _ _ _ _ _ _
  refine W_seq ?_
  refine W_region rfl ?_
  refine S_move rfl rfl rfl (v := v) (rfl) ?_
  refine S_len Tryz.underlying23 rfl rfl rfl (rfl) (m := l.length) (h.len) ?_
  refine S_bin rfl rfl rfl rfl rfl (rfl) (rfl) (v := .bool false) (by simp [binV]; intro h; simp [h] at h0) ?_
  refine S_move rfl rfl rfl (v := (.bool false)) (rfl) ?_
  refine S_move rfl rfl rfl (v := v) (rfl) ?_
  refine S_move rfl rfl rfl (v := v) (rfl) ?_
  refine S_len Tryz.underlying23 rfl rfl rfl (rfl) (m := l.length) (h.len) ?_
  refine S_sub64 rfl rfl rfl rfl (rfl) (rfl) (by omega) ?_
  obtain ⟨ad1, hp3, hc2⟩ := h.at (l.length - 1) (by omega)
  refine S_idx Tryz.underlying23 ti_uint32 rfl rfl rfl rfl (rfl) (rfl) hp3 (by omega) ?_
  refine S_load rfl rfl rfl (rfl) (LD.one ti_uint32 hc2) ?_
  refine S_bin rfl rfl rfl rfl rfl (rfl) (rfl) rfl ?_
  refine S_pick rfl rfl rfl rfl rfl (b := false) (rfl) (v := (.bool (((l.getD ((l.length - 1)) 0) != 0)))) (rfl) ?_
  refine S_assign rfl rfl rfl (v := (.bool (((l.getD ((l.length - 1)) 0) != 0)))) (rfl) ?_
  refine OPS.nil ?_
  change WP _ _ _ _ _ _
  refine W_ret ?_
  change Fin' _ _ _ _ _ _
  refine End1 (n := ⟨15, []⟩) (t := 2) rfl (by decide) (v := (.bool (((l.getD ((l.length - 1)) 0) != 0)))) (rfl) ?_
  exact ⟨by rw [okL_getD h0], rfl⟩

theorem natsCheck_c (w0 : World) (v : Value) (l : List Int) {a b : Nat} (h : RN a b w0 v l) : Ret Tryz.prog 152 [v] w0 (fun r w1 => r = .bool (okL l) ∧ w0 = w1) := by
  by_cases h0 : l.length = 0
  · exact natsCheck_c0 w0 v l h.any h0
  · exact natsCheck_c1 w0 v l h.any (by omega)

set_option maxHeartbeats 400000 in
theorem natsFine_c (w0 : World) (v : Value) (l : List Int) {a b : Nat} (h : RN a b w0 v l) :
    Ret Tryz.prog 159 [v] w0 (fun r w1 => r = (if okL l then v else .slice none 0 0) ∧ w0 = w1) := by
  refine Ret_of (n := 6) Tryz.func159 rfl rfl (Nat.le_of_ble_eq_true rfl) ?_
  refine W_seq ?_
  refine W_region rfl ?_
  refine S_assign rfl rfl rfl (v := (.slice none 0 0)) (rfl) ?_
  refine OPS.nil ?_
  change WP _ _ _ _ _ _
  refine W_seq ?_
  refine W_seq ?_
  refine W_region rfl ?_
  refine S_move rfl rfl rfl (v := v) (rfl) ?_
  refine S_call en_nats_Check rfl rfl rfl (vs := [v]) (rfl) (natsCheck_c w0 v l h) ?_
  rintro _ _ ⟨rfl, rfl⟩
  refine OPS.nil ?_
  change WP _ _ _ _ _ _
  refine W_cond rfl (rfl) (fun hq4 => ?_) (fun hq4 => ?_)
  · skip
    skip
    refine W_seq ?_
    refine W_region rfl ?_
    refine S_move rfl rfl rfl (v := v) (rfl) ?_
    refine S_assign rfl rfl rfl (v := v) (rfl) ?_
    refine OPS.nil ?_
    change WP _ _ _ _ _ _
    refine W_ret ?_
    change Fin' _ _ _ _ _ _
    refine End1 (n := ⟨6, []⟩) (t := 2) rfl (by decide) (v := v) (rfl) ?_
    exact ⟨by simp [*], rfl⟩
  · skip
    skip
    refine W_skip ?_
    change WP _ _ _ _ _ _
    refine W_seq ?_
    refine W_region rfl ?_
    refine S_assign rfl rfl rfl (v := (.slice none 0 0)) (rfl) ?_
    refine OPS.nil ?_
    change WP _ _ _ _ _ _
    refine W_ret ?_
    change Fin' _ _ _ _ _ _
    refine End1 (n := ⟨6, []⟩) (t := 2) rfl (by decide) (v := (.slice none 0 0)) (rfl) ?_
    exact ⟨by simp [*], rfl⟩


def atN (l : List Int) (i : Int) : Int := if i < 0 then 0 else l.getD i.toNat 0
theorem atN_nat (l : List Int) (i : Nat) : atN l (i : Int) = l.getD i 0 := by
  unfold atN
  rw [if_neg (by omega), Int.toNat_natCast]
theorem atN_range {l : List Int} (h : U32 l) (i : Int) : 0 ≤ atN l i ∧ atN l i < 4294967296 := by
  unfold atN
  split
  · exact ⟨by decide, by decide⟩
  · exact h.getD _

set_option maxHeartbeats 400000 in
theorem natsAt_c0 (w0 : World) (v : Value) (l : List Int) (i : Int) (h : RN 0 0 w0 v l) (hi : i < 0) :
    Ret Tryz.prog 241 [v, .int .i64 i] w0 (fun r w1 => r = .int .u64 (atN l i) ∧ w0 = w1) := by
  refine Ret_of (n := 18) Tryz.func241 rfl rfl (Nat.le_of_ble_eq_true rfl) ?_
  refine W_seq ?_
  refine W_region rfl ?_
  refine S_assign rfl rfl rfl (v := (.int .u64 0)) (rfl) ?_
  refine OPS.nil ?_
  change WP _ _ _ _ _ _
  refine W_seq ?_
  refine W_seq ?_
  refine W_region rfl ?_
  refine S_move rfl rfl rfl (v := .int .i64 i) (rfl) ?_
  refine S_bin rfl rfl rfl rfl rfl (rfl) (rfl) (v := .bool true) (by simp [binV, hi]) ?_
  refine S_move rfl rfl rfl (v := (.bool true)) (rfl) ?_
  refine S_skip (d := 8) (op := .move _) (gd := some (2, false)) rfl (wg_off rfl (rfl) rfl) ?_
  refine S_skip (d := 9) (op := .move _) (gd := some (2, false)) rfl (wg_off rfl (rfl) rfl) ?_
  refine S_skip (d := 10) (op := .call _) (gd := some (2, false)) rfl (wg_off rfl (rfl) rfl) ?_
  refine S_skip (d := 11) (op := .binOp _ _ _ _ _) (gd := some (2, false)) rfl (wg_off rfl (rfl) rfl) ?_
  refine S_pick rfl rfl rfl rfl rfl (b := true) (rfl) (v := (.bool true)) (rfl) ?_
  refine OPS.nil ?_
  change WP _ _ _ _ _ _
  refine W_cond rfl (b := true) (rfl) (fun _ => ?_) (fun h => (by cases h))
  refine W_seq ?_
  refine W_region rfl ?_
  refine S_assign rfl rfl rfl (v := (.int .u64 0)) (rfl) ?_
  refine OPS.nil ?_
  change WP _ _ _ _ _ _
  refine W_ret ?_
  change Fin' _ _ _ _ _ _
  refine End1 (n := ⟨18, []⟩) (t := 4) rfl (by decide) (v := (.int .u64 0)) (rfl) ?_
  exact ⟨by simp [atN, hi], rfl⟩

set_option maxHeartbeats 400000 in
theorem natsAt_c1 (w0 : World) (v : Value) (l : List Int) (i : Int) (h : RN 0 0 w0 v l) (hi : ¬ i < 0) (hl : (l.length : Int) ≤ i) :
    Ret Tryz.prog 241 [v, .int .i64 i] w0 (fun r w1 => r = .int .u64 (atN l i) ∧ w0 = w1) := by
  refine Ret_of (n := 18) Tryz.func241 rfl rfl (Nat.le_of_ble_eq_true rfl) ?_
  refine W_seq ?_
  refine W_region rfl ?_
  refine S_assign rfl rfl rfl (v := (.int .u64 0)) (rfl) ?_
  refine OPS.nil ?_
  change WP _ _ _ _ _ _
  refine W_seq ?_
  refine W_seq ?_
  refine W_region rfl ?_
  refine S_move rfl rfl rfl (v := .int .i64 i) (rfl) ?_
  refine S_bin rfl rfl rfl rfl rfl (rfl) (rfl) (v := .bool false) (by simp [binV]; omega) ?_
  refine S_move rfl rfl rfl (v := (.bool false)) (rfl) ?_
  refine S_move rfl rfl rfl (v := .int .i64 i) (rfl) ?_
  refine S_move rfl rfl rfl (v := v) (rfl) ?_
  refine S_len Tryz.underlying23 rfl rfl rfl (rfl) (m := l.length) (h.len) ?_
  refine S_bin rfl rfl rfl rfl rfl (rfl) (rfl) (v := .bool true) (by simp [binV]; omega) ?_
  refine S_pick rfl rfl rfl rfl rfl (b := false) (rfl) (v := (.bool true)) (rfl) ?_
  refine OPS.nil ?_
  change WP _ _ _ _ _ _
  refine W_cond rfl (b := true) (rfl) (fun _ => ?_) (fun h => (by cases h))
  refine W_seq ?_
  refine W_region rfl ?_
  refine S_assign rfl rfl rfl (v := (.int .u64 0)) (rfl) ?_
  refine OPS.nil ?_
  change WP _ _ _ _ _ _
  refine W_ret ?_
  change Fin' _ _ _ _ _ _
  refine End1 (n := ⟨18, []⟩) (t := 4) rfl (by decide) (v := (.int .u64 0)) (rfl) ?_
  exact ⟨by simp [atN, hi]; rw [List.getElem?_eq_none (by omega)]; rfl, rfl⟩

set_option maxHeartbeats 400000 in
theorem natsAt_c2 (w0 : World) (v : Value) (l : List Int) (i : Int) (h : RN 0 0 w0 v l) (hi : ¬ i < 0) (hl : i < (l.length : Int)) :
    Ret Tryz.prog 241 [v, .int .i64 i] w0 (fun r w1 => r = .int .u64 (atN l i) ∧ w0 = w1) := by
  refine Ret_of (n := 18) Tryz.func241 rfl rfl (Nat.le_of_ble_eq_true rfl) ?_
  refine W_seq ?_
  refine W_region rfl ?_
  refine S_assign rfl rfl rfl (v := (.int .u64 0)) (rfl) ?_
  refine OPS.nil ?_
  change WP _ _ _ _ _ _
  refine W_seq ?_
  refine W_seq ?_
  refine W_region rfl ?_
  refine S_move rfl rfl rfl (v := .int .i64 i) (rfl) ?_
  refine S_bin rfl rfl rfl rfl rfl (rfl) (rfl) (v := .bool false) (by simp [binV]; omega) ?_
  refine S_move rfl rfl rfl (v := (.bool false)) (rfl) ?_
  refine S_move rfl rfl rfl (v := .int .i64 i) (rfl) ?_
  refine S_move rfl rfl rfl (v := v) (rfl) ?_
  refine S_len Tryz.underlying23 rfl rfl rfl (rfl) (m := l.length) (h.len) ?_
  refine S_bin rfl rfl rfl rfl rfl (rfl) (rfl) (v := .bool false) (by simp [binV]; omega) ?_
  refine S_pick rfl rfl rfl rfl rfl (b := false) (rfl) (v := (.bool false)) (rfl) ?_
  refine OPS.nil ?_
  change WP _ _ _ _ _ _
  refine W_cond rfl (b := false) (rfl) (fun h => (by cases h)) (fun _ => ?_)
  refine W_skip ?_
  change WP _ _ _ _ _ _
  refine W_seq ?_
  refine W_region rfl ?_
  have hu := h.u32.getD i.toNat
  refine S_move rfl rfl rfl (v := v) (rfl) ?_
  refine S_move rfl rfl rfl (v := .int .i64 i) (rfl) ?_
  obtain ⟨ad1, hp3, hc2⟩ := h.at i.toNat (by omega)
  refine S_idx Tryz.underlying23 ti_uint32 rfl rfl rfl rfl (rfl) (rfl) hp3 (by omega) ?_
  refine S_load rfl rfl rfl (rfl) (LD.one ti_uint32 hc2) ?_
  refine S_conv Tryz.underlying106 Tryz.underlying124 rfl rfl rfl (rfl) (b := (l.getD i.toNat 0)) (wrap_u64 hu.1 (by omega)) ?_
  refine S_assign rfl rfl rfl (v := (.int .u64 (l.getD i.toNat 0))) (rfl) ?_
  refine OPS.nil ?_
  change WP _ _ _ _ _ _
  refine W_ret ?_
  change Fin' _ _ _ _ _ _
  refine End1 (n := ⟨18, []⟩) (t := 4) rfl (by decide) (v := (.int .u64 (l.getD i.toNat 0))) (rfl) ?_
  exact ⟨by simp [atN, hi], rfl⟩

theorem natsAt_c (w0 : World) (v : Value) (l : List Int) (i : Int) {a b : Nat} (h : RN a b w0 v l) : Ret Tryz.prog 241 [v, .int .i64 i] w0 (fun r w1 => r = .int .u64 (atN l i) ∧ w0 = w1) := by
  by_cases h0 : i < 0
  · exact natsAt_c0 w0 v l i h.any h0
  · by_cases h1 : i < (l.length : Int)
    · exact natsAt_c2 w0 v l i h.any h0 h1
    · exact natsAt_c1 w0 v l i h.any h0 (by omega)

set_option maxHeartbeats 400000 in
theorem clip_c (w0 : World) (A : Option Addr) (m c : Nat) (hm : m ≤ c) :
    Ret Tryz.prog 249 [.slice A m c] w0 (fun r w1 => r = .slice A m m ∧ w0 = w1) := by
  refine Ret_of (n := 9) Tryz.func249 rfl rfl (Nat.le_of_ble_eq_true rfl) ?_
  refine W_seq ?_
  refine W_region rfl ?_
  refine S_assign rfl rfl rfl (v := (.slice none 0 0)) (rfl) ?_
  refine OPS.nil ?_
  change WP _ _ _ _ _ _
  refine W_seq ?_
  refine W_region rfl ?_
  refine S_move rfl rfl rfl (v := .slice A m c) (rfl) ?_
  refine S_move rfl rfl rfl (v := .slice A m c) (rfl) ?_
  refine S_len Tryz.underlying23 rfl rfl rfl (rfl) (m := m) (⟨_, _, rfl⟩) ?_
  refine S_move rfl rfl rfl (v := .slice A m c) (rfl) ?_
  refine S_len Tryz.underlying23 rfl rfl rfl (rfl) (m := m) (⟨_, _, rfl⟩) ?_
  refine S_sliceHiMx Tryz.underlying23 ti_uint32 rfl rfl rfl rfl rfl (A := A) (m := m) (c := c) (rfl) (rfl) (rfl) (j := m) (q := m) (by omega) (by omega) (by omega) (by omega) ?_
  refine S_assign rfl rfl rfl (v := (.slice A (m) (m))) (rfl) ?_
  refine OPS.nil ?_
  change WP _ _ _ _ _ _
  refine W_ret ?_
  change Fin' _ _ _ _ _ _
  refine End1 (n := ⟨9, []⟩) (t := 2) rfl (by decide) (v := (.slice A (m) (m))) (rfl) ?_
  exact ⟨rfl, rfl⟩

set_option maxHeartbeats 400000 in
theorem natsCut_c0 (w0 : World) (A : Option Addr) (l : List Int) (c : Nat) (hc : l.length ≤ c) (hm : c ≤ 9223372036854775807) (h : RN 0 0 w0 (.slice A l.length c) l) :
    Ret Tryz.prog 205 [.slice A l.length c] w0 (fun r w1 => (∃ k, r = .slice A k k ∧ k ≤ l.length ∧ l.take k = dg (val l)) ∧ w0 = w1) := by
  refine Ret_of (n := 22) Tryz.func205 rfl rfl (Nat.le_of_ble_eq_true rfl) ?_
  refine W_seq ?_
  refine W_region rfl ?_
  refine S_assign rfl rfl rfl (v := (.slice none 0 0)) (rfl) ?_
  refine OPS.nil ?_
  change WP _ _ _ _ _ _
  refine W_seq ?_
  refine W_region rfl ?_
  refine S_move rfl rfl rfl (v := .slice A l.length c) (rfl) ?_
  refine S_len Tryz.underlying23 rfl rfl rfl (rfl) (m := l.length) (h.len) ?_
  refine S_assign rfl rfl rfl (v := (.int .i64 (l.length : Int))) (rfl) ?_
  refine OPS.nil ?_
  change WP _ _ _ _ _ _
  refine W_seq ?_
  refine W_block ?_
  refine W_loop (fun k σ w => σ 0 = .slice A l.length c ∧ σ 3 = .int .i64 (k : Int) ∧ k ≤ l.length ∧ val (l.take k) = val l ∧ w0 = w) (l.length) ⟨rfl, rfl, Nat.le_refl _, by rw [List.take_length], rfl⟩ ?_
  rintro k σ w ⟨hs0, hs3, hk, hval, rfl⟩
  refine W_seq ?_
  refine W_seq ?_
  rcases Nat.eq_zero_or_pos k with hk0 | hk0
  · skip
    refine W_region rfl ?_
    refine S_move rfl rfl rfl (v := (.int .i64 (k : Int))) (hs3) ?_
    refine S_bin rfl rfl rfl rfl rfl (rfl) (rfl) (v := .bool false) (by simp [binV, hk0]) ?_
    refine S_move rfl rfl rfl (v := (.bool false)) (rfl) ?_
    refine S_skip (d := 9) (op := .move _) (gd := some (2, true)) rfl (wg_off rfl (rfl) rfl) ?_
    refine S_skip (d := 10) (op := .move _) (gd := some (2, true)) rfl (wg_off rfl (rfl) rfl) ?_
    refine S_skip (d := 11) (op := .binOp _ _ _ _ _) (gd := some (2, true)) rfl (wg_off rfl (rfl) rfl) ?_
    refine S_skip (d := 12) (op := .indexAddr _ _ _) (gd := some (2, true)) rfl (wg_off rfl (rfl) rfl) ?_
    refine S_skip (d := 13) (op := .load _ _) (gd := some (2, true)) rfl (wg_off rfl (rfl) rfl) ?_
    refine S_skip (d := 14) (op := .binOp _ _ _ _ _) (gd := some (2, true)) rfl (wg_off rfl (rfl) rfl) ?_
    refine S_pick rfl rfl rfl rfl rfl (b := false) (rfl) (v := (.bool false)) (rfl) ?_
    refine OPS.nil ?_
    change WP _ _ _ _ _ _
    refine W_cond rfl (b := false) (rfl) (fun h => (by cases h)) (fun _ => ?_)
    refine W_exit ?_
    change WP _ _ _ _ _ _
    refine W_seq ?_
    refine W_region rfl ?_
    refine S_move rfl rfl rfl (v := (.slice A l.length c)) (hs0) ?_
    refine S_move rfl rfl rfl (v := (.int .i64 (k : Int))) (hs3) ?_
    refine S_sliceHi Tryz.underlying23 ti_uint32 rfl rfl rfl rfl (A := A) (m := l.length) (c := c) (rfl) (rfl) (j := k) (by omega) (by omega) ?_
    refine S_call en_slices_Clip_api_Nat_uint32 rfl rfl rfl (vs := [(.slice A (k) (c))]) (rfl) (clip_c w0 A k c (by omega)) ?_
    rintro _ _ ⟨rfl, rfl⟩
    refine S_assign rfl rfl rfl (v := (.slice A k k)) (rfl) ?_
    refine OPS.nil ?_
    change WP _ _ _ _ _ _
    refine W_ret ?_
    change Fin' _ _ _ _ _ _
    refine End1 (n := ⟨22, []⟩) (t := 2) rfl (by decide) (v := (.slice A k k)) (rfl) ?_
    subst hk0
    exact ⟨⟨0, rfl, by omega, (by rw [← hval]; exact (dg_zero).symm)⟩, rfl⟩
  · skip
    refine W_region rfl ?_
    refine S_move rfl rfl rfl (v := (.int .i64 (k : Int))) (hs3) ?_
    refine S_bin rfl rfl rfl rfl rfl (rfl) (rfl) (v := .bool true) (by simp [binV]; omega) ?_
    refine S_move rfl rfl rfl (v := (.bool true)) (rfl) ?_
    refine S_move rfl rfl rfl (v := (.slice A l.length c)) (hs0) ?_
    refine S_move rfl rfl rfl (v := (.int .i64 (k : Int))) (hs3) ?_
    refine S_sub64 rfl rfl rfl rfl (rfl) (rfl) (by omega) ?_
    obtain ⟨ad1, hp3, hc2⟩ := h.at (k - 1) (by omega)
    refine S_idx Tryz.underlying23 ti_uint32 rfl rfl rfl rfl (rfl) (rfl) hp3 (by omega) ?_
    refine S_load rfl rfl rfl (rfl) (LD.one ti_uint32 hc2) ?_
    refine S_bin rfl rfl rfl rfl rfl (rfl) (rfl) rfl ?_
    refine S_pick rfl rfl rfl rfl rfl (b := true) (rfl) (v := (.bool (((l.getD ((k - 1)) 0) == 0)))) (rfl) ?_
    refine OPS.nil ?_
    change WP _ _ _ _ _ _
    refine W_cond rfl (rfl) (fun hq15 => ?_) (fun hq15 => ?_)
    · skip
      replace hq15 := eq_of_beq hq15
      refine W_skip ?_
      change WP _ _ _ _ _ _
      refine W_block ?_
      refine W_region rfl ?_
      refine S_move rfl rfl rfl (v := (.int .i64 (k : Int))) (hs3) ?_
      refine S_sub64 rfl rfl rfl rfl (rfl) (rfl) (by omega) ?_
      refine S_assign rfl rfl rfl (v := (.int .i64 ((k : Int) - 1))) (rfl) ?_
      refine OPS.nil ?_
      exact ⟨k - 1, by omega, hs0, int_eq (by omega), by omega, by rw [← hval]; exact (val_drop0 hk0 hk hq15).symm, rfl⟩
    · skip
      replace hq15 := ne_of_beq_false hq15
      refine W_exit ?_
      change WP _ _ _ _ _ _
      refine W_seq ?_
      refine W_region rfl ?_
      refine S_move rfl rfl rfl (v := (.slice A l.length c)) (hs0) ?_
      refine S_move rfl rfl rfl (v := (.int .i64 (k : Int))) (hs3) ?_
      refine S_sliceHi Tryz.underlying23 ti_uint32 rfl rfl rfl rfl (A := A) (m := l.length) (c := c) (rfl) (rfl) (j := k) (by omega) (by omega) ?_
      refine S_call en_slices_Clip_api_Nat_uint32 rfl rfl rfl (vs := [(.slice A (k) (c))]) (rfl) (clip_c w0 A k c (by omega)) ?_
      rintro _ _ ⟨rfl, rfl⟩
      refine S_assign rfl rfl rfl (v := (.slice A k k)) (rfl) ?_
      refine OPS.nil ?_
      change WP _ _ _ _ _ _
      refine W_ret ?_
      change Fin' _ _ _ _ _ _
      refine End1 (n := ⟨22, []⟩) (t := 2) rfl (by decide) (v := (.slice A k k)) (rfl) ?_
      exact ⟨⟨k, rfl, hk, by rw [← hval]; exact (dg_take hk0 hk h.u32 hq15).symm⟩, rfl⟩


theorem natsCut_c (w0 : World) (v : Value) (l : List Int) {a b : Nat} (h : RN a b w0 v l) :
    Ret Tryz.prog 205 [v] w0 (fun r w1 => (∃ A c k, v = .slice A l.length c ∧ r = .slice A k k ∧ k ≤ l.length ∧ l.take k = dg (val l)) ∧ w0 = w1) := by
  obtain ⟨A, c, hv, hc, hm⟩ := h.form
  subst hv
  refine (natsCut_c0 w0 A l c hc hm h.any).mono ?_
  rintro r w1 ⟨⟨k, h1, h2, h3⟩, h4⟩
  exact ⟨⟨A, c, k, rfl, h1, h2, h3⟩, h4⟩

end Go.Proofs.YtccmicegihlfbaaGreatDoor
