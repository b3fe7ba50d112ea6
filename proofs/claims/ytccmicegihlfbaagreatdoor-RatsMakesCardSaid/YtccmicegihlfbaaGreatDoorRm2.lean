import Derived.Test.YtccmicegihlfbaaGreatDoorRm1
import Derived.Laws.OwnMore
import Derived.Lib.SliceRun
import Derived.Great.BuildSlice
import Derived.Great.FillDense
import Derived.Laws.Tables
set_option linter.unusedVariables false
set_option linter.unusedSimpArgs false

/- Numbers from 0 on: the simplest calls. -/
namespace Go.Proofs.YtccmicegihlfbaaGreatDoor
open Go.RowKit


theorem val_drop0 {l : List Int} {k : Nat} (h0 : 0 < k) (hk : k ≤ l.length) (hz : l.getD (k - 1) 0 = 0) : val (l.take k) = val (l.take (k - 1)) := by
  have := val_take_succ l (k - 1) (by omega)
  rw [show k - 1 + 1 = k by omega, hz] at this
  simpa using this
theorem dg_take {l : List Int} {k : Nat} (h0 : 0 < k) (hk : k ≤ l.length) (hu : U32 l) (hz : l.getD (k - 1) 0 ≠ 0) : dg (val (l.take k)) = l.take k := by
  refine dg_val (hu.take k) ?_
  have := okL_take (l := l) (n := k - 1) (by omega)
  rw [show k - 1 + 1 = k by omega] at this
  rw [this]
  simpa using hz

theorem okL_len0 {l : List Int} (h : l.length = 0) : okL l = true := by
  obtain rfl : l = [] := List.eq_nil_of_length_eq_zero h
  rfl

set_option maxHeartbeats 400000 in
theorem natsCheck_c0 (w0 : World) (v : Value) (l : List Int) (h : RN 0 0 w0 v l) (h0 : l.length = 0) :
    Ret Tryz.prog 152 [v] w0 (fun r w1 => r = .bool (okL l) ∧ w0 = w1) := by
 refine Ret_of (n := 15) Tryz.func152 rfl rfl (Nat.le_of_ble_eq_true rfl) ?_
 refine W_seq ?_
 refine W_region rfl ?_
 refine S_assign rfl rfl rfl (v := (.bool false)) (rfl) ?_
 refine OPS.nil ?_
 change WP _ _ _ _ _ _
 refine W_seq ?_
 refine W_region rfl ?_
 refine S_move rfl rfl rfl (v := v) (rfl) ?_
 refine S_len Tryz.underlying23 rfl rfl rfl (rfl) (m := l.length) (h.len) ?_
 refine S_bin rfl rfl rfl rfl rfl (rfl) (rfl) (v := .bool true) (by simp [binV, h0]) ?_
 refine S_move rfl rfl rfl (v := (.bool true)) (rfl) ?_
 refine S_skip (d := 7) (op := .move _) (gd := some (3, false)) rfl (wg_off rfl (rfl) rfl) ?_
 refine S_skip (d := 8) (op := .move _) (gd := some (3, false)) rfl (wg_off rfl (rfl) rfl) ?_
 refine S_skip (d := 9) (op := .call _) (gd := some (3, false)) rfl (wg_off rfl (rfl) rfl) ?_
 refine S_skip (d := 10) (op := .binOp _ _ _ _ _) (gd := some (3, false)) rfl (wg_off rfl (rfl) rfl) ?_
 refine S_skip (d := 11) (op := .indexAddr _ _ _) (gd := some (3, false)) rfl (wg_off rfl (rfl) rfl) ?_
 refine S_skip (d := 12) (op := .load _ _) (gd := some (3, false)) rfl (wg_off rfl (rfl) rfl) ?_
 refine S_skip (d := 13) (op := .binOp _ _ _ _ _) (gd := some (3, false)) rfl (wg_off rfl (rfl) rfl) ?_
 refine S_pick rfl rfl rfl rfl rfl (b := true) (rfl) (v := (.bool true)) (rfl) ?_
 refine S_assign rfl rfl rfl (v := (.bool true)) (rfl) ?_
 refine OPS.nil ?_
 change WP _ _ _ _ _ _
 refine W_ret ?_
 change Fin' _ _ _ _ _ _
 refine End1 (n := ⟨15, []⟩) (t := 2) rfl (by decide) (v := (.bool true)) (rfl) ?_
 exact ⟨by rw [okL_len0 h0], rfl⟩

set_option maxHeartbeats 400000 in
theorem natsCheck_c1 (w0 : World) (v : Value) (l : List Int) (h : RN 0 0 w0 v l) (h0 : 0 < l.length) :
    Ret Tryz.prog 152 [v] w0 (fun r w1 => r = .bool (okL l) ∧ w0 = w1) := by
 refine Ret_of (n := 15) Tryz.func152 rfl rfl (Nat.le_of_ble_eq_true rfl) ?_
 refine W_seq ?_
 refine W_region rfl ?_
 have hm := h.maxl
 refine S_assign rfl rfl rfl (v := (.bool false)) (rfl) ?_
 refine OPS.nil ?_
 change WP _ _ _ _ _ _
 refine W_seq ?_
 refine W_region rfl ?_
 refine S_move rfl rfl rfl (v := v) (rfl) ?_
 refine S_len Tryz.underlying23 rfl rfl rfl (rfl) (m := l.length) (h.len) ?_
 refine S_bin rfl rfl rfl rfl rfl (rfl) (rfl) (v := .bool false) (by simp [binV]; intro h; simp [h] at h0) ?_
 refine S_move rfl rfl rfl (v := (.bool false)) (rfl) ?_
 refine S_move rfl rfl rfl (v := v) (rfl) ?_
 refine S_move rfl rfl rfl (v := v) (rfl) ?_
 refine S_len Tryz.underlying23 rfl rfl rfl (rfl) (m := l.length) (h.len) ?_
 refine S_sub64 rfl rfl rfl rfl (rfl) (rfl) (by omega) ?_
 obtain ⟨ad1, hp3, hc2⟩ := h.at (l.length - 1) (by omega)
 refine S_idx Tryz.underlying23 ti_uint32 rfl rfl rfl rfl (rfl) (rfl) hp3 (by omega) ?_
 refine S_load rfl rfl rfl (rfl) (LD.one ti_uint32 hc2) ?_
 refine S_bin rfl rfl rfl rfl rfl (rfl) (rfl) (v := .bool (((l.getD ((l.length - 1)) 0) != 0))) rfl ?_
 refine S_pick rfl rfl rfl rfl rfl (b := false) (rfl) (v := (.bool (((l.getD ((l.length - 1)) 0) != 0)))) (rfl) ?_
 refine S_assign rfl rfl rfl (v := (.bool (((l.getD ((l.length - 1)) 0) != 0)))) (rfl) ?_
 refine OPS.nil ?_
 change WP _ _ _ _ _ _
 refine W_ret ?_
 change Fin' _ _ _ _ _ _
 refine End1 (n := ⟨15, []⟩) (t := 2) rfl (by decide) (v := (.bool (((l.getD ((l.length - 1)) 0) != 0)))) (rfl) ?_
 exact ⟨by rw [okL_getD h0], rfl⟩

theorem natsCheck_c (w0 : World) (v : Value) (l : List Int) {a b : Nat} (h : RN a b w0 v l) : Ret Tryz.prog 152 [v] w0 (fun r w1 => r = .bool (okL l) ∧ w0 = w1) := by
  by_cases h0 : l.length = 0
  · exact natsCheck_c0 w0 v l h.any h0
  · exact natsCheck_c1 w0 v l h.any (by omega)

set_option maxHeartbeats 400000 in
theorem natsFine_c (w0 : World) (v : Value) (l : List Int) {a b : Nat} (h : RN a b w0 v l) :
    Ret Tryz.prog 159 [v] w0 (fun r w1 => r = (if okL l then v else .slice none 0 0) ∧ w0 = w1) := by
 refine Ret_of (n := 6) Tryz.func159 rfl rfl (Nat.le_of_ble_eq_true rfl) ?_
 refine W_seq ?_
 refine W_region rfl ?_
 refine S_assign rfl rfl rfl (v := (.slice none 0 0)) (rfl) ?_
 refine OPS.nil ?_
 change WP _ _ _ _ _ _
 refine W_seq ?_
 refine W_seq ?_
 refine W_region rfl ?_
 refine S_move rfl rfl rfl (v := v) (rfl) ?_
 refine S_call en_nats_Check rfl rfl rfl (vs := [v]) (rfl) (natsCheck_c w0 v l h) ?_
 rintro _ _ ⟨rfl, rfl⟩
 refine OPS.nil ?_
 change WP _ _ _ _ _ _
 refine W_cond rfl (rfl) (fun hq4 => ?_) (fun hq4 => ?_)
 ·skip
  have pT := hq4
  skip
  try rw [pT]
  refine W_seq ?_
  refine W_region rfl ?_
  refine S_move rfl rfl rfl (v := v) (rfl) ?_
  refine S_assign rfl rfl rfl (v := v) (rfl) ?_
  refine OPS.nil ?_
  change WP _ _ _ _ _ _
  refine W_ret ?_
  change Fin' _ _ _ _ _ _
  refine End1 (n := ⟨6, []⟩) (t := 2) rfl (by decide) (v := v) (rfl) ?_
  exact ⟨by simp [*], rfl⟩
 ·skip
  have pF := hq4
  skip
  try rw [pF]
  refine W_skip ?_
  change WP _ _ _ _ _ _
  refine W_seq ?_
  refine W_region rfl ?_
  refine S_assign rfl rfl rfl (v := (.slice none 0 0)) (rfl) ?_
  refine OPS.nil ?_
  change WP _ _ _ _ _ _
  refine W_ret ?_
  change Fin' _ _ _ _ _ _
  refine End1 (n := ⟨6, []⟩) (t := 2) rfl (by decide) (v := (.slice none 0 0)) (rfl) ?_
  exact ⟨by simp [*], rfl⟩


def atN (l : List Int) (i : Int) : Int := if i < 0 then 0 else l.getD i.toNat 0
theorem atN_nat (l : List Int) (i : Nat) : atN l (i : Int) = l.getD i 0 := by
  unfold atN
  rw [if_neg (by omega), Int.toNat_natCast]
theorem atN_range {l : List Int} (h : U32 l) (i : Int) : 0 ≤ atN l i ∧ atN l i < 4294967296 := by
  unfold atN
  split
  · exact ⟨by decide, by decide⟩
  · exact h.getD _

set_option maxHeartbeats 400000 in
theorem natsAt_c0 (w0 : World) (v : Value) (l : List Int) (i : Int) (h : RN 0 0 w0 v l) (hi : i < 0) :
    Ret Tryz.prog 241 [v, .int .i64 i] w0 (fun r w1 => r = .int .u64 (atN l i) ∧ w0 = w1) := by
 refine Ret_of (n := 18) Tryz.func241 rfl rfl (Nat.le_of_ble_eq_true rfl) ?_
 refine W_seq ?_
 refine W_region rfl ?_
 refine S_assign rfl rfl rfl (v := (.int .u64 0)) (rfl) ?_
 refine OPS.nil ?_
 change WP _ _ _ _ _ _
 refine W_seq ?_
 refine W_seq ?_
 refine W_region rfl ?_
 refine S_move rfl rfl rfl (v := .int .i64 i) (rfl) ?_
 refine S_bin rfl rfl rfl rfl rfl (rfl) (rfl) (v := .bool true) (by simp [binV, hi]) ?_
 refine S_move rfl rfl rfl (v := (.bool true)) (rfl) ?_
 refine S_skip (d := 8) (op := .move _) (gd := some (2, false)) rfl (wg_off rfl (rfl) rfl) ?_
 refine S_skip (d := 9) (op := .move _) (gd := some (2, false)) rfl (wg_off rfl (rfl) rfl) ?_
 refine S_skip (d := 10) (op := .call _) (gd := some (2, false)) rfl (wg_off rfl (rfl) rfl) ?_
 refine S_skip (d := 11) (op := .binOp _ _ _ _ _) (gd := some (2, false)) rfl (wg_off rfl (rfl) rfl) ?_
 refine S_pick rfl rfl rfl rfl rfl (b := true) (rfl) (v := (.bool true)) (rfl) ?_
 refine OPS.nil ?_
 change WP _ _ _ _ _ _
 refine W_cond rfl (b := true) (rfl) (fun _ => ?_) (fun h => (by cases h))
 refine W_seq ?_
 refine W_region rfl ?_
 refine S_assign rfl rfl rfl (v := (.int .u64 0)) (rfl) ?_
 refine OPS.nil ?_
 change WP _ _ _ _ _ _
 refine W_ret ?_
 change Fin' _ _ _ _ _ _
 refine End1 (n := ⟨18, []⟩) (t := 4) rfl (by decide) (v := (.int .u64 0)) (rfl) ?_
 exact ⟨by simp [atN, hi], rfl⟩

set_option maxHeartbeats 400000 in
theorem natsAt_c1 (w0 : World) (v : Value) (l : List Int) (i : Int) (h : RN 0 0 w0 v l) (hi : ¬ i < 0) (hl : (l.length : Int) ≤ i) :
    Ret Tryz.prog 241 [v, .int .i64 i] w0 (fun r w1 => r = .int .u64 (atN l i) ∧ w0 = w1) := by
 refine Ret_of (n := 18) Tryz.func241 rfl rfl (Nat.le_of_ble_eq_true rfl) ?_
 refine W_seq ?_
 refine W_region rfl ?_
 refine S_assign rfl rfl rfl (v := (.int .u64 0)) (rfl) ?_
 refine OPS.nil ?_
 change WP _ _ _ _ _ _
 refine W_seq ?_
 refine W_seq ?_
 refine W_region rfl ?_
 refine S_move rfl rfl rfl (v := .int .i64 i) (rfl) ?_
 refine S_bin rfl rfl rfl rfl rfl (rfl) (rfl) (v := .bool false) (by simp [binV]; omega) ?_
 refine S_move rfl rfl rfl (v := (.bool false)) (rfl) ?_
 refine S_move rfl rfl rfl (v := .int .i64 i) (rfl) ?_
 refine S_move rfl rfl rfl (v := v) (rfl) ?_
 refine S_len Tryz.underlying23 rfl rfl rfl (rfl) (m := l.length) (h.len) ?_
 refine S_bin rfl rfl rfl rfl rfl (rfl) (rfl) (v := .bool true) (by simp [binV]; omega) ?_
 refine S_pick rfl rfl rfl rfl rfl (b := false) (rfl) (v := (.bool true)) (rfl) ?_
 refine OPS.nil ?_
 change WP _ _ _ _ _ _
 refine W_cond rfl (b := true) (rfl) (fun _ => ?_) (fun h => (by cases h))
 refine W_seq ?_
 refine W_region rfl ?_
 refine S_assign rfl rfl rfl (v := (.int .u64 0)) (rfl) ?_
 refine OPS.nil ?_
 change WP _ _ _ _ _ _
 refine W_ret ?_
 change Fin' _ _ _ _ _ _
 refine End1 (n := ⟨18, []⟩) (t := 4) rfl (by decide) (v := (.int .u64 0)) (rfl) ?_
 exact ⟨by simp [atN, hi]; rw [List.getElem?_eq_none (by omega)]; rfl, rfl⟩

set_option maxHeartbeats 400000 in
theorem natsAt_c2 (w0 : World) (v : Value) (l : List Int) (i : Int) (h : RN 0 0 w0 v l) (hi : ¬ i < 0) (hl : i < (l.length : Int)) :
    Ret Tryz.prog 241 [v, .int .i64 i] w0 (fun r w1 => r = .int .u64 (atN l i) ∧ w0 = w1) := by
 refine Ret_of (n := 18) Tryz.func241 rfl rfl (Nat.le_of_ble_eq_true rfl) ?_
 refine W_seq ?_
 refine W_region rfl ?_
 refine S_assign rfl rfl rfl (v := (.int .u64 0)) (rfl) ?_
 refine OPS.nil ?_
 change WP _ _ _ _ _ _
 refine W_seq ?_
 refine W_seq ?_
 refine W_region rfl ?_
 refine S_move rfl rfl rfl (v := .int .i64 i) (rfl) ?_
 refine S_bin rfl rfl rfl rfl rfl (rfl) (rfl) (v := .bool false) (by simp [binV]; omega) ?_
 refine S_move rfl rfl rfl (v := (.bool false)) (rfl) ?_
 refine S_move rfl rfl rfl (v := .int .i64 i) (rfl) ?_
 refine S_move rfl rfl rfl (v := v) (rfl) ?_
 refine S_len Tryz.underlying23 rfl rfl rfl (rfl) (m := l.length) (h.len) ?_
 refine S_bin rfl rfl rfl rfl rfl (rfl) (rfl) (v := .bool false) (by simp [binV]; omega) ?_
 refine S_pick rfl rfl rfl rfl rfl (b := false) (rfl) (v := (.bool false)) (rfl) ?_
 refine OPS.nil ?_
 change WP _ _ _ _ _ _
 refine W_cond rfl (b := false) (rfl) (fun h => (by cases h)) (fun _ => ?_)
 refine W_skip ?_
 change WP _ _ _ _ _ _
 refine W_seq ?_
 refine W_region rfl ?_
 have hu := h.u32.getD i.toNat
 refine S_move rfl rfl rfl (v := v) (rfl) ?_
 refine S_move rfl rfl rfl (v := .int .i64 i) (rfl) ?_
 obtain ⟨ad1, hp3, hc2⟩ := h.at i.toNat (by omega)
 refine S_idx Tryz.underlying23 ti_uint32 rfl rfl rfl rfl (rfl) (rfl) hp3 (by omega) ?_
 refine S_load rfl rfl rfl (rfl) (LD.one ti_uint32 hc2) ?_
 refine S_conv Tryz.underlying106 Tryz.underlying124 rfl rfl rfl (rfl) (b := (l.getD i.toNat 0)) (wrap_u64 hu.1 (by omega)) ?_
 refine S_assign rfl rfl rfl (v := (.int .u64 (l.getD i.toNat 0))) (rfl) ?_
 refine OPS.nil ?_
 change WP _ _ _ _ _ _
 refine W_ret ?_
 change Fin' _ _ _ _ _ _
 refine End1 (n := ⟨18, []⟩) (t := 4) rfl (by decide) (v := (.int .u64 (l.getD i.toNat 0))) (rfl) ?_
 exact ⟨by simp [atN, hi], rfl⟩

theorem natsAt_c (w0 : World) (v : Value) (l : List Int) (i : Int) {a b : Nat} (h : RN a b w0 v l) : Ret Tryz.prog 241 [v, .int .i64 i] w0 (fun r w1 => r = .int .u64 (atN l i) ∧ w0 = w1) := by
  by_cases h0 : i < 0
  · exact natsAt_c0 w0 v l i h.any h0
  · by_cases h1 : i < (l.length : Int)
    · exact natsAt_c2 w0 v l i h.any h0 h1
    · exact natsAt_c1 w0 v l i h.any h0 (by omega)

set_option maxHeartbeats 400000 in
theorem clip_c (w0 : World) (A : Option Addr) (m c : Nat) (hm : m ≤ c) :
    Ret Tryz.prog 249 [.slice A m c] w0 (fun r w1 => r = .slice A m m ∧ w0 = w1) := by
 refine Ret_of (n := 9) Tryz.func249 rfl rfl (Nat.le_of_ble_eq_true rfl) ?_
 refine W_seq ?_
 refine W_region rfl ?_
 refine S_assign rfl rfl rfl (v := (.slice none 0 0)) (rfl) ?_
 refine OPS.nil ?_
 change WP _ _ _ _ _ _
 refine W_seq ?_
 refine W_region rfl ?_
 refine S_move rfl rfl rfl (v := .slice A m c) (rfl) ?_
 refine S_move rfl rfl rfl (v := .slice A m c) (rfl) ?_
 refine S_len Tryz.underlying23 rfl rfl rfl (rfl) (m := m) (⟨_, _, rfl⟩) ?_
 refine S_move rfl rfl rfl (v := .slice A m c) (rfl) ?_
 refine S_len Tryz.underlying23 rfl rfl rfl (rfl) (m := m) (⟨_, _, rfl⟩) ?_
 refine S_sliceHiMx Tryz.underlying23 ti_uint32 rfl rfl rfl rfl rfl (A := A) (m := m) (c := c) (rfl) (rfl) (rfl) (j := m) (q := m) (by omega) (by omega) (by omega) (by omega) ?_
 refine S_assign rfl rfl rfl (v := (.slice A (m) (m))) (rfl) ?_
 refine OPS.nil ?_
 change WP _ _ _ _ _ _
 refine W_ret ?_
 change Fin' _ _ _ _ _ _
 refine End1 (n := ⟨9, []⟩) (t := 2) rfl (by decide) (v := (.slice A (m) (m))) (rfl) ?_
 exact ⟨rfl, rfl⟩

set_option maxHeartbeats 400000 in
theorem natsCut_c0 (w0 : World) (A : Option Addr) (l : List Int) (c : Nat) (hc : l.length ≤ c) (hm : c ≤ 9223372036854775807) (h : RN 0 0 w0 (.slice A l.length c) l) :
    Ret Tryz.prog 205 [.slice A l.length c] w0 (fun r w1 => (∃ k, r = .slice A k k ∧ k ≤ l.length ∧ l.take k = dg (val l)) ∧ w0 = w1) := by
 refine Ret_of (n := 22) Tryz.func205 rfl rfl (Nat.le_of_ble_eq_true rfl) ?_
 refine W_seq ?_
 refine W_region rfl ?_
 refine S_assign rfl rfl rfl (v := (.slice none 0 0)) (rfl) ?_
 refine OPS.nil ?_
 change WP _ _ _ _ _ _
 refine W_seq ?_
 refine W_region rfl ?_
 refine S_move rfl rfl rfl (v := .slice A l.length c) (rfl) ?_
 refine S_len Tryz.underlying23 rfl rfl rfl (rfl) (m := l.length) (h.len) ?_
 refine S_assign rfl rfl rfl (v := (.int .i64 (l.length : Int))) (rfl) ?_
 refine OPS.nil ?_
 change WP _ _ _ _ _ _
 refine W_seq ?_
 refine W_block ?_
 refine W_loop (fun k σ w => σ 0 = .slice A l.length c ∧ σ 3 = .int .i64 (k : Int) ∧ k ≤ l.length ∧ val (l.take k) = val l ∧ w0 = w) (l.length) ⟨rfl, rfl, Nat.le_refl _, by rw [List.take_length], rfl⟩ ?_
 rintro k σ w ⟨hs0, hs3, hk, hval, rfl⟩
 refine W_seq ?_
 refine W_seq ?_
 rcases Nat.eq_zero_or_pos k with hk0 | hk0
 ·skip
  refine W_region rfl ?_
  refine S_move rfl rfl rfl (v := (.int .i64 (k : Int))) (hs3) ?_
  refine S_bin rfl rfl rfl rfl rfl (rfl) (rfl) (v := .bool false) (by simp [binV, hk0]) ?_
  refine S_move rfl rfl rfl (v := (.bool false)) (rfl) ?_
  refine S_skip (d := 9) (op := .move _) (gd := some (2, true)) rfl (wg_off rfl (rfl) rfl) ?_
  refine S_skip (d := 10) (op := .move _) (gd := some (2, true)) rfl (wg_off rfl (rfl) rfl) ?_
  refine S_skip (d := 11) (op := .binOp _ _ _ _ _) (gd := some (2, true)) rfl (wg_off rfl (rfl) rfl) ?_
  refine S_skip (d := 12) (op := .indexAddr _ _ _) (gd := some (2, true)) rfl (wg_off rfl (rfl) rfl) ?_
  refine S_skip (d := 13) (op := .load _ _) (gd := some (2, true)) rfl (wg_off rfl (rfl) rfl) ?_
  refine S_skip (d := 14) (op := .binOp _ _ _ _ _) (gd := some (2, true)) rfl (wg_off rfl (rfl) rfl) ?_
  refine S_pick rfl rfl rfl rfl rfl (b := false) (rfl) (v := (.bool false)) (rfl) ?_
  refine OPS.nil ?_
  change WP _ _ _ _ _ _
  refine W_cond rfl (b := false) (rfl) (fun h => (by cases h)) (fun _ => ?_)
  refine W_exit ?_
  change WP _ _ _ _ _ _
  refine W_seq ?_
  refine W_region rfl ?_
  refine S_move rfl rfl rfl (v := (.slice A l.length c)) (hs0) ?_
  refine S_move rfl rfl rfl (v := (.int .i64 (k : Int))) (hs3) ?_
  refine S_sliceHi Tryz.underlying23 ti_uint32 rfl rfl rfl rfl (A := A) (m := l.length) (c := c) (rfl) (rfl) (j := k) (by omega) (by omega) ?_
  refine S_call en_slices_Clip_api_Nat_uint32 rfl rfl rfl (vs := [(.slice A (k) (c))]) (rfl) (clip_c w0 A k c (by omega)) ?_
  rintro _ _ ⟨rfl, rfl⟩
  refine S_assign rfl rfl rfl (v := (.slice A k k)) (rfl) ?_
  refine OPS.nil ?_
  change WP _ _ _ _ _ _
  refine W_ret ?_
  change Fin' _ _ _ _ _ _
  refine End1 (n := ⟨22, []⟩) (t := 2) rfl (by decide) (v := (.slice A k k)) (rfl) ?_
  subst hk0
  exact ⟨⟨0, rfl, by omega, (by rw [← hval]; exact (dg_zero).symm)⟩, rfl⟩
 ·skip
  refine W_region rfl ?_
  refine S_move rfl rfl rfl (v := (.int .i64 (k : Int))) (hs3) ?_
  refine S_bin rfl rfl rfl rfl rfl (rfl) (rfl) (v := .bool true) (by simp [binV]; omega) ?_
  refine S_move rfl rfl rfl (v := (.bool true)) (rfl) ?_
  refine S_move rfl rfl rfl (v := (.slice A l.length c)) (hs0) ?_
  refine S_move rfl rfl rfl (v := (.int .i64 (k : Int))) (hs3) ?_
  refine S_sub64 rfl rfl rfl rfl (rfl) (rfl) (by omega) ?_
  obtain ⟨ad1, hp3, hc2⟩ := h.at (k - 1) (by omega)
  refine S_idx Tryz.underlying23 ti_uint32 rfl rfl rfl rfl (rfl) (rfl) hp3 (by omega) ?_
  refine S_load rfl rfl rfl (rfl) (LD.one ti_uint32 hc2) ?_
  refine S_bin rfl rfl rfl rfl rfl (rfl) (rfl) (v := .bool (((l.getD ((k - 1)) 0) == 0))) rfl ?_
  refine S_pick rfl rfl rfl rfl rfl (b := true) (rfl) (v := (.bool (((l.getD ((k - 1)) 0) == 0)))) (rfl) ?_
  refine OPS.nil ?_
  change WP _ _ _ _ _ _
  refine W_cond rfl (rfl) (fun hq15 => ?_) (fun hq15 => ?_)
  ·skip
   have pT := hq15
   replace hq15 := eq_of_beq hq15
   have qT := hq15
   try rw [pT]
   refine W_skip ?_
   change WP _ _ _ _ _ _
   refine W_block ?_
   refine W_region rfl ?_
   refine S_move rfl rfl rfl (v := (.int .i64 (k : Int))) (hs3) ?_
   refine S_sub64 rfl rfl rfl rfl (rfl) (rfl) (by omega) ?_
   refine S_assign rfl rfl rfl (v := (.int .i64 ((k : Int) - 1))) (rfl) ?_
   refine OPS.nil ?_
   exact ⟨k - 1, by omega, hs0, int_eq (by omega), by omega, by rw [← hval]; exact (val_drop0 hk0 hk hq15).symm, rfl⟩
  ·skip
   have pF := hq15
   replace hq15 := ne_of_beq_false hq15
   have qF := hq15
   try rw [pF]
   refine W_exit ?_
   change WP _ _ _ _ _ _
   refine W_seq ?_
   refine W_region rfl ?_
   refine S_move rfl rfl rfl (v := (.slice A l.length c)) (hs0) ?_
   refine S_move rfl rfl rfl (v := (.int .i64 (k : Int))) (hs3) ?_
   refine S_sliceHi Tryz.underlying23 ti_uint32 rfl rfl rfl rfl (A := A) (m := l.length) (c := c) (rfl) (rfl) (j := k) (by omega) (by omega) ?_
   refine S_call en_slices_Clip_api_Nat_uint32 rfl rfl rfl (vs := [(.slice A (k) (c))]) (rfl) (clip_c w0 A k c (by omega)) ?_
   rintro _ _ ⟨rfl, rfl⟩
   refine S_assign rfl rfl rfl (v := (.slice A k k)) (rfl) ?_
   refine OPS.nil ?_
   change WP _ _ _ _ _ _
   refine W_ret ?_
   change Fin' _ _ _ _ _ _
   refine End1 (n := ⟨22, []⟩) (t := 2) rfl (by decide) (v := (.slice A k k)) (rfl) ?_
   exact ⟨⟨k, rfl, hk, by rw [← hval]; exact (dg_take hk0 hk h.u32 hq15).symm⟩, rfl⟩


theorem natsCut_c (w0 : World) (v : Value) (l : List Int) {a b : Nat} (h : RN a b w0 v l) :
    Ret Tryz.prog 205 [v] w0 (fun r w1 => (∃ A c k, v = .slice A l.length c ∧ r = .slice A k k ∧ k ≤ l.length ∧ l.take k = dg (val l)) ∧ w0 = w1) := by
  obtain ⟨A, c, hv, hc, hm⟩ := h.form
  subst hv
  refine (natsCut_c0 w0 A l c hc hm h.any).mono ?_
  rintro r w1 ⟨⟨k, h1, h2, h3⟩, h4⟩
  exact ⟨⟨A, c, k, rfl, h1, h2, h3⟩, h4⟩

end Go.Proofs.YtccmicegihlfbaaGreatDoor

/- Numbers from 0 on: sums. -/
namespace Go.Proofs.YtccmicegihlfbaaGreatDoor
open Go.RowKit

set_option maxHeartbeats 400000 in
theorem add32_c (w0 : World) (x y c : Int) (hx : 0 ≤ x ∧ x < 4294967296) (hy : 0 ≤ y ∧ y < 4294967296) (hc : 0 ≤ c ∧ c ≤ 1) :
    Ret Tryz.prog 240 [.int .u32 x, .int .u32 y, .int .u32 c] w0 (fun r w1 => r = .tuple #[.int .u32 ((x + y + c) % 4294967296), .int .u32 ((x + y + c) / 4294967296)] ∧ w0 = w1) := by
 refine Ret_of (n := 22) Tryz.func240 rfl rfl (Nat.le_of_ble_eq_true rfl) ?_
 refine W_seq ?_
 refine W_region rfl ?_
 refine S_assign rfl rfl rfl (v := (.int .u32 0)) (rfl) ?_
 refine S_assign rfl rfl rfl (v := (.int .u32 0)) (rfl) ?_
 refine OPS.nil ?_
 change WP _ _ _ _ _ _
 refine W_seq ?_
 refine W_region rfl ?_
 refine S_move rfl rfl rfl (v := .int .u32 x) (rfl) ?_
 refine S_conv Tryz.underlying106 Tryz.underlying124 rfl rfl rfl (rfl) (b := x) (wrap_u64 hx.1 (by omega)) ?_
 refine S_move rfl rfl rfl (v := .int .u32 y) (rfl) ?_
 refine S_conv Tryz.underlying106 Tryz.underlying124 rfl rfl rfl (rfl) (b := y) (wrap_u64 hy.1 (by omega)) ?_
 refine S_bin rfl rfl rfl rfl rfl (rfl) (rfl) (v := .int .u64 (x + y)) (congrArg _ (wrap_u64 (by omega) (by omega))) ?_
 refine S_move rfl rfl rfl (v := .int .u32 c) (rfl) ?_
 refine S_conv Tryz.underlying106 Tryz.underlying124 rfl rfl rfl (rfl) (b := c) (wrap_u64 hc.1 (by omega)) ?_
 refine S_bin rfl rfl rfl rfl rfl (rfl) (rfl) (v := .int .u64 (x + y + c)) (congrArg _ (wrap_u64 (by omega) (by omega))) ?_
 refine S_assign rfl rfl rfl (v := (.int .u64 (x + y + c))) (rfl) ?_
 refine OPS.nil ?_
 change WP _ _ _ _ _ _
 refine W_seq ?_
 refine W_region rfl ?_
 refine S_move rfl rfl rfl (v := (.int .u64 (x + y + c))) (rfl) ?_
 refine S_conv Tryz.underlying124 Tryz.underlying106 rfl rfl rfl (rfl) (b := ((x + y + c) % 4294967296)) (wrap_u32' _) ?_
 refine S_assign rfl rfl rfl (v := (.int .u32 ((x + y + c) % 4294967296))) (rfl) ?_
 refine OPS.nil ?_
 change WP _ _ _ _ _ _
 refine W_seq ?_
 refine W_region rfl ?_
 refine S_move rfl rfl rfl (v := (.int .u64 (x + y + c))) (rfl) ?_
 refine S_shr rfl rfl rfl rfl (rfl) (rfl) (by omega) (v := ((x + y + c) / 4294967296)) (by rw [Int.fdiv_eq_ediv_of_nonneg _ (by decide)]; rfl) ?_
 refine S_conv Tryz.underlying124 Tryz.underlying106 rfl rfl rfl (rfl) (b := ((x + y + c) / 4294967296)) (wrap_u32 (by omega) (by omega)) ?_
 refine S_assign rfl rfl rfl (v := (.int .u32 ((x + y + c) / 4294967296))) (rfl) ?_
 refine OPS.nil ?_
 change WP _ _ _ _ _ _
 refine W_ret ?_
 change Fin' _ _ _ _ _ _
 refine End2 (n := ⟨22, []⟩) (t := 6) (u := 7) rfl (by decide) (by decide) (rfl) (rfl) ?_
 exact ⟨rfl, rfl⟩


/-- Below 2 ^ (32 * 2 ^ 35): what a list's length may be here. -/
abbrev SZ : Nat := 1099511627776
theorem val_step (l : List Int) (i : Nat) : val (l.take (i + 1)) = val (l.take i) + 4294967296 ^ i * (l.getD i 0).toNat := by
  by_cases hi : i < l.length
  · exact val_take_succ l i hi
  · rw [List.take_of_length_le (by omega), List.take_of_length_le (by omega), List.getD_eq_getElem?_getD, List.getElem?_eq_none (by omega)]
    simp
theorem take_set_succ (xs : List Int) (i : Nat) (x : Int) (hi : i < xs.length) : (xs.set i x).take (i + 1) = xs.take i ++ [x] := by
  rw [List.take_succ_eq_append_getElem (by simpa using hi)]
  simp [List.take_set_of_le]
theorem val_set_take (xs : List Int) (i : Nat) (x : Int) (hi : i < xs.length) : val ((xs.set i x).take (i + 1)) = val (xs.take i) + 4294967296 ^ i * x.toNat := by
  rw [take_set_succ xs i x hi, val_append, List.length_take, Nat.min_eq_left (by omega)]
  simp [val]
theorem add_round {la lb xs : List Int} {i : Nat} {c x y : Int} (hi : i < xs.length) (hx : 0 ≤ x) (hy : 0 ≤ y) (hc : 0 ≤ c) (ex : la.getD i 0 = x) (ey : lb.getD i 0 = y)
    (h : val (xs.take i) + 4294967296 ^ i * c.toNat = val (la.take i) + val (lb.take i)) :
    val ((xs.set i ((x + y + c) % 4294967296)).take (i + 1)) + 4294967296 ^ (i + 1) * ((x + y + c) / 4294967296).toNat = val (la.take (i + 1)) + val (lb.take (i + 1)) := by
  rw [val_set_take xs i _ hi, val_step la, val_step lb, ex, ey, Nat.pow_succ]
  have e : ((x + y + c) % 4294967296).toNat + 4294967296 * ((x + y + c) / 4294967296).toNat = x.toNat + y.toNat + c.toNat := by omega
  generalize ((x + y + c) % 4294967296).toNat = p at e
  generalize ((x + y + c) / 4294967296).toNat = q at e
  generalize 4294967296 ^ i = B at *
  have : B * p + B * 4294967296 * q = B * x.toNat + B * y.toNat + B * c.toNat := by
    rw [Nat.mul_assoc, ← Nat.mul_add, e, Nat.mul_add, Nat.mul_add]
  omega
theorem pow_pos' (m : Nat) : 0 < 4294967296 ^ m := Nat.pow_pos (by decide)
theorem add_end {la lb xs : List Int} {m : Nat} {c : Int} (hl : xs.length = m) (hm : m = max la.length lb.length + 1) (ha : U32 la) (hb : U32 lb) (hc : 0 ≤ c)
    (h : val (xs.take m) + 4294967296 ^ m * c.toNat = val (la.take m) + val (lb.take m)) : val xs = val la + val lb := by
  rw [List.take_of_length_le (by omega), List.take_of_length_le (l := la) (by omega), List.take_of_length_le (l := lb) (by omega)] at h
  have h1 := Nat.lt_of_lt_of_le (val_lt ha) (Nat.pow_le_pow_right (by decide : 4294967296 > 0) (Nat.le_max_left la.length lb.length))
  have h2 := Nat.lt_of_lt_of_le (val_lt hb) (Nat.pow_le_pow_right (by decide : 4294967296 > 0) (Nat.le_max_right la.length lb.length))
  have e : 4294967296 ^ m = 4294967296 ^ (max la.length lb.length) * 4294967296 := by rw [hm, Nat.pow_succ]
  generalize 4294967296 ^ (max la.length lb.length) = q at h1 h2 e
  rcases Nat.eq_zero_or_pos c.toNat with h0 | h0
  · rw [h0] at h; omega
  · have := Nat.mul_le_mul_left (4294967296 ^ m) h0
    omega
theorem cut_on {B g m : Nat} {w : World} {xs : List Int} {r : Value} {A : Option Addr} {c k : Nat} (hb : Blk w g (nums .u32 xs) 106) (hu : U32 xs) (hB : B ≤ g) (hm : xs.length = m) (hmx : m ≤ 9223372036854775807)
    (hv : Value.slice (some ⟨g, 0, none⟩) m m = .slice A xs.length c) (hr : r = .slice A k k) (hk : k ≤ xs.length) (ht : xs.take k = dg (val xs)) : ON B w r (dg (val xs)) := by
  simp only [Value.slice.injEq] at hv
  obtain ⟨rfl, _, _⟩ := hv
  subst hr
  rw [← ht]
  exact ON.mkNums hb hu hB hk (by omega)
theorem RN.ofNums {a b g m : Nat} {w : World} {xs : List Int} (hb : Blk w g (nums .u32 xs) 106) (hu : U32 xs) (hm : xs.length = m) (hmx : m ≤ 9223372036854775807) : RN 0 0 w (.slice (some ⟨g, 0, none⟩) m m) xs := by
  subst hm
  have := (ON.mkNums (B := 0) hb hu (Nat.zero_le _) (Nat.le_refl _) hmx).r
  rw [List.take_length] at this
  exact this.any

set_option maxHeartbeats 400000 in
theorem natsAdd_c (w0 : World) (va vb : Value) (la lb : List Int) {a b a2 b2 : Nat} (ha : RN a b w0 va la) (hb : RN a2 b2 w0 vb lb) (hsa : la.length ≤ SZ) (hsb : lb.length ≤ SZ) :
    Ret Tryz.prog 203 [va, vb] w0 (fun r w1 => Below w0.heap.size w0 w1 ∧ ON w0.heap.size w1 r (dg (nv la + nv lb))) := by
 have E := Below.refl w0.heap.size w0
 have hfa := ha.fine
 have hfb := hb.fine
 have h1 := fineL_length la
 have h2 := fineL_length lb
 unfold SZ at hsa hsb
 refine Ret_of (n := 43) Tryz.func203 rfl rfl (Nat.le_of_ble_eq_true rfl) ?_
 refine W_seq ?_
 refine W_region rfl ?_
 refine S_assign rfl rfl rfl (v := (.slice none 0 0)) (rfl) ?_
 refine OPS.nil ?_
 change WP _ _ _ _ _ _
 refine W_seq ?_
 refine W_region rfl ?_
 refine S_move rfl rfl rfl (v := va) (rfl) ?_
 refine S_call en_nats_fine rfl rfl rfl (vs := [va]) (rfl) (natsFine_c w0 va la ha) ?_
 rintro _ _ ⟨rfl, rfl⟩
 refine S_move rfl rfl rfl (v := vb) (rfl) ?_
 refine S_call en_nats_fine rfl rfl rfl (vs := [vb]) (rfl) (natsFine_c w0 vb lb hb) ?_
 rintro _ _ ⟨rfl, rfl⟩
 refine S_assign rfl rfl rfl (v := (if okL la then va else .slice none 0 0)) (rfl) ?_
 refine S_assign rfl rfl rfl (v := (if okL lb then vb else .slice none 0 0)) (rfl) ?_
 refine OPS.nil ?_
 change WP _ _ _ _ _ _
 refine W_seq ?_
 refine W_region rfl ?_
 refine S_move rfl rfl rfl (v := (if okL la then va else .slice none 0 0)) (rfl) ?_
 refine S_len Tryz.underlying23 rfl rfl rfl (rfl) (m := (fineL la).length) (hfa.len) ?_
 refine S_move rfl rfl rfl (v := (if okL lb then vb else .slice none 0 0)) (rfl) ?_
 refine S_len Tryz.underlying23 rfl rfl rfl (rfl) (m := (fineL lb).length) (hfb.len) ?_
 refine S_max rfl rfl rfl rfl (rfl) (rfl) (v := (max ((fineL la).length : Int) ((fineL lb).length : Int))) (rfl) ?_
 refine S_add64 rfl rfl rfl rfl (rfl) (rfl) (by omega) ?_
 refine S_make Tryz.underlying23 ti_uint32 rfl rfl rfl rfl (rfl) (m := max (fineL la).length (fineL lb).length + 1) (by omega) (by omega) (by omega) ?_
 intro g1 w1 hg1 hs1 hB1 b1
 rw [nums_rep] at b1
 have hz1 := hB1.size
 have E := Below.step E hB1
 refine S_assign rfl rfl rfl (v := (.slice (some ⟨g1, 0, none⟩) (max (fineL la).length (fineL lb).length + 1) (max (fineL la).length (fineL lb).length + 1))) (rfl) ?_
 refine OPS.nil ?_
 change WP _ _ _ _ _ _
 refine W_seq ?_
 refine W_region rfl ?_
 obtain ⟨m, hmm⟩ : ∃ m, m = max (fineL la).length (fineL lb).length + 1 := ⟨_, rfl⟩
 refine S_assign rfl rfl rfl (v := (.int .u32 0)) (rfl) ?_
 refine OPS.nil ?_
 change WP _ _ _ _ _ _
 refine W_seq ?_
 refine W_seq ?_
 refine W_region rfl ?_
 refine S_move rfl rfl rfl (v := (.slice (some ⟨g1, 0, none⟩) (max (fineL la).length (fineL lb).length + 1) (max (fineL la).length (fineL lb).length + 1))) (rfl) ?_
 refine S_len Tryz.underlying23 rfl rfl rfl (rfl) (m := (max (fineL la).length (fineL lb).length + 1)) (⟨_, _, rfl⟩) ?_
 refine S_move rfl rfl rfl (v := (.int .i64 0)) (rfl) ?_
 refine OPS.nil ?_
 change WP _ _ _ _ _ _
 refine W_block ?_
 refine W_loop (fun k σ w => ∃ (i : Nat) (c : Int) (xs : List Int), σ 0 = (if okL la then va else .slice none 0 0) ∧ σ 1 = (if okL lb then vb else .slice none 0 0) ∧ σ 5 = .slice (some ⟨g1, 0, none⟩) m m ∧ σ 6 = .int .u32 c ∧ σ 20 = .int .i64 (m : Int) ∧ σ 21 = .int .i64 (i : Int) ∧ i + k = m ∧ xs.length = m ∧ U32 xs ∧ (0 ≤ c ∧ c ≤ 1) ∧
      val (xs.take i) + 4294967296 ^ i * c.toNat = val ((fineL la).take i) + val ((fineL lb).take i) ∧ Blk w g1 (nums .u32 xs) 106 ∧ Below w0.heap.size w0 w) (m) ⟨0, 0, List.replicate m 0, rfl, rfl, by rw [hmm]; rfl, rfl, by rw [hmm]; rfl, rfl, by omega, by simp, U32.replicate m, ⟨by decide, by decide⟩, rfl, by rw [hmm]; exact b1, E⟩ ?_
 rintro k σ w ⟨i, c, xs, s0, s1, s5, s6, s20, s21, hik, hxl, hxu, hc, hval, b1, E⟩
 have hua := hfa.u32.getD i
 have hub := hfb.u32.getD i
 refine W_seq ?_
 refine W_region rfl ?_
 refine S_bin rfl rfl rfl rfl rfl (s21) (s20) (v := .bool (decide ((i : Int) < (m : Int)))) rfl ?_
 refine OPS.nil ?_
 change WP _ _ _ _ _ _
 refine W_seq ?_
 refine W_cond rfl (rfl) (fun hq22 => ?_) (fun hq22 => ?_)
 ·skip
  have pT := hq22
  replace hq22 := of_decide_eq_true hq22
  have qT := hq22
  try rw [pT]
  refine W_skip ?_
  change WP _ _ _ _ _ _
  refine W_seq ?_
  refine W_block ?_
  refine W_seq ?_
  refine W_region rfl ?_
  refine S_move rfl rfl rfl (v := (.int .i64 (i : Int))) (s21) ?_
  refine S_assign rfl rfl rfl (v := (.int .i64 (i : Int))) (rfl) ?_
  refine OPS.nil ?_
  change WP _ _ _ _ _ _
  refine W_region rfl ?_
  refine S_move rfl rfl rfl (v := (.slice (some ⟨g1, 0, none⟩) m m)) (s5) ?_
  refine S_move rfl rfl rfl (v := (.int .i64 (i : Int))) (rfl) ?_
  refine S_move rfl rfl rfl (v := (if okL la then va else .slice none 0 0)) (s0) ?_
  refine S_move rfl rfl rfl (v := (.int .i64 (i : Int))) (rfl) ?_
  refine S_call en_nats_at rfl rfl rfl (vs := [(if okL la then va else .slice none 0 0), (.int .i64 (i : Int))]) (rfl) (natsAt_c _ _ _ _ (hfa.below E)) ?_
  rintro _ _ ⟨rfl, rfl⟩
  refine S_conv Tryz.underlying124 Tryz.underlying106 rfl rfl rfl (rfl) (b := ((fineL la).getD i 0)) (by rw [atN_nat]; exact wrap_u32 hua.1 hua.2) ?_
  refine S_move rfl rfl rfl (v := (if okL lb then vb else .slice none 0 0)) (s1) ?_
  refine S_move rfl rfl rfl (v := (.int .i64 (i : Int))) (rfl) ?_
  refine S_call en_nats_at rfl rfl rfl (vs := [(if okL lb then vb else .slice none 0 0), (.int .i64 (i : Int))]) (rfl) (natsAt_c _ _ _ _ (hfb.below E)) ?_
  rintro _ _ ⟨rfl, rfl⟩
  refine S_conv Tryz.underlying124 Tryz.underlying106 rfl rfl rfl (rfl) (b := ((fineL lb).getD i 0)) (by rw [atN_nat]; exact wrap_u32 hub.1 hub.2) ?_
  refine S_move rfl rfl rfl (v := (.int .u32 c)) (s6) ?_
  refine S_call en_math_bits_Add32 rfl rfl rfl (vs := [(.int .u32 ((fineL la).getD i 0)), (.int .u32 ((fineL lb).getD i 0)), (.int .u32 c)]) (rfl) (add32_c _ _ _ _ hua hub hc) ?_
  rintro _ _ ⟨rfl, rfl⟩
  refine S_move rfl rfl rfl (v := (.tuple #[.int .u32 (((fineL la).getD i 0 + (fineL lb).getD i 0 + c) % 4294967296), .int .u32 (((fineL la).getD i 0 + (fineL lb).getD i 0 + c) / 4294967296)])) (rfl) ?_
  refine S_extract rfl rfl rfl (rfl) rfl ?_
  refine S_extract rfl rfl rfl (rfl) rfl ?_
  refine S_idx Tryz.underlying23 ti_uint32 rfl rfl rfl rfl (rfl) (rfl) (j := i) (ad := ⟨g1, i, none⟩) (SlAt.own1 (by omega)) (by omega) ?_
  refine S_storeN ti_uint32 rfl rfl rfl rfl (g := g1) (o := i) (rfl) (a := (((fineL la).getD i 0 + (fineL lb).getD i 0 + c) % 4294967296)) (rfl) b1 (by omega) ?_
  intro w2 hU2 b1
  have E := Below.stepU E hU2 (by omega)
  have hz2 := hU2.size
  refine S_assign rfl rfl rfl (v := (.int .u32 (((fineL la).getD i 0 + (fineL lb).getD i 0 + c) / 4294967296))) (rfl) ?_
  refine OPS.nil ?_
  change WP _ _ _ _ _ _
  refine W_region rfl ?_
  refine S_add64 rfl rfl rfl rfl (s21) (rfl) (by omega) ?_
  refine S_move rfl rfl rfl (v := (.int .i64 ((i : Int) + 1))) (rfl) ?_
  refine OPS.nil ?_
  exact ⟨k - 1, by omega, i + 1, _, _, s0, s1, s5, rfl, s20, int_eq (by omega), by omega, by simpa using hxl, hxu.set _ (by omega) (by omega), ⟨by omega, by omega⟩, add_round (by omega) hua.1 hub.1 hc.1 rfl rfl hval, b1, E⟩
 ·skip
  have pF := hq22
  replace hq22 := of_decide_eq_false hq22
  have qF := hq22
  try rw [pF]
  refine W_exit ?_
  change WP _ _ _ _ _ _
  refine W_seq ?_
  refine W_region rfl ?_
  refine S_move rfl rfl rfl (v := (.slice (some ⟨g1, 0, none⟩) m m)) (s5) ?_
  refine S_call en_nats_cut rfl rfl rfl (vs := [(.slice (some ⟨g1, 0, none⟩) m m)]) (rfl) (natsCut_c _ _ xs (RN.ofNums (a := 0) (b := 0) b1 hxu hxl (by omega))) ?_
  rintro r _ ⟨⟨A, c', k', hv, hr, hk', ht⟩, rfl⟩
  refine S_assign rfl rfl rfl (v := r) (rfl) ?_
  refine OPS.nil ?_
  change WP _ _ _ _ _ _
  refine W_ret ?_
  change Fin' _ _ _ _ _ _
  refine End1 (n := ⟨43, []⟩) (t := 4) rfl (by decide) (v := r) (rfl) ?_
  have hi : i = m := by omega
  subst hi
  have he := add_end hxl hmm hfa.u32 hfb.u32 hc.1 hval
  have := cut_on b1 hxu (B := w0.heap.size) (by omega) hxl (by omega) hv hr hk' ht
  rw [he] at this
  exact ⟨E, this⟩

end Go.Proofs.YtccmicegihlfbaaGreatDoor

/- Numbers from 0 on: differences. -/
namespace Go.Proofs.YtccmicegihlfbaaGreatDoor
open Go.RowKit


theorem val_set (xs : List Int) (j : Nat) (v : Int) (hj : j < xs.length) : val (xs.set j v) + 4294967296 ^ j * (xs.getD j 0).toNat = val xs + 4294967296 ^ j * v.toNat := by
  induction xs generalizing j with
  | nil => simp at hj
  | cons x xs ih =>
    cases j with
    | zero => simp [val]; omega
    | succ j =>
      have := ih j (by simpa using hj)
      simp only [List.set_cons_succ, val_cons, List.getD_cons_succ, Nat.pow_succ]
      have e : ∀ z : Nat, 4294967296 ^ j * 4294967296 * z = 4294967296 * (4294967296 ^ j * z) := fun z => by rw [Nat.mul_comm (4294967296 ^ j), Nat.mul_assoc]
      rw [e, e]
      omega
theorem getD_set_ne' (xs : List Int) (i j : Nat) (v : Int) (h : i ≠ j) : (xs.set i v).getD j 0 = xs.getD j 0 := by
  simp [List.getD_eq_getElem?_getD, List.getElem?_set_ne h]
theorem getD_set_eq' (xs : List Int) (i : Nat) (v : Int) (h : i < xs.length) : (xs.set i v).getD i 0 = v := by
  simp [List.getD_eq_getElem?_getD, h]
theorem sub_round {la lb xs : List Int} {i : Nat} {c x y : Int} (hi : i < xs.length) (hx : 0 ≤ x ∧ x < 4294967296) (hy : 0 ≤ y ∧ y < 4294967296) (hc : 0 ≤ c ∧ c ≤ 1) (ex : la.getD i 0 = x) (ey : lb.getD i 0 = y)
    (h : val (xs.take i) + val (lb.take i) = val (la.take i) + 4294967296 ^ i * c.toNat) :
    val ((xs.set i ((x - y - c) % 4294967296)).take (i + 1)) + val (lb.take (i + 1)) = val (la.take (i + 1)) + 4294967296 ^ (i + 1) * (if x < y + c then 1 else 0 : Int).toNat := by
  rw [val_set_take xs i _ hi, val_step la, val_step lb, ex, ey, Nat.pow_succ]
  have e : ((x - y - c) % 4294967296).toNat + y.toNat + c.toNat = x.toNat + 4294967296 * (if x < y + c then 1 else 0 : Int).toNat := by
    split <;> simp <;> omega
  generalize ((x - y - c) % 4294967296).toNat = p at e
  generalize (if x < y + c then 1 else 0 : Int).toNat = q at e
  generalize 4294967296 ^ i = B at *
  have : B * p + B * y.toNat + B * c.toNat = B * x.toNat + B * 4294967296 * q := by
    rw [Nat.mul_assoc, ← Nat.mul_add, ← Nat.mul_add, e, Nat.mul_add]
  omega
theorem sub_end {la lb xs : List Int} {m : Nat} {c : Int} (hl : xs.length = m) (hm : m = la.length) (hb : lb.length ≤ la.length) (hxu : U32 xs) (hle : val lb ≤ val la) (hc : 0 ≤ c)
    (h : val (xs.take m) + val (lb.take m) = val (la.take m) + 4294967296 ^ m * c.toNat) : val xs = val la - val lb := by
  have hx := val_lt hxu
  rw [hl] at hx
  rw [List.take_of_length_le (by omega), List.take_of_length_le (l := la) (by omega), List.take_of_length_le (l := lb) (by omega)] at h
  rcases Nat.eq_zero_or_pos c.toNat with h0 | h0
  · rw [h0] at h; omega
  · have := Nat.mul_le_mul_left (4294967296 ^ m) h0
    omega

set_option maxHeartbeats 400000 in
theorem natsMinus_c (w0 : World) (va vb : Value) (la lb : List Int) {a b a2 b2 : Nat} (ha : RN a b w0 va la) (hb : RN a2 b2 w0 vb lb) (hsa : la.length ≤ SZ) (hlb : lb.length ≤ la.length) (hle : val lb ≤ val la) :
    Ret Tryz.prog 161 [va, vb] w0 (fun r w1 => Below w0.heap.size w0 w1 ∧ ON w0.heap.size w1 r (dg (val la - val lb))) := by
 have E := Below.refl w0.heap.size w0
 unfold SZ at hsa
 refine Ret_of (n := 35) Tryz.func161 rfl rfl (Nat.le_of_ble_eq_true rfl) ?_
 refine W_seq ?_
 refine W_region rfl ?_
 refine S_assign rfl rfl rfl (v := (.slice none 0 0)) (rfl) ?_
 refine OPS.nil ?_
 change WP _ _ _ _ _ _
 refine W_seq ?_
 refine W_region rfl ?_
 refine S_move rfl rfl rfl (v := va) (rfl) ?_
 refine S_len Tryz.underlying23 rfl rfl rfl (rfl) (m := la.length) (ha.len) ?_
 refine S_make Tryz.underlying23 ti_uint32 rfl rfl rfl rfl (rfl) (m := la.length) (by omega) (by omega) (by omega) ?_
 intro g1 w1 hg1 hs1 hB1 b1
 rw [nums_rep] at b1
 have hz1 := hB1.size
 have E := Below.step E hB1
 refine S_assign rfl rfl rfl (v := (.slice (some ⟨g1, 0, none⟩) (la.length) (la.length))) (rfl) ?_
 refine OPS.nil ?_
 change WP _ _ _ _ _ _
 refine W_seq ?_
 refine W_region rfl ?_
 obtain ⟨m, hmm⟩ : ∃ m, m = la.length := ⟨_, rfl⟩
 refine S_assign rfl rfl rfl (v := (.int .u32 0)) (rfl) ?_
 refine OPS.nil ?_
 change WP _ _ _ _ _ _
 refine W_seq ?_
 refine W_seq ?_
 refine W_region rfl ?_
 refine S_move rfl rfl rfl (v := (.slice (some ⟨g1, 0, none⟩) (la.length) (la.length))) (rfl) ?_
 refine S_len Tryz.underlying23 rfl rfl rfl (rfl) (m := (la.length)) (⟨_, _, rfl⟩) ?_
 refine S_move rfl rfl rfl (v := (.int .i64 0)) (rfl) ?_
 refine OPS.nil ?_
 change WP _ _ _ _ _ _
 refine W_block ?_
 refine W_loop (fun k σ w => ∃ (i : Nat) (c : Int) (xs : List Int), σ 0 = va ∧ σ 1 = vb ∧ σ 5 = .slice (some ⟨g1, 0, none⟩) m m ∧ σ 6 = .int .u32 c ∧ σ 12 = .int .i64 (m : Int) ∧ σ 13 = .int .i64 (i : Int) ∧ i + k = m ∧ xs.length = m ∧ U32 xs ∧ (0 ≤ c ∧ c ≤ 1) ∧
      val (xs.take i) + val (lb.take i) = val (la.take i) + 4294967296 ^ i * c.toNat ∧ Blk w g1 (nums .u32 xs) 106 ∧ Below w0.heap.size w0 w) (m) ⟨0, 0, List.replicate m 0, rfl, rfl, by rw [hmm]; rfl, rfl, by rw [hmm]; rfl, rfl, by omega, by simp, U32.replicate m, ⟨by decide, by decide⟩, rfl, by rw [hmm]; exact b1, E⟩ ?_
 rintro k σ w ⟨i, c, xs, s0, s1, s5, s6, s12, s13, hik, hxl, hxu, hc, hval, b1, E⟩
 have hua := ha.u32.getD i
 have hub := hb.u32.getD i
 refine W_seq ?_
 refine W_region rfl ?_
 refine S_bin rfl rfl rfl rfl rfl (s13) (s12) (v := .bool (decide ((i : Int) < (m : Int)))) rfl ?_
 refine OPS.nil ?_
 change WP _ _ _ _ _ _
 refine W_seq ?_
 refine W_cond rfl (rfl) (fun hq14 => ?_) (fun hq14 => ?_)
 ·skip
  have pT := hq14
  replace hq14 := of_decide_eq_true hq14
  have qT := hq14
  try rw [pT]
  refine W_skip ?_
  change WP _ _ _ _ _ _
  refine W_seq ?_
  refine W_block ?_
  refine W_seq ?_
  refine W_region rfl ?_
  refine S_move rfl rfl rfl (v := (.int .i64 (i : Int))) (s13) ?_
  refine S_assign rfl rfl rfl (v := (.int .i64 (i : Int))) (rfl) ?_
  refine OPS.nil ?_
  change WP _ _ _ _ _ _
  refine D_begin mixed_ rfl rfl (fun w_ => Below w0.heap.size w0 w_) ?_
  intro w2 hB2 hz_2
  have hz2 := hB2.size
  have E := Below.step E hB2
  have hl_b1 := b1.lt
  have b1 := b1.below hB2
  have hS_ : Below w0.heap.size w0 w2 := E
  have E_S := E
  have b1_S := b1
  refine D_move (i := 0) (listed2 := (bm 18 1)) (by kernel_rfl) rfl rfl rfl (v := (.slice (some ⟨g1, 0, none⟩) m m)) (s5) hS_ ?_
  refine D_move (i := 1) (listed2 := (bm 18 3)) (by kernel_rfl) rfl rfl rfl (v := (.int .i64 (i : Int))) (rfl) hS_ ?_
  refine D_move (i := 2) (listed2 := (bm 18 7)) (by kernel_rfl) rfl rfl rfl (v := va) (s0) hS_ ?_
  refine D_move (i := 3) (listed2 := (bm 18 15)) (by kernel_rfl) rfl rfl rfl (v := (.int .i64 (i : Int))) (rfl) hS_ ?_
  obtain ⟨ad1, hp3, hc2⟩ := ha.at i (by omega)
  refine D_idx Tryz.underlying23 ti_uint32 (i := 4) (listed2 := (bm 18 31)) (by kernel_rfl) rfl rfl rfl rfl (rfl) (rfl) hp3 (by omega) hS_ ?_
  refine D_load (i := 5) (listed2 := (bm 18 63)) (by kernel_rfl) rfl rfl rfl (rfl) (fun _ hS2 => LD.one ti_uint32 (cell_below hS2 hc2)) hS_ ?_
  refine D_move (i := 6) (listed2 := (bm 18 127)) (by kernel_rfl) rfl rfl rfl (v := vb) (s1) hS_ ?_
  refine D_move (i := 7) (listed2 := (bm 18 255)) (by kernel_rfl) rfl rfl rfl (v := (.int .i64 (i : Int))) (rfl) hS_ ?_
  refine D_move (i := 10) (listed2 := (bm 18 1279)) (by kernel_rfl) rfl rfl rfl (v := (.int .u32 c)) (s6) hS_ ?_
  refine D_only (i := 8) (by kernel_rfl) (listed2 := (bm 18 1535)) (by kernel_rfl) ?_
  refine S_call en_nats_at rfl rfl rfl (vs := [vb, (.int .i64 (i : Int))]) (rfl) (natsAt_c _ _ _ _ (hb.below E)) ?_
  rintro _ _ ⟨rfl, rfl⟩
  refine OPS.nil ⟨hS_, ?_⟩
  refine D_conv Tryz.underlying124 Tryz.underlying106 (i := 9) (listed2 := (bm 18 2047)) (by kernel_rfl) rfl rfl rfl (rfl) (b := (lb.getD i 0)) (by rw [atN_nat]; exact wrap_u32 hub.1 hub.2) hS_ ?_
  refine D_only (i := 11) (by kernel_rfl) (listed2 := (bm 18 4095)) (by kernel_rfl) ?_
  refine S_call en_math_bits_Sub32 rfl rfl rfl (vs := [(.int .u32 (la.getD i 0)), (.int .u32 (lb.getD i 0)), (.int .u32 c)]) (rfl) (sub32_c _ _ _ _ hua hub hc) ?_
  rintro _ _ ⟨rfl, rfl⟩
  refine OPS.nil ⟨hS_, ?_⟩
  refine D_move (i := 12) (listed2 := (bm 18 8191)) (by kernel_rfl) rfl rfl rfl (v := (.tuple #[.int .u32 (((la.getD i 0) - (lb.getD i 0) - c) % 4294967296), .int .u32 (if la.getD i 0 < lb.getD i 0 + c then 1 else 0)])) (rfl) hS_ ?_
  refine D_extract (i := 13) (listed2 := (bm 18 16383)) (by kernel_rfl) rfl rfl rfl (rfl) rfl hS_ ?_
  refine D_extract (i := 14) (listed2 := (bm 18 32767)) (by kernel_rfl) rfl rfl rfl (rfl) rfl hS_ ?_
  refine D_idx Tryz.underlying23 ti_uint32 (i := 15) (listed2 := (bm 18 65535)) (by kernel_rfl) rfl rfl rfl rfl (rfl) (rfl) (j := i) (ad := ⟨g1, i, none⟩) (SlAt.own1 (by omega)) (by omega) hS_ ?_
  refine D_only (i := 16) (by kernel_rfl) (listed2 := (bm 18 131071)) (by kernel_rfl) ?_
  refine S_storeN ti_uint32 rfl rfl rfl rfl (g := g1) (o := i) (rfl) (a := (((la.getD i 0) - (lb.getD i 0) - c) % 4294967296)) (rfl) b1 (by omega) ?_
  intro w3 hU3 b1
  have E := Below.stepU E hU3 (by omega)
  have hS_ := Below.stepU hS_ hU3 (by omega)
  have hz3 := hU3.size
  refine OPS.nil ⟨hS_, ?_⟩
  refine D_assign (i := 17) (listed2 := (bm 18 262143)) (by kernel_rfl) rfl rfl rfl (v := (.int .u32 (if la.getD i 0 < lb.getD i 0 + c then 1 else 0))) (rfl) hS_ ?_
  refine D_done (by kernel_rfl) ?_
  change WP _ _ _ _ _ _
  refine W_region rfl ?_
  refine S_add64 rfl rfl rfl rfl (s13) (rfl) (by omega) ?_
  refine S_move rfl rfl rfl (v := (.int .i64 ((i : Int) + 1))) (rfl) ?_
  refine OPS.nil ?_
  exact ⟨k - 1, by omega, i + 1, _, _, s0, s1, s5, rfl, s12, int_eq (by omega), by omega, by simpa using hxl, hxu.set _ (by omega) (by omega), ⟨by split <;> decide, by split <;> decide⟩, sub_round (by omega) hua hub hc rfl rfl hval, b1, E⟩
 ·skip
  have pF := hq14
  replace hq14 := of_decide_eq_false hq14
  have qF := hq14
  try rw [pF]
  refine W_exit ?_
  change WP _ _ _ _ _ _
  refine W_seq ?_
  refine W_region rfl ?_
  refine S_move rfl rfl rfl (v := (.slice (some ⟨g1, 0, none⟩) m m)) (s5) ?_
  refine S_call en_nats_cut rfl rfl rfl (vs := [(.slice (some ⟨g1, 0, none⟩) m m)]) (rfl) (natsCut_c _ _ xs (RN.ofNums (a := 0) (b := 0) b1 hxu hxl (by omega))) ?_
  rintro r _ ⟨⟨A, c', k', hv, hr, hk', ht⟩, rfl⟩
  refine S_assign rfl rfl rfl (v := r) (rfl) ?_
  refine OPS.nil ?_
  change WP _ _ _ _ _ _
  refine W_ret ?_
  change Fin' _ _ _ _ _ _
  refine End1 (n := ⟨35, []⟩) (t := 4) rfl (by decide) (v := r) (rfl) ?_
  have hi : i = m := by omega
  subst hi
  have he := sub_end hxl hmm hlb hxu hle hc.1 hval
  have := cut_on b1 hxu (B := w0.heap.size) (by omega) hxl (by omega) hv hr hk' ht
  rw [he] at this
  exact ⟨E, this⟩

end Go.Proofs.YtccmicegihlfbaaGreatDoor

/- Numbers from 0 on: products. -/
namespace Go.Proofs.YtccmicegihlfbaaGreatDoor
open Go.RowKit


theorem rep_getD (m j : Nat) : (List.replicate m (0 : Int)).getD j 0 = 0 := by
  rw [List.getD_eq_getElem?_getD]
  by_cases h : j < m
  · simp [h]
  · rw [List.getElem?_eq_none (by simpa using h)]; rfl
/-- One part more of a row of the product. -/
theorem mul_step {xs0 xs lb : List Int} {i k : Nat} {x y h old v0 : Int} (hj : i + k < xs.length) (hx : 0 ≤ x ∧ x < 4294967296) (hy : 0 ≤ y ∧ y < 4294967296) (ho : 0 ≤ old ∧ old < 4294967296) (hh : 0 ≤ h ∧ h < 4294967296)
    (ey : lb.getD k 0 = y) (eo : xs.getD (i + k) 0 = old) (hv : v0 = h + (x * y + old))
    (hval : val xs + 4294967296 ^ (i + k) * h.toNat = val xs0 + 4294967296 ^ i * (x.toNat * val (lb.take k))) :
    val (xs.set (i + k) (v0 % 4294967296)) + 4294967296 ^ (i + (k + 1)) * (v0 / 4294967296).toNat = val xs0 + 4294967296 ^ i * (x.toNat * val (lb.take (k + 1))) := by
  have h1 := val_set xs (i + k) (v0 % 4294967296) hj
  rw [eo] at h1
  have hxy : 0 ≤ x * y := Int.mul_nonneg hx.1 hy.1
  have e : (v0 % 4294967296).toNat + 4294967296 * (v0 / 4294967296).toNat = h.toNat + x.toNat * y.toNat + old.toNat := by
    rw [← Int.toNat_mul hx.1 hy.1]
    omega
  rw [val_step lb, ey, Nat.mul_add, Nat.mul_add, show i + (k + 1) = (i + k) + 1 from rfl, Nat.pow_succ]
  have e2 : 4294967296 ^ i * (x.toNat * (4294967296 ^ k * y.toNat)) = 4294967296 ^ (i + k) * (x.toNat * y.toNat) := by
    rw [Nat.pow_add]
    simp only [Nat.mul_assoc, Nat.mul_left_comm, Nat.mul_comm]
  rw [e2]
  generalize 4294967296 ^ i * (x.toNat * val (lb.take k)) = T at *
  generalize 4294967296 ^ (i + k) = B at *
  generalize (v0 % 4294967296).toNat = p at *
  generalize (v0 / 4294967296).toNat = q at *
  have : B * p + B * 4294967296 * q = B * h.toNat + B * (x.toNat * y.toNat) + B * old.toNat := by
    rw [Nat.mul_assoc, ← Nat.mul_add, e, Nat.mul_add, Nat.mul_add]
  omega
theorem mul_row {xs0 xs la lb : List Int} {i : Nat} {x h : Int} (hj : i + lb.length < xs.length) (ex : la.getD i 0 = x) (hz : xs.getD (i + lb.length) 0 = 0)
    (h0 : val xs0 = val (la.take i) * val lb)
    (hval : val xs + 4294967296 ^ (i + lb.length) * h.toNat = val xs0 + 4294967296 ^ i * (x.toNat * val (lb.take lb.length))) :
    val (xs.set (i + lb.length) h) = val (la.take (i + 1)) * val lb := by
  have h1 := val_set xs (i + lb.length) h hj
  rw [hz] at h1
  rw [val_step la, ex, Nat.add_mul, ← h0]
  rw [List.take_length] at hval
  rw [Nat.mul_assoc]
  simp only [Int.toNat_zero, Nat.mul_zero, Nat.add_zero] at h1
  omega
theorem mul_lt {x y : Int} (hx : 0 ≤ x ∧ x < 4294967296) (hy : 0 ≤ y ∧ y < 4294967296) : 0 ≤ x * y ∧ x * y ≤ 18446744065119617025 := by
  refine ⟨Int.mul_nonneg hx.1 hy.1, ?_⟩
  have := Int.mul_le_mul (a := x) (b := y) (c := 4294967295) (d := 4294967295) (by omega) (by omega) hy.1 (by decide)
  omega

set_option maxHeartbeats 400000 in
theorem natsMul_c (w0 : World) (va vb : Value) (la lb : List Int) {a b a2 b2 : Nat} (ha : RN a b w0 va la) (hb : RN a2 b2 w0 vb lb) (hsa : la.length ≤ SZ) (hsb : lb.length ≤ SZ) :
    Ret Tryz.prog 90 [va, vb] w0 (fun r w1 => Below w0.heap.size w0 w1 ∧ ON w0.heap.size w1 r (dg (nv la * nv lb))) := by
 have E := Below.refl w0.heap.size w0
 have hfa := ha.fine
 have hfb := hb.fine
 have h1 := fineL_length la
 have h2 := fineL_length lb
 unfold SZ at hsa hsb
 refine Ret_of (n := 71) Tryz.func90 rfl rfl (Nat.le_of_ble_eq_true rfl) ?_
 refine W_seq ?_
 refine W_region rfl ?_
 refine S_assign rfl rfl rfl (v := (.slice none 0 0)) (rfl) ?_
 refine OPS.nil ?_
 change WP _ _ _ _ _ _
 refine W_seq ?_
 refine W_region rfl ?_
 refine S_move rfl rfl rfl (v := va) (rfl) ?_
 refine S_call en_nats_fine rfl rfl rfl (vs := [va]) (rfl) (natsFine_c w0 va la ha) ?_
 rintro _ _ ⟨rfl, rfl⟩
 refine S_move rfl rfl rfl (v := vb) (rfl) ?_
 refine S_call en_nats_fine rfl rfl rfl (vs := [vb]) (rfl) (natsFine_c w0 vb lb hb) ?_
 rintro _ _ ⟨rfl, rfl⟩
 refine S_assign rfl rfl rfl (v := (if okL la then va else .slice none 0 0)) (rfl) ?_
 refine S_assign rfl rfl rfl (v := (if okL lb then vb else .slice none 0 0)) (rfl) ?_
 refine OPS.nil ?_
 change WP _ _ _ _ _ _
 refine W_seq ?_
 refine W_region rfl ?_
 refine S_move rfl rfl rfl (v := (if okL la then va else .slice none 0 0)) (rfl) ?_
 refine S_len Tryz.underlying23 rfl rfl rfl (rfl) (m := (fineL la).length) (hfa.len) ?_
 refine S_move rfl rfl rfl (v := (if okL lb then vb else .slice none 0 0)) (rfl) ?_
 refine S_len Tryz.underlying23 rfl rfl rfl (rfl) (m := (fineL lb).length) (hfb.len) ?_
 refine S_add64 rfl rfl rfl rfl (rfl) (rfl) (by omega) ?_
 refine S_make Tryz.underlying23 ti_uint32 rfl rfl rfl rfl (rfl) (m := (fineL la).length + (fineL lb).length) (by omega) (by omega) (by omega) ?_
 intro g1 w1 hg1 hs1 hB1 b1
 rw [nums_rep] at b1
 have hz1 := hB1.size
 have E := Below.step E hB1
 refine S_assign rfl rfl rfl (v := (.slice (some ⟨g1, 0, none⟩) ((fineL la).length + (fineL lb).length) ((fineL la).length + (fineL lb).length))) (rfl) ?_
 refine OPS.nil ?_
 change WP _ _ _ _ _ _
 refine W_seq ?_
 refine W_seq ?_
 refine W_region rfl ?_
 obtain ⟨m, hmm⟩ : ∃ m, m = (fineL la).length + (fineL lb).length := ⟨_, rfl⟩
 refine S_move rfl rfl rfl (v := (if okL la then va else .slice none 0 0)) (rfl) ?_
 refine S_len Tryz.underlying23 rfl rfl rfl (rfl) (m := (fineL la).length) (hfa.len) ?_
 refine S_move rfl rfl rfl (v := (.int .i64 0)) (rfl) ?_
 refine OPS.nil ?_
 change WP _ _ _ _ _ _
 refine W_block ?_
 refine W_loop (fun q σ w => ∃ (i : Nat) (xs : List Int), σ 0 = (if okL la then va else .slice none 0 0) ∧ σ 1 = (if okL lb then vb else .slice none 0 0) ∧ σ 5 = .slice (some ⟨g1, 0, none⟩) m m ∧ σ 21 = (if okL la then va else .slice none 0 0) ∧ σ 22 = .int .i64 ((fineL la).length : Int) ∧ σ 23 = .int .i64 (i : Int) ∧ i + q = (fineL la).length ∧ val xs = val ((fineL la).take i) * val (fineL lb) ∧ (∀ j, i + (fineL lb).length ≤ j → xs.getD j 0 = 0) ∧ xs.length = m ∧ U32 xs ∧ Blk w g1 (nums .u32 xs) 106 ∧ Below w0.heap.size w0 w) ((fineL la).length) ⟨0, List.replicate m 0, rfl, rfl, by rw [hmm]; rfl, rfl, rfl, rfl, by omega, by rw [val_zeros]; simp [val], fun j _ => rep_getD m j, by simp, U32.replicate m, by rw [hmm]; exact b1, E⟩ ?_
 rintro q σ w ⟨i, xs, s0, s1, s5, s21, s22, s23, hiq, hval, hz, hxl, hxu, b1, E⟩
 have hua := hfa.u32.getD i
 refine W_seq ?_
 refine W_region rfl ?_
 refine S_bin rfl rfl rfl rfl rfl (s23) (s22) (v := .bool (decide ((i : Int) < ((fineL la).length : Int)))) rfl ?_
 refine OPS.nil ?_
 change WP _ _ _ _ _ _
 refine W_seq ?_
 refine W_cond rfl (rfl) (fun hq24 => ?_) (fun hq24 => ?_)
 ·skip
  have pT := hq24
  replace hq24 := of_decide_eq_true hq24
  have qT := hq24
  try rw [pT]
  refine W_skip ?_
  change WP _ _ _ _ _ _
  refine W_seq ?_
  refine W_block ?_
  refine W_seq ?_
  refine W_region rfl ?_
  refine S_move rfl rfl rfl (v := (.int .i64 (i : Int))) (s23) ?_
  obtain ⟨ad1, hp3, hc2⟩ := (hfa.below E).at i (by omega)
  refine S_idx Tryz.underlying23 ti_uint32 rfl rfl rfl rfl (s21) (s23) hp3 (by omega) ?_
  refine S_load rfl rfl rfl (rfl) (LD.one ti_uint32 hc2) ?_
  refine S_assign rfl rfl rfl (v := (.int .i64 (i : Int))) (rfl) ?_
  refine S_assign rfl rfl rfl (v := (.int .u32 ((fineL la).getD i 0))) (rfl) ?_
  refine OPS.nil ?_
  change WP _ _ _ _ _ _
  refine W_seq ?_
  refine W_region rfl ?_
  refine S_assign rfl rfl rfl (v := (.int .u64 0)) (rfl) ?_
  refine OPS.nil ?_
  change WP _ _ _ _ _ _
  refine W_seq ?_
  refine W_seq ?_
  refine W_region rfl ?_
  refine S_move rfl rfl rfl (v := (if okL lb then vb else .slice none 0 0)) (s1) ?_
  refine S_len Tryz.underlying23 rfl rfl rfl (rfl) (m := (fineL lb).length) (hfb.len) ?_
  refine S_move rfl rfl rfl (v := (.int .i64 0)) (rfl) ?_
  refine OPS.nil ?_
  change WP _ _ _ _ _ _
  refine W_block ?_
  refine W_loop (fun p σ w => ∃ (k : Nat) (h : Int) (ys : List Int), σ 0 = (if okL la then va else .slice none 0 0) ∧ σ 1 = (if okL lb then vb else .slice none 0 0) ∧ σ 5 = .slice (some ⟨g1, 0, none⟩) m m ∧ σ 6 = .int .i64 (i : Int) ∧ σ 7 = .int .u32 ((fineL la).getD i 0) ∧ σ 8 = .int .u64 h ∧ σ 21 = (if okL la then va else .slice none 0 0) ∧ σ 22 = .int .i64 ((fineL la).length : Int) ∧ σ 23 = .int .i64 (i : Int) ∧ σ 28 = (if okL lb then vb else .slice none 0 0) ∧ σ 29 = .int .i64 ((fineL lb).length : Int) ∧ σ 30 = .int .i64 (k : Int) ∧ k + p = (fineL lb).length ∧ (0 ≤ h ∧ h < 4294967296) ∧
      val ys + 4294967296 ^ (i + k) * h.toNat = val xs + 4294967296 ^ i * (((fineL la).getD i 0).toNat * val ((fineL lb).take k)) ∧ (∀ j, i + k ≤ j → ys.getD j 0 = xs.getD j 0) ∧ ys.length = m ∧ U32 ys ∧ Blk w g1 (nums .u32 ys) 106 ∧ Below w0.heap.size w0 w) ((fineL lb).length) ⟨0, 0, xs, s0, s1, s5, rfl, rfl, rfl, s21, s22, s23, rfl, rfl, rfl, by omega, ⟨by decide, by decide⟩, by simp [val], fun _ _ => rfl, hxl, hxu, b1, E⟩ ?_
  rintro p σ w ⟨k, h, ys, s0, s1, s5, s6, s7, s8, s21, s22, s23, s28, s29, s30, hkp, hh, hval2, hold, hyl, hyu, b1, E⟩
  have hub := hfb.u32.getD k
  have huo := hyu.getD (i + k)
  have hml := mul_lt hua hub
  refine W_seq ?_
  refine W_region rfl ?_
  refine S_bin rfl rfl rfl rfl rfl (s30) (s29) (v := .bool (decide ((k : Int) < ((fineL lb).length : Int)))) rfl ?_
  refine OPS.nil ?_
  change WP _ _ _ _ _ _
  refine W_seq ?_
  refine W_cond rfl (rfl) (fun hq31 => ?_) (fun hq31 => ?_)
  ·skip
   have pT := hq31
   replace hq31 := of_decide_eq_true hq31
   have qT := hq31
   try rw [pT]
   refine W_skip ?_
   change WP _ _ _ _ _ _
   refine W_seq ?_
   refine W_block ?_
   refine W_seq ?_
   refine W_region rfl ?_
   refine S_move rfl rfl rfl (v := (.int .i64 (k : Int))) (s30) ?_
   obtain ⟨ad4, hp6, hc5⟩ := (hfb.below E).at k (by omega)
   refine S_idx Tryz.underlying23 ti_uint32 rfl rfl rfl rfl (s28) (s30) hp6 (by omega) ?_
   refine S_load rfl rfl rfl (rfl) (LD.one ti_uint32 hc5) ?_
   refine S_assign rfl rfl rfl (v := (.int .i64 (k : Int))) (rfl) ?_
   refine S_assign rfl rfl rfl (v := (.int .u32 ((fineL lb).getD k 0))) (rfl) ?_
   refine OPS.nil ?_
   change WP _ _ _ _ _ _
   refine W_seq ?_
   refine W_region rfl ?_
   refine S_move rfl rfl rfl (v := (.int .u64 h)) (s8) ?_
   refine S_move rfl rfl rfl (v := (.int .u32 ((fineL la).getD i 0))) (s7) ?_
   refine S_conv Tryz.underlying106 Tryz.underlying124 rfl rfl rfl (rfl) (b := ((fineL la).getD i 0)) (wrap_u64 hua.1 (by omega)) ?_
   refine S_move rfl rfl rfl (v := (.int .u32 ((fineL lb).getD k 0))) (rfl) ?_
   refine S_conv Tryz.underlying106 Tryz.underlying124 rfl rfl rfl (rfl) (b := ((fineL lb).getD k 0)) (wrap_u64 hub.1 (by omega)) ?_
   refine S_bin rfl rfl rfl rfl rfl (rfl) (rfl) (v := .int .u64 (((fineL la).getD i 0) * ((fineL lb).getD k 0))) (congrArg _ (wrap_u64 (by omega) (by omega))) ?_
   refine S_move rfl rfl rfl (v := (.slice (some ⟨g1, 0, none⟩) m m)) (s5) ?_
   refine S_move rfl rfl rfl (v := (.int .i64 (i : Int))) (s6) ?_
   refine S_move rfl rfl rfl (v := (.int .i64 (k : Int))) (rfl) ?_
   refine S_add64 rfl rfl rfl rfl (rfl) (rfl) (by omega) ?_
   refine S_idx Tryz.underlying23 ti_uint32 rfl rfl rfl rfl (rfl) (rfl) (j := (i + k)) (ad := ⟨g1, (i + k), none⟩) (SlAt.own1 (by omega)) (by omega) ?_
   refine S_load rfl rfl rfl (rfl) (LD.one ti_uint32 (b1.num (by omega))) ?_
   refine S_conv Tryz.underlying106 Tryz.underlying124 rfl rfl rfl (rfl) (b := (ys.getD (i + k) 0)) (wrap_u64 huo.1 (by omega)) ?_
   refine S_bin rfl rfl rfl rfl rfl (rfl) (rfl) (v := .int .u64 ((((fineL la).getD i 0) * ((fineL lb).getD k 0)) + (ys.getD (i + k) 0))) (congrArg _ (wrap_u64 (by omega) (by omega))) ?_
   refine S_bin rfl rfl rfl rfl rfl (rfl) (rfl) (v := .int .u64 (h + (((fineL la).getD i 0) * ((fineL lb).getD k 0) + (ys.getD (i + k) 0)))) (congrArg _ (wrap_u64 (by omega) (by omega))) ?_
   refine S_assign rfl rfl rfl (v := (.int .u64 (h + (((fineL la).getD i 0) * ((fineL lb).getD k 0) + (ys.getD (i + k) 0))))) (rfl) ?_
   refine OPS.nil ?_
   change WP _ _ _ _ _ _
   refine W_seq ?_
   refine W_region rfl ?_
   refine S_move rfl rfl rfl (v := (.slice (some ⟨g1, 0, none⟩) m m)) (s5) ?_
   refine S_move rfl rfl rfl (v := (.int .i64 (i : Int))) (s6) ?_
   refine S_move rfl rfl rfl (v := (.int .i64 (k : Int))) (rfl) ?_
   refine S_add64 rfl rfl rfl rfl (rfl) (rfl) (by omega) ?_
   refine S_move rfl rfl rfl (v := (.int .u64 (h + (((fineL la).getD i 0) * ((fineL lb).getD k 0) + (ys.getD (i + k) 0))))) (rfl) ?_
   refine S_conv Tryz.underlying124 Tryz.underlying106 rfl rfl rfl (rfl) (b := ((h + (((fineL la).getD i 0) * ((fineL lb).getD k 0) + (ys.getD (i + k) 0))) % 4294967296)) (wrap_u32' _) ?_
   refine S_idx Tryz.underlying23 ti_uint32 rfl rfl rfl rfl (rfl) (rfl) (j := (i + k)) (ad := ⟨g1, (i + k), none⟩) (SlAt.own1 (by omega)) (by omega) ?_
   refine S_storeN ti_uint32 rfl rfl rfl rfl (g := g1) (o := (i + k)) (rfl) (a := ((h + (((fineL la).getD i 0) * ((fineL lb).getD k 0) + (ys.getD (i + k) 0))) % 4294967296)) (rfl) b1 (by omega) ?_
   intro w2 hU2 b1
   have E := Below.stepU E hU2 (by omega)
   have hz2 := hU2.size
   refine OPS.nil ?_
   change WP _ _ _ _ _ _
   refine W_region rfl ?_
   refine S_move rfl rfl rfl (v := (.int .u64 (h + (((fineL la).getD i 0) * ((fineL lb).getD k 0) + (ys.getD (i + k) 0))))) (rfl) ?_
   refine S_shr rfl rfl rfl rfl (rfl) (rfl) (by omega) (v := ((h + (((fineL la).getD i 0) * ((fineL lb).getD k 0) + (ys.getD (i + k) 0))) / 4294967296)) (shr32 _) ?_
   refine S_assign rfl rfl rfl (v := (.int .u64 ((h + (((fineL la).getD i 0) * ((fineL lb).getD k 0) + (ys.getD (i + k) 0))) / 4294967296))) (rfl) ?_
   refine OPS.nil ?_
   change WP _ _ _ _ _ _
   refine W_region rfl ?_
   refine S_add64 rfl rfl rfl rfl (s30) (rfl) (by omega) ?_
   refine S_move rfl rfl rfl (v := (.int .i64 ((k : Int) + 1))) (rfl) ?_
   refine OPS.nil ?_
   exact ⟨p - 1, by omega, k + 1, _, _, s0, s1, s5, s6, s7, rfl, s21, s22, s23, s28, s29, int_eq (by omega), by omega, ⟨by omega, by omega⟩, mul_step (by omega) hua hub huo hh rfl rfl rfl hval2, fun j hj => by rw [getD_set_ne' _ _ _ _ (by omega)]; exact hold j (by omega), by simpa using hyl, hyu.set _ (by omega) (by omega), b1, E⟩
  ·skip
   have pF := hq31
   replace hq31 := of_decide_eq_false hq31
   have qF := hq31
   try rw [pF]
   refine W_exit ?_
   change WP _ _ _ _ _ _
   refine W_region rfl ?_
   have hkl : k = (fineL lb).length := by omega
   subst hkl
   have hz2 : ys.getD (i + (fineL lb).length) 0 = 0 := by rw [hold _ (by omega)]; exact hz _ (by omega)
   refine S_move rfl rfl rfl (v := (.slice (some ⟨g1, 0, none⟩) m m)) (s5) ?_
   refine S_move rfl rfl rfl (v := (.int .i64 (i : Int))) (s6) ?_
   refine S_move rfl rfl rfl (v := (if okL lb then vb else .slice none 0 0)) (s1) ?_
   refine S_len Tryz.underlying23 rfl rfl rfl (rfl) (m := (fineL lb).length) (hfb.len) ?_
   refine S_add64 rfl rfl rfl rfl (rfl) (rfl) (by omega) ?_
   refine S_move rfl rfl rfl (v := (.int .u64 h)) (s8) ?_
   refine S_conv Tryz.underlying124 Tryz.underlying106 rfl rfl rfl (rfl) (b := h) (wrap_u32 hh.1 hh.2) ?_
   refine S_idx Tryz.underlying23 ti_uint32 rfl rfl rfl rfl (rfl) (rfl) (j := (i + (fineL lb).length)) (ad := ⟨g1, (i + (fineL lb).length), none⟩) (SlAt.own1 (by omega)) (by omega) ?_
   refine S_storeN ti_uint32 rfl rfl rfl rfl (g := g1) (o := (i + (fineL lb).length)) (rfl) (a := h) (rfl) b1 (by omega) ?_
   intro w3 hU3 b1
   have E := Below.stepU E hU3 (by omega)
   have hz3 := hU3.size
   refine OPS.nil ?_
   change WP _ _ _ _ _ _
   refine W_region rfl ?_
   refine S_add64 rfl rfl rfl rfl (s23) (rfl) (by omega) ?_
   refine S_move rfl rfl rfl (v := (.int .i64 ((i : Int) + 1))) (rfl) ?_
   refine OPS.nil ?_
   exact ⟨q - 1, by omega, i + 1, _, s0, s1, s5, s21, s22, int_eq (by omega), by omega, mul_row (by omega) rfl hz2 hval hval2, fun j hj => by rw [getD_set_ne' _ _ _ _ (by omega), hold j (by omega)]; exact hz j (by omega), by simpa using hyl, hyu.set _ (by omega) (by omega), b1, E⟩
 ·skip
  have pF := hq24
  replace hq24 := of_decide_eq_false hq24
  have qF := hq24
  try rw [pF]
  refine W_exit ?_
  change WP _ _ _ _ _ _
  refine W_seq ?_
  refine W_region rfl ?_
  refine S_move rfl rfl rfl (v := (.slice (some ⟨g1, 0, none⟩) m m)) (s5) ?_
  refine S_call en_nats_cut rfl rfl rfl (vs := [(.slice (some ⟨g1, 0, none⟩) m m)]) (rfl) (natsCut_c _ _ xs (RN.ofNums (a := 0) (b := 0) b1 hxu hxl (by omega))) ?_
  rintro r _ ⟨⟨A, c', k', hv, hr, hk', ht⟩, rfl⟩
  refine S_assign rfl rfl rfl (v := r) (rfl) ?_
  refine OPS.nil ?_
  change WP _ _ _ _ _ _
  refine W_ret ?_
  change Fin' _ _ _ _ _ _
  refine End1 (n := ⟨71, []⟩) (t := 4) rfl (by decide) (v := r) (rfl) ?_
  have hi : i = (fineL la).length := by omega
  subst hi
  rw [List.take_length] at hval
  have := cut_on b1 hxu (B := w0.heap.size) (by omega) hxl (by omega) hv hr hk' ht
  rw [hval] at this
  exact ⟨E, this⟩

end Go.Proofs.YtccmicegihlfbaaGreatDoor

/- Numbers from 0 on: times a power of 2, and by it. -/
namespace Go.Proofs.YtccmicegihlfbaaGreatDoor
open Go.RowKit


theorem pow_le31 {r : Nat} (h : r < 32) : 1 ≤ (2 : Int) ^ r ∧ (2 : Int) ^ r ≤ 2147483648 := by
  have h1 := Nat.pow_le_pow_right (by decide : 2 > 0) (show r ≤ 31 by omega)
  have h2 := Nat.pow_pos (n := r) (by decide : 2 > 0)
  have e : ((2 ^ r : Nat) : Int) = (2 : Int) ^ r := by simp
  omega
theorem shl_lt {x : Int} {r : Nat} (hx : 0 ≤ x ∧ x < 4294967296) (hr : r < 32) : 0 ≤ x * 2 ^ r ∧ x * 2 ^ r ≤ 9223372034707292160 := by
  obtain ⟨h1, h2⟩ := pow_le31 hr
  refine ⟨Int.mul_nonneg hx.1 (by omega), ?_⟩
  have := Int.mul_le_mul (a := x) (b := 2 ^ r) (c := 4294967295) (d := 2147483648) (by omega) h2 (by omega) (by decide)
  omega
theorem shl_eq {x : Int} {q : Nat} (hx : 0 ≤ x ∧ x < 4294967296) : IntKind.u64.wrap (x * 2 ^ (min (((q % 32 : Nat) : Int)).toNat IntKind.u64.bits)) = x * 2 ^ (q % 32) := by
  have hr : q % 32 < 32 := Nat.mod_lt _ (by decide)
  obtain ⟨h1, h2⟩ := shl_lt hx hr
  rw [show min (((q % 32 : Nat) : Int)).toNat IntKind.u64.bits = q % 32 by show min _ 64 = _; omega]
  exact wrap_u64 h1 (by omega)
theorem toNat_pow (x : Int) (r : Nat) (hx : 0 ≤ x) : (x * 2 ^ r).toNat = x.toNat * 2 ^ r := by
  have e : ((2 ^ r : Nat) : Int) = (2 : Int) ^ r := by simp
  rw [← e, Int.toNat_mul hx (Int.natCast_nonneg _), Int.toNat_natCast]
theorem or_add {a m r : Nat} (h : a < 2 ^ r) : a ||| (m * 2 ^ r) = a + m * 2 ^ r := by
  have := Nat.shiftLeft_add_eq_or_of_lt (a := m) (b := a) (i := r) h
  rw [Nat.shiftLeft_eq] at this
  rw [Nat.or_comm, ← this, Nat.add_comm]
theorem shl_low {x r : Nat} (hr : r ≤ 32) : (x * 2 ^ r) % 4294967296 = (x % 2 ^ (32 - r)) * 2 ^ r := by
  have e : (4294967296 : Nat) = 2 ^ (32 - r) * 2 ^ r := by rw [← Nat.pow_add]; rw [show 32 - r + r = 32 by omega]
  rw [e, Nat.mul_mod_mul_right]
theorem low_toNat {x : Int} {r : Nat} (hr : r < 32) (hx : 0 ≤ x ∧ x < 4294967296) : ((x * 2 ^ r) % 4294967296).toNat = (x.toNat % 2 ^ (32 - r)) * 2 ^ r := by
  have h := shl_low (x := x.toNat) (r := r) (by omega)
  rw [← h, ← toNat_pow x r hx.1]
  have := (shl_lt hx hr).1
  omega
theorem or_nat {a b m r : Nat} (ha : a < 2 ^ r) (h1 : a < 2 ^ 32) (h2 : b < 2 ^ 32) (hb : b = m * 2 ^ r) : a ||| b = a + b ∧ a + b < 4294967296 := by
  have h3 := Nat.or_lt_two_pow h1 h2
  have h4 : a ||| b = a + b := by rw [hb]; exact or_add ha
  rw [h4] at h3
  exact ⟨h4, h3⟩
theorem bit_or_add {a b : Int} (ha : 0 ≤ a ∧ a < 4294967296) (hb : 0 ≤ b ∧ b < 4294967296) (h : a.toNat ||| b.toNat = a.toNat + b.toNat) : bitV .or .u32 a b = a + b := by
  rw [bit_or ha hb, h, Int.natCast_add, Int.toNat_of_nonneg ha.1, Int.toNat_of_nonneg hb.1]
theorem or_low' {a b : Int} {m r : Nat} (ha : 0 ≤ a ∧ a < 4294967296) (hb : 0 ≤ b ∧ b < 4294967296) (hlt : a.toNat < 2 ^ r) (e : b.toNat = m * 2 ^ r) : bitV .or .u32 a b = a + b ∧ a + b < 4294967296 := by
  obtain ⟨h1, h2⟩ := or_nat hlt (lt32 ha) (lt32 hb) e
  exact ⟨bit_or_add ha hb h1, by omega⟩
theorem or_low {old x : Int} {r : Nat} (hr : r < 32) (ho : 0 ≤ old ∧ old < 4294967296) (hlt : old.toNat < 2 ^ r) (hx : 0 ≤ x ∧ x < 4294967296) :
    bitV .or .u32 old ((x * 2 ^ r) % 4294967296) = old + (x * 2 ^ r) % 4294967296 ∧ old + (x * 2 ^ r) % 4294967296 < 4294967296 :=
  or_low' ho (by omega) hlt (low_toNat hr hx)
theorem shift_hi {x r : Nat} (hx : x < 4294967296) : x * 2 ^ r / 4294967296 < 2 ^ r :=
  Nat.div_lt_of_lt_mul (Nat.mul_lt_mul_of_pos_right hx (Nat.pow_pos (by decide)))
theorem shift_sum {B z p q o t v0 v1 v2 : Nat} (h1 : v1 + B * o = v0 + B * p) (h2 : v2 + 0 = v1 + B * 4294967296 * q) (h3 : p + 4294967296 * q = o + t) : v2 = v0 + B * t := by
  have : B * p + B * 4294967296 * q = B * o + B * t := by
    rw [Nat.mul_assoc, ← Nat.mul_add, h3, Nat.mul_add]
  omega
theorem shift_arr (v i s x c : Nat) : 4294967296 ^ s * (v * c) + 4294967296 ^ (i + s) * (x * c) = 4294967296 ^ s * ((v + 4294967296 ^ i * x) * c) := by
  rw [Nat.pow_add, Nat.add_mul, Nat.mul_add]
  congr 1
  simp only [Nat.mul_assoc, Nat.mul_left_comm, Nat.mul_comm]
theorem shift_step {xs la : List Int} {i s r : Nat} {x : Int} (hi : i + s + 1 < xs.length) (hx : 0 ≤ x ∧ x < 4294967296) (hr : r < 32) (ex : la.getD i 0 = x) (ho : 0 ≤ xs.getD (i + s) 0) (hz : xs.getD (i + s + 1) 0 = 0)
    (h : val xs = 4294967296 ^ s * (val (la.take i) * 2 ^ r)) :
    val ((xs.set (i + s) (xs.getD (i + s) 0 + (x * 2 ^ r) % 4294967296)).set (i + s + 1) ((x * 2 ^ r) / 4294967296)) = 4294967296 ^ s * (val (la.take (i + 1)) * 2 ^ r) ∧ ((x * 2 ^ r) / 4294967296).toNat < 2 ^ r := by
  obtain ⟨h1, h2⟩ := shl_lt hx hr
  have hp := toNat_pow x r hx.1
  have hh := shift_hi (x := x.toNat) (r := r) (by omega)
  generalize x * 2 ^ r = n at *
  have e1 := val_set xs (i + s) (xs.getD (i + s) 0 + n % 4294967296) (by omega)
  have e2 := val_set (xs.set (i + s) (xs.getD (i + s) 0 + n % 4294967296)) (i + s + 1) (n / 4294967296) (by simpa using hi)
  rw [getD_set_ne' _ _ _ _ (by omega), hz, Int.toNat_zero, Nat.mul_zero, Nat.pow_succ] at e2
  have e3 : (xs.getD (i + s) 0 + n % 4294967296).toNat + 4294967296 * (n / 4294967296).toNat = (xs.getD (i + s) 0).toNat + n.toNat := by omega
  constructor
  · rw [shift_sum (z := 0) e1 e2 e3, h, hp, val_step la, ex]
    exact shift_arr _ _ _ _ _
  · rw [← hp] at hh
    have : (n / 4294967296).toNat = n.toNat / 4294967296 := by omega
    rw [this]; exact hh


theorem shift_end (v q : Nat) : 4294967296 ^ (q / 32) * (v * 2 ^ (q % 32)) = v * 2 ^ q := by
  have e : (4294967296 : Nat) = 2 ^ 32 := by decide
  rw [e, ← Nat.pow_mul, Nat.mul_left_comm, ← Nat.pow_add, Nat.div_add_mod]

set_option maxHeartbeats 400000 in
theorem natsShift_c (w0 : World) (va : Value) (la : List Int) (q : Nat) {a b : Nat} (ha : RN a b w0 va la) (hsa : la.length ≤ SZ) (hq : q ≤ 35184372088832) :
    Ret Tryz.prog 157 [va, .int .u64 (q : Int)] w0 (fun r w1 => Below w0.heap.size w0 w1 ∧ ON w0.heap.size w1 r (dg (val la * 2 ^ q))) := by
 have E := Below.refl w0.heap.size w0
 unfold SZ at hsa
 have hr : q % 32 < 32 := Nat.mod_lt _ (by decide)
 refine Ret_of (n := 53) Tryz.func157 rfl rfl (Nat.le_of_ble_eq_true rfl) ?_
 refine W_seq ?_
 refine W_region rfl ?_
 refine S_assign rfl rfl rfl (v := (.slice none 0 0)) (rfl) ?_
 refine OPS.nil ?_
 change WP _ _ _ _ _ _
 refine W_seq ?_
 refine W_region rfl ?_
 refine S_move rfl rfl rfl (v := .int .u64 (q : Int)) (rfl) ?_
 refine S_quo rfl rfl rfl rfl (rfl) (rfl) (by decide) (v := ((q / 32 : Nat) : Int)) (by rw [Int.tdiv_eq_ediv_of_nonneg (by omega)]; exact Eq.trans (wrap_u64 (by omega) (by omega)) (by omega)) ?_
 refine S_conv Tryz.underlying125 Tryz.underlying3 rfl rfl rfl (rfl) (b := ((q / 32 : Nat) : Int)) (wrap_i64 (by omega) (by omega)) ?_
 refine S_assign rfl rfl rfl (v := (.int .i64 ((q / 32 : Nat) : Int))) (rfl) ?_
 refine OPS.nil ?_
 change WP _ _ _ _ _ _
 refine W_seq ?_
 refine W_region rfl ?_
 refine S_move rfl rfl rfl (v := va) (rfl) ?_
 refine S_len Tryz.underlying23 rfl rfl rfl (rfl) (m := la.length) (ha.len) ?_
 refine S_move rfl rfl rfl (v := (.int .i64 ((q / 32 : Nat) : Int))) (rfl) ?_
 refine S_add64 rfl rfl rfl rfl (rfl) (rfl) (by omega) ?_
 refine S_add64 rfl rfl rfl rfl (rfl) (rfl) (by omega) ?_
 refine S_make Tryz.underlying23 ti_uint32 rfl rfl rfl rfl (rfl) (m := la.length + q / 32 + 1) (by omega) (by omega) (by omega) ?_
 intro g1 w1 hg1 hs1 hB1 b1
 rw [nums_rep] at b1
 have hz1 := hB1.size
 have E := Below.step E hB1
 refine S_assign rfl rfl rfl (v := (.slice (some ⟨g1, 0, none⟩) (la.length + q / 32 + 1) (la.length + q / 32 + 1))) (rfl) ?_
 refine OPS.nil ?_
 change WP _ _ _ _ _ _
 refine W_seq ?_
 refine W_seq ?_
 refine W_region rfl ?_
 obtain ⟨m, hmm⟩ : ∃ m, m = la.length + q / 32 + 1 := ⟨_, rfl⟩
 refine S_move rfl rfl rfl (v := va) (rfl) ?_
 refine S_len Tryz.underlying23 rfl rfl rfl (rfl) (m := la.length) (ha.len) ?_
 refine S_move rfl rfl rfl (v := (.int .i64 0)) (rfl) ?_
 refine OPS.nil ?_
 change WP _ _ _ _ _ _
 refine W_block ?_
 refine W_loop (fun k σ w => ∃ (i : Nat) (xs : List Int), σ 1 = .int .u64 (q : Int) ∧ σ 5 = .int .i64 ((q / 32 : Nat) : Int) ∧ σ 6 = .slice (some ⟨g1, 0, none⟩) m m ∧ σ 19 = va ∧ σ 20 = .int .i64 (la.length : Int) ∧ σ 21 = .int .i64 (i : Int) ∧ i + k = la.length ∧
      val xs = 4294967296 ^ (q / 32) * (val (la.take i) * 2 ^ (q % 32)) ∧ (xs.getD (i + q / 32) 0).toNat < 2 ^ (q % 32) ∧ (∀ j, i + q / 32 < j → xs.getD j 0 = 0) ∧ xs.length = m ∧ U32 xs ∧ Blk w g1 (nums .u32 xs) 106 ∧ Below w0.heap.size w0 w) (la.length) ⟨0, List.replicate m 0, rfl, rfl, by rw [hmm]; rfl, rfl, rfl, rfl, by omega, by rw [val_zeros]; simp [val], by rw [rep_getD]; exact Nat.pow_pos (by decide), fun j _ => rep_getD m j, by simp, U32.replicate m, by rw [hmm]; exact b1, E⟩ ?_
 rintro k σ w ⟨i, xs, s1, s5, s6, s19, s20, s21, hik, hval, hlow, hz, hxl, hxu, b1, E⟩
 have hua := ha.u32.getD i
 have huo := hxu.getD (i + q / 32)
 refine W_seq ?_
 refine W_region rfl ?_
 refine S_bin rfl rfl rfl rfl rfl (s21) (s20) (v := .bool (decide ((i : Int) < (la.length : Int)))) rfl ?_
 refine OPS.nil ?_
 change WP _ _ _ _ _ _
 refine W_seq ?_
 refine W_cond rfl (rfl) (fun hq22 => ?_) (fun hq22 => ?_)
 ·skip
  have pT := hq22
  replace hq22 := of_decide_eq_true hq22
  have qT := hq22
  try rw [pT]
  refine W_skip ?_
  change WP _ _ _ _ _ _
  refine W_seq ?_
  refine W_block ?_
  refine W_seq ?_
  refine W_region rfl ?_
  refine S_move rfl rfl rfl (v := (.int .i64 (i : Int))) (s21) ?_
  obtain ⟨ad1, hp3, hc2⟩ := (ha.below E).at i (by omega)
  refine S_idx Tryz.underlying23 ti_uint32 rfl rfl rfl rfl (s19) (s21) hp3 (by omega) ?_
  refine S_load rfl rfl rfl (rfl) (LD.one ti_uint32 hc2) ?_
  refine S_assign rfl rfl rfl (v := (.int .i64 (i : Int))) (rfl) ?_
  refine S_assign rfl rfl rfl (v := (.int .u32 (la.getD i 0))) (rfl) ?_
  refine OPS.nil ?_
  change WP _ _ _ _ _ _
  refine W_seq ?_
  refine W_region rfl ?_
  obtain ⟨hn1, hn2⟩ := shl_lt hua hr
  obtain ⟨ho1, ho2⟩ := or_low hr huo hlow hua
  have hst := shift_step (s := q / 32) (by omega) hua hr rfl huo.1 (hz _ (by omega)) hval
  refine S_move rfl rfl rfl (v := (.int .u32 (la.getD i 0))) (rfl) ?_
  refine S_conv Tryz.underlying106 Tryz.underlying124 rfl rfl rfl (rfl) (b := (la.getD i 0)) (wrap_u64 hua.1 (by omega)) ?_
  refine S_move rfl rfl rfl (v := (.int .u64 (q : Int))) (s1) ?_
  refine S_rem rfl rfl rfl rfl (rfl) (rfl) (by decide) (v := ((q % 32 : Nat) : Int)) (by rw [Int.tmod_eq_emod_of_nonneg (by omega)]; omega) ?_
  refine S_shl rfl rfl rfl rfl (rfl) (rfl) (by omega) (v := (la.getD i 0 * 2 ^ (q % 32))) (shl_eq hua) ?_
  refine S_assign rfl rfl rfl (v := (.int .u64 (la.getD i 0 * 2 ^ (q % 32)))) (rfl) ?_
  refine OPS.nil ?_
  change WP _ _ _ _ _ _
  refine W_seq ?_
  refine W_region rfl ?_
  refine S_move rfl rfl rfl (v := (.slice (some ⟨g1, 0, none⟩) m m)) (s6) ?_
  refine S_move rfl rfl rfl (v := (.int .i64 (i : Int))) (rfl) ?_
  refine S_move rfl rfl rfl (v := (.int .i64 ((q / 32 : Nat) : Int))) (s5) ?_
  refine S_add64 rfl rfl rfl rfl (rfl) (rfl) (by omega) ?_
  refine S_idx Tryz.underlying23 ti_uint32 rfl rfl rfl rfl (rfl) (rfl) (j := (i + q / 32)) (ad := ⟨g1, (i + q / 32), none⟩) (SlAt.own1 (by omega)) (by omega) ?_
  refine S_load rfl rfl rfl (rfl) (LD.one ti_uint32 (b1.num (by omega))) ?_
  refine S_move rfl rfl rfl (v := (.int .u64 (la.getD i 0 * 2 ^ (q % 32)))) (rfl) ?_
  refine S_conv Tryz.underlying124 Tryz.underlying106 rfl rfl rfl (rfl) (b := ((la.getD i 0 * 2 ^ (q % 32)) % 4294967296)) (wrap_u32' _) ?_
  refine S_bits rfl rfl rfl rfl (by simp) (rfl) (rfl) (v := ((xs.getD (i + q / 32) 0) + (la.getD i 0 * 2 ^ (q % 32)) % 4294967296)) (ho1) ?_
  refine S_idx Tryz.underlying23 ti_uint32 rfl rfl rfl rfl (rfl) (rfl) (j := (i + q / 32)) (ad := ⟨g1, (i + q / 32), none⟩) (SlAt.own1 (by omega)) (by omega) ?_
  refine S_storeN ti_uint32 rfl rfl rfl rfl (g := g1) (o := (i + q / 32)) (rfl) (a := ((xs.getD (i + q / 32) 0) + (la.getD i 0 * 2 ^ (q % 32)) % 4294967296)) (rfl) b1 (by omega) ?_
  intro w2 hU2 b1
  have E := Below.stepU E hU2 (by omega)
  have hz2 := hU2.size
  refine OPS.nil ?_
  change WP _ _ _ _ _ _
  refine W_region rfl ?_
  refine S_move rfl rfl rfl (v := (.slice (some ⟨g1, 0, none⟩) m m)) (s6) ?_
  refine S_move rfl rfl rfl (v := (.int .i64 (i : Int))) (rfl) ?_
  refine S_move rfl rfl rfl (v := (.int .i64 ((q / 32 : Nat) : Int))) (s5) ?_
  refine S_add64 rfl rfl rfl rfl (rfl) (rfl) (by omega) ?_
  refine S_add64 rfl rfl rfl rfl (rfl) (rfl) (by omega) ?_
  refine S_move rfl rfl rfl (v := (.int .u64 (la.getD i 0 * 2 ^ (q % 32)))) (rfl) ?_
  refine S_shr rfl rfl rfl rfl (rfl) (rfl) (by omega) (v := ((la.getD i 0 * 2 ^ (q % 32)) / 4294967296)) (shr32 _) ?_
  refine S_conv Tryz.underlying124 Tryz.underlying106 rfl rfl rfl (rfl) (b := ((la.getD i 0 * 2 ^ (q % 32)) / 4294967296)) (wrap_u32 (by omega) (by omega)) ?_
  refine S_idx Tryz.underlying23 ti_uint32 rfl rfl rfl rfl (rfl) (rfl) (j := (i + q / 32 + 1)) (ad := ⟨g1, (i + q / 32 + 1), none⟩) (SlAt.own1 (by omega)) (by omega) ?_
  refine S_storeN ti_uint32 rfl rfl rfl rfl (g := g1) (o := (i + q / 32 + 1)) (rfl) (a := ((la.getD i 0 * 2 ^ (q % 32)) / 4294967296)) (rfl) b1 (by simp; omega) ?_
  intro w3 hU3 b1
  have E := Below.stepU E hU3 (by omega)
  have hz3 := hU3.size
  refine OPS.nil ?_
  change WP _ _ _ _ _ _
  refine W_region rfl ?_
  refine S_add64 rfl rfl rfl rfl (s21) (rfl) (by omega) ?_
  refine S_move rfl rfl rfl (v := (.int .i64 ((i : Int) + 1))) (rfl) ?_
  refine OPS.nil ?_
  exact ⟨k - 1, by omega, i + 1, _, s1, s5, s6, s19, s20, int_eq (by omega), by omega, hst.1, by rw [show i + 1 + q / 32 = i + q / 32 + 1 by omega, getD_set_eq' _ _ _ (by simp; omega)]; exact hst.2, fun j hj => by rw [getD_set_ne' _ _ _ _ (by omega), getD_set_ne' _ _ _ _ (by omega)]; exact hz j (by omega), by simpa using hxl, (hxu.set _ (by omega) (by omega)).set _ (by omega) (by omega), b1, E⟩
 ·skip
  have pF := hq22
  replace hq22 := of_decide_eq_false hq22
  have qF := hq22
  try rw [pF]
  refine W_exit ?_
  change WP _ _ _ _ _ _
  refine W_seq ?_
  refine W_region rfl ?_
  refine S_move rfl rfl rfl (v := (.slice (some ⟨g1, 0, none⟩) m m)) (s6) ?_
  refine S_call en_nats_cut rfl rfl rfl (vs := [(.slice (some ⟨g1, 0, none⟩) m m)]) (rfl) (natsCut_c _ _ xs (RN.ofNums (a := 0) (b := 0) b1 hxu hxl (by omega))) ?_
  rintro r _ ⟨⟨A, c', k', hv, hr', hk', ht⟩, rfl⟩
  refine S_assign rfl rfl rfl (v := r) (rfl) ?_
  refine OPS.nil ?_
  change WP _ _ _ _ _ _
  refine W_ret ?_
  change Fin' _ _ _ _ _ _
  refine End1 (n := ⟨53, []⟩) (t := 4) rfl (by decide) (v := r) (rfl) ?_
  have hi : i = la.length := by omega
  subst hi
  rw [List.take_length] at hval
  have := cut_on b1 hxu (B := w0.heap.size) (by omega) hxl (by omega) hv hr' hk' ht
  rw [hval, show 4294967296 ^ (q / 32) * (val la * 2 ^ (q % 32)) = val la * 2 ^ q from shift_end (val la) q] at this
  exact ⟨E, this⟩


theorem back_digit {v0 v1 w : Nat} {r : Nat} (hr : r < 32) : ((v0 + 4294967296 * (v1 + 4294967296 * w)) / 2 ^ r) % 4294967296 = ((v1 * 4294967296 + v0) / 2 ^ r) % 4294967296 := by
  have hp : 0 < 2 ^ r := Nat.pow_pos (by decide)
  have e : (4294967296 : Nat) = 2 ^ (32 - r) * 2 ^ r := by rw [← Nat.pow_add, show 32 - r + r = 32 by omega]
  have e2 : v0 + 4294967296 * (v1 + 4294967296 * w) = (v1 * 4294967296 + v0) + 2 ^ r * (2 ^ (32 - r) * (4294967296 * w)) := by
    have : 2 ^ r * (2 ^ (32 - r) * (4294967296 * w)) = 4294967296 * (4294967296 * w) := by
      rw [← Nat.mul_assoc, Nat.mul_comm (2 ^ r) (2 ^ (32 - r)), ← e]
    rw [this]; omega
  rw [e2, Nat.add_mul_div_left _ _ hp, Nat.mul_left_comm, Nat.add_mul_mod_self_left]
theorem val_drop (l : List Int) (i : Nat) : val l / 4294967296 ^ i = val (l.drop i) ∨ True := .inr trivial
theorem val_split (l : List Int) (i : Nat) (h : U32 l) : val l / 4294967296 ^ i = val (l.drop i) := by
  have e : val l = val (l.take i) + 4294967296 ^ (l.take i).length * val (l.drop i) := by
    rw [← val_append, List.take_append_drop]
  by_cases hi : i ≤ l.length
  · rw [List.length_take, Nat.min_eq_left hi] at e
    have := val_lt (h.take i)
    rw [List.length_take, Nat.min_eq_left hi] at this
    rw [e, Nat.add_mul_div_left _ _ (pow_pos' i), Nat.div_eq_of_lt this, Nat.zero_add]
  · rw [List.drop_of_length_le (by omega), val_nil]
    refine Nat.div_eq_of_lt (Nat.lt_of_lt_of_le (val_lt h) (Nat.pow_le_pow_right (by decide) (by omega)))
theorem val_drop_step (l : List Int) (i : Nat) : val (l.drop i) = (l.getD i 0).toNat + 4294967296 * val (l.drop (i + 1)) := by
  by_cases hi : i < l.length
  · rw [List.drop_eq_getElem_cons hi, val_cons, List.getD_eq_getElem?_getD, List.getElem?_eq_getElem hi]; rfl
  · rw [List.drop_of_length_le (by omega), List.drop_of_length_le (by omega), List.getD_eq_getElem?_getD, List.getElem?_eq_none (by omega)]; rfl
/-- The i-th part of a number by 2 to some power below 32, s parts less. -/
theorem back_part {la : List Int} (hu : U32 la) {i s r : Nat} (hr : r < 32) :
    (val la / 4294967296 ^ s / 2 ^ r / 4294967296 ^ i) % 4294967296 = (((la.getD (i + s + 1) 0).toNat * 4294967296 + (la.getD (i + s) 0).toNat) / 2 ^ r) % 4294967296 := by
  rw [Nat.div_div_eq_div_mul (val la / 4294967296 ^ s) (2 ^ r) (4294967296 ^ i), Nat.mul_comm (2 ^ r), ← Nat.div_div_eq_div_mul (val la / 4294967296 ^ s) (4294967296 ^ i) (2 ^ r), Nat.div_div_eq_div_mul (val la), ← Nat.pow_add, val_split la (s + i) hu, Nat.add_comm s i, val_drop_step la (i + s), val_drop_step la (i + s + 1)]
  exact back_digit hr
theorem mod_step (v B i : Nat) (hB : 0 < B) : v % B ^ (i + 1) = v % B ^ i + B ^ i * ((v / B ^ i) % B) := by
  rw [Nat.pow_succ, Nat.mod_mul]


theorem shr_eq {x : Int} {q : Nat} (hx : 0 ≤ x) : x.fdiv (2 ^ (min (((q % 32 : Nat) : Int)).toNat IntKind.u64.bits)) = ((x.toNat / 2 ^ (q % 32) : Nat) : Int) := by
  rw [show min (((q % 32 : Nat) : Int)).toNat IntKind.u64.bits = q % 32 by show min _ 64 = _; omega, Int.fdiv_eq_ediv_of_nonneg _ (Int.pow_nonneg (by decide))]
  have e : ((2 ^ (q % 32) : Nat) : Int) = (2 : Int) ^ (q % 32) := by simp
  rw [← e, Int.natCast_ediv, Int.toNat_of_nonneg hx]


theorem back_end {la : List Int} (hu : U32 la) {q n : Nat} (hn : n = la.length - q / 32) : (val la / 4294967296 ^ (q / 32) / 2 ^ (q % 32)) % 4294967296 ^ n = val la / 2 ^ q := by
  have e : val la / 4294967296 ^ (q / 32) / 2 ^ (q % 32) = val la / 2 ^ q := by
    rw [Nat.div_div_eq_div_mul, show (4294967296 : Nat) = 2 ^ 32 from by decide, ← Nat.pow_mul, ← Nat.pow_add, Nat.div_add_mod]
  rw [Nat.mod_eq_of_lt, e]
  refine Nat.lt_of_le_of_lt (Nat.div_le_self _ _) ?_
  rw [val_split la _ hu]
  have := val_lt (hu.drop (q / 32))
  rwa [List.length_drop, ← hn] at this

set_option maxHeartbeats 400000 in
theorem natsBack_c (w0 : World) (va : Value) (la : List Int) (q : Nat) {a b : Nat} (ha : RN a b w0 va la) (hsa : la.length ≤ SZ) (hq : q ≤ 35184372088832) :
    Ret Tryz.prog 158 [va, .int .u64 (q : Int)] w0 (fun r w1 => Below w0.heap.size w0 w1 ∧ ON w0.heap.size w1 r (dg (val la / 2 ^ q))) := by
 have E := Below.refl w0.heap.size w0
 unfold SZ at hsa
 have hr : q % 32 < 32 := Nat.mod_lt _ (by decide)
 refine Ret_of (n := 45) Tryz.func158 rfl rfl (Nat.le_of_ble_eq_true rfl) ?_
 refine W_seq ?_
 refine W_region rfl ?_
 refine S_assign rfl rfl rfl (v := (.slice none 0 0)) (rfl) ?_
 refine OPS.nil ?_
 change WP _ _ _ _ _ _
 refine W_seq ?_
 refine W_region rfl ?_
 refine S_move rfl rfl rfl (v := .int .u64 (q : Int)) (rfl) ?_
 refine S_quo rfl rfl rfl rfl (rfl) (rfl) (by decide) (v := ((q / 32 : Nat) : Int)) (by rw [Int.tdiv_eq_ediv_of_nonneg (by omega)]; exact Eq.trans (wrap_u64 (by omega) (by omega)) (by omega)) ?_
 refine S_conv Tryz.underlying125 Tryz.underlying3 rfl rfl rfl (rfl) (b := ((q / 32 : Nat) : Int)) (wrap_i64 (by omega) (by omega)) ?_
 refine S_assign rfl rfl rfl (v := (.int .i64 ((q / 32 : Nat) : Int))) (rfl) ?_
 refine OPS.nil ?_
 change WP _ _ _ _ _ _
 refine W_seq ?_
 refine W_region rfl ?_
 refine S_move rfl rfl rfl (v := va) (rfl) ?_
 refine S_len Tryz.underlying23 rfl rfl rfl (rfl) (m := la.length) (ha.len) ?_
 refine S_move rfl rfl rfl (v := (.int .i64 ((q / 32 : Nat) : Int))) (rfl) ?_
 refine S_sub64 rfl rfl rfl rfl (rfl) (rfl) (by omega) ?_
 refine S_max rfl rfl rfl rfl (rfl) (rfl) (v := (((la.length - q / 32) : Nat) : Int)) (by omega) ?_
 refine S_make Tryz.underlying23 ti_uint32 rfl rfl rfl rfl (rfl) (m := (la.length - q / 32)) (by omega) (by omega) (by omega) ?_
 intro g1 w1 hg1 hs1 hB1 b1
 rw [nums_rep] at b1
 have hz1 := hB1.size
 have E := Below.step E hB1
 refine S_assign rfl rfl rfl (v := (.slice (some ⟨g1, 0, none⟩) ((la.length - q / 32)) ((la.length - q / 32)))) (rfl) ?_
 refine OPS.nil ?_
 change WP _ _ _ _ _ _
 refine W_seq ?_
 refine W_seq ?_
 refine W_region rfl ?_
 obtain ⟨m, hmm⟩ : ∃ m, m = (la.length - q / 32) := ⟨_, rfl⟩
 refine S_move rfl rfl rfl (v := (.slice (some ⟨g1, 0, none⟩) ((la.length - q / 32)) ((la.length - q / 32)))) (rfl) ?_
 refine S_len Tryz.underlying23 rfl rfl rfl (rfl) (m := ((la.length - q / 32))) (⟨_, _, rfl⟩) ?_
 refine S_move rfl rfl rfl (v := (.int .i64 0)) (rfl) ?_
 refine OPS.nil ?_
 change WP _ _ _ _ _ _
 refine W_block ?_
 refine W_loop (fun k σ w => ∃ (i : Nat) (xs : List Int), σ 0 = va ∧ σ 1 = .int .u64 (q : Int) ∧ σ 5 = .int .i64 ((q / 32 : Nat) : Int) ∧ σ 6 = .slice (some ⟨g1, 0, none⟩) m m ∧ σ 18 = .int .i64 (m : Int) ∧ σ 19 = .int .i64 (i : Int) ∧ i + k = m ∧
      val (xs.take i) = (val la / 4294967296 ^ (q / 32) / 2 ^ (q % 32)) % 4294967296 ^ i ∧ xs.length = m ∧ U32 xs ∧ Blk w g1 (nums .u32 xs) 106 ∧ Below w0.heap.size w0 w) (m) ⟨0, List.replicate m 0, rfl, rfl, rfl, by rw [hmm]; rfl, by rw [hmm]; rfl, rfl, by omega, by simp [val, Nat.mod_one], by simp, U32.replicate m, by rw [hmm]; exact b1, E⟩ ?_
 rintro k σ w ⟨i, xs, s0, s1, s5, s6, s18, s19, hik, hval, hxl, hxu, b1, E⟩
 have hhi := ha.u32.getD (i + q / 32 + 1)
 have hlo := ha.u32.getD (i + q / 32)
 have hn1 : 0 ≤ ((la.getD (i + q / 32 + 1) 0) * 4294967296 + (la.getD (i + q / 32) 0)) := by omega
 have hpt := back_part ha.u32 (i := i) (s := q / 32) hr
 have hzn : ((la.getD (i + q / 32 + 1) 0) * 4294967296 + (la.getD (i + q / 32) 0)).toNat = (la.getD (i + q / 32 + 1) 0).toNat * 4294967296 + (la.getD (i + q / 32) 0).toNat := by omega
 have hzl := Nat.div_le_self ((la.getD (i + q / 32 + 1) 0) * 4294967296 + (la.getD (i + q / 32) 0)).toNat (2 ^ (q % 32))
 refine W_seq ?_
 refine W_region rfl ?_
 refine S_bin rfl rfl rfl rfl rfl (s19) (s18) (v := .bool (decide ((i : Int) < (m : Int)))) rfl ?_
 refine OPS.nil ?_
 change WP _ _ _ _ _ _
 refine W_seq ?_
 refine W_cond rfl (rfl) (fun hq20 => ?_) (fun hq20 => ?_)
 ·skip
  have pT := hq20
  replace hq20 := of_decide_eq_true hq20
  have qT := hq20
  try rw [pT]
  refine W_skip ?_
  change WP _ _ _ _ _ _
  refine W_seq ?_
  refine W_block ?_
  refine W_seq ?_
  refine W_region rfl ?_
  refine S_move rfl rfl rfl (v := (.int .i64 (i : Int))) (s19) ?_
  refine S_assign rfl rfl rfl (v := (.int .i64 (i : Int))) (rfl) ?_
  refine OPS.nil ?_
  change WP _ _ _ _ _ _
  refine W_region rfl ?_
  refine S_move rfl rfl rfl (v := (.slice (some ⟨g1, 0, none⟩) m m)) (s6) ?_
  refine S_move rfl rfl rfl (v := (.int .i64 (i : Int))) (rfl) ?_
  refine S_move rfl rfl rfl (v := va) (s0) ?_
  refine S_move rfl rfl rfl (v := (.int .i64 (i : Int))) (rfl) ?_
  refine S_move rfl rfl rfl (v := (.int .i64 ((q / 32 : Nat) : Int))) (s5) ?_
  refine S_add64 rfl rfl rfl rfl (rfl) (rfl) (by omega) ?_
  refine S_add64 rfl rfl rfl rfl (rfl) (rfl) (by omega) ?_
  refine S_call en_nats_at rfl rfl rfl (vs := [va, (.int .i64 (((i : Int) + ((q / 32 : Nat) : Int)) + 1))]) (rfl) (natsAt_c _ _ _ _ (ha.below E)) ?_
  rintro _ _ ⟨rfl, rfl⟩
  refine S_shl rfl rfl rfl rfl (rfl) (rfl) (by omega) (v := ((la.getD (i + q / 32 + 1) 0) * 4294967296)) (S_shl32 hhi) ?_
  refine S_move rfl rfl rfl (v := va) (s0) ?_
  refine S_move rfl rfl rfl (v := (.int .i64 (i : Int))) (rfl) ?_
  refine S_move rfl rfl rfl (v := (.int .i64 ((q / 32 : Nat) : Int))) (s5) ?_
  refine S_add64 rfl rfl rfl rfl (rfl) (rfl) (by omega) ?_
  refine S_call en_nats_at rfl rfl rfl (vs := [va, (.int .i64 ((i : Int) + ((q / 32 : Nat) : Int)))]) (rfl) (natsAt_c _ _ _ _ (ha.below E)) ?_
  rintro _ _ ⟨rfl, rfl⟩
  refine S_bits rfl rfl rfl rfl (by simp) (rfl) (rfl) (v := ((la.getD (i + q / 32 + 1) 0) * 4294967296 + (la.getD (i + q / 32) 0))) (hi_lo hhi hlo) ?_
  refine S_move rfl rfl rfl (v := (.int .u64 (q : Int))) (s1) ?_
  refine S_rem rfl rfl rfl rfl (rfl) (rfl) (by decide) (v := ((q % 32 : Nat) : Int)) (by rw [Int.tmod_eq_emod_of_nonneg (by omega)]; omega) ?_
  refine S_shr rfl rfl rfl rfl (rfl) (rfl) (by omega) (v := ((((la.getD (i + q / 32 + 1) 0) * 4294967296 + (la.getD (i + q / 32) 0)).toNat / 2 ^ (q % 32) : Nat) : Int)) (shr_eq hn1) ?_
  refine S_conv Tryz.underlying124 Tryz.underlying106 rfl rfl rfl (rfl) (b := (((((la.getD (i + q / 32 + 1) 0) * 4294967296 + (la.getD (i + q / 32) 0)).toNat / 2 ^ (q % 32) : Nat) : Int) % 4294967296)) (wrap_u32' _) ?_
  refine S_idx Tryz.underlying23 ti_uint32 rfl rfl rfl rfl (rfl) (rfl) (j := i) (ad := ⟨g1, i, none⟩) (SlAt.own1 (by omega)) (by omega) ?_
  refine S_storeN ti_uint32 rfl rfl rfl rfl (g := g1) (o := i) (rfl) (a := (((((la.getD (i + q / 32 + 1) 0) * 4294967296 + (la.getD (i + q / 32) 0)).toNat / 2 ^ (q % 32) : Nat) : Int) % 4294967296)) (rfl) b1 (by omega) ?_
  intro w2 hU2 b1
  have E := Below.stepU E hU2 (by omega)
  have hz2 := hU2.size
  refine OPS.nil ?_
  change WP _ _ _ _ _ _
  refine W_region rfl ?_
  refine S_add64 rfl rfl rfl rfl (s19) (rfl) (by omega) ?_
  refine S_move rfl rfl rfl (v := (.int .i64 ((i : Int) + 1))) (rfl) ?_
  refine OPS.nil ?_
  exact ⟨k - 1, by omega, i + 1, _, s0, s1, s5, s6, s18, int_eq (by omega), by omega, by rw [val_set_take _ _ _ (by omega), mod_step _ _ _ (by decide), hval, hpt, ← hzn]; congr 2, by simpa using hxl, hxu.set _ (by omega) (by omega), b1, E⟩
 ·skip
  have pF := hq20
  replace hq20 := of_decide_eq_false hq20
  have qF := hq20
  try rw [pF]
  refine W_exit ?_
  change WP _ _ _ _ _ _
  refine W_seq ?_
  refine W_region rfl ?_
  refine S_move rfl rfl rfl (v := (.slice (some ⟨g1, 0, none⟩) m m)) (s6) ?_
  refine S_call en_nats_cut rfl rfl rfl (vs := [(.slice (some ⟨g1, 0, none⟩) m m)]) (rfl) (natsCut_c _ _ xs (RN.ofNums (a := 0) (b := 0) b1 hxu hxl (by omega))) ?_
  rintro r _ ⟨⟨A, c', k', hv, hr', hk', ht⟩, rfl⟩
  refine S_assign rfl rfl rfl (v := r) (rfl) ?_
  refine OPS.nil ?_
  change WP _ _ _ _ _ _
  refine W_ret ?_
  change Fin' _ _ _ _ _ _
  refine End1 (n := ⟨45, []⟩) (t := 4) rfl (by decide) (v := r) (rfl) ?_
  have hi : i = xs.length := by omega
  subst hi
  rw [List.take_length] at hval
  have := cut_on b1 hxu (B := w0.heap.size) (by omega) hxl (by omega) hv hr' hk' ht
  rw [hval, back_end ha.u32 (hxl.trans hmm)] at this
  exact ⟨E, this⟩

end Go.Proofs.YtccmicegihlfbaaGreatDoor

/- Single steps: literals, what is appended, structs that are built, slices held against nil. -/
namespace Go.Proofs.YtccmicegihlfbaaGreatDoor
open Go.RowKit

section
variable {P : Program} {n : NF} {ops : Array Oper} {K : (Nat → Value) → World → Prop} {σ : Nat → Value} {w : World} {i : Nat} {rest : List Nat}
variable {d : Nat} {t : TypeId} {p : String} {af : Array Edge} {gd : Option (Nat × Bool)} {x y : Operand}

theorem S_eqNil {T e : TypeId} (hT : P.underlying T = some (.slice e)) (ho : ops[i]? = some { dst := some d, op := .binOp .eql T x (.const (.slice none 0 0)) T, type := t, pos := p, after := af, guard := gd }) (hw : wg n ops σ gd = true)
    (hx : tok n x = true) {A : Option Addr} {m c : Nat} (hv : sv σ x = .slice A m c) (h : OPS P n ops K rest (upd σ d (.bool A.isNone)) w) : OPS P n ops K (i :: rest) σ w := by
  refine OPS.step ho hw rfl ?_ h
  have h1 := Lib.run_eql_slice_nil (P := P) w T e A m c 0 0 hT
  have h2 : (eqGuard .eql T x (.const (.slice none 0 0)) (.slice A m c) (.slice none 0 0)).run P w = .ok () w := by simp [eqGuard]
  simp only [execOp, eval_act hx, hv]
  show Sem.run P (Next.value <$> (do eqGuard .eql T x (.const (.slice none 0 0)) (.slice A m c) (.slice none 0 0); binOp .eql T (.slice A m c) (.slice none 0 0))) w = _
  simp [h1, h2]

theorem S_lit {T e : TypeId} {sz by_ : Nat} {z : Value} {ag : Bool} {len : Nat} {parts : Array (Nat × Operand)} (hT : P.underlying T = some (.slice e)) (he : TI P e sz by_ z ag)
    (ho : ops[i]? = some { dst := some d, op := .buildSlice T len parts, type := t, pos := p, after := af, guard := gd }) (hw : wg n ops σ gd = true) (hl : len * sz ≤ 16777216) (hl0 : 0 < len * sz)
    (hx : parts.toList.all (fun q => tok n q.2) = true) {vs cs : List Value} (hvs : parts.toList.map (fun q => (q.1, sv σ q.2)) = (vs.zipIdx 0).map fun x => (x.2, x.1)) (hlen : vs.length = len)
    (h1 : ∀ v ∈ vs, v.cells.size = sz) (hcs : (vs.flatMap fun v => v.cells.toList) = cs)
    (h : ∀ g w1, g = w.heap.size → w1.heap.size = g + 1 → Below w.heap.size w w1 → Blk w1 g cs e → OPS P n ops K rest (upd σ d (.slice (some ⟨g, 0, none⟩) len len)) w1) : OPS P n ops K (i :: rest) σ w := by
  obtain ⟨i0, hi0, hs, hby, hzz⟩ := he.info
  have hp : (parts.map fun q => (q.1, (act n σ).eval q.2)).toList = parts.toList.map fun q => (q.1, sv σ q.2) := by
    rw [Array.toList_map]
    exact List.map_congr_left fun q hq => by rw [eval_act (List.all_eq_true.1 hx q hq)]
  have hf : Instr.fill (fun i => some (i * sz, sz)) ((Array.range (len * sz)).map (z.cells[· % z.cells.size]!)) (parts.toList.map fun q => (q.1, sv σ q.2)) = some cs.toArray := by
    rw [hvs, ← hcs]
    exact Great.fill_whole (Nat.pos_of_mul_pos_left hl0) vs _ h1 (by simp [hlen])
  have hr := run_buildSlice (P := P) w T e len (parts.map fun q => (q.1, (act n σ).eval q.2)) cs.toArray i0 z hT hi0 hzz (by rw [hs]; omega) (by rw [hs]; omega) (by rw [hs, hp]; exact hf)
  refine OPS.step (w' := w.alloc (.cells cs.toArray e)) ho hw rfl ?_ (h _ _ rfl (by simp) (alloc_below _ _) (alloc_blk _ _ _))
  simp only [execOp]
  show Sem.run P (Next.value <$> Instr.buildSlice T len (parts.map fun q => (q.1, (act n σ).eval q.2))) w = _
  simp [hr]
theorem S_lit0 {T e : TypeId} {sz by_ : Nat} {z : Value} {ag : Bool} (hT : P.underlying T = some (.slice e)) (he : TI P e sz by_ z ag)
    (ho : ops[i]? = some { dst := some d, op := .buildSlice T 0 #[], type := t, pos := p, after := af, guard := gd }) (hw : wg n ops σ gd = true)
    (h : ∀ g w1, g = w.heap.size → w1.heap.size = g + 1 → Below w.heap.size w w1 → Blk w1 g [] e → OPS P n ops K rest (upd σ d (.slice (some ⟨g, 0, none⟩) 0 0)) w1) : OPS P n ops K (i :: rest) σ w := by
  obtain ⟨i0, hi0, hs, hby, hzz⟩ := he.info
  refine OPS.step (w' := w.alloc (.cells #[] e)) ho hw rfl ?_ (h _ _ rfl (by simp) (alloc_below _ _) (alloc_blk _ _ _))
  simp [execOp, Instr.buildSlice, run_underlying hT, sizeOf, typeInfo, hi0, Instr.fill, newRow]
  have e0 : Array.range 0 = #[] := rfl
  rw [e0, Array.map_empty]
theorem S_build {T : TypeId} {parts : Array (Nat × Operand)} (ho : ops[i]? = some { dst := some d, op := .build T parts, type := t, pos := p, after := af, guard := gd }) (hw : wg n ops σ gd = true)
    (hx : parts.toList.all (fun q => tok n q.2) = true) {cs : List Value} (hf : P.built T (parts.toList.map fun q => (q.1, sv σ q.2)) = some cs.toArray)
    (h : OPS P n ops K rest (upd σ d (.agg cs.toArray)) w) : OPS P n ops K (i :: rest) σ w := by
  have hp : (parts.map fun q => (q.1, (act n σ).eval q.2)).toList = parts.toList.map fun q => (q.1, sv σ q.2) := by
    rw [Array.toList_map]
    exact List.map_congr_left fun q hq => by rw [eval_act (List.all_eq_true.1 hx q hq)]
  have hr := run_build (P := P) w T (parts.map fun q => (q.1, (act n σ).eval q.2)) cs.toArray (by rw [hp]; exact hf)
  refine OPS.step ho hw rfl ?_ h
  simp only [execOp]
  show Sem.run P (Next.value <$> Instr.build T (parts.map fun q => (q.1, (act n σ).eval q.2))) w = _
  simp [hr]
theorem S_makeFunc {fn : Fn} {cap : Array Operand} (ho : ops[i]? = some { dst := some d, op := .makeFunc fn #[] cap, type := t, pos := p, after := af, guard := gd }) (hw : wg n ops σ gd = true)
    (hx : cap.toList.all (tok n) = true) {vs : List Value} (hvs : cap.toList.map (sv σ) = vs) (h : OPS P n ops K rest (upd σ d (.func fn #[] vs.toArray)) w) : OPS P n ops K (i :: rest) σ w := by
  refine OPS.step ho hw rfl ?_ h
  simp [execOp, Instr.makeFunc, args_eval hx, hvs]

/-- append(s, x...): s a row of the call's own, or nil. -/
theorem S_append {T e : TypeId} {sz by_ : Nat} {z : Value} {ag : Bool} (hT : P.underlying T = some (.slice e)) (he : TI P e sz by_ z ag) (hz : z.cells.size = sz) (hsz : 0 < sz)
    (ho : ops[i]? = some { dst := some d, op := .call { callee := .builtin .append, args := #[x, y], argTypes := #[T, T] }, type := t, pos := p, after := af, guard := gd }) (hw : wg n ops σ gd = true) (hx : tok n x = true) (hy : tok n y = true)
    {base m k c : Nat} {v : Value} {xs news : List Value} {a : Addr} (hv : sv σ x = v) (hs : sv σ y = .slice (some a) k c) (hown : w.ownsRow base e sz v m xs) (hl : news.length = k * sz)
    (hnews : ∀ j u, news[j]? = some u → w.cell? (a.add j) = some u) (h1 : ∀ u ∈ news, u.oneCell' = true) (hm : m + k ≤ 140737488355328) (hb : (m + k) * by_ ≤ 140737488355328) (hbase : base ≤ w.heap.size)
    (h : ∀ v' w1, w1.ownsRow base e sz v' (m + k) (xs ++ news) → w.grownBy w1 v.ownBlock → OPS P n ops K rest (upd σ d v') w1) : OPS P n ops K (i :: rest) σ w := by
  obtain ⟨i0, hi0, hs0, hby, hzz⟩ := he.info
  obtain ⟨v', w1, hr, h2, h3, _⟩ := run_append_own (P := P) w base T t e i0 z sz by_ hT hi0 hzz hs0 hby hz hsz v m xs hown a k c news hl hnews h1 (by simp only [maxLen]; omega) hb hbase
  refine OPS.step ho hw rfl ?_ (h v' w1 h2 h3)
  simp [execOp, resolve, invoke, builtin, eval_act hx, eval_act hy, hv, hs, hr]
end

theorem own_ge {B g m c : Nat} (h : B ≤ g) : ∀ k, (Value.slice (some ⟨g, 0, none⟩) m c).ownBlock = some k → B ≤ k := by
  intro k hk
  cases hk
  exact h
theorem own_btw {a b g m c : Nat} (h : a ≤ g) (h2 : g < b) : ∀ k, (Value.slice (some ⟨g, 0, none⟩) m c).ownBlock = some k → a ≤ k ∧ k < b := by
  intro k hk
  cases hk
  exact ⟨h, h2⟩
/-! ### What an append leaves -/
section
variable {w w' : World} {row : Option Nat}
theorem Blk.grown {g : Nat} {cs : List Value} {t : TypeId} (h : Blk w g cs t) (hg : w.grownBy w' row) (hne : some g ≠ row) : Blk w' g cs t := ⟨(hg.block g h.lt hne).trans h.at_⟩
theorem RN.grown {a b : Nat} {v : Value} {l : List Int} (h : RN a b w v l) (hg : w.grownBy w' row) (hr : ∀ g, row = some g → a ≤ g ∧ g < b) : RN a b w' v l := by
  obtain ⟨hu, A, c, hv, h1, h2, h3⟩ := h
  refine ⟨hu, A, c, hv, h1, h2, fun j hj => ?_⟩
  obtain ⟨ad, hA, hbl, hc⟩ := h3 j hj
  refine ⟨ad, hA, hbl, hg.cell hc fun e => ?_⟩
  have := hr _ e.symm
  rw [add_block] at this
  omega
theorem Below.grownE {B : Nat} {w0 : World} (h : Below B w0 w) (hg : w.grownBy w' row) (hB : B ≤ w.heap.size) (hr : ∀ g, row = some g → B ≤ g) : Below B w0 w' := h.grown hg hB hr
end
/-- A row of the call's own reads as its first cells. -/
theorem ownsRow_cases {w : World} {base : Nat} {e : TypeId} {sz m : Nat} {v : Value} {xs : List Value} (h : w.ownsRow base e sz v m xs) :
    (v = .slice none 0 0 ∧ m = 0 ∧ xs = []) ∨ ∃ g c cs, v = .slice (some ⟨g, 0, none⟩) m c ∧ base ≤ g ∧ Blk w g cs e ∧ m ≤ c ∧ c ≤ 9223372036854775807 ∧ cs.length = c * sz ∧ cs.take (m * sz) = xs := by
  rcases h.2 with ⟨h1, h2⟩ | ⟨g, cap, cur, h1, h2, h3, h4, h5, h6, h7⟩
  · refine .inl ⟨h1, h2, List.eq_nil_of_length_eq_zero (by have := h.1; rw [h2] at this; simpa using this)⟩
  · exact .inr ⟨g, cap, cur.toList, h1, h2, ⟨by simpa using h3⟩, h4, by simp only [maxLen] at h5; omega, by simpa using h6, h7⟩
theorem ON.ofOwns {w : World} {base m : Nat} {v : Value} {l : List Int} (h : w.ownsRow base 106 1 v m (nums .u32 l)) (hu : U32 l) : ON base w v l := by
  have hl : l.length = m := by have := h.1; rw [nums_len] at this; omega
  rcases ownsRow_cases h with ⟨rfl, _, h3⟩ | ⟨g, c, cs, rfl, h2, h3, h4, h5, h6, h7⟩
  · have : l = [] := by cases l with | nil => rfl | cons a l => simp [nums] at h3
    subst this
    exact ON.nil _ _
  · refine ON.mk h3 hu h2 hl h4 (by omega) h5 (fun j hj => ?_)
    have := nums_get .u32 l j (by omega)
    rw [← h7, List.getElem?_take_of_lt (by omega)] at this
    exact this
end Go.Proofs.YtccmicegihlfbaaGreatDoor

/- Numbers from 0 on: clones, numbers of 64 bits, by one part, noughts. -/
namespace Go.Proofs.YtccmicegihlfbaaGreatDoor
open Go.RowKit


theorem RN.srcs {a b : Nat} {w : World} {a0 : Addr} {l : List Int} {c : Nat} (h : RN a b w (.slice (some a0) l.length c) l) : ∀ j u, (nums .u32 l)[j]? = some u → w.cell? (a0.add j) = some u := by
  obtain ⟨hu, A, c', hv, h1, h2, h3⟩ := h
  simp only [Value.slice.injEq] at hv
  obtain ⟨rfl, _, _⟩ := hv
  intro j u hj
  have hlt : j < l.length := by
    have := (List.getElem?_eq_some_iff.1 hj).1
    rwa [nums_len] at this
  obtain ⟨ad, hA, _, hc⟩ := h3 j hlt
  simp only [Option.some.injEq] at hA
  subst hA
  rw [nums_get _ _ _ hlt] at hj
  rw [hc, ← hj]
theorem one_nums (k : IntKind) (l : List Int) : ∀ u ∈ nums k l, u.oneCell' = true := by
  intro u hu
  simp only [nums, List.mem_map] at hu
  obtain ⟨x, _, rfl⟩ := hu
  rfl

set_option maxHeartbeats 400000 in
theorem natsClone_n (w0 : World) (A : Option Addr) (l : List Int) (c : Nat) {a b : Nat} (h : RN a b w0 (.slice A l.length c) l) (hs : l.length ≤ SZ) (hA : A.isNone = true) :
    Ret Tryz.prog 91 [.slice A l.length c] w0 (fun r w1 => Below w0.heap.size w0 w1 ∧ ON w0.heap.size w1 r l) := by
 have E := Below.refl w0.heap.size w0
 unfold SZ at hs
 refine Ret_of (n := 8) Tryz.func91 rfl rfl (Nat.le_of_ble_eq_true rfl) ?_
 refine W_seq ?_
 refine W_region rfl ?_
 refine S_assign rfl rfl rfl (v := (.slice none 0 0)) (rfl) ?_
 refine OPS.nil ?_
 change WP _ _ _ _ _ _
 refine W_seq ?_
 refine W_seq ?_
 refine W_region rfl ?_
 refine S_move rfl rfl rfl (v := .slice A l.length c) (rfl) ?_
 refine S_eqNil Tryz.underlying23 rfl rfl rfl (rfl) ?_
 rw [hA]
 refine OPS.nil ?_
 change WP _ _ _ _ _ _
 refine W_cond rfl (b := true) (rfl) (fun _ => ?_) (fun h => (by cases h))
 refine W_seq ?_
 refine W_region rfl ?_
 refine S_assign rfl rfl rfl (v := (.slice none 0 0)) (rfl) ?_
 refine OPS.nil ?_
 change WP _ _ _ _ _ _
 refine W_ret ?_
 change Fin' _ _ _ _ _ _
 refine End1 (n := ⟨8, []⟩) (t := 2) rfl (by decide) (v := (.slice none 0 0)) (rfl) ?_
 obtain rfl : l = [] := by
   cases A with
   | none =>
     obtain ⟨hu, A, c1, hv, h1, h2, h3⟩ := h
     cases l with
     | nil => rfl
     | cons x l =>
       obtain ⟨ad, hA2, _⟩ := h3 0 (by simp)
       simp only [Value.slice.injEq] at hv
       rw [← hv.1] at hA2; cases hA2
   | some a0 => simp at hA
 exact ⟨E, ON.nil _ _⟩

set_option maxHeartbeats 400000 in
theorem natsClone_s (w0 : World) (A : Option Addr) (l : List Int) (c : Nat) {a b : Nat} (h : RN a b w0 (.slice A l.length c) l) (hs : l.length ≤ SZ) (hA : A.isNone = false) :
    Ret Tryz.prog 91 [.slice A l.length c] w0 (fun r w1 => Below w0.heap.size w0 w1 ∧ ON w0.heap.size w1 r l) := by
 have E := Below.refl w0.heap.size w0
 unfold SZ at hs
 refine Ret_of (n := 8) Tryz.func91 rfl rfl (Nat.le_of_ble_eq_true rfl) ?_
 refine W_seq ?_
 refine W_region rfl ?_
 refine S_assign rfl rfl rfl (v := (.slice none 0 0)) (rfl) ?_
 refine OPS.nil ?_
 change WP _ _ _ _ _ _
 refine W_seq ?_
 refine W_seq ?_
 refine W_region rfl ?_
 refine S_move rfl rfl rfl (v := .slice A l.length c) (rfl) ?_
 refine S_eqNil Tryz.underlying23 rfl rfl rfl (rfl) ?_
 rw [hA]
 refine OPS.nil ?_
 change WP _ _ _ _ _ _
 refine W_cond rfl (b := false) (rfl) (fun h => (by cases h)) (fun _ => ?_)
 refine W_skip ?_
 change WP _ _ _ _ _ _
 refine W_seq ?_
 refine W_region rfl ?_
 refine S_lit0 Tryz.underlying23 ti_uint32 rfl rfl ?_
 intro g1 w1 hg1 hs1 hB1 b1
 have hz1 := hB1.size
 have E := Below.step E hB1
 refine S_move rfl rfl rfl (v := .slice A l.length c) (rfl) ?_
 obtain ⟨a0, rfl⟩ : ∃ a0, A = some a0 := by cases A with | none => simp at hA | some a0 => exact ⟨a0, rfl⟩
 have hown : w1.ownsRow w0.heap.size 106 1 (.slice (some ⟨g1, 0, none⟩) 0 0) 0 [] := ⟨rfl, .inr ⟨g1, 0, #[], rfl, by omega, b1.at_, Nat.le_refl _, by simp [maxLen], rfl, rfl⟩⟩
 have h1 := h.below hB1
 refine S_append Tryz.underlying23 ti_uint32 rfl (by decide) rfl rfl rfl rfl (base := w0.heap.size) (a := a0) (k := l.length) (c := c) (news := nums .u32 l) (rfl) (rfl) hown (by rw [nums_len]; simp) (RN.srcs h1) (one_nums _ _) (by omega) (by omega) (by omega) ?_
 intro v2 w2 ho hg
 have E := Below.grownE E hg (by omega) (own_ge (by omega))
 refine S_assign rfl rfl rfl (v := v2) (rfl) ?_
 refine OPS.nil ?_
 change WP _ _ _ _ _ _
 refine W_ret ?_
 change Fin' _ _ _ _ _ _
 refine End1 (n := ⟨8, []⟩) (t := 2) rfl (by decide) (v := v2) (rfl) ?_
 exact ⟨E, ON.ofOwns (by simpa using ho) h.u32⟩


theorem natsClone_c (w0 : World) (v : Value) (l : List Int) {a b : Nat} (h : RN a b w0 v l) (hs : l.length ≤ SZ) : Ret Tryz.prog 91 [v] w0 (fun r w1 => Below w0.heap.size w0 w1 ∧ ON w0.heap.size w1 r l) := by
  obtain ⟨A, c, hv, hc, hm⟩ := h.form
  subst hv
  cases hA : A.isNone with
  | true => exact natsClone_n w0 A l c h hs hA
  | false => exact natsClone_s w0 A l c h hs hA


theorem val_two (x y : Int) : val [x, y] = x.toNat + 4294967296 * y.toNat := by simp [val]

set_option maxHeartbeats 400000 in
theorem natsOf_c (w0 : World) (x : Int) (hx : 0 ≤ x ∧ x < 18446744073709551616) :
    Ret Tryz.prog 154 [.int .u64 x] w0 (fun r w1 => Below w0.heap.size w0 w1 ∧ ON w0.heap.size w1 r (dg x.toNat)) := by
 have E := Below.refl w0.heap.size w0
 refine Ret_of (n := 10) Tryz.func154 rfl rfl (Nat.le_of_ble_eq_true rfl) ?_
 refine W_seq ?_
 refine W_region rfl ?_
 refine S_assign rfl rfl rfl (v := (.slice none 0 0)) (rfl) ?_
 refine OPS.nil ?_
 change WP _ _ _ _ _ _
 refine W_seq ?_
 refine W_region rfl ?_
 refine S_move rfl rfl rfl (v := .int .u64 x) (rfl) ?_
 refine S_conv Tryz.underlying124 Tryz.underlying106 rfl rfl rfl (rfl) (b := (x % 4294967296)) (wrap_u32' _) ?_
 refine S_move rfl rfl rfl (v := .int .u64 x) (rfl) ?_
 refine S_shr rfl rfl rfl rfl (rfl) (rfl) (by omega) (v := (x / 4294967296)) (shr32 _) ?_
 refine S_conv Tryz.underlying124 Tryz.underlying106 rfl rfl rfl (rfl) (b := (x / 4294967296)) (wrap_u32 (by omega) (by omega)) ?_
 refine S_lit Tryz.underlying23 ti_uint32 rfl rfl (by decide) (by decide) rfl (vs := [(.int .u32 (x % 4294967296)), (.int .u32 (x / 4294967296))]) (cs := [(.int .u32 (x % 4294967296)), (.int .u32 (x / 4294967296))]) rfl rfl (by simp [Value.cells]) rfl ?_
 intro g1 w1 hg1 hs1 hB1 b1
 have hz1 := hB1.size
 have E := Below.step E hB1
 replace b1 : Blk w1 g1 (nums .u32 [(x % 4294967296), (x / 4294967296)]) 106 := b1
 have hxu : U32 [(x % 4294967296), (x / 4294967296)] := U32.mk (by omega) (by omega) (U32.mk (by omega) (by omega) U32.nil)
 refine S_call en_nats_cut rfl rfl rfl (vs := [(.slice (some ⟨g1, 0, none⟩) 2 2)]) (rfl) (natsCut_c _ _ [(x % 4294967296), (x / 4294967296)] (RN.ofNums (a := 0) (b := 0) b1 hxu rfl (by omega))) ?_
 rintro r _ ⟨⟨A, c', k', hv, hr', hk', ht⟩, rfl⟩
 refine S_assign rfl rfl rfl (v := r) (rfl) ?_
 refine OPS.nil ?_
 change WP _ _ _ _ _ _
 refine W_ret ?_
 change Fin' _ _ _ _ _ _
 refine End1 (n := ⟨10, []⟩) (t := 2) rfl (by decide) (v := r) (rfl) ?_
 have := cut_on b1 hxu (B := w0.heap.size) (by omega) (m := 2) rfl (by omega) hv hr' hk' ht
 rw [val_two, show (x % 4294967296).toNat + 4294967296 * (x / 4294967296).toNat = x.toNat by omega] at this
 exact ⟨E, this⟩


theorem short_step {la xs : List Int} {i : Nat} {y r a : Int} (hi : i < xs.length) (hy : 0 < y) (hr : 0 ≤ r) (ha : 0 ≤ a) (ea : la.getD i 0 = a) (h : val (la.drop (i + 1)) = val (xs.drop (i + 1)) * y.toNat + r.toNat) :
    val (la.drop i) = val ((xs.set i ((r * 4294967296 + a) / y)).drop i) * y.toNat + ((r * 4294967296 + a) % y).toNat := by
  rw [val_drop_step la i, val_drop_step (xs.set i _) i, ea, getD_set_eq' _ _ _ hi, List.drop_set_of_lt (by omega), h]
  have h1 : 0 ≤ (r * 4294967296 + a) / y := Int.ediv_nonneg (by omega) (by omega)
  have h2 := Int.emod_nonneg (r * 4294967296 + a) (show y ≠ 0 by omega)
  have e : ((r * 4294967296 + a) / y).toNat * y.toNat + ((r * 4294967296 + a) % y).toNat = r.toNat * 4294967296 + a.toNat := by
    have ez : r * 4294967296 + a = ((r.toNat * 4294967296 + a.toNat : Nat) : Int) := by omega
    have ey : y = ((y.toNat : Nat) : Int) := by omega
    generalize r.toNat * 4294967296 + a.toNat = Z at *
    generalize y.toNat = Y at *
    subst ey
    rw [ez, ← Int.natCast_ediv, ← Int.natCast_emod, Int.toNat_natCast, Int.toNat_natCast, Nat.mul_comm]
    exact Nat.div_add_mod Z Y
  generalize ((r * 4294967296 + a) / y).toNat = q at *
  generalize ((r * 4294967296 + a) % y).toNat = s at *
  rw [Nat.mul_add, Nat.add_mul, Nat.mul_assoc 4294967296]
  omega

set_option maxHeartbeats 400000 in
theorem natsShort_c (w0 : World) (va : Value) (la : List Int) (y : Int) {a b : Nat} (ha : RN a b w0 va la) (hsa : la.length ≤ SZ) (hy : 0 < y ∧ y < 4294967296) :
    Ret Tryz.prog 153 [va, .int .u32 y] w0 (fun r w1 => Below w0.heap.size w0 w1 ∧ ∃ v, r = .tuple #[v, .int .u32 ((val la % y.toNat : Nat) : Int)] ∧ ON w0.heap.size w1 v (dg (val la / y.toNat))) := by
 have E := Below.refl w0.heap.size w0
 unfold SZ at hsa
 refine Ret_of (n := 33) Tryz.func153 rfl rfl (Nat.le_of_ble_eq_true rfl) ?_
 refine W_seq ?_
 refine W_region rfl ?_
 refine S_assign rfl rfl rfl (v := (.slice none 0 0)) (rfl) ?_
 refine S_assign rfl rfl rfl (v := (.int .u32 0)) (rfl) ?_
 refine OPS.nil ?_
 change WP _ _ _ _ _ _
 refine W_seq ?_
 refine W_region rfl ?_
 refine S_move rfl rfl rfl (v := va) (rfl) ?_
 refine S_len Tryz.underlying23 rfl rfl rfl (rfl) (m := la.length) (ha.len) ?_
 refine S_make Tryz.underlying23 ti_uint32 rfl rfl rfl rfl (rfl) (m := la.length) (by omega) (by omega) (by omega) ?_
 intro g1 w1 hg1 hs1 hB1 b1
 rw [nums_rep] at b1
 have hz1 := hB1.size
 have E := Below.step E hB1
 refine S_assign rfl rfl rfl (v := (.slice (some ⟨g1, 0, none⟩) (la.length) (la.length))) (rfl) ?_
 refine OPS.nil ?_
 change WP _ _ _ _ _ _
 refine W_seq ?_
 refine W_seq ?_
 refine W_region rfl ?_
 obtain ⟨m, hmm⟩ : ∃ m, m = la.length := ⟨_, rfl⟩
 refine S_move rfl rfl rfl (v := va) (rfl) ?_
 refine S_len Tryz.underlying23 rfl rfl rfl (rfl) (m := la.length) (ha.len) ?_
 refine S_sub64 rfl rfl rfl rfl (rfl) (rfl) (by omega) ?_
 refine S_assign rfl rfl rfl (v := (.int .i64 ((la.length : Int) - 1))) (rfl) ?_
 refine OPS.nil ?_
 change WP _ _ _ _ _ _
 refine W_block ?_
 refine W_loop (fun k σ w => ∃ (r : Int) (xs : List Int), σ 0 = va ∧ σ 1 = .int .u32 y ∧ σ 4 = .slice (some ⟨g1, 0, none⟩) m m ∧ σ 5 = .int .u32 r ∧ σ 6 = .int .i64 ((k : Int) - 1) ∧ k ≤ m ∧ (0 ≤ r ∧ r < y) ∧
      val (la.drop k) = val (xs.drop k) * y.toNat + r.toNat ∧ xs.length = m ∧ U32 xs ∧ Blk w g1 (nums .u32 xs) 106 ∧ Below w0.heap.size w0 w) (m) ⟨0, List.replicate m 0, rfl, rfl, by rw [hmm]; rfl, rfl, by rw [hmm]; rfl, Nat.le_refl _, ⟨by omega, by omega⟩, by rw [List.drop_of_length_le (by omega), List.drop_of_length_le (by simp)]; simp [val], by simp, U32.replicate m, by rw [hmm]; exact b1, E⟩ ?_
 rintro k σ w ⟨r, xs, s0, s1, s4, s5, s6, hk, hr, hval, hxl, hxu, b1, E⟩
 have hua := ha.u32.getD (k - 1)
 refine W_seq ?_
 refine W_seq ?_
 refine W_region rfl ?_
 refine S_move rfl rfl rfl (v := (.int .i64 ((k : Int) - 1))) (s6) ?_
 refine S_bin rfl rfl rfl rfl rfl (rfl) (rfl) (v := .bool (decide (((k : Int) - 1) ≥ 0))) rfl ?_
 refine OPS.nil ?_
 change WP _ _ _ _ _ _
 refine W_cond rfl (rfl) (fun hq14 => ?_) (fun hq14 => ?_)
 ·skip
  have pT := hq14
  replace hq14 := of_decide_eq_true hq14
  have qT := hq14
  try rw [pT]
  refine W_skip ?_
  change WP _ _ _ _ _ _
  refine W_seq ?_
  refine W_block ?_
  refine W_region rfl ?_
  obtain ⟨q1, q2, q3, q4⟩ := div_small (lo := la.getD (k - 1) 0) hr hua
  refine S_move rfl rfl rfl (v := (.slice (some ⟨g1, 0, none⟩) m m)) (s4) ?_
  refine S_move rfl rfl rfl (v := (.int .i64 ((k : Int) - 1))) (s6) ?_
  refine S_move rfl rfl rfl (v := (.int .u32 r)) (s5) ?_
  refine S_move rfl rfl rfl (v := va) (s0) ?_
  refine S_move rfl rfl rfl (v := (.int .i64 ((k : Int) - 1))) (s6) ?_
  obtain ⟨ad1, hp3, hc2⟩ := (ha.below E).at (k - 1) (by omega)
  refine S_idx Tryz.underlying23 ti_uint32 rfl rfl rfl rfl (rfl) (rfl) hp3 (by omega) ?_
  refine S_load rfl rfl rfl (rfl) (LD.one ti_uint32 hc2) ?_
  refine S_move rfl rfl rfl (v := (.int .u32 y)) (s1) ?_
  refine S_call en_math_bits_Div32 rfl rfl rfl (vs := [(.int .u32 r), (.int .u32 (la.getD ((k - 1)) 0)), (.int .u32 y)]) (rfl) (div32_c _ _ _ _ hr hua hy.2) ?_
  rintro _ w2 ⟨hB2, rfl⟩
  have hz2 := hB2.size
  have E := Below.step E hB2
  have hl_b1 := b1.lt
  have b1 := b1.below hB2
  refine S_move rfl rfl rfl (v := (.tuple #[.int .u32 ((r * 4294967296 + la.getD (k - 1) 0) / y), .int .u32 ((r * 4294967296 + la.getD (k - 1) 0) % y)])) (rfl) ?_
  refine S_extract rfl rfl rfl (rfl) rfl ?_
  refine S_extract rfl rfl rfl (rfl) rfl ?_
  refine S_idx Tryz.underlying23 ti_uint32 rfl rfl rfl rfl (rfl) (rfl) (j := (k - 1)) (ad := ⟨g1, (k - 1), none⟩) (SlAt.own1 (by omega)) (by omega) ?_
  refine S_storeN ti_uint32 rfl rfl rfl rfl (g := g1) (o := (k - 1)) (rfl) (a := ((r * 4294967296 + la.getD (k - 1) 0) / y)) (rfl) b1 (by omega) ?_
  intro w3 hU3 b1
  have E := Below.stepU E hU3 (by omega)
  have hz3 := hU3.size
  refine S_assign rfl rfl rfl (v := (.int .u32 ((r * 4294967296 + la.getD (k - 1) 0) % y))) (rfl) ?_
  refine OPS.nil ?_
  change WP _ _ _ _ _ _
  refine W_region rfl ?_
  refine S_move rfl rfl rfl (v := (.int .i64 ((k : Int) - 1))) (s6) ?_
  refine S_sub64 rfl rfl rfl rfl (rfl) (rfl) (by omega) ?_
  refine S_assign rfl rfl rfl (v := (.int .i64 (((k : Int) - 1) - 1))) (rfl) ?_
  refine OPS.nil ?_
  exact ⟨k - 1, by omega, _, _, s0, s1, s4, rfl, int_eq (by omega), by omega, ⟨q3, q4⟩, short_step (by omega) hy.1 hr.1 hua.1 rfl (by rw [show k - 1 + 1 = k by omega]; exact hval), by simpa using hxl, hxu.set _ (by omega) (by omega), b1, E⟩
 ·skip
  have pF := hq14
  replace hq14 := of_decide_eq_false hq14
  have qF := hq14
  try rw [pF]
  refine W_exit ?_
  change WP _ _ _ _ _ _
  refine W_seq ?_
  refine W_region rfl ?_
  refine S_move rfl rfl rfl (v := (.slice (some ⟨g1, 0, none⟩) m m)) (s4) ?_
  refine S_call en_nats_cut rfl rfl rfl (vs := [(.slice (some ⟨g1, 0, none⟩) m m)]) (rfl) (natsCut_c _ _ xs (RN.ofNums (a := 0) (b := 0) b1 hxu hxl (by omega))) ?_
  rintro r2 _ ⟨⟨A, c', k', hv, hr', hk', ht⟩, rfl⟩
  refine S_move rfl rfl rfl (v := (.int .u32 r)) (s5) ?_
  refine S_assign rfl rfl rfl (v := r2) (rfl) ?_
  refine S_assign rfl rfl rfl (v := (.int .u32 r)) (rfl) ?_
  refine OPS.nil ?_
  change WP _ _ _ _ _ _
  refine W_ret ?_
  change Fin' _ _ _ _ _ _
  refine End2 (n := ⟨33, []⟩) (t := 4) (u := 5) rfl (by decide) (by decide) (rfl) (rfl) ?_
  have hi : k = 0 := by omega
  subst hi
  simp only [List.drop_zero] at hval
  have := cut_on b1 hxu (B := w0.heap.size) (by omega) hxl (by omega) hv hr' hk' ht
  have hry : r.toNat < y.toNat := by omega
  have e1 : val la / y.toNat = val xs := by rw [hval, Nat.mul_comm, Nat.mul_add_div (by omega), Nat.div_eq_of_lt hry, Nat.add_zero]
  have e2 : val la % y.toNat = r.toNat := by rw [hval, Nat.mul_comm, Nat.mul_add_mod, Nat.mod_eq_of_lt hry]
  refine ⟨E, _, ?_, by rw [e1]; exact this⟩
  rw [e2, Int.toNat_of_nonneg hr.1]
  rfl


/-- How many noughts stand at the end of a number, and what is left is odd. -/
def Odd2 (n q : Nat) : Prop := ∃ m, n = 2 ^ q * (2 * m + 1)
theorem noughts_step {la : List Int} {i : Nat} (hz : la.getD i 0 = 0) (h : val la = 4294967296 ^ i * val (la.drop i)) : val la = 4294967296 ^ (i + 1) * val (la.drop (i + 1)) := by
  rw [h, val_drop_step la i, hz, Nat.pow_succ, Nat.mul_assoc]
  simp
theorem noughts_end {la : List Int} {i : Nat} {x : Int} (hx : 0 < x ∧ x < 4294967296) (ex : la.getD i 0 = x) (h : val la = 4294967296 ^ i * val (la.drop i)) : Odd2 (val la) (32 * i + ctz32 x) := by
  obtain ⟨m, hm⟩ := ctz32_spec hx
  have hc := (low_bit hx).2
  refine ⟨m + 2 ^ (31 - ctz32 x) * val (la.drop (i + 1)), ?_⟩
  rw [h, val_drop_step la i, ex, hm]
  have e : (4294967296 : Nat) = 2 ^ ctz32 x * (2 * 2 ^ (31 - ctz32 x)) := by
    rw [← Nat.pow_succ', ← Nat.pow_add, show ctz32 x + (31 - ctz32 x).succ = 32 by omega]
  have e2 : 2 ^ ctz32 x * (2 * m + 1) + 4294967296 * val (la.drop (i + 1)) = 2 ^ ctz32 x * (2 * (m + 2 ^ (31 - ctz32 x) * val (la.drop (i + 1))) + 1) := by
    rw [e, Nat.mul_assoc, ← Nat.mul_add, Nat.mul_assoc]
    congr 1
    omega
  rw [e2, Nat.pow_add, Nat.pow_mul, ← Nat.mul_assoc]

set_option maxHeartbeats 400000 in
theorem natsNoughts_c (w0 : World) (va : Value) (la : List Int) {a b : Nat} (ha : RN a b w0 va la) (hsa : la.length ≤ SZ) (hT : Tab w0) (h0 : 0 < val la) :
    Ret Tryz.prog 160 [va] w0 (fun r w1 => (∃ q : Nat, r = .int .u64 (q : Int) ∧ Odd2 (val la) q ∧ q < 32 * la.length) ∧ w0 = w1) := by
 unfold SZ at hsa
 refine Ret_of (n := 22) Tryz.func160 rfl rfl (Nat.le_of_ble_eq_true rfl) ?_
 refine W_seq ?_
 refine W_region rfl ?_
 refine S_assign rfl rfl rfl (v := (.int .u64 0)) (rfl) ?_
 refine OPS.nil ?_
 change WP _ _ _ _ _ _
 refine W_seq ?_
 refine W_seq ?_
 refine W_region rfl ?_
 refine S_move rfl rfl rfl (v := va) (rfl) ?_
 refine S_len Tryz.underlying23 rfl rfl rfl (rfl) (m := la.length) (ha.len) ?_
 refine S_move rfl rfl rfl (v := (.int .i64 0)) (rfl) ?_
 refine OPS.nil ?_
 change WP _ _ _ _ _ _
 refine W_block ?_
 refine W_loop (fun k σ w => ∃ (i : Nat), σ 2 = .int .u64 ((32 * i : Nat) : Int) ∧ σ 5 = va ∧ σ 6 = .int .i64 (la.length : Int) ∧ σ 7 = .int .i64 (i : Int) ∧ i + k = la.length ∧ val la = 4294967296 ^ i * val (la.drop i) ∧ w0 = w) (la.length) ⟨0, rfl, rfl, rfl, rfl, by omega, by simp, rfl⟩ ?_
 rintro k σ w ⟨i, s2, s5, s6, s7, hik, hval, rfl⟩
 have hua := ha.u32.getD i
 refine W_seq ?_
 refine W_region rfl ?_
 refine S_bin rfl rfl rfl rfl rfl (s7) (s6) (v := .bool (decide ((i : Int) < (la.length : Int)))) rfl ?_
 refine OPS.nil ?_
 change WP _ _ _ _ _ _
 refine W_seq ?_
 refine W_cond rfl (rfl) (fun hq8 => ?_) (fun hq8 => ?_)
 ·skip
  have pT := hq8
  replace hq8 := of_decide_eq_true hq8
  have qT := hq8
  try rw [pT]
  refine W_skip ?_
  change WP _ _ _ _ _ _
  refine W_seq ?_
  refine W_block ?_
  refine W_seq ?_
  refine W_region rfl ?_
  obtain ⟨ad1, hp3, hc2⟩ := ha.at i (by omega)
  refine S_idx Tryz.underlying23 ti_uint32 rfl rfl rfl rfl (s5) (s7) hp3 (by omega) ?_
  refine S_load rfl rfl rfl (rfl) (LD.one ti_uint32 hc2) ?_
  refine S_assign rfl rfl rfl (v := (.int .u32 (la.getD i 0))) (rfl) ?_
  refine OPS.nil ?_
  change WP _ _ _ _ _ _
  refine W_seq ?_
  refine W_seq ?_
  refine W_region rfl ?_
  refine S_move rfl rfl rfl (v := (.int .u32 (la.getD i 0))) (rfl) ?_
  refine S_bin rfl rfl rfl rfl rfl (rfl) (rfl) (v := .bool (((la.getD i 0) != 0))) rfl ?_
  refine OPS.nil ?_
  change WP _ _ _ _ _ _
  refine W_cond rfl (rfl) (fun hq12 => ?_) (fun hq12 => ?_)
  ·skip
   have pTT := hq12
   replace hq12 := bne_iff_ne.1 hq12
   have qTT := hq12
   try rw [pTT]
   refine W_seq ?_
   refine W_region rfl ?_
   have hc := (low_bit (x := la.getD i 0) (by omega)).2
   refine S_move rfl rfl rfl (v := (.int .u64 ((32 * i : Nat) : Int))) (s2) ?_
   refine S_move rfl rfl rfl (v := (.int .u32 (la.getD i 0))) (rfl) ?_
   refine S_call en_math_bits_TrailingZeros32 rfl rfl rfl (vs := [(.int .u32 (la.getD i 0))]) (rfl) (tz32_c _ _ (by omega) hT) ?_
   rintro _ _ ⟨rfl, rfl⟩
   refine S_conv Tryz.underlying3 Tryz.underlying125 rfl rfl rfl (rfl) (b := ((ctz32 (la.getD i 0) : Nat) : Int)) (wrap_u64 (by omega) (by omega)) ?_
   refine S_bin rfl rfl rfl rfl rfl (rfl) (rfl) (v := .int .u64 ((32 * i + ctz32 (la.getD i 0) : Nat) : Int)) (congrArg _ (Eq.trans (wrap_u64 (by omega) (by omega)) (by omega))) ?_
   refine S_assign rfl rfl rfl (v := (.int .u64 ((32 * i + ctz32 (la.getD i 0) : Nat) : Int))) (rfl) ?_
   refine OPS.nil ?_
   change WP _ _ _ _ _ _
   refine W_ret ?_
   change Fin' _ _ _ _ _ _
   refine End1 (n := ⟨22, []⟩) (t := 2) rfl (by decide) (v := (.int .u64 ((32 * i + ctz32 (la.getD i 0) : Nat) : Int))) (rfl) ?_
   exact ⟨⟨_, rfl, noughts_end (by omega) rfl hval, by omega⟩, rfl⟩
  ·skip
   have pTF := hq12
   replace hq12 := bne_eq_false_iff_eq.1 hq12
   have qTF := hq12
   try rw [pTF]
   refine W_skip ?_
   change WP _ _ _ _ _ _
   refine W_region rfl ?_
   refine S_move rfl rfl rfl (v := (.int .u64 ((32 * i : Nat) : Int))) (s2) ?_
   refine S_bin rfl rfl rfl rfl rfl (rfl) (rfl) (v := .int .u64 ((32 * (i + 1) : Nat) : Int)) (congrArg _ (Eq.trans (wrap_u64 (by omega) (by omega)) (by omega))) ?_
   refine S_assign rfl rfl rfl (v := (.int .u64 ((32 * (i + 1) : Nat) : Int))) (rfl) ?_
   refine OPS.nil ?_
   change WP _ _ _ _ _ _
   refine W_region rfl ?_
   refine S_add64 rfl rfl rfl rfl (s7) (rfl) (by omega) ?_
   refine S_move rfl rfl rfl (v := (.int .i64 ((i : Int) + 1))) (rfl) ?_
   refine OPS.nil ?_
   exact ⟨k - 1, by omega, i + 1, int_eq (by omega), s5, s6, int_eq (by omega), by omega, noughts_step hq12 hval, rfl⟩
 ·skip
  have pF := hq8
  replace hq8 := of_decide_eq_false hq8
  have qF := hq8
  exfalso
  have hi : i = la.length := by omega
  rw [hi, List.drop_length, val_nil, Nat.mul_zero] at hval
  omega

end Go.Proofs.YtccmicegihlfbaaGreatDoor

/- Long division, part by part: plain facts on numbers and lists of parts; no program in sight. -/
namespace Go.Proofs.YtccmicegihlfbaaGreatDoor

/-! ### 1. Guesses -/
section
variable {B M v v1 v2 vr u top u2 ur q : Nat}
theorem guess_split (hv : v = vr + M * (v2 + B * v1)) : q * v = q * vr + M * (q * (v2 + B * v1)) := by
  rw [hv, Nat.mul_add, ← Nat.mul_assoc, Nat.mul_comm q M, Nat.mul_assoc]
/-- A guess that has passed the test is one too much at most. -/
theorem guess_hi (hv : v = vr + M * (v2 + B * v1)) (hvr : vr < M) (hu : u = ur + M * (u2 + B * top)) (hq : q < B) (ht : q * (v2 + B * v1) ≤ u2 + B * top) (h1 : 1 ≤ v1) : q * v < u + v := by
  have e := guess_split (q := q) hv
  have h2 : M * (q * (v2 + B * v1)) ≤ M * (u2 + B * top) := Nat.mul_le_mul_left _ ht
  have h3 : q * vr ≤ q * M := Nat.mul_le_mul_left _ (by omega)
  have h4 : (q + 1) * M ≤ B * M := Nat.mul_le_mul_right _ hq
  have h5 : M * B ≤ M * (v2 + B * v1) := Nat.mul_le_mul_left _ (by have := Nat.mul_le_mul_left B h1; omega)
  rw [Nat.add_mul] at h4
  rw [Nat.mul_comm M B] at h5
  generalize M * (q * (v2 + B * v1)) = a1 at *
  generalize M * (u2 + B * top) = a2 at *
  generalize M * (v2 + B * v1) = a3 at *
  omega
/-- A guess that fails the test is too much. -/
theorem guess_lo (hv : v = vr + M * (v2 + B * v1)) (hu : u = ur + M * (u2 + B * top)) (hur : ur < M) (ht : u2 + B * top < q * (v2 + B * v1)) : u < q * v := by
  have e := guess_split (q := q) hv
  have h2 := Nat.mul_le_mul_left M (show u2 + B * top + 1 ≤ q * (v2 + B * v1) from ht)
  rw [Nat.mul_add M] at h2
  generalize M * (q * (v2 + B * v1)) = a1 at *
  generalize M * (u2 + B * top) = a2 at *
  omega
/-- The first guess is not too little. -/
theorem guess_start (hv : v = vr + M * (v2 + B * v1)) (hu : u = ur + M * (u2 + B * top)) (hur : ur < M) (hu2 : u2 < B) (h1 : 1 ≤ v1) : u / v ≤ top / v1 := by
  rw [Nat.le_div_iff_mul_le h1]
  have h := Nat.div_mul_le_self u v
  have e := guess_split (q := u / v) hv
  refine Nat.not_lt.1 fun hc => ?_
  have h2 : B * (top + 1) ≤ u / v * (v2 + B * v1) := by
    rw [Nat.mul_add (u / v), ← Nat.mul_assoc, Nat.mul_comm (u / v) B, Nat.mul_assoc B]
    have := Nat.mul_le_mul_left B (show top + 1 ≤ u / v * v1 from hc)
    generalize u / v * v2 = a1 at *
    omega
  have h3 := Nat.mul_le_mul_left M h2
  have h4 : M * (u2 + B * top + 1) ≤ M * (B * (top + 1)) := Nat.mul_le_mul_left _ (by rw [Nat.mul_add B]; omega)
  rw [Nat.mul_add M] at h4
  generalize M * (u / v * (v2 + B * v1)) = a1 at *
  generalize M * (u2 + B * top) = a2 at *
  generalize M * (B * (top + 1)) = a3 at *
  generalize u / v * vr = a4 at *
  omega
end
theorem fix_no {u v q h owed P low new : Nat} (hu : u = low + h * P) (hs : low + owed * P = new + q * v) (hle : owed ≤ h) (hQ : u / v ≤ q) (hv : 0 < v) (hvP : v ≤ P) : q = u / v ∧ new = u % v := by
  have e : q * v + (new + (h - owed) * P) = u := by
    rw [Nat.sub_mul]
    have := Nat.mul_le_mul_right P hle
    omega
  have h1 : q ≤ u / v := (Nat.le_div_iff_mul_le hv).2 (by omega)
  have h2 : q = u / v := Nat.le_antisymm h1 hQ
  refine ⟨h2, ?_⟩
  have h3 := Nat.div_add_mod u v
  rw [← h2, Nat.mul_comm] at h3
  have h4 := Nat.mod_lt u hv
  have h5 : h - owed = 0 := by
    refine Nat.eq_zero_of_not_pos fun hp => ?_
    have := Nat.mul_le_mul_right P (show 1 ≤ h - owed from hp)
    omega
  rw [h5] at e
  omega
theorem fix_yes {u v q h owed P low new new2 c : Nat} (hu : u = low + h * P) (hs : low + owed * P = new + q * v) (hlt : h < owed) (hnew : new < P) (hq : q * v < u + v) (hv : 0 < v) (hvP : v ≤ P) (hb : new + v = c * P + new2) (hn2 : new2 < P) :
    q - 1 = u / v ∧ new2 = u % v ∧ 1 ≤ q := by
  have hd : (owed - h) * P + h * P = owed * P := by rw [← Nat.add_mul]; congr 1; omega
  have hP : P ≤ (owed - h) * P := Nat.le_mul_of_pos_left _ (by omega)
  have h1 : u < q * v := by omega
  have hq0 : 1 ≤ q := by
    refine Nat.pos_of_ne_zero fun h0 => ?_
    subst h0
    omega
  have e1 : (q - 1) * v + v = q * v := by
    have : q - 1 + 1 = q := by omega
    rw [← Nat.succ_mul, Nat.succ_eq_add_one, this]
  have h2 : q - 1 = u / v := by
    refine Nat.le_antisymm ((Nat.le_div_iff_mul_le hv).2 (by omega)) ?_
    have := (Nat.div_lt_iff_lt_mul hv).2 h1
    omega
  refine ⟨h2, ?_, hq0⟩
  have h3 := Nat.div_add_mod u v
  rw [← h2, Nat.mul_comm] at h3
  have h4 := Nat.mod_lt u hv
  have e2 : u % v + (owed - h) * P = c * P + new2 := by omega
  have hc : c = owed - h := by
    rcases Nat.lt_trichotomy c (owed - h) with hc | hc | hc
    · have := Nat.mul_le_mul_right P (show c + 1 ≤ owed - h from hc)
      rw [Nat.add_mul] at this
      omega
    · exact hc
    · have := Nat.mul_le_mul_right P (show owed - h + 1 ≤ c from hc)
      rw [Nat.add_mul] at this
      omega
  rw [hc] at e2
  omega

/-! ### 2. Lists of parts -/
theorem val_cut (l : List Int) (k : Nat) : val l = val (l.take k) + 4294967296 ^ k * val (l.drop k) := by
  by_cases h : k ≤ l.length
  · conv => lhs; rw [← List.take_append_drop k l, val_append, List.length_take, Nat.min_eq_left h]
  · rw [List.take_of_length_le (by omega), List.drop_of_length_le (by omega), val_nil]; omega
theorem getD_drop' (l : List Int) (i k : Nat) : (l.drop i).getD k 0 = l.getD (i + k) 0 := by
  simp [List.getD_eq_getElem?_getD, List.getElem?_drop]
theorem val_part (l : List Int) (i k : Nat) : val ((l.drop i).take (k + 1)) = val ((l.drop i).take k) + 4294967296 ^ k * (l.getD (i + k) 0).toNat := by
  rw [val_step, getD_drop']
theorem val_take_lt {l : List Int} (h : U32 l) (k : Nat) : val (l.take k) < 4294967296 ^ k :=
  Nat.lt_of_lt_of_le (val_lt (h.take k)) (Nat.pow_le_pow_right (by decide) (by simp; omega))
theorem set_take_le (l : List Int) (i j : Nat) (x : Int) (h : i ≤ j) : (l.set j x).take i = l.take i := by
  apply List.ext_getElem?
  intro t
  by_cases ht : t < i
  · rw [List.getElem?_take_of_lt ht, List.getElem?_take_of_lt ht, List.getElem?_set_ne (by omega)]
  · rw [List.getElem?_eq_none (by simp; omega), List.getElem?_eq_none (by simp; omega)]
theorem val_part_set (l : List Int) (i k : Nat) (x : Int) (h : i + k < l.length) : val (((l.set (i + k) x).drop i).take (k + 1)) = val ((l.drop i).take k) + 4294967296 ^ k * x.toNat := by
  rw [val_part, getD_set_eq' _ _ _ h]
  congr 2
  apply List.ext_getElem?
  intro t
  by_cases ht : t < k
  · rw [List.getElem?_take_of_lt ht, List.getElem?_take_of_lt ht, List.getElem?_drop, List.getElem?_drop, List.getElem?_set_ne (by omega)]
  · rw [List.getElem?_eq_none (by simp; omega), List.getElem?_eq_none (by simp; omega)]
/-- So many times y is taken off one part. -/
theorem msub_digit {x p : Int} (hx : 0 ≤ x ∧ x < 4294967296) (hp : 0 ≤ p) : x + (p / 4294967296 + if x < p % 4294967296 then 1 else 0) * 4294967296 = (x - p % 4294967296) % 4294967296 + p := by
  split <;> omega
theorem msub_step {r0 rk bs : List Int} {i k : Nat} {g owed x y x' owed' : Int} (hj : i + k < rk.length) (ex : r0.getD (i + k) 0 = x) (ey : bs.getD k 0 = y) (hx : 0 ≤ x) (hy : 0 ≤ y) (hg : 0 ≤ g) (ho : 0 ≤ owed) (hx' : 0 ≤ x') (ho' : 0 ≤ owed')
    (hd : x + owed' * 4294967296 = x' + (g * y + owed)) (hI : val ((r0.drop i).take k) + 4294967296 ^ k * owed.toNat = val ((rk.drop i).take k) + g.toNat * val (bs.take k)) :
    val ((r0.drop i).take (k + 1)) + 4294967296 ^ (k + 1) * owed'.toNat = val (((rk.set (i + k) x').drop i).take (k + 1)) + g.toNat * val (bs.take (k + 1)) := by
  rw [val_part, val_part_set _ _ _ _ hj, val_step, ex, ey]
  obtain ⟨x, rfl⟩ := Int.eq_ofNat_of_zero_le hx
  obtain ⟨y, rfl⟩ := Int.eq_ofNat_of_zero_le hy
  obtain ⟨g, rfl⟩ := Int.eq_ofNat_of_zero_le hg
  obtain ⟨owed, rfl⟩ := Int.eq_ofNat_of_zero_le ho
  obtain ⟨x', rfl⟩ := Int.eq_ofNat_of_zero_le hx'
  obtain ⟨owed', rfl⟩ := Int.eq_ofNat_of_zero_le ho'
  simp only [Int.toNat_natCast] at *
  have hd' : x + owed' * 4294967296 = x' + (g * y + owed) := by
    have e : ((g * y : Nat) : Int) = (g : Int) * (y : Int) := Int.natCast_mul g y
    rw [← e] at hd
    omega
  have h2 := congrArg (4294967296 ^ k * ·) hd'
  simp only [Nat.mul_add] at h2
  rw [Nat.mul_add g, Nat.pow_succ, show 4294967296 ^ k * 4294967296 * owed' = 4294967296 ^ k * (owed' * 4294967296) by rw [Nat.mul_assoc, Nat.mul_comm 4294967296], show g * (4294967296 ^ k * y) = 4294967296 ^ k * (g * y) by rw [← Nat.mul_assoc, Nat.mul_comm g, Nat.mul_assoc]]
  generalize 4294967296 ^ k * (owed' * 4294967296) = a1 at *
  generalize 4294967296 ^ k * (g * y) = a2 at *
  generalize 4294967296 ^ k * x = a3 at *
  generalize 4294967296 ^ k * x' = a4 at *
  generalize 4294967296 ^ k * owed = a5 at *
  generalize g * val (bs.take k) = a6 at *
  omega
/-- A number is given back, part by part. -/
theorem aback_step {r0 rk bs : List Int} {i k : Nat} {c x y x' c' : Int} (hj : i + k < rk.length) (ex : r0.getD (i + k) 0 = x) (ey : bs.getD k 0 = y) (hx : 0 ≤ x) (hy : 0 ≤ y) (hc : 0 ≤ c) (hx' : 0 ≤ x') (hc' : 0 ≤ c')
    (hd : x + y + c = x' + c' * 4294967296) (hI : val ((r0.drop i).take k) + val (bs.take k) = val ((rk.drop i).take k) + 4294967296 ^ k * c.toNat) :
    val ((r0.drop i).take (k + 1)) + val (bs.take (k + 1)) = val (((rk.set (i + k) x').drop i).take (k + 1)) + 4294967296 ^ (k + 1) * c'.toNat := by
  rw [val_part, val_part_set _ _ _ _ hj, val_step, ex, ey]
  have hd' : x.toNat + y.toNat + c.toNat = x'.toNat + c'.toNat * 4294967296 := by omega
  have h2 := congrArg (4294967296 ^ k * ·) hd'
  simp only [Nat.mul_add] at h2
  rw [Nat.pow_succ, show 4294967296 ^ k * 4294967296 * c'.toNat = 4294967296 ^ k * (c'.toNat * 4294967296) by rw [Nat.mul_assoc, Nat.mul_comm 4294967296]]
  generalize 4294967296 ^ k * (c'.toNat * 4294967296) = a1 at *
  generalize 4294967296 ^ k * x.toNat = a3 at *
  generalize 4294967296 ^ k * x'.toNat = a4 at *
  generalize 4294967296 ^ k * y.toNat = a5 at *
  generalize 4294967296 ^ k * c.toNat = a6 at *
  omega

/-! ### 3. A step of the whole -/
/-- What is divided in one step: so many parts from a place on. -/
theorem step_u {r0 : List Int} {i n b : Nat} (hu : U32 r0) (h2 : val (r0.drop (i + 1)) < b) (hb : b < 4294967296 ^ n) :
    val (r0.drop i) = val ((r0.drop i).take (n + 1)) ∧ val (r0.drop i) < 4294967296 * b := by
  have h3 := val_cut (r0.drop (i + 1)) n
  have h4 : val ((r0.drop (i + 1)).drop n) = 0 := by
    refine Nat.eq_zero_of_not_pos fun hp => ?_
    have := Nat.mul_le_mul_left (4294967296 ^ n) (show 1 ≤ _ from hp)
    omega
  have h5 := val_cut (r0.drop i) (n + 1)
  rw [List.drop_drop] at h4 h5
  rw [show i + (n + 1) = i + 1 + n by omega, h4, Nat.mul_zero, Nat.add_zero] at h5
  refine ⟨h5, ?_⟩
  rw [val_drop_step]
  have := hu.getD i
  omega
theorem outer_step {la qs r0 r1 : List Int} {i b : Nat} {d : Int} (hI : val la = val (qs.drop (i + 1)) * 4294967296 ^ (i + 1) * b + val r0) (ht : r1.take i = r0.take i) (hr : val (r1.drop i) = val (r0.drop i) % b)
    (hd : d.toNat = val (r0.drop i) / b) (hi : i < qs.length) : val la = val ((qs.set i d).drop i) * 4294967296 ^ i * b + val r1 := by
  rw [hI, val_cut r0 i, val_cut r1 i, ht, hr, val_drop_step (qs.set i d) i, getD_set_eq' _ _ _ hi, List.drop_set_of_lt (by omega), hd]
  have h := Nat.div_add_mod (val (r0.drop i)) b
  generalize val (r0.drop i) / b = Q at *
  generalize val (r0.drop i) % b = R at *
  rw [← h, Nat.pow_succ, Nat.add_mul, Nat.add_mul, Nat.mul_add]
  generalize val (qs.drop (i + 1)) = A
  generalize 4294967296 ^ i = X
  have e1 : A * (X * 4294967296) * b = 4294967296 * A * X * b := by ac_rfl
  have e2 : X * (b * Q) = Q * X * b := by ac_rfl
  rw [e1, e2]
  omega
/-- Parts of numbers, the highest ones by themselves. -/
theorem top3 (l : List Int) (i m : Nat) : val ((l.drop i).take (m + 3)) = val ((l.drop i).take m) + 4294967296 ^ m * ((l.getD (i + m) 0).toNat + 4294967296 * ((l.getD (i + m + 2) 0).toNat * 4294967296 + (l.getD (i + m + 1) 0).toNat)) := by
  rw [val_part l i (m + 2), val_part l i (m + 1), val_part l i m, show 4294967296 ^ (m + 2) = 4294967296 ^ m * 4294967296 * 4294967296 by rw [Nat.pow_succ, Nat.pow_succ], Nat.pow_succ, ← Nat.add_assoc i m 2, ← Nat.add_assoc i m 1]
  generalize 4294967296 ^ m = X
  generalize (l.getD (i + m) 0).toNat = a
  generalize (l.getD (i + m + 1) 0).toNat = b
  generalize (l.getD (i + m + 2) 0).toNat = c
  simp only [Nat.mul_add, Nat.mul_assoc]
  rw [show X * (4294967296 * (4294967296 * c)) = X * (4294967296 * (c * 4294967296)) by rw [Nat.mul_comm c]]
  omega
theorem top2 (l : List Int) (m : Nat) (h : l.length = m + 2) : val l = val (l.take m) + 4294967296 ^ m * ((l.getD m 0).toNat + 4294967296 * (l.getD (m + 1) 0).toNat) := by
  have e : l = l.take (m + 2) := (List.take_of_length_le (by omega)).symm
  conv => lhs; rw [e, val_step, val_step, Nat.pow_succ]
  simp only [Nat.mul_add, Nat.mul_assoc]
  omega
end Go.Proofs.YtccmicegihlfbaaGreatDoor

/- The order of two numbers, and the greatest that divides both: plain facts; no program in sight. -/
namespace Go.Proofs.YtccmicegihlfbaaGreatDoor

/-- Below 0, 0, above 0. -/
def cmpN (a b : Nat) : Int := if a < b then -1 else if a = b then 0 else 1
theorem cmpN_lt {a b : Nat} (h : a < b) : cmpN a b = -1 := by simp [cmpN, h]
theorem cmpN_gt {a b : Nat} (h : b < a) : cmpN a b = 1 := by unfold cmpN; rw [if_neg (by omega), if_neg (by omega)]
theorem cmpN_eq {a b : Nat} (h : a = b) : cmpN a b = 0 := by subst h; simp [cmpN]
theorem cmpN_range (a b : Nat) : -1 ≤ cmpN a b ∧ cmpN a b ≤ 1 := by unfold cmpN; split <;> (try split) <;> omega
theorem cmpN_lt0 {a b : Nat} : cmpN a b < 0 ↔ a < b := by unfold cmpN; split <;> (try split) <;> omega
theorem cmpN_eq0 {a b : Nat} : cmpN a b = 0 ↔ a = b := by unfold cmpN; split <;> (try split) <;> omega
theorem cmpN_eq1 {a b : Nat} : cmpN a b = 1 ↔ b < a := by unfold cmpN; split <;> (try split) <;> omega
theorem cmp_lt {la lb : List Int} (hu : U32 la) (i : Nat) (h : val (la.drop (i + 1)) = val (lb.drop (i + 1))) (hx : (la.getD i 0).toNat < (lb.getD i 0).toNat) : val la < val lb := by
  rw [val_cut la i, val_cut lb i, val_drop_step la i, val_drop_step lb i, h]
  have h1 := val_take_lt hu i
  have h2 := Nat.mul_le_mul_left (4294967296 ^ i) (show (la.getD i 0).toNat + 4294967296 * val (lb.drop (i + 1)) + 1 ≤ (lb.getD i 0).toNat + 4294967296 * val (lb.drop (i + 1)) by omega)
  rw [Nat.mul_add (4294967296 ^ i) (_ + _) 1] at h2
  omega
theorem drop_eq_step {la lb : List Int} (i : Nat) (h : val (la.drop (i + 1)) = val (lb.drop (i + 1))) (hx : la.getD i 0 = lb.getD i 0) : val (la.drop i) = val (lb.drop i) := by
  rw [val_drop_step la i, val_drop_step lb i, h, hx]
theorem val_lt_len {la lb : List Int} (hu : U32 la) (hv : U32 lb) (hk : okL lb = true) (h : la.length < lb.length) : val la < val lb := by
  have h0 : 0 < lb.length := by omega
  have hz : lb.getD (lb.length - 1) 0 ≠ 0 := by
    rw [okL_getD h0] at hk
    simpa using hk
  have h1 := hv.getD (lb.length - 1)
  have h2 := val_lt hu
  have h3 := val_cut lb (lb.length - 1)
  rw [val_drop_step, show lb.length - 1 + 1 = lb.length by omega, List.drop_length, val_nil] at h3
  have h4 := Nat.mul_le_mul_left (4294967296 ^ (lb.length - 1)) (show 1 ≤ (lb.getD (lb.length - 1) 0).toNat + 4294967296 * 0 by omega)
  have h5 := Nat.pow_le_pow_right (show 0 < 4294967296 by decide) (show la.length ≤ lb.length - 1 by omega)
  omega

/-! ### The greatest that divides both -/
theorem odd_coprime {a : Nat} (k : Nat) (h : a % 2 = 1) : Nat.gcd (2 ^ k) a = 1 := by
  induction k with
  | zero => simp
  | succ k ih =>
    have h2 : Nat.Coprime 2 a := by
      rw [Nat.Coprime, Nat.gcd_rec, h]
      simp
    have h3 : Nat.Coprime (2 ^ k) a := ih
    rw [Nat.pow_succ]
    exact Nat.Coprime.mul_left h3 h2
theorem gcd_odd_pow {a b : Nat} (k : Nat) (h : a % 2 = 1) : Nat.gcd a (2 ^ k * b) = Nat.gcd a b :=
  Nat.Coprime.gcd_mul_left_cancel_right b (odd_coprime k h)
theorem gcd_pow_odd {a b : Nat} (k : Nat) (h : b % 2 = 1) : Nat.gcd (2 ^ k * a) b = Nat.gcd a b := by
  rw [Nat.gcd_comm, gcd_odd_pow k h, Nat.gcd_comm]
theorem gcd_pows {a b n m : Nat} (ha : a % 2 = 1) (hb : b % 2 = 1) : Nat.gcd (2 ^ n * a) (2 ^ m * b) = Nat.gcd a b * 2 ^ min n m := by
  rcases Nat.le_total n m with h | h
  · rw [Nat.min_eq_left h, show m = n + (m - n) by omega, Nat.pow_add, Nat.mul_assoc, Nat.gcd_mul_left, gcd_odd_pow _ ha, Nat.mul_comm]
  · rw [Nat.min_eq_right h, show n = m + (n - m) by omega, Nat.pow_add, Nat.mul_assoc, Nat.gcd_mul_left, gcd_pow_odd _ hb, Nat.mul_comm]
theorem Odd2.div {n q : Nat} (h : Odd2 n q) : (n / 2 ^ q) % 2 = 1 ∧ n = 2 ^ q * (n / 2 ^ q) := by
  obtain ⟨m, rfl⟩ := h
  rw [Nat.mul_div_cancel_left _ (Nat.pow_pos (by decide))]
  exact ⟨by omega, rfl⟩
theorem gcd_round {a b c q : Nat} (ha : a % 2 = 1) (hab : a < b) (h : Odd2 (b - a) q) (hc : c = (b - a) / 2 ^ q) : Nat.gcd a c = Nat.gcd a b ∧ c % 2 = 1 ∧ 0 < c ∧ c < b := by
  obtain ⟨h1, h2⟩ := h.div
  subst hc
  refine ⟨?_, h1, Nat.pos_of_ne_zero (fun h0 => by rw [h0] at h1; cases h1), ?_⟩
  · rw [← gcd_odd_pow (b := (b - a) / 2 ^ q) q ha, ← h2]
    conv => rhs; rw [show b = b - a + a by omega]
    rw [Nat.gcd_add_self_right]
  · have := Nat.div_le_self (b - a) (2 ^ q)
    omega
end Go.Proofs.YtccmicegihlfbaaGreatDoor

/- The order of two numbers from 0 on. -/
namespace Go.Proofs.YtccmicegihlfbaaGreatDoor
open Go.RowKit


theorem cells_of_cell {w : World} {a : Addr} {v : Value} (h : w.cell? a = some v) : ∃ o, w.heap[a.block]? = some o ∧ o.isCells = true := by
  unfold World.cell? at h
  cases hb : w.heap[a.block]? with
  | none => rw [hb] at h; cases h
  | some o => cases o <;> simp only [hb] at h <;> first | exact ⟨_, rfl, rfl⟩ | cases h
theorem cell_kept {w w' : World} {g : Nat → Prop} {a : Addr} {v : Value} (h : w.cell? a = some v) (hk : Keeps g w w') (hg : ¬ g a.block) : w'.cell? a = some v := by
  obtain ⟨o, h1, h2⟩ := cells_of_cell h
  exact (World.cell?_of_block ((hk.2 _ _ hg h1 h2).trans h1.symm)).trans h
theorem RN.kept {G : Nat} {w w' : World} {v : Value} {l : List Int} (h : RN G (G + 1) w v l) (hk : Keeps (fun k => k = G) w w') : RN G (G + 1) w' v l := by
  obtain ⟨hu, A, c, hv, h1, h2, h3⟩ := h
  refine ⟨hu, A, c, hv, h1, h2, fun j hj => ?_⟩
  obtain ⟨ad, hA, hb, hc⟩ := h3 j hj
  exact ⟨ad, hA, hb, cell_kept hc hk (by rw [add_block]; omega)⟩
theorem Blk.kept {G g : Nat} {w w' : World} {cs : List Value} {t : TypeId} (h : Blk w g cs t) (hk : Keeps (fun k => k = G) w w') (hg : g ≠ G) : Blk w' g cs t := ⟨hk.2 _ _ hg h.at_ rfl⟩
theorem grown_of_below {w w' : World} (h : Below w.heap.size w w') : w.grownBy w' none := ⟨h.os, h.tape, h.output, h.size, fun k hk _ => h.block k hk⟩
theorem blk_own {B g : Nat} {W W' : World} {cs : List Value} {t : TypeId} {row : Option Nat} (h : Blk W g cs t) (hg : W.grownBy W' row) (hr : ∀ r, row = some r → B ≤ r ∧ ∃ o : Obj, W.heap[r]? = some o ∧ o.isCells = false) : Blk W' g cs t :=
  h.grown hg (fun e => by
    obtain ⟨_, o, ho, hc⟩ := hr _ e.symm
    have := h.at_
    rw [ho] at this
    cases this
    cases hc)
theorem below_own {B n0 : Nat} {w0 W W' : World} {row : Option Nat} (h : Below n0 w0 W) (hn : n0 ≤ w0.heap.size) (hg : W.grownBy W' row) (hr : ∀ r, row = some r → B ≤ r ∧ ∃ o : Obj, W.heap[r]? = some o ∧ o.isCells = false) (hB : n0 ≤ B) : Below n0 w0 W' :=
  h.grown hg (Nat.le_trans hn h.size) (fun k e => Nat.le_trans hB (hr k e).1)
theorem RN.cells {a b : Nat} {w : World} {v : Value} {l : List Int} (h : RN a b w v l) : v.cells.toList = [v] := by
  obtain ⟨A, c, rfl, _⟩ := h.form
  rfl
/-- The numbers below N, the highest first: so many of them. -/
def upL (N j : Nat) : List Nat := (List.range j).map fun t => N - 1 - t
theorem upL_succ (N j : Nat) : upL N (j + 1) = upL N j ++ [N - 1 - j] := by simp [upL, List.range_succ]
theorem upL_len (N j : Nat) : (upL N j).length = j := by simp [upL]
theorem mem_upL {N j x : Nat} (h : x ∈ upL N j) : x < N ∨ N = 0 := by
  simp only [upL, List.mem_map, List.mem_range] at h
  obtain ⟨t, _, rfl⟩ := h
  omega

set_option maxHeartbeats 400000 in
theorem pairs1_c (w0 : World) {G ga gb l N : Nat} {va vb : Value} {la lb : List Int} (hN : N = max la.length lb.length) (ha : RN G (G + 1) w0 va la) (hb : RN G (G + 1) w0 vb lb) (bA : Blk w0 ga [va] 23) (bB : Blk w0 gb [vb] 23) (hga : ga ≠ G) (hgb : gb ≠ G)
    {J Jx : List Nat → World → Prop} (hJ : AbidesFrom w0.heap.size J)
    (hY : ∀ pre x W1, J pre W1 → pre.length < N → YieldAt Fence.wide 3 Tryz.prog l #[.int .u64 (atN la ((x : Nat) : Int)), .int .u64 (atN lb ((x : Nat) : Int))] W1 fun e W' =>
      (e = .returned (.bool true) ∧ J (pre ++ [x]) W' ∧ Keeps (fun k => k = G) W1 W') ∨ (e = .returned (.bool false) ∧ Jx (pre ++ [x]) W')) (hJ_ : J [] w0) :
    Ret Tryz.prog 250 [.func (.yield l) #[] #[], (.pointer (some ⟨ga, 0, none⟩)), (.pointer (some ⟨gb, 0, none⟩))] w0 (fun r W' => (∃ xs, xs = upL N N ∧ J xs W') ∨ ∃ pre, (∃ j, j < N ∧ pre = upL N (j + 1)) ∧ Jx pre W') := by
 have K : Keeps (fun k => k = G) w0 w0 := Keeps.below (Below.refl _ _)
 have hma := ha.maxl
 have hmb := hb.maxl
 refine Ret_of (n := 24) Tryz.func250 rfl rfl (Nat.le_of_ble_eq_true rfl) ?_
 refine W_seq ?_
 refine W_region rfl ?_
 refine S_load rfl rfl rfl (rfl) (LD.blk1 ti_api_Nat bA (v := va) rfl) ?_
 refine S_len Tryz.underlying23 rfl rfl rfl (rfl) (m := la.length) ((ha.kept K).len) ?_
 refine S_load rfl rfl rfl (rfl) (LD.blk1 ti_api_Nat bB (v := vb) rfl) ?_
 refine S_len Tryz.underlying23 rfl rfl rfl (rfl) (m := lb.length) ((hb.kept K).len) ?_
 refine S_max rfl rfl rfl rfl (rfl) (rfl) (v := (N : Int)) (by rw [hN]; omega) ?_
 refine S_sub64 rfl rfl rfl rfl (rfl) (rfl) (by omega) ?_
 refine S_assign rfl rfl rfl (v := (.int .i64 ((N : Int) - 1))) (rfl) ?_
 refine OPS.nil ?_
 change WP _ _ _ _ _ _
 refine W_block ?_
 refine W_loop (fun k σ w => σ 0 = .func (.yield l) #[] #[] ∧ σ 1 = .pointer (some ⟨ga, 0, none⟩) ∧ σ 2 = .pointer (some ⟨gb, 0, none⟩) ∧ σ 4 = .int .i64 ((k : Int) - 1) ∧ k ≤ N ∧ Keeps (fun k => k = G) w0 w ∧ J (upL N (N - k)) w) (N) ⟨rfl, rfl, rfl, rfl, Nat.le_refl _, K, by rw [Nat.sub_self]; exact hJ_⟩ ?_
 rintro k σ w ⟨s0, s1, s2, s4, hkN, K, hJ_⟩
 have bA := bA.kept K hga
 have bB := bB.kept K hgb
 replace hJ : AbidesFrom w0.heap.size J := hJ
 refine W_seq ?_
 refine W_seq ?_
 refine W_region rfl ?_
 refine S_move rfl rfl rfl (v := (.int .i64 ((k : Int) - 1))) (s4) ?_
 refine S_bin rfl rfl rfl rfl rfl (rfl) (rfl) (v := .bool (decide (((k : Int) - 1) ≥ 0))) rfl ?_
 refine OPS.nil ?_
 change WP _ _ _ _ _ _
 refine W_cond rfl (rfl) (fun hq12 => ?_) (fun hq12 => ?_)
 ·skip
  have pT := hq12
  replace hq12 := of_decide_eq_true hq12
  have qT := hq12
  have e1 : ((k : Int) - 1) = ((k - 1 : Nat) : Int) := by omega
  try rw [pT]
  refine W_skip ?_
  change WP _ _ _ _ _ _
  refine W_seq ?_
  refine W_block ?_
  refine W_seq ?_
  refine D_begin_ mixed_ rfl rfl ?_
  intro w1 hB1 hz_1
  have hz1 := hB1.size
  have hl_bA := bA.lt
  have bA := bA.below hB1
  have hl_bB := bB.lt
  have bB := bB.below hB1
  have K := K.t (Keeps.below hB1)
  have hJ_ := hJ _ _ _ none hJ_ (grown_of_below hB1) (fun r e => by cases e)
  have hS_ : Below w1.heap.size w1 w1 := Below.refl _ _
  have bA_S := bA
  have bB_S := bB
  have K_S := K
  have hJ__S := hJ_
  refine D_move (i := 0) (listed2 := (bm 9 1)) (by kernel_rfl) rfl rfl rfl (v := (.func (.yield l) #[] #[])) (s0) hS_ ?_
  refine D_load (i := 1) (listed2 := (bm 9 3)) (by kernel_rfl) rfl rfl rfl (s1) (fun _ hS2 => LD.blk1 ti_api_Nat (bA_S.below hS2) (v := va) rfl) hS_ ?_
  refine D_move (i := 2) (listed2 := (bm 9 7)) (by kernel_rfl) rfl rfl rfl (v := (.int .i64 ((k : Int) - 1))) (s4) hS_ ?_
  refine D_load (i := 4) (listed2 := (bm 9 23)) (by kernel_rfl) rfl rfl rfl (s2) (fun _ hS2 => LD.blk1 ti_api_Nat (bB_S.below hS2) (v := vb) rfl) hS_ ?_
  refine D_move (i := 5) (listed2 := (bm 9 55)) (by kernel_rfl) rfl rfl rfl (v := (.int .i64 ((k : Int) - 1))) (s4) hS_ ?_
  refine D_only (i := 3) (by kernel_rfl) (listed2 := (bm 9 63)) (by kernel_rfl) ?_
  refine S_call en_nats_at rfl rfl rfl (vs := [va, (.int .i64 ((k : Int) - 1))]) (rfl) (natsAt_c _ _ la _ (ha.kept K)) ?_
  rintro _ _ ⟨rfl, rfl⟩
  refine OPS.nil ⟨hS_, ?_⟩
  refine D_only (i := 6) (by kernel_rfl) (listed2 := (bm 9 127)) (by kernel_rfl) ?_
  refine S_call en_nats_at rfl rfl rfl (vs := [vb, (.int .i64 ((k : Int) - 1))]) (rfl) (natsAt_c _ _ lb _ (hb.kept K)) ?_
  rintro _ _ ⟨rfl, rfl⟩
  refine OPS.nil ⟨hS_, ?_⟩
  refine D_last (i := 7) (f := 9) (by kernel_rfl) (by kernel_rfl) (listed2 := (bm 9 255)) (by kernel_rfl) ?_
  refine S_yield rfl rfl rfl rfl (rfl) (vs := [(.int .u64 (atN la ((k - 1 : Nat) : Int))), (.int .u64 (atN lb ((k - 1 : Nat) : Int)))]) (args2 (int_eq (congrArg (atN la) e1)) (int_eq (congrArg (atN lb) e1))) (hY _ (k - 1) _ hJ_ (by rw [upL_len]; omega)) ?_
  rintro e w2 (⟨rfl, hJ2, hK2⟩ | ⟨rfl, hJ2⟩)
  ·skip
   refine ⟨_, rfl, ?_⟩
   have K := K.t hK2
   refine OPS.nil ?_
   refine D_last (i := 8) (f := 9) (by kernel_rfl) (by kernel_rfl) (listed2 := (bm 9 511)) (by kernel_rfl) ?_
   refine S_not rfl rfl rfl (rfl) ?_
   change OPS _ _ _ _ _ (upd _ _ (.bool false)) _
   refine OPS.nil ?_
   refine D_done (by kernel_rfl) ?_
   change WP _ _ _ _ _ _
   refine W_cond rfl (b := false) (rfl) (fun h => (by cases h)) (fun _ => ?_)
   refine W_skip ?_
   change WP _ _ _ _ _ _
   refine W_region rfl ?_
   refine S_move rfl rfl rfl (v := (.int .i64 ((k : Int) - 1))) (s4) ?_
   refine S_sub64 rfl rfl rfl rfl (rfl) (rfl) (by omega) ?_
   refine S_assign rfl rfl rfl (v := (.int .i64 (((k : Int) - 1) - 1))) (rfl) ?_
   refine OPS.nil ?_
   exact ⟨k - 1, by omega, s0, s1, s2, int_eq (by omega), by omega, K, by rw [show N - (k - 1) = N - k + 1 by omega, upL_succ, show N - 1 - (N - k) = k - 1 by omega]; exact hJ2⟩
  ·skip
   refine ⟨_, rfl, ?_⟩
   refine OPS.nil ?_
   refine D_last (i := 8) (f := 9) (by kernel_rfl) (by kernel_rfl) (listed2 := (bm 9 511)) (by kernel_rfl) ?_
   refine S_not rfl rfl rfl (rfl) ?_
   change OPS _ _ _ _ _ (upd _ _ (.bool true)) _
   refine OPS.nil ?_
   refine D_done (by kernel_rfl) ?_
   change WP _ _ _ _ _ _
   refine W_cond rfl (b := true) (rfl) (fun _ => ?_) (fun h => (by cases h))
   refine W_ret ?_
   change Fin' _ _ _ _ _ _
   refine End0 rfl ?_
   exact .inr ⟨upL N (N - k + 1), ⟨_, by omega, rfl⟩, by rw [upL_succ, show N - 1 - (N - k) = k - 1 by omega]; exact hJ2⟩
 ·skip
  have pF := hq12
  replace hq12 := of_decide_eq_false hq12
  have qF := hq12
  try rw [pF]
  refine W_exit ?_
  change Fin' _ _ _ _ _ _
  refine End0 rfl ?_
  have hk0 : N - k = N := by omega
  rw [hk0] at hJ_
  exact .inl ⟨_, rfl, hJ_⟩


theorem pairs_stops (w : World) {G ga gb N : Nat} {va vb : Value} {la lb : List Int} (hN : N = max la.length lb.length) (ha : RN G (G + 1) w va la) (hb : RN G (G + 1) w vb lb) (bA : Blk w ga [va] 23) (bB : Blk w gb [vb] 23) (hga : ga ≠ G) (hgb : gb ≠ G) :
    SeqStopsK Fence.wide 3 Tryz.prog 250 [.pointer (some ⟨ga, 0, none⟩), .pointer (some ⟨gb, 0, none⟩)].toArray (fun x : Nat => #[.int .u64 (atN la ((x : Nat) : Int)), .int .u64 (atN lb ((x : Nat) : Int))]) (Keeps (fun k => k = G))
      (fun xs => xs = upL N N) (fun pre => ∃ j, j < N ∧ pre = upL N (j + 1)) N w := fun l J Jx W hB hJ hJx hY h0 => by
  refine callsIn_wide.2 ?_
  have := pairs1_c W hN (ha.below hB) (hb.below hB) (bA.below hB) (bB.below hB) hga hgb hJ (fun pre x W1 h1 h2 => yieldAt_any (hY pre x W1 h1 h2)) h0
  refine Calls.mono this ?_
  rintro e w' ⟨v, rfl, h⟩
  exact ⟨⟨v, rfl⟩, h⟩

set_option maxHeartbeats 400000 in
theorem pairs_c (w0 : World) (va vb : Value) (h1 : va.cells.toList = [va]) (h2 : vb.cells.toList = [vb]) :
    Ret Tryz.prog 206 [va, vb] w0 (fun r w1 => Below w0.heap.size w0 w1 ∧ ∃ ga gb, r = .func (.func 250) #[] [.pointer (some ⟨ga, 0, none⟩), .pointer (some ⟨gb, 0, none⟩)].toArray ∧ w0.heap.size ≤ ga ∧ ga < gb ∧ Blk w1 ga [va] 23 ∧ Blk w1 gb [vb] 23) := by
 have E := Below.refl w0.heap.size w0
 refine Ret_of (n := 6) Tryz.func206 rfl rfl (Nat.le_of_ble_eq_true rfl) ?_
 refine W_seq ?_
 refine W_region rfl ?_
 refine S_box rfl rfl rfl (v := va) (rfl) (cs := [va]) h1 ?_
 intro g1 w1 hg1 hs1 hB1 b1
 have hz1 := hB1.size
 have E := Below.step E hB1
 refine S_box rfl rfl rfl (v := vb) (rfl) (cs := [vb]) h2 ?_
 intro g2 w2 hg2 hs2 hB2 b2
 have hz2 := hB2.size
 have E := Below.step E hB2
 have hl_b1 := b1.lt
 have b1 := b1.below hB2
 refine S_assign rfl rfl rfl (v := _) (rfl) ?_
 refine OPS.nil ?_
 change WP _ _ _ _ _ _
 refine W_seq ?_
 refine W_region rfl ?_
 refine S_makeFunc rfl rfl rfl (vs := [(.pointer (some ⟨g1, 0, none⟩)), (.pointer (some ⟨g2, 0, none⟩))]) (rfl) ?_
 refine S_assign rfl rfl rfl (v := (.func (.func 250) #[] [(.pointer (some ⟨g1, 0, none⟩)), (.pointer (some ⟨g2, 0, none⟩))].toArray)) (rfl) ?_
 refine OPS.nil ?_
 change WP _ _ _ _ _ _
 refine W_ret ?_
 change Fin' _ _ _ _ _ _
 refine End1 (n := ⟨6, []⟩) (t := 4) rfl (by decide) (v := (.func (.func 250) #[] [(.pointer (some ⟨g1, 0, none⟩)), (.pointer (some ⟨g2, 0, none⟩))].toArray)) (rfl) ?_
 exact ⟨E, g1, g2, rfl, by omega, by omega, b1, b2⟩


theorem cmp_all {la lb : List Int} {N : Nat} (hN : N = max la.length lb.length) (h : ∀ y ∈ upL N N, atN la ((y : Nat) : Int) = atN lb ((y : Nat) : Int)) : val la = val lb := by
  have h2 : ∀ k, k ≤ N → val (la.drop (N - k)) = val (lb.drop (N - k)) := by
    intro k
    induction k with
    | zero => intro _; rw [List.drop_of_length_le (by omega), List.drop_of_length_le (by omega)]
    | succ k ih =>
      intro hk
      refine drop_eq_step _ (by rw [show N - (k + 1) + 1 = N - k by omega]; exact ih (by omega)) ?_
      have := h (N - (k + 1)) (by simp only [upL, List.mem_map, List.mem_range]; exact ⟨k, by omega, by omega⟩)
      rwa [atN_nat, atN_nat] at this
  have := h2 N (Nat.le_refl _)
  simpa using this
theorem cmp_part {la lb : List Int} {N j : Nat} (hN : N = max la.length lb.length) (hj : j < N) (h : ∀ y ∈ upL N j, atN la ((y : Nat) : Int) = atN lb ((y : Nat) : Int)) : val (la.drop (N - 1 - j + 1)) = val (lb.drop (N - 1 - j + 1)) := by
  have h2 : ∀ k, k ≤ j → val (la.drop (N - k)) = val (lb.drop (N - k)) := by
    intro k
    induction k with
    | zero => intro _; rw [List.drop_of_length_le (by omega), List.drop_of_length_le (by omega)]
    | succ k ih =>
      intro hk
      refine drop_eq_step _ (by rw [show N - (k + 1) + 1 = N - k by omega]; exact ih (by omega)) ?_
      have := h (N - (k + 1)) (by simp only [upL, List.mem_map, List.mem_range]; exact ⟨k, by omega, by omega⟩)
      rwa [atN_nat, atN_nat] at this
  rw [show N - 1 - j + 1 = N - j by omega]
  exact h2 j (Nat.le_refl _)
theorem cmp_stop {la lb : List Int} {N j : Nat} {pre : List Nat} {x : Nat} (hu : U32 la) (hv : U32 lb) (hN : N = max la.length lb.length) (hj : j < N) (hp : upL N (j + 1) = pre ++ [x]) (h : ∀ y ∈ pre, atN la ((y : Nat) : Int) = atN lb ((y : Nat) : Int))
    (hx : atN la ((x : Nat) : Int) ≠ atN lb ((x : Nat) : Int)) : cmpN (val la) (val lb) = if atN la ((x : Nat) : Int) < atN lb ((x : Nat) : Int) then -1 else 1 := by
  rw [upL_succ] at hp
  obtain ⟨rfl, h1⟩ := List.append_inj' hp rfl
  simp only [List.cons.injEq, and_true] at h1
  subst h1
  have h2 := cmp_part hN hj h
  have ha := hu.getD (N - 1 - j)
  have hb := hv.getD (N - 1 - j)
  rw [atN_nat, atN_nat] at hx ⊢
  split
  · exact cmpN_lt (cmp_lt hu _ h2 (by omega))
  · exact cmpN_gt (cmp_lt hv _ h2.symm (by omega))

set_option maxHeartbeats 400000 in
theorem natsCmp_c (w0 : World) (va vb : Value) (la lb : List Int) {a b a' b' : Nat} (ha : RN a b w0 va la) (hb : RN a' b' w0 vb lb) :
    Ret Tryz.prog 93 [va, vb] w0 (fun r w1 => Below w0.heap.size w0 w1 ∧ r = .int .i64 (cmpN (nv la) (nv lb))) := by
 have E := Below.refl w0.heap.size w0
 obtain ⟨N, hN⟩ : ∃ N, N = max (fineL la).length (fineL lb).length := ⟨_, rfl⟩
 refine Ret_marks (n := 20) Tryz.func93 rfl rfl (Nat.le_of_ble_eq_true rfl) ?_
 refine X_seq ?_
 refine X_region rfl ?_
 refine S_alloc ti_int rfl rfl (cs := [.int .i64 0]) rfl ?_
 intro g1 w1 hg1 hs1 hB1 b1
 have hz1 := hB1.size
 have E := Below.step E hB1
 refine OPS.nil ?_
 change WPR _ _ _ _ _
 refine X_seq ?_
 refine X_seq ?_
 refine X_region rfl ?_
 refine S_move rfl rfl rfl (v := va) (rfl) ?_
 refine S_call en_nats_fine rfl rfl rfl (vs := [va]) (rfl) (natsFine_c _ _ la (ha.below E)) ?_
 rintro _ _ ⟨rfl, rfl⟩
 refine S_move rfl rfl rfl (v := vb) (rfl) ?_
 refine S_call en_nats_fine rfl rfl rfl (vs := [vb]) (rfl) (natsFine_c _ _ lb (hb.below E)) ?_
 rintro _ _ ⟨rfl, rfl⟩
 refine S_call en_nats_pairs rfl rfl rfl (vs := [(if okL la then va else .slice none 0 0), (if okL lb then vb else .slice none 0 0)]) (rfl) (pairs_c _ _ _ (ha.fine.cells) (hb.fine.cells)) ?_
 rintro _ w2 ⟨hB2, ga, gb, rfl, hga, hgb, bA, bB⟩
 have hz2 := hB2.size
 have E := Below.step E hB2
 have hl_b1 := b1.lt
 have b1 := b1.below hB2
 refine OPS.nil ?_
 change WPR _ _ _ _ _
 refine X_block ?_
 have hfa : RN g1 (g1 + 1) w2 (if okL la then va else .slice none 0 0) (fineL la) := (((ha.new (a' := g1) (b' := g1 + 1) (by omega)).below E)).fine
 have hfb : RN g1 (g1 + 1) w2 (if okL lb then vb else .slice none 0 0) (fineL lb) := (((hb.new (a' := g1) (b' := g1 + 1) (by omega)).below E)).fine
 refine X_range rfl (rfl) en_nats_pairs_1 (e1 := fun x => (.int .u64 (atN (fineL la) ((x : Nat) : Int)))) (e2 := fun x => (.int .u64 (atN (fineL lb) ((x : Nat) : Int)))) (pairs_stops (G := g1) _ hN hfa hfb bA bB (by omega) (by omega)) (Below.refl _ _) (fun pre W => Blk W g1 [.int .i64 0] 3 ∧ Below w0.heap.size w0 W ∧ ∀ y ∈ pre, atN (fineL la) ((y : Nat) : Int) = atN (fineL lb) ((y : Nat) : Int)) (fun c pre W => c = .ret ∧ ∃ pre' x, pre = pre' ++ [x] ∧ (∀ y ∈ pre', atN (fineL la) ((y : Nat) : Int) = atN (fineL lb) ((y : Nat) : Int)) ∧ atN (fineL la) ((x : Nat) : Int) ≠ atN (fineL lb) ((x : Nat) : Int) ∧ Blk W g1 [.int .i64 (if atN (fineL la) ((x : Nat) : Int) < atN (fineL lb) ((x : Nat) : Int) then -1 else 1)] 3 ∧ Below w0.heap.size w0 W) ?hI ?hIx ?h0 (fun σ x => upd (upd (upd (upd σ 12 ((.int .u64 (atN (fineL la) ((x : Nat) : Int))))) 13 ((.int .u64 (atN (fineL lb) ((x : Nat) : Int))))) 5 ((.int .u64 (atN (fineL la) ((x : Nat) : Int))))) 6 ((.int .u64 (atN (fineL lb) ((x : Nat) : Int))))) ?assign ?body ?done ?stop
 case hI => exact fun s A B row hs hg hr => ⟨blk_own hs.1 hg hr, below_own hs.2.1 (Nat.le_refl _) hg hr E.size, hs.2.2⟩
 case hIx => exact fun c s A B row ⟨hc, pre', x, h1, h2, h3, h4, h5⟩ hg hr => ⟨hc, pre', x, h1, h2, h3, blk_own h4 hg hr, below_own h5 (Nat.le_refl _) hg hr E.size⟩
 case h0 => exact ⟨b1, E, fun y hy => by cases hy⟩
 case assign =>
  intro l x W K hK
  refine V_seq ?_
  refine V_region (by kernel_rfl) rfl ?_
  refine S_assign rfl rfl rfl (v := (.int .u64 (atN (fineL la) ((x : Nat) : Int)))) (rfl) ?_
  refine OPS.nil ?_
  change WPI _ _ _ _ _ _ _
  refine V_region (by kernel_rfl) rfl ?_
  refine S_assign rfl rfl rfl (v := (.int .u64 (atN (fineL lb) ((x : Nat) : Int)))) (rfl) ?_
  refine OPS.nil ?_
  exact ⟨rfl, hK⟩
 case body =>
  intro l pre x W hI hlen
  have KK := Kept.refl w2.heap.size (fun k => k = g1) W
  obtain ⟨b1, E, _⟩ := id hI
  refine V_block ?_
  refine V_seq ?_
  refine V_region (by kernel_rfl) rfl ?_
  refine S_move rfl rfl rfl (v := (.int .u64 (atN (fineL la) ((x : Nat) : Int)))) (rfl) ?_
  refine S_move rfl rfl rfl (v := (.int .u64 (atN (fineL lb) ((x : Nat) : Int)))) (rfl) ?_
  refine S_bin rfl rfl rfl rfl rfl (rfl) (rfl) (v := .bool (((atN (fineL la) ((x : Nat) : Int)) != (atN (fineL lb) ((x : Nat) : Int))))) rfl ?_
  refine OPS.nil ?_
  change WPI _ _ _ _ _ _ _
  refine V_cond rfl (rfl) (fun hq16 => ?_) (fun hq16 => ?_)
  ·skip
   have pBT := hq16
   replace hq16 := bne_iff_ne.1 hq16
   have qBT := hq16
   try rw [pBT]
   refine V_seq ?_
   refine V_seq ?_
   refine V_region (by kernel_rfl) rfl ?_
   refine S_move rfl rfl rfl (v := (.int .u64 (atN (fineL la) ((x : Nat) : Int)))) (rfl) ?_
   refine S_move rfl rfl rfl (v := (.int .u64 (atN (fineL lb) ((x : Nat) : Int)))) (rfl) ?_
   refine S_bin rfl rfl rfl rfl rfl (rfl) (rfl) (v := .bool (decide ((atN (fineL la) ((x : Nat) : Int)) < (atN (fineL lb) ((x : Nat) : Int))))) rfl ?_
   refine OPS.nil ?_
   change WPI _ _ _ _ _ _ _
   refine V_cond rfl (rfl) (fun hq19 => ?_) (fun hq19 => ?_)
   ·skip
    have pBTT := hq19
    replace hq19 := of_decide_eq_true hq19
    have qBTT := hq19
    try rw [pBTT]
    refine V_seq ?_
    refine V_region (by kernel_rfl) rfl ?_
    refine S_store ti_int rfl rfl rfl rfl (g := g1) (o := 0) (rfl) (v := (.int .i64 (-1))) (rfl) (vs := [(.int .i64 (-1))]) rfl rfl (by simp [Value.oneCell']) b1 (by simp) (cs' := [(.int .i64 (-1))]) rfl ?_
    intro w3 hU3 b1
    have E := Below.stepU E hU3 (by omega)
    have KK := KK.upd hU3 rfl (by omega)
    have hz3 := hU3.size
    refine OPS.nil ?_
    change WPI _ _ _ _ _ _ _
    refine V_ret ?_
    exact ⟨KK.1, rfl, pre, x, rfl, hI.2.2, hq16, by rw [if_pos hq19]; exact b1, E⟩
   ·skip
    have pBTF := hq19
    replace hq19 := of_decide_eq_false hq19
    have qBTF := hq19
    try rw [pBTF]
    refine V_skip ?_
    change WPI _ _ _ _ _ _ _
    refine V_seq ?_
    refine V_region (by kernel_rfl) rfl ?_
    refine S_store ti_int rfl rfl rfl rfl (g := g1) (o := 0) (rfl) (v := (.int .i64 1)) (rfl) (vs := [(.int .i64 1)]) rfl rfl (by simp [Value.oneCell']) b1 (by simp) (cs' := [(.int .i64 1)]) rfl ?_
    intro w4 hU4 b1
    have E := Below.stepU E hU4 (by omega)
    have KK := KK.upd hU4 rfl (by omega)
    have hz4 := hU4.size
    refine OPS.nil ?_
    change WPI _ _ _ _ _ _ _
    refine V_ret ?_
    exact ⟨KK.1, rfl, pre, x, rfl, hI.2.2, hq16, by rw [if_neg hq19]; exact b1, E⟩
  ·skip
   have pBF := hq16
   replace hq16 := bne_eq_false_iff_eq.1 hq16
   have qBF := hq16
   try rw [pBF]
   refine V_skip ?_
   have hx : atN (fineL la) ((x : Nat) : Int) = atN (fineL lb) ((x : Nat) : Int) := by omega
   refine ⟨KK.1, KK.2, b1, E, fun y hy => ?_⟩
   rcases List.mem_append.1 hy with hy | hy
   · exact hI.2.2 y hy
   · rw [List.mem_singleton] at hy; subst hy; exact hx
 case done =>
  intro D xs W hD hS hI_ hK
  subst hS
  obtain ⟨b1, E, h9⟩ := hI_
  have e9 : cmpN (nv la) (nv lb) = 0 := cmpN_eq (cmp_all hN h9)
  change WPR _ _ _ _ _
  refine X_seq ?_
  refine X_region rfl ?_
  refine S_store ti_int rfl rfl rfl rfl (g := g1) (o := 0) (rfl) (v := (.int .i64 0)) (rfl) (vs := [(.int .i64 0)]) rfl rfl (by simp [Value.oneCell']) b1 (by simp) (cs' := [(.int .i64 0)]) rfl ?_
  intro w5 hU5 b1
  have E := Below.stepU E hU5 (by omega)
  have hK := (hU5.block _ (by have := b1.lt; omega)).trans hK
  have hz5 := hU5.size
  refine OPS.nil ?_
  change WPR _ _ _ _ _
  refine X_ret ?_
  refine EndM hK ?_
  have b1 := b1.putObj (o' := .deferred none) hK rfl
  refine EndC (n := ⟨20, []⟩) (t := 4) rfl (by decide) (rfl) (LD.blk1 ti_int b1 (v := (.int .i64 0)) rfl) ?_
  exact ⟨below_putObj E (by omega), by rw [e9]⟩
 case stop =>
  intro D c pre W hD hSp hIx_ hK
  obtain ⟨rfl, pre', x, h1, h2, h3, b1, E⟩ := hIx_
  obtain ⟨j, hj, rfl⟩ := hSp
  have e9 := cmp_stop (U32_fine ha.u32) (U32_fine hb.u32) hN hj h1 h2 h3
  rw [show val (fineL la) = nv la from rfl, show val (fineL lb) = nv lb from rfl] at e9
  refine X_ret ?_
  refine EndM hK ?_
  have b1 := b1.putObj (o' := .deferred none) hK rfl
  refine EndC (n := ⟨20, []⟩) (t := 4) rfl (by decide) (rfl) (LD.blk1 ti_int b1 (v := .int .i64 (if atN (fineL la) ((x : Nat) : Int) < atN (fineL lb) ((x : Nat) : Int) then -1 else 1)) rfl) ?_
  exact ⟨below_putObj E (by omega), by rw [e9]⟩

end Go.Proofs.YtccmicegihlfbaaGreatDoor

/- Rows that may be added to; which block a slice may write; what two share. -/
namespace Go.Proofs.YtccmicegihlfbaaGreatDoor
open Go.RowKit

/-- The block in which a slice has room. -/
def bk : Value → Option Nat
  | .slice (some a) _ c => if c = 0 then none else some a.block
  | _ => none
/-- Two slices have room in no common block. -/
def Dj (x y : Value) : Prop := ∀ g, bk x = some g → bk y ≠ some g
theorem Dj.symm {x y : Value} (h : Dj x y) : Dj y x := fun g h1 h2 => h g h2 h1
theorem Dj.of_none {x y : Value} (h : bk x = none) : Dj x y := fun g h1 => by rw [h] at h1; cases h1
theorem Dj.of_none' {x y : Value} (h : bk y = none) : Dj x y := (Dj.of_none h).symm
theorem Dj.lt {x y : Value} {H : Nat} (h1 : ∀ g, bk x = some g → g < H) (h2 : ∀ g, bk y = some g → H ≤ g) : Dj x y := fun g ha hb => by
  have := h1 g ha; have := h2 g hb; omega
theorem bk_nil (A : Option Addr) (m : Nat) : bk (.slice A m 0) = none := by cases A <;> rfl
theorem bk_nil' : bk (.slice none 0 0) = none := rfl
theorem bk_some {g m c : Nat} (h : 0 < c) : bk (.slice (some ⟨g, 0, none⟩) m c) = some g := by simp [bk]; omega
theorem bk_le {g m c k : Nat} (h : bk (.slice (some ⟨g, 0, none⟩) m c) = some k) : k = g := by
  simp only [bk] at h
  split at h
  · cases h
  · cases h; rfl
theorem ON.bkB {B : Nat} {w : World} {v : Value} {l : List Int} (h : ON B w v l) : ∀ g, bk v = some g → B ≤ g ∧ g < w.heap.size := by
  intro g hg
  rcases h.2 with ⟨A, rfl⟩ | ⟨g', m, c, cs, rfl, h2, h3, _⟩
  · rw [bk_nil] at hg; cases hg
  · have := bk_le hg; subst this; exact ⟨h2, h3.lt⟩

/-- The first m elements of v are the cells xs; behind them v has no room, or room in a block from B on that is nobody else's. -/
def Row (B : Nat) (e : TypeId) (sz : Nat) (w : World) (v : Value) (m : Nat) (xs : List Value) : Prop :=
  xs.length = m * sz ∧ ((m = 0 ∧ ∃ A, v = .slice A 0 0) ∨ ∃ g c cs, v = .slice (some ⟨g, 0, none⟩) m c ∧ 0 < c ∧ B ≤ g ∧ Blk w g cs e ∧ m ≤ c ∧ c ≤ 9223372036854775807 ∧ c * sz ≤ cs.length ∧ cs.take (m * sz) = xs)
section
variable {B : Nat} {e : TypeId} {sz : Nat} {w w' : World} {v : Value} {m : Nat} {xs : List Value}
theorem Row.nil (B : Nat) (e : TypeId) (sz : Nat) (w : World) : Row B e sz w (.slice none 0 0) 0 [] := ⟨by simp, .inl ⟨rfl, none, rfl⟩⟩
theorem Row.bkB (h : Row B e sz w v m xs) : ∀ g, bk v = some g → B ≤ g ∧ g < w.heap.size := by
  intro g hg
  rcases h.2 with ⟨_, A, rfl⟩ | ⟨g', c, cs, rfl, h1, h2, h3, _⟩
  · rw [bk_nil] at hg; cases hg
  · have := bk_le hg; subst this; exact ⟨h2, h3.lt⟩
theorem Row.below (h : Row B e sz w v m xs) (hb : Below w.heap.size w w') : Row B e sz w' v m xs := by
  refine ⟨h.1, ?_⟩
  rcases h.2 with h | ⟨g', c, cs, h0, h1, h2, h3, h4⟩
  · exact .inl h
  · exact .inr ⟨g', c, cs, h0, h1, h2, h3.below hb, h4⟩
theorem Row.upd {g : Nat} (h : Row B e sz w v m xs) (hu : Upd g w w') (hg : ∀ k, bk v = some k → k ≠ g) : Row B e sz w' v m xs := by
  refine ⟨h.1, ?_⟩
  rcases h.2 with h | ⟨g', c, cs, rfl, h1, h2, h3, h4⟩
  · exact .inl h
  · exact .inr ⟨g', c, cs, rfl, h1, h2, h3.upd hu (hg _ (bk_some h1)), h4⟩
theorem Row.mono {B' : Nat} (h : Row B e sz w v m xs) (hB : B' ≤ B) : Row B' e sz w v m xs := by
  refine ⟨h.1, ?_⟩
  rcases h.2 with h | ⟨g', c, cs, h0, h1, h2, h3⟩
  · exact .inl h
  · exact .inr ⟨g', c, cs, h0, h1, by omega, h3⟩
theorem Row.len (h : Row B e sz w v m xs) : SlLen v m := by
  rcases h.2 with ⟨rfl, A, rfl⟩ | ⟨g', c, cs, rfl, _⟩
  · exact ⟨_, _, rfl⟩
  · exact ⟨_, _, rfl⟩
/-- The cells of the j-th element. -/
theorem Row.at_ (h : Row B e sz w v m xs) {j : Nat} (hj : j < m) : ∃ ad, SlAt v m sz j ad ∧ (∃ g c, v = .slice (some ⟨g, 0, none⟩) m c ∧ 0 < c ∧ ad = ⟨g, j * sz, none⟩) ∧ ∀ i, i < sz → w.cell? (ad.add i) = xs[j * sz + i]? := by
  rcases h.2 with ⟨rfl, A, rfl⟩ | ⟨g, c, cs, rfl, h1, h2, h3, h4, h5, h6, h7⟩
  · omega
  · refine ⟨⟨g, j * sz, none⟩, ⟨⟨g, 0, none⟩, c, rfl, hj, by rw [add_plain]; simp⟩, ⟨g, c, rfl, h1, rfl⟩, fun i hi => ?_⟩
    rw [add_plain, h3.cell, ← h7, List.getElem?_take_of_lt]
    have : (j + 1) * sz ≤ m * sz := Nat.mul_le_mul_right _ hj
    rw [Nat.add_mul] at this
    omega
theorem Row.grown {row : Option Nat} (h : Row B e sz w v m xs) (hg : w.grownBy w' row) (hne : ∀ k, bk v = some k → some k ≠ row) : Row B e sz w' v m xs := by
  refine ⟨h.1, ?_⟩
  rcases h.2 with h | ⟨g', c, cs, rfl, h1, h2, h3, h4⟩
  · exact .inl h
  · exact .inr ⟨g', c, cs, rfl, h1, h2, h3.grown hg (hne _ (bk_some h1)), h4⟩
theorem ON.row {l : List Int} (h : ON B w v l) : Row B 106 1 w v l.length (nums .u32 l) := by
  refine ⟨by rw [nums_len]; omega, ?_⟩
  obtain ⟨⟨hu, A, c, hv, h1, h2, h3⟩, ho⟩ := h
  rcases ho with ⟨A', rfl⟩ | ⟨g, m, c', cs, rfl, g2, g3, g4, g5, g6⟩
  · simp only [Value.slice.injEq] at hv; exact .inl ⟨by omega, _, rfl⟩
  · cases hv
    by_cases hc : c = 0
    · subst hc
      exact .inl ⟨by omega, some ⟨g, 0, none⟩, by rw [show l.length = 0 by omega]⟩
    · refine .inr ⟨g, c, cs, rfl, by omega, g2, g3, h1, h2, by omega, ?_⟩
      apply List.ext_getElem?
      intro i
      by_cases hi : i < l.length
      · obtain ⟨ad, hA, _, hc⟩ := h3 i hi
        cases hA
        rw [add_plain, g3.cell] at hc
        rw [List.getElem?_take_of_lt (by omega), nums_get _ _ _ hi, ← hc, Nat.zero_add]
      · rw [List.getElem?_eq_none (by simp; omega), List.getElem?_eq_none (by rw [nums_len]; omega)]
theorem Row.on {l : List Int} {m : Nat} (h : Row B 106 1 w v m (nums .u32 l)) (hu : U32 l) : ON B w v l := by
  have hl : l.length = m := by have := h.1; rw [nums_len] at this; omega
  rcases h.2 with ⟨rfl, A, rfl⟩ | ⟨g, c, cs, rfl, h1, h2, h3, h4, h5, h6, h7⟩
  · obtain rfl := List.eq_nil_of_length_eq_zero hl
    exact ⟨RN.nilA _ _ _ _, .inl ⟨A, rfl⟩⟩
  · refine ON.mk h3 hu h2 hl h4 (by omega) h5 (fun j hj => ?_)
    have := nums_get .u32 l j (by omega)
    rw [← h7, List.getElem?_take_of_lt (by omega)] at this
    exact this
end

theorem run_append_Row {P : Program} {w : World} {B : Nat} {t ty e : TypeId} {sz by_ : Nat} {z : Value} {ag : Bool} (hT : P.underlying t = some (.slice e)) (he : TI P e sz by_ z ag) (hz : z.cells.size = sz)
    {v : Value} {m k c : Nat} {xs news : List Value} {a : Addr} (hown : Row B e sz w v m xs) (hk : 0 < k) (hl : news.length = k * sz) (hnews : ∀ j u, news[j]? = some u → w.cell? (a.add j) = some u)
    (h1 : ∀ u ∈ news, u.oneCell' = true) (hm : m + k ≤ 140737488355328) (hb : (m + k) * by_ ≤ 140737488355328) (hbase : B ≤ w.heap.size) :
    ∃ v' w', (Builtin.append_ #[t, t] ty #[v, .slice (some a) k c]).run P w = .ok v' w' ∧ Row B e sz w' v' (m + k) (xs ++ news) ∧ w.grownBy w' (bk v) ∧
      (bk v' = bk v ∨ ∃ g, bk v' = some g ∧ w.heap.size ≤ g ∧ w.grownBy w' none) ∧ (∀ A c', v = .slice A m c' → m + k ≤ c' → v' = .slice A (m + k) c') := by
  obtain ⟨i, hi, hs, hby, hzz⟩ := he.info
  have hlen : (xs ++ news).length = (m + k) * sz := by rw [List.length_append, hown.1, hl, Nat.add_mul]
  have fresh : ∀ (A : Option Addr) (old : Nat), old < m + k → v = .slice A m old → (∀ j u, xs[j]? = some u → ∃ b, A = some b ∧ w.cell? (b.add j) = some u) →
      ∃ v' w', (Builtin.append_ #[t, t] ty #[v, .slice (some a) k c]).run P w = .ok v' w' ∧ Row B e sz w' v' (m + k) (xs ++ news) ∧ w.grownBy w' (bk v) ∧
        (bk v' = bk v ∨ ∃ g, bk v' = some g ∧ w.heap.size ≤ g ∧ w.grownBy w' none) ∧ (∀ A c', v = .slice A m c' → m + k ≤ c' → v' = .slice A (m + k) c') := by
    intro A old ho hv hx
    have hge := grownCap_ge w (m + k) old e
    have hcm : grownCap w (m + k) old e ≤ maxLen := grownCap_le_maxLen w (m + k) old e (by simp only [maxLen]; omega)
    have hcm2 : grownCap w (m + k) old e ≤ 9223372036854775807 := by simp only [maxLen] at hcm; omega
    refine ⟨.slice (some ⟨w.heap.size, 0, none⟩) (m + k) (grownCap w (m + k) old e), w.drew.alloc (.cells (xs.toArray ++ news.toArray ++ Builtin.zeroCells z.cells (grownCap w (m + k) old e - (m + k))) e), ?_, ⟨hlen, .inr ⟨w.heap.size, _, (xs.toArray ++ news.toArray ++ Builtin.zeroCells z.cells (grownCap w (m + k) old e - (m + k))).toList, rfl, by omega, hbase, ⟨?_⟩, hge, hcm2, ?_, ?_⟩⟩, ⟨rfl, rfl, rfl, by simp, fun k' hk' _ => heap_alloc_old w.drew _ hk'⟩,
      .inr ⟨_, bk_some (by omega), Nat.le_refl _, ⟨rfl, rfl, rfl, by simp, fun k' hk' _ => heap_alloc_old w.drew _ hk'⟩⟩, ?_⟩
    · rw [hv]
      cases A with
      | some b =>
        refine run_append_grow (P := P) w t ty e i z hT hi hzz b m old xs (by rw [hs]; exact hown.1) (fun j u hj => ?_) a k c news (by rw [hs]; exact hl) hnews (by omega) (by omega) (by rw [hby]; exact growslice_fits (by omega) hb)
        obtain ⟨b', hb', hc⟩ := hx j u hj
        cases hb'
        exact hc
      | none =>
        have hx0 : xs = [] := by
          cases xs with
          | nil => rfl
          | cons x xs => obtain ⟨b, hb', _⟩ := hx 0 x rfl; cases hb'
        subst hx0
        rcases hown.2 with ⟨rfl, A', hA'⟩ | ⟨g, c', cs, hA', _⟩
        · rw [hv] at hA'
          cases hA'
          have := run_append_nil (P := P) w t ty e i z hT hi hzz a k c news (by rw [hs]; exact hl) hnews hk (by omega) (by rw [hby]; simp only [Nat.zero_add] at hb; omega)
          simpa using this
        · rw [hv] at hA'; cases hA'
    · have := heap_alloc_new w.drew (.cells (xs.toArray ++ news.toArray ++ Builtin.zeroCells z.cells (grownCap w (m + k) old e - (m + k))) e)
      rw [Array.toArray_toList]
      exact this
    · rw [Array.length_toList]
      simp only [Array.size_append, List.size_toArray, size_zeroCells, hz, hown.1, hl, ← Nat.add_mul]
      exact Nat.mul_le_mul_right _ (by omega)
    · simp only [Array.toList_append, List.append_assoc]
      rw [← List.append_assoc, ← hlen]
      exact List.take_left
    · intro A2 c2 h2 h3
      rw [hv] at h2
      cases h2
      omega
  rcases hown.2 with ⟨rfl, A, rfl⟩ | ⟨g, cap, cs, hv, hc0, hbg, hg, hnc, hcm, hcs, htake⟩
  · exact fresh A 0 (by omega) rfl (fun j u hj => by have := List.eq_nil_of_length_eq_zero (by simpa using hown.1 : xs.length = 0); subst this; cases hj)
  · by_cases hroom : m + k ≤ cap
    · subst hv
      have hmul : (m + k) * sz ≤ cap * sz := Nat.mul_le_mul_right _ hroom
      have hfit : m * i.size + news.length ≤ cs.toArray.size := by rw [hl, hs, ← Nat.add_mul]; simp; omega
      have hr := run_append_room (P := P) w t ty e i hT hi g m cap cs.toArray hg.at_ a k c news (by rw [hs]; exact hl) hnews h1 hroom hfit
      rw [hs] at hr
      simp only [List.toList_toArray] at hr
      have hl2 : (List.take (m * sz) cs ++ news ++ List.drop (m * sz + news.length) cs).length = cs.length := by
        rw [Nat.add_mul] at hmul
        simp only [List.length_append, List.length_take, List.length_drop]
        omega
      refine ⟨_, _, hr, ⟨hlen, .inr ⟨g, cap, _, rfl, hc0, hbg, ⟨setRow_heap w g cs.toArray _ e _ hg.at_⟩, hroom, hcm, by rw [hl2]; exact hcs, ?_⟩⟩, ⟨rfl, rfl, rfl, by simp, fun k _ hk => setRow_other w g k _ (fun e => hk (by rw [bk_some hc0, e]))⟩,
        .inl (by rw [bk_some hc0, bk_some hc0]), fun A c' h _ => by cases h; rfl⟩
      rw [htake, ← hlen]
      exact List.take_left
    · refine fresh (some ⟨g, 0, none⟩) cap (by omega) hv (fun j u hj => ⟨_, rfl, ?_⟩)
      have hj2 := (List.getElem?_eq_some_iff.1 hj).1
      rw [← htake] at hj hj2
      rw [add_plain, hg.cell, Nat.zero_add, ← hj, List.getElem?_take_of_lt (by simp at hj2; omega)]
section
variable {P : Program} {n : NF} {ops : Array Oper} {K : (Nat → Value) → World → Prop} {σ : Nat → Value} {w : World} {i : Nat} {rest : List Nat}
variable {d : Nat} {t : TypeId} {p : String} {af : Array Edge} {gd : Option (Nat × Bool)} {x y : Operand}
/-- append(s, x...), x not empty. -/
theorem S_appendR {T e : TypeId} {sz by_ : Nat} {z : Value} {ag : Bool} (hT : P.underlying T = some (.slice e)) (he : TI P e sz by_ z ag) (hz : z.cells.size = sz)
    (ho : ops[i]? = some { dst := some d, op := .call { callee := .builtin .append, args := #[x, y], argTypes := #[T, T] }, type := t, pos := p, after := af, guard := gd }) (hw : wg n ops σ gd = true) (hx : tok n x = true) (hy : tok n y = true)
    {B m k c : Nat} {v : Value} {xs news : List Value} {a : Addr} (hv : sv σ x = v) (hs : sv σ y = .slice (some a) k c) (hown : Row B e sz w v m xs) (hk : 0 < k) (hl : news.length = k * sz)
    (hnews : ∀ j u, news[j]? = some u → w.cell? (a.add j) = some u) (h1 : ∀ u ∈ news, u.oneCell' = true) (hm : m + k ≤ 140737488355328) (hb : (m + k) * by_ ≤ 140737488355328) (hbase : B ≤ w.heap.size)
    (h : ∀ v' w1, Row B e sz w1 v' (m + k) (xs ++ news) → w.grownBy w1 (bk v) → (bk v' = bk v ∨ ∃ g, bk v' = some g ∧ w.heap.size ≤ g ∧ w.grownBy w1 none) → (∀ A c', v = .slice A m c' → m + k ≤ c' → v' = .slice A (m + k) c') → OPS P n ops K rest (upd σ d v') w1) : OPS P n ops K (i :: rest) σ w := by
  obtain ⟨v', w1, hr, h2, h3, h4, h5⟩ := run_append_Row (P := P) (w := w) (t := T) (ty := t) hT he hz hown hk hl hnews h1 hm hb hbase (c := c)
  refine OPS.step ho hw rfl ?_ (h v' w1 h2 h3 h4 h5)
  simp [execOp, resolve, invoke, builtin, eval_act hx, eval_act hy, hv, hs, hr]
end
end Go.Proofs.YtccmicegihlfbaaGreatDoor

/- Slices of structs read as cells; fractions and lists of them. -/
namespace Go.Proofs.YtccmicegihlfbaaGreatDoor
open Go.RowKit

/-! ### 1. Cells -/
def CellsAt (w : World) (ad : Addr) (cs : List Value) : Prop := ∀ i, i < cs.length → w.cell? (ad.add i) = cs[i]?
theorem CellsAt.below {w w' : World} {ad : Addr} {cs : List Value} (h : CellsAt w ad cs) (hS : Below w.heap.size w w') : CellsAt w' ad cs := fun i hi => by
  have := h i hi
  rw [List.getElem?_eq_getElem hi] at this ⊢
  exact cell_below hS this
theorem LD.cells {P : Program} {w : World} {t : TypeId} {sz by_ : Nat} {z : Value} (T : TI P t sz by_ z true) {ad : Addr} {cs : List Value} (h : CellsAt w ad cs) (hl : cs.length = sz) : LD P w t ad (.agg cs.toArray) :=
  LD.agg T (fun j hj => h j (by omega)) hl
theorem flat_get {α : Type} (f : α → List Value) (sz : Nat) (hf : ∀ x, (f x).length = sz) (es : List α) (j i : Nat) (hi : i < sz) : (es.flatMap f)[j * sz + i]? = es[j]?.bind (fun x => (f x)[i]?) := by
  induction es generalizing j with
  | nil => simp
  | cons e es ih =>
    rw [List.flatMap_cons]
    cases j with
    | zero => rw [List.getElem?_append_left (by rw [hf]; omega)]; simp
    | succ j =>
      rw [List.getElem?_append_right (by rw [hf, Nat.add_mul]; omega), hf, show (j + 1) * sz + i - sz = j * sz + i by rw [Nat.add_mul]; omega, ih]
      simp
theorem flat_len {α : Type} (f : α → List Value) (sz : Nat) (hf : ∀ x, (f x).length = sz) (es : List α) : (es.flatMap f).length = es.length * sz := by
  induction es with
  | nil => simp
  | cons e es ih => rw [List.flatMap_cons, List.length_append, hf, ih, List.length_cons, Nat.add_mul]; omega

/-- A slice of m elements reads as the cells xs, sz an element; it lies in no block from a on, ahead of b. -/
def RC (a b sz : Nat) (w : World) (v : Value) (m : Nat) (xs : List Value) : Prop :=
  xs.length = m * sz ∧ ∃ A c, v = .slice A m c ∧ m ≤ c ∧ c ≤ 9223372036854775807 ∧
    ∀ j, j < m * sz → ∃ ad, A = some ad ∧ (ad.block < a ∨ b ≤ ad.block) ∧ w.cell? (ad.add j) = xs[j]?
section
variable {a b sz : Nat} {w w' : World} {v : Value} {m : Nat} {xs : List Value}
theorem RC.nil (a b sz : Nat) (w : World) : RC a b sz w (.slice none 0 0) 0 [] := ⟨by simp, none, 0, rfl, Nat.le_refl _, by omega, fun j hj => by omega⟩
theorem RC.len (h : RC a b sz w v m xs) : SlLen v m := by
  obtain ⟨_, A, c, rfl, _⟩ := h
  exact ⟨_, _, rfl⟩
theorem RC.le (h : RC a b sz w v m xs) : m ≤ 9223372036854775807 := by
  obtain ⟨_, A, c, rfl, h1, h2, _⟩ := h
  omega
theorem RC.below (h : RC a b sz w v m xs) (hb : Below w.heap.size w w') : RC a b sz w' v m xs := by
  obtain ⟨hl, A, c, hv, h1, h2, h3⟩ := h
  refine ⟨hl, A, c, hv, h1, h2, fun j hj => ?_⟩
  obtain ⟨ad, hA, hbl, hc⟩ := h3 j hj
  rw [List.getElem?_eq_getElem (by omega)] at hc ⊢
  exact ⟨ad, hA, hbl, cell_below hb hc⟩
theorem RC.keep (h : RC a b sz w v m xs) (hk : ∀ g, g < w.heap.size → (g < a ∨ b ≤ g) → w'.heap[g]? = w.heap[g]?) : RC a b sz w' v m xs := by
  obtain ⟨hl, A, c, hv, h1, h2, h3⟩ := h
  refine ⟨hl, A, c, hv, h1, h2, fun j hj => ?_⟩
  obtain ⟨ad, hA, hbl, hc⟩ := h3 j hj
  refine ⟨ad, hA, hbl, ?_⟩
  rw [← hc]
  rw [List.getElem?_eq_getElem (by omega)] at hc
  have := World.block_lt_of_cell? w _ hc
  exact World.cell?_of_block (hk _ this (by rw [add_block]; exact hbl))
theorem RC.upd {g : Nat} (h : RC a b sz w v m xs) (hu : Upd g w w') (ha : a ≤ g) (hg : g < b) : RC a b sz w' v m xs := h.keep fun k _ hk => hu.block k (by omega)
theorem RC.grown {row : Option Nat} (h : RC a b sz w v m xs) (hg : w.grownBy w' row) (hr : ∀ g, row = some g → a ≤ g ∧ g < b) : RC a b sz w' v m xs :=
  h.keep fun k hk1 hk => hg.block k hk1 (fun e => by have := hr _ e.symm; omega)
theorem RC.weak {a' b' : Nat} (h : RC a b sz w v m xs) (ha : a ≤ a') (hb : b' ≤ b) : RC a' b' sz w v m xs := by
  obtain ⟨hl, A, c, hv, h1, h2, h3⟩ := h
  refine ⟨hl, A, c, hv, h1, h2, fun j hj => ?_⟩
  obtain ⟨ad, hA, hbl, hc⟩ := h3 j hj
  exact ⟨ad, hA, by omega, hc⟩
theorem RC.any {a' b' : Nat} (h : RC a b sz w v m xs) (hab : b' ≤ a') : RC a' b' sz w v m xs := by
  obtain ⟨hl, A, c, hv, h1, h2, h3⟩ := h
  refine ⟨hl, A, c, hv, h1, h2, fun j hj => ?_⟩
  obtain ⟨ad, hA, hbl, hc⟩ := h3 j hj
  exact ⟨ad, hA, by omega, hc⟩
theorem RC.new {a' b' : Nat} (h : RC a b sz w v m xs) (hs : w.heap.size ≤ a') : RC a' b' sz w v m xs := by
  obtain ⟨hl, A, c, hv, h1, h2, h3⟩ := h
  refine ⟨hl, A, c, hv, h1, h2, fun j hj => ?_⟩
  obtain ⟨ad, hA, hbl, hc⟩ := h3 j hj
  have hc' := hc
  rw [List.getElem?_eq_getElem (by omega)] at hc'
  have := World.block_lt_of_cell? w _ hc'
  rw [add_block] at this
  exact ⟨ad, hA, by omega, hc⟩
theorem RC.at_ (h : RC a b sz w v m xs) {j : Nat} (hj : j < m) (hsz : 0 < sz) : ∃ ad, SlAt v m sz j ad ∧ ∀ i, i < sz → w.cell? (ad.add i) = xs[j * sz + i]? := by
  obtain ⟨hl, A, c, rfl, h1, h2, h3⟩ := h
  have hm : (j + 1) * sz ≤ m * sz := Nat.mul_le_mul_right _ hj
  rw [Nat.add_mul] at hm
  obtain ⟨ad, rfl, _, _⟩ := h3 (j * sz) (by omega)
  refine ⟨_, ⟨ad, c, rfl, hj, rfl⟩, fun i hi => ?_⟩
  obtain ⟨ad', hA, _, hc⟩ := h3 (j * sz + i) (by omega)
  cases hA
  rw [Addr.add_add']
  exact hc
theorem Row.rc {B : Nat} {e : TypeId} (h : Row B e sz w v m xs) : RC 0 B sz w v m xs := by
  refine ⟨h.1, ?_⟩
  rcases h.2 with ⟨rfl, A, rfl⟩ | ⟨g, c, cs, rfl, h1, h2, h3, h4, h5, h6, h7⟩
  · exact ⟨A, 0, rfl, Nat.le_refl _, by omega, fun j hj => by omega⟩
  · refine ⟨_, c, rfl, h4, h5, fun j hj => ⟨_, rfl, .inr h2, ?_⟩⟩
    rw [add_plain, h3.cell, Nat.zero_add, ← h7, List.getElem?_take_of_lt hj]
end

section
variable {P : Program} {n : NF} {ops : Array Oper} {K : (Nat → Value) → World → Prop} {σ : Nat → Value} {w : World} {i : Nat} {rest : List Nat}
variable {d : Nat} {t : TypeId} {p : String} {af : Array Edge} {gd : Option (Nat × Bool)} {x y : Operand}
theorem S_beq {T T' : TypeId} (hT : P.underlying T = some .bool) (ho : ops[i]? = some { dst := some d, op := .binOp .eql T x y T', type := t, pos := p, after := af, guard := gd }) (hw : wg n ops σ gd = true)
    (hx : tok n x = true) (hy : tok n y = true) {a b : Bool} (ha : sv σ x = .bool a) (hb : sv σ y = .bool b) {c : Bool} (hc : (a == b) = c) (h : OPS P n ops K rest (upd σ d (.bool c)) w) : OPS P n ops K (i :: rest) σ w := by
  subst hc
  refine OPS.step ho hw rfl ?_ h
  have := run_equal_bool (P := P) w T a b hT
  simp [execOp, eval_act hx, eval_act hy, ha, hb, eqGuard, binOp, this]
  try (cases a <;> cases b <;> rfl)
theorem S_bne {T T' : TypeId} (hT : P.underlying T = some .bool) (ho : ops[i]? = some { dst := some d, op := .binOp .neq T x y T', type := t, pos := p, after := af, guard := gd }) (hw : wg n ops σ gd = true)
    (hx : tok n x = true) (hy : tok n y = true) {a b : Bool} (ha : sv σ x = .bool a) (hb : sv σ y = .bool b) {c : Bool} (hc : (a != b) = c) (h : OPS P n ops K rest (upd σ d (.bool c)) w) : OPS P n ops K (i :: rest) σ w := by
  subst hc
  refine OPS.step ho hw rfl ?_ h
  have := run_equal_bool (P := P) w T a b hT
  simp [execOp, eval_act hx, eval_act hy, ha, hb, eqGuard, binOp, this]
  try (cases a <;> cases b <;> rfl)
end

/-! ### 2. Fractions -/
structure Q where
  neg : Bool
  n : List Int
  d : List Int
/-- A fraction that reads so. -/
def RQ (a b : Nat) (w : World) (v : Value) (q : Q) : Prop := ∃ vn vd, v = .agg #[.bool q.neg, vn, vd] ∧ RN a b w vn q.n ∧ RN a b w vd q.d
/-- A fraction in memory of its own. -/
def OQ (B : Nat) (w : World) (v : Value) (q : Q) : Prop := ∃ vn vd, v = .agg #[.bool q.neg, vn, vd] ∧ ON B w vn q.n ∧ ON B w vd q.d ∧ Dj vn vd
/-- A fraction within a list: what it reads as, and the slices of its parts. -/
structure RV where
  q : Q
  vn : Value
  vd : Value
def rv0 : RV := ⟨⟨false, [], []⟩, undef, undef⟩
def RV.cs (x : RV) : List Value := [.bool x.q.neg, x.vn, x.vd]
theorem RV.cs_len (x : RV) : x.cs.length = 3 := rfl
def RV.R (a b : Nat) (w : World) (x : RV) : Prop := RN a b w x.vn x.q.n ∧ RN a b w x.vd x.q.d
def RV.O (B : Nat) (w : World) (x : RV) : Prop := ON B w x.vn x.q.n ∧ ON B w x.vd x.q.d
def qs (es : List RV) : List Q := es.map RV.q
theorem qs_len (es : List RV) : (qs es).length = es.length := by simp [qs]
/-- A list of fractions that reads so. -/
def RL (a b : Nat) (w : World) (v : Value) (es : List RV) : Prop := RC a b 3 w v es.length (es.flatMap RV.cs) ∧ ∀ x ∈ es, x.R a b w
/-- A list of fractions in memory of its own. -/
def OL (B : Nat) (w : World) (v : Value) (es : List RV) : Prop :=
  Row B 70 3 w v es.length (es.flatMap RV.cs) ∧ (∀ x ∈ es, x.O B w) ∧ List.Pairwise Dj (v :: es.flatMap fun x => [x.vn, x.vd])
section
variable {a b B : Nat} {w w' : World} {v : Value} {es : List RV}
theorem RV.R.below {x : RV} (h : x.R a b w) (hb : Below w.heap.size w w') : x.R a b w' := ⟨h.1.below hb, h.2.below hb⟩
theorem RV.O.below {x : RV} (h : x.O B w) (hb : Below w.heap.size w w') : x.O B w' := ⟨h.1.below hb, h.2.below hb⟩
theorem RL.below (h : RL a b w v es) (hb : Below w.heap.size w w') : RL a b w' v es := ⟨h.1.below hb, fun x hx => (h.2 x hx).below hb⟩
theorem RL.weak {a' b' : Nat} (h : RL a b w v es) (ha : a ≤ a') (hb : b' ≤ b) : RL a' b' w v es := ⟨h.1.weak ha hb, fun x hx => ⟨(h.2 x hx).1.weak ha hb, (h.2 x hx).2.weak ha hb⟩⟩
theorem RL.upd {g : Nat} (h : RL a b w v es) (hu : Upd g w w') (ha : a ≤ g) (hg : g < b) : RL a b w' v es := ⟨h.1.upd hu ha hg, fun x hx => ⟨(h.2 x hx).1.upd hu ha hg, (h.2 x hx).2.upd hu ha hg⟩⟩
theorem OL.below (h : OL B w v es) (hb : Below w.heap.size w w') : OL B w' v es := ⟨h.1.below hb, fun x hx => (h.2.1 x hx).below hb, h.2.2⟩
theorem OL.rl (h : OL B w v es) : RL 0 B w v es := ⟨h.1.rc, fun x hx => ⟨(h.2.1 x hx).1.r, (h.2.1 x hx).2.r⟩⟩
theorem OL.nil (B : Nat) (w : World) : OL B w (.slice none 0 0) [] := ⟨Row.nil _ _ _ _, ⟨fun _ h => (by cases h), by simp⟩⟩
theorem RL.nil (a b : Nat) (w : World) : RL a b w (.slice none 0 0) [] := ⟨RC.nil _ _ _ _, fun _ h => by cases h⟩
theorem RL.len (h : RL a b w v es) : SlLen v es.length := h.1.len
theorem getD_mem {j : Nat} (hj : j < es.length) : es.getD j rv0 ∈ es := by
  rw [List.getD_eq_getElem?_getD, List.getElem?_eq_getElem hj]; exact List.getElem_mem hj
theorem RL.get (h : RL a b w v es) (j : Nat) (hj : j < es.length) : ∃ ad, SlAt v es.length 3 j ad ∧ CellsAt w ad (es.getD j rv0).cs := by
  obtain ⟨ad, h1, h2⟩ := h.1.at_ hj (by omega)
  refine ⟨ad, h1, fun i hi => ?_⟩
  rw [RV.cs_len] at hi
  rw [h2 i hi, flat_get RV.cs 3 RV.cs_len _ _ _ hi, List.getD_eq_getElem?_getD, List.getElem?_eq_getElem hj]
  rfl
theorem RL.mem (h : RL a b w v es) {j : Nat} (hj : j < es.length) : (es.getD j rv0).R a b w := h.2 _ (getD_mem hj)
theorem OL.mem (h : OL B w v es) {j : Nat} (hj : j < es.length) : (es.getD j rv0).O B w := h.2.1 _ (getD_mem hj)
theorem OL.bks (h : OL B w v es) : ∀ x ∈ v :: es.flatMap (fun x => [x.vn, x.vd]), ∀ g, bk x = some g → B ≤ g ∧ g < w.heap.size := by
  intro x hx
  rcases List.mem_cons.1 hx with rfl | hx
  · exact h.1.bkB
  · obtain ⟨y, hy, hx⟩ := List.mem_flatMap.1 hx
    simp only [List.mem_cons, List.not_mem_nil, or_false] at hx
    rcases hx with rfl | rfl
    · exact (h.2.1 y hy).1.bkB
    · exact (h.2.1 y hy).2.bkB
theorem qs_get {es fs : List RV} (h : qs es = qs fs) (j : Nat) : (es.getD j rv0).q = (fs.getD j rv0).q := by
  have h1 : ∀ es : List RV, (es.getD j rv0).q = (qs es).getD j rv0.q := fun es => by
    rw [List.getD_eq_getElem?_getD, List.getD_eq_getElem?_getD, qs, List.getElem?_map]
    cases es[j]? <;> rfl
  rw [h1, h1, h]
theorem OQ.below {q : Q} (h : OQ B w v q) (hb : Below w.heap.size w w') : OQ B w' v q := by
  obtain ⟨vn, vd, h1, h2, h3, h4⟩ := h
  exact ⟨vn, vd, h1, h2.below hb, h3.below hb, h4⟩
end
theorem ON.grown {B : Nat} {w w' : World} {row : Option Nat} {v : Value} {l : List Int} (h : ON B w v l) (hg : w.grownBy w' row) (hr : ∀ g, row = some g → g < B ∨ (∀ k, bk v = some k → k ≠ g)) : ON B w' v l :=
  (h.row.grown hg (fun k hk e => by
    have h1 := h.bkB k hk
    rcases hr k e.symm with h2 | h2
    · omega
    · exact h2 k hk rfl)).on h.1.u32
/-- A fraction is put behind a list of the call's own: what the append leaves. -/
theorem OL.push {B : Nat} {w w' : World} {v v' : Value} {es : List RV} {x : RV} (h : OL B w v es) (hx : x.O B w) (hd : Dj x.vn x.vd) (hn : ∀ y ∈ v :: es.flatMap (fun x => [x.vn, x.vd]), Dj y x.vn ∧ Dj y x.vd)
    (hr : Row B 70 3 w' v' (es.length + 1) (es.flatMap RV.cs ++ x.cs)) (hg : w.grownBy w' (bk v)) (hb : bk v' = bk v ∨ ∃ g, bk v' = some g ∧ w.heap.size ≤ g ∧ w.grownBy w' none) : OL B w' v' (es ++ [x]) := by
  have hp := List.pairwise_cons.1 h.2.2
  have keep : ∀ y l, ON B w y l → Dj v y → ON B w' y l := fun y l hy hv => hy.grown hg (fun g e => .inr fun k hk hk2 => hv g e (by rw [hk, hk2]))
  refine ⟨by simpa using hr, fun y hy => ?_, ?_⟩
  · rcases List.mem_append.1 hy with hy | hy
    · have h1 := h.2.1 y hy
      exact ⟨keep _ _ h1.1 (hp.1 _ (List.mem_flatMap.2 ⟨y, hy, by simp⟩)), keep _ _ h1.2 (hp.1 _ (List.mem_flatMap.2 ⟨y, hy, by simp⟩))⟩
    · rw [List.mem_singleton] at hy; subst hy
      have := hn v (by simp)
      exact ⟨keep _ _ hx.1 this.1, keep _ _ hx.2 this.2⟩
  · have hall : List.Pairwise Dj (es.flatMap (fun x => [x.vn, x.vd]) ++ [x.vn, x.vd]) := by
      refine List.pairwise_append.2 ⟨hp.2, by simp [hd], fun y hy z hz => ?_⟩
      have := hn y (by simp [hy])
      simp only [List.mem_cons, List.not_mem_nil, or_false] at hz
      rcases hz with rfl | rfl
      · exact this.1
      · exact this.2
    rw [List.flatMap_append]
    refine List.pairwise_cons.2 ⟨fun y hy => ?_, by simpa using hall⟩
    have hb1 : Dj v y := by
      rcases List.mem_append.1 hy with hy | hy
      · exact hp.1 y hy
      · have := hn v (by simp)
        simp at hy
        rcases hy with rfl | rfl
        · exact this.1
        · exact this.2
    rcases hb with hb | ⟨g, hb, hsz, _⟩
    · intro k hk; rw [hb] at hk; exact hb1 k hk
    · have hy2 : ∀ g, bk y = some g → g < w.heap.size := by
        intro g hg
        rcases List.mem_append.1 hy with hy | hy
        · exact (h.bks y (by simp [hy]) g hg).2
        · simp at hy
          rcases hy with rfl | rfl
          · exact (hx.1.bkB g hg).2
          · exact (hx.2.bkB g hg).2
      exact (Dj.lt hy2 (fun k hk => by rw [hb] at hk; cases hk; exact hsz)).symm
end Go.Proofs.YtccmicegihlfbaaGreatDoor

/- Regions that draw their order: truths, structs, functions that are made. Printed by mkdraw.py out of the single steps. -/
namespace Go.Proofs.YtccmicegihlfbaaGreatDoor
open Go.RowKit
section
variable {P : Program} {n : NF} {ops : Array Oper} {K : (Nat → Value) → World → Prop} {S : World → Prop} {σ : Nat → Value} {w : World} {i fuel : Nat} {listed listed2 : Array Bool}
variable {d : Nat} {t : TypeId} {p : String} {af : Array Edge} {gd : Option (Nat × Bool)} {x y : Operand}
theorem D_beq {T T' : TypeId} (hT : P.underlying T = some .bool) (hq : drq ops listed i listed2 = true)
    (ho : ops[i]? = some { dst := some d, op := .binOp .eql T x y T', type := t, pos := p, after := af, guard := gd }) (hw : wg n ops σ gd = true)
    (hx : tok n x = true) (hy : tok n y = true) {a b : Bool} (ha : sv σ x = .bool a) (hb : sv σ y = .bool b) {c : Bool} (hc : (a == b) = c) (hS : S w) (h : DRW P n ops K S fuel listed2 (upd σ d (.bool c)) w) : DRW P n ops K S (fuel + 1) listed σ w := by
  subst hc
  refine D_take hq ho hw rfl (fun w' _ => ?_) hS h
  have := run_equal_bool (P := P) w' T a b hT
  simp [execOp, eval_act hx, eval_act hy, ha, hb, eqGuard, binOp, this]
  try (cases a <;> cases b <;> rfl)
theorem D_bne {T T' : TypeId} (hT : P.underlying T = some .bool) (hq : drq ops listed i listed2 = true)
    (ho : ops[i]? = some { dst := some d, op := .binOp .neq T x y T', type := t, pos := p, after := af, guard := gd }) (hw : wg n ops σ gd = true)
    (hx : tok n x = true) (hy : tok n y = true) {a b : Bool} (ha : sv σ x = .bool a) (hb : sv σ y = .bool b) {c : Bool} (hc : (a != b) = c) (hS : S w) (h : DRW P n ops K S fuel listed2 (upd σ d (.bool c)) w) : DRW P n ops K S (fuel + 1) listed σ w := by
  subst hc
  refine D_take hq ho hw rfl (fun w' _ => ?_) hS h
  have := run_equal_bool (P := P) w' T a b hT
  simp [execOp, eval_act hx, eval_act hy, ha, hb, eqGuard, binOp, this]
  try (cases a <;> cases b <;> rfl)
theorem D_build {T : TypeId} {parts : Array (Nat × Operand)} (hq : drq ops listed i listed2 = true)
    (ho : ops[i]? = some { dst := some d, op := .build T parts, type := t, pos := p, after := af, guard := gd }) (hw : wg n ops σ gd = true)
    (hx : parts.toList.all (fun q => tok n q.2) = true) {cs : List Value} (hfb : P.built T (parts.toList.map fun q => (q.1, sv σ q.2)) = some cs.toArray)
    (hS : S w) (h : DRW P n ops K S fuel listed2 (upd σ d (.agg cs.toArray)) w) : DRW P n ops K S (fuel + 1) listed σ w := by
  have hp : (parts.map fun q => (q.1, (act n σ).eval q.2)).toList = parts.toList.map fun q => (q.1, sv σ q.2) := by
    rw [Array.toList_map]
    exact List.map_congr_left fun q hq => by rw [eval_act (List.all_eq_true.1 hx q hq)]
  have hr := fun w' => run_build (P := P) w' T (parts.map fun q => (q.1, (act n σ).eval q.2)) cs.toArray (by rw [hp]; exact hfb)
  refine D_take hq ho hw rfl (fun w' _ => ?_) hS h
  simp only [execOp]
  show Sem.run P (Next.value <$> Instr.build T (parts.map fun q => (q.1, (act n σ).eval q.2))) w' = _
  simp [hr]
theorem D_makeFunc {fn : Fn} {cap : Array Operand} (hq : drq ops listed i listed2 = true)
    (ho : ops[i]? = some { dst := some d, op := .makeFunc fn #[] cap, type := t, pos := p, after := af, guard := gd }) (hw : wg n ops σ gd = true)
    (hx : cap.toList.all (tok n) = true) {vs : List Value} (hvs : cap.toList.map (sv σ) = vs) (hS : S w) (h : DRW P n ops K S fuel listed2 (upd σ d (.func fn #[] vs.toArray)) w) : DRW P n ops K S (fuel + 1) listed σ w := by
  refine D_take hq ho hw rfl (fun w' _ => ?_) hS h
  simp [execOp, Instr.makeFunc, args_eval hx, hvs]

end
end Go.Proofs.YtccmicegihlfbaaGreatDoor
