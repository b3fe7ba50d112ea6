/- Fractions of whole numbers; the document's too. -/
import Derived.Test.YtccmicegihlfbaaGreatDoorRat
import Derived.Test.YtccmicegihlfbaaGreatDoorTy
set_option linter.unusedVariables false
set_option linter.unusedSimpArgs false
namespace Go.Proofs.YtccmicegihlfbaaGreatDoor
open Go.RowKit

set_option maxHeartbeats 400000 in
theorem intsSigned_t (w0 : World) (A : Option Addr) (l : List Int) (c : Nat) :
    Ret Tryz.prog 89 [.bool true, .slice A l.length c] w0 (fun r w1 => Below w0.heap.size w0 w1 ∧ r = .agg #[.bool (true && !l.isEmpty), .slice A l.length c]) := by
  have E := Below.refl w0.heap.size w0
  refine Ret_of (n := 13) Tryz.func89 rfl rfl (Nat.le_of_ble_eq_true rfl) ?_
  refine W_seq ?_
  refine W_region rfl ?_
  refine S_alloc ti_api_Int rfl rfl (cs := [.bool false, .slice none 0 0]) rfl ?_
  intro g1 w1 hg1 hs1 hB1 b1
  have hz1 := hB1.size
  have E := Below.step E hB1
  refine OPS.nil ?_
  change WP _ _ _ _ _ _
  refine W_seq ?_
  refine W_region rfl ?_
  refine S_move rfl rfl rfl (v := .bool true) (rfl) ?_
  refine S_move rfl rfl rfl (v := .bool true) (rfl) ?_
  refine S_move rfl rfl rfl (v := .slice A l.length c) (rfl) ?_
  refine S_len Tryz.underlying23 rfl rfl rfl (rfl) (m := l.length) (⟨_, _, rfl⟩) ?_
  refine S_bin rfl rfl rfl rfl rfl (rfl) (rfl) (v := .bool (!l.isEmpty)) (by cases l <;> simp [binV] <;> omega) ?_
  refine S_pick rfl rfl rfl rfl rfl (b := true) (rfl) (v := (.bool (!l.isEmpty))) (rfl) ?_
  refine S_move rfl rfl rfl (v := .slice A l.length c) (rfl) ?_
  refine S_build rfl rfl rfl (cs := [(.bool (!l.isEmpty)), .slice A l.length c]) (by kernel_rfl) ?_
  refine S_store ti_api_Int rfl rfl rfl rfl (g := g1) (o := 0) (rfl) (v := (.agg #[(.bool (!l.isEmpty)), .slice A l.length c])) (rfl) (vs := [(.bool (!l.isEmpty)), .slice A l.length c]) rfl rfl (by simp [Value.oneCell']) b1 (by simp) (cs' := [(.bool (!l.isEmpty)), .slice A l.length c]) rfl ?_
  intro w2 hU2 b1
  have E := Below.stepU E hU2 (by omega)
  have hz2 := hU2.size
  refine OPS.nil ?_
  change WP _ _ _ _ _ _
  refine W_ret ?_
  change Fin' _ _ _ _ _ _
  refine EndC (n := ⟨13, []⟩) (t := 4) rfl (by decide) (rfl) (LD.blk ti_api_Int b1 (l := [(.bool (!l.isEmpty)), .slice A l.length c]) rfl rfl) ?_
  exact ⟨E, rfl⟩

set_option maxHeartbeats 400000 in
theorem intsSigned_f (w0 : World) (A : Option Addr) (l : List Int) (c : Nat) :
    Ret Tryz.prog 89 [.bool false, .slice A l.length c] w0 (fun r w1 => Below w0.heap.size w0 w1 ∧ r = .agg #[.bool (false && !l.isEmpty), .slice A l.length c]) := by
  have E := Below.refl w0.heap.size w0
  refine Ret_of (n := 13) Tryz.func89 rfl rfl (Nat.le_of_ble_eq_true rfl) ?_
  refine W_seq ?_
  refine W_region rfl ?_
  refine S_alloc ti_api_Int rfl rfl (cs := [.bool false, .slice none 0 0]) rfl ?_
  intro g1 w1 hg1 hs1 hB1 b1
  have hz1 := hB1.size
  have E := Below.step E hB1
  refine OPS.nil ?_
  change WP _ _ _ _ _ _
  refine W_seq ?_
  refine W_region rfl ?_
  refine S_move rfl rfl rfl (v := .bool false) (rfl) ?_
  refine S_move rfl rfl rfl (v := .bool false) (rfl) ?_
  refine S_skip (d := 7) (op := .move _) (gd := some (1, true)) rfl (wg_off rfl (rfl) rfl) ?_
  refine S_skip (d := 8) (op := .call _) (gd := some (1, true)) rfl (wg_off rfl (rfl) rfl) ?_
  refine S_skip (d := 9) (op := .binOp _ _ _ _ _) (gd := some (1, true)) rfl (wg_off rfl (rfl) rfl) ?_
  refine S_pick rfl rfl rfl rfl rfl (b := false) (rfl) (v := (.bool false)) (rfl) ?_
  refine S_move rfl rfl rfl (v := .slice A l.length c) (rfl) ?_
  refine S_build rfl rfl rfl (cs := [(.bool false), .slice A l.length c]) (by kernel_rfl) ?_
  refine S_store ti_api_Int rfl rfl rfl rfl (g := g1) (o := 0) (rfl) (v := (.agg #[(.bool false), .slice A l.length c])) (rfl) (vs := [(.bool false), .slice A l.length c]) rfl rfl (by simp [Value.oneCell']) b1 (by simp) (cs' := [(.bool false), .slice A l.length c]) rfl ?_
  intro w2 hU2 b1
  have E := Below.stepU E hU2 (by omega)
  have hz2 := hU2.size
  refine OPS.nil ?_
  change WP _ _ _ _ _ _
  refine W_ret ?_
  change Fin' _ _ _ _ _ _
  refine EndC (n := ⟨13, []⟩) (t := 4) rfl (by decide) (rfl) (LD.blk ti_api_Int b1 (l := [(.bool false), .slice A l.length c]) rfl rfl) ?_
  exact ⟨E, rfl⟩

theorem intsSigned_c (w0 : World) (s : Bool) (v : Value) (l : List Int) {a b : Nat} (h : RN a b w0 v l) : Ret Tryz.prog 89 [.bool s, v] w0 (fun r w1 => Below w0.heap.size w0 w1 ∧ r = .agg #[.bool (s && !l.isEmpty), v]) := by
  obtain ⟨A, c, rfl, -, -⟩ := h.form
  cases s
  · exact intsSigned_f w0 A l c
  · exact intsSigned_t w0 A l c

set_option maxHeartbeats 400000 in
theorem ref02Signed_t (w0 : World) (A : Option Addr) (l : List Int) (c : Nat) :
    Ret Tryz.prog 95 [.bool true, .slice A l.length c] w0 (fun r w1 => Below w0.heap.size w0 w1 ∧ r = .agg #[.bool (true && !l.isEmpty), .slice A l.length c]) := by
  have E := Below.refl w0.heap.size w0
  refine Ret_of (n := 13) Tryz.func95 rfl rfl (Nat.le_of_ble_eq_true rfl) ?_
  refine W_seq ?_
  refine W_region rfl ?_
  refine S_alloc ti_api_Int rfl rfl (cs := [.bool false, .slice none 0 0]) rfl ?_
  intro g1 w1 hg1 hs1 hB1 b1
  have hz1 := hB1.size
  have E := Below.step E hB1
  refine OPS.nil ?_
  change WP _ _ _ _ _ _
  refine W_seq ?_
  refine W_region rfl ?_
  refine S_move rfl rfl rfl (v := .bool true) (rfl) ?_
  refine S_move rfl rfl rfl (v := .bool true) (rfl) ?_
  refine S_move rfl rfl rfl (v := .slice A l.length c) (rfl) ?_
  refine S_len Tryz.underlying23 rfl rfl rfl (rfl) (m := l.length) (⟨_, _, rfl⟩) ?_
  refine S_bin rfl rfl rfl rfl rfl (rfl) (rfl) (v := .bool (!l.isEmpty)) (by cases l <;> simp [binV] <;> omega) ?_
  refine S_pick rfl rfl rfl rfl rfl (b := true) (rfl) (v := (.bool (!l.isEmpty))) (rfl) ?_
  refine S_move rfl rfl rfl (v := .slice A l.length c) (rfl) ?_
  refine S_build rfl rfl rfl (cs := [(.bool (!l.isEmpty)), .slice A l.length c]) (by kernel_rfl) ?_
  refine S_store ti_api_Int rfl rfl rfl rfl (g := g1) (o := 0) (rfl) (v := (.agg #[(.bool (!l.isEmpty)), .slice A l.length c])) (rfl) (vs := [(.bool (!l.isEmpty)), .slice A l.length c]) rfl rfl (by simp [Value.oneCell']) b1 (by simp) (cs' := [(.bool (!l.isEmpty)), .slice A l.length c]) rfl ?_
  intro w2 hU2 b1
  have E := Below.stepU E hU2 (by omega)
  have hz2 := hU2.size
  refine OPS.nil ?_
  change WP _ _ _ _ _ _
  refine W_ret ?_
  change Fin' _ _ _ _ _ _
  refine EndC (n := ⟨13, []⟩) (t := 4) rfl (by decide) (rfl) (LD.blk ti_api_Int b1 (l := [(.bool (!l.isEmpty)), .slice A l.length c]) rfl rfl) ?_
  exact ⟨E, rfl⟩

set_option maxHeartbeats 400000 in
theorem ref02Signed_f (w0 : World) (A : Option Addr) (l : List Int) (c : Nat) :
    Ret Tryz.prog 95 [.bool false, .slice A l.length c] w0 (fun r w1 => Below w0.heap.size w0 w1 ∧ r = .agg #[.bool (false && !l.isEmpty), .slice A l.length c]) := by
  have E := Below.refl w0.heap.size w0
  refine Ret_of (n := 13) Tryz.func95 rfl rfl (Nat.le_of_ble_eq_true rfl) ?_
  refine W_seq ?_
  refine W_region rfl ?_
  refine S_alloc ti_api_Int rfl rfl (cs := [.bool false, .slice none 0 0]) rfl ?_
  intro g1 w1 hg1 hs1 hB1 b1
  have hz1 := hB1.size
  have E := Below.step E hB1
  refine OPS.nil ?_
  change WP _ _ _ _ _ _
  refine W_seq ?_
  refine W_region rfl ?_
  refine S_move rfl rfl rfl (v := .bool false) (rfl) ?_
  refine S_move rfl rfl rfl (v := .bool false) (rfl) ?_
  refine S_skip (d := 7) (op := .move _) (gd := some (1, true)) rfl (wg_off rfl (rfl) rfl) ?_
  refine S_skip (d := 8) (op := .call _) (gd := some (1, true)) rfl (wg_off rfl (rfl) rfl) ?_
  refine S_skip (d := 9) (op := .binOp _ _ _ _ _) (gd := some (1, true)) rfl (wg_off rfl (rfl) rfl) ?_
  refine S_pick rfl rfl rfl rfl rfl (b := false) (rfl) (v := (.bool false)) (rfl) ?_
  refine S_move rfl rfl rfl (v := .slice A l.length c) (rfl) ?_
  refine S_build rfl rfl rfl (cs := [(.bool false), .slice A l.length c]) (by kernel_rfl) ?_
  refine S_store ti_api_Int rfl rfl rfl rfl (g := g1) (o := 0) (rfl) (v := (.agg #[(.bool false), .slice A l.length c])) (rfl) (vs := [(.bool false), .slice A l.length c]) rfl rfl (by simp [Value.oneCell']) b1 (by simp) (cs' := [(.bool false), .slice A l.length c]) rfl ?_
  intro w2 hU2 b1
  have E := Below.stepU E hU2 (by omega)
  have hz2 := hU2.size
  refine OPS.nil ?_
  change WP _ _ _ _ _ _
  refine W_ret ?_
  change Fin' _ _ _ _ _ _
  refine EndC (n := ⟨13, []⟩) (t := 4) rfl (by decide) (rfl) (LD.blk ti_api_Int b1 (l := [(.bool false), .slice A l.length c]) rfl rfl) ?_
  exact ⟨E, rfl⟩

theorem ref02Signed_c (w0 : World) (s : Bool) (v : Value) (l : List Int) {a b : Nat} (h : RN a b w0 v l) : Ret Tryz.prog 95 [.bool s, v] w0 (fun r w1 => Below w0.heap.size w0 w1 ∧ r = .agg #[.bool (s && !l.isEmpty), v]) := by
  obtain ⟨A, c, rfl, -, -⟩ := h.form
  cases s
  · exact ref02Signed_f w0 A l c
  · exact ref02Signed_t w0 A l c


theorem RN.atk {a b : Nat} {w : World} {A : Option Addr} {l : List Int} {k c : Nat} (h : RN a b w (.slice A k c) (l.take k)) (hk : k ≤ l.length) (j : Nat) (hj : j < k) : ∃ ad, SlAt (.slice A k c) k 1 j ad ∧ w.cell? ad = some (.int .u32 (l.getD j 0)) := by
  have hlen : (l.take k).length = k := by simp; omega
  obtain ⟨ad, h1, h2⟩ := h.at j (by omega)
  rw [hlen] at h1
  refine ⟨ad, h1, ?_⟩
  rw [h2]
  simp [List.getD_eq_getElem?_getD, List.getElem?_take_of_lt hj]
theorem RN.prev {a b : Nat} {w : World} {A : Option Addr} {l : List Int} {k c : Nat} (h : RN a b w (.slice A k c) (l.take k)) (h0 : 0 < k) (hk : k ≤ l.length) : RN a b w (.slice A (k - 1) c) (l.take (k - 1)) := by
  obtain ⟨hu, A', c', hv, h1, h2, h3⟩ := h
  have hlen : (l.take k).length = k := by simp; omega
  have hlen2 : (l.take (k - 1)).length = k - 1 := by simp; omega
  simp only [Value.slice.injEq] at hv
  obtain ⟨rfl, _, rfl⟩ := hv
  refine ⟨fun x hx => hu x (List.take_subset_take_left l (by omega) hx), A, c, by rw [hlen2], by omega, h2, fun j hj => ?_⟩
  obtain ⟨ad, hA, hb, hc⟩ := h3 j (by omega)
  refine ⟨ad, hA, hb, ?_⟩
  rw [hc]
  simp [List.getD_eq_getElem?_getD, List.getElem?_take_of_lt (show j < k by omega), List.getElem?_take_of_lt (show j < k - 1 by omega)]

set_option maxHeartbeats 400000 in
theorem ref01Trim_c0 (w0 : World) (A : Option Addr) (l : List Int) (c : Nat) (hc : l.length ≤ c) (hm : c ≤ 9223372036854775807) (h : RN 0 0 w0 (.slice A l.length c) l) :
    Ret Tryz.prog 166 [.slice A l.length c] w0 (fun r w1 => (∃ k, r = .slice A k c ∧ k ≤ l.length ∧ l.take k = dg (val l)) ∧ w0 = w1) := by
  refine Ret_of (n := 21) Tryz.func166 rfl rfl (Nat.le_of_ble_eq_true rfl) ?_
  refine W_seq ?_
  refine W_region rfl ?_
  refine S_assign rfl rfl rfl (v := (.slice none 0 0)) (rfl) ?_
  refine OPS.nil ?_
  change WP _ _ _ _ _ _
  refine W_seq ?_
  refine W_block ?_
  refine W_loop (fun k σ w => σ 0 = .slice A k c ∧ RN 0 0 w0 (.slice A k c) (l.take k) ∧ k ≤ l.length ∧ val (l.take k) = val l ∧ w0 = w) (l.length) ⟨rfl, by rw [List.take_length]; exact h, Nat.le_refl _, by rw [List.take_length], rfl⟩ ?_
  rintro k σ w ⟨hs0, hR, hk, hval, rfl⟩
  refine W_seq ?_
  refine W_seq ?_
  rcases Nat.eq_zero_or_pos k with hk0 | hk0
  · skip
    refine W_region rfl ?_
    refine S_move rfl rfl rfl (v := (.slice A k c)) (hs0) ?_
    refine S_len Tryz.underlying23 rfl rfl rfl (rfl) (m := k) (⟨_, _, rfl⟩) ?_
    refine S_bin rfl rfl rfl rfl rfl (rfl) (rfl) (v := .bool false) (by simp [binV, hk0]) ?_
    refine S_move rfl rfl rfl (v := (.bool false)) (rfl) ?_
    refine S_skip (d := 7) (op := .move _) (gd := some (3, true)) rfl (wg_off rfl (rfl) rfl) ?_
    refine S_skip (d := 8) (op := .move _) (gd := some (3, true)) rfl (wg_off rfl (rfl) rfl) ?_
    refine S_skip (d := 9) (op := .call _) (gd := some (3, true)) rfl (wg_off rfl (rfl) rfl) ?_
    refine S_skip (d := 10) (op := .binOp _ _ _ _ _) (gd := some (3, true)) rfl (wg_off rfl (rfl) rfl) ?_
    refine S_skip (d := 11) (op := .indexAddr _ _ _) (gd := some (3, true)) rfl (wg_off rfl (rfl) rfl) ?_
    refine S_skip (d := 12) (op := .load _ _) (gd := some (3, true)) rfl (wg_off rfl (rfl) rfl) ?_
    refine S_skip (d := 13) (op := .binOp _ _ _ _ _) (gd := some (3, true)) rfl (wg_off rfl (rfl) rfl) ?_
    refine S_pick rfl rfl rfl rfl rfl (b := false) (rfl) (v := (.bool false)) (rfl) ?_
    refine OPS.nil ?_
    change WP _ _ _ _ _ _
    refine W_cond rfl (b := false) (rfl) (fun h => (by cases h)) (fun _ => ?_)
    refine W_exit ?_
    change WP _ _ _ _ _ _
    refine W_seq ?_
    refine W_region rfl ?_
    refine S_move rfl rfl rfl (v := (.slice A k c)) (hs0) ?_
    refine S_assign rfl rfl rfl (v := (.slice A k c)) (rfl) ?_
    refine OPS.nil ?_
    change WP _ _ _ _ _ _
    refine W_ret ?_
    change Fin' _ _ _ _ _ _
    refine End1 (n := ⟨21, []⟩) (t := 2) rfl (by decide) (v := (.slice A k c)) (rfl) ?_
    subst hk0
    exact ⟨⟨0, rfl, by omega, (by rw [← hval]; exact (dg_zero).symm)⟩, rfl⟩
  · skip
    refine W_region rfl ?_
    refine S_move rfl rfl rfl (v := (.slice A k c)) (hs0) ?_
    refine S_len Tryz.underlying23 rfl rfl rfl (rfl) (m := k) (⟨_, _, rfl⟩) ?_
    refine S_bin rfl rfl rfl rfl rfl (rfl) (rfl) (v := .bool true) (by simp [binV]; omega) ?_
    refine S_move rfl rfl rfl (v := (.bool true)) (rfl) ?_
    refine S_move rfl rfl rfl (v := (.slice A k c)) (hs0) ?_
    refine S_move rfl rfl rfl (v := (.slice A k c)) (hs0) ?_
    refine S_len Tryz.underlying23 rfl rfl rfl (rfl) (m := k) (⟨_, _, rfl⟩) ?_
    refine S_sub64 rfl rfl rfl rfl (rfl) (rfl) (by omega) ?_
    obtain ⟨ad1, hp3, hc2⟩ := hR.atk hk (k - 1) (by omega)
    refine S_idx Tryz.underlying23 ti_uint32 rfl rfl rfl rfl (rfl) (rfl) hp3 (by omega) ?_
    refine S_load rfl rfl rfl (rfl) (LD.one ti_uint32 hc2) ?_
    refine S_bin rfl rfl rfl rfl rfl (rfl) (rfl) rfl ?_
    refine S_pick rfl rfl rfl rfl rfl (b := true) (rfl) (v := (.bool (((l.getD (k - 1) 0) == 0)))) (rfl) ?_
    refine OPS.nil ?_
    change WP _ _ _ _ _ _
    refine W_cond rfl (rfl) (fun hq14 => ?_) (fun hq14 => ?_)
    · skip
      have hcd0 := hq14
      replace hq14 := eq_of_beq hq14
      have hz := hq14
      refine W_skip ?_
      change WP _ _ _ _ _ _
      refine W_block ?_
      refine W_region rfl ?_
      refine S_move rfl rfl rfl (v := (.slice A k c)) (hs0) ?_
      refine S_move rfl rfl rfl (v := (.slice A k c)) (hs0) ?_
      refine S_len Tryz.underlying23 rfl rfl rfl (rfl) (m := k) (⟨_, _, rfl⟩) ?_
      refine S_sub64 rfl rfl rfl rfl (rfl) (rfl) (by omega) ?_
      refine S_sliceHi Tryz.underlying23 ti_uint32 rfl rfl rfl rfl (A := A) (m := k) (c := c) (rfl) (rfl) (j := (k - 1)) (by omega) (by omega) ?_
      refine S_assign rfl rfl rfl (v := (.slice A ((k - 1)) (c))) (rfl) ?_
      refine OPS.nil ?_
      exact ⟨k - 1, by omega, rfl, hR.prev hk0 hk, by omega, by rw [← hval]; exact (val_drop0 hk0 hk hz).symm, rfl⟩
    · skip
      have hcd1 := hq14
      replace hq14 := ne_of_beq_false hq14
      refine W_exit ?_
      change WP _ _ _ _ _ _
      refine W_seq ?_
      refine W_region rfl ?_
      refine S_move rfl rfl rfl (v := (.slice A k c)) (hs0) ?_
      refine S_assign rfl rfl rfl (v := (.slice A k c)) (rfl) ?_
      refine OPS.nil ?_
      change WP _ _ _ _ _ _
      refine W_ret ?_
      change Fin' _ _ _ _ _ _
      refine End1 (n := ⟨21, []⟩) (t := 2) rfl (by decide) (v := (.slice A k c)) (rfl) ?_
      exact ⟨⟨k, rfl, hk, by rw [← hval]; exact (dg_take hk0 hk h.u32 hq14).symm⟩, rfl⟩


theorem ref01Trim_c (w0 : World) (v : Value) (l : List Int) {a b : Nat} (h : RN a b w0 v l) :
    Ret Tryz.prog 166 [v] w0 (fun r w1 => (∃ A c k, v = .slice A l.length c ∧ r = .slice A k c ∧ k ≤ l.length ∧ l.take k = dg (val l)) ∧ w0 = w1) := by
  obtain ⟨A, c, hv, hc, hm⟩ := h.form
  subst hv
  refine (ref01Trim_c0 w0 A l c hc hm h.any).mono ?_
  rintro r w1 ⟨⟨k, h1, h2, h3⟩, h4⟩
  exact ⟨⟨A, c, k, rfl, h1, h2, h3⟩, h4⟩
theorem trim_on {B g m c0 : Nat} {w : World} {xs : List Int} {cs : List Value} {r : Value} {A : Option Addr} {c k : Nat} (hb : Blk w g cs 106) (hcs : cs.take m = nums .u32 xs) (hc0 : c0 ≤ cs.length) (hu : U32 xs) (hB : B ≤ g) (hm : xs.length = m) (hmx : c0 ≤ 9223372036854775807) (hmc : m ≤ c0)
    (hv : Value.slice (some ⟨g, 0, none⟩) m c0 = .slice A xs.length c) (hr : r = .slice A k c) (hk : k ≤ xs.length) (ht : xs.take k = dg (val xs)) : ON B w r (dg (val xs)) := by
  simp only [Value.slice.injEq] at hv
  obtain ⟨rfl, _, rfl⟩ := hv
  subst hr
  rw [← ht]
  refine ON.mk hb (hu.take k) hB (by simp; omega) (by omega) (by omega) hmx (fun j hj => ?_)
  have := nums_get .u32 xs j (by omega)
  rw [← hcs, List.getElem?_take_of_lt (by omega)] at this
  rw [this]
  simp [List.getD_eq_getElem?_getD, List.getElem?_take_of_lt hj]

set_option maxHeartbeats 400000 in
theorem ref01Of_c (w0 : World) (x : Int) (hx : 0 ≤ x ∧ x < 18446744073709551616) :
    Ret Tryz.prog 164 [.int .u64 x] w0 (fun r w1 => Below w0.heap.size w0 w1 ∧ ON w0.heap.size w1 r (dg x.toNat)) := by
  have E := Below.refl w0.heap.size w0
  refine Ret_of (n := 10) Tryz.func164 rfl rfl (Nat.le_of_ble_eq_true rfl) ?_
  refine W_seq ?_
  refine W_region rfl ?_
  refine S_assign rfl rfl rfl (v := (.slice none 0 0)) (rfl) ?_
  refine OPS.nil ?_
  change WP _ _ _ _ _ _
  refine W_seq ?_
  refine W_region rfl ?_
  refine S_move rfl rfl rfl (v := .int .u64 x) (rfl) ?_
  refine S_conv Tryz.underlying124 Tryz.underlying106 rfl rfl rfl (rfl) (b := (x % 4294967296)) (wrap_u32' _) ?_
  refine S_move rfl rfl rfl (v := .int .u64 x) (rfl) ?_
  refine S_shr rfl rfl rfl rfl (rfl) (rfl) (by omega) (v := (x / 4294967296)) (shr32 _) ?_
  refine S_conv Tryz.underlying124 Tryz.underlying106 rfl rfl rfl (rfl) (b := (x / 4294967296)) (wrap_u32 (by omega) (by omega)) ?_
  refine S_lit Tryz.underlying23 ti_uint32 rfl rfl (by decide) (by decide) rfl (vs := [(.int .u32 (x % 4294967296)), (.int .u32 (x / 4294967296))]) (cs := [(.int .u32 (x % 4294967296)), (.int .u32 (x / 4294967296))]) rfl rfl (by simp [Value.cells]) rfl ?_
  intro g1 w1 hg1 hs1 hB1 b1
  have hz1 := hB1.size
  have E := Below.step E hB1
  replace b1 : Blk w1 g1 (nums .u32 [(x % 4294967296), (x / 4294967296)]) 106 := b1
  have hxu : U32 [(x % 4294967296), (x / 4294967296)] := U32.mk (by omega) (by omega) (U32.mk (by omega) (by omega) U32.nil)
  refine S_call en_assayerref01_trim rfl rfl rfl (vs := [(.slice (some ⟨g1, 0, none⟩) 2 2)]) (rfl) (ref01Trim_c _ _ [(x % 4294967296), (x / 4294967296)] (RN.ofNums (a := 0) (b := 0) b1 hxu rfl (by omega))) ?_
  rintro r _ ⟨⟨A, c', k', hv, hr', hk', ht⟩, rfl⟩
  refine S_assign rfl rfl rfl (v := r) (rfl) ?_
  refine OPS.nil ?_
  change WP _ _ _ _ _ _
  refine W_ret ?_
  change Fin' _ _ _ _ _ _
  refine End1 (n := ⟨10, []⟩) (t := 2) rfl (by decide) (v := r) (rfl) ?_
  have := trim_on b1 (m := 2) (c0 := 2) rfl (by simp [nums]) hxu (B := w0.heap.size) (by omega) rfl (by omega) (by omega) hv hr' hk' ht
  rw [val_two, show (x % 4294967296).toNat + 4294967296 * (x / 4294967296).toNat = x.toNat by omega] at this
  exact ⟨E, this⟩


theorem neg_wrap64 {n : Int} (h : -9223372036854775808 ≤ n ∧ n ≤ 9223372036854775807) (h0 : n < 0) : IntKind.u64.wrap (IntKind.i64.wrap (0 - n)) = -n := by
  simp [IntKind.wrap, IntKind.bits, IntKind.signed]; omega
theorem neg_wrap64' {n : Int} (h : -9223372036854775808 ≤ n ∧ n ≤ 9223372036854775807) (h0 : n < 0) : IntKind.u64.wrap (0 - (IntKind.u64.wrap n)) = -n := by
  simp [IntKind.wrap, IntKind.bits, IntKind.signed]; omega
theorem dg_empty {n : Nat} (h : n ≠ 0) : (dg n).isEmpty = false := by
  cases h2 : dg n with
  | nil => exact absurd (dg_eq_nil.1 h2) h
  | cons x l => rfl

set_option maxHeartbeats 400000 in
theorem intsOf_n (w0 : World) (n : Int) (hn : -9223372036854775808 ≤ n ∧ n ≤ 9223372036854775807) (h0 : n < 0) :
    Ret Tryz.prog 177 [.int .i64 n] w0 (fun r w1 => Below w0.heap.size w0 w1 ∧ ∃ v, r = .agg #[.bool (decide (n < 0)), v] ∧ ON w0.heap.size w1 v (dg n.natAbs)) := by
  have E := Below.refl w0.heap.size w0
  refine Ret_of (n := 14) Tryz.func177 rfl rfl (Nat.le_of_ble_eq_true rfl) ?_
  refine W_seq ?_
  refine W_region rfl ?_
  refine S_alloc ti_api_Int rfl rfl (cs := [.bool false, .slice none 0 0]) rfl ?_
  intro g1 w1 hg1 hs1 hB1 b1
  have hz1 := hB1.size
  have E := Below.step E hB1
  refine OPS.nil ?_
  change WP _ _ _ _ _ _
  refine W_seq ?_
  refine W_seq ?_
  refine W_region rfl ?_
  refine S_move rfl rfl rfl (v := .int .i64 n) (rfl) ?_
  refine S_bin rfl rfl rfl rfl rfl (rfl) (rfl) (v := .bool true) (by simp [binV]; omega) ?_
  refine OPS.nil ?_
  change WP _ _ _ _ _ _
  refine W_cond rfl (b := true) (rfl) (fun _ => ?_) (fun h => (by cases h))
  refine W_seq ?_
  refine W_region rfl ?_
  refine S_move rfl rfl rfl (v := .int .i64 n) (rfl) ?_
  refine S_neg rfl rfl rfl (rfl) (v := (IntKind.i64.wrap (0 - n))) (rfl) ?_
  refine S_conv Tryz.underlying2 Tryz.underlying124 rfl rfl rfl (rfl) (b := (-n)) (neg_wrap64 hn h0) ?_
  refine S_call en_nats_Of rfl rfl rfl (vs := [(.int .u64 (-n))]) (rfl) (natsOf_c _ _ (by omega)) ?_
  rintro v1 w2 ⟨hB2, h1⟩
  have hz2 := hB2.size
  have E := Below.step E hB2
  have hl_b1 := b1.lt
  have b1 := b1.below hB2
  obtain ⟨A1, c1, rfl, -, -⟩ := h1.r.form
  refine S_call en_ints_signed rfl rfl rfl (vs := [(.bool true), (.slice A1 (dg (-n).toNat).length c1)]) (rfl) (intsSigned_c _ _ _ _ h1.r) ?_
  rintro _ w3 ⟨hB3, rfl⟩
  have hz3 := hB3.size
  have E := Below.step E hB3
  have hl_b1 := b1.lt
  have b1 := b1.below hB3
  have h1 := h1.below hB3
  refine S_store ti_api_Int rfl rfl rfl rfl (g := g1) (o := 0) (rfl) (v := (.agg #[.bool (true && !(dg (-n).toNat).isEmpty), .slice A1 (dg (-n).toNat).length c1])) (rfl) (vs := [(.bool (true && !(dg (-n).toNat).isEmpty)), (.slice A1 (dg (-n).toNat).length c1)]) rfl rfl (by simp [Value.oneCell']) b1 (by simp) (cs' := [(.bool (true && !(dg (-n).toNat).isEmpty)), (.slice A1 (dg (-n).toNat).length c1)]) rfl ?_
  intro w4 hU4 b1
  have E := Below.stepU E hU4 (by omega)
  have h1 := h1.upd hU4 (by omega) (by omega)
  have hz4 := hU4.size
  refine OPS.nil ?_
  change WP _ _ _ _ _ _
  refine W_ret ?_
  change Fin' _ _ _ _ _ _
  refine EndC (n := ⟨14, []⟩) (t := 2) rfl (by decide) (rfl) (LD.blk ti_api_Int b1 (l := [(.bool (true && !(dg (-n).toNat).isEmpty)), (.slice A1 (dg (-n).toNat).length c1)]) rfl rfl) ?_
  have e : (true && !(dg (-n).toNat).isEmpty) = decide (n < 0) := by rw [dg_empty (by omega)]; simp [h0]
  rw [e, show n.natAbs = (-n).toNat by omega]
  exact ⟨E, _, rfl, h1.mono (by omega)⟩

set_option maxHeartbeats 400000 in
theorem intsOf_p (w0 : World) (n : Int) (hn : -9223372036854775808 ≤ n ∧ n ≤ 9223372036854775807) (h0 : 0 ≤ n) :
    Ret Tryz.prog 177 [.int .i64 n] w0 (fun r w1 => Below w0.heap.size w0 w1 ∧ ∃ v, r = .agg #[.bool (decide (n < 0)), v] ∧ ON w0.heap.size w1 v (dg n.natAbs)) := by
  have E := Below.refl w0.heap.size w0
  refine Ret_of (n := 14) Tryz.func177 rfl rfl (Nat.le_of_ble_eq_true rfl) ?_
  refine W_seq ?_
  refine W_region rfl ?_
  refine S_alloc ti_api_Int rfl rfl (cs := [.bool false, .slice none 0 0]) rfl ?_
  intro g1 w1 hg1 hs1 hB1 b1
  have hz1 := hB1.size
  have E := Below.step E hB1
  refine OPS.nil ?_
  change WP _ _ _ _ _ _
  refine W_seq ?_
  refine W_seq ?_
  refine W_region rfl ?_
  refine S_move rfl rfl rfl (v := .int .i64 n) (rfl) ?_
  refine S_bin rfl rfl rfl rfl rfl (rfl) (rfl) (v := .bool false) (by simp [binV]; omega) ?_
  refine OPS.nil ?_
  change WP _ _ _ _ _ _
  refine W_cond rfl (b := false) (rfl) (fun h => (by cases h)) (fun _ => ?_)
  refine W_skip ?_
  change WP _ _ _ _ _ _
  refine W_seq ?_
  refine W_region rfl ?_
  refine S_move rfl rfl rfl (v := .int .i64 n) (rfl) ?_
  refine S_conv Tryz.underlying2 Tryz.underlying124 rfl rfl rfl (rfl) (b := n) (wrap_u64 (by omega) (by omega)) ?_
  refine S_call en_nats_Of rfl rfl rfl (vs := [(.int .u64 n)]) (rfl) (natsOf_c _ _ (by omega)) ?_
  rintro v1 w2 ⟨hB2, h1⟩
  have hz2 := hB2.size
  have E := Below.step E hB2
  have hl_b1 := b1.lt
  have b1 := b1.below hB2
  obtain ⟨A1, c1, rfl, -, -⟩ := h1.r.form
  refine S_call en_ints_signed rfl rfl rfl (vs := [(.bool false), (.slice A1 (dg n.toNat).length c1)]) (rfl) (intsSigned_c _ _ _ _ h1.r) ?_
  rintro _ w3 ⟨hB3, rfl⟩
  have hz3 := hB3.size
  have E := Below.step E hB3
  have hl_b1 := b1.lt
  have b1 := b1.below hB3
  have h1 := h1.below hB3
  refine S_store ti_api_Int rfl rfl rfl rfl (g := g1) (o := 0) (rfl) (v := (.agg #[.bool (false && !(dg n.toNat).isEmpty), .slice A1 (dg n.toNat).length c1])) (rfl) (vs := [(.bool (false && !(dg n.toNat).isEmpty)), (.slice A1 (dg n.toNat).length c1)]) rfl rfl (by simp [Value.oneCell']) b1 (by simp) (cs' := [(.bool (false && !(dg n.toNat).isEmpty)), (.slice A1 (dg n.toNat).length c1)]) rfl ?_
  intro w4 hU4 b1
  have E := Below.stepU E hU4 (by omega)
  have h1 := h1.upd hU4 (by omega) (by omega)
  have hz4 := hU4.size
  refine OPS.nil ?_
  change WP _ _ _ _ _ _
  refine W_ret ?_
  change Fin' _ _ _ _ _ _
  refine EndC (n := ⟨14, []⟩) (t := 2) rfl (by decide) (rfl) (LD.blk ti_api_Int b1 (l := [(.bool (false && !(dg n.toNat).isEmpty)), (.slice A1 (dg n.toNat).length c1)]) rfl rfl) ?_
  rw [show decide (n < 0) = false by simp; omega, show n.natAbs = n.toNat by omega]
  exact ⟨E, _, rfl, h1.mono (by omega)⟩

theorem intsOf_c (w0 : World) (n : Int) (hn : -9223372036854775808 ≤ n ∧ n ≤ 9223372036854775807) : Ret Tryz.prog 177 [.int .i64 n] w0 (fun r w1 => Below w0.heap.size w0 w1 ∧ ∃ v, r = .agg #[.bool (decide (n < 0)), v] ∧ ON w0.heap.size w1 v (dg n.natAbs)) := by
  by_cases h0 : n < 0
  · exact intsOf_n w0 n hn h0
  · exact intsOf_p w0 n hn (by omega)

set_option maxHeartbeats 400000 in
theorem ref02Of_n (w0 : World) (n : Int) (hn : -9223372036854775808 ≤ n ∧ n ≤ 9223372036854775807) (h0 : n < 0) :
    Ret Tryz.prog 178 [.int .i64 n] w0 (fun r w1 => Below w0.heap.size w0 w1 ∧ ∃ v, r = .agg #[.bool (decide (n < 0)), v] ∧ ON w0.heap.size w1 v (dg n.natAbs)) := by
  have E := Below.refl w0.heap.size w0
  refine Ret_of (n := 14) Tryz.func178 rfl rfl (Nat.le_of_ble_eq_true rfl) ?_
  refine W_seq ?_
  refine W_region rfl ?_
  refine S_alloc ti_api_Int rfl rfl (cs := [.bool false, .slice none 0 0]) rfl ?_
  intro g1 w1 hg1 hs1 hB1 b1
  have hz1 := hB1.size
  have E := Below.step E hB1
  refine OPS.nil ?_
  change WP _ _ _ _ _ _
  refine W_seq ?_
  refine W_seq ?_
  refine W_region rfl ?_
  refine S_move rfl rfl rfl (v := .int .i64 n) (rfl) ?_
  refine S_bin rfl rfl rfl rfl rfl (rfl) (rfl) (v := .bool true) (by simp [binV]; omega) ?_
  refine OPS.nil ?_
  change WP _ _ _ _ _ _
  refine W_cond rfl (b := true) (rfl) (fun _ => ?_) (fun h => (by cases h))
  refine W_seq ?_
  refine W_region rfl ?_
  refine S_move rfl rfl rfl (v := .int .i64 n) (rfl) ?_
  refine S_conv Tryz.underlying2 Tryz.underlying124 rfl rfl rfl (rfl) (b := (IntKind.u64.wrap n)) (rfl) ?_
  refine S_neg rfl rfl rfl (rfl) (v := (-n)) (neg_wrap64' hn h0) ?_
  refine S_call en_assayerref01_Of rfl rfl rfl (vs := [(.int .u64 (-n))]) (rfl) (ref01Of_c _ _ (by omega)) ?_
  rintro v1 w2 ⟨hB2, h1⟩
  have hz2 := hB2.size
  have E := Below.step E hB2
  have hl_b1 := b1.lt
  have b1 := b1.below hB2
  obtain ⟨A1, c1, rfl, -, -⟩ := h1.r.form
  refine S_call en_assayerref02_Signed rfl rfl rfl (vs := [(.bool true), (.slice A1 (dg (-n).toNat).length c1)]) (rfl) (ref02Signed_c _ _ _ _ h1.r) ?_
  rintro _ w3 ⟨hB3, rfl⟩
  have hz3 := hB3.size
  have E := Below.step E hB3
  have hl_b1 := b1.lt
  have b1 := b1.below hB3
  have h1 := h1.below hB3
  refine S_store ti_api_Int rfl rfl rfl rfl (g := g1) (o := 0) (rfl) (v := (.agg #[.bool (true && !(dg (-n).toNat).isEmpty), .slice A1 (dg (-n).toNat).length c1])) (rfl) (vs := [(.bool (true && !(dg (-n).toNat).isEmpty)), (.slice A1 (dg (-n).toNat).length c1)]) rfl rfl (by simp [Value.oneCell']) b1 (by simp) (cs' := [(.bool (true && !(dg (-n).toNat).isEmpty)), (.slice A1 (dg (-n).toNat).length c1)]) rfl ?_
  intro w4 hU4 b1
  have E := Below.stepU E hU4 (by omega)
  have h1 := h1.upd hU4 (by omega) (by omega)
  have hz4 := hU4.size
  refine OPS.nil ?_
  change WP _ _ _ _ _ _
  refine W_ret ?_
  change Fin' _ _ _ _ _ _
  refine EndC (n := ⟨14, []⟩) (t := 2) rfl (by decide) (rfl) (LD.blk ti_api_Int b1 (l := [(.bool (true && !(dg (-n).toNat).isEmpty)), (.slice A1 (dg (-n).toNat).length c1)]) rfl rfl) ?_
  have e : (true && !(dg (-n).toNat).isEmpty) = decide (n < 0) := by rw [dg_empty (by omega)]; simp [h0]
  rw [e, show n.natAbs = (-n).toNat by omega]
  exact ⟨E, _, rfl, h1.mono (by omega)⟩

set_option maxHeartbeats 400000 in
theorem ref02Of_p (w0 : World) (n : Int) (hn : -9223372036854775808 ≤ n ∧ n ≤ 9223372036854775807) (h0 : 0 ≤ n) :
    Ret Tryz.prog 178 [.int .i64 n] w0 (fun r w1 => Below w0.heap.size w0 w1 ∧ ∃ v, r = .agg #[.bool (decide (n < 0)), v] ∧ ON w0.heap.size w1 v (dg n.natAbs)) := by
  have E := Below.refl w0.heap.size w0
  refine Ret_of (n := 14) Tryz.func178 rfl rfl (Nat.le_of_ble_eq_true rfl) ?_
  refine W_seq ?_
  refine W_region rfl ?_
  refine S_alloc ti_api_Int rfl rfl (cs := [.bool false, .slice none 0 0]) rfl ?_
  intro g1 w1 hg1 hs1 hB1 b1
  have hz1 := hB1.size
  have E := Below.step E hB1
  refine OPS.nil ?_
  change WP _ _ _ _ _ _
  refine W_seq ?_
  refine W_seq ?_
  refine W_region rfl ?_
  refine S_move rfl rfl rfl (v := .int .i64 n) (rfl) ?_
  refine S_bin rfl rfl rfl rfl rfl (rfl) (rfl) (v := .bool false) (by simp [binV]; omega) ?_
  refine OPS.nil ?_
  change WP _ _ _ _ _ _
  refine W_cond rfl (b := false) (rfl) (fun h => (by cases h)) (fun _ => ?_)
  refine W_skip ?_
  change WP _ _ _ _ _ _
  refine W_seq ?_
  refine W_region rfl ?_
  refine S_move rfl rfl rfl (v := .int .i64 n) (rfl) ?_
  refine S_conv Tryz.underlying2 Tryz.underlying124 rfl rfl rfl (rfl) (b := n) (wrap_u64 (by omega) (by omega)) ?_
  refine S_call en_assayerref01_Of rfl rfl rfl (vs := [(.int .u64 n)]) (rfl) (ref01Of_c _ _ (by omega)) ?_
  rintro v1 w2 ⟨hB2, h1⟩
  have hz2 := hB2.size
  have E := Below.step E hB2
  have hl_b1 := b1.lt
  have b1 := b1.below hB2
  obtain ⟨A1, c1, rfl, -, -⟩ := h1.r.form
  refine S_call en_assayerref02_Signed rfl rfl rfl (vs := [(.bool false), (.slice A1 (dg n.toNat).length c1)]) (rfl) (ref02Signed_c _ _ _ _ h1.r) ?_
  rintro _ w3 ⟨hB3, rfl⟩
  have hz3 := hB3.size
  have E := Below.step E hB3
  have hl_b1 := b1.lt
  have b1 := b1.below hB3
  have h1 := h1.below hB3
  refine S_store ti_api_Int rfl rfl rfl rfl (g := g1) (o := 0) (rfl) (v := (.agg #[.bool (false && !(dg n.toNat).isEmpty), .slice A1 (dg n.toNat).length c1])) (rfl) (vs := [(.bool (false && !(dg n.toNat).isEmpty)), (.slice A1 (dg n.toNat).length c1)]) rfl rfl (by simp [Value.oneCell']) b1 (by simp) (cs' := [(.bool (false && !(dg n.toNat).isEmpty)), (.slice A1 (dg n.toNat).length c1)]) rfl ?_
  intro w4 hU4 b1
  have E := Below.stepU E hU4 (by omega)
  have h1 := h1.upd hU4 (by omega) (by omega)
  have hz4 := hU4.size
  refine OPS.nil ?_
  change WP _ _ _ _ _ _
  refine W_ret ?_
  change Fin' _ _ _ _ _ _
  refine EndC (n := ⟨14, []⟩) (t := 2) rfl (by decide) (rfl) (LD.blk ti_api_Int b1 (l := [(.bool (false && !(dg n.toNat).isEmpty)), (.slice A1 (dg n.toNat).length c1)]) rfl rfl) ?_
  rw [show decide (n < 0) = false by simp; omega, show n.natAbs = n.toNat by omega]
  exact ⟨E, _, rfl, h1.mono (by omega)⟩

theorem ref02Of_c (w0 : World) (n : Int) (hn : -9223372036854775808 ≤ n ∧ n ≤ 9223372036854775807) : Ret Tryz.prog 178 [.int .i64 n] w0 (fun r w1 => Below w0.heap.size w0 w1 ∧ ∃ v, r = .agg #[.bool (decide (n < 0)), v] ∧ ON w0.heap.size w1 v (dg n.natAbs)) := by
  by_cases h0 : n < 0
  · exact ref02Of_n w0 n hn h0
  · exact ref02Of_p w0 n hn (by omega)

set_option maxHeartbeats 400000 in
theorem ratsOf_c (w0 : World) (n : Int) (hn : -9223372036854775808 ≤ n ∧ n ≤ 9223372036854775807) :
    Ret Tryz.prog 50 [.int .i64 n] w0 (fun r w1 => Below w0.heap.size w0 w1 ∧ OQ w0.heap.size w1 r ⟨decide (n < 0), dg n.natAbs, [1]⟩) := by
  have E := Below.refl w0.heap.size w0
  refine Ret_of (n := 7) Tryz.func50 rfl rfl (Nat.le_of_ble_eq_true rfl) ?_
  refine W_seq ?_
  refine W_region rfl ?_
  refine S_alloc ti_api_Rat rfl rfl (cs := [.bool false, .slice none 0 0, .slice none 0 0]) rfl ?_
  intro g1 w1 hg1 hs1 hB1 b1
  have hz1 := hB1.size
  have E := Below.step E hB1
  refine OPS.nil ?_
  change WP _ _ _ _ _ _
  refine W_seq ?_
  refine W_region rfl ?_
  refine S_move rfl rfl rfl (v := .int .i64 n) (rfl) ?_
  refine S_call en_ints_Of rfl rfl rfl (vs := [.int .i64 n]) (rfl) (intsOf_c _ _ hn) ?_
  rintro _ w2 ⟨hB2, v1, rfl, h1⟩
  have hz2 := hB2.size
  have E := Below.step E hB2
  have hl_b1 := b1.lt
  have b1 := b1.below hB2
  obtain ⟨A1, c1, rfl, -, -⟩ := h1.r.form
  have hk1 := h1.bkB
  refine S_lit Tryz.underlying23 ti_uint32 rfl rfl (by decide) (by decide) rfl (vs := [(.int .u32 1)]) (cs := [(.int .u32 1)]) rfl rfl (by simp [Value.cells]) rfl ?_
  intro g3 w3 hg3 hs3 hB3 b3
  have hz3 := hB3.size
  have E := Below.step E hB3
  have hl_b1 := b1.lt
  have b1 := b1.below hB3
  have h1 := h1.below hB3
  replace b3 : Blk w3 g3 (nums .u32 [1]) 106 := b3
  refine S_build rfl rfl rfl (cs := [(.bool (decide (n < 0))), (.slice A1 (dg n.natAbs).length c1), (.slice (some ⟨g3, 0, none⟩) 1 1)]) (by kernel_rfl) ?_
  refine S_store ti_api_Rat rfl rfl rfl rfl (g := g1) (o := 0) (rfl) (v := (.agg #[(.bool (decide (n < 0))), (.slice A1 (dg n.natAbs).length c1), (.slice (some ⟨g3, 0, none⟩) 1 1)])) (rfl) (vs := [(.bool (decide (n < 0))), (.slice A1 (dg n.natAbs).length c1), (.slice (some ⟨g3, 0, none⟩) 1 1)]) rfl rfl (by simp [Value.oneCell']) b1 (by simp) (cs' := [(.bool (decide (n < 0))), (.slice A1 (dg n.natAbs).length c1), (.slice (some ⟨g3, 0, none⟩) 1 1)]) rfl ?_
  intro w4 hU4 b1
  have E := Below.stepU E hU4 (by omega)
  have h1 := h1.upd hU4 (by omega) (by omega)
  have b3 := b3.upd hU4 (by omega)
  have hz4 := hU4.size
  refine OPS.nil ?_
  change WP _ _ _ _ _ _
  refine W_ret ?_
  change Fin' _ _ _ _ _ _
  refine EndC (n := ⟨7, []⟩) (t := 2) rfl (by decide) (rfl) (LD.blk ti_api_Rat b1 (l := [(.bool (decide (n < 0))), (.slice A1 (dg n.natAbs).length c1), (.slice (some ⟨g3, 0, none⟩) 1 1)]) rfl rfl) ?_
  refine ⟨E, _, _, rfl, h1.mono (by omega), ON.mkNums (k := 1) b3 (U32.mk (by omega) (by omega) U32.nil) (by omega) (Nat.le_refl _) (by decide), Dj.lt (H := w2.heap.size) (fun g hg => (hk1 g hg).2) (fun g hg => by have := bk_le hg; omega)⟩

theorem ratsOf0_c (w0 : World) : Ret Tryz.prog 50 [.int .i64 0] w0 (fun r w1 => Below w0.heap.size w0 w1 ∧ OQ w0.heap.size w1 r ⟨false, [], [1]⟩) := by
  have := ratsOf_c w0 0 (by omega)
  rw [show (0 : Int).natAbs = 0 from rfl, dg_zero] at this
  exact this

set_option maxHeartbeats 400000 in
theorem ref03Of_c (w0 : World) (n : Int) (hn : -9223372036854775808 ≤ n ∧ n ≤ 9223372036854775807) :
    Ret Tryz.prog 52 [.int .i64 n] w0 (fun r w1 => Below w0.heap.size w0 w1 ∧ OQ w0.heap.size w1 r ⟨decide (n < 0), dg n.natAbs, [1]⟩) := by
  have E := Below.refl w0.heap.size w0
  refine Ret_of (n := 7) Tryz.func52 rfl rfl (Nat.le_of_ble_eq_true rfl) ?_
  refine W_seq ?_
  refine W_region rfl ?_
  refine S_alloc ti_api_Rat rfl rfl (cs := [.bool false, .slice none 0 0, .slice none 0 0]) rfl ?_
  intro g1 w1 hg1 hs1 hB1 b1
  have hz1 := hB1.size
  have E := Below.step E hB1
  refine OPS.nil ?_
  change WP _ _ _ _ _ _
  refine W_seq ?_
  refine W_region rfl ?_
  refine S_move rfl rfl rfl (v := .int .i64 n) (rfl) ?_
  refine S_call en_assayerref02_Of rfl rfl rfl (vs := [.int .i64 n]) (rfl) (ref02Of_c _ _ hn) ?_
  rintro _ w2 ⟨hB2, v1, rfl, h1⟩
  have hz2 := hB2.size
  have E := Below.step E hB2
  have hl_b1 := b1.lt
  have b1 := b1.below hB2
  obtain ⟨A1, c1, rfl, -, -⟩ := h1.r.form
  have hk1 := h1.bkB
  refine S_lit Tryz.underlying23 ti_uint32 rfl rfl (by decide) (by decide) rfl (vs := [(.int .u32 1)]) (cs := [(.int .u32 1)]) rfl rfl (by simp [Value.cells]) rfl ?_
  intro g3 w3 hg3 hs3 hB3 b3
  have hz3 := hB3.size
  have E := Below.step E hB3
  have hl_b1 := b1.lt
  have b1 := b1.below hB3
  have h1 := h1.below hB3
  replace b3 : Blk w3 g3 (nums .u32 [1]) 106 := b3
  refine S_build rfl rfl rfl (cs := [(.bool (decide (n < 0))), (.slice A1 (dg n.natAbs).length c1), (.slice (some ⟨g3, 0, none⟩) 1 1)]) (by kernel_rfl) ?_
  refine S_store ti_api_Rat rfl rfl rfl rfl (g := g1) (o := 0) (rfl) (v := (.agg #[(.bool (decide (n < 0))), (.slice A1 (dg n.natAbs).length c1), (.slice (some ⟨g3, 0, none⟩) 1 1)])) (rfl) (vs := [(.bool (decide (n < 0))), (.slice A1 (dg n.natAbs).length c1), (.slice (some ⟨g3, 0, none⟩) 1 1)]) rfl rfl (by simp [Value.oneCell']) b1 (by simp) (cs' := [(.bool (decide (n < 0))), (.slice A1 (dg n.natAbs).length c1), (.slice (some ⟨g3, 0, none⟩) 1 1)]) rfl ?_
  intro w4 hU4 b1
  have E := Below.stepU E hU4 (by omega)
  have h1 := h1.upd hU4 (by omega) (by omega)
  have b3 := b3.upd hU4 (by omega)
  have hz4 := hU4.size
  refine OPS.nil ?_
  change WP _ _ _ _ _ _
  refine W_ret ?_
  change Fin' _ _ _ _ _ _
  refine EndC (n := ⟨7, []⟩) (t := 2) rfl (by decide) (rfl) (LD.blk ti_api_Rat b1 (l := [(.bool (decide (n < 0))), (.slice A1 (dg n.natAbs).length c1), (.slice (some ⟨g3, 0, none⟩) 1 1)]) rfl rfl) ?_
  refine ⟨E, _, _, rfl, h1.mono (by omega), ON.mkNums (k := 1) b3 (U32.mk (by omega) (by omega) U32.nil) (by omega) (Nat.le_refl _) (by decide), Dj.lt (H := w2.heap.size) (fun g hg => (hk1 g hg).2) (fun g hg => by have := bk_le hg; omega)⟩

theorem ref03Of0_c (w0 : World) : Ret Tryz.prog 52 [.int .i64 0] w0 (fun r w1 => Below w0.heap.size w0 w1 ∧ OQ w0.heap.size w1 r ⟨false, [], [1]⟩) := by
  have := ref03Of_c w0 0 (by omega)
  rw [show (0 : Int).natAbs = 0 from rfl, dg_zero] at this
  exact this


theorem RV.one {B : Nat} {w : World} {x : RV} (h : x.O B w) : ∀ u ∈ x.cs, u.oneCell' = true := by
  obtain ⟨_, _, e1, _⟩ := h.1.r.form
  obtain ⟨_, _, e2, _⟩ := h.2.r.form
  intro u hu
  simp only [RV.cs, List.mem_cons, List.not_mem_nil, or_false] at hu
  rcases hu with rfl | rfl | rfl
  · rfl
  · rw [e1]; rfl
  · rw [e2]; rfl
def zq : Q := ⟨false, [], [1]⟩

end Go.Proofs.YtccmicegihlfbaaGreatDoor
