import Derived.Test.YtccmicegihlfbaaGreatDoorRm2
import Derived.Deep.Upon
set_option linter.unusedVariables false
set_option linter.unusedSimpArgs false

/- Fractions of whole numbers; the document's too. -/
namespace Go.Proofs.YtccmicegihlfbaaGreatDoor
open Go.RowKit

set_option maxHeartbeats 400000 in
theorem intsSigned_t (w0 : World) (A : Option Addr) (l : List Int) (c : Nat) :
    Ret Tryz.prog 89 [.bool true, .slice A l.length c] w0 (fun r w1 => Below w0.heap.size w0 w1 ∧ r = .agg #[.bool (true && !l.isEmpty), .slice A l.length c]) := by
 have E := Below.refl w0.heap.size w0
 refine Ret_of (n := 13) Tryz.func89 rfl rfl (Nat.le_of_ble_eq_true rfl) ?_
 refine W_seq ?_
 refine W_region rfl ?_
 refine S_alloc ti_api_Int rfl rfl (cs := [.bool false, .slice none 0 0]) rfl ?_
 intro g1 w1 hg1 hs1 hB1 b1
 have hz1 := hB1.size
 have E := Below.step E hB1
 refine OPS.nil ?_
 change WP _ _ _ _ _ _
 refine W_seq ?_
 refine W_region rfl ?_
 refine S_move rfl rfl rfl (v := .bool true) (rfl) ?_
 refine S_move rfl rfl rfl (v := .bool true) (rfl) ?_
 refine S_move rfl rfl rfl (v := .slice A l.length c) (rfl) ?_
 refine S_len Tryz.underlying23 rfl rfl rfl (rfl) (m := l.length) (⟨_, _, rfl⟩) ?_
 refine S_bin rfl rfl rfl rfl rfl (rfl) (rfl) (v := .bool (!l.isEmpty)) (by cases l <;> simp [binV] <;> omega) ?_
 refine S_pick rfl rfl rfl rfl rfl (b := true) (rfl) (v := (.bool (!l.isEmpty))) (rfl) ?_
 refine S_move rfl rfl rfl (v := .slice A l.length c) (rfl) ?_
 refine S_build rfl rfl rfl (cs := [(.bool (!l.isEmpty)), .slice A l.length c]) (by kernel_rfl) ?_
 refine S_store ti_api_Int rfl rfl rfl rfl (g := g1) (o := 0) (rfl) (v := (.agg #[(.bool (!l.isEmpty)), .slice A l.length c])) (rfl) (vs := [(.bool (!l.isEmpty)), .slice A l.length c]) rfl rfl (by simp [Value.oneCell']) b1 (by simp) (cs' := [(.bool (!l.isEmpty)), .slice A l.length c]) rfl ?_
 intro w2 hU2 b1
 have E := Below.stepU E hU2 (by omega)
 have hz2 := hU2.size
 refine OPS.nil ?_
 change WP _ _ _ _ _ _
 refine W_ret ?_
 change Fin' _ _ _ _ _ _
 refine EndC (n := ⟨13, []⟩) (t := 4) rfl (by decide) (rfl) (LD.blk ti_api_Int b1 (l := [(.bool (!l.isEmpty)), .slice A l.length c]) rfl rfl) ?_
 exact ⟨E, rfl⟩

set_option maxHeartbeats 400000 in
theorem intsSigned_f (w0 : World) (A : Option Addr) (l : List Int) (c : Nat) :
    Ret Tryz.prog 89 [.bool false, .slice A l.length c] w0 (fun r w1 => Below w0.heap.size w0 w1 ∧ r = .agg #[.bool (false && !l.isEmpty), .slice A l.length c]) := by
 have E := Below.refl w0.heap.size w0
 refine Ret_of (n := 13) Tryz.func89 rfl rfl (Nat.le_of_ble_eq_true rfl) ?_
 refine W_seq ?_
 refine W_region rfl ?_
 refine S_alloc ti_api_Int rfl rfl (cs := [.bool false, .slice none 0 0]) rfl ?_
 intro g1 w1 hg1 hs1 hB1 b1
 have hz1 := hB1.size
 have E := Below.step E hB1
 refine OPS.nil ?_
 change WP _ _ _ _ _ _
 refine W_seq ?_
 refine W_region rfl ?_
 refine S_move rfl rfl rfl (v := .bool false) (rfl) ?_
 refine S_move rfl rfl rfl (v := .bool false) (rfl) ?_
 refine S_skip (d := 7) (op := .move _) (gd := some (1, true)) rfl (wg_off rfl (rfl) rfl) ?_
 refine S_skip (d := 8) (op := .call _) (gd := some (1, true)) rfl (wg_off rfl (rfl) rfl) ?_
 refine S_skip (d := 9) (op := .binOp _ _ _ _ _) (gd := some (1, true)) rfl (wg_off rfl (rfl) rfl) ?_
 refine S_pick rfl rfl rfl rfl rfl (b := false) (rfl) (v := (.bool false)) (rfl) ?_
 refine S_move rfl rfl rfl (v := .slice A l.length c) (rfl) ?_
 refine S_build rfl rfl rfl (cs := [(.bool false), .slice A l.length c]) (by kernel_rfl) ?_
 refine S_store ti_api_Int rfl rfl rfl rfl (g := g1) (o := 0) (rfl) (v := (.agg #[(.bool false), .slice A l.length c])) (rfl) (vs := [(.bool false), .slice A l.length c]) rfl rfl (by simp [Value.oneCell']) b1 (by simp) (cs' := [(.bool false), .slice A l.length c]) rfl ?_
 intro w2 hU2 b1
 have E := Below.stepU E hU2 (by omega)
 have hz2 := hU2.size
 refine OPS.nil ?_
 change WP _ _ _ _ _ _
 refine W_ret ?_
 change Fin' _ _ _ _ _ _
 refine EndC (n := ⟨13, []⟩) (t := 4) rfl (by decide) (rfl) (LD.blk ti_api_Int b1 (l := [(.bool false), .slice A l.length c]) rfl rfl) ?_
 exact ⟨E, rfl⟩

theorem intsSigned_c (w0 : World) (s : Bool) (v : Value) (l : List Int) {a b : Nat} (h : RN a b w0 v l) : Ret Tryz.prog 89 [.bool s, v] w0 (fun r w1 => Below w0.heap.size w0 w1 ∧ r = .agg #[.bool (s && !l.isEmpty), v]) := by
  obtain ⟨A, c, rfl, -, -⟩ := h.form
  cases s
  · exact intsSigned_f w0 A l c
  · exact intsSigned_t w0 A l c

set_option maxHeartbeats 400000 in
theorem ref02Signed_t (w0 : World) (A : Option Addr) (l : List Int) (c : Nat) :
    Ret Tryz.prog 95 [.bool true, .slice A l.length c] w0 (fun r w1 => Below w0.heap.size w0 w1 ∧ r = .agg #[.bool (true && !l.isEmpty), .slice A l.length c]) := by
 have E := Below.refl w0.heap.size w0
 refine Ret_of (n := 13) Tryz.func95 rfl rfl (Nat.le_of_ble_eq_true rfl) ?_
 refine W_seq ?_
 refine W_region rfl ?_
 refine S_alloc ti_api_Int rfl rfl (cs := [.bool false, .slice none 0 0]) rfl ?_
 intro g1 w1 hg1 hs1 hB1 b1
 have hz1 := hB1.size
 have E := Below.step E hB1
 refine OPS.nil ?_
 change WP _ _ _ _ _ _
 refine W_seq ?_
 refine W_region rfl ?_
 refine S_move rfl rfl rfl (v := .bool true) (rfl) ?_
 refine S_move rfl rfl rfl (v := .bool true) (rfl) ?_
 refine S_move rfl rfl rfl (v := .slice A l.length c) (rfl) ?_
 refine S_len Tryz.underlying23 rfl rfl rfl (rfl) (m := l.length) (⟨_, _, rfl⟩) ?_
 refine S_bin rfl rfl rfl rfl rfl (rfl) (rfl) (v := .bool (!l.isEmpty)) (by cases l <;> simp [binV] <;> omega) ?_
 refine S_pick rfl rfl rfl rfl rfl (b := true) (rfl) (v := (.bool (!l.isEmpty))) (rfl) ?_
 refine S_move rfl rfl rfl (v := .slice A l.length c) (rfl) ?_
 refine S_build rfl rfl rfl (cs := [(.bool (!l.isEmpty)), .slice A l.length c]) (by kernel_rfl) ?_
 refine S_store ti_api_Int rfl rfl rfl rfl (g := g1) (o := 0) (rfl) (v := (.agg #[(.bool (!l.isEmpty)), .slice A l.length c])) (rfl) (vs := [(.bool (!l.isEmpty)), .slice A l.length c]) rfl rfl (by simp [Value.oneCell']) b1 (by simp) (cs' := [(.bool (!l.isEmpty)), .slice A l.length c]) rfl ?_
 intro w2 hU2 b1
 have E := Below.stepU E hU2 (by omega)
 have hz2 := hU2.size
 refine OPS.nil ?_
 change WP _ _ _ _ _ _
 refine W_ret ?_
 change Fin' _ _ _ _ _ _
 refine EndC (n := ⟨13, []⟩) (t := 4) rfl (by decide) (rfl) (LD.blk ti_api_Int b1 (l := [(.bool (!l.isEmpty)), .slice A l.length c]) rfl rfl) ?_
 exact ⟨E, rfl⟩

set_option maxHeartbeats 400000 in
theorem ref02Signed_f (w0 : World) (A : Option Addr) (l : List Int) (c : Nat) :
    Ret Tryz.prog 95 [.bool false, .slice A l.length c] w0 (fun r w1 => Below w0.heap.size w0 w1 ∧ r = .agg #[.bool (false && !l.isEmpty), .slice A l.length c]) := by
 have E := Below.refl w0.heap.size w0
 refine Ret_of (n := 13) Tryz.func95 rfl rfl (Nat.le_of_ble_eq_true rfl) ?_
 refine W_seq ?_
 refine W_region rfl ?_
 refine S_alloc ti_api_Int rfl rfl (cs := [.bool false, .slice none 0 0]) rfl ?_
 intro g1 w1 hg1 hs1 hB1 b1
 have hz1 := hB1.size
 have E := Below.step E hB1
 refine OPS.nil ?_
 change WP _ _ _ _ _ _
 refine W_seq ?_
 refine W_region rfl ?_
 refine S_move rfl rfl rfl (v := .bool false) (rfl) ?_
 refine S_move rfl rfl rfl (v := .bool false) (rfl) ?_
 refine S_skip (d := 7) (op := .move _) (gd := some (1, true)) rfl (wg_off rfl (rfl) rfl) ?_
 refine S_skip (d := 8) (op := .call _) (gd := some (1, true)) rfl (wg_off rfl (rfl) rfl) ?_
 refine S_skip (d := 9) (op := .binOp _ _ _ _ _) (gd := some (1, true)) rfl (wg_off rfl (rfl) rfl) ?_
 refine S_pick rfl rfl rfl rfl rfl (b := false) (rfl) (v := (.bool false)) (rfl) ?_
 refine S_move rfl rfl rfl (v := .slice A l.length c) (rfl) ?_
 refine S_build rfl rfl rfl (cs := [(.bool false), .slice A l.length c]) (by kernel_rfl) ?_
 refine S_store ti_api_Int rfl rfl rfl rfl (g := g1) (o := 0) (rfl) (v := (.agg #[(.bool false), .slice A l.length c])) (rfl) (vs := [(.bool false), .slice A l.length c]) rfl rfl (by simp [Value.oneCell']) b1 (by simp) (cs' := [(.bool false), .slice A l.length c]) rfl ?_
 intro w2 hU2 b1
 have E := Below.stepU E hU2 (by omega)
 have hz2 := hU2.size
 refine OPS.nil ?_
 change WP _ _ _ _ _ _
 refine W_ret ?_
 change Fin' _ _ _ _ _ _
 refine EndC (n := ⟨13, []⟩) (t := 4) rfl (by decide) (rfl) (LD.blk ti_api_Int b1 (l := [(.bool false), .slice A l.length c]) rfl rfl) ?_
 exact ⟨E, rfl⟩

theorem ref02Signed_c (w0 : World) (s : Bool) (v : Value) (l : List Int) {a b : Nat} (h : RN a b w0 v l) : Ret Tryz.prog 95 [.bool s, v] w0 (fun r w1 => Below w0.heap.size w0 w1 ∧ r = .agg #[.bool (s && !l.isEmpty), v]) := by
  obtain ⟨A, c, rfl, -, -⟩ := h.form
  cases s
  · exact ref02Signed_f w0 A l c
  · exact ref02Signed_t w0 A l c


theorem RN.atk {a b : Nat} {w : World} {A : Option Addr} {l : List Int} {k c : Nat} (h : RN a b w (.slice A k c) (l.take k)) (hk : k ≤ l.length) (j : Nat) (hj : j < k) : ∃ ad, SlAt (.slice A k c) k 1 j ad ∧ w.cell? ad = some (.int .u32 (l.getD j 0)) := by
  have hlen : (l.take k).length = k := by simp; omega
  obtain ⟨ad, h1, h2⟩ := h.at j (by omega)
  rw [hlen] at h1
  refine ⟨ad, h1, ?_⟩
  rw [h2]
  simp [List.getD_eq_getElem?_getD, List.getElem?_take_of_lt hj]
theorem RN.prev {a b : Nat} {w : World} {A : Option Addr} {l : List Int} {k c : Nat} (h : RN a b w (.slice A k c) (l.take k)) (h0 : 0 < k) (hk : k ≤ l.length) : RN a b w (.slice A (k - 1) c) (l.take (k - 1)) := by
  obtain ⟨hu, A', c', hv, h1, h2, h3⟩ := h
  have hlen : (l.take k).length = k := by simp; omega
  have hlen2 : (l.take (k - 1)).length = k - 1 := by simp; omega
  simp only [Value.slice.injEq] at hv
  obtain ⟨rfl, _, rfl⟩ := hv
  refine ⟨fun x hx => hu x (List.take_subset_take_left l (by omega) hx), A, c, by rw [hlen2], by omega, h2, fun j hj => ?_⟩
  obtain ⟨ad, hA, hb, hc⟩ := h3 j (by omega)
  refine ⟨ad, hA, hb, ?_⟩
  rw [hc]
  simp [List.getD_eq_getElem?_getD, List.getElem?_take_of_lt (show j < k by omega), List.getElem?_take_of_lt (show j < k - 1 by omega)]

set_option maxHeartbeats 400000 in
theorem ref01Trim_c0 (w0 : World) (A : Option Addr) (l : List Int) (c : Nat) (hc : l.length ≤ c) (hm : c ≤ 9223372036854775807) (h : RN 0 0 w0 (.slice A l.length c) l) :
    Ret Tryz.prog 166 [.slice A l.length c] w0 (fun r w1 => (∃ k, r = .slice A k c ∧ k ≤ l.length ∧ l.take k = dg (val l)) ∧ w0 = w1) := by
 refine Ret_of (n := 21) Tryz.func166 rfl rfl (Nat.le_of_ble_eq_true rfl) ?_
 refine W_seq ?_
 refine W_region rfl ?_
 refine S_assign rfl rfl rfl (v := (.slice none 0 0)) (rfl) ?_
 refine OPS.nil ?_
 change WP _ _ _ _ _ _
 refine W_seq ?_
 refine W_block ?_
 refine W_loop (fun k σ w => σ 0 = .slice A k c ∧ RN 0 0 w0 (.slice A k c) (l.take k) ∧ k ≤ l.length ∧ val (l.take k) = val l ∧ w0 = w) (l.length) ⟨rfl, by rw [List.take_length]; exact h, Nat.le_refl _, by rw [List.take_length], rfl⟩ ?_
 rintro k σ w ⟨hs0, hR, hk, hval, rfl⟩
 refine W_seq ?_
 refine W_seq ?_
 rcases Nat.eq_zero_or_pos k with hk0 | hk0
 ·skip
  refine W_region rfl ?_
  refine S_move rfl rfl rfl (v := (.slice A k c)) (hs0) ?_
  refine S_len Tryz.underlying23 rfl rfl rfl (rfl) (m := k) (⟨_, _, rfl⟩) ?_
  refine S_bin rfl rfl rfl rfl rfl (rfl) (rfl) (v := .bool false) (by simp [binV, hk0]) ?_
  refine S_move rfl rfl rfl (v := (.bool false)) (rfl) ?_
  refine S_skip (d := 7) (op := .move _) (gd := some (3, true)) rfl (wg_off rfl (rfl) rfl) ?_
  refine S_skip (d := 8) (op := .move _) (gd := some (3, true)) rfl (wg_off rfl (rfl) rfl) ?_
  refine S_skip (d := 9) (op := .call _) (gd := some (3, true)) rfl (wg_off rfl (rfl) rfl) ?_
  refine S_skip (d := 10) (op := .binOp _ _ _ _ _) (gd := some (3, true)) rfl (wg_off rfl (rfl) rfl) ?_
  refine S_skip (d := 11) (op := .indexAddr _ _ _) (gd := some (3, true)) rfl (wg_off rfl (rfl) rfl) ?_
  refine S_skip (d := 12) (op := .load _ _) (gd := some (3, true)) rfl (wg_off rfl (rfl) rfl) ?_
  refine S_skip (d := 13) (op := .binOp _ _ _ _ _) (gd := some (3, true)) rfl (wg_off rfl (rfl) rfl) ?_
  refine S_pick rfl rfl rfl rfl rfl (b := false) (rfl) (v := (.bool false)) (rfl) ?_
  refine OPS.nil ?_
  change WP _ _ _ _ _ _
  refine W_cond rfl (b := false) (rfl) (fun h => (by cases h)) (fun _ => ?_)
  refine W_exit ?_
  change WP _ _ _ _ _ _
  refine W_seq ?_
  refine W_region rfl ?_
  refine S_move rfl rfl rfl (v := (.slice A k c)) (hs0) ?_
  refine S_assign rfl rfl rfl (v := (.slice A k c)) (rfl) ?_
  refine OPS.nil ?_
  change WP _ _ _ _ _ _
  refine W_ret ?_
  change Fin' _ _ _ _ _ _
  refine End1 (n := ⟨21, []⟩) (t := 2) rfl (by decide) (v := (.slice A k c)) (rfl) ?_
  subst hk0
  exact ⟨⟨0, rfl, by omega, (by rw [← hval]; exact (dg_zero).symm)⟩, rfl⟩
 ·skip
  refine W_region rfl ?_
  refine S_move rfl rfl rfl (v := (.slice A k c)) (hs0) ?_
  refine S_len Tryz.underlying23 rfl rfl rfl (rfl) (m := k) (⟨_, _, rfl⟩) ?_
  refine S_bin rfl rfl rfl rfl rfl (rfl) (rfl) (v := .bool true) (by simp [binV]; omega) ?_
  refine S_move rfl rfl rfl (v := (.bool true)) (rfl) ?_
  refine S_move rfl rfl rfl (v := (.slice A k c)) (hs0) ?_
  refine S_move rfl rfl rfl (v := (.slice A k c)) (hs0) ?_
  refine S_len Tryz.underlying23 rfl rfl rfl (rfl) (m := k) (⟨_, _, rfl⟩) ?_
  refine S_sub64 rfl rfl rfl rfl (rfl) (rfl) (by omega) ?_
  obtain ⟨ad1, hp3, hc2⟩ := hR.atk hk (k - 1) (by omega)
  refine S_idx Tryz.underlying23 ti_uint32 rfl rfl rfl rfl (rfl) (rfl) hp3 (by omega) ?_
  refine S_load rfl rfl rfl (rfl) (LD.one ti_uint32 hc2) ?_
  refine S_bin rfl rfl rfl rfl rfl (rfl) (rfl) (v := .bool (((l.getD (k - 1) 0) == 0))) rfl ?_
  refine S_pick rfl rfl rfl rfl rfl (b := true) (rfl) (v := (.bool (((l.getD (k - 1) 0) == 0)))) (rfl) ?_
  refine OPS.nil ?_
  change WP _ _ _ _ _ _
  refine W_cond rfl (rfl) (fun hq14 => ?_) (fun hq14 => ?_)
  ·skip
   have pT := hq14
   replace hq14 := eq_of_beq hq14
   have qT := hq14
   have hz := hq14
   try rw [pT]
   refine W_skip ?_
   change WP _ _ _ _ _ _
   refine W_block ?_
   refine W_region rfl ?_
   refine S_move rfl rfl rfl (v := (.slice A k c)) (hs0) ?_
   refine S_move rfl rfl rfl (v := (.slice A k c)) (hs0) ?_
   refine S_len Tryz.underlying23 rfl rfl rfl (rfl) (m := k) (⟨_, _, rfl⟩) ?_
   refine S_sub64 rfl rfl rfl rfl (rfl) (rfl) (by omega) ?_
   refine S_sliceHi Tryz.underlying23 ti_uint32 rfl rfl rfl rfl (A := A) (m := k) (c := c) (rfl) (rfl) (j := (k - 1)) (by omega) (by omega) ?_
   refine S_assign rfl rfl rfl (v := (.slice A ((k - 1)) (c))) (rfl) ?_
   refine OPS.nil ?_
   exact ⟨k - 1, by omega, rfl, hR.prev hk0 hk, by omega, by rw [← hval]; exact (val_drop0 hk0 hk hz).symm, rfl⟩
  ·skip
   have pF := hq14
   replace hq14 := ne_of_beq_false hq14
   have qF := hq14
   try rw [pF]
   refine W_exit ?_
   change WP _ _ _ _ _ _
   refine W_seq ?_
   refine W_region rfl ?_
   refine S_move rfl rfl rfl (v := (.slice A k c)) (hs0) ?_
   refine S_assign rfl rfl rfl (v := (.slice A k c)) (rfl) ?_
   refine OPS.nil ?_
   change WP _ _ _ _ _ _
   refine W_ret ?_
   change Fin' _ _ _ _ _ _
   refine End1 (n := ⟨21, []⟩) (t := 2) rfl (by decide) (v := (.slice A k c)) (rfl) ?_
   exact ⟨⟨k, rfl, hk, by rw [← hval]; exact (dg_take hk0 hk h.u32 hq14).symm⟩, rfl⟩


theorem ref01Trim_c (w0 : World) (v : Value) (l : List Int) {a b : Nat} (h : RN a b w0 v l) :
    Ret Tryz.prog 166 [v] w0 (fun r w1 => (∃ A c k, v = .slice A l.length c ∧ r = .slice A k c ∧ k ≤ l.length ∧ l.take k = dg (val l)) ∧ w0 = w1) := by
  obtain ⟨A, c, hv, hc, hm⟩ := h.form
  subst hv
  refine (ref01Trim_c0 w0 A l c hc hm h.any).mono ?_
  rintro r w1 ⟨⟨k, h1, h2, h3⟩, h4⟩
  exact ⟨⟨A, c, k, rfl, h1, h2, h3⟩, h4⟩
theorem trim_on {B g m c0 : Nat} {w : World} {xs : List Int} {cs : List Value} {r : Value} {A : Option Addr} {c k : Nat} (hb : Blk w g cs 106) (hcs : cs.take m = nums .u32 xs) (hc0 : c0 ≤ cs.length) (hu : U32 xs) (hB : B ≤ g) (hm : xs.length = m) (hmx : c0 ≤ 9223372036854775807) (hmc : m ≤ c0)
    (hv : Value.slice (some ⟨g, 0, none⟩) m c0 = .slice A xs.length c) (hr : r = .slice A k c) (hk : k ≤ xs.length) (ht : xs.take k = dg (val xs)) : ON B w r (dg (val xs)) := by
  simp only [Value.slice.injEq] at hv
  obtain ⟨rfl, _, rfl⟩ := hv
  subst hr
  rw [← ht]
  refine ON.mk hb (hu.take k) hB (by simp; omega) (by omega) (by omega) hmx (fun j hj => ?_)
  have := nums_get .u32 xs j (by omega)
  rw [← hcs, List.getElem?_take_of_lt (by omega)] at this
  rw [this]
  simp [List.getD_eq_getElem?_getD, List.getElem?_take_of_lt hj]

set_option maxHeartbeats 400000 in
theorem ref01Of_c (w0 : World) (x : Int) (hx : 0 ≤ x ∧ x < 18446744073709551616) :
    Ret Tryz.prog 164 [.int .u64 x] w0 (fun r w1 => Below w0.heap.size w0 w1 ∧ ON w0.heap.size w1 r (dg x.toNat)) := by
 have E := Below.refl w0.heap.size w0
 refine Ret_of (n := 10) Tryz.func164 rfl rfl (Nat.le_of_ble_eq_true rfl) ?_
 refine W_seq ?_
 refine W_region rfl ?_
 refine S_assign rfl rfl rfl (v := (.slice none 0 0)) (rfl) ?_
 refine OPS.nil ?_
 change WP _ _ _ _ _ _
 refine W_seq ?_
 refine W_region rfl ?_
 refine S_move rfl rfl rfl (v := .int .u64 x) (rfl) ?_
 refine S_conv Tryz.underlying124 Tryz.underlying106 rfl rfl rfl (rfl) (b := (x % 4294967296)) (wrap_u32' _) ?_
 refine S_move rfl rfl rfl (v := .int .u64 x) (rfl) ?_
 refine S_shr rfl rfl rfl rfl (rfl) (rfl) (by omega) (v := (x / 4294967296)) (shr32 _) ?_
 refine S_conv Tryz.underlying124 Tryz.underlying106 rfl rfl rfl (rfl) (b := (x / 4294967296)) (wrap_u32 (by omega) (by omega)) ?_
 refine S_lit Tryz.underlying23 ti_uint32 rfl rfl (by decide) (by decide) rfl (vs := [(.int .u32 (x % 4294967296)), (.int .u32 (x / 4294967296))]) (cs := [(.int .u32 (x % 4294967296)), (.int .u32 (x / 4294967296))]) rfl rfl (by simp [Value.cells]) rfl ?_
 intro g1 w1 hg1 hs1 hB1 b1
 have hz1 := hB1.size
 have E := Below.step E hB1
 replace b1 : Blk w1 g1 (nums .u32 [(x % 4294967296), (x / 4294967296)]) 106 := b1
 have hxu : U32 [(x % 4294967296), (x / 4294967296)] := U32.mk (by omega) (by omega) (U32.mk (by omega) (by omega) U32.nil)
 refine S_call en_assayerref01_trim rfl rfl rfl (vs := [(.slice (some ⟨g1, 0, none⟩) 2 2)]) (rfl) (ref01Trim_c _ _ [(x % 4294967296), (x / 4294967296)] (RN.ofNums (a := 0) (b := 0) b1 hxu rfl (by omega))) ?_
 rintro r _ ⟨⟨A, c', k', hv, hr', hk', ht⟩, rfl⟩
 refine S_assign rfl rfl rfl (v := r) (rfl) ?_
 refine OPS.nil ?_
 change WP _ _ _ _ _ _
 refine W_ret ?_
 change Fin' _ _ _ _ _ _
 refine End1 (n := ⟨10, []⟩) (t := 2) rfl (by decide) (v := r) (rfl) ?_
 have := trim_on b1 (m := 2) (c0 := 2) rfl (by simp [nums]) hxu (B := w0.heap.size) (by omega) rfl (by omega) (by omega) hv hr' hk' ht
 rw [val_two, show (x % 4294967296).toNat + 4294967296 * (x / 4294967296).toNat = x.toNat by omega] at this
 exact ⟨E, this⟩


theorem neg_wrap64 {n : Int} (h : -9223372036854775808 ≤ n ∧ n ≤ 9223372036854775807) (h0 : n < 0) : IntKind.u64.wrap (IntKind.i64.wrap (0 - n)) = -n := by
  simp [IntKind.wrap, IntKind.bits, IntKind.signed]; omega
theorem neg_wrap64' {n : Int} (h : -9223372036854775808 ≤ n ∧ n ≤ 9223372036854775807) (h0 : n < 0) : IntKind.u64.wrap (0 - (IntKind.u64.wrap n)) = -n := by
  simp [IntKind.wrap, IntKind.bits, IntKind.signed]; omega
theorem dg_empty {n : Nat} (h : n ≠ 0) : (dg n).isEmpty = false := by
  cases h2 : dg n with
  | nil => exact absurd (dg_eq_nil.1 h2) h
  | cons x l => rfl

set_option maxHeartbeats 400000 in
theorem intsOf_n (w0 : World) (n : Int) (hn : -9223372036854775808 ≤ n ∧ n ≤ 9223372036854775807) (h0 : n < 0) :
    Ret Tryz.prog 177 [.int .i64 n] w0 (fun r w1 => Below w0.heap.size w0 w1 ∧ ∃ v, r = .agg #[.bool (decide (n < 0)), v] ∧ ON w0.heap.size w1 v (dg n.natAbs)) := by
 have E := Below.refl w0.heap.size w0
 refine Ret_of (n := 14) Tryz.func177 rfl rfl (Nat.le_of_ble_eq_true rfl) ?_
 refine W_seq ?_
 refine W_region rfl ?_
 refine S_alloc ti_api_Int rfl rfl (cs := [.bool false, .slice none 0 0]) rfl ?_
 intro g1 w1 hg1 hs1 hB1 b1
 have hz1 := hB1.size
 have E := Below.step E hB1
 refine OPS.nil ?_
 change WP _ _ _ _ _ _
 refine W_seq ?_
 refine W_seq ?_
 refine W_region rfl ?_
 refine S_move rfl rfl rfl (v := .int .i64 n) (rfl) ?_
 refine S_bin rfl rfl rfl rfl rfl (rfl) (rfl) (v := .bool true) (by simp [binV]; omega) ?_
 refine OPS.nil ?_
 change WP _ _ _ _ _ _
 refine W_cond rfl (b := true) (rfl) (fun _ => ?_) (fun h => (by cases h))
 refine W_seq ?_
 refine W_region rfl ?_
 refine S_move rfl rfl rfl (v := .int .i64 n) (rfl) ?_
 refine S_neg rfl rfl rfl (rfl) (v := (IntKind.i64.wrap (0 - n))) (rfl) ?_
 refine S_conv Tryz.underlying2 Tryz.underlying124 rfl rfl rfl (rfl) (b := (-n)) (neg_wrap64 hn h0) ?_
 refine S_call en_nats_Of rfl rfl rfl (vs := [(.int .u64 (-n))]) (rfl) (natsOf_c _ _ (by omega)) ?_
 rintro v1 w2 ⟨hB2, h1⟩
 have hz2 := hB2.size
 have E := Below.step E hB2
 have hl_b1 := b1.lt
 have b1 := b1.below hB2
 obtain ⟨A1, c1, rfl, -, -⟩ := h1.r.form
 refine S_call en_ints_signed rfl rfl rfl (vs := [(.bool true), (.slice A1 (dg (-n).toNat).length c1)]) (rfl) (intsSigned_c _ _ _ _ h1.r) ?_
 rintro _ w3 ⟨hB3, rfl⟩
 have hz3 := hB3.size
 have E := Below.step E hB3
 have hl_b1 := b1.lt
 have b1 := b1.below hB3
 have h1 := h1.below hB3
 refine S_store ti_api_Int rfl rfl rfl rfl (g := g1) (o := 0) (rfl) (v := (.agg #[.bool (true && !(dg (-n).toNat).isEmpty), .slice A1 (dg (-n).toNat).length c1])) (rfl) (vs := [(.bool (true && !(dg (-n).toNat).isEmpty)), (.slice A1 (dg (-n).toNat).length c1)]) rfl rfl (by simp [Value.oneCell']) b1 (by simp) (cs' := [(.bool (true && !(dg (-n).toNat).isEmpty)), (.slice A1 (dg (-n).toNat).length c1)]) rfl ?_
 intro w4 hU4 b1
 have E := Below.stepU E hU4 (by omega)
 have h1 := h1.upd hU4 (by omega) (by omega)
 have hz4 := hU4.size
 refine OPS.nil ?_
 change WP _ _ _ _ _ _
 refine W_ret ?_
 change Fin' _ _ _ _ _ _
 refine EndC (n := ⟨14, []⟩) (t := 2) rfl (by decide) (rfl) (LD.blk ti_api_Int b1 (l := [(.bool (true && !(dg (-n).toNat).isEmpty)), (.slice A1 (dg (-n).toNat).length c1)]) rfl rfl) ?_
 have e : (true && !(dg (-n).toNat).isEmpty) = decide (n < 0) := by rw [dg_empty (by omega)]; simp [h0]
 rw [e, show n.natAbs = (-n).toNat by omega]
 exact ⟨E, _, rfl, h1.mono (by omega)⟩

set_option maxHeartbeats 400000 in
theorem intsOf_p (w0 : World) (n : Int) (hn : -9223372036854775808 ≤ n ∧ n ≤ 9223372036854775807) (h0 : 0 ≤ n) :
    Ret Tryz.prog 177 [.int .i64 n] w0 (fun r w1 => Below w0.heap.size w0 w1 ∧ ∃ v, r = .agg #[.bool (decide (n < 0)), v] ∧ ON w0.heap.size w1 v (dg n.natAbs)) := by
 have E := Below.refl w0.heap.size w0
 refine Ret_of (n := 14) Tryz.func177 rfl rfl (Nat.le_of_ble_eq_true rfl) ?_
 refine W_seq ?_
 refine W_region rfl ?_
 refine S_alloc ti_api_Int rfl rfl (cs := [.bool false, .slice none 0 0]) rfl ?_
 intro g1 w1 hg1 hs1 hB1 b1
 have hz1 := hB1.size
 have E := Below.step E hB1
 refine OPS.nil ?_
 change WP _ _ _ _ _ _
 refine W_seq ?_
 refine W_seq ?_
 refine W_region rfl ?_
 refine S_move rfl rfl rfl (v := .int .i64 n) (rfl) ?_
 refine S_bin rfl rfl rfl rfl rfl (rfl) (rfl) (v := .bool false) (by simp [binV]; omega) ?_
 refine OPS.nil ?_
 change WP _ _ _ _ _ _
 refine W_cond rfl (b := false) (rfl) (fun h => (by cases h)) (fun _ => ?_)
 refine W_skip ?_
 change WP _ _ _ _ _ _
 refine W_seq ?_
 refine W_region rfl ?_
 refine S_move rfl rfl rfl (v := .int .i64 n) (rfl) ?_
 refine S_conv Tryz.underlying2 Tryz.underlying124 rfl rfl rfl (rfl) (b := n) (wrap_u64 (by omega) (by omega)) ?_
 refine S_call en_nats_Of rfl rfl rfl (vs := [(.int .u64 n)]) (rfl) (natsOf_c _ _ (by omega)) ?_
 rintro v1 w2 ⟨hB2, h1⟩
 have hz2 := hB2.size
 have E := Below.step E hB2
 have hl_b1 := b1.lt
 have b1 := b1.below hB2
 obtain ⟨A1, c1, rfl, -, -⟩ := h1.r.form
 refine S_call en_ints_signed rfl rfl rfl (vs := [(.bool false), (.slice A1 (dg n.toNat).length c1)]) (rfl) (intsSigned_c _ _ _ _ h1.r) ?_
 rintro _ w3 ⟨hB3, rfl⟩
 have hz3 := hB3.size
 have E := Below.step E hB3
 have hl_b1 := b1.lt
 have b1 := b1.below hB3
 have h1 := h1.below hB3
 refine S_store ti_api_Int rfl rfl rfl rfl (g := g1) (o := 0) (rfl) (v := (.agg #[.bool (false && !(dg n.toNat).isEmpty), .slice A1 (dg n.toNat).length c1])) (rfl) (vs := [(.bool (false && !(dg n.toNat).isEmpty)), (.slice A1 (dg n.toNat).length c1)]) rfl rfl (by simp [Value.oneCell']) b1 (by simp) (cs' := [(.bool (false && !(dg n.toNat).isEmpty)), (.slice A1 (dg n.toNat).length c1)]) rfl ?_
 intro w4 hU4 b1
 have E := Below.stepU E hU4 (by omega)
 have h1 := h1.upd hU4 (by omega) (by omega)
 have hz4 := hU4.size
 refine OPS.nil ?_
 change WP _ _ _ _ _ _
 refine W_ret ?_
 change Fin' _ _ _ _ _ _
 refine EndC (n := ⟨14, []⟩) (t := 2) rfl (by decide) (rfl) (LD.blk ti_api_Int b1 (l := [(.bool (false && !(dg n.toNat).isEmpty)), (.slice A1 (dg n.toNat).length c1)]) rfl rfl) ?_
 rw [show decide (n < 0) = false by simp; omega, show n.natAbs = n.toNat by omega]
 exact ⟨E, _, rfl, h1.mono (by omega)⟩

theorem intsOf_c (w0 : World) (n : Int) (hn : -9223372036854775808 ≤ n ∧ n ≤ 9223372036854775807) : Ret Tryz.prog 177 [.int .i64 n] w0 (fun r w1 => Below w0.heap.size w0 w1 ∧ ∃ v, r = .agg #[.bool (decide (n < 0)), v] ∧ ON w0.heap.size w1 v (dg n.natAbs)) := by
  by_cases h0 : n < 0
  · exact intsOf_n w0 n hn h0
  · exact intsOf_p w0 n hn (by omega)

set_option maxHeartbeats 400000 in
theorem ref02Of_n (w0 : World) (n : Int) (hn : -9223372036854775808 ≤ n ∧ n ≤ 9223372036854775807) (h0 : n < 0) :
    Ret Tryz.prog 178 [.int .i64 n] w0 (fun r w1 => Below w0.heap.size w0 w1 ∧ ∃ v, r = .agg #[.bool (decide (n < 0)), v] ∧ ON w0.heap.size w1 v (dg n.natAbs)) := by
 have E := Below.refl w0.heap.size w0
 refine Ret_of (n := 14) Tryz.func178 rfl rfl (Nat.le_of_ble_eq_true rfl) ?_
 refine W_seq ?_
 refine W_region rfl ?_
 refine S_alloc ti_api_Int rfl rfl (cs := [.bool false, .slice none 0 0]) rfl ?_
 intro g1 w1 hg1 hs1 hB1 b1
 have hz1 := hB1.size
 have E := Below.step E hB1
 refine OPS.nil ?_
 change WP _ _ _ _ _ _
 refine W_seq ?_
 refine W_seq ?_
 refine W_region rfl ?_
 refine S_move rfl rfl rfl (v := .int .i64 n) (rfl) ?_
 refine S_bin rfl rfl rfl rfl rfl (rfl) (rfl) (v := .bool true) (by simp [binV]; omega) ?_
 refine OPS.nil ?_
 change WP _ _ _ _ _ _
 refine W_cond rfl (b := true) (rfl) (fun _ => ?_) (fun h => (by cases h))
 refine W_seq ?_
 refine W_region rfl ?_
 refine S_move rfl rfl rfl (v := .int .i64 n) (rfl) ?_
 refine S_conv Tryz.underlying2 Tryz.underlying124 rfl rfl rfl (rfl) (b := (IntKind.u64.wrap n)) (rfl) ?_
 refine S_neg rfl rfl rfl (rfl) (v := (-n)) (neg_wrap64' hn h0) ?_
 refine S_call en_assayerref01_Of rfl rfl rfl (vs := [(.int .u64 (-n))]) (rfl) (ref01Of_c _ _ (by omega)) ?_
 rintro v1 w2 ⟨hB2, h1⟩
 have hz2 := hB2.size
 have E := Below.step E hB2
 have hl_b1 := b1.lt
 have b1 := b1.below hB2
 obtain ⟨A1, c1, rfl, -, -⟩ := h1.r.form
 refine S_call en_assayerref02_Signed rfl rfl rfl (vs := [(.bool true), (.slice A1 (dg (-n).toNat).length c1)]) (rfl) (ref02Signed_c _ _ _ _ h1.r) ?_
 rintro _ w3 ⟨hB3, rfl⟩
 have hz3 := hB3.size
 have E := Below.step E hB3
 have hl_b1 := b1.lt
 have b1 := b1.below hB3
 have h1 := h1.below hB3
 refine S_store ti_api_Int rfl rfl rfl rfl (g := g1) (o := 0) (rfl) (v := (.agg #[.bool (true && !(dg (-n).toNat).isEmpty), .slice A1 (dg (-n).toNat).length c1])) (rfl) (vs := [(.bool (true && !(dg (-n).toNat).isEmpty)), (.slice A1 (dg (-n).toNat).length c1)]) rfl rfl (by simp [Value.oneCell']) b1 (by simp) (cs' := [(.bool (true && !(dg (-n).toNat).isEmpty)), (.slice A1 (dg (-n).toNat).length c1)]) rfl ?_
 intro w4 hU4 b1
 have E := Below.stepU E hU4 (by omega)
 have h1 := h1.upd hU4 (by omega) (by omega)
 have hz4 := hU4.size
 refine OPS.nil ?_
 change WP _ _ _ _ _ _
 refine W_ret ?_
 change Fin' _ _ _ _ _ _
 refine EndC (n := ⟨14, []⟩) (t := 2) rfl (by decide) (rfl) (LD.blk ti_api_Int b1 (l := [(.bool (true && !(dg (-n).toNat).isEmpty)), (.slice A1 (dg (-n).toNat).length c1)]) rfl rfl) ?_
 have e : (true && !(dg (-n).toNat).isEmpty) = decide (n < 0) := by rw [dg_empty (by omega)]; simp [h0]
 rw [e, show n.natAbs = (-n).toNat by omega]
 exact ⟨E, _, rfl, h1.mono (by omega)⟩

set_option maxHeartbeats 400000 in
theorem ref02Of_p (w0 : World) (n : Int) (hn : -9223372036854775808 ≤ n ∧ n ≤ 9223372036854775807) (h0 : 0 ≤ n) :
    Ret Tryz.prog 178 [.int .i64 n] w0 (fun r w1 => Below w0.heap.size w0 w1 ∧ ∃ v, r = .agg #[.bool (decide (n < 0)), v] ∧ ON w0.heap.size w1 v (dg n.natAbs)) := by
 have E := Below.refl w0.heap.size w0
 refine Ret_of (n := 14) Tryz.func178 rfl rfl (Nat.le_of_ble_eq_true rfl) ?_
 refine W_seq ?_
 refine W_region rfl ?_
 refine S_alloc ti_api_Int rfl rfl (cs := [.bool false, .slice none 0 0]) rfl ?_
 intro g1 w1 hg1 hs1 hB1 b1
 have hz1 := hB1.size
 have E := Below.step E hB1
 refine OPS.nil ?_
 change WP _ _ _ _ _ _
 refine W_seq ?_
 refine W_seq ?_
 refine W_region rfl ?_
 refine S_move rfl rfl rfl (v := .int .i64 n) (rfl) ?_
 refine S_bin rfl rfl rfl rfl rfl (rfl) (rfl) (v := .bool false) (by simp [binV]; omega) ?_
 refine OPS.nil ?_
 change WP _ _ _ _ _ _
 refine W_cond rfl (b := false) (rfl) (fun h => (by cases h)) (fun _ => ?_)
 refine W_skip ?_
 change WP _ _ _ _ _ _
 refine W_seq ?_
 refine W_region rfl ?_
 refine S_move rfl rfl rfl (v := .int .i64 n) (rfl) ?_
 refine S_conv Tryz.underlying2 Tryz.underlying124 rfl rfl rfl (rfl) (b := n) (wrap_u64 (by omega) (by omega)) ?_
 refine S_call en_assayerref01_Of rfl rfl rfl (vs := [(.int .u64 n)]) (rfl) (ref01Of_c _ _ (by omega)) ?_
 rintro v1 w2 ⟨hB2, h1⟩
 have hz2 := hB2.size
 have E := Below.step E hB2
 have hl_b1 := b1.lt
 have b1 := b1.below hB2
 obtain ⟨A1, c1, rfl, -, -⟩ := h1.r.form
 refine S_call en_assayerref02_Signed rfl rfl rfl (vs := [(.bool false), (.slice A1 (dg n.toNat).length c1)]) (rfl) (ref02Signed_c _ _ _ _ h1.r) ?_
 rintro _ w3 ⟨hB3, rfl⟩
 have hz3 := hB3.size
 have E := Below.step E hB3
 have hl_b1 := b1.lt
 have b1 := b1.below hB3
 have h1 := h1.below hB3
 refine S_store ti_api_Int rfl rfl rfl rfl (g := g1) (o := 0) (rfl) (v := (.agg #[.bool (false && !(dg n.toNat).isEmpty), .slice A1 (dg n.toNat).length c1])) (rfl) (vs := [(.bool (false && !(dg n.toNat).isEmpty)), (.slice A1 (dg n.toNat).length c1)]) rfl rfl (by simp [Value.oneCell']) b1 (by simp) (cs' := [(.bool (false && !(dg n.toNat).isEmpty)), (.slice A1 (dg n.toNat).length c1)]) rfl ?_
 intro w4 hU4 b1
 have E := Below.stepU E hU4 (by omega)
 have h1 := h1.upd hU4 (by omega) (by omega)
 have hz4 := hU4.size
 refine OPS.nil ?_
 change WP _ _ _ _ _ _
 refine W_ret ?_
 change Fin' _ _ _ _ _ _
 refine EndC (n := ⟨14, []⟩) (t := 2) rfl (by decide) (rfl) (LD.blk ti_api_Int b1 (l := [(.bool (false && !(dg n.toNat).isEmpty)), (.slice A1 (dg n.toNat).length c1)]) rfl rfl) ?_
 rw [show decide (n < 0) = false by simp; omega, show n.natAbs = n.toNat by omega]
 exact ⟨E, _, rfl, h1.mono (by omega)⟩

theorem ref02Of_c (w0 : World) (n : Int) (hn : -9223372036854775808 ≤ n ∧ n ≤ 9223372036854775807) : Ret Tryz.prog 178 [.int .i64 n] w0 (fun r w1 => Below w0.heap.size w0 w1 ∧ ∃ v, r = .agg #[.bool (decide (n < 0)), v] ∧ ON w0.heap.size w1 v (dg n.natAbs)) := by
  by_cases h0 : n < 0
  · exact ref02Of_n w0 n hn h0
  · exact ref02Of_p w0 n hn (by omega)

set_option maxHeartbeats 400000 in
theorem ratsOf_c (w0 : World) (n : Int) (hn : -9223372036854775808 ≤ n ∧ n ≤ 9223372036854775807) :
    Ret Tryz.prog 50 [.int .i64 n] w0 (fun r w1 => Below w0.heap.size w0 w1 ∧ OQ w0.heap.size w1 r ⟨decide (n < 0), dg n.natAbs, [1]⟩) := by
 have E := Below.refl w0.heap.size w0
 refine Ret_of (n := 7) Tryz.func50 rfl rfl (Nat.le_of_ble_eq_true rfl) ?_
 refine W_seq ?_
 refine W_region rfl ?_
 refine S_alloc ti_api_Rat rfl rfl (cs := [.bool false, .slice none 0 0, .slice none 0 0]) rfl ?_
 intro g1 w1 hg1 hs1 hB1 b1
 have hz1 := hB1.size
 have E := Below.step E hB1
 refine OPS.nil ?_
 change WP _ _ _ _ _ _
 refine W_seq ?_
 refine W_region rfl ?_
 refine S_move rfl rfl rfl (v := .int .i64 n) (rfl) ?_
 refine S_call en_ints_Of rfl rfl rfl (vs := [.int .i64 n]) (rfl) (intsOf_c _ _ hn) ?_
 rintro _ w2 ⟨hB2, v1, rfl, h1⟩
 have hz2 := hB2.size
 have E := Below.step E hB2
 have hl_b1 := b1.lt
 have b1 := b1.below hB2
 obtain ⟨A1, c1, rfl, -, -⟩ := h1.r.form
 have hk1 := h1.bkB
 refine S_lit Tryz.underlying23 ti_uint32 rfl rfl (by decide) (by decide) rfl (vs := [(.int .u32 1)]) (cs := [(.int .u32 1)]) rfl rfl (by simp [Value.cells]) rfl ?_
 intro g3 w3 hg3 hs3 hB3 b3
 have hz3 := hB3.size
 have E := Below.step E hB3
 have hl_b1 := b1.lt
 have b1 := b1.below hB3
 have h1 := h1.below hB3
 replace b3 : Blk w3 g3 (nums .u32 [1]) 106 := b3
 refine S_build rfl rfl rfl (cs := [(.bool (decide (n < 0))), (.slice A1 (dg n.natAbs).length c1), (.slice (some ⟨g3, 0, none⟩) 1 1)]) (by kernel_rfl) ?_
 refine S_store ti_api_Rat rfl rfl rfl rfl (g := g1) (o := 0) (rfl) (v := (.agg #[(.bool (decide (n < 0))), (.slice A1 (dg n.natAbs).length c1), (.slice (some ⟨g3, 0, none⟩) 1 1)])) (rfl) (vs := [(.bool (decide (n < 0))), (.slice A1 (dg n.natAbs).length c1), (.slice (some ⟨g3, 0, none⟩) 1 1)]) rfl rfl (by simp [Value.oneCell']) b1 (by simp) (cs' := [(.bool (decide (n < 0))), (.slice A1 (dg n.natAbs).length c1), (.slice (some ⟨g3, 0, none⟩) 1 1)]) rfl ?_
 intro w4 hU4 b1
 have E := Below.stepU E hU4 (by omega)
 have h1 := h1.upd hU4 (by omega) (by omega)
 have b3 := b3.upd hU4 (by omega)
 have hz4 := hU4.size
 refine OPS.nil ?_
 change WP _ _ _ _ _ _
 refine W_ret ?_
 change Fin' _ _ _ _ _ _
 refine EndC (n := ⟨7, []⟩) (t := 2) rfl (by decide) (rfl) (LD.blk ti_api_Rat b1 (l := [(.bool (decide (n < 0))), (.slice A1 (dg n.natAbs).length c1), (.slice (some ⟨g3, 0, none⟩) 1 1)]) rfl rfl) ?_
 refine ⟨E, _, _, rfl, h1.mono (by omega), ON.mkNums (k := 1) b3 (U32.mk (by omega) (by omega) U32.nil) (by omega) (Nat.le_refl _) (by decide), Dj.lt (H := w2.heap.size) (fun g hg => (hk1 g hg).2) (fun g hg => by have := bk_le hg; omega)⟩

theorem ratsOf0_c (w0 : World) : Ret Tryz.prog 50 [.int .i64 0] w0 (fun r w1 => Below w0.heap.size w0 w1 ∧ OQ w0.heap.size w1 r ⟨false, [], [1]⟩) := by
  have := ratsOf_c w0 0 (by omega)
  rw [show (0 : Int).natAbs = 0 from rfl, dg_zero] at this
  exact this

set_option maxHeartbeats 400000 in
theorem ref03Of_c (w0 : World) (n : Int) (hn : -9223372036854775808 ≤ n ∧ n ≤ 9223372036854775807) :
    Ret Tryz.prog 52 [.int .i64 n] w0 (fun r w1 => Below w0.heap.size w0 w1 ∧ OQ w0.heap.size w1 r ⟨decide (n < 0), dg n.natAbs, [1]⟩) := by
 have E := Below.refl w0.heap.size w0
 refine Ret_of (n := 7) Tryz.func52 rfl rfl (Nat.le_of_ble_eq_true rfl) ?_
 refine W_seq ?_
 refine W_region rfl ?_
 refine S_alloc ti_api_Rat rfl rfl (cs := [.bool false, .slice none 0 0, .slice none 0 0]) rfl ?_
 intro g1 w1 hg1 hs1 hB1 b1
 have hz1 := hB1.size
 have E := Below.step E hB1
 refine OPS.nil ?_
 change WP _ _ _ _ _ _
 refine W_seq ?_
 refine W_region rfl ?_
 refine S_move rfl rfl rfl (v := .int .i64 n) (rfl) ?_
 refine S_call en_assayerref02_Of rfl rfl rfl (vs := [.int .i64 n]) (rfl) (ref02Of_c _ _ hn) ?_
 rintro _ w2 ⟨hB2, v1, rfl, h1⟩
 have hz2 := hB2.size
 have E := Below.step E hB2
 have hl_b1 := b1.lt
 have b1 := b1.below hB2
 obtain ⟨A1, c1, rfl, -, -⟩ := h1.r.form
 have hk1 := h1.bkB
 refine S_lit Tryz.underlying23 ti_uint32 rfl rfl (by decide) (by decide) rfl (vs := [(.int .u32 1)]) (cs := [(.int .u32 1)]) rfl rfl (by simp [Value.cells]) rfl ?_
 intro g3 w3 hg3 hs3 hB3 b3
 have hz3 := hB3.size
 have E := Below.step E hB3
 have hl_b1 := b1.lt
 have b1 := b1.below hB3
 have h1 := h1.below hB3
 replace b3 : Blk w3 g3 (nums .u32 [1]) 106 := b3
 refine S_build rfl rfl rfl (cs := [(.bool (decide (n < 0))), (.slice A1 (dg n.natAbs).length c1), (.slice (some ⟨g3, 0, none⟩) 1 1)]) (by kernel_rfl) ?_
 refine S_store ti_api_Rat rfl rfl rfl rfl (g := g1) (o := 0) (rfl) (v := (.agg #[(.bool (decide (n < 0))), (.slice A1 (dg n.natAbs).length c1), (.slice (some ⟨g3, 0, none⟩) 1 1)])) (rfl) (vs := [(.bool (decide (n < 0))), (.slice A1 (dg n.natAbs).length c1), (.slice (some ⟨g3, 0, none⟩) 1 1)]) rfl rfl (by simp [Value.oneCell']) b1 (by simp) (cs' := [(.bool (decide (n < 0))), (.slice A1 (dg n.natAbs).length c1), (.slice (some ⟨g3, 0, none⟩) 1 1)]) rfl ?_
 intro w4 hU4 b1
 have E := Below.stepU E hU4 (by omega)
 have h1 := h1.upd hU4 (by omega) (by omega)
 have b3 := b3.upd hU4 (by omega)
 have hz4 := hU4.size
 refine OPS.nil ?_
 change WP _ _ _ _ _ _
 refine W_ret ?_
 change Fin' _ _ _ _ _ _
 refine EndC (n := ⟨7, []⟩) (t := 2) rfl (by decide) (rfl) (LD.blk ti_api_Rat b1 (l := [(.bool (decide (n < 0))), (.slice A1 (dg n.natAbs).length c1), (.slice (some ⟨g3, 0, none⟩) 1 1)]) rfl rfl) ?_
 refine ⟨E, _, _, rfl, h1.mono (by omega), ON.mkNums (k := 1) b3 (U32.mk (by omega) (by omega) U32.nil) (by omega) (Nat.le_refl _) (by decide), Dj.lt (H := w2.heap.size) (fun g hg => (hk1 g hg).2) (fun g hg => by have := bk_le hg; omega)⟩

theorem ref03Of0_c (w0 : World) : Ret Tryz.prog 52 [.int .i64 0] w0 (fun r w1 => Below w0.heap.size w0 w1 ∧ OQ w0.heap.size w1 r ⟨false, [], [1]⟩) := by
  have := ref03Of_c w0 0 (by omega)
  rw [show (0 : Int).natAbs = 0 from rfl, dg_zero] at this
  exact this


theorem RV.one {B : Nat} {w : World} {x : RV} (h : x.O B w) : ∀ u ∈ x.cs, u.oneCell' = true := by
  obtain ⟨_, _, e1, _⟩ := h.1.r.form
  obtain ⟨_, _, e2, _⟩ := h.2.r.form
  intro u hu
  simp only [RV.cs, List.mem_cons, List.not_mem_nil, or_false] at hu
  rcases hu with rfl | rfl | rfl
  · rfl
  · rw [e1]; rfl
  · rw [e2]; rfl
def zq : Q := ⟨false, [], [1]⟩

end Go.Proofs.YtccmicegihlfbaaGreatDoor

/- Differences of numbers from 0 on; the document's order and differences. -/
namespace Go.Proofs.YtccmicegihlfbaaGreatDoor
open Go.RowKit


theorem nums_app (k : IntKind) (l m : List Int) : nums k l ++ nums k m = nums k (l ++ m) := by simp [nums]
theorem run_append_0 {P : Program} {w : World} {t ty e : TypeId} {sz by_ : Nat} {z : Value} {ag : Bool} (hT : P.underlying t = some (.slice e)) (he : TI P e sz by_ z ag) (base A : Option Addr) (m c c' : Nat) (hle : m ≤ c) :
    (Builtin.append_ #[t, t] ty #[.slice base m c, .slice A 0 c']).run P w = .ok (.slice base m c) w := by
  obtain ⟨i0, hi0, hs0, hby, hzz⟩ := he.info
  cases A with
  | none => exact run_append_nothing w t t ty e i0 hT hi0 base m c hle _ (Src.ofNil w hT c')
  | some a => exact run_append_nothing w t t ty e i0 hT hi0 base m c hle _ (Src.ofSlice w hT a 0 c' [] (by simp) (fun j u h => by simp at h) (fun u h => by simp at h))
section
variable {P : Program} {n : NF} {ops : Array Oper} {K : (Nat → Value) → World → Prop} {σ : Nat → Value} {w : World} {i : Nat} {rest : List Nat}
variable {d : Nat} {t : TypeId} {p : String} {af : Array Edge} {gd : Option (Nat × Bool)} {x y : Operand}
/-- append(s, x...), x empty. -/
theorem S_append0 {T e : TypeId} {sz by_ : Nat} {z : Value} {ag : Bool} (hT : P.underlying T = some (.slice e)) (he : TI P e sz by_ z ag)
    (ho : ops[i]? = some { dst := some d, op := .call { callee := .builtin .append, args := #[x, y], argTypes := #[T, T] }, type := t, pos := p, after := af, guard := gd }) (hw : wg n ops σ gd = true) (hx : tok n x = true) (hy : tok n y = true)
    {A A' : Option Addr} {m c c' : Nat} (hv : sv σ x = .slice A m c) (hs : sv σ y = .slice A' 0 c') (hle : m ≤ c) (h : OPS P n ops K rest (upd σ d (.slice A m c)) w) : OPS P n ops K (i :: rest) σ w := by
  have := run_append_0 (w := w) (ty := t) hT he A A' m c c' hle
  refine OPS.step ho hw rfl ?_ h
  simp [execOp, resolve, invoke, builtin, eval_act hx, eval_act hy, hv, hs, this]
end
theorem RN.prefix_ {a b : Nat} {w : World} {A : Option Addr} {l : List Int} {c k : Nat} (h : RN a b w (.slice A l.length c) l) (hk : k ≤ l.length) : RN a b w (.slice A k c) (l.take k) := by
  obtain ⟨hu, A', c', hv, h1, h2, h3⟩ := h
  simp only [Value.slice.injEq] at hv
  obtain ⟨rfl, _, rfl⟩ := hv
  have hl : (l.take k).length = k := by simp; omega
  refine ⟨hu.take k, A, c, by rw [hl], by omega, h2, fun j hj => ?_⟩
  obtain ⟨ad, hA, hb, hc⟩ := h3 j (by omega)
  refine ⟨ad, hA, hb, ?_⟩
  rw [hc]
  simp [List.getD_eq_getElem?_getD, List.getElem?_take_of_lt (show j < k by omega)]
theorem ON.prefix_ {B : Nat} {w : World} {A : Option Addr} {l : List Int} {c k : Nat} (h : ON B w (.slice A l.length c) l) (hk : k ≤ l.length) : ON B w (.slice A k c) (l.take k) := by
  refine ⟨h.1.prefix_ hk, ?_⟩
  rcases h.2 with ⟨A', hv⟩ | ⟨g, m, c', cs, hv, h2, h3, h4, h5⟩
  · simp only [Value.slice.injEq] at hv
    obtain ⟨rfl, hl, rfl⟩ := hv
    exact .inl ⟨A, by rw [show k = 0 by omega]⟩
  · simp only [Value.slice.injEq] at hv
    obtain ⟨rfl, hl, rfl⟩ := hv
    exact .inr ⟨g, k, c, cs, rfl, h2, h3, by omega, h5⟩
theorem dg_take_ok {l : List Int} {k n : Nat} (ht : l.take k = dg n) : l.take k = dg n := ht


/-- A difference may be. -/
def subOk (la lb : List Int) : Bool := okL la && okL lb && decide (val lb ≤ val la)

set_option maxHeartbeats 400000 in
theorem natsSub_c (w0 : World) (va vb : Value) (la lb : List Int) {a b a' b' : Nat} (ha : RN a b w0 va la) (hb : RN a' b' w0 vb lb) (hsa : la.length ≤ SZ) :
    Ret Tryz.prog 204 [va, vb] w0 (fun r w1 => Below w0.heap.size w0 w1 ∧ ∃ v, r = .tuple #[v, .int .i64 (if subOk la lb then 0 else 1)] ∧ ON w0.heap.size w1 v (if subOk la lb then dg (val la - val lb) else [])) := by
 have E := Below.refl w0.heap.size w0
 refine Ret_of (n := 23) Tryz.func204 rfl rfl (Nat.le_of_ble_eq_true rfl) ?_
 refine W_seq ?_
 refine W_region rfl ?_
 refine S_assign rfl rfl rfl (v := (.slice none 0 0)) (rfl) ?_
 refine S_assign rfl rfl rfl (v := (.int .i64 0)) (rfl) ?_
 refine OPS.nil ?_
 change WP _ _ _ _ _ _
 refine W_seq ?_
 refine W_seq ?_
 refine W_region rfl ?_
 refine S_move rfl rfl rfl (v := va) (rfl) ?_
 refine S_call en_nats_Check rfl rfl rfl (vs := [va]) (rfl) (natsCheck_c _ _ la ha) ?_
 rintro _ _ ⟨rfl, rfl⟩
 refine S_not rfl rfl rfl (rfl) ?_
 refine S_move rfl rfl rfl (v := (.bool (!(okL la)))) (rfl) ?_
 rcases Bool.eq_false_or_eq_true (!(okL la)) with pT | pF
 ·skip
  rw [pT]
  refine S_skip (d := 10) (op := .move _) (gd := some (3, false)) rfl (wg_off rfl (rfl) rfl) ?_
  refine S_skip (d := 11) (op := .call _) (gd := some (3, false)) rfl (wg_off rfl (rfl) rfl) ?_
  refine S_skip (d := 12) (op := .unOp _ _ _) (gd := some (3, false)) rfl (wg_off rfl (rfl) rfl) ?_
  refine S_pick rfl rfl rfl rfl rfl (b := true) (rfl) (v := (.bool true)) (rfl) ?_
  refine S_move rfl rfl rfl (v := (.bool true)) (rfl) ?_
  refine S_skip (d := 15) (op := .move _) (gd := some (8, false)) rfl (wg_off rfl (rfl) rfl) ?_
  refine S_skip (d := 16) (op := .move _) (gd := some (8, false)) rfl (wg_off rfl (rfl) rfl) ?_
  refine S_skip (d := 17) (op := .call _) (gd := some (8, false)) rfl (wg_off rfl (rfl) rfl) ?_
  refine S_skip (d := 18) (op := .binOp _ _ _ _ _) (gd := some (8, false)) rfl (wg_off rfl (rfl) rfl) ?_
  refine S_pick rfl rfl rfl rfl rfl (b := true) (rfl) (v := (.bool true)) (rfl) ?_
  refine OPS.nil ?_
  change WP _ _ _ _ _ _
  refine W_cond rfl (b := true) (rfl) (fun _ => ?_) (fun h => (by cases h))
  refine W_seq ?_
  refine W_region rfl ?_
  refine S_assign rfl rfl rfl (v := (.slice none 0 0)) (rfl) ?_
  refine S_assign rfl rfl rfl (v := (.int .i64 1)) (rfl) ?_
  refine OPS.nil ?_
  change WP _ _ _ _ _ _
  refine W_ret ?_
  change Fin' _ _ _ _ _ _
  refine End2 (n := ⟨23, []⟩) (t := 4) (u := 5) rfl (by decide) (by decide) (rfl) (rfl) ?_
  have hs : subOk la lb = false := by simp_all [subOk]
  exact ⟨E, _, by rw [hs]; rfl, by rw [hs]; exact ON.nil _ _⟩
 ·skip
  rw [pF]
  refine S_move rfl rfl rfl (v := vb) (rfl) ?_
  refine S_call en_nats_Check rfl rfl rfl (vs := [vb]) (rfl) (natsCheck_c _ _ lb hb) ?_
  rintro _ _ ⟨rfl, rfl⟩
  refine S_not rfl rfl rfl (rfl) ?_
  refine S_pick rfl rfl rfl rfl rfl (b := false) (rfl) (v := (.bool (!(okL lb)))) (rfl) ?_
  refine S_move rfl rfl rfl (v := (.bool (!(okL lb)))) (rfl) ?_
  rcases Bool.eq_false_or_eq_true (!(okL lb)) with pFT | pFF
  ·skip
   rw [pFT]
   refine S_skip (d := 15) (op := .move _) (gd := some (8, false)) rfl (wg_off rfl (rfl) rfl) ?_
   refine S_skip (d := 16) (op := .move _) (gd := some (8, false)) rfl (wg_off rfl (rfl) rfl) ?_
   refine S_skip (d := 17) (op := .call _) (gd := some (8, false)) rfl (wg_off rfl (rfl) rfl) ?_
   refine S_skip (d := 18) (op := .binOp _ _ _ _ _) (gd := some (8, false)) rfl (wg_off rfl (rfl) rfl) ?_
   refine S_pick rfl rfl rfl rfl rfl (b := true) (rfl) (v := (.bool true)) (rfl) ?_
   refine OPS.nil ?_
   change WP _ _ _ _ _ _
   refine W_cond rfl (b := true) (rfl) (fun _ => ?_) (fun h => (by cases h))
   refine W_seq ?_
   refine W_region rfl ?_
   refine S_assign rfl rfl rfl (v := (.slice none 0 0)) (rfl) ?_
   refine S_assign rfl rfl rfl (v := (.int .i64 1)) (rfl) ?_
   refine OPS.nil ?_
   change WP _ _ _ _ _ _
   refine W_ret ?_
   change Fin' _ _ _ _ _ _
   refine End2 (n := ⟨23, []⟩) (t := 4) (u := 5) rfl (by decide) (by decide) (rfl) (rfl) ?_
   have hs : subOk la lb = false := by simp_all [subOk]
   exact ⟨E, _, by rw [hs]; rfl, by rw [hs]; exact ON.nil _ _⟩
  ·skip
   rw [pFF]
   refine S_move rfl rfl rfl (v := va) (rfl) ?_
   refine S_move rfl rfl rfl (v := vb) (rfl) ?_
   refine S_call en_nats_Cmp rfl rfl rfl (vs := [va, vb]) (rfl) (natsCmp_c _ _ _ la lb ha hb) ?_
   rintro _ w1 ⟨hB1, rfl⟩
   have hz1 := hB1.size
   have E := Below.step E hB1
   refine S_bin rfl rfl rfl rfl rfl (rfl) (rfl) (v := .bool (decide ((cmpN (nv la) (nv lb)) < 0))) rfl ?_
   refine S_pick rfl rfl rfl rfl rfl (b := false) (rfl) (v := (.bool (decide ((cmpN (nv la) (nv lb)) < 0)))) (rfl) ?_
   refine OPS.nil ?_
   change WP _ _ _ _ _ _
   refine W_cond rfl (rfl) (fun hq19 => ?_) (fun hq19 => ?_)
   ·skip
    have pFFT := hq19
    replace hq19 := of_decide_eq_true hq19
    have qFFT := hq19
    try rw [pFFT]
    refine W_seq ?_
    refine W_region rfl ?_
    refine S_assign rfl rfl rfl (v := (.slice none 0 0)) (rfl) ?_
    refine S_assign rfl rfl rfl (v := (.int .i64 1)) (rfl) ?_
    refine OPS.nil ?_
    change WP _ _ _ _ _ _
    refine W_ret ?_
    change Fin' _ _ _ _ _ _
    refine End2 (n := ⟨23, []⟩) (t := 4) (u := 5) rfl (by decide) (by decide) (rfl) (rfl) ?_
    have hs : subOk la lb = false := by have := cmpN_lt0.1 hq19; unfold subOk; rw [← nv_ok (l := la) (by simpa using pF), ← nv_ok (l := lb) (by simpa using pFF)]; simp; omega
    exact ⟨E, _, by rw [hs]; rfl, by rw [hs]; exact ON.nil _ _⟩
   ·skip
    have pFFF := hq19
    replace hq19 := of_decide_eq_false hq19
    have qFFF := hq19
    have hka : okL la = true := by simpa using pF
    have hkb : okL lb = true := by simpa using pFF
    have hle : val lb ≤ val la := by
      rw [← nv_ok hka, ← nv_ok hkb]
      have := mt cmpN_lt0.2 hq19
      omega
    have hlen : lb.length ≤ la.length := by
      rcases Nat.lt_or_ge la.length lb.length with h | h
      · exact absurd (val_lt_len ha.u32 hb.u32 hkb h) (by omega)
      · exact h
    try rw [pFFF]
    refine W_skip ?_
    change WP _ _ _ _ _ _
    refine W_seq ?_
    refine W_region rfl ?_
    refine S_move rfl rfl rfl (v := va) (rfl) ?_
    refine S_move rfl rfl rfl (v := vb) (rfl) ?_
    refine S_call en_nats_minus rfl rfl rfl (vs := [va, vb]) (rfl) (natsMinus_c _ _ _ la lb (ha.below E) (hb.below E) hsa hlen hle) ?_
    rintro vh1 w2 ⟨hB2, h1⟩
    have hz2 := hB2.size
    have E := Below.step E hB2
    refine S_assign rfl rfl rfl (v := vh1) (rfl) ?_
    refine S_assign rfl rfl rfl (v := (.int .i64 0)) (rfl) ?_
    refine OPS.nil ?_
    change WP _ _ _ _ _ _
    refine W_ret ?_
    change Fin' _ _ _ _ _ _
    refine End2 (n := ⟨23, []⟩) (t := 4) (u := 5) rfl (by decide) (by decide) (rfl) (rfl) ?_
    have hs : subOk la lb = true := by unfold subOk; rw [hka, hkb]; simp; exact hle
    exact ⟨E, _, by rw [hs]; rfl, by rw [hs]; exact h1.mono (by omega)⟩

set_option maxHeartbeats 400000 in
theorem ref01Check_c (w0 : World) (v : Value) (l : List Int) {a b : Nat} (h : RN a b w0 v l) :
    Ret Tryz.prog 162 [v] w0 (fun r w1 => r = .bool (okL l) ∧ w0 = w1) := by
 have hm := h.maxl
 refine Ret_of (n := 15) Tryz.func162 rfl rfl (Nat.le_of_ble_eq_true rfl) ?_
 refine W_seq ?_
 refine W_region rfl ?_
 refine S_assign rfl rfl rfl (v := (.bool false)) (rfl) ?_
 refine OPS.nil ?_
 change WP _ _ _ _ _ _
 refine W_seq ?_
 refine W_region rfl ?_
 refine S_move rfl rfl rfl (v := v) (rfl) ?_
 refine S_len Tryz.underlying23 rfl rfl rfl (rfl) (m := l.length) (h.len) ?_
 refine S_bin rfl rfl rfl rfl rfl (rfl) (rfl) (v := .bool (((l.length : Int) == 0))) rfl ?_
 refine S_move rfl rfl rfl (v := (.bool (((l.length : Int) == 0)))) (rfl) ?_
 rcases Bool.eq_false_or_eq_true (((l.length : Int) == 0)) with pT | pF
 ·skip
  rw [pT]
  have qT := eq_of_beq pT
  have h0 : l.length = 0 := by
    have := qT
    omega
  refine S_skip (d := 7) (op := .move _) (gd := some (3, false)) rfl (wg_off rfl (rfl) rfl) ?_
  refine S_skip (d := 8) (op := .move _) (gd := some (3, false)) rfl (wg_off rfl (rfl) rfl) ?_
  refine S_skip (d := 9) (op := .call _) (gd := some (3, false)) rfl (wg_off rfl (rfl) rfl) ?_
  refine S_skip (d := 10) (op := .binOp _ _ _ _ _) (gd := some (3, false)) rfl (wg_off rfl (rfl) rfl) ?_
  refine S_skip (d := 11) (op := .indexAddr _ _ _) (gd := some (3, false)) rfl (wg_off rfl (rfl) rfl) ?_
  refine S_skip (d := 12) (op := .load _ _) (gd := some (3, false)) rfl (wg_off rfl (rfl) rfl) ?_
  refine S_skip (d := 13) (op := .binOp _ _ _ _ _) (gd := some (3, false)) rfl (wg_off rfl (rfl) rfl) ?_
  refine S_pick rfl rfl rfl rfl rfl (b := true) (rfl) (v := (.bool true)) (rfl) ?_
  refine S_assign rfl rfl rfl (v := (.bool true)) (rfl) ?_
  refine OPS.nil ?_
  change WP _ _ _ _ _ _
  refine W_ret ?_
  change Fin' _ _ _ _ _ _
  refine End1 (n := ⟨15, []⟩) (t := 2) rfl (by decide) (v := (.bool true)) (rfl) ?_
  exact ⟨by rw [okL_len0 h0], rfl⟩
 ·skip
  rw [pF]
  have qF := ne_of_beq_false pF
  have h0 : 0 < l.length := by
    have := qF
    omega
  refine S_move rfl rfl rfl (v := v) (rfl) ?_
  refine S_move rfl rfl rfl (v := v) (rfl) ?_
  refine S_len Tryz.underlying23 rfl rfl rfl (rfl) (m := l.length) (h.len) ?_
  refine S_sub64 rfl rfl rfl rfl (rfl) (rfl) (by omega) ?_
  obtain ⟨ad1, hp3, hc2⟩ := h.at (l.length - 1) (by omega)
  refine S_idx Tryz.underlying23 ti_uint32 rfl rfl rfl rfl (rfl) (rfl) hp3 (by omega) ?_
  refine S_load rfl rfl rfl (rfl) (LD.one ti_uint32 hc2) ?_
  refine S_bin rfl rfl rfl rfl rfl (rfl) (rfl) (v := .bool (((l.getD ((l.length - 1)) 0) != 0))) rfl ?_
  refine S_pick rfl rfl rfl rfl rfl (b := false) (rfl) (v := (.bool (((l.getD ((l.length - 1)) 0) != 0)))) (rfl) ?_
  refine S_assign rfl rfl rfl (v := (.bool (((l.getD ((l.length - 1)) 0) != 0)))) (rfl) ?_
  refine OPS.nil ?_
  change WP _ _ _ _ _ _
  refine W_ret ?_
  change Fin' _ _ _ _ _ _
  refine End1 (n := ⟨15, []⟩) (t := 2) rfl (by decide) (v := (.bool (((l.getD ((l.length - 1)) 0) != 0)))) (rfl) ?_
  exact ⟨by rw [okL_getD h0], rfl⟩

set_option maxHeartbeats 400000 in
theorem ref01Fit_c (w0 : World) (v : Value) (l : List Int) {a b : Nat} (h : RN a b w0 v l) :
    Ret Tryz.prog 171 [v] w0 (fun r w1 => r = (if okL l then v else .slice none 0 0) ∧ w0 = w1) := by
 refine Ret_of (n := 7) Tryz.func171 rfl rfl (Nat.le_of_ble_eq_true rfl) ?_
 refine W_seq ?_
 refine W_region rfl ?_
 refine S_assign rfl rfl rfl (v := (.slice none 0 0)) (rfl) ?_
 refine OPS.nil ?_
 change WP _ _ _ _ _ _
 refine W_seq ?_
 refine W_seq ?_
 refine W_region rfl ?_
 refine S_move rfl rfl rfl (v := v) (rfl) ?_
 refine S_call en_assayerref01_Check rfl rfl rfl (vs := [v]) (rfl) (ref01Check_c w0 v l h) ?_
 rintro _ _ ⟨rfl, rfl⟩
 refine S_not rfl rfl rfl (rfl) ?_
 refine OPS.nil ?_
 change WP _ _ _ _ _ _
 refine W_cond rfl (rfl) (fun hq5 => ?_) (fun hq5 => ?_)
 ·skip
  have pT := hq5
  skip
  try rw [pT]
  refine W_seq ?_
  refine W_region rfl ?_
  refine S_assign rfl rfl rfl (v := (.slice none 0 0)) (rfl) ?_
  refine OPS.nil ?_
  change WP _ _ _ _ _ _
  refine W_ret ?_
  change Fin' _ _ _ _ _ _
  refine End1 (n := ⟨7, []⟩) (t := 2) rfl (by decide) (v := (.slice none 0 0)) (rfl) ?_
  have h9 : okL l = false := by simpa using pT
  exact ⟨by rw [h9]; rfl, rfl⟩
 ·skip
  have pF := hq5
  skip
  try rw [pF]
  refine W_skip ?_
  change WP _ _ _ _ _ _
  refine W_seq ?_
  refine W_region rfl ?_
  refine S_move rfl rfl rfl (v := v) (rfl) ?_
  refine S_assign rfl rfl rfl (v := v) (rfl) ?_
  refine OPS.nil ?_
  change WP _ _ _ _ _ _
  refine W_ret ?_
  change Fin' _ _ _ _ _ _
  refine End1 (n := ⟨7, []⟩) (t := 2) rfl (by decide) (v := v) (rfl) ?_
  have h9 : okL l = true := by simpa using pF
  exact ⟨by rw [h9]; rfl, rfl⟩

set_option maxHeartbeats 400000 in
theorem ref01Twin_0 (w0 : World) (A : Option Addr) (l : List Int) (c : Nat) {a b : Nat} (h : RN a b w0 (.slice A l.length c) l) (hs : l.length ≤ SZ) (h0 : l.length = 0) :
    Ret Tryz.prog 100 [(.slice A l.length c)] w0 (fun r w1 => Below w0.heap.size w0 w1 ∧ ON w0.heap.size w1 r l) := by
 have E := Below.refl w0.heap.size w0
 unfold SZ at hs
 refine Ret_of (n := 7) Tryz.func100 rfl rfl (Nat.le_of_ble_eq_true rfl) ?_
 refine W_seq ?_
 refine W_region rfl ?_
 refine S_assign rfl rfl rfl (v := (.slice none 0 0)) (rfl) ?_
 refine OPS.nil ?_
 change WP _ _ _ _ _ _
 refine W_seq ?_
 refine W_region rfl ?_
 refine S_assign rfl rfl rfl (v := (.slice none 0 0)) (rfl) ?_
 refine OPS.nil ?_
 change WP _ _ _ _ _ _
 refine W_seq ?_
 refine W_region rfl ?_
 refine S_move rfl rfl rfl (v := (.slice none 0 0)) (rfl) ?_
 refine S_move rfl rfl rfl (v := (.slice A l.length c)) (rfl) ?_
 refine S_append0 Tryz.underlying23 ti_uint32 rfl rfl rfl rfl (A := none) (m := 0) (c := 0) (A' := A) (c' := c) rfl (congrArg (fun m => Value.slice A m c) h0) (Nat.le_refl _) ?_
 refine S_assign rfl rfl rfl (v := (.slice none 0 0)) (rfl) ?_
 refine OPS.nil ?_
 change WP _ _ _ _ _ _
 refine W_ret ?_
 change Fin' _ _ _ _ _ _
 refine End1 (n := ⟨7, []⟩) (t := 2) rfl (by decide) (v := (.slice none 0 0)) (rfl) ?_
 exact ⟨E, by rw [List.eq_nil_of_length_eq_zero h0]; exact ON.nil _ _⟩

set_option maxHeartbeats 400000 in
theorem ref01Twin_1 (w0 : World) (A : Option Addr) (l : List Int) (c : Nat) {a b : Nat} (h : RN a b w0 (.slice A l.length c) l) (hs : l.length ≤ SZ) (h0 : 0 < l.length) :
    Ret Tryz.prog 100 [(.slice A l.length c)] w0 (fun r w1 => Below w0.heap.size w0 w1 ∧ ON w0.heap.size w1 r l) := by
 have E := Below.refl w0.heap.size w0
 unfold SZ at hs
 refine Ret_of (n := 7) Tryz.func100 rfl rfl (Nat.le_of_ble_eq_true rfl) ?_
 refine W_seq ?_
 refine W_region rfl ?_
 refine S_assign rfl rfl rfl (v := (.slice none 0 0)) (rfl) ?_
 refine OPS.nil ?_
 change WP _ _ _ _ _ _
 refine W_seq ?_
 refine W_region rfl ?_
 refine S_assign rfl rfl rfl (v := (.slice none 0 0)) (rfl) ?_
 refine OPS.nil ?_
 change WP _ _ _ _ _ _
 refine W_seq ?_
 refine W_region rfl ?_
 refine S_move rfl rfl rfl (v := (.slice none 0 0)) (rfl) ?_
 refine S_move rfl rfl rfl (v := (.slice A l.length c)) (rfl) ?_
 obtain ⟨a0, rfl⟩ : ∃ a0, A = some a0 := by
    obtain ⟨hu, A', c', hv, h1, h2, h3⟩ := h
    obtain ⟨ad, hA, _⟩ := h3 0 h0
    simp only [Value.slice.injEq] at hv
    exact ⟨ad, hv.1.trans hA⟩
 refine S_appendR Tryz.underlying23 ti_uint32 rfl rfl rfl rfl rfl (v := .slice none 0 0) rfl rfl (Row.nil w0.heap.size 106 1 w0) h0 (news := nums .u32 l) (by rw [nums_len]; omega) (RN.srcs h) (one_nums _ _) (by omega) (by omega) (Nat.le_refl _) ?_
 intro v2 w1 hr hg hb _
 have E := Below.grownE E hg (Nat.le_refl _) (fun g h => by cases h)
 rw [Nat.zero_add, List.nil_append] at hr
 refine S_assign rfl rfl rfl (v := v2) (rfl) ?_
 refine OPS.nil ?_
 change WP _ _ _ _ _ _
 refine W_ret ?_
 change Fin' _ _ _ _ _ _
 refine End1 (n := ⟨7, []⟩) (t := 2) rfl (by decide) (v := v2) (rfl) ?_
 exact ⟨E, Row.on hr h.u32⟩


theorem ref01Twin_c (w0 : World) (v : Value) (l : List Int) {a b : Nat} (h : RN a b w0 v l) (hs : l.length ≤ SZ) : Ret Tryz.prog 100 [v] w0 (fun r w1 => Below w0.heap.size w0 w1 ∧ ON w0.heap.size w1 r l) := by
  obtain ⟨A, c, hv, hc, hm⟩ := h.form
  subst hv
  rcases Nat.eq_zero_or_pos l.length with h0 | h0
  · exact ref01Twin_0 w0 A l c h hs h0
  · exact ref01Twin_1 w0 A l c h hs h0

set_option maxHeartbeats 400000 in
theorem ref01Cmp_c (w0 : World) (va vb : Value) (la lb : List Int) {a b a' b' : Nat} (ha : RN a b w0 va la) (hb : RN a' b' w0 vb lb) :
    Ret Tryz.prog 97 [va, vb] w0 (fun r w1 => Below w0.heap.size w0 w1 ∧ r = .int .i64 (cmpN (nv la) (nv lb))) := by
 have E := Below.refl w0.heap.size w0
 have hfa := ha.fine
 have hfb := hb.fine
 have hma := hfa.maxl
 have hmb := hfb.maxl
 rw [show nv la = val (fineL la) from rfl, show nv lb = val (fineL lb) from rfl]
 refine Ret_of (n := 45) Tryz.func97 rfl rfl (Nat.le_of_ble_eq_true rfl) ?_
 refine W_seq ?_
 refine W_region rfl ?_
 refine S_assign rfl rfl rfl (v := (.int .i64 0)) (rfl) ?_
 refine OPS.nil ?_
 change WP _ _ _ _ _ _
 refine W_seq ?_
 refine W_region rfl ?_
 refine S_move rfl rfl rfl (v := va) (rfl) ?_
 refine S_call en_assayerref01_fit rfl rfl rfl (vs := [va]) (rfl) (ref01Fit_c w0 va la ha) ?_
 rintro _ _ ⟨rfl, rfl⟩
 refine S_assign rfl rfl rfl (v := (if okL la then va else .slice none 0 0)) (rfl) ?_
 refine OPS.nil ?_
 change WP _ _ _ _ _ _
 refine W_seq ?_
 refine W_region rfl ?_
 refine S_move rfl rfl rfl (v := vb) (rfl) ?_
 refine S_call en_assayerref01_fit rfl rfl rfl (vs := [vb]) (rfl) (ref01Fit_c w0 vb lb hb) ?_
 rintro _ _ ⟨rfl, rfl⟩
 refine S_assign rfl rfl rfl (v := (if okL lb then vb else .slice none 0 0)) (rfl) ?_
 refine OPS.nil ?_
 change WP _ _ _ _ _ _
 refine W_seq ?_
 refine W_seq ?_
 refine W_region rfl ?_
 refine S_move rfl rfl rfl (v := (if okL la then va else .slice none 0 0)) (rfl) ?_
 refine S_len Tryz.underlying23 rfl rfl rfl (rfl) (m := (fineL la).length) (hfa.len) ?_
 refine S_move rfl rfl rfl (v := (if okL lb then vb else .slice none 0 0)) (rfl) ?_
 refine S_len Tryz.underlying23 rfl rfl rfl (rfl) (m := (fineL lb).length) (hfb.len) ?_
 refine S_bin rfl rfl rfl rfl rfl (rfl) (rfl) (v := .bool (decide (((fineL la).length : Int) < ((fineL lb).length : Int)))) rfl ?_
 refine OPS.nil ?_
 change WP _ _ _ _ _ _
 refine W_cond rfl (rfl) (fun hq14 => ?_) (fun hq14 => ?_)
 ·skip
  have pT := hq14
  replace hq14 := of_decide_eq_true hq14
  have qT := hq14
  try rw [pT]
  refine W_seq ?_
  refine W_region rfl ?_
  refine S_assign rfl rfl rfl (v := (.int .i64 (-1))) (rfl) ?_
  refine OPS.nil ?_
  change WP _ _ _ _ _ _
  refine W_ret ?_
  change Fin' _ _ _ _ _ _
  refine End1 (n := ⟨45, []⟩) (t := 4) rfl (by decide) (v := (.int .i64 (-1))) (rfl) ?_
  exact ⟨E, by rw [cmpN_lt]; exact val_lt_len hfa.u32 hfb.u32 (okL_fine lb) (by omega)⟩
 ·skip
  have pF := hq14
  replace hq14 := of_decide_eq_false hq14
  have qF := hq14
  try rw [pF]
  refine W_skip ?_
  change WP _ _ _ _ _ _
  refine W_seq ?_
  refine W_seq ?_
  refine W_region rfl ?_
  refine S_move rfl rfl rfl (v := (if okL la then va else .slice none 0 0)) (rfl) ?_
  refine S_len Tryz.underlying23 rfl rfl rfl (rfl) (m := (fineL la).length) (hfa.len) ?_
  refine S_move rfl rfl rfl (v := (if okL lb then vb else .slice none 0 0)) (rfl) ?_
  refine S_len Tryz.underlying23 rfl rfl rfl (rfl) (m := (fineL lb).length) (hfb.len) ?_
  refine S_bin rfl rfl rfl rfl rfl (rfl) (rfl) (v := .bool (decide (((fineL la).length : Int) > ((fineL lb).length : Int)))) rfl ?_
  refine OPS.nil ?_
  change WP _ _ _ _ _ _
  refine W_cond rfl (rfl) (fun hq19 => ?_) (fun hq19 => ?_)
  ·skip
   have pFT := hq19
   replace hq19 := of_decide_eq_true hq19
   have qFT := hq19
   try rw [pFT]
   refine W_seq ?_
   refine W_region rfl ?_
   refine S_assign rfl rfl rfl (v := (.int .i64 1)) (rfl) ?_
   refine OPS.nil ?_
   change WP _ _ _ _ _ _
   refine W_ret ?_
   change Fin' _ _ _ _ _ _
   refine End1 (n := ⟨45, []⟩) (t := 4) rfl (by decide) (v := (.int .i64 1)) (rfl) ?_
   exact ⟨E, by rw [cmpN_gt]; exact val_lt_len hfb.u32 hfa.u32 (okL_fine la) (by omega)⟩
  ·skip
   have pFF := hq19
   replace hq19 := of_decide_eq_false hq19
   have qFF := hq19
   try rw [pFF]
   refine W_skip ?_
   change WP _ _ _ _ _ _
   refine W_seq ?_
   refine W_seq ?_
   refine W_region rfl ?_
   refine S_move rfl rfl rfl (v := (if okL la then va else .slice none 0 0)) (rfl) ?_
   refine S_len Tryz.underlying23 rfl rfl rfl (rfl) (m := (fineL la).length) (hfa.len) ?_
   refine S_sub64 rfl rfl rfl rfl (rfl) (rfl) (by omega) ?_
   refine S_assign rfl rfl rfl (v := (.int .i64 (((fineL la).length : Int) - 1))) (rfl) ?_
   refine OPS.nil ?_
   change WP _ _ _ _ _ _
   refine W_block ?_
   refine W_loop (fun k σ w => σ 0 = (if okL la then va else .slice none 0 0) ∧ σ 1 = (if okL lb then vb else .slice none 0 0) ∧ σ 5 = .int .i64 ((k : Int) - 1) ∧ k ≤ (fineL la).length ∧ val ((fineL la).drop k) = val ((fineL lb).drop k) ∧ Below w0.heap.size w0 w) ((fineL la).length) ⟨rfl, rfl, rfl, Nat.le_refl _, by rw [List.drop_of_length_le (Nat.le_refl _), List.drop_of_length_le (by omega)], E⟩ ?_
   rintro k σ w ⟨s0, s1, s5, hk, hval, E⟩
   have hll : (fineL la).length = (fineL lb).length := by omega
   have hua := hfa.u32.getD (k - 1)
   have hub := hfb.u32.getD (k - 1)
   refine W_seq ?_
   refine W_seq ?_
   refine W_region rfl ?_
   refine S_move rfl rfl rfl (v := (.int .i64 ((k : Int) - 1))) (s5) ?_
   refine S_bin rfl rfl rfl rfl rfl (rfl) (rfl) (v := .bool (decide (((k : Int) - 1) ≥ 0))) rfl ?_
   refine OPS.nil ?_
   change WP _ _ _ _ _ _
   refine W_cond rfl (rfl) (fun hq24 => ?_) (fun hq24 => ?_)
   ·skip
    have pT := hq24
    replace hq24 := of_decide_eq_true hq24
    have qT := hq24
    try rw [pT]
    refine W_skip ?_
    change WP _ _ _ _ _ _
    refine W_seq ?_
    refine W_block ?_
    refine W_seq ?_
    refine W_seq ?_
    refine D_begin mixed_ rfl rfl (fun w_ => Below w0.heap.size w0 w_) ?_
    intro w1 hB1 hz_1
    have hz1 := hB1.size
    have E := Below.step E hB1
    have hS_ : Below w0.heap.size w0 w1 := E
    have E_S := E
    refine D_move (i := 0) (listed2 := (bm 9 1)) (by kernel_rfl) rfl rfl rfl (v := (if okL la then va else .slice none 0 0)) (s0) hS_ ?_
    refine D_move (i := 1) (listed2 := (bm 9 3)) (by kernel_rfl) rfl rfl rfl (v := (.int .i64 ((k : Int) - 1))) (s5) hS_ ?_
    obtain ⟨ad1, hp3, hc2⟩ := hfa.at (k - 1) (by omega)
    refine D_idx Tryz.underlying23 ti_uint32 (i := 2) (listed2 := (bm 9 7)) (by kernel_rfl) rfl rfl rfl rfl (rfl) (rfl) hp3 (by omega) hS_ ?_
    refine D_load (i := 3) (listed2 := (bm 9 15)) (by kernel_rfl) rfl rfl rfl (rfl) (fun _ hS2 => LD.one ti_uint32 (cell_below hS2 hc2)) hS_ ?_
    refine D_move (i := 4) (listed2 := (bm 9 31)) (by kernel_rfl) rfl rfl rfl (v := (if okL lb then vb else .slice none 0 0)) (s1) hS_ ?_
    refine D_move (i := 5) (listed2 := (bm 9 63)) (by kernel_rfl) rfl rfl rfl (v := (.int .i64 ((k : Int) - 1))) (s5) hS_ ?_
    obtain ⟨ad4, hp6, hc5⟩ := hfb.at (k - 1) (by omega)
    refine D_idx Tryz.underlying23 ti_uint32 (i := 6) (listed2 := (bm 9 127)) (by kernel_rfl) rfl rfl rfl rfl (rfl) (rfl) hp6 (by omega) hS_ ?_
    refine D_load (i := 7) (listed2 := (bm 9 255)) (by kernel_rfl) rfl rfl rfl (rfl) (fun _ hS2 => LD.one ti_uint32 (cell_below hS2 hc5)) hS_ ?_
    refine D_bin (i := 8) (listed2 := (bm 9 511)) (by kernel_rfl) rfl rfl rfl rfl rfl (rfl) (rfl) (v := .bool (decide (((fineL la).getD ((k - 1)) 0) < ((fineL lb).getD ((k - 1)) 0)))) rfl hS_ ?_
    refine D_done (by kernel_rfl) ?_
    change WP _ _ _ _ _ _
    refine W_cond rfl (rfl) (fun hq35 => ?_) (fun hq35 => ?_)
    ·skip
     have pTT := hq35
     replace hq35 := of_decide_eq_true hq35
     have qTT := hq35
     try rw [pTT]
     refine W_seq ?_
     refine W_region rfl ?_
     refine S_assign rfl rfl rfl (v := (.int .i64 (-1))) (rfl) ?_
     refine OPS.nil ?_
     change WP _ _ _ _ _ _
     refine W_ret ?_
     change Fin' _ _ _ _ _ _
     refine End1 (n := ⟨45, []⟩) (t := 4) rfl (by decide) (v := (.int .i64 (-1))) (rfl) ?_
     exact ⟨E, by rw [cmpN_lt]; exact cmp_lt hfa.u32 (k - 1) (by rw [show k - 1 + 1 = k by omega]; exact hval) (by omega)⟩
    ·skip
     have pTF := hq35
     replace hq35 := of_decide_eq_false hq35
     have qTF := hq35
     try rw [pTF]
     refine W_skip ?_
     change WP _ _ _ _ _ _
     refine W_seq ?_
     refine D_begin mixed_ rfl rfl (fun w_ => Below w0.heap.size w0 w_) ?_
     intro w2 hB2 hz_2
     have hz2 := hB2.size
     have E := Below.step E hB2
     have hS_ : Below w0.heap.size w0 w2 := E
     have E_S := E
     refine D_move (i := 0) (listed2 := (bm 9 1)) (by kernel_rfl) rfl rfl rfl (v := (if okL la then va else .slice none 0 0)) (s0) hS_ ?_
     refine D_move (i := 1) (listed2 := (bm 9 3)) (by kernel_rfl) rfl rfl rfl (v := (.int .i64 ((k : Int) - 1))) (s5) hS_ ?_
     obtain ⟨ad7, hp9, hc8⟩ := hfa.at (k - 1) (by omega)
     refine D_idx Tryz.underlying23 ti_uint32 (i := 2) (listed2 := (bm 9 7)) (by kernel_rfl) rfl rfl rfl rfl (rfl) (rfl) hp9 (by omega) hS_ ?_
     refine D_load (i := 3) (listed2 := (bm 9 15)) (by kernel_rfl) rfl rfl rfl (rfl) (fun _ hS2 => LD.one ti_uint32 (cell_below hS2 hc8)) hS_ ?_
     refine D_move (i := 4) (listed2 := (bm 9 31)) (by kernel_rfl) rfl rfl rfl (v := (if okL lb then vb else .slice none 0 0)) (s1) hS_ ?_
     refine D_move (i := 5) (listed2 := (bm 9 63)) (by kernel_rfl) rfl rfl rfl (v := (.int .i64 ((k : Int) - 1))) (s5) hS_ ?_
     obtain ⟨ad10, hp12, hc11⟩ := hfb.at (k - 1) (by omega)
     refine D_idx Tryz.underlying23 ti_uint32 (i := 6) (listed2 := (bm 9 127)) (by kernel_rfl) rfl rfl rfl rfl (rfl) (rfl) hp12 (by omega) hS_ ?_
     refine D_load (i := 7) (listed2 := (bm 9 255)) (by kernel_rfl) rfl rfl rfl (rfl) (fun _ hS2 => LD.one ti_uint32 (cell_below hS2 hc11)) hS_ ?_
     refine D_bin (i := 8) (listed2 := (bm 9 511)) (by kernel_rfl) rfl rfl rfl rfl rfl (rfl) (rfl) (v := .bool (decide (((fineL la).getD ((k - 1)) 0) > ((fineL lb).getD ((k - 1)) 0)))) rfl hS_ ?_
     refine D_done (by kernel_rfl) ?_
     change WP _ _ _ _ _ _
     refine W_cond rfl (rfl) (fun hq44 => ?_) (fun hq44 => ?_)
     ·skip
      have pTFT := hq44
      replace hq44 := of_decide_eq_true hq44
      have qTFT := hq44
      try rw [pTFT]
      refine W_seq ?_
      refine W_region rfl ?_
      refine S_assign rfl rfl rfl (v := (.int .i64 1)) (rfl) ?_
      refine OPS.nil ?_
      change WP _ _ _ _ _ _
      refine W_ret ?_
      change Fin' _ _ _ _ _ _
      refine End1 (n := ⟨45, []⟩) (t := 4) rfl (by decide) (v := (.int .i64 1)) (rfl) ?_
      exact ⟨E, by rw [cmpN_gt]; exact cmp_lt hfb.u32 (k - 1) (by rw [show k - 1 + 1 = k by omega]; exact hval.symm) (by omega)⟩
     ·skip
      have pTFF := hq44
      replace hq44 := of_decide_eq_false hq44
      have qTFF := hq44
      try rw [pTFF]
      refine W_skip ?_
      change WP _ _ _ _ _ _
      refine W_region rfl ?_
      refine S_move rfl rfl rfl (v := (.int .i64 ((k : Int) - 1))) (s5) ?_
      refine S_sub64 rfl rfl rfl rfl (rfl) (rfl) (by omega) ?_
      refine S_assign rfl rfl rfl (v := (.int .i64 (((k : Int) - 1) - 1))) (rfl) ?_
      refine OPS.nil ?_
      exact ⟨k - 1, by omega, s0, s1, int_eq (by omega), by omega, drop_eq_step (k - 1) (by rw [show k - 1 + 1 = k by omega]; exact hval) (by omega), E⟩
   ·skip
    have pF := hq24
    replace hq24 := of_decide_eq_false hq24
    have qF := hq24
    try rw [pF]
    refine W_exit ?_
    change WP _ _ _ _ _ _
    refine W_seq ?_
    refine W_region rfl ?_
    refine S_assign rfl rfl rfl (v := (.int .i64 0)) (rfl) ?_
    refine OPS.nil ?_
    change WP _ _ _ _ _ _
    refine W_ret ?_
    change Fin' _ _ _ _ _ _
    refine End1 (n := ⟨45, []⟩) (t := 4) rfl (by decide) (v := (.int .i64 0)) (rfl) ?_
    have hk0 : k = 0 := by omega
    subst hk0
    exact ⟨E, by rw [cmpN_eq]; exact hval⟩


theorem wrap_neg {x : Int} (h : -18446744073709551616 ≤ x) (h2 : x < 0) : IntKind.u64.wrap x = x + 18446744073709551616 := by
  rw [wrap_u64']; omega
theorem shr63 {x : Int} : x.fdiv (2 ^ (min (63 : Int).toNat IntKind.u64.bits)) = x / 9223372036854775808 := by
  rw [Int.fdiv_eq_ediv_of_nonneg _ (by decide)]; rfl


/-- A row of parts of the call's own, as it is written. -/
def OW (B g c : Nat) (w : World) (v : Value) (xs : List Int) : Prop := v = .slice (some ⟨g, 0, none⟩) xs.length c ∧ B ≤ g ∧ xs.length ≤ c ∧ c ≤ 9223372036854775807 ∧ ∃ rest, Blk w g (nums .u32 xs ++ rest) 106 ∧ c ≤ (nums .u32 xs ++ rest).length
theorem OW.below {B g c : Nat} {w w' : World} {v : Value} {xs : List Int} (h : OW B g c w v xs) (hb : Below w.heap.size w w') : OW B g c w' v xs := by
  obtain ⟨h1, h2, h3, h4, r, h5, h6⟩ := h
  exact ⟨h1, h2, h3, h4, r, h5.below hb, h6⟩
theorem ON.ow {B : Nat} {w : World} {v : Value} {xs : List Int} (h : ON B w v xs) (h0 : 0 < xs.length) : ∃ g c, OW B g c w v xs := by
  obtain ⟨⟨hu, A, c, hv, h1, h2, h3⟩, ho⟩ := h
  rcases ho with ⟨A', rfl⟩ | ⟨g, m, c', cs, rfl, g2, g3, g4, g5, g6⟩
  · simp only [Value.slice.injEq] at hv; omega
  · cases hv
    refine ⟨g, c, rfl, g2, h1, h2, cs.drop xs.length, ?_, ?_⟩
    · have : nums .u32 xs ++ cs.drop xs.length = cs := by
        have e : nums .u32 xs = cs.take xs.length := by
          apply List.ext_getElem?
          intro i
          by_cases hi : i < xs.length
          · obtain ⟨ad, hA, _, hc⟩ := h3 i hi
            cases hA
            rw [add_plain, g3.cell] at hc
            rw [List.getElem?_take_of_lt (by omega), nums_get _ _ _ hi, ← hc, Nat.zero_add]
          · rw [List.getElem?_eq_none (by rw [nums_len]; omega), List.getElem?_eq_none (by simp; omega)]
        rw [e, List.take_append_drop]
      rw [this]; exact g3
    · have : (nums .u32 xs ++ cs.drop xs.length).length = cs.length := by
        rw [List.length_append, nums_len, List.length_drop]; omega
      rw [this]; omega
theorem OW.upd {B g c k : Nat} {w w' : World} {v : Value} {xs : List Int} (h : OW B g c w v xs) (hu : Upd k w w') (hg : g ≠ k) : OW B g c w' v xs := by
  obtain ⟨h1, h2, h3, h4, r, h5, h6⟩ := h
  exact ⟨h1, h2, h3, h4, r, h5.upd hu hg, h6⟩
theorem OW.cell {B g c j : Nat} {w : World} {v : Value} {xs : List Int} (h : OW B g c w v xs) (hj : j < xs.length) : w.cell? ⟨g, j, none⟩ = some (.int .u32 (xs.getD j 0)) := by
  obtain ⟨rfl, h2, h3, h4, r, h5, h6⟩ := h
  rw [h5.cell, List.getElem?_append_left (by rw [nums_len]; exact hj), nums_get _ _ _ hj]
theorem OW.on {B g c : Nat} {w : World} {v : Value} {xs : List Int} (h : OW B g c w v xs) (hu : U32 xs) : ON B w v xs := by
  obtain ⟨rfl, h2, h3, h4, r, h5, h6⟩ := h
  refine ON.mk h5 hu h2 rfl h3 h6 h4 (fun j hj => ?_)
  rw [List.getElem?_append_left (by rw [nums_len]; exact hj), nums_get _ _ _ hj]
theorem OW.at {B g c : Nat} {w : World} {v : Value} {xs : List Int} (h : OW B g c w v xs) (j : Nat) (hj : j < xs.length) : ∃ ad, SlAt v xs.length 1 j ad ∧ w.cell? ad = some (.int .u32 (xs.getD j 0)) := by
  obtain ⟨rfl, h2, h3, h4, r, h5, h6⟩ := h
  refine ⟨⟨g, j, none⟩, SlAt.own1 hj, ?_⟩
  rw [h5.cell, List.getElem?_append_left (by rw [nums_len]; exact hj), nums_get _ _ _ hj]
section
variable {P : Program} {n : NF} {ops : Array Oper} {K : (Nat → Value) → World → Prop} {σ : Nat → Value} {w : World} {i : Nat} {rest : List Nat}
variable {d : Nat} {t : TypeId} {p : String} {af : Array Edge} {gd : Option (Nat × Bool)} {x y : Operand}
theorem S_storeOW {by_ : Nat} {z : Value} (hT : TI P 106 1 by_ z false)
    (ho : ops[i]? = some { dst := none, op := .store 106 x y, type := t, pos := p, after := af, guard := gd }) (hw : wg n ops σ gd = true) (hx : tok n x = true) (hy : tok n y = true)
    {g o B c : Nat} {ov : Value} (ha : sv σ x = .pointer (some ⟨g, o, none⟩)) {a : Int} (hv : sv σ y = .int .u32 a) {l : List Int} (hb : OW B g c w ov l) (hfit : o < l.length)
    (h : ∀ w1, Upd g w w1 → OW B g c w1 ov (l.set o a) → OPS P n ops K rest σ w1) : OPS P n ops K (i :: rest) σ w := by
  obtain ⟨rfl, h2, h3, h4, r, h5, h6⟩ := hb
  refine S_store hT ho hw hx hy ha hv (vs := [.int .u32 a]) rfl rfl (by simp [Value.oneCell']) h5 (by rw [List.length_append, nums_len]; simp; omega) rfl ?_
  intro w1 k1 k2
  refine h w1 k1 ⟨by simp, h2, by simpa using h3, h4, r, ?_, by rw [List.length_append, nums_len] at h6 ⊢; simpa using h6⟩
  have e : putAt (nums .u32 l ++ r) o [.int .u32 a] = nums .u32 (l.set o a) ++ r := by
    rw [← nums_set]
    have hl : o < (nums .u32 l).length := by rw [nums_len]; exact hfit
    simp only [putAt, List.length_singleton]
    rw [List.take_append_of_le_length (by omega), List.drop_append_of_le_length (by omega), List.set_eq_take_append_cons_drop, if_pos hl]
    simp
  rwa [e] at k2
end

set_option maxHeartbeats 400000 in
theorem ref01Less_0 (w0 : World) (va vb : Value) (la lb : List Int) {a b a2 b2 : Nat} (ha : RN a b w0 va la) (hb : RN a2 b2 w0 vb lb) (h0 : la.length = 0) :
    Ret Tryz.prog 207 [va, vb] w0 (fun r w1 => Below w0.heap.size w0 w1 ∧ ON w0.heap.size w1 r (dg 0)) := by
 have E := Below.refl w0.heap.size w0
 refine Ret_of (n := 44) Tryz.func207 rfl rfl (Nat.le_of_ble_eq_true rfl) ?_
 refine W_seq ?_
 refine W_region rfl ?_
 refine S_assign rfl rfl rfl (v := (.slice none 0 0)) (rfl) ?_
 refine OPS.nil ?_
 change WP _ _ _ _ _ _
 refine W_seq ?_
 refine W_region rfl ?_
 refine S_move rfl rfl rfl (v := va) (rfl) ?_
 refine S_call en_assayerref01_Twin rfl rfl rfl (vs := [va]) (rfl) (ref01Twin_c _ _ la ha (by rw [h0]; decide)) ?_
 rintro vh1 w1 ⟨hB1, h1⟩
 have hz1 := hB1.size
 have E := Below.step E hB1
 refine S_assign rfl rfl rfl (v := vh1) (rfl) ?_
 refine OPS.nil ?_
 change WP _ _ _ _ _ _
 refine W_seq ?_
 refine W_region rfl ?_
 refine S_assign rfl rfl rfl (v := (.int .u64 0)) (rfl) ?_
 refine OPS.nil ?_
 change WP _ _ _ _ _ _
 refine W_seq ?_
 refine W_seq ?_
 refine W_region rfl ?_
 refine S_assign rfl rfl rfl (v := (.int .i64 0)) (rfl) ?_
 refine OPS.nil ?_
 change WP _ _ _ _ _ _
 refine W_block ?_
 refine W_loop (fun k σ w => ∃ v, σ 5 = v ∧ σ 7 = .int .i64 0 ∧ ON w0.heap.size w v la ∧ Below w0.heap.size w0 w) (0) ⟨_, rfl, rfl, h1, E⟩ ?_
 rintro k σ w ⟨v, s5, s7, h1, E⟩
 refine W_seq ?_
 refine W_seq ?_
 refine W_region rfl ?_
 refine S_move rfl rfl rfl (v := (.int .i64 0)) (s7) ?_
 refine S_move rfl rfl rfl (v := v) (s5) ?_
 refine S_len Tryz.underlying23 rfl rfl rfl (rfl) (m := la.length) (h1.r.len) ?_
 refine S_bin rfl rfl rfl rfl rfl (rfl) (rfl) (v := .bool false) (by simp [binV, h0]) ?_
 refine OPS.nil ?_
 change WP _ _ _ _ _ _
 refine W_cond rfl (b := false) (rfl) (fun h => (by cases h)) (fun _ => ?_)
 refine W_exit ?_
 change WP _ _ _ _ _ _
 refine W_seq ?_
 refine W_region rfl ?_
 refine S_move rfl rfl rfl (v := v) (s5) ?_
 refine S_call en_assayerref01_trim rfl rfl rfl (vs := [v]) (rfl) (ref01Trim_c _ _ la h1.r) ?_
 rintro r _ ⟨⟨A, c', k', hv, hr, hk', ht⟩, rfl⟩
 refine S_assign rfl rfl rfl (v := r) (rfl) ?_
 refine OPS.nil ?_
 change WP _ _ _ _ _ _
 refine W_ret ?_
 change Fin' _ _ _ _ _ _
 refine End1 (n := ⟨44, []⟩) (t := 4) rfl (by decide) (v := r) (rfl) ?_
 subst hv
 subst hr
 have := h1.prefix_ hk'
 rw [ht, List.eq_nil_of_length_eq_zero h0, val_nil] at this
 exact ⟨E, this⟩

set_option maxHeartbeats 400000 in
theorem ref01Less_1 (w0 : World) (va vb : Value) (la lb : List Int) {a b a2 b2 : Nat} (ha : RN a b w0 va la) (hb : RN a2 b2 w0 vb lb) (hsa : la.length ≤ SZ) (hlb : lb.length ≤ la.length) (hle : val lb ≤ val la) (h0 : 0 < la.length) :
    Ret Tryz.prog 207 [va, vb] w0 (fun r w1 => Below w0.heap.size w0 w1 ∧ ON w0.heap.size w1 r (dg (val la - val lb))) := by
 have E := Below.refl w0.heap.size w0
 unfold SZ at hsa
 obtain ⟨m, hmm⟩ : ∃ m, m = la.length := ⟨_, rfl⟩
 refine Ret_of (n := 44) Tryz.func207 rfl rfl (Nat.le_of_ble_eq_true rfl) ?_
 refine W_seq ?_
 refine W_region rfl ?_
 refine S_assign rfl rfl rfl (v := (.slice none 0 0)) (rfl) ?_
 refine OPS.nil ?_
 change WP _ _ _ _ _ _
 refine W_seq ?_
 refine W_region rfl ?_
 refine S_move rfl rfl rfl (v := va) (rfl) ?_
 refine S_call en_assayerref01_Twin rfl rfl rfl (vs := [va]) (rfl) (ref01Twin_c _ _ la ha hsa) ?_
 rintro vh1 w1 ⟨hB1, h1⟩
 have hz1 := hB1.size
 have E := Below.step E hB1
 obtain ⟨g, cc, RW⟩ := h1.ow h0
 have hgE := RW.2.1
 refine S_assign rfl rfl rfl (v := vh1) (rfl) ?_
 refine OPS.nil ?_
 change WP _ _ _ _ _ _
 refine W_seq ?_
 refine W_region rfl ?_
 refine S_assign rfl rfl rfl (v := (.int .u64 0)) (rfl) ?_
 refine OPS.nil ?_
 change WP _ _ _ _ _ _
 refine W_seq ?_
 refine W_seq ?_
 refine W_region rfl ?_
 refine S_assign rfl rfl rfl (v := (.int .i64 0)) (rfl) ?_
 refine OPS.nil ?_
 change WP _ _ _ _ _ _
 refine W_block ?_
 refine W_loop (fun k σ w => ∃ (i : Nat) (c : Int) (xs : List Int), σ 0 = va ∧ σ 1 = vb ∧ σ 5 = .slice (some ⟨g, 0, none⟩) m cc ∧ σ 6 = .int .u64 c ∧ σ 7 = .int .i64 (i : Int) ∧ i + k = m ∧ xs.length = m ∧ U32 xs ∧ (0 ≤ c ∧ c ≤ 1) ∧
      val (xs.take i) + val (lb.take i) = val (la.take i) + 4294967296 ^ i * c.toNat ∧ (∀ j, i ≤ j → xs.getD j 0 = la.getD j 0) ∧ OW w0.heap.size g cc w (.slice (some ⟨g, 0, none⟩) m cc) xs ∧ Below w0.heap.size w0 w) (m) ⟨0, 0, la, rfl, rfl, by rw [hmm]; exact RW.1, rfl, rfl, by omega, by omega, ha.u32, ⟨by decide, by decide⟩, by simp [val], fun _ _ => rfl, by rw [hmm, ← RW.1]; exact RW, E⟩ ?_
 rintro k σ w ⟨i, c, xs, s0, s1, s5, s6, s7, hik, hxl, hxu, hc, hval, hold, RW, E⟩
 have hua := ha.u32.getD i
 have hub := hb.u32.getD i
 refine W_seq ?_
 refine W_seq ?_
 refine W_region rfl ?_
 refine S_move rfl rfl rfl (v := (.int .i64 (i : Int))) (s7) ?_
 refine S_move rfl rfl rfl (v := (.slice (some ⟨g, 0, none⟩) m cc)) (s5) ?_
 refine S_len Tryz.underlying23 rfl rfl rfl (rfl) (m := m) (⟨_, _, rfl⟩) ?_
 refine S_bin rfl rfl rfl rfl rfl (rfl) (rfl) (v := .bool (decide ((i : Int) < (m : Int)))) rfl ?_
 refine OPS.nil ?_
 change WP _ _ _ _ _ _
 refine W_cond rfl (rfl) (fun hq14 => ?_) (fun hq14 => ?_)
 ·skip
  have pT := hq14
  replace hq14 := of_decide_eq_true hq14
  have qT := hq14
  try rw [pT]
  refine W_skip ?_
  change WP _ _ _ _ _ _
  refine W_seq ?_
  refine W_block ?_
  refine W_seq ?_
  refine W_region rfl ?_
  refine S_move rfl rfl rfl (v := (.slice (some ⟨g, 0, none⟩) m cc)) (s5) ?_
  refine S_move rfl rfl rfl (v := (.int .i64 (i : Int))) (s7) ?_
  refine S_idx Tryz.underlying23 ti_uint32 rfl rfl rfl rfl (rfl) (rfl) (j := i) (ad := ⟨g, i, none⟩) (SlAt.own1 (by omega)) (by omega) ?_
  refine S_load rfl rfl rfl (rfl) (LD.one ti_uint32 (RW.cell (by omega))) ?_
  have hxi := hold i (Nat.le_refl _)
  refine S_conv Tryz.underlying106 Tryz.underlying124 rfl rfl rfl (rfl) (b := (la.getD i 0)) ((wrap_u64 (by omega) (by omega)).trans hxi) ?_
  refine S_move rfl rfl rfl (v := (.int .u64 c)) (s6) ?_
  refine S_bin rfl rfl rfl rfl rfl (rfl) (rfl) (v := .int .u64 (((la.getD i 0) - c) % 18446744073709551616)) (congrArg (Value.int .u64) (wrap_u64' _)) ?_
  refine S_assign rfl rfl rfl (v := (.int .u64 (((la.getD i 0) - c) % 18446744073709551616))) (rfl) ?_
  refine OPS.nil ?_
  change WP _ _ _ _ _ _
  refine W_seq ?_
  refine W_seq ?_
  refine W_region rfl ?_
  refine S_move rfl rfl rfl (v := (.int .i64 (i : Int))) (s7) ?_
  refine S_move rfl rfl rfl (v := vb) (s1) ?_
  refine S_len Tryz.underlying23 rfl rfl rfl (rfl) (m := lb.length) (hb.len) ?_
  refine S_bin rfl rfl rfl rfl rfl (rfl) (rfl) (v := .bool (decide ((i : Int) < (lb.length : Int)))) rfl ?_
  refine OPS.nil ?_
  change WP _ _ _ _ _ _
  refine W_cond rfl (rfl) (fun hq27 => ?_) (fun hq27 => ?_)
  ·skip
   have pTT := hq27
   replace hq27 := of_decide_eq_true hq27
   have qTT := hq27
   try rw [pTT]
   refine W_region rfl ?_
   refine S_move rfl rfl rfl (v := (.int .u64 (((la.getD i 0) - c) % 18446744073709551616))) (rfl) ?_
   refine S_move rfl rfl rfl (v := vb) (s1) ?_
   refine S_move rfl rfl rfl (v := (.int .i64 (i : Int))) (s7) ?_
   obtain ⟨ad4, hp6, hc5⟩ := (hb.below E).at i (by omega)
   refine S_idx Tryz.underlying23 ti_uint32 rfl rfl rfl rfl (rfl) (rfl) hp6 (by omega) ?_
   refine S_load rfl rfl rfl (rfl) (LD.one ti_uint32 hc5) ?_
   refine S_conv Tryz.underlying106 Tryz.underlying124 rfl rfl rfl (rfl) (b := (lb.getD i 0)) (wrap_u64 hub.1 (by omega)) ?_
   refine S_bin rfl rfl rfl rfl rfl (rfl) (rfl) (v := .int .u64 (((la.getD i 0) - c - (lb.getD i 0)) % 18446744073709551616)) (congrArg (Value.int .u64) ((wrap_u64' _).trans (by omega))) ?_
   refine S_assign rfl rfl rfl (v := (.int .u64 (((la.getD i 0) - c - (lb.getD i 0)) % 18446744073709551616))) (rfl) ?_
   refine OPS.nil ?_
   change WP _ _ _ _ _ _
   refine W_seq ?_
   refine W_region rfl ?_
   refine S_move rfl rfl rfl (v := (.slice (some ⟨g, 0, none⟩) m cc)) (s5) ?_
   refine S_move rfl rfl rfl (v := (.int .i64 (i : Int))) (s7) ?_
   refine S_move rfl rfl rfl (v := (.int .u64 (((la.getD i 0) - c - (lb.getD i 0)) % 18446744073709551616))) (rfl) ?_
   refine S_conv Tryz.underlying124 Tryz.underlying106 rfl rfl rfl (rfl) (b := ((((la.getD i 0) - c - (lb.getD i 0)) % 18446744073709551616) % 4294967296)) (wrap_u32' _) ?_
   refine S_idx Tryz.underlying23 ti_uint32 rfl rfl rfl rfl (rfl) (rfl) (j := i) (ad := ⟨g, i, none⟩) (SlAt.own1 (by omega)) (by omega) ?_
   refine S_storeOW ti_uint32 rfl rfl rfl rfl (g := g) (o := i) (rfl) (a := ((((la.getD i 0) - c - (lb.getD i 0)) % 18446744073709551616) % 4294967296)) (rfl) RW (by omega) ?_
   intro w2 hU2 RW
   have E := Below.stepU E hU2 (by omega)
   have hz2 := hU2.size
   refine OPS.nil ?_
   change WP _ _ _ _ _ _
   refine W_region rfl ?_
   refine S_move rfl rfl rfl (v := (.int .u64 (((la.getD i 0) - c - (lb.getD i 0)) % 18446744073709551616))) (rfl) ?_
   refine S_shr rfl rfl rfl rfl (rfl) (rfl) (by omega) (v := ((((la.getD i 0) - c - (lb.getD i 0)) % 18446744073709551616) / 9223372036854775808)) (shr63) ?_
   refine S_assign rfl rfl rfl (v := (.int .u64 ((((la.getD i 0) - c - (lb.getD i 0)) % 18446744073709551616) / 9223372036854775808))) (rfl) ?_
   refine OPS.nil ?_
   change WP _ _ _ _ _ _
   refine W_region rfl ?_
   refine S_move rfl rfl rfl (v := (.int .i64 (i : Int))) (s7) ?_
   refine S_add64 rfl rfl rfl rfl (rfl) (rfl) (by omega) ?_
   refine S_assign rfl rfl rfl (v := (.int .i64 ((i : Int) + 1))) (rfl) ?_
   refine OPS.nil ?_
   have e1 : (((la.getD i 0) - c - (lb.getD i 0)) % 18446744073709551616) % 4294967296 = ((la.getD i 0) - (lb.getD i 0) - c) % 4294967296 := by omega
   have e2 : (((la.getD i 0) - c - (lb.getD i 0)) % 18446744073709551616) / 9223372036854775808 = if (la.getD i 0) < (lb.getD i 0) + c then 1 else 0 := by split <;> omega
   exact ⟨k - 1, by omega, i + 1, _, _, s0, s1, s5, int_eq e2, int_eq (by omega), by omega, by simpa using hxl, hxu.set _ (by omega) (by omega), ⟨by split <;> decide, by split <;> decide⟩, by rw [e1]; exact sub_round (by omega) hua hub hc rfl rfl hval, fun j hj => by rw [getD_set_ne' _ _ _ _ (by omega)]; exact hold j (by omega), RW, E⟩
  ·skip
   have pTF := hq27
   replace hq27 := of_decide_eq_false hq27
   have qTF := hq27
   try rw [pTF]
   refine W_skip ?_
   change WP _ _ _ _ _ _
   refine W_seq ?_
   refine W_region rfl ?_
   refine S_move rfl rfl rfl (v := (.slice (some ⟨g, 0, none⟩) m cc)) (s5) ?_
   refine S_move rfl rfl rfl (v := (.int .i64 (i : Int))) (s7) ?_
   refine S_move rfl rfl rfl (v := (.int .u64 (((la.getD i 0) - c) % 18446744073709551616))) (rfl) ?_
   refine S_conv Tryz.underlying124 Tryz.underlying106 rfl rfl rfl (rfl) (b := ((((la.getD i 0) - c) % 18446744073709551616) % 4294967296)) (wrap_u32' _) ?_
   refine S_idx Tryz.underlying23 ti_uint32 rfl rfl rfl rfl (rfl) (rfl) (j := i) (ad := ⟨g, i, none⟩) (SlAt.own1 (by omega)) (by omega) ?_
   refine S_storeOW ti_uint32 rfl rfl rfl rfl (g := g) (o := i) (rfl) (a := ((((la.getD i 0) - c) % 18446744073709551616) % 4294967296)) (rfl) RW (by omega) ?_
   intro w3 hU3 RW
   have E := Below.stepU E hU3 (by omega)
   have hz3 := hU3.size
   refine OPS.nil ?_
   change WP _ _ _ _ _ _
   refine W_region rfl ?_
   refine S_move rfl rfl rfl (v := (.int .u64 (((la.getD i 0) - c) % 18446744073709551616))) (rfl) ?_
   refine S_shr rfl rfl rfl rfl (rfl) (rfl) (by omega) (v := ((((la.getD i 0) - c) % 18446744073709551616) / 9223372036854775808)) (shr63) ?_
   refine S_assign rfl rfl rfl (v := (.int .u64 ((((la.getD i 0) - c) % 18446744073709551616) / 9223372036854775808))) (rfl) ?_
   refine OPS.nil ?_
   change WP _ _ _ _ _ _
   refine W_region rfl ?_
   refine S_move rfl rfl rfl (v := (.int .i64 (i : Int))) (s7) ?_
   refine S_add64 rfl rfl rfl rfl (rfl) (rfl) (by omega) ?_
   refine S_assign rfl rfl rfl (v := (.int .i64 ((i : Int) + 1))) (rfl) ?_
   refine OPS.nil ?_
   have hy0 : lb.getD i 0 = 0 := by rw [List.getD_eq_getElem?_getD, List.getElem?_eq_none (by omega)]; rfl
   have e1 : (((la.getD i 0) - c) % 18446744073709551616) % 4294967296 = ((la.getD i 0) - (lb.getD i 0) - c) % 4294967296 := by omega
   have e2 : (((la.getD i 0) - c) % 18446744073709551616) / 9223372036854775808 = if (la.getD i 0) < (lb.getD i 0) + c then 1 else 0 := by split <;> omega
   exact ⟨k - 1, by omega, i + 1, _, _, s0, s1, s5, int_eq e2, int_eq (by omega), by omega, by simpa using hxl, hxu.set _ (by omega) (by omega), ⟨by split <;> decide, by split <;> decide⟩, by rw [e1]; exact sub_round (by omega) hua hub hc rfl rfl hval, fun j hj => by rw [getD_set_ne' _ _ _ _ (by omega)]; exact hold j (by omega), RW, E⟩
 ·skip
  have pF := hq14
  replace hq14 := of_decide_eq_false hq14
  have qF := hq14
  try rw [pF]
  refine W_exit ?_
  change WP _ _ _ _ _ _
  refine W_seq ?_
  refine W_region rfl ?_
  refine S_move rfl rfl rfl (v := (.slice (some ⟨g, 0, none⟩) m cc)) (s5) ?_
  refine S_call en_assayerref01_trim rfl rfl rfl (vs := [(.slice (some ⟨g, 0, none⟩) m cc)]) (rfl) (ref01Trim_c _ _ xs (RW.on hxu).r) ?_
  rintro r _ ⟨⟨A, c', k', hv, hr, hk', ht⟩, rfl⟩
  refine S_assign rfl rfl rfl (v := r) (rfl) ?_
  refine OPS.nil ?_
  change WP _ _ _ _ _ _
  refine W_ret ?_
  change Fin' _ _ _ _ _ _
  refine End1 (n := ⟨44, []⟩) (t := 4) rfl (by decide) (v := r) (rfl) ?_
  have hi : i = m := by omega
  subst hi
  have he := sub_end hxl hmm hlb hxu hle hc.1 hval
  have h9 := RW.on hxu
  rw [hv] at h9
  subst hr
  have := h9.prefix_ hk'
  rw [ht, he] at this
  exact ⟨E, this⟩


theorem ref01Less_c (w0 : World) (va vb : Value) (la lb : List Int) {a b a2 b2 : Nat} (ha : RN a b w0 va la) (hb : RN a2 b2 w0 vb lb) (hsa : la.length ≤ SZ) (hlb : lb.length ≤ la.length) (hle : val lb ≤ val la) :
    Ret Tryz.prog 207 [va, vb] w0 (fun r w1 => Below w0.heap.size w0 w1 ∧ ON w0.heap.size w1 r (dg (val la - val lb))) := by
  rcases Nat.eq_zero_or_pos la.length with h0 | h0
  · have e : val la = 0 := by rw [List.eq_nil_of_length_eq_zero h0, val_nil]
    rw [show val la - val lb = 0 by omega]
    exact ref01Less_0 w0 va vb la lb ha hb h0
  · exact ref01Less_1 w0 va vb la lb ha hb hsa hlb hle h0

set_option maxHeartbeats 400000 in
theorem ref01Sub_c (w0 : World) (va vb : Value) (la lb : List Int) {a b a' b' : Nat} (ha : RN a b w0 va la) (hb : RN a' b' w0 vb lb) (hsa : la.length ≤ SZ) :
    Ret Tryz.prog 98 [va, vb] w0 (fun r w1 => Below w0.heap.size w0 w1 ∧ ∃ v, r = .tuple #[v, .int .i64 (if subOk la lb then 0 else 1)] ∧ ON w0.heap.size w1 v (if subOk la lb then dg (val la - val lb) else [])) := by
 have E := Below.refl w0.heap.size w0
 refine Ret_of (n := 23) Tryz.func98 rfl rfl (Nat.le_of_ble_eq_true rfl) ?_
 refine W_seq ?_
 refine W_region rfl ?_
 refine S_assign rfl rfl rfl (v := (.slice none 0 0)) (rfl) ?_
 refine S_assign rfl rfl rfl (v := (.int .i64 0)) (rfl) ?_
 refine OPS.nil ?_
 change WP _ _ _ _ _ _
 refine W_seq ?_
 refine W_seq ?_
 refine W_region rfl ?_
 refine S_move rfl rfl rfl (v := va) (rfl) ?_
 refine S_call en_assayerref01_Check rfl rfl rfl (vs := [va]) (rfl) (ref01Check_c _ _ la ha) ?_
 rintro _ _ ⟨rfl, rfl⟩
 refine S_not rfl rfl rfl (rfl) ?_
 refine S_move rfl rfl rfl (v := (.bool (!(okL la)))) (rfl) ?_
 rcases Bool.eq_false_or_eq_true (!(okL la)) with pT | pF
 ·skip
  rw [pT]
  refine S_skip (d := 10) (op := .move _) (gd := some (3, false)) rfl (wg_off rfl (rfl) rfl) ?_
  refine S_skip (d := 11) (op := .call _) (gd := some (3, false)) rfl (wg_off rfl (rfl) rfl) ?_
  refine S_skip (d := 12) (op := .unOp _ _ _) (gd := some (3, false)) rfl (wg_off rfl (rfl) rfl) ?_
  refine S_pick rfl rfl rfl rfl rfl (b := true) (rfl) (v := (.bool true)) (rfl) ?_
  refine S_move rfl rfl rfl (v := (.bool true)) (rfl) ?_
  refine S_skip (d := 15) (op := .move _) (gd := some (8, false)) rfl (wg_off rfl (rfl) rfl) ?_
  refine S_skip (d := 16) (op := .move _) (gd := some (8, false)) rfl (wg_off rfl (rfl) rfl) ?_
  refine S_skip (d := 17) (op := .call _) (gd := some (8, false)) rfl (wg_off rfl (rfl) rfl) ?_
  refine S_skip (d := 18) (op := .binOp _ _ _ _ _) (gd := some (8, false)) rfl (wg_off rfl (rfl) rfl) ?_
  refine S_pick rfl rfl rfl rfl rfl (b := true) (rfl) (v := (.bool true)) (rfl) ?_
  refine OPS.nil ?_
  change WP _ _ _ _ _ _
  refine W_cond rfl (b := true) (rfl) (fun _ => ?_) (fun h => (by cases h))
  refine W_seq ?_
  refine W_region rfl ?_
  refine S_assign rfl rfl rfl (v := (.slice none 0 0)) (rfl) ?_
  refine S_assign rfl rfl rfl (v := (.int .i64 1)) (rfl) ?_
  refine OPS.nil ?_
  change WP _ _ _ _ _ _
  refine W_ret ?_
  change Fin' _ _ _ _ _ _
  refine End2 (n := ⟨23, []⟩) (t := 4) (u := 5) rfl (by decide) (by decide) (rfl) (rfl) ?_
  have hs : subOk la lb = false := by simp_all [subOk]
  exact ⟨E, _, by rw [hs]; rfl, by rw [hs]; exact ON.nil _ _⟩
 ·skip
  rw [pF]
  refine S_move rfl rfl rfl (v := vb) (rfl) ?_
  refine S_call en_assayerref01_Check rfl rfl rfl (vs := [vb]) (rfl) (ref01Check_c _ _ lb hb) ?_
  rintro _ _ ⟨rfl, rfl⟩
  refine S_not rfl rfl rfl (rfl) ?_
  refine S_pick rfl rfl rfl rfl rfl (b := false) (rfl) (v := (.bool (!(okL lb)))) (rfl) ?_
  refine S_move rfl rfl rfl (v := (.bool (!(okL lb)))) (rfl) ?_
  rcases Bool.eq_false_or_eq_true (!(okL lb)) with pFT | pFF
  ·skip
   rw [pFT]
   refine S_skip (d := 15) (op := .move _) (gd := some (8, false)) rfl (wg_off rfl (rfl) rfl) ?_
   refine S_skip (d := 16) (op := .move _) (gd := some (8, false)) rfl (wg_off rfl (rfl) rfl) ?_
   refine S_skip (d := 17) (op := .call _) (gd := some (8, false)) rfl (wg_off rfl (rfl) rfl) ?_
   refine S_skip (d := 18) (op := .binOp _ _ _ _ _) (gd := some (8, false)) rfl (wg_off rfl (rfl) rfl) ?_
   refine S_pick rfl rfl rfl rfl rfl (b := true) (rfl) (v := (.bool true)) (rfl) ?_
   refine OPS.nil ?_
   change WP _ _ _ _ _ _
   refine W_cond rfl (b := true) (rfl) (fun _ => ?_) (fun h => (by cases h))
   refine W_seq ?_
   refine W_region rfl ?_
   refine S_assign rfl rfl rfl (v := (.slice none 0 0)) (rfl) ?_
   refine S_assign rfl rfl rfl (v := (.int .i64 1)) (rfl) ?_
   refine OPS.nil ?_
   change WP _ _ _ _ _ _
   refine W_ret ?_
   change Fin' _ _ _ _ _ _
   refine End2 (n := ⟨23, []⟩) (t := 4) (u := 5) rfl (by decide) (by decide) (rfl) (rfl) ?_
   have hs : subOk la lb = false := by simp_all [subOk]
   exact ⟨E, _, by rw [hs]; rfl, by rw [hs]; exact ON.nil _ _⟩
  ·skip
   rw [pFF]
   refine S_move rfl rfl rfl (v := va) (rfl) ?_
   refine S_move rfl rfl rfl (v := vb) (rfl) ?_
   refine S_call en_assayerref01_Cmp rfl rfl rfl (vs := [va, vb]) (rfl) (ref01Cmp_c _ _ _ la lb ha hb) ?_
   rintro _ w1 ⟨hB1, rfl⟩
   have hz1 := hB1.size
   have E := Below.step E hB1
   refine S_bin rfl rfl rfl rfl rfl (rfl) (rfl) (v := .bool (decide ((cmpN (nv la) (nv lb)) < 0))) rfl ?_
   refine S_pick rfl rfl rfl rfl rfl (b := false) (rfl) (v := (.bool (decide ((cmpN (nv la) (nv lb)) < 0)))) (rfl) ?_
   refine OPS.nil ?_
   change WP _ _ _ _ _ _
   refine W_cond rfl (rfl) (fun hq19 => ?_) (fun hq19 => ?_)
   ·skip
    have pFFT := hq19
    replace hq19 := of_decide_eq_true hq19
    have qFFT := hq19
    try rw [pFFT]
    refine W_seq ?_
    refine W_region rfl ?_
    refine S_assign rfl rfl rfl (v := (.slice none 0 0)) (rfl) ?_
    refine S_assign rfl rfl rfl (v := (.int .i64 1)) (rfl) ?_
    refine OPS.nil ?_
    change WP _ _ _ _ _ _
    refine W_ret ?_
    change Fin' _ _ _ _ _ _
    refine End2 (n := ⟨23, []⟩) (t := 4) (u := 5) rfl (by decide) (by decide) (rfl) (rfl) ?_
    have hs : subOk la lb = false := by have := cmpN_lt0.1 hq19; unfold subOk; rw [← nv_ok (l := la) (by simpa using pF), ← nv_ok (l := lb) (by simpa using pFF)]; simp; omega
    exact ⟨E, _, by rw [hs]; rfl, by rw [hs]; exact ON.nil _ _⟩
   ·skip
    have pFFF := hq19
    replace hq19 := of_decide_eq_false hq19
    have qFFF := hq19
    have hka : okL la = true := by simpa using pF
    have hkb : okL lb = true := by simpa using pFF
    have hle : val lb ≤ val la := by
      rw [← nv_ok hka, ← nv_ok hkb]
      have := mt cmpN_lt0.2 hq19
      omega
    have hlen : lb.length ≤ la.length := by
      rcases Nat.lt_or_ge la.length lb.length with h | h
      · exact absurd (val_lt_len ha.u32 hb.u32 hkb h) (by omega)
      · exact h
    try rw [pFFF]
    refine W_skip ?_
    change WP _ _ _ _ _ _
    refine W_seq ?_
    refine W_region rfl ?_
    refine S_move rfl rfl rfl (v := va) (rfl) ?_
    refine S_move rfl rfl rfl (v := vb) (rfl) ?_
    refine S_call en_assayerref01_less rfl rfl rfl (vs := [va, vb]) (rfl) (ref01Less_c _ _ _ la lb (ha.below E) (hb.below E) hsa hlen hle) ?_
    rintro vh1 w2 ⟨hB2, h1⟩
    have hz2 := hB2.size
    have E := Below.step E hB2
    refine S_assign rfl rfl rfl (v := vh1) (rfl) ?_
    refine S_assign rfl rfl rfl (v := (.int .i64 0)) (rfl) ?_
    refine OPS.nil ?_
    change WP _ _ _ _ _ _
    refine W_ret ?_
    change Fin' _ _ _ _ _ _
    refine End2 (n := ⟨23, []⟩) (t := 4) (u := 5) rfl (by decide) (by decide) (rfl) (rfl) ?_
    have hs : subOk la lb = true := by unfold subOk; rw [hka, hkb]; simp; exact hle
    exact ⟨E, _, by rw [hs]; rfl, by rw [hs]; exact h1.mono (by omega)⟩

end Go.Proofs.YtccmicegihlfbaaGreatDoor

/- The document's sums and products of numbers from 0 on. -/
namespace Go.Proofs.YtccmicegihlfbaaGreatDoor
open Go.RowKit

set_option maxHeartbeats 400000 in
theorem ref01Mul_c (w0 : World) (va vb : Value) (la lb : List Int) {a b a2 b2 : Nat} (ha : RN a b w0 va la) (hb : RN a2 b2 w0 vb lb) (hsa : la.length ≤ SZ) (hsb : lb.length ≤ SZ) :
    Ret Tryz.prog 99 [va, vb] w0 (fun r w1 => Below w0.heap.size w0 w1 ∧ ON w0.heap.size w1 r (dg (nv la * nv lb))) := by
 have E := Below.refl w0.heap.size w0
 have hfa := ha.fine
 have hfb := hb.fine
 have h1 := fineL_length la
 have h2 := fineL_length lb
 unfold SZ at hsa hsb
 refine Ret_of (n := 71) Tryz.func99 rfl rfl (Nat.le_of_ble_eq_true rfl) ?_
 refine W_seq ?_
 refine W_region rfl ?_
 refine S_assign rfl rfl rfl (v := (.slice none 0 0)) (rfl) ?_
 refine OPS.nil ?_
 change WP _ _ _ _ _ _
 refine W_seq ?_
 refine W_region rfl ?_
 refine S_move rfl rfl rfl (v := va) (rfl) ?_
 refine S_call en_assayerref01_fit rfl rfl rfl (vs := [va]) (rfl) (ref01Fit_c w0 va la ha) ?_
 rintro _ _ ⟨rfl, rfl⟩
 refine S_assign rfl rfl rfl (v := (if okL la then va else .slice none 0 0)) (rfl) ?_
 refine OPS.nil ?_
 change WP _ _ _ _ _ _
 refine W_seq ?_
 refine W_region rfl ?_
 refine S_move rfl rfl rfl (v := vb) (rfl) ?_
 refine S_call en_assayerref01_fit rfl rfl rfl (vs := [vb]) (rfl) (ref01Fit_c w0 vb lb hb) ?_
 rintro _ _ ⟨rfl, rfl⟩
 refine S_assign rfl rfl rfl (v := (if okL lb then vb else .slice none 0 0)) (rfl) ?_
 refine OPS.nil ?_
 change WP _ _ _ _ _ _
 refine W_seq ?_
 refine W_region rfl ?_
 refine S_move rfl rfl rfl (v := (if okL la then va else .slice none 0 0)) (rfl) ?_
 refine S_len Tryz.underlying23 rfl rfl rfl (rfl) (m := (fineL la).length) (hfa.len) ?_
 refine S_move rfl rfl rfl (v := (if okL lb then vb else .slice none 0 0)) (rfl) ?_
 refine S_len Tryz.underlying23 rfl rfl rfl (rfl) (m := (fineL lb).length) (hfb.len) ?_
 refine S_add64 rfl rfl rfl rfl (rfl) (rfl) (by omega) ?_
 refine S_make Tryz.underlying23 ti_uint32 rfl rfl rfl rfl (rfl) (m := (fineL la).length + (fineL lb).length) (by omega) (by omega) (by omega) ?_
 intro g1 w1 hg1 hs1 hB1 b1
 rw [nums_rep] at b1
 have hz1 := hB1.size
 have E := Below.step E hB1
 refine S_assign rfl rfl rfl (v := (.slice (some ⟨g1, 0, none⟩) ((fineL la).length + (fineL lb).length) ((fineL la).length + (fineL lb).length))) (rfl) ?_
 refine OPS.nil ?_
 change WP _ _ _ _ _ _
 refine W_seq ?_
 refine W_seq ?_
 refine W_region rfl ?_
 obtain ⟨m, hmm⟩ : ∃ m, m = (fineL la).length + (fineL lb).length := ⟨_, rfl⟩
 refine S_assign rfl rfl rfl (v := (.int .i64 0)) (rfl) ?_
 refine OPS.nil ?_
 change WP _ _ _ _ _ _
 refine W_block ?_
 refine W_loop (fun q σ w => ∃ (i : Nat) (xs : List Int), σ 0 = (if okL la then va else .slice none 0 0) ∧ σ 1 = (if okL lb then vb else .slice none 0 0) ∧ σ 5 = .slice (some ⟨g1, 0, none⟩) m m ∧ σ 6 = .int .i64 (i : Int) ∧ i + q = (fineL la).length ∧ val xs = val ((fineL la).take i) * val (fineL lb) ∧ (∀ j, i + (fineL lb).length ≤ j → xs.getD j 0 = 0) ∧ xs.length = m ∧ U32 xs ∧ Blk w g1 (nums .u32 xs) 106 ∧ Below w0.heap.size w0 w) ((fineL la).length) ⟨0, List.replicate m 0, rfl, rfl, by rw [hmm]; rfl, rfl, by omega, by rw [val_zeros]; simp [val], fun j _ => rep_getD m j, by simp, U32.replicate m, by rw [hmm]; exact b1, E⟩ ?_
 rintro q σ w ⟨i, xs, s0, s1, s5, s6, hiq, hval, hz, hxl, hxu, b1, E⟩
 have hua := hfa.u32.getD i
 refine W_seq ?_
 refine W_seq ?_
 refine W_region rfl ?_
 refine S_move rfl rfl rfl (v := (.int .i64 (i : Int))) (s6) ?_
 refine S_move rfl rfl rfl (v := (if okL la then va else .slice none 0 0)) (s0) ?_
 refine S_len Tryz.underlying23 rfl rfl rfl (rfl) (m := (fineL la).length) (hfa.len) ?_
 refine S_bin rfl rfl rfl rfl rfl (rfl) (rfl) (v := .bool (decide ((i : Int) < ((fineL la).length : Int)))) rfl ?_
 refine OPS.nil ?_
 change WP _ _ _ _ _ _
 refine W_cond rfl (rfl) (fun hq22 => ?_) (fun hq22 => ?_)
 ·skip
  have pT := hq22
  replace hq22 := of_decide_eq_true hq22
  have qT := hq22
  try rw [pT]
  refine W_skip ?_
  change WP _ _ _ _ _ _
  refine W_seq ?_
  refine W_block ?_
  refine W_seq ?_
  refine W_region rfl ?_
  refine S_assign rfl rfl rfl (v := (.int .u64 0)) (rfl) ?_
  refine OPS.nil ?_
  change WP _ _ _ _ _ _
  refine W_seq ?_
  refine W_seq ?_
  refine W_region rfl ?_
  refine S_assign rfl rfl rfl (v := (.int .i64 0)) (rfl) ?_
  refine OPS.nil ?_
  change WP _ _ _ _ _ _
  refine W_block ?_
  refine W_loop (fun p σ w => ∃ (k : Nat) (h : Int) (ys : List Int), σ 0 = (if okL la then va else .slice none 0 0) ∧ σ 1 = (if okL lb then vb else .slice none 0 0) ∧ σ 5 = .slice (some ⟨g1, 0, none⟩) m m ∧ σ 6 = .int .i64 (i : Int) ∧ σ 7 = .int .u64 h ∧ σ 8 = .int .i64 (k : Int) ∧ k + p = (fineL lb).length ∧ (0 ≤ h ∧ h < 4294967296) ∧
      val ys + 4294967296 ^ (i + k) * h.toNat = val xs + 4294967296 ^ i * (((fineL la).getD i 0).toNat * val ((fineL lb).take k)) ∧ (∀ j, i + k ≤ j → ys.getD j 0 = xs.getD j 0) ∧ ys.length = m ∧ U32 ys ∧ Blk w g1 (nums .u32 ys) 106 ∧ Below w0.heap.size w0 w) ((fineL lb).length) ⟨0, 0, xs, s0, s1, s5, s6, rfl, rfl, by omega, ⟨by decide, by decide⟩, by simp [val], fun _ _ => rfl, hxl, hxu, b1, E⟩ ?_
  rintro p σ w ⟨k, h, ys, s0, s1, s5, s6, s7, s8, hkp, hh, hval2, hold, hyl, hyu, b1, E⟩
  have hub := hfb.u32.getD k
  have huo := hyu.getD (i + k)
  have hml := mul_lt hua hub
  refine W_seq ?_
  refine W_seq ?_
  refine W_region rfl ?_
  refine S_move rfl rfl rfl (v := (.int .i64 (k : Int))) (s8) ?_
  refine S_move rfl rfl rfl (v := (if okL lb then vb else .slice none 0 0)) (s1) ?_
  refine S_len Tryz.underlying23 rfl rfl rfl (rfl) (m := (fineL lb).length) (hfb.len) ?_
  refine S_bin rfl rfl rfl rfl rfl (rfl) (rfl) (v := .bool (decide ((k : Int) < ((fineL lb).length : Int)))) rfl ?_
  refine OPS.nil ?_
  change WP _ _ _ _ _ _
  refine W_cond rfl (rfl) (fun hq28 => ?_) (fun hq28 => ?_)
  ·skip
   have pT := hq28
   replace hq28 := of_decide_eq_true hq28
   have qT := hq28
   try rw [pT]
   refine W_skip ?_
   change WP _ _ _ _ _ _
   refine W_seq ?_
   refine W_block ?_
   refine W_seq ?_
   refine D_begin_ mixed_ rfl rfl ?_
   intro w2 hB2 hz_2
   have hz2 := hB2.size
   have E := Below.step E hB2
   have hl_b1 := b1.lt
   have b1 := b1.below hB2
   have hS_ : Below w2.heap.size w2 w2 := Below.refl _ _
   have E_S := E
   have b1_S := b1
   refine D_move (i := 0) (listed2 := (bm 22 1)) (by kernel_rfl) rfl rfl rfl (v := (.int .u64 h)) (s7) hS_ ?_
   refine D_move (i := 1) (listed2 := (bm 22 3)) (by kernel_rfl) rfl rfl rfl (v := (if okL la then va else .slice none 0 0)) (s0) hS_ ?_
   refine D_move (i := 2) (listed2 := (bm 22 7)) (by kernel_rfl) rfl rfl rfl (v := (.int .i64 (i : Int))) (s6) hS_ ?_
   obtain ⟨ad1, hp3, hc2⟩ := (hfa.below E_S).at i (by omega)
   refine D_idx Tryz.underlying23 ti_uint32 (i := 3) (listed2 := (bm 22 15)) (by kernel_rfl) rfl rfl rfl rfl (rfl) (rfl) hp3 (by omega) hS_ ?_
   refine D_load (i := 4) (listed2 := (bm 22 31)) (by kernel_rfl) rfl rfl rfl (rfl) (fun _ hS2 => LD.one ti_uint32 (cell_below hS2 hc2)) hS_ ?_
   refine D_conv Tryz.underlying106 Tryz.underlying124 (i := 5) (listed2 := (bm 22 63)) (by kernel_rfl) rfl rfl rfl (rfl) (b := ((fineL la).getD i 0)) (wrap_u64 hua.1 (by omega)) hS_ ?_
   refine D_move (i := 6) (listed2 := (bm 22 127)) (by kernel_rfl) rfl rfl rfl (v := (if okL lb then vb else .slice none 0 0)) (s1) hS_ ?_
   refine D_move (i := 7) (listed2 := (bm 22 255)) (by kernel_rfl) rfl rfl rfl (v := (.int .i64 (k : Int))) (s8) hS_ ?_
   obtain ⟨ad4, hp6, hc5⟩ := (hfb.below E_S).at k (by omega)
   refine D_idx Tryz.underlying23 ti_uint32 (i := 8) (listed2 := (bm 22 511)) (by kernel_rfl) rfl rfl rfl rfl (rfl) (rfl) hp6 (by omega) hS_ ?_
   refine D_load (i := 9) (listed2 := (bm 22 1023)) (by kernel_rfl) rfl rfl rfl (rfl) (fun _ hS2 => LD.one ti_uint32 (cell_below hS2 hc5)) hS_ ?_
   refine D_conv Tryz.underlying106 Tryz.underlying124 (i := 10) (listed2 := (bm 22 2047)) (by kernel_rfl) rfl rfl rfl (rfl) (b := ((fineL lb).getD k 0)) (wrap_u64 hub.1 (by omega)) hS_ ?_
   refine D_bin (i := 11) (listed2 := (bm 22 4095)) (by kernel_rfl) rfl rfl rfl rfl rfl (rfl) (rfl) (v := .int .u64 (((fineL la).getD i 0) * ((fineL lb).getD k 0))) (congrArg _ (wrap_u64 (by omega) (by omega))) hS_ ?_
   refine D_bin (i := 12) (listed2 := (bm 22 8191)) (by kernel_rfl) rfl rfl rfl rfl rfl (rfl) (rfl) (v := .int .u64 (h + (((fineL la).getD i 0) * ((fineL lb).getD k 0)))) (congrArg _ (wrap_u64 (by omega) (by omega))) hS_ ?_
   refine D_move (i := 13) (listed2 := (bm 22 16383)) (by kernel_rfl) rfl rfl rfl (v := (.slice (some ⟨g1, 0, none⟩) m m)) (s5) hS_ ?_
   refine D_move (i := 14) (listed2 := (bm 22 32767)) (by kernel_rfl) rfl rfl rfl (v := (.int .i64 (i : Int))) (s6) hS_ ?_
   refine D_move (i := 15) (listed2 := (bm 22 65535)) (by kernel_rfl) rfl rfl rfl (v := (.int .i64 (k : Int))) (s8) hS_ ?_
   refine D_add64 (i := 16) (listed2 := (bm 22 131071)) (by kernel_rfl) rfl rfl rfl rfl (rfl) (rfl) (by omega) hS_ ?_
   refine D_idx Tryz.underlying23 ti_uint32 (i := 17) (listed2 := (bm 22 262143)) (by kernel_rfl) rfl rfl rfl rfl (rfl) (rfl) (j := (i + k)) (ad := ⟨g1, (i + k), none⟩) (SlAt.own1 (by omega)) (by omega) hS_ ?_
   refine D_load (i := 18) (listed2 := (bm 22 524287)) (by kernel_rfl) rfl rfl rfl (rfl) (fun _ hS2 => LD.one ti_uint32 (cell_below hS2 (b1_S.num (by omega)))) hS_ ?_
   refine D_conv Tryz.underlying106 Tryz.underlying124 (i := 19) (listed2 := (bm 22 1048575)) (by kernel_rfl) rfl rfl rfl (rfl) (b := (ys.getD (i + k) 0)) (wrap_u64 huo.1 (by omega)) hS_ ?_
   refine D_bin (i := 20) (listed2 := (bm 22 2097151)) (by kernel_rfl) rfl rfl rfl rfl rfl (rfl) (rfl) (v := .int .u64 ((h + (((fineL la).getD i 0) * ((fineL lb).getD k 0))) + (ys.getD (i + k) 0))) (congrArg _ (wrap_u64 (by omega) (by omega))) hS_ ?_
   refine D_assign (i := 21) (listed2 := (bm 22 4194303)) (by kernel_rfl) rfl rfl rfl (v := (.int .u64 ((h + (((fineL la).getD i 0) * ((fineL lb).getD k 0))) + (ys.getD (i + k) 0)))) (rfl) hS_ ?_
   refine D_done (by kernel_rfl) ?_
   change WP _ _ _ _ _ _
   refine W_seq ?_
   refine W_region rfl ?_
   refine S_move rfl rfl rfl (v := (.slice (some ⟨g1, 0, none⟩) m m)) (s5) ?_
   refine S_move rfl rfl rfl (v := (.int .i64 (i : Int))) (s6) ?_
   refine S_move rfl rfl rfl (v := (.int .i64 (k : Int))) (s8) ?_
   refine S_add64 rfl rfl rfl rfl (rfl) (rfl) (by omega) ?_
   refine S_move rfl rfl rfl (v := (.int .u64 ((h + (((fineL la).getD i 0) * ((fineL lb).getD k 0))) + (ys.getD (i + k) 0)))) (rfl) ?_
   refine S_conv Tryz.underlying124 Tryz.underlying106 rfl rfl rfl (rfl) (b := (((h + (((fineL la).getD i 0) * ((fineL lb).getD k 0))) + (ys.getD (i + k) 0)) % 4294967296)) (wrap_u32' _) ?_
   refine S_idx Tryz.underlying23 ti_uint32 rfl rfl rfl rfl (rfl) (rfl) (j := (i + k)) (ad := ⟨g1, (i + k), none⟩) (SlAt.own1 (by omega)) (by omega) ?_
   refine S_storeN ti_uint32 rfl rfl rfl rfl (g := g1) (o := (i + k)) (rfl) (a := (((h + (((fineL la).getD i 0) * ((fineL lb).getD k 0))) + (ys.getD (i + k) 0)) % 4294967296)) (rfl) b1 (by omega) ?_
   intro w3 hU3 b1
   have E := Below.stepU E hU3 (by omega)
   have hz3 := hU3.size
   refine OPS.nil ?_
   change WP _ _ _ _ _ _
   refine W_region rfl ?_
   refine S_move rfl rfl rfl (v := (.int .u64 ((h + (((fineL la).getD i 0) * ((fineL lb).getD k 0))) + (ys.getD (i + k) 0)))) (rfl) ?_
   refine S_shr rfl rfl rfl rfl (rfl) (rfl) (by omega) (v := (((h + (((fineL la).getD i 0) * ((fineL lb).getD k 0))) + (ys.getD (i + k) 0)) / 4294967296)) (shr32 _) ?_
   refine S_assign rfl rfl rfl (v := (.int .u64 (((h + (((fineL la).getD i 0) * ((fineL lb).getD k 0))) + (ys.getD (i + k) 0)) / 4294967296))) (rfl) ?_
   refine OPS.nil ?_
   change WP _ _ _ _ _ _
   refine W_region rfl ?_
   refine S_move rfl rfl rfl (v := (.int .i64 (k : Int))) (s8) ?_
   refine S_add64 rfl rfl rfl rfl (rfl) (rfl) (by omega) ?_
   refine S_assign rfl rfl rfl (v := (.int .i64 ((k : Int) + 1))) (rfl) ?_
   refine OPS.nil ?_
   exact ⟨p - 1, by omega, k + 1, _, _, s0, s1, s5, s6, rfl, int_eq (by omega), by omega, ⟨by omega, by omega⟩, mul_step (by omega) hua hub huo hh rfl rfl (by omega) hval2, fun j hj => by rw [getD_set_ne' _ _ _ _ (by omega)]; exact hold j (by omega), by simpa using hyl, hyu.set _ (by omega) (by omega), b1, E⟩
  ·skip
   have pF := hq28
   replace hq28 := of_decide_eq_false hq28
   have qF := hq28
   try rw [pF]
   refine W_exit ?_
   change WP _ _ _ _ _ _
   refine W_region rfl ?_
   have hkl : k = (fineL lb).length := by omega
   subst hkl
   have hz2 : ys.getD (i + (fineL lb).length) 0 = 0 := by rw [hold _ (by omega)]; exact hz _ (by omega)
   refine S_move rfl rfl rfl (v := (.slice (some ⟨g1, 0, none⟩) m m)) (s5) ?_
   refine S_move rfl rfl rfl (v := (.int .i64 (i : Int))) (s6) ?_
   refine S_move rfl rfl rfl (v := (if okL lb then vb else .slice none 0 0)) (s1) ?_
   refine S_len Tryz.underlying23 rfl rfl rfl (rfl) (m := (fineL lb).length) (hfb.len) ?_
   refine S_add64 rfl rfl rfl rfl (rfl) (rfl) (by omega) ?_
   refine S_move rfl rfl rfl (v := (.int .u64 h)) (s7) ?_
   refine S_conv Tryz.underlying124 Tryz.underlying106 rfl rfl rfl (rfl) (b := h) (wrap_u32 hh.1 hh.2) ?_
   refine S_idx Tryz.underlying23 ti_uint32 rfl rfl rfl rfl (rfl) (rfl) (j := (i + (fineL lb).length)) (ad := ⟨g1, (i + (fineL lb).length), none⟩) (SlAt.own1 (by omega)) (by omega) ?_
   refine S_storeN ti_uint32 rfl rfl rfl rfl (g := g1) (o := (i + (fineL lb).length)) (rfl) (a := h) (rfl) b1 (by omega) ?_
   intro w4 hU4 b1
   have E := Below.stepU E hU4 (by omega)
   have hz4 := hU4.size
   refine OPS.nil ?_
   change WP _ _ _ _ _ _
   refine W_region rfl ?_
   refine S_move rfl rfl rfl (v := (.int .i64 (i : Int))) (s6) ?_
   refine S_add64 rfl rfl rfl rfl (rfl) (rfl) (by omega) ?_
   refine S_assign rfl rfl rfl (v := (.int .i64 ((i : Int) + 1))) (rfl) ?_
   refine OPS.nil ?_
   exact ⟨q - 1, by omega, i + 1, _, s0, s1, s5, int_eq (by omega), by omega, mul_row (by omega) rfl hz2 hval hval2, fun j hj => by rw [getD_set_ne' _ _ _ _ (by omega), hold j (by omega)]; exact hz j (by omega), by simpa using hyl, hyu.set _ (by omega) (by omega), b1, E⟩
 ·skip
  have pF := hq22
  replace hq22 := of_decide_eq_false hq22
  have qF := hq22
  try rw [pF]
  refine W_exit ?_
  change WP _ _ _ _ _ _
  refine W_seq ?_
  refine W_region rfl ?_
  refine S_move rfl rfl rfl (v := (.slice (some ⟨g1, 0, none⟩) m m)) (s5) ?_
  refine S_call en_assayerref01_trim rfl rfl rfl (vs := [(.slice (some ⟨g1, 0, none⟩) m m)]) (rfl) (ref01Trim_c _ _ xs (RN.ofNums (a := 0) (b := 0) b1 hxu hxl (by omega))) ?_
  rintro r _ ⟨⟨A, c', k', hv, hr, hk', ht⟩, rfl⟩
  refine S_assign rfl rfl rfl (v := r) (rfl) ?_
  refine OPS.nil ?_
  change WP _ _ _ _ _ _
  refine W_ret ?_
  change Fin' _ _ _ _ _ _
  refine End1 (n := ⟨71, []⟩) (t := 4) rfl (by decide) (v := r) (rfl) ?_
  have hi : i = (fineL la).length := by omega
  subst hi
  rw [List.take_length] at hval
  have := trim_on b1 (m := m) (c0 := m) (by rw [List.take_of_length_le (by rw [nums_len]; omega)]) (by rw [nums_len]; omega) hxu (B := w0.heap.size) (by omega) hxl (by omega) (Nat.le_refl _) hv hr hk' ht
  rw [hval] at this
  exact ⟨E, this⟩


theorem add_round2 {la lb xs : List Int} {i : Nat} {n v : Int} (hl : xs.length = i) (hv : v = n + la.getD i 0 + lb.getD i 0) (hx : 0 ≤ la.getD i 0) (hy : 0 ≤ lb.getD i 0) (hn : 0 ≤ n) (h : val xs + 4294967296 ^ i * n.toNat = val (la.take i) + val (lb.take i)) :
    val (xs ++ [v % 4294967296]) + 4294967296 ^ (i + 1) * (v / 4294967296).toNat = val (la.take (i + 1)) + val (lb.take (i + 1)) := by
  rw [val_append, val_step la, val_step lb, Nat.pow_succ, hl]
  have e : (v % 4294967296).toNat + 4294967296 * (v / 4294967296).toNat = (la.getD i 0).toNat + (lb.getD i 0).toNat + n.toNat := by omega
  have h2 := congrArg (4294967296 ^ i * ·) e
  simp only [Nat.mul_add, ← Nat.mul_assoc] at h2
  simp only [val, Nat.mul_zero, Nat.add_zero]
  generalize 4294967296 ^ i * (v % 4294967296).toNat = a1 at *
  generalize 4294967296 ^ i * 4294967296 * (v / 4294967296).toNat = a2 at *
  generalize 4294967296 ^ i * (la.getD i 0).toNat = a3 at *
  generalize 4294967296 ^ i * (lb.getD i 0).toNat = a4 at *
  generalize 4294967296 ^ i * n.toNat = a5 at *
  omega
theorem getD_out {l : List Int} {i : Nat} (h : ¬ (i : Int) < (l.length : Int)) : l.getD i 0 = 0 := by
  rw [List.getD_eq_getElem?_getD, List.getElem?_eq_none (by omega)]; rfl

set_option maxHeartbeats 400000 in
theorem ref01Add_c (w0 : World) (va vb : Value) (la lb : List Int) {a b a2 b2 : Nat} (ha : RN a b w0 va la) (hb : RN a2 b2 w0 vb lb) (hsa : la.length ≤ SZ) (hsb : lb.length ≤ SZ) :
    Ret Tryz.prog 96 [va, vb] w0 (fun r w1 => Below w0.heap.size w0 w1 ∧ ON w0.heap.size w1 r (dg (nv la + nv lb))) := by
 have E := Below.refl w0.heap.size w0
 have hfa := ha.fine
 have hfb := hb.fine
 have h1 := fineL_length la
 have h2 := fineL_length lb
 unfold SZ at hsa hsb
 refine Ret_of (n := 59) Tryz.func96 rfl rfl (Nat.le_of_ble_eq_true rfl) ?_
 refine W_seq ?_
 refine W_region rfl ?_
 refine S_assign rfl rfl rfl (v := (.slice none 0 0)) (rfl) ?_
 refine OPS.nil ?_
 change WP _ _ _ _ _ _
 refine W_seq ?_
 refine W_region rfl ?_
 refine S_move rfl rfl rfl (v := va) (rfl) ?_
 refine S_call en_assayerref01_fit rfl rfl rfl (vs := [va]) (rfl) (ref01Fit_c w0 va la ha) ?_
 rintro _ _ ⟨rfl, rfl⟩
 refine S_assign rfl rfl rfl (v := (if okL la then va else .slice none 0 0)) (rfl) ?_
 refine OPS.nil ?_
 change WP _ _ _ _ _ _
 refine W_seq ?_
 refine W_region rfl ?_
 refine S_move rfl rfl rfl (v := vb) (rfl) ?_
 refine S_call en_assayerref01_fit rfl rfl rfl (vs := [vb]) (rfl) (ref01Fit_c w0 vb lb hb) ?_
 rintro _ _ ⟨rfl, rfl⟩
 refine S_assign rfl rfl rfl (v := (if okL lb then vb else .slice none 0 0)) (rfl) ?_
 refine OPS.nil ?_
 change WP _ _ _ _ _ _
 refine W_seq ?_
 refine W_region rfl ?_
 refine S_assign rfl rfl rfl (v := (.slice none 0 0)) (rfl) ?_
 refine OPS.nil ?_
 change WP _ _ _ _ _ _
 refine W_seq ?_
 refine W_region rfl ?_
 refine S_assign rfl rfl rfl (v := (.int .u64 0)) (rfl) ?_
 refine OPS.nil ?_
 change WP _ _ _ _ _ _
 refine W_seq ?_
 refine W_seq ?_
 refine W_region rfl ?_
 refine S_assign rfl rfl rfl (v := (.int .i64 0)) (rfl) ?_
 refine OPS.nil ?_
 change WP _ _ _ _ _ _
 refine W_block ?_
 refine W_loop (fun q σ w => ∃ (i : Nat) (n : Int) (v : Value) (xs : List Int), σ 0 = (if okL la then va else .slice none 0 0) ∧ σ 1 = (if okL lb then vb else .slice none 0 0) ∧ σ 5 = v ∧ σ 6 = .int .u64 n ∧ σ 7 = .int .i64 (i : Int) ∧ i + q = max (fineL la).length (fineL lb).length + 1 ∧ (0 ≤ n ∧ n ≤ 1) ∧ (q = 0 → n = 0) ∧ xs.length = i ∧ U32 xs ∧
      val xs + 4294967296 ^ i * n.toNat = val ((fineL la).take i) + val ((fineL lb).take i) ∧ Row w0.heap.size 106 1 w v i (nums .u32 xs) ∧ Below w0.heap.size w0 w) (max (fineL la).length (fineL lb).length + 1) ⟨0, 0, _, [], rfl, rfl, rfl, rfl, rfl, by omega, ⟨by decide, by decide⟩, fun _ => rfl, rfl, U32.nil, rfl, Row.nil _ _ _ _, E⟩ ?_
 rintro q σ w ⟨i, n, v, xs, s0, s1, s5, s6, s7, hiq, hn, hq0, hxl, hxu, hval, RW, E⟩
 have hua := hfa.u32.getD i
 have hub := hfb.u32.getD i
 have hz0 := E.size
 refine W_seq ?_
 refine W_seq ?_
 refine W_region rfl ?_
 refine S_move rfl rfl rfl (v := (.int .i64 (i : Int))) (s7) ?_
 refine S_move rfl rfl rfl (v := (if okL la then va else .slice none 0 0)) (s0) ?_
 refine S_len Tryz.underlying23 rfl rfl rfl (rfl) (m := (fineL la).length) (hfa.len) ?_
 refine S_bin rfl rfl rfl rfl rfl (rfl) (rfl) (v := .bool (decide ((i : Int) < ((fineL la).length : Int)))) rfl ?_
 refine S_move rfl rfl rfl (v := (.bool (decide ((i : Int) < ((fineL la).length : Int))))) (rfl) ?_
 rcases Bool.eq_false_or_eq_true (decide ((i : Int) < ((fineL la).length : Int))) with pT | pF
 ·skip
  rw [pT]
  have qT := of_decide_eq_true pT
  refine S_skip (d := 17) (op := .move _) (gd := some (4, false)) rfl (wg_off rfl (rfl) rfl) ?_
  refine S_skip (d := 18) (op := .move _) (gd := some (4, false)) rfl (wg_off rfl (rfl) rfl) ?_
  refine S_skip (d := 19) (op := .call _) (gd := some (4, false)) rfl (wg_off rfl (rfl) rfl) ?_
  refine S_skip (d := 20) (op := .binOp _ _ _ _ _) (gd := some (4, false)) rfl (wg_off rfl (rfl) rfl) ?_
  refine S_pick rfl rfl rfl rfl rfl (b := true) (rfl) (v := (.bool true)) (rfl) ?_
  refine S_move rfl rfl rfl (v := (.bool true)) (rfl) ?_
  refine S_skip (d := 23) (op := .move _) (gd := some (10, false)) rfl (wg_off rfl (rfl) rfl) ?_
  refine S_skip (d := 24) (op := .binOp _ _ _ _ _) (gd := some (10, false)) rfl (wg_off rfl (rfl) rfl) ?_
  refine S_pick rfl rfl rfl rfl rfl (b := true) (rfl) (v := (.bool true)) (rfl) ?_
  refine OPS.nil ?_
  change WP _ _ _ _ _ _
  refine W_cond rfl (b := true) (rfl) (fun _ => ?_) (fun h => (by cases h))
  refine W_skip ?_
  change WP _ _ _ _ _ _
  refine W_seq ?_
  refine W_block ?_
  refine W_seq ?_
  refine W_seq ?_
  refine W_region rfl ?_
  refine S_move rfl rfl rfl (v := (.int .i64 (i : Int))) (s7) ?_
  refine S_move rfl rfl rfl (v := (if okL la then va else .slice none 0 0)) (s0) ?_
  refine S_len Tryz.underlying23 rfl rfl rfl (rfl) (m := (fineL la).length) (hfa.len) ?_
  refine S_bin rfl rfl rfl rfl rfl (rfl) (rfl) (v := .bool true) (congrArg Value.bool pT) ?_
  refine OPS.nil ?_
  change WP _ _ _ _ _ _
  refine W_cond rfl (b := true) (rfl) (fun _ => ?_) (fun h => (by cases h))
  refine W_region rfl ?_
  refine S_move rfl rfl rfl (v := (.int .u64 n)) (s6) ?_
  refine S_move rfl rfl rfl (v := (if okL la then va else .slice none 0 0)) (s0) ?_
  refine S_move rfl rfl rfl (v := (.int .i64 (i : Int))) (s7) ?_
  obtain ⟨ad1, hp3, hc2⟩ := (hfa.below E).at i (by omega)
  refine S_idx Tryz.underlying23 ti_uint32 rfl rfl rfl rfl (rfl) (rfl) hp3 (by omega) ?_
  refine S_load rfl rfl rfl (rfl) (LD.one ti_uint32 hc2) ?_
  refine S_conv Tryz.underlying106 Tryz.underlying124 rfl rfl rfl (rfl) (b := ((fineL la).getD i 0)) (wrap_u64 hua.1 (by omega)) ?_
  refine S_bin rfl rfl rfl rfl rfl (rfl) (rfl) (v := .int .u64 (n + ((fineL la).getD i 0))) (congrArg _ (wrap_u64 (by omega) (by omega))) ?_
  refine S_assign rfl rfl rfl (v := (.int .u64 (n + ((fineL la).getD i 0)))) (rfl) ?_
  refine OPS.nil ?_
  change WP _ _ _ _ _ _
  refine W_seq ?_
  refine W_seq ?_
  refine W_region rfl ?_
  refine S_move rfl rfl rfl (v := (.int .i64 (i : Int))) (s7) ?_
  refine S_move rfl rfl rfl (v := (if okL lb then vb else .slice none 0 0)) (s1) ?_
  refine S_len Tryz.underlying23 rfl rfl rfl (rfl) (m := (fineL lb).length) (hfb.len) ?_
  refine S_bin rfl rfl rfl rfl rfl (rfl) (rfl) (v := .bool (decide ((i : Int) < ((fineL lb).length : Int)))) rfl ?_
  refine OPS.nil ?_
  change WP _ _ _ _ _ _
  refine W_cond rfl (rfl) (fun hq42 => ?_) (fun hq42 => ?_)
  ·skip
   have pTT := hq42
   replace hq42 := of_decide_eq_true hq42
   have qTT := hq42
   try rw [pTT]
   refine W_region rfl ?_
   refine S_move rfl rfl rfl (v := (.int .u64 (n + ((fineL la).getD i 0)))) (rfl) ?_
   refine S_move rfl rfl rfl (v := (if okL lb then vb else .slice none 0 0)) (s1) ?_
   refine S_move rfl rfl rfl (v := (.int .i64 (i : Int))) (s7) ?_
   obtain ⟨ad4, hp6, hc5⟩ := (hfb.below E).at i (by omega)
   refine S_idx Tryz.underlying23 ti_uint32 rfl rfl rfl rfl (rfl) (rfl) hp6 (by omega) ?_
   refine S_load rfl rfl rfl (rfl) (LD.one ti_uint32 hc5) ?_
   refine S_conv Tryz.underlying106 Tryz.underlying124 rfl rfl rfl (rfl) (b := ((fineL lb).getD i 0)) (wrap_u64 hub.1 (by omega)) ?_
   refine S_bin rfl rfl rfl rfl rfl (rfl) (rfl) (v := .int .u64 ((n + ((fineL la).getD i 0)) + ((fineL lb).getD i 0))) (congrArg _ (wrap_u64 (by omega) (by omega))) ?_
   refine S_assign rfl rfl rfl (v := (.int .u64 ((n + ((fineL la).getD i 0)) + ((fineL lb).getD i 0)))) (rfl) ?_
   refine OPS.nil ?_
   change WP _ _ _ _ _ _
   refine W_seq ?_
   refine W_region rfl ?_
   refine S_move rfl rfl rfl (v := v) (s5) ?_
   refine S_move rfl rfl rfl (v := (.int .u64 ((n + ((fineL la).getD i 0)) + ((fineL lb).getD i 0)))) (rfl) ?_
   refine S_conv Tryz.underlying124 Tryz.underlying106 rfl rfl rfl (rfl) (b := (((n + ((fineL la).getD i 0)) + ((fineL lb).getD i 0)) % 4294967296)) (wrap_u32' _) ?_
   refine S_lit Tryz.underlying23 ti_uint32 rfl rfl (by decide) (by decide) rfl (vs := [(.int .u32 (((n + ((fineL la).getD i 0)) + ((fineL lb).getD i 0)) % 4294967296))]) (cs := [(.int .u32 (((n + ((fineL la).getD i 0)) + ((fineL lb).getD i 0)) % 4294967296))]) rfl rfl (by simp [Value.cells]) rfl ?_
   intro g1 w1 hg1 hs1 hB1 b1
   have hz1 := hB1.size
   have E := Below.step E hB1
   have RW := RW.below hB1
   replace b1 : Blk w1 g1 (nums .u32 [(((n + ((fineL la).getD i 0)) + ((fineL lb).getD i 0)) % 4294967296)]) 106 := b1
   refine S_appendR Tryz.underlying23 ti_uint32 rfl rfl rfl rfl rfl (v := v) (rfl) (rfl) RW (by decide) (news := nums .u32 [(((n + ((fineL la).getD i 0)) + ((fineL lb).getD i 0)) % 4294967296)]) rfl (fun j u hj => by rw [add_plain, b1.cell, Nat.zero_add]; exact hj) (one_nums _ _) (by omega) (by omega) (by omega) ?_
   intro v2 w2 RW2 hgr hbb _
   have E := Below.grownE E hgr (by omega) (fun g hg => (RW.bkB g hg).1)
   rw [nums_app] at RW2
   refine S_assign rfl rfl rfl (v := v2) (rfl) ?_
   refine OPS.nil ?_
   change WP _ _ _ _ _ _
   refine W_region rfl ?_
   refine S_move rfl rfl rfl (v := (.int .u64 ((n + ((fineL la).getD i 0)) + ((fineL lb).getD i 0)))) (rfl) ?_
   refine S_shr rfl rfl rfl rfl (rfl) (rfl) (by omega) (v := (((n + ((fineL la).getD i 0)) + ((fineL lb).getD i 0)) / 4294967296)) (shr32 _) ?_
   refine S_assign rfl rfl rfl (v := (.int .u64 (((n + ((fineL la).getD i 0)) + ((fineL lb).getD i 0)) / 4294967296))) (rfl) ?_
   refine OPS.nil ?_
   change WP _ _ _ _ _ _
   refine W_region rfl ?_
   refine S_move rfl rfl rfl (v := (.int .i64 (i : Int))) (s7) ?_
   refine S_add64 rfl rfl rfl rfl (rfl) (rfl) (by omega) ?_
   refine S_assign rfl rfl rfl (v := (.int .i64 ((i : Int) + 1))) (rfl) ?_
   refine OPS.nil ?_
   have hvv : ((n + ((fineL la).getD i 0)) + ((fineL lb).getD i 0)) = n + (fineL la).getD i 0 + (fineL lb).getD i 0 := by omega
   exact ⟨q - 1, by omega, i + 1, _, _, _, s0, s1, rfl, rfl, int_eq (by omega), by omega, ⟨by omega, by omega⟩, fun h => by omega, by rw [List.length_append, hxl]; rfl, hxu.append (U32.mk (by omega) (by omega) U32.nil), add_round2 hxl hvv hua.1 hub.1 hn.1 hval, RW2, E⟩
  ·skip
   have pTF := hq42
   replace hq42 := of_decide_eq_false hq42
   have qTF := hq42
   try rw [pTF]
   refine W_skip ?_
   change WP _ _ _ _ _ _
   refine W_seq ?_
   refine W_region rfl ?_
   refine S_move rfl rfl rfl (v := v) (s5) ?_
   refine S_move rfl rfl rfl (v := (.int .u64 (n + ((fineL la).getD i 0)))) (rfl) ?_
   refine S_conv Tryz.underlying124 Tryz.underlying106 rfl rfl rfl (rfl) (b := ((n + ((fineL la).getD i 0)) % 4294967296)) (wrap_u32' _) ?_
   refine S_lit Tryz.underlying23 ti_uint32 rfl rfl (by decide) (by decide) rfl (vs := [(.int .u32 ((n + ((fineL la).getD i 0)) % 4294967296))]) (cs := [(.int .u32 ((n + ((fineL la).getD i 0)) % 4294967296))]) rfl rfl (by simp [Value.cells]) rfl ?_
   intro g3 w3 hg3 hs3 hB3 b3
   have hz3 := hB3.size
   have E := Below.step E hB3
   have RW := RW.below hB3
   replace b3 : Blk w3 g3 (nums .u32 [((n + ((fineL la).getD i 0)) % 4294967296)]) 106 := b3
   refine S_appendR Tryz.underlying23 ti_uint32 rfl rfl rfl rfl rfl (v := v) (rfl) (rfl) RW (by decide) (news := nums .u32 [((n + ((fineL la).getD i 0)) % 4294967296)]) rfl (fun j u hj => by rw [add_plain, b3.cell, Nat.zero_add]; exact hj) (one_nums _ _) (by omega) (by omega) (by omega) ?_
   intro v2 w4 RW2 hgr hbb _
   have E := Below.grownE E hgr (by omega) (fun g hg => (RW.bkB g hg).1)
   rw [nums_app] at RW2
   refine S_assign rfl rfl rfl (v := v2) (rfl) ?_
   refine OPS.nil ?_
   change WP _ _ _ _ _ _
   refine W_region rfl ?_
   refine S_move rfl rfl rfl (v := (.int .u64 (n + ((fineL la).getD i 0)))) (rfl) ?_
   refine S_shr rfl rfl rfl rfl (rfl) (rfl) (by omega) (v := ((n + ((fineL la).getD i 0)) / 4294967296)) (shr32 _) ?_
   refine S_assign rfl rfl rfl (v := (.int .u64 ((n + ((fineL la).getD i 0)) / 4294967296))) (rfl) ?_
   refine OPS.nil ?_
   change WP _ _ _ _ _ _
   refine W_region rfl ?_
   refine S_move rfl rfl rfl (v := (.int .i64 (i : Int))) (s7) ?_
   refine S_add64 rfl rfl rfl rfl (rfl) (rfl) (by omega) ?_
   refine S_assign rfl rfl rfl (v := (.int .i64 ((i : Int) + 1))) (rfl) ?_
   refine OPS.nil ?_
   have hzb : (fineL lb).getD i 0 = 0 := getD_out (of_decide_eq_false pTF)
   have hvv : (n + ((fineL la).getD i 0)) = n + (fineL la).getD i 0 + (fineL lb).getD i 0 := by omega
   exact ⟨q - 1, by omega, i + 1, _, _, _, s0, s1, rfl, rfl, int_eq (by omega), by omega, ⟨by omega, by omega⟩, fun h => by omega, by rw [List.length_append, hxl]; rfl, hxu.append (U32.mk (by omega) (by omega) U32.nil), add_round2 hxl hvv hua.1 hub.1 hn.1 hval, RW2, E⟩
 ·skip
  rw [pF]
  have qF := of_decide_eq_false pF
  refine S_move rfl rfl rfl (v := (.int .i64 (i : Int))) (s7) ?_
  refine S_move rfl rfl rfl (v := (if okL lb then vb else .slice none 0 0)) (s1) ?_
  refine S_len Tryz.underlying23 rfl rfl rfl (rfl) (m := (fineL lb).length) (hfb.len) ?_
  refine S_bin rfl rfl rfl rfl rfl (rfl) (rfl) (v := .bool (decide ((i : Int) < ((fineL lb).length : Int)))) rfl ?_
  refine S_pick rfl rfl rfl rfl rfl (b := false) (rfl) (v := (.bool (decide ((i : Int) < ((fineL lb).length : Int))))) (rfl) ?_
  refine S_move rfl rfl rfl (v := (.bool (decide ((i : Int) < ((fineL lb).length : Int))))) (rfl) ?_
  rcases Bool.eq_false_or_eq_true (decide ((i : Int) < ((fineL lb).length : Int))) with pFT | pFF
  ·skip
   rw [pFT]
   have qFT := of_decide_eq_true pFT
   refine S_skip (d := 23) (op := .move _) (gd := some (10, false)) rfl (wg_off rfl (rfl) rfl) ?_
   refine S_skip (d := 24) (op := .binOp _ _ _ _ _) (gd := some (10, false)) rfl (wg_off rfl (rfl) rfl) ?_
   refine S_pick rfl rfl rfl rfl rfl (b := true) (rfl) (v := (.bool true)) (rfl) ?_
   refine OPS.nil ?_
   change WP _ _ _ _ _ _
   refine W_cond rfl (b := true) (rfl) (fun _ => ?_) (fun h => (by cases h))
   refine W_skip ?_
   change WP _ _ _ _ _ _
   refine W_seq ?_
   refine W_block ?_
   refine W_seq ?_
   refine W_seq ?_
   refine W_region rfl ?_
   refine S_move rfl rfl rfl (v := (.int .i64 (i : Int))) (s7) ?_
   refine S_move rfl rfl rfl (v := (if okL la then va else .slice none 0 0)) (s0) ?_
   refine S_len Tryz.underlying23 rfl rfl rfl (rfl) (m := (fineL la).length) (hfa.len) ?_
   refine S_bin rfl rfl rfl rfl rfl (rfl) (rfl) (v := .bool false) (congrArg Value.bool pF) ?_
   refine OPS.nil ?_
   change WP _ _ _ _ _ _
   refine W_cond rfl (b := false) (rfl) (fun h => (by cases h)) (fun _ => ?_)
   refine W_skip ?_
   change WP _ _ _ _ _ _
   refine W_seq ?_
   refine W_seq ?_
   refine W_region rfl ?_
   refine S_move rfl rfl rfl (v := (.int .i64 (i : Int))) (s7) ?_
   refine S_move rfl rfl rfl (v := (if okL lb then vb else .slice none 0 0)) (s1) ?_
   refine S_len Tryz.underlying23 rfl rfl rfl (rfl) (m := (fineL lb).length) (hfb.len) ?_
   refine S_bin rfl rfl rfl rfl rfl (rfl) (rfl) (v := .bool true) (congrArg Value.bool pFT) ?_
   refine OPS.nil ?_
   change WP _ _ _ _ _ _
   refine W_cond rfl (b := true) (rfl) (fun _ => ?_) (fun h => (by cases h))
   refine W_region rfl ?_
   refine S_move rfl rfl rfl (v := (.int .u64 n)) (s6) ?_
   refine S_move rfl rfl rfl (v := (if okL lb then vb else .slice none 0 0)) (s1) ?_
   refine S_move rfl rfl rfl (v := (.int .i64 (i : Int))) (s7) ?_
   obtain ⟨ad7, hp9, hc8⟩ := (hfb.below E).at i (by omega)
   refine S_idx Tryz.underlying23 ti_uint32 rfl rfl rfl rfl (rfl) (rfl) hp9 (by omega) ?_
   refine S_load rfl rfl rfl (rfl) (LD.one ti_uint32 hc8) ?_
   refine S_conv Tryz.underlying106 Tryz.underlying124 rfl rfl rfl (rfl) (b := ((fineL lb).getD i 0)) (wrap_u64 hub.1 (by omega)) ?_
   refine S_bin rfl rfl rfl rfl rfl (rfl) (rfl) (v := .int .u64 (n + ((fineL lb).getD i 0))) (congrArg _ (wrap_u64 (by omega) (by omega))) ?_
   refine S_assign rfl rfl rfl (v := (.int .u64 (n + ((fineL lb).getD i 0)))) (rfl) ?_
   refine OPS.nil ?_
   change WP _ _ _ _ _ _
   refine W_seq ?_
   refine W_region rfl ?_
   refine S_move rfl rfl rfl (v := v) (s5) ?_
   refine S_move rfl rfl rfl (v := (.int .u64 (n + ((fineL lb).getD i 0)))) (rfl) ?_
   refine S_conv Tryz.underlying124 Tryz.underlying106 rfl rfl rfl (rfl) (b := ((n + ((fineL lb).getD i 0)) % 4294967296)) (wrap_u32' _) ?_
   refine S_lit Tryz.underlying23 ti_uint32 rfl rfl (by decide) (by decide) rfl (vs := [(.int .u32 ((n + ((fineL lb).getD i 0)) % 4294967296))]) (cs := [(.int .u32 ((n + ((fineL lb).getD i 0)) % 4294967296))]) rfl rfl (by simp [Value.cells]) rfl ?_
   intro g5 w5 hg5 hs5 hB5 b5
   have hz5 := hB5.size
   have E := Below.step E hB5
   have RW := RW.below hB5
   replace b5 : Blk w5 g5 (nums .u32 [((n + ((fineL lb).getD i 0)) % 4294967296)]) 106 := b5
   refine S_appendR Tryz.underlying23 ti_uint32 rfl rfl rfl rfl rfl (v := v) (rfl) (rfl) RW (by decide) (news := nums .u32 [((n + ((fineL lb).getD i 0)) % 4294967296)]) rfl (fun j u hj => by rw [add_plain, b5.cell, Nat.zero_add]; exact hj) (one_nums _ _) (by omega) (by omega) (by omega) ?_
   intro v2 w6 RW2 hgr hbb _
   have E := Below.grownE E hgr (by omega) (fun g hg => (RW.bkB g hg).1)
   rw [nums_app] at RW2
   refine S_assign rfl rfl rfl (v := v2) (rfl) ?_
   refine OPS.nil ?_
   change WP _ _ _ _ _ _
   refine W_region rfl ?_
   refine S_move rfl rfl rfl (v := (.int .u64 (n + ((fineL lb).getD i 0)))) (rfl) ?_
   refine S_shr rfl rfl rfl rfl (rfl) (rfl) (by omega) (v := ((n + ((fineL lb).getD i 0)) / 4294967296)) (shr32 _) ?_
   refine S_assign rfl rfl rfl (v := (.int .u64 ((n + ((fineL lb).getD i 0)) / 4294967296))) (rfl) ?_
   refine OPS.nil ?_
   change WP _ _ _ _ _ _
   refine W_region rfl ?_
   refine S_move rfl rfl rfl (v := (.int .i64 (i : Int))) (s7) ?_
   refine S_add64 rfl rfl rfl rfl (rfl) (rfl) (by omega) ?_
   refine S_assign rfl rfl rfl (v := (.int .i64 ((i : Int) + 1))) (rfl) ?_
   refine OPS.nil ?_
   have hza : (fineL la).getD i 0 = 0 := getD_out (of_decide_eq_false pF)
   have hvv : (n + ((fineL lb).getD i 0)) = n + (fineL la).getD i 0 + (fineL lb).getD i 0 := by omega
   exact ⟨q - 1, by omega, i + 1, _, _, _, s0, s1, rfl, rfl, int_eq (by omega), by omega, ⟨by omega, by omega⟩, fun h => by omega, by rw [List.length_append, hxl]; rfl, hxu.append (U32.mk (by omega) (by omega) U32.nil), add_round2 hxl hvv hua.1 hub.1 hn.1 hval, RW2, E⟩
  ·skip
   rw [pFF]
   have qFF := of_decide_eq_false pFF
   refine S_move rfl rfl rfl (v := (.int .u64 n)) (s6) ?_
   refine S_bin rfl rfl rfl rfl rfl (rfl) (rfl) (v := .bool (decide (n > 0))) rfl ?_
   refine S_pick rfl rfl rfl rfl rfl (b := false) (rfl) (v := (.bool (decide (n > 0)))) (rfl) ?_
   refine OPS.nil ?_
   change WP _ _ _ _ _ _
   refine W_cond rfl (rfl) (fun hq25 => ?_) (fun hq25 => ?_)
   ·skip
    have pFFT := hq25
    replace hq25 := of_decide_eq_true hq25
    have qFFT := hq25
    try rw [pFFT]
    refine W_skip ?_
    change WP _ _ _ _ _ _
    refine W_seq ?_
    refine W_block ?_
    refine W_seq ?_
    refine W_seq ?_
    refine W_region rfl ?_
    refine S_move rfl rfl rfl (v := (.int .i64 (i : Int))) (s7) ?_
    refine S_move rfl rfl rfl (v := (if okL la then va else .slice none 0 0)) (s0) ?_
    refine S_len Tryz.underlying23 rfl rfl rfl (rfl) (m := (fineL la).length) (hfa.len) ?_
    refine S_bin rfl rfl rfl rfl rfl (rfl) (rfl) (v := .bool false) (congrArg Value.bool pF) ?_
    refine OPS.nil ?_
    change WP _ _ _ _ _ _
    refine W_cond rfl (b := false) (rfl) (fun h => (by cases h)) (fun _ => ?_)
    refine W_skip ?_
    change WP _ _ _ _ _ _
    refine W_seq ?_
    refine W_seq ?_
    refine W_region rfl ?_
    refine S_move rfl rfl rfl (v := (.int .i64 (i : Int))) (s7) ?_
    refine S_move rfl rfl rfl (v := (if okL lb then vb else .slice none 0 0)) (s1) ?_
    refine S_len Tryz.underlying23 rfl rfl rfl (rfl) (m := (fineL lb).length) (hfb.len) ?_
    refine S_bin rfl rfl rfl rfl rfl (rfl) (rfl) (v := .bool false) (congrArg Value.bool pFF) ?_
    refine OPS.nil ?_
    change WP _ _ _ _ _ _
    refine W_cond rfl (b := false) (rfl) (fun h => (by cases h)) (fun _ => ?_)
    refine W_skip ?_
    change WP _ _ _ _ _ _
    refine W_seq ?_
    refine W_region rfl ?_
    refine S_move rfl rfl rfl (v := v) (s5) ?_
    refine S_move rfl rfl rfl (v := (.int .u64 n)) (s6) ?_
    refine S_conv Tryz.underlying124 Tryz.underlying106 rfl rfl rfl (rfl) (b := (n % 4294967296)) (wrap_u32' _) ?_
    refine S_lit Tryz.underlying23 ti_uint32 rfl rfl (by decide) (by decide) rfl (vs := [(.int .u32 (n % 4294967296))]) (cs := [(.int .u32 (n % 4294967296))]) rfl rfl (by simp [Value.cells]) rfl ?_
    intro g7 w7 hg7 hs7 hB7 b7
    have hz7 := hB7.size
    have E := Below.step E hB7
    have RW := RW.below hB7
    replace b7 : Blk w7 g7 (nums .u32 [(n % 4294967296)]) 106 := b7
    refine S_appendR Tryz.underlying23 ti_uint32 rfl rfl rfl rfl rfl (v := v) (rfl) (rfl) RW (by decide) (news := nums .u32 [(n % 4294967296)]) rfl (fun j u hj => by rw [add_plain, b7.cell, Nat.zero_add]; exact hj) (one_nums _ _) (by omega) (by omega) (by omega) ?_
    intro v2 w8 RW2 hgr hbb _
    have E := Below.grownE E hgr (by omega) (fun g hg => (RW.bkB g hg).1)
    rw [nums_app] at RW2
    refine S_assign rfl rfl rfl (v := v2) (rfl) ?_
    refine OPS.nil ?_
    change WP _ _ _ _ _ _
    refine W_region rfl ?_
    refine S_move rfl rfl rfl (v := (.int .u64 n)) (s6) ?_
    refine S_shr rfl rfl rfl rfl (rfl) (rfl) (by omega) (v := (n / 4294967296)) (shr32 _) ?_
    refine S_assign rfl rfl rfl (v := (.int .u64 (n / 4294967296))) (rfl) ?_
    refine OPS.nil ?_
    change WP _ _ _ _ _ _
    refine W_region rfl ?_
    refine S_move rfl rfl rfl (v := (.int .i64 (i : Int))) (s7) ?_
    refine S_add64 rfl rfl rfl rfl (rfl) (rfl) (by omega) ?_
    refine S_assign rfl rfl rfl (v := (.int .i64 ((i : Int) + 1))) (rfl) ?_
    refine OPS.nil ?_
    have hza : (fineL la).getD i 0 = 0 := getD_out (of_decide_eq_false pF)
    have hzb : (fineL lb).getD i 0 = 0 := getD_out (of_decide_eq_false pFF)
    have hvv : n = n + (fineL la).getD i 0 + (fineL lb).getD i 0 := by omega
    exact ⟨q - 1, by omega, i + 1, _, _, _, s0, s1, rfl, rfl, int_eq (by omega), by omega, ⟨by omega, by omega⟩, fun h => by omega, by rw [List.length_append, hxl]; rfl, hxu.append (U32.mk (by omega) (by omega) U32.nil), add_round2 hxl hvv hua.1 hub.1 hn.1 hval, RW2, E⟩
   ·skip
    have pFFF := hq25
    replace hq25 := of_decide_eq_false hq25
    have qFFF := hq25
    try rw [pFFF]
    refine W_exit ?_
    change WP _ _ _ _ _ _
    refine W_seq ?_
    refine W_region rfl ?_
    refine S_move rfl rfl rfl (v := v) (s5) ?_
    refine S_call en_assayerref01_trim rfl rfl rfl (vs := [v]) (rfl) (ref01Trim_c _ _ xs (RW.on hxu).r) ?_
    rintro r _ ⟨⟨A, c', k', hv, hr, hk', ht⟩, rfl⟩
    refine S_assign rfl rfl rfl (v := r) (rfl) ?_
    refine OPS.nil ?_
    change WP _ _ _ _ _ _
    refine W_ret ?_
    change Fin' _ _ _ _ _ _
    refine End1 (n := ⟨59, []⟩) (t := 4) rfl (by decide) (v := r) (rfl) ?_
    have e1 : (fineL la).take i = fineL la := List.take_of_length_le (by omega)
    have e2 : (fineL lb).take i = fineL lb := List.take_of_length_le (by omega)
    have e3 : n = 0 := by omega
    rw [e1, e2, e3] at hval
    have h9 := RW.on hxu
    rw [hv] at h9
    subst hr
    have := h9.prefix_ hk'
    rw [ht, show val xs = nv la + nv lb from by unfold nv; simpa using hval] at this
    exact ⟨E, this⟩

end Go.Proofs.YtccmicegihlfbaaGreatDoor

/- Fractions as numbers: plain facts; no program in sight. -/
namespace Go.Proofs.YtccmicegihlfbaaGreatDoor

/-- A whole number may be. -/
def okI (s : Bool) (l : List Int) : Bool := okL l && (!s || !l.isEmpty)
def fineI (s : Bool) (l : List Int) : Bool × List Int := if okI s l then (s, l) else (false, [])
def iv (s : Bool) (l : List Int) : Int := if s then -(val l : Int) else (val l : Int)
/-- The number, or 0. -/
def zv (s : Bool) (l : List Int) : Int := if okI s l then iv s l else 0
theorem okI_dg (z : Int) : okI (decide (z < 0)) (dg z.natAbs) = true := by
  unfold okI
  rw [okL_dg, Bool.true_and]
  by_cases h : z < 0
  · have : dg z.natAbs ≠ [] := fun e => by rw [dg_eq_nil] at e; omega
    cases hd : dg z.natAbs with
    | nil => exact absurd hd this
    | cons x l => simp
  · simp [h]
theorem iv_dg (z : Int) : iv (decide (z < 0)) (dg z.natAbs) = z := by
  unfold iv
  rw [val_dg]
  by_cases h : z < 0 <;> simp [h] <;> omega
theorem zv_dg (z : Int) : zv (decide (z < 0)) (dg z.natAbs) = z := by
  unfold zv
  rw [okI_dg, if_pos rfl, iv_dg]
theorem okI_spec {s : Bool} {l : List Int} (h : okI s l = true) (hu : U32 l) : s = decide (iv s l < 0) ∧ l = dg (iv s l).natAbs := by
  unfold okI at h
  simp only [Bool.and_eq_true, Bool.or_eq_true, Bool.not_eq_true'] at h
  obtain ⟨h1, h2⟩ := h
  have hv : (iv s l).natAbs = val l := by unfold iv; split <;> omega
  rw [hv, dg_val hu h1]
  refine ⟨?_, rfl⟩
  cases s with
  | false => simp [iv]
  | true =>
    have hn : l ≠ [] := by
      rcases h2 with h2 | h2
      · cases h2
      · intro e; subst e; cases h2
    have := val_pos_of_ok hu h1 hn
    simp [iv]
    omega
theorem zv_ok {s : Bool} {l : List Int} (h : okI s l = true) (hu : U32 l) : s = decide (zv s l < 0) ∧ l = dg (zv s l).natAbs := by
  unfold zv
  rw [if_pos h]
  exact okI_spec h hu
theorem zv_not {s : Bool} {l : List Int} (h : okI s l = false) : zv s l = 0 := by
  unfold zv
  rw [h]
  rfl
theorem zv_len {s : Bool} {l : List Int} (hu : U32 l) : (dg (zv s l).natAbs).length ≤ l.length := by
  cases h : okI s l with
  | true => rw [← (zv_ok h hu).2]; exact Nat.le_refl _
  | false => rw [zv_not h, show (0 : Int).natAbs = 0 from rfl, dg_zero]; exact Nat.zero_le _
theorem dg_isEmpty (n : Nat) : (dg n).isEmpty = decide (n = 0) := by
  cases h : dg n with
  | nil => have := dg_eq_nil.1 h; simp [this]
  | cons x l => have : n ≠ 0 := fun e => by rw [e, dg_zero] at h; cases h
                simp [this]
theorem sgn_of (b : Bool) (n : Nat) : (b && !(dg n).isEmpty) = decide ((if b then -(n : Int) else n) < 0) := by
  rw [dg_isEmpty]
  cases b <;> by_cases h : n = 0 <;> simp [h] <;> omega
theorem okL_nv {n : Nat} : nv (dg n) = n := nv_dg n
end Go.Proofs.YtccmicegihlfbaaGreatDoor

/- Whole numbers: whether they may be; 0 if not. -/
namespace Go.Proofs.YtccmicegihlfbaaGreatDoor
open Go.RowKit


theorem RN.one_ {a b : Nat} {w : World} {v : Value} {l : List Int} (h : RN a b w v l) : v.oneCell' = true := by
  obtain ⟨A, c, rfl, _⟩ := h.form
  rfl
theorem one1 {u : Value} (h : u.oneCell' = true) : ∀ x ∈ [u], x.oneCell' = true := by simp [h]
theorem one2 {u v : Value} (h : u.oneCell' = true) (h2 : v.oneCell' = true) : ∀ x ∈ [u, v], x.oneCell' = true := by simp [h, h2]
theorem one3 {u v t : Value} (h : u.oneCell' = true) (h2 : v.oneCell' = true) (h3 : t.oneCell' = true) : ∀ x ∈ [u, v, t], x.oneCell' = true := by simp [h, h2, h3]
/-- A whole number that reads so. -/
def RZ (a b : Nat) (w : World) (v : Value) (z : Int) : Prop := RN a b w v (dg z.natAbs)
section
variable {a b a' b' : Nat} {w0 : World} {va vb : Value} {m n : Nat}

theorem natsAdd_d (ha : RN a b w0 va (dg m)) (hb : RN a' b' w0 vb (dg n)) (hsa : (dg m).length ≤ SZ) (hsb : (dg n).length ≤ SZ) : Ret Tryz.prog 203 [va, vb] w0 (fun r w1 => Below w0.heap.size w0 w1 ∧ ON w0.heap.size w1 r (dg (m + n))) := by
  have := natsAdd_c w0 va vb _ _ ha hb hsa hsb
  rwa [nv_dg, nv_dg] at this
theorem natsMul_d (ha : RN a b w0 va (dg m)) (hb : RN a' b' w0 vb (dg n)) (hsa : (dg m).length ≤ SZ) (hsb : (dg n).length ≤ SZ) : Ret Tryz.prog 90 [va, vb] w0 (fun r w1 => Below w0.heap.size w0 w1 ∧ ON w0.heap.size w1 r (dg (m * n))) := by
  have := natsMul_c w0 va vb _ _ ha hb hsa hsb
  rwa [nv_dg, nv_dg] at this
theorem natsCmp_d (ha : RN a b w0 va (dg m)) (hb : RN a' b' w0 vb (dg n)) : Ret Tryz.prog 93 [va, vb] w0 (fun r w1 => Below w0.heap.size w0 w1 ∧ r = .int .i64 (cmpN m n)) := by
  have := natsCmp_c w0 va vb _ _ ha hb
  rwa [nv_dg, nv_dg] at this
theorem natsSub_d (ha : RN a b w0 va (dg m)) (hb : RN a' b' w0 vb (dg n)) (hsa : (dg m).length ≤ SZ) (hle : n ≤ m) : Ret Tryz.prog 204 [va, vb] w0 (fun r w1 => Below w0.heap.size w0 w1 ∧ ∃ v, r = .tuple #[v, .int .i64 0] ∧ ON w0.heap.size w1 v (dg (m - n))) := by
  have := natsSub_c w0 va vb _ _ ha hb hsa
  have h : subOk (dg m) (dg n) = true := by unfold subOk; rw [okL_dg, okL_dg, val_dg, val_dg]; simpa using hle
  rwa [h, val_dg, val_dg] at this

theorem ref01Add_d (ha : RN a b w0 va (dg m)) (hb : RN a' b' w0 vb (dg n)) (hsa : (dg m).length ≤ SZ) (hsb : (dg n).length ≤ SZ) : Ret Tryz.prog 96 [va, vb] w0 (fun r w1 => Below w0.heap.size w0 w1 ∧ ON w0.heap.size w1 r (dg (m + n))) := by
  have := ref01Add_c w0 va vb _ _ ha hb hsa hsb
  rwa [nv_dg, nv_dg] at this
theorem ref01Mul_d (ha : RN a b w0 va (dg m)) (hb : RN a' b' w0 vb (dg n)) (hsa : (dg m).length ≤ SZ) (hsb : (dg n).length ≤ SZ) : Ret Tryz.prog 99 [va, vb] w0 (fun r w1 => Below w0.heap.size w0 w1 ∧ ON w0.heap.size w1 r (dg (m * n))) := by
  have := ref01Mul_c w0 va vb _ _ ha hb hsa hsb
  rwa [nv_dg, nv_dg] at this
theorem ref01Cmp_d (ha : RN a b w0 va (dg m)) (hb : RN a' b' w0 vb (dg n)) : Ret Tryz.prog 97 [va, vb] w0 (fun r w1 => Below w0.heap.size w0 w1 ∧ r = .int .i64 (cmpN m n)) := by
  have := ref01Cmp_c w0 va vb _ _ ha hb
  rwa [nv_dg, nv_dg] at this
theorem ref01Sub_d (ha : RN a b w0 va (dg m)) (hb : RN a' b' w0 vb (dg n)) (hsa : (dg m).length ≤ SZ) (hle : n ≤ m) : Ret Tryz.prog 98 [va, vb] w0 (fun r w1 => Below w0.heap.size w0 w1 ∧ ∃ v, r = .tuple #[v, .int .i64 0] ∧ ON w0.heap.size w1 v (dg (m - n))) := by
  have := ref01Sub_c w0 va vb _ _ ha hb hsa
  have h : subOk (dg m) (dg n) = true := by unfold subOk; rw [okL_dg, okL_dg, val_dg, val_dg]; simpa using hle
  rwa [h, val_dg, val_dg] at this

end
theorem sum_same {x y : Int} (h : decide (x < 0) = decide (y < 0)) : (decide (x < 0) && !(dg (x.natAbs + y.natAbs)).isEmpty) = decide (x + y < 0) ∧ x.natAbs + y.natAbs = (x + y).natAbs := by
  have h2 : x < 0 ↔ y < 0 := by simpa using h
  rw [sgn_of]
  constructor
  · by_cases hx : x < 0 <;> simp [hx] <;> omega
  · omega
theorem sum_diff {x y : Int} (h : decide (x < 0) ≠ decide (y < 0)) (hle : y.natAbs ≤ x.natAbs) : (decide (x < 0) && !(dg (x.natAbs - y.natAbs)).isEmpty) = decide (x + y < 0) ∧ x.natAbs - y.natAbs = (x + y).natAbs := by
  have h2 : ¬ (x < 0 ↔ y < 0) := by simpa using h
  rw [sgn_of]
  constructor
  · by_cases hx : x < 0 <;> simp [hx] <;> omega
  · omega
theorem mul_sign {x y : Int} : ((decide (x < 0) != decide (y < 0)) && !(dg (x.natAbs * y.natAbs)).isEmpty) = decide (x * y < 0) ∧ x.natAbs * y.natAbs = (x * y).natAbs := by
  refine ⟨?_, (Int.natAbs_mul x y).symm⟩
  rw [dg_isEmpty]
  rcases Int.lt_trichotomy x 0 with hx | hx | hx <;> rcases Int.lt_trichotomy y 0 with hy | hy | hy
  · have := Int.mul_pos_of_neg_of_neg hx hy; simp [hx, hy]; omega
  · subst hy; simp
  · have := Int.mul_neg_of_neg_of_pos hx hy; have h1 : ¬ y < 0 := by omega
    have h0 : x ≠ 0 := by omega
    have h2 : y ≠ 0 := by omega
    simp [hx, h1, this, h0, h2]; exact Nat.mul_ne_zero (by omega) (by omega)
  · subst hx; simp
  · subst hx; simp
  · subst hx; simp
  · have := Int.mul_neg_of_pos_of_neg hx hy; have h1 : ¬ x < 0 := by omega
    have h0 : x ≠ 0 := by omega
    have h2 : y ≠ 0 := by omega
    simp [hy, h1, this, h0, h2]; exact Nat.mul_ne_zero (by omega) (by omega)
  · subst hy; simp
  · have := Int.mul_pos hx hy; have h1 : ¬ x < 0 := by omega
    have h2 : ¬ y < 0 := by omega
    simp [h1, h2]; omega
theorem neg_sign {z : Int} : ((!decide (z < 0)) && !(dg z.natAbs).isEmpty) = decide (-z < 0) ∧ z.natAbs = (-z).natAbs := by
  rw [sgn_of]
  refine ⟨?_, by omega⟩
  by_cases h : z < 0
  · simp [h]; omega
  · simp [h]
    by_cases h0 : z = 0
    · simp [h0]
    · have : 0 < z := by omega
      simp [h0, this]
/-- Below 0, 0, above 0. -/
def cmpZ (x y : Int) : Int := if x < y then -1 else if x = y then 0 else 1
theorem cmpZ_sub (x y : Int) : cmpZ (x - y) 0 = cmpZ x y := by unfold cmpZ; split <;> split <;> (try split) <;> (try split) <;> omega
theorem cmpZ_range (x y : Int) : -1 ≤ cmpZ x y ∧ cmpZ x y ≤ 1 := by unfold cmpZ; split <;> (try split) <;> omega
theorem cmpZ_far {x y : Int} (h : cmpZ x 0 ≠ cmpZ y 0) : max (-1) (min 1 (cmpZ x 0 - cmpZ y 0)) = cmpZ x y := by
  unfold cmpZ at *
  split at h <;> split at h <;> (try split at h) <;> (try split at h) <;> (try split) <;> (try split) <;> (try split) <;> (try split) <;> (try split) <;> (try split) <;> omega
theorem cmpZ_near {x y : Int} (h : cmpZ x 0 = cmpZ y 0) : cmpN x.natAbs y.natAbs * cmpZ x 0 = cmpZ x y := by
  unfold cmpZ at *
  unfold cmpN
  split at h <;> split at h <;> (try split at h) <;> (try split at h) <;> (try split) <;> (try split) <;> (try split) <;> (try split) <;> (try split) <;> (try split) <;> omega

set_option maxHeartbeats 400000 in
theorem intsCheck_c (w0 : World) (s : Bool) (v : Value) (l : List Int) {a b : Nat} (h : RN a b w0 v l) :
    Ret Tryz.prog 173 [.agg #[.bool s, v]] w0 (fun r w1 => Below w0.heap.size w0 w1 ∧ r = .bool (okI s l)) := by
 have E := Below.refl w0.heap.size w0
 refine Ret_of (n := 17) Tryz.func173 rfl rfl (Nat.le_of_ble_eq_true rfl) ?_
 refine W_seq ?_
 refine W_region rfl ?_
 refine S_box rfl rfl rfl (v := .agg #[.bool s, v]) (rfl) (cs := [(.bool s), v]) rfl ?_
 intro g1 w1 hg1 hs1 hB1 b1
 have hz1 := hB1.size
 have E := Below.step E hB1
 refine S_assign rfl rfl rfl (v := (.bool false)) (rfl) ?_
 refine OPS.nil ?_
 change WP _ _ _ _ _ _
 refine W_seq ?_
 refine W_region rfl ?_
 refine S_field ft_api_Int_1 rfl rfl rfl (g := g1) (o := 0) (rfl) (o' := 1) rfl ?_
 refine S_load rfl rfl rfl (rfl) (LD.blk1 ti_api_Nat b1 (v := v) rfl) ?_
 refine S_call en_nats_Check rfl rfl rfl (vs := [v]) (rfl) (natsCheck_c _ _ l (h.below E)) ?_
 rintro _ _ ⟨rfl, rfl⟩
 refine S_move rfl rfl rfl (v := (.bool (okL l))) (rfl) ?_
 rcases Bool.eq_false_or_eq_true (okL l) with pT | pF
 ·skip
  rw [pT]
  refine S_field ft_api_Int_0 rfl rfl rfl (g := g1) (o := 0) (rfl) (o' := 0) rfl ?_
  refine S_load rfl rfl rfl (rfl) (LD.blk1 ti_bool b1 (v := (.bool s)) rfl) ?_
  refine S_not rfl rfl rfl (rfl) ?_
  refine S_move rfl rfl rfl (v := (.bool (!s))) (rfl) ?_
  rcases Bool.eq_false_or_eq_true (!s) with pTT | pTF
  ·skip
   rw [pTT]
   refine S_skip (d := 11) (op := .fieldAddr _ _ _) (gd := some (7, false)) rfl (wg_off rfl (rfl) rfl) ?_
   refine S_skip (d := 12) (op := .load _ _) (gd := some (7, false)) rfl (wg_off rfl (rfl) rfl) ?_
   refine S_skip (d := 13) (op := .call _) (gd := some (7, false)) rfl (wg_off rfl (rfl) rfl) ?_
   refine S_skip (d := 14) (op := .binOp _ _ _ _ _) (gd := some (7, false)) rfl (wg_off rfl (rfl) rfl) ?_
   refine S_pick rfl rfl rfl rfl rfl (b := true) (rfl) (v := (.bool true)) (rfl) ?_
   refine S_pick rfl rfl rfl rfl rfl (b := true) (rfl) (v := (.bool true)) (rfl) ?_
   refine S_assign rfl rfl rfl (v := (.bool true)) (rfl) ?_
   refine OPS.nil ?_
   change WP _ _ _ _ _ _
   refine W_ret ?_
   change Fin' _ _ _ _ _ _
   refine End1 (n := ⟨17, []⟩) (t := 2) rfl (by decide) (v := (.bool true)) (rfl) ?_
   exact ⟨E, by rw [show okI s l = true by simp_all [okI]]⟩
  ·skip
   rw [pTF]
   refine S_field ft_api_Int_1 rfl rfl rfl (g := g1) (o := 0) (rfl) (o' := 1) rfl ?_
   refine S_load rfl rfl rfl (rfl) (LD.blk1 ti_api_Nat b1 (v := v) rfl) ?_
   refine S_len Tryz.underlying23 rfl rfl rfl (rfl) (m := l.length) (h.len) ?_
   refine S_bin rfl rfl rfl rfl rfl (rfl) (rfl) (v := .bool (decide ((l.length : Int) > 0))) rfl ?_
   refine S_pick rfl rfl rfl rfl rfl (b := false) (rfl) (v := (.bool (decide ((l.length : Int) > 0)))) (rfl) ?_
   refine S_pick rfl rfl rfl rfl rfl (b := true) (rfl) (v := (.bool (decide ((l.length : Int) > 0)))) (rfl) ?_
   refine S_assign rfl rfl rfl (v := (.bool (decide ((l.length : Int) > 0)))) (rfl) ?_
   refine OPS.nil ?_
   change WP _ _ _ _ _ _
   refine W_ret ?_
   change Fin' _ _ _ _ _ _
   refine End1 (n := ⟨17, []⟩) (t := 2) rfl (by decide) (v := (.bool (decide ((l.length : Int) > 0)))) (rfl) ?_
   have hs : s = true := by simpa using pTF
   subst hs
   have h9 : decide ((l.length : Int) > 0) = okI true l := by unfold okI; rw [pT]; cases l <;> simp <;> omega
   exact ⟨E, congrArg Value.bool h9⟩
 ·skip
  rw [pF]
  refine S_skip (d := 7) (op := .fieldAddr _ _ _) (gd := some (3, true)) rfl (wg_off rfl (rfl) rfl) ?_
  refine S_skip (d := 8) (op := .load _ _) (gd := some (3, true)) rfl (wg_off rfl (rfl) rfl) ?_
  refine S_skip (d := 9) (op := .unOp _ _ _) (gd := some (3, true)) rfl (wg_off rfl (rfl) rfl) ?_
  refine S_skip (d := 10) (op := .move _) (gd := some (3, true)) rfl (wg_off rfl (rfl) rfl) ?_
  refine S_skip (d := 11) (op := .fieldAddr _ _ _) (gd := some (7, false)) rfl (wg_undef rfl (rfl)) ?_
  refine S_skip (d := 12) (op := .load _ _) (gd := some (7, false)) rfl (wg_undef rfl (rfl)) ?_
  refine S_skip (d := 13) (op := .call _) (gd := some (7, false)) rfl (wg_undef rfl (rfl)) ?_
  refine S_skip (d := 14) (op := .binOp _ _ _ _ _) (gd := some (7, false)) rfl (wg_undef rfl (rfl)) ?_
  refine S_skip (d := 15) (op := .pick _ _ _) (gd := some (3, true)) rfl (wg_off rfl (rfl) rfl) ?_
  refine S_pick rfl rfl rfl rfl rfl (b := false) (rfl) (v := (.bool false)) (rfl) ?_
  refine S_assign rfl rfl rfl (v := (.bool false)) (rfl) ?_
  refine OPS.nil ?_
  change WP _ _ _ _ _ _
  refine W_ret ?_
  change Fin' _ _ _ _ _ _
  refine End1 (n := ⟨17, []⟩) (t := 2) rfl (by decide) (v := (.bool false)) (rfl) ?_
  exact ⟨E, by rw [show okI s l = false by simp [okI, pF]]⟩

set_option maxHeartbeats 400000 in
theorem ref02Check_c (w0 : World) (s : Bool) (v : Value) (l : List Int) {a b : Nat} (h : RN a b w0 v l) :
    Ret Tryz.prog 175 [.agg #[.bool s, v]] w0 (fun r w1 => Below w0.heap.size w0 w1 ∧ r = .bool (okI s l)) := by
 have E := Below.refl w0.heap.size w0
 refine Ret_of (n := 17) Tryz.func175 rfl rfl (Nat.le_of_ble_eq_true rfl) ?_
 refine W_seq ?_
 refine W_region rfl ?_
 refine S_box rfl rfl rfl (v := .agg #[.bool s, v]) (rfl) (cs := [(.bool s), v]) rfl ?_
 intro g1 w1 hg1 hs1 hB1 b1
 have hz1 := hB1.size
 have E := Below.step E hB1
 refine S_assign rfl rfl rfl (v := (.bool false)) (rfl) ?_
 refine OPS.nil ?_
 change WP _ _ _ _ _ _
 refine W_seq ?_
 refine W_region rfl ?_
 refine S_field ft_api_Int_1 rfl rfl rfl (g := g1) (o := 0) (rfl) (o' := 1) rfl ?_
 refine S_load rfl rfl rfl (rfl) (LD.blk1 ti_api_Nat b1 (v := v) rfl) ?_
 refine S_call en_assayerref01_Check rfl rfl rfl (vs := [v]) (rfl) (ref01Check_c _ _ l (h.below E)) ?_
 rintro _ _ ⟨rfl, rfl⟩
 refine S_move rfl rfl rfl (v := (.bool (okL l))) (rfl) ?_
 rcases Bool.eq_false_or_eq_true (okL l) with pT | pF
 ·skip
  rw [pT]
  refine S_field ft_api_Int_0 rfl rfl rfl (g := g1) (o := 0) (rfl) (o' := 0) rfl ?_
  refine S_load rfl rfl rfl (rfl) (LD.blk1 ti_bool b1 (v := (.bool s)) rfl) ?_
  refine S_move rfl rfl rfl (v := (.bool s)) (rfl) ?_
  rcases Bool.eq_false_or_eq_true s with pTT | pTF
  ·skip
   rw [pTT]
   refine S_field ft_api_Int_1 rfl rfl rfl (g := g1) (o := 0) (rfl) (o' := 1) rfl ?_
   refine S_load rfl rfl rfl (rfl) (LD.blk1 ti_api_Nat b1 (v := v) rfl) ?_
   refine S_len Tryz.underlying23 rfl rfl rfl (rfl) (m := l.length) (h.len) ?_
   refine S_bin rfl rfl rfl rfl rfl (rfl) (rfl) (v := .bool (((l.length : Int) == 0))) rfl ?_
   refine S_pick rfl rfl rfl rfl rfl (b := true) (rfl) (v := (.bool (((l.length : Int) == 0)))) (rfl) ?_
   refine S_not rfl rfl rfl (rfl) ?_
   refine S_pick rfl rfl rfl rfl rfl (b := true) (rfl) (v := (.bool (!(((l.length : Int) == 0))))) (rfl) ?_
   refine S_assign rfl rfl rfl (v := (.bool (!(((l.length : Int) == 0))))) (rfl) ?_
   refine OPS.nil ?_
   change WP _ _ _ _ _ _
   refine W_ret ?_
   change Fin' _ _ _ _ _ _
   refine End1 (n := ⟨17, []⟩) (t := 2) rfl (by decide) (v := (.bool (!(((l.length : Int) == 0))))) (rfl) ?_
   have h9 : (!((l.length : Int) == 0)) = okI true l := by unfold okI; rw [pT]; cases l <;> simp <;> omega
   exact ⟨E, congrArg Value.bool h9⟩
  ·skip
   rw [pTF]
   refine S_skip (d := 10) (op := .fieldAddr _ _ _) (gd := some (6, true)) rfl (wg_off rfl (rfl) rfl) ?_
   refine S_skip (d := 11) (op := .load _ _) (gd := some (6, true)) rfl (wg_off rfl (rfl) rfl) ?_
   refine S_skip (d := 12) (op := .call _) (gd := some (6, true)) rfl (wg_off rfl (rfl) rfl) ?_
   refine S_skip (d := 13) (op := .binOp _ _ _ _ _) (gd := some (6, true)) rfl (wg_off rfl (rfl) rfl) ?_
   refine S_pick rfl rfl rfl rfl rfl (b := false) (rfl) (v := (.bool false)) (rfl) ?_
   refine S_not rfl rfl rfl (rfl) ?_
   change OPS _ _ _ _ _ (upd _ _ (.bool true)) _
   refine S_pick rfl rfl rfl rfl rfl (b := true) (rfl) (v := (.bool true)) (rfl) ?_
   refine S_assign rfl rfl rfl (v := (.bool true)) (rfl) ?_
   refine OPS.nil ?_
   change WP _ _ _ _ _ _
   refine W_ret ?_
   change Fin' _ _ _ _ _ _
   refine End1 (n := ⟨17, []⟩) (t := 2) rfl (by decide) (v := (.bool true)) (rfl) ?_
   exact ⟨E, by rw [show okI false l = true by simp_all [okI]]⟩
 ·skip
  rw [pF]
  refine S_skip (d := 7) (op := .fieldAddr _ _ _) (gd := some (3, true)) rfl (wg_off rfl (rfl) rfl) ?_
  refine S_skip (d := 8) (op := .load _ _) (gd := some (3, true)) rfl (wg_off rfl (rfl) rfl) ?_
  refine S_skip (d := 9) (op := .move _) (gd := some (3, true)) rfl (wg_off rfl (rfl) rfl) ?_
  refine S_skip (d := 10) (op := .fieldAddr _ _ _) (gd := some (6, true)) rfl (wg_undef rfl (rfl)) ?_
  refine S_skip (d := 11) (op := .load _ _) (gd := some (6, true)) rfl (wg_undef rfl (rfl)) ?_
  refine S_skip (d := 12) (op := .call _) (gd := some (6, true)) rfl (wg_undef rfl (rfl)) ?_
  refine S_skip (d := 13) (op := .binOp _ _ _ _ _) (gd := some (6, true)) rfl (wg_undef rfl (rfl)) ?_
  refine S_skip (d := 14) (op := .pick _ _ _) (gd := some (3, true)) rfl (wg_off rfl (rfl) rfl) ?_
  refine S_skip (d := 15) (op := .unOp _ _ _) (gd := some (3, true)) rfl (wg_off rfl (rfl) rfl) ?_
  refine S_pick rfl rfl rfl rfl rfl (b := false) (rfl) (v := (.bool false)) (rfl) ?_
  refine S_assign rfl rfl rfl (v := (.bool false)) (rfl) ?_
  refine OPS.nil ?_
  change WP _ _ _ _ _ _
  refine W_ret ?_
  change Fin' _ _ _ _ _ _
  refine End1 (n := ⟨17, []⟩) (t := 2) rfl (by decide) (v := (.bool false)) (rfl) ?_
  exact ⟨E, by rw [show okI s l = false by simp [okI, pF]]⟩

set_option maxHeartbeats 400000 in
theorem intsof_c (w0 : World) (s : Bool) (v : Value) (l : List Int) {a b : Nat} (h : RN a b w0 v l) :
    Ret Tryz.prog 86 [.agg #[.bool s, v]] w0 (fun r w1 => Below w0.heap.size w0 w1 ∧ ∃ v', r = .agg #[.bool (decide (zv s l < 0)), v'] ∧ ∀ a b W, RN a b W v l → RN a b W v' (dg (zv s l).natAbs)) := by
 have E := Below.refl w0.heap.size w0
 obtain ⟨A_, c_, hv_, -, -⟩ := h.form
 refine Ret_of (n := 7) Tryz.func86 rfl rfl (Nat.le_of_ble_eq_true rfl) ?_
 refine W_seq ?_
 refine W_region rfl ?_
 refine S_box rfl rfl rfl (v := .agg #[.bool s, v]) (rfl) (cs := [(.bool s), v]) rfl ?_
 intro g1 w1 hg1 hs1 hB1 b1
 have hz1 := hB1.size
 have E := Below.step E hB1
 refine S_alloc ti_ints_whole rfl rfl (cs := [.bool false, .slice none 0 0]) rfl ?_
 intro g2 w2 hg2 hs2 hB2 b2
 have hz2 := hB2.size
 have E := Below.step E hB2
 have hl_b1 := b1.lt
 have b1 := b1.below hB2
 refine OPS.nil ?_
 change WP _ _ _ _ _ _
 refine W_seq ?_
 refine W_seq ?_
 refine W_region rfl ?_
 refine S_load rfl rfl rfl (rfl) (LD.blk ti_api_Int b1 (l := [(.bool s), v]) rfl rfl) ?_
 refine S_call en_ints_Check rfl rfl rfl (vs := [(.agg #[(.bool s), v])]) (rfl) (intsCheck_c _ s v l (h.below E)) ?_
 rintro _ w3 ⟨hB3, rfl⟩
 have hz3 := hB3.size
 have E := Below.step E hB3
 have hl_b1 := b1.lt
 have b1 := b1.below hB3
 have hl_b2 := b2.lt
 have b2 := b2.below hB3
 refine OPS.nil ?_
 change WP _ _ _ _ _ _
 refine W_cond rfl (rfl) (fun hq4 => ?_) (fun hq4 => ?_)
 ·skip
  have pT := hq4
  skip
  try rw [pT]
  refine W_seq ?_
  refine W_region rfl ?_
  refine S_load rfl rfl rfl (rfl) (LD.blk ti_api_Int b1 (l := [(.bool s), v]) rfl rfl) ?_
  refine S_store ti_ints_whole rfl rfl rfl rfl (g := g2) (o := 0) (rfl) (v := (.agg #[(.bool s), v])) (rfl) (vs := [(.bool s), v]) rfl rfl (one2 (rfl) (h.one_)) b2 (by simp) (cs' := [(.bool s), v]) rfl ?_
  intro w4 hU4 b2
  have E := Below.stepU E hU4 (by omega)
  have b1 := b1.upd hU4 (by omega)
  have hz4 := hU4.size
  refine OPS.nil ?_
  change WP _ _ _ _ _ _
  refine W_ret ?_
  change Fin' _ _ _ _ _ _
  refine EndC (n := ⟨7, []⟩) (t := 2) rfl (by decide) (rfl) (LD.blk ti_ints_whole b2 (l := [(.bool s), v]) rfl rfl) ?_
  have h9 : okI s l = true := by simpa using pT
  have h8 := zv_ok h9 h.u32
  refine ⟨E, v, ?_, fun a b W h => by rw [← h8.2]; exact h⟩
  rw [← h8.1]
 ·skip
  have pF := hq4
  skip
  try rw [pF]
  refine W_skip ?_
  change WP _ _ _ _ _ _
  refine W_seq ?_
  refine W_region rfl ?_
  refine S_build rfl rfl rfl (cs := [.bool false, .slice none 0 0]) (by kernel_rfl) ?_
  refine S_store ti_ints_whole rfl rfl rfl rfl (g := g2) (o := 0) (rfl) (v := (.agg #[.bool false, .slice none 0 0])) (rfl) (vs := [.bool false, .slice none 0 0]) rfl rfl (by simp [Value.oneCell']) b2 (by simp) (cs' := [.bool false, .slice none 0 0]) rfl ?_
  intro w5 hU5 b2
  have E := Below.stepU E hU5 (by omega)
  have b1 := b1.upd hU5 (by omega)
  have hz5 := hU5.size
  refine OPS.nil ?_
  change WP _ _ _ _ _ _
  refine W_ret ?_
  change Fin' _ _ _ _ _ _
  refine EndC (n := ⟨7, []⟩) (t := 2) rfl (by decide) (rfl) (LD.blk ti_ints_whole b2 (l := [.bool false, .slice none 0 0]) rfl rfl) ?_
  have h9 : okI s l = false := by simpa using pF
  have h8 := zv_not h9
  rw [h8]
  exact ⟨E, .slice none 0 0, rfl, fun a b W h => by rw [show (0 : Int).natAbs = 0 from rfl, dg_zero]; exact RN.nil _ _ _⟩

set_option maxHeartbeats 400000 in
theorem ref02Fit_c (w0 : World) (s : Bool) (v : Value) (l : List Int) {a b : Nat} (h : RN a b w0 v l) :
    Ret Tryz.prog 94 [.agg #[.bool s, v]] w0 (fun r w1 => Below w0.heap.size w0 w1 ∧ ∃ v', r = .agg #[.bool (decide (zv s l < 0)), v'] ∧ ∀ a b W, RN a b W v l → RN a b W v' (dg (zv s l).natAbs)) := by
 have E := Below.refl w0.heap.size w0
 obtain ⟨A_, c_, hv_, -, -⟩ := h.form
 refine Ret_of (n := 8) Tryz.func94 rfl rfl (Nat.le_of_ble_eq_true rfl) ?_
 refine W_seq ?_
 refine W_region rfl ?_
 refine S_box rfl rfl rfl (v := .agg #[.bool s, v]) (rfl) (cs := [(.bool s), v]) rfl ?_
 intro g1 w1 hg1 hs1 hB1 b1
 have hz1 := hB1.size
 have E := Below.step E hB1
 refine S_alloc ti_api_Int rfl rfl (cs := [.bool false, .slice none 0 0]) rfl ?_
 intro g2 w2 hg2 hs2 hB2 b2
 have hz2 := hB2.size
 have E := Below.step E hB2
 have hl_b1 := b1.lt
 have b1 := b1.below hB2
 refine OPS.nil ?_
 change WP _ _ _ _ _ _
 refine W_seq ?_
 refine W_seq ?_
 refine W_region rfl ?_
 refine S_load rfl rfl rfl (rfl) (LD.blk ti_api_Int b1 (l := [(.bool s), v]) rfl rfl) ?_
 refine S_call en_assayerref02_Check rfl rfl rfl (vs := [(.agg #[(.bool s), v])]) (rfl) (ref02Check_c _ s v l (h.below E)) ?_
 rintro _ w3 ⟨hB3, rfl⟩
 have hz3 := hB3.size
 have E := Below.step E hB3
 have hl_b1 := b1.lt
 have b1 := b1.below hB3
 have hl_b2 := b2.lt
 have b2 := b2.below hB3
 refine S_not rfl rfl rfl (rfl) ?_
 refine OPS.nil ?_
 change WP _ _ _ _ _ _
 refine W_cond rfl (rfl) (fun hq5 => ?_) (fun hq5 => ?_)
 ·skip
  have pT := hq5
  skip
  try rw [pT]
  refine W_seq ?_
  refine W_region rfl ?_
  refine S_build rfl rfl rfl (cs := [.bool false, .slice none 0 0]) (by kernel_rfl) ?_
  refine S_store ti_api_Int rfl rfl rfl rfl (g := g2) (o := 0) (rfl) (v := (.agg #[.bool false, .slice none 0 0])) (rfl) (vs := [.bool false, .slice none 0 0]) rfl rfl (by simp [Value.oneCell']) b2 (by simp) (cs' := [.bool false, .slice none 0 0]) rfl ?_
  intro w4 hU4 b2
  have E := Below.stepU E hU4 (by omega)
  have b1 := b1.upd hU4 (by omega)
  have hz4 := hU4.size
  refine OPS.nil ?_
  change WP _ _ _ _ _ _
  refine W_ret ?_
  change Fin' _ _ _ _ _ _
  refine EndC (n := ⟨8, []⟩) (t := 2) rfl (by decide) (rfl) (LD.blk ti_api_Int b2 (l := [.bool false, .slice none 0 0]) rfl rfl) ?_
  have h9 : okI s l = false := by simpa using pT
  have h8 := zv_not h9
  rw [h8]
  exact ⟨E, .slice none 0 0, rfl, fun a b W h => by rw [show (0 : Int).natAbs = 0 from rfl, dg_zero]; exact RN.nil _ _ _⟩
 ·skip
  have pF := hq5
  skip
  try rw [pF]
  refine W_skip ?_
  change WP _ _ _ _ _ _
  refine W_seq ?_
  refine W_region rfl ?_
  refine S_load rfl rfl rfl (rfl) (LD.blk ti_api_Int b1 (l := [(.bool s), v]) rfl rfl) ?_
  refine S_store ti_api_Int rfl rfl rfl rfl (g := g2) (o := 0) (rfl) (v := (.agg #[(.bool s), v])) (rfl) (vs := [(.bool s), v]) rfl rfl (one2 (rfl) (h.one_)) b2 (by simp) (cs' := [(.bool s), v]) rfl ?_
  intro w5 hU5 b2
  have E := Below.stepU E hU5 (by omega)
  have b1 := b1.upd hU5 (by omega)
  have hz5 := hU5.size
  refine OPS.nil ?_
  change WP _ _ _ _ _ _
  refine W_ret ?_
  change Fin' _ _ _ _ _ _
  refine EndC (n := ⟨8, []⟩) (t := 2) rfl (by decide) (rfl) (LD.blk ti_api_Int b2 (l := [(.bool s), v]) rfl rfl) ?_
  have h9 : okI s l = true := by simpa using pF
  have h8 := zv_ok h9 h.u32
  refine ⟨E, v, ?_, fun a b W h => by rw [← h8.2]; exact h⟩
  rw [← h8.1]

end Go.Proofs.YtccmicegihlfbaaGreatDoor
