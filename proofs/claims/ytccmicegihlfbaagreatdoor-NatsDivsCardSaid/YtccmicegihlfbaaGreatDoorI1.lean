/- Whole numbers: whether they may be; 0 if not. -/
import Derived.Test.YtccmicegihlfbaaGreatDoorS2
import Derived.Test.YtccmicegihlfbaaGreatDoorTy
import Derived.Test.YtccmicegihlfbaaGreatDoorQ
import Derived.Test.YtccmicegihlfbaaGreatDoorDraw2
set_option linter.unusedVariables false
set_option linter.unusedSimpArgs false
namespace Go.Proofs.YtccmicegihlfbaaGreatDoor
open Go.RowKit


theorem RN.one_ {a b : Nat} {w : World} {v : Value} {l : List Int} (h : RN a b w v l) : v.oneCell' = true := by
  obtain ⟨A, c, rfl, _⟩ := h.form
  rfl
theorem one1 {u : Value} (h : u.oneCell' = true) : ∀ x ∈ [u], x.oneCell' = true := by simp [h]
theorem one2 {u v : Value} (h : u.oneCell' = true) (h2 : v.oneCell' = true) : ∀ x ∈ [u, v], x.oneCell' = true := by simp [h, h2]
theorem one3 {u v t : Value} (h : u.oneCell' = true) (h2 : v.oneCell' = true) (h3 : t.oneCell' = true) : ∀ x ∈ [u, v, t], x.oneCell' = true := by simp [h, h2, h3]
/-- A whole number that reads so. -/
def RZ (a b : Nat) (w : World) (v : Value) (z : Int) : Prop := RN a b w v (dg z.natAbs)
section
variable {a b a' b' : Nat} {w0 : World} {va vb : Value} {m n : Nat}

theorem natsAdd_d (ha : RN a b w0 va (dg m)) (hb : RN a' b' w0 vb (dg n)) (hsa : (dg m).length ≤ SZ) (hsb : (dg n).length ≤ SZ) : Ret Tryz.prog 203 [va, vb] w0 (fun r w1 => Below w0.heap.size w0 w1 ∧ ON w0.heap.size w1 r (dg (m + n))) := by
  have := natsAdd_c w0 va vb _ _ ha hb hsa hsb
  rwa [nv_dg, nv_dg] at this
theorem natsMul_d (ha : RN a b w0 va (dg m)) (hb : RN a' b' w0 vb (dg n)) (hsa : (dg m).length ≤ SZ) (hsb : (dg n).length ≤ SZ) : Ret Tryz.prog 90 [va, vb] w0 (fun r w1 => Below w0.heap.size w0 w1 ∧ ON w0.heap.size w1 r (dg (m * n))) := by
  have := natsMul_c w0 va vb _ _ ha hb hsa hsb
  rwa [nv_dg, nv_dg] at this
theorem natsCmp_d (ha : RN a b w0 va (dg m)) (hb : RN a' b' w0 vb (dg n)) : Ret Tryz.prog 93 [va, vb] w0 (fun r w1 => Below w0.heap.size w0 w1 ∧ r = .int .i64 (cmpN m n)) := by
  have := natsCmp_c w0 va vb _ _ ha hb
  rwa [nv_dg, nv_dg] at this
theorem natsSub_d (ha : RN a b w0 va (dg m)) (hb : RN a' b' w0 vb (dg n)) (hsa : (dg m).length ≤ SZ) (hle : n ≤ m) : Ret Tryz.prog 204 [va, vb] w0 (fun r w1 => Below w0.heap.size w0 w1 ∧ ∃ v, r = .tuple #[v, .int .i64 0] ∧ ON w0.heap.size w1 v (dg (m - n))) := by
  have := natsSub_c w0 va vb _ _ ha hb hsa
  have h : subOk (dg m) (dg n) = true := by unfold subOk; rw [okL_dg, okL_dg, val_dg, val_dg]; simpa using hle
  rwa [h, val_dg, val_dg] at this

theorem ref01Add_d (ha : RN a b w0 va (dg m)) (hb : RN a' b' w0 vb (dg n)) (hsa : (dg m).length ≤ SZ) (hsb : (dg n).length ≤ SZ) : Ret Tryz.prog 96 [va, vb] w0 (fun r w1 => Below w0.heap.size w0 w1 ∧ ON w0.heap.size w1 r (dg (m + n))) := by
  have := ref01Add_c w0 va vb _ _ ha hb hsa hsb
  rwa [nv_dg, nv_dg] at this
theorem ref01Mul_d (ha : RN a b w0 va (dg m)) (hb : RN a' b' w0 vb (dg n)) (hsa : (dg m).length ≤ SZ) (hsb : (dg n).length ≤ SZ) : Ret Tryz.prog 99 [va, vb] w0 (fun r w1 => Below w0.heap.size w0 w1 ∧ ON w0.heap.size w1 r (dg (m * n))) := by
  have := ref01Mul_c w0 va vb _ _ ha hb hsa hsb
  rwa [nv_dg, nv_dg] at this
theorem ref01Cmp_d (ha : RN a b w0 va (dg m)) (hb : RN a' b' w0 vb (dg n)) : Ret Tryz.prog 97 [va, vb] w0 (fun r w1 => Below w0.heap.size w0 w1 ∧ r = .int .i64 (cmpN m n)) := by
  have := ref01Cmp_c w0 va vb _ _ ha hb
  rwa [nv_dg, nv_dg] at this
theorem ref01Sub_d (ha : RN a b w0 va (dg m)) (hb : RN a' b' w0 vb (dg n)) (hsa : (dg m).length ≤ SZ) (hle : n ≤ m) : Ret Tryz.prog 98 [va, vb] w0 (fun r w1 => Below w0.heap.size w0 w1 ∧ ∃ v, r = .tuple #[v, .int .i64 0] ∧ ON w0.heap.size w1 v (dg (m - n))) := by
  have := ref01Sub_c w0 va vb _ _ ha hb hsa
  have h : subOk (dg m) (dg n) = true := by unfold subOk; rw [okL_dg, okL_dg, val_dg, val_dg]; simpa using hle
  rwa [h, val_dg, val_dg] at this

end
theorem sum_same {x y : Int} (h : decide (x < 0) = decide (y < 0)) : (decide (x < 0) && !(dg (x.natAbs + y.natAbs)).isEmpty) = decide (x + y < 0) ∧ x.natAbs + y.natAbs = (x + y).natAbs := by
  have h2 : x < 0 ↔ y < 0 := by simpa using h
  rw [sgn_of]
  constructor
  · by_cases hx : x < 0 <;> simp [hx] <;> omega
  · omega
theorem sum_diff {x y : Int} (h : decide (x < 0) ≠ decide (y < 0)) (hle : y.natAbs ≤ x.natAbs) : (decide (x < 0) && !(dg (x.natAbs - y.natAbs)).isEmpty) = decide (x + y < 0) ∧ x.natAbs - y.natAbs = (x + y).natAbs := by
  have h2 : ¬ (x < 0 ↔ y < 0) := by simpa using h
  rw [sgn_of]
  constructor
  · by_cases hx : x < 0 <;> simp [hx] <;> omega
  · omega
theorem mul_sign {x y : Int} : ((decide (x < 0) != decide (y < 0)) && !(dg (x.natAbs * y.natAbs)).isEmpty) = decide (x * y < 0) ∧ x.natAbs * y.natAbs = (x * y).natAbs := by
  refine ⟨?_, (Int.natAbs_mul x y).symm⟩
  rw [dg_isEmpty]
  rcases Int.lt_trichotomy x 0 with hx | hx | hx <;> rcases Int.lt_trichotomy y 0 with hy | hy | hy
  · have := Int.mul_pos_of_neg_of_neg hx hy; simp [hx, hy]; omega
  · subst hy; simp
  · have := Int.mul_neg_of_neg_of_pos hx hy; have h1 : ¬ y < 0 := by omega
    have h0 : x ≠ 0 := by omega
    have h2 : y ≠ 0 := by omega
    simp [hx, h1, this, h0, h2]; exact Nat.mul_ne_zero (by omega) (by omega)
  · subst hx; simp
  · subst hx; simp
  · subst hx; simp
  · have := Int.mul_neg_of_pos_of_neg hx hy; have h1 : ¬ x < 0 := by omega
    have h0 : x ≠ 0 := by omega
    have h2 : y ≠ 0 := by omega
    simp [hy, h1, this, h0, h2]; exact Nat.mul_ne_zero (by omega) (by omega)
  · subst hy; simp
  · have := Int.mul_pos hx hy; have h1 : ¬ x < 0 := by omega
    have h2 : ¬ y < 0 := by omega
    simp [h1, h2]; omega
theorem neg_sign {z : Int} : ((!decide (z < 0)) && !(dg z.natAbs).isEmpty) = decide (-z < 0) ∧ z.natAbs = (-z).natAbs := by
  rw [sgn_of]
  refine ⟨?_, by omega⟩
  by_cases h : z < 0
  · simp [h]; omega
  · simp [h]
    by_cases h0 : z = 0
    · simp [h0]
    · have : 0 < z := by omega
      simp [h0, this]
/-- Below 0, 0, above 0. -/
def cmpZ (x y : Int) : Int := if x < y then -1 else if x = y then 0 else 1
theorem cmpZ_sub (x y : Int) : cmpZ (x - y) 0 = cmpZ x y := by unfold cmpZ; split <;> split <;> (try split) <;> (try split) <;> omega
theorem cmpZ_range (x y : Int) : -1 ≤ cmpZ x y ∧ cmpZ x y ≤ 1 := by unfold cmpZ; split <;> (try split) <;> omega
theorem cmpZ_far {x y : Int} (h : cmpZ x 0 ≠ cmpZ y 0) : max (-1) (min 1 (cmpZ x 0 - cmpZ y 0)) = cmpZ x y := by
  unfold cmpZ at *
  split at h <;> split at h <;> (try split at h) <;> (try split at h) <;> (try split) <;> (try split) <;> (try split) <;> (try split) <;> (try split) <;> (try split) <;> omega
theorem cmpZ_near {x y : Int} (h : cmpZ x 0 = cmpZ y 0) : cmpN x.natAbs y.natAbs * cmpZ x 0 = cmpZ x y := by
  unfold cmpZ at *
  unfold cmpN
  split at h <;> split at h <;> (try split at h) <;> (try split at h) <;> (try split) <;> (try split) <;> (try split) <;> (try split) <;> (try split) <;> (try split) <;> omega

set_option maxHeartbeats 400000 in
theorem intsCheck_c (w0 : World) (s : Bool) (v : Value) (l : List Int) {a b : Nat} (h : RN a b w0 v l) :
    Ret Tryz.prog 173 [.agg #[.bool s, v]] w0 (fun r w1 => Below w0.heap.size w0 w1 ∧ r = .bool (okI s l)) := by
  have E := Below.refl w0.heap.size w0
  refine Ret_of (n := 17) Tryz.func173 rfl rfl (Nat.le_of_ble_eq_true rfl) ?_
  refine W_seq ?_
  refine W_region rfl ?_
  refine S_box rfl rfl rfl (v := .agg #[.bool s, v]) (rfl) (cs := [(.bool s), v]) rfl ?_
  intro g1 w1 hg1 hs1 hB1 b1
  have hz1 := hB1.size
  have E := Below.step E hB1
  refine S_assign rfl rfl rfl (v := (.bool false)) (rfl) ?_
  refine OPS.nil ?_
  change WP _ _ _ _ _ _
  refine W_seq ?_
  refine W_region rfl ?_
  refine S_field ft_api_Int_1 rfl rfl rfl (g := g1) (o := 0) (rfl) (o' := 1) rfl ?_
  refine S_load rfl rfl rfl (rfl) (LD.blk1 ti_api_Nat b1 (v := v) rfl) ?_
  refine S_call en_nats_Check rfl rfl rfl (vs := [v]) (rfl) (natsCheck_c _ _ l (h.below E)) ?_
  rintro _ _ ⟨rfl, rfl⟩
  refine S_move rfl rfl rfl (v := (.bool (okL l))) (rfl) ?_
  rcases Bool.eq_false_or_eq_true (okL l) with pT | pF
  · skip
    rw [pT]
    refine S_field ft_api_Int_0 rfl rfl rfl (g := g1) (o := 0) (rfl) (o' := 0) rfl ?_
    refine S_load rfl rfl rfl (rfl) (LD.blk1 ti_bool b1 (v := (.bool s)) rfl) ?_
    refine S_not rfl rfl rfl (rfl) ?_
    refine S_move rfl rfl rfl (v := (.bool (!s))) (rfl) ?_
    rcases Bool.eq_false_or_eq_true (!s) with pTT | pTF
    · skip
      rw [pTT]
      refine S_skip (d := 11) (op := .fieldAddr _ _ _) (gd := some (7, false)) rfl (wg_off rfl (rfl) rfl) ?_
      refine S_skip (d := 12) (op := .load _ _) (gd := some (7, false)) rfl (wg_off rfl (rfl) rfl) ?_
      refine S_skip (d := 13) (op := .call _) (gd := some (7, false)) rfl (wg_off rfl (rfl) rfl) ?_
      refine S_skip (d := 14) (op := .binOp _ _ _ _ _) (gd := some (7, false)) rfl (wg_off rfl (rfl) rfl) ?_
      refine S_pick rfl rfl rfl rfl rfl (b := true) (rfl) (v := (.bool true)) (rfl) ?_
      refine S_pick rfl rfl rfl rfl rfl (b := true) (rfl) (v := (.bool true)) (rfl) ?_
      refine S_assign rfl rfl rfl (v := (.bool true)) (rfl) ?_
      refine OPS.nil ?_
      change WP _ _ _ _ _ _
      refine W_ret ?_
      change Fin' _ _ _ _ _ _
      refine End1 (n := ⟨17, []⟩) (t := 2) rfl (by decide) (v := (.bool true)) (rfl) ?_
      exact ⟨E, by rw [show okI s l = true by simp_all [okI]]⟩
    · skip
      rw [pTF]
      refine S_field ft_api_Int_1 rfl rfl rfl (g := g1) (o := 0) (rfl) (o' := 1) rfl ?_
      refine S_load rfl rfl rfl (rfl) (LD.blk1 ti_api_Nat b1 (v := v) rfl) ?_
      refine S_len Tryz.underlying23 rfl rfl rfl (rfl) (m := l.length) (h.len) ?_
      refine S_bin rfl rfl rfl rfl rfl (rfl) (rfl) (v := .bool (decide ((l.length : Int) > 0))) rfl ?_
      refine S_pick rfl rfl rfl rfl rfl (b := false) (rfl) (v := (.bool (decide ((l.length : Int) > 0)))) (rfl) ?_
      refine S_pick rfl rfl rfl rfl rfl (b := true) (rfl) (v := (.bool (decide ((l.length : Int) > 0)))) (rfl) ?_
      refine S_assign rfl rfl rfl (v := (.bool (decide ((l.length : Int) > 0)))) (rfl) ?_
      refine OPS.nil ?_
      change WP _ _ _ _ _ _
      refine W_ret ?_
      change Fin' _ _ _ _ _ _
      refine End1 (n := ⟨17, []⟩) (t := 2) rfl (by decide) (v := (.bool (decide ((l.length : Int) > 0)))) (rfl) ?_
      have hs : s = true := by simpa using pTF
      subst hs
      have h9 : decide ((l.length : Int) > 0) = okI true l := by unfold okI; rw [pT]; cases l <;> simp <;> omega
      exact ⟨E, congrArg Value.bool h9⟩
  · skip
    rw [pF]
    refine S_skip (d := 7) (op := .fieldAddr _ _ _) (gd := some (3, true)) rfl (wg_off rfl (rfl) rfl) ?_
    refine S_skip (d := 8) (op := .load _ _) (gd := some (3, true)) rfl (wg_off rfl (rfl) rfl) ?_
    refine S_skip (d := 9) (op := .unOp _ _ _) (gd := some (3, true)) rfl (wg_off rfl (rfl) rfl) ?_
    refine S_skip (d := 10) (op := .move _) (gd := some (3, true)) rfl (wg_off rfl (rfl) rfl) ?_
    refine S_skip (d := 11) (op := .fieldAddr _ _ _) (gd := some (7, false)) rfl (wg_undef rfl (rfl)) ?_
    refine S_skip (d := 12) (op := .load _ _) (gd := some (7, false)) rfl (wg_undef rfl (rfl)) ?_
    refine S_skip (d := 13) (op := .call _) (gd := some (7, false)) rfl (wg_undef rfl (rfl)) ?_
    refine S_skip (d := 14) (op := .binOp _ _ _ _ _) (gd := some (7, false)) rfl (wg_undef rfl (rfl)) ?_
    refine S_skip (d := 15) (op := .pick _ _ _) (gd := some (3, true)) rfl (wg_off rfl (rfl) rfl) ?_
    refine S_pick rfl rfl rfl rfl rfl (b := false) (rfl) (v := (.bool false)) (rfl) ?_
    refine S_assign rfl rfl rfl (v := (.bool false)) (rfl) ?_
    refine OPS.nil ?_
    change WP _ _ _ _ _ _
    refine W_ret ?_
    change Fin' _ _ _ _ _ _
    refine End1 (n := ⟨17, []⟩) (t := 2) rfl (by decide) (v := (.bool false)) (rfl) ?_
    exact ⟨E, by rw [show okI s l = false by simp [okI, pF]]⟩

set_option maxHeartbeats 400000 in
theorem ref02Check_c (w0 : World) (s : Bool) (v : Value) (l : List Int) {a b : Nat} (h : RN a b w0 v l) :
    Ret Tryz.prog 175 [.agg #[.bool s, v]] w0 (fun r w1 => Below w0.heap.size w0 w1 ∧ r = .bool (okI s l)) := by
  have E := Below.refl w0.heap.size w0
  refine Ret_of (n := 17) Tryz.func175 rfl rfl (Nat.le_of_ble_eq_true rfl) ?_
  refine W_seq ?_
  refine W_region rfl ?_
  refine S_box rfl rfl rfl (v := .agg #[.bool s, v]) (rfl) (cs := [(.bool s), v]) rfl ?_
  intro g1 w1 hg1 hs1 hB1 b1
  have hz1 := hB1.size
  have E := Below.step E hB1
  refine S_assign rfl rfl rfl (v := (.bool false)) (rfl) ?_
  refine OPS.nil ?_
  change WP _ _ _ _ _ _
  refine W_seq ?_
  refine W_region rfl ?_
  refine S_field ft_api_Int_1 rfl rfl rfl (g := g1) (o := 0) (rfl) (o' := 1) rfl ?_
  refine S_load rfl rfl rfl (rfl) (LD.blk1 ti_api_Nat b1 (v := v) rfl) ?_
  refine S_call en_assayerref01_Check rfl rfl rfl (vs := [v]) (rfl) (ref01Check_c _ _ l (h.below E)) ?_
  rintro _ _ ⟨rfl, rfl⟩
  refine S_move rfl rfl rfl (v := (.bool (okL l))) (rfl) ?_
  rcases Bool.eq_false_or_eq_true (okL l) with pT | pF
  · skip
    rw [pT]
    refine S_field ft_api_Int_0 rfl rfl rfl (g := g1) (o := 0) (rfl) (o' := 0) rfl ?_
    refine S_load rfl rfl rfl (rfl) (LD.blk1 ti_bool b1 (v := (.bool s)) rfl) ?_
    refine S_move rfl rfl rfl (v := (.bool s)) (rfl) ?_
    rcases Bool.eq_false_or_eq_true s with pTT | pTF
    · skip
      rw [pTT]
      refine S_field ft_api_Int_1 rfl rfl rfl (g := g1) (o := 0) (rfl) (o' := 1) rfl ?_
      refine S_load rfl rfl rfl (rfl) (LD.blk1 ti_api_Nat b1 (v := v) rfl) ?_
      refine S_len Tryz.underlying23 rfl rfl rfl (rfl) (m := l.length) (h.len) ?_
      refine S_bin rfl rfl rfl rfl rfl (rfl) (rfl) (v := .bool (((l.length : Int) == 0))) rfl ?_
      refine S_pick rfl rfl rfl rfl rfl (b := true) (rfl) (v := (.bool (((l.length : Int) == 0)))) (rfl) ?_
      refine S_not rfl rfl rfl (rfl) ?_
      refine S_pick rfl rfl rfl rfl rfl (b := true) (rfl) (v := (.bool (!(((l.length : Int) == 0))))) (rfl) ?_
      refine S_assign rfl rfl rfl (v := (.bool (!(((l.length : Int) == 0))))) (rfl) ?_
      refine OPS.nil ?_
      change WP _ _ _ _ _ _
      refine W_ret ?_
      change Fin' _ _ _ _ _ _
      refine End1 (n := ⟨17, []⟩) (t := 2) rfl (by decide) (v := (.bool (!(((l.length : Int) == 0))))) (rfl) ?_
      have h9 : (!((l.length : Int) == 0)) = okI true l := by unfold okI; rw [pT]; cases l <;> simp <;> omega
      exact ⟨E, congrArg Value.bool h9⟩
    · skip
      rw [pTF]
      refine S_skip (d := 10) (op := .fieldAddr _ _ _) (gd := some (6, true)) rfl (wg_off rfl (rfl) rfl) ?_
      refine S_skip (d := 11) (op := .load _ _) (gd := some (6, true)) rfl (wg_off rfl (rfl) rfl) ?_
      refine S_skip (d := 12) (op := .call _) (gd := some (6, true)) rfl (wg_off rfl (rfl) rfl) ?_
      refine S_skip (d := 13) (op := .binOp _ _ _ _ _) (gd := some (6, true)) rfl (wg_off rfl (rfl) rfl) ?_
      refine S_pick rfl rfl rfl rfl rfl (b := false) (rfl) (v := (.bool false)) (rfl) ?_
      refine S_not rfl rfl rfl (rfl) ?_
      change OPS _ _ _ _ _ (upd _ _ (.bool true)) _
      refine S_pick rfl rfl rfl rfl rfl (b := true) (rfl) (v := (.bool true)) (rfl) ?_
      refine S_assign rfl rfl rfl (v := (.bool true)) (rfl) ?_
      refine OPS.nil ?_
      change WP _ _ _ _ _ _
      refine W_ret ?_
      change Fin' _ _ _ _ _ _
      refine End1 (n := ⟨17, []⟩) (t := 2) rfl (by decide) (v := (.bool true)) (rfl) ?_
      exact ⟨E, by rw [show okI false l = true by simp_all [okI]]⟩
  · skip
    rw [pF]
    refine S_skip (d := 7) (op := .fieldAddr _ _ _) (gd := some (3, true)) rfl (wg_off rfl (rfl) rfl) ?_
    refine S_skip (d := 8) (op := .load _ _) (gd := some (3, true)) rfl (wg_off rfl (rfl) rfl) ?_
    refine S_skip (d := 9) (op := .move _) (gd := some (3, true)) rfl (wg_off rfl (rfl) rfl) ?_
    refine S_skip (d := 10) (op := .fieldAddr _ _ _) (gd := some (6, true)) rfl (wg_undef rfl (rfl)) ?_
    refine S_skip (d := 11) (op := .load _ _) (gd := some (6, true)) rfl (wg_undef rfl (rfl)) ?_
    refine S_skip (d := 12) (op := .call _) (gd := some (6, true)) rfl (wg_undef rfl (rfl)) ?_
    refine S_skip (d := 13) (op := .binOp _ _ _ _ _) (gd := some (6, true)) rfl (wg_undef rfl (rfl)) ?_
    refine S_skip (d := 14) (op := .pick _ _ _) (gd := some (3, true)) rfl (wg_off rfl (rfl) rfl) ?_
    refine S_skip (d := 15) (op := .unOp _ _ _) (gd := some (3, true)) rfl (wg_off rfl (rfl) rfl) ?_
    refine S_pick rfl rfl rfl rfl rfl (b := false) (rfl) (v := (.bool false)) (rfl) ?_
    refine S_assign rfl rfl rfl (v := (.bool false)) (rfl) ?_
    refine OPS.nil ?_
    change WP _ _ _ _ _ _
    refine W_ret ?_
    change Fin' _ _ _ _ _ _
    refine End1 (n := ⟨17, []⟩) (t := 2) rfl (by decide) (v := (.bool false)) (rfl) ?_
    exact ⟨E, by rw [show okI s l = false by simp [okI, pF]]⟩

set_option maxHeartbeats 400000 in
theorem intsof_c (w0 : World) (s : Bool) (v : Value) (l : List Int) {a b : Nat} (h : RN a b w0 v l) :
    Ret Tryz.prog 86 [.agg #[.bool s, v]] w0 (fun r w1 => Below w0.heap.size w0 w1 ∧ ∃ v', r = .agg #[.bool (decide (zv s l < 0)), v'] ∧ ∀ a b W, RN a b W v l → RN a b W v' (dg (zv s l).natAbs)) := by
  have E := Below.refl w0.heap.size w0
  obtain ⟨A_, c_, hv_, -, -⟩ := h.form
  refine Ret_of (n := 7) Tryz.func86 rfl rfl (Nat.le_of_ble_eq_true rfl) ?_
  refine W_seq ?_
  refine W_region rfl ?_
  refine S_box rfl rfl rfl (v := .agg #[.bool s, v]) (rfl) (cs := [(.bool s), v]) rfl ?_
  intro g1 w1 hg1 hs1 hB1 b1
  have hz1 := hB1.size
  have E := Below.step E hB1
  refine S_alloc ti_ints_whole rfl rfl (cs := [.bool false, .slice none 0 0]) rfl ?_
  intro g2 w2 hg2 hs2 hB2 b2
  have hz2 := hB2.size
  have E := Below.step E hB2
  have hl_b1 := b1.lt
  have b1 := b1.below hB2
  refine OPS.nil ?_
  change WP _ _ _ _ _ _
  refine W_seq ?_
  refine W_seq ?_
  refine W_region rfl ?_
  refine S_load rfl rfl rfl (rfl) (LD.blk ti_api_Int b1 (l := [(.bool s), v]) rfl rfl) ?_
  refine S_call en_ints_Check rfl rfl rfl (vs := [(.agg #[(.bool s), v])]) (rfl) (intsCheck_c _ s v l (h.below E)) ?_
  rintro _ w3 ⟨hB3, rfl⟩
  have hz3 := hB3.size
  have E := Below.step E hB3
  have hl_b1 := b1.lt
  have b1 := b1.below hB3
  have hl_b2 := b2.lt
  have b2 := b2.below hB3
  refine OPS.nil ?_
  change WP _ _ _ _ _ _
  refine W_cond rfl (rfl) (fun hq4 => ?_) (fun hq4 => ?_)
  · skip
    have pT := hq4
    skip
    try rw [pT]
    refine W_seq ?_
    refine W_region rfl ?_
    refine S_load rfl rfl rfl (rfl) (LD.blk ti_api_Int b1 (l := [(.bool s), v]) rfl rfl) ?_
    refine S_store ti_ints_whole rfl rfl rfl rfl (g := g2) (o := 0) (rfl) (v := (.agg #[(.bool s), v])) (rfl) (vs := [(.bool s), v]) rfl rfl (one2 (rfl) (h.one_)) b2 (by simp) (cs' := [(.bool s), v]) rfl ?_
    intro w4 hU4 b2
    have E := Below.stepU E hU4 (by omega)
    have b1 := b1.upd hU4 (by omega)
    have hz4 := hU4.size
    refine OPS.nil ?_
    change WP _ _ _ _ _ _
    refine W_ret ?_
    change Fin' _ _ _ _ _ _
    refine EndC (n := ⟨7, []⟩) (t := 2) rfl (by decide) (rfl) (LD.blk ti_ints_whole b2 (l := [(.bool s), v]) rfl rfl) ?_
    have h9 : okI s l = true := by simpa using pT
    have h8 := zv_ok h9 h.u32
    refine ⟨E, v, ?_, fun a b W h => by rw [← h8.2]; exact h⟩
    rw [← h8.1]
  · skip
    have pF := hq4
    skip
    try rw [pF]
    refine W_skip ?_
    change WP _ _ _ _ _ _
    refine W_seq ?_
    refine W_region rfl ?_
    refine S_build rfl rfl rfl (cs := [.bool false, .slice none 0 0]) (by kernel_rfl) ?_
    refine S_store ti_ints_whole rfl rfl rfl rfl (g := g2) (o := 0) (rfl) (v := (.agg #[.bool false, .slice none 0 0])) (rfl) (vs := [.bool false, .slice none 0 0]) rfl rfl (by simp [Value.oneCell']) b2 (by simp) (cs' := [.bool false, .slice none 0 0]) rfl ?_
    intro w5 hU5 b2
    have E := Below.stepU E hU5 (by omega)
    have b1 := b1.upd hU5 (by omega)
    have hz5 := hU5.size
    refine OPS.nil ?_
    change WP _ _ _ _ _ _
    refine W_ret ?_
    change Fin' _ _ _ _ _ _
    refine EndC (n := ⟨7, []⟩) (t := 2) rfl (by decide) (rfl) (LD.blk ti_ints_whole b2 (l := [.bool false, .slice none 0 0]) rfl rfl) ?_
    have h9 : okI s l = false := by simpa using pF
    have h8 := zv_not h9
    rw [h8]
    exact ⟨E, .slice none 0 0, rfl, fun a b W h => by rw [show (0 : Int).natAbs = 0 from rfl, dg_zero]; exact RN.nil _ _ _⟩

set_option maxHeartbeats 400000 in
theorem ref02Fit_c (w0 : World) (s : Bool) (v : Value) (l : List Int) {a b : Nat} (h : RN a b w0 v l) :
    Ret Tryz.prog 94 [.agg #[.bool s, v]] w0 (fun r w1 => Below w0.heap.size w0 w1 ∧ ∃ v', r = .agg #[.bool (decide (zv s l < 0)), v'] ∧ ∀ a b W, RN a b W v l → RN a b W v' (dg (zv s l).natAbs)) := by
  have E := Below.refl w0.heap.size w0
  obtain ⟨A_, c_, hv_, -, -⟩ := h.form
  refine Ret_of (n := 8) Tryz.func94 rfl rfl (Nat.le_of_ble_eq_true rfl) ?_
  refine W_seq ?_
  refine W_region rfl ?_
  refine S_box rfl rfl rfl (v := .agg #[.bool s, v]) (rfl) (cs := [(.bool s), v]) rfl ?_
  intro g1 w1 hg1 hs1 hB1 b1
  have hz1 := hB1.size
  have E := Below.step E hB1
  refine S_alloc ti_api_Int rfl rfl (cs := [.bool false, .slice none 0 0]) rfl ?_
  intro g2 w2 hg2 hs2 hB2 b2
  have hz2 := hB2.size
  have E := Below.step E hB2
  have hl_b1 := b1.lt
  have b1 := b1.below hB2
  refine OPS.nil ?_
  change WP _ _ _ _ _ _
  refine W_seq ?_
  refine W_seq ?_
  refine W_region rfl ?_
  refine S_load rfl rfl rfl (rfl) (LD.blk ti_api_Int b1 (l := [(.bool s), v]) rfl rfl) ?_
  refine S_call en_assayerref02_Check rfl rfl rfl (vs := [(.agg #[(.bool s), v])]) (rfl) (ref02Check_c _ s v l (h.below E)) ?_
  rintro _ w3 ⟨hB3, rfl⟩
  have hz3 := hB3.size
  have E := Below.step E hB3
  have hl_b1 := b1.lt
  have b1 := b1.below hB3
  have hl_b2 := b2.lt
  have b2 := b2.below hB3
  refine S_not rfl rfl rfl (rfl) ?_
  refine OPS.nil ?_
  change WP _ _ _ _ _ _
  refine W_cond rfl (rfl) (fun hq5 => ?_) (fun hq5 => ?_)
  · skip
    have pT := hq5
    skip
    try rw [pT]
    refine W_seq ?_
    refine W_region rfl ?_
    refine S_build rfl rfl rfl (cs := [.bool false, .slice none 0 0]) (by kernel_rfl) ?_
    refine S_store ti_api_Int rfl rfl rfl rfl (g := g2) (o := 0) (rfl) (v := (.agg #[.bool false, .slice none 0 0])) (rfl) (vs := [.bool false, .slice none 0 0]) rfl rfl (by simp [Value.oneCell']) b2 (by simp) (cs' := [.bool false, .slice none 0 0]) rfl ?_
    intro w4 hU4 b2
    have E := Below.stepU E hU4 (by omega)
    have b1 := b1.upd hU4 (by omega)
    have hz4 := hU4.size
    refine OPS.nil ?_
    change WP _ _ _ _ _ _
    refine W_ret ?_
    change Fin' _ _ _ _ _ _
    refine EndC (n := ⟨8, []⟩) (t := 2) rfl (by decide) (rfl) (LD.blk ti_api_Int b2 (l := [.bool false, .slice none 0 0]) rfl rfl) ?_
    have h9 : okI s l = false := by simpa using pT
    have h8 := zv_not h9
    rw [h8]
    exact ⟨E, .slice none 0 0, rfl, fun a b W h => by rw [show (0 : Int).natAbs = 0 from rfl, dg_zero]; exact RN.nil _ _ _⟩
  · skip
    have pF := hq5
    skip
    try rw [pF]
    refine W_skip ?_
    change WP _ _ _ _ _ _
    refine W_seq ?_
    refine W_region rfl ?_
    refine S_load rfl rfl rfl (rfl) (LD.blk ti_api_Int b1 (l := [(.bool s), v]) rfl rfl) ?_
    refine S_store ti_api_Int rfl rfl rfl rfl (g := g2) (o := 0) (rfl) (v := (.agg #[(.bool s), v])) (rfl) (vs := [(.bool s), v]) rfl rfl (one2 (rfl) (h.one_)) b2 (by simp) (cs' := [(.bool s), v]) rfl ?_
    intro w5 hU5 b2
    have E := Below.stepU E hU5 (by omega)
    have b1 := b1.upd hU5 (by omega)
    have hz5 := hU5.size
    refine OPS.nil ?_
    change WP _ _ _ _ _ _
    refine W_ret ?_
    change Fin' _ _ _ _ _ _
    refine EndC (n := ⟨8, []⟩) (t := 2) rfl (by decide) (rfl) (LD.blk ti_api_Int b2 (l := [(.bool s), v]) rfl rfl) ?_
    have h9 : okI s l = true := by simpa using pF
    have h8 := zv_ok h9 h.u32
    refine ⟨E, v, ?_, fun a b W h => by rw [← h8.2]; exact h⟩
    rw [← h8.1]

end Go.Proofs.YtccmicegihlfbaaGreatDoor
