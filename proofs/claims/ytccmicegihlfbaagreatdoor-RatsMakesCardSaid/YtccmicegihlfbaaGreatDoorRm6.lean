import Derived.Test.YtccmicegihlfbaaGreatDoorRm5
set_option linter.unusedVariables false
set_option linter.unusedSimpArgs false

/- Quotients and greatest common measures. -/
namespace Go.Proofs.YtccmicegihlfbaaGreatDoor
open Go.RowKit


theorem divE_dg {x y : Nat} (h : (dg y).length ≠ 0) : divE (dg x) (dg y) = 0 := by
  unfold divE
  rw [okL_dg, okL_dg]
  exact (if_pos rfl).trans (if_neg h)
theorem dg_len0 {y : Nat} : (dg y).length = 0 ↔ y = 0 := by
  rw [List.length_eq_zero_iff, dg_eq_nil]
theorem fine_len {l : List Int} (h : (fineL l).length = 0) : nv l = 0 := by
  unfold nv; rw [List.eq_nil_of_length_eq_zero h, val_nil]
theorem fine_pos {l : List Int} (hu : U32 l) (h : (fineL l).length ≠ 0) : 0 < val (fineL l) :=
  val_pos_of_ok (U32_fine hu) (okL_fine l) (fun e => h (by rw [e]; rfl))
theorem lz_norm {t s : Nat} (h1 : 1 ≤ t) (h2 : t < 4294967296) (hs : s + len32 t = 32) : t * 2 ^ s < 4294967296 ∧ 2147483648 ≤ t * 2 ^ s ∧ s < 32 := by
  obtain ⟨a1, a2, a3⟩ := len32_spec (x := t) (by omega)
  have hp : 0 < 2 ^ s := Nat.pow_pos (by decide)
  have e1 : 2 ^ len32 t * 2 ^ s = 4294967296 := by rw [← Nat.pow_add, show len32 t + s = 32 by omega]
  have e2 : 2 ^ (len32 t - 1) * 2 ^ s = 2147483648 := by rw [← Nat.pow_add, show len32 t - 1 + s = 31 by omega]
  have b1 := Nat.mul_lt_mul_of_pos_right a2 hp
  have b2 := Nat.mul_le_mul_right (2 ^ s) a1
  exact ⟨by omega, by omega, by omega⟩

set_option maxHeartbeats 400000 in
theorem ref01Gcd_c (w0 : World) (va vb : Value) (la lb : List Int) {a b a2 b2 : Nat} (ha : RN a b w0 va la) (hb : RN a2 b2 w0 vb lb) (hsa : la.length ≤ SZ) (hsb : lb.length ≤ SZ) :
    Ret Tryz.prog 45 [va, vb] w0 (fun r w1 => Below w0.heap.size w0 w1 ∧ ON w0.heap.size w1 r (dg (Nat.gcd (nv la) (nv lb)))) := by
 have E := Below.refl w0.heap.size w0
 have hfa := ha.fine
 have hfb := hb.fine
 have hf1 := fineL_length la
 have hf2 := fineL_length lb
 refine Ret_of (n := 27) Tryz.func45 rfl rfl (Nat.le_of_ble_eq_true rfl) ?_
 refine W_seq ?_
 refine W_region rfl ?_
 refine S_assign rfl rfl rfl (v := (.slice none 0 0)) (rfl) ?_
 refine OPS.nil ?_
 change WP _ _ _ _ _ _
 refine W_seq ?_
 refine W_region rfl ?_
 refine S_move rfl rfl rfl (v := va) (rfl) ?_
 refine S_call en_assayerref01_fit rfl rfl rfl (vs := [va]) (rfl) (ref01Fit_c w0 va la ha) ?_
 rintro _ _ ⟨rfl, rfl⟩
 refine S_call en_assayerref01_Twin rfl rfl rfl (vs := [(if okL la then va else .slice none 0 0)]) (rfl) (ref01Twin_c _ _ (fineL la) (hfa.below E) (by omega)) ?_
 rintro vh1 w1 ⟨hB1, h1⟩
 have hz1 := hB1.size
 have E := Below.step E hB1
 refine S_assign rfl rfl rfl (v := vh1) (rfl) ?_
 refine OPS.nil ?_
 change WP _ _ _ _ _ _
 refine W_seq ?_
 refine W_region rfl ?_
 refine S_move rfl rfl rfl (v := vb) (rfl) ?_
 refine S_call en_assayerref01_fit rfl rfl rfl (vs := [vb]) (rfl) (ref01Fit_c _ vb lb (hb.below E)) ?_
 rintro _ _ ⟨rfl, rfl⟩
 refine S_call en_assayerref01_Twin rfl rfl rfl (vs := [(if okL lb then vb else .slice none 0 0)]) (rfl) (ref01Twin_c _ _ (fineL lb) (hfb.below E) (by omega)) ?_
 rintro vh2 w2 ⟨hB2, h2⟩
 have hz2 := hB2.size
 have E := Below.step E hB2
 have h1 := h1.below hB2
 have h1 := h1.mono (show w0.heap.size ≤ _ by omega)
 have h2 := h2.mono (show w0.heap.size ≤ _ by omega)
 rw [← dg_nv ha.u32] at h1
 rw [← dg_nv hb.u32] at h2
 have hz9 := E.size
 refine S_assign rfl rfl rfl (v := vh2) (rfl) ?_
 refine OPS.nil ?_
 change WP _ _ _ _ _ _
 refine W_seq ?_
 refine W_block ?_
 refine W_loop (fun k σ w => ∃ (vx vy : Value) (X : Nat), σ 0 = vx ∧ σ 1 = vy ∧ ON w0.heap.size w vx (dg X) ∧ ON w0.heap.size w vy (dg k) ∧ Nat.gcd X k = Nat.gcd (nv la) (nv lb) ∧ (dg X).length ≤ SZ ∧ (dg k).length ≤ SZ ∧ Below w0.heap.size w0 w) (nv lb) ⟨_, _, nv la, rfl, rfl, h1, h2, rfl, by rw [dg_nv ha.u32]; omega, by rw [dg_nv hb.u32]; omega, E⟩ ?_
 rintro k σ w ⟨vx, vy, X, s0, s1, h1, h2, hg, hlx, hly, E⟩
 have hz0 := E.size
 refine W_seq ?_
 refine W_seq ?_
 refine W_region rfl ?_
 refine S_move rfl rfl rfl (v := vy) (s1) ?_
 refine S_len Tryz.underlying23 rfl rfl rfl (rfl) (m := (dg k).length) (h2.r.len) ?_
 refine S_bin rfl rfl rfl rfl rfl (rfl) (rfl) (v := .bool (decide (((dg k).length : Int) > 0))) rfl ?_
 refine OPS.nil ?_
 change WP _ _ _ _ _ _
 refine W_cond rfl (rfl) (fun hq16 => ?_) (fun hq16 => ?_)
 ·skip
  have pT := hq16
  replace hq16 := of_decide_eq_true hq16
  have qT := hq16
  try rw [pT]
  refine W_skip ?_
  change WP _ _ _ _ _ _
  refine W_block ?_
  refine W_seq ?_
  refine W_region rfl ?_
  have dv0 : divE (dg X) (dg k) = 0 := divE_dg (by omega)
  refine S_move rfl rfl rfl (v := vx) (s0) ?_
  refine S_move rfl rfl rfl (v := vy) (s1) ?_
  refine S_call en_assayerref01_Div rfl rfl rfl (vs := [vx, vy]) (rfl) (ref01Div_c _ _ _ (dg X) (dg k) h1.r h2.r hlx hly) ?_
  rintro _ w3 ⟨hB3, vq, vr, rfl, d1, d2⟩
  have hz3 := hB3.size
  have E := Below.step E hB3
  have h1 := h1.below hB3
  have h2 := h2.below hB3
  refine S_move rfl rfl rfl (v := (.tuple #[vq, vr, .int .i64 (divE (dg X) (dg k))])) (rfl) ?_
  refine S_extract rfl rfl rfl (rfl) rfl ?_
  refine S_extract rfl rfl rfl (rfl) rfl ?_
  refine S_extract rfl rfl rfl (rfl) rfl ?_
  refine S_assign rfl rfl rfl (v := vq) (rfl) ?_
  refine S_assign rfl rfl rfl (v := vr) (rfl) ?_
  refine S_assign rfl rfl rfl (v := (.int .i64 (divE (dg X) (dg k)))) (rfl) ?_
  refine OPS.nil ?_
  change WP _ _ _ _ _ _
  refine W_seq ?_
  refine W_region rfl ?_
  refine S_move rfl rfl rfl (v := vy) (s1) ?_
  refine S_assign rfl rfl rfl (v := vy) (rfl) ?_
  refine OPS.nil ?_
  change WP _ _ _ _ _ _
  refine W_region rfl ?_
  refine S_move rfl rfl rfl (v := vr) (rfl) ?_
  refine S_assign rfl rfl rfl (v := vr) (rfl) ?_
  refine OPS.nil ?_
  have hk : 0 < k := Nat.pos_of_ne_zero (fun h => by have := dg_len0.2 h; omega)
  have hml := Nat.mod_lt X hk
  rw [dv0, if_pos rfl, val_dg, val_dg] at d2
  exact ⟨X % k, hml, _, _, k, rfl, rfl, h2, d2.mono (by omega), by rw [Nat.gcd_comm, ← Nat.gcd_rec, Nat.gcd_comm]; exact hg, hly, Nat.le_trans (dg_length_mono (Nat.le_of_lt hml)) hly, E⟩
 ·skip
  have pF := hq16
  replace hq16 := of_decide_eq_false hq16
  have qF := hq16
  try rw [pF]
  refine W_exit ?_
  change WP _ _ _ _ _ _
  refine W_seq ?_
  refine W_region rfl ?_
  refine S_move rfl rfl rfl (v := vx) (s0) ?_
  refine S_assign rfl rfl rfl (v := vx) (rfl) ?_
  refine OPS.nil ?_
  change WP _ _ _ _ _ _
  refine W_ret ?_
  change Fin' _ _ _ _ _ _
  refine End1 (n := ⟨27, []⟩) (t := 4) rfl (by decide) (v := vx) (rfl) ?_
  have hk : k = 0 := dg_len0.1 (by omega)
  subst hk
  rw [Nat.gcd_zero_right] at hg
  exact ⟨E, hg ▸ h1⟩

set_option maxHeartbeats 1000000 in
theorem natsDiv_c (w0 : World) (va vb : Value) (la lb : List Int) {a b a2 b2 : Nat} (ha : RN a b w0 va la) (hb : RN a2 b2 w0 vb lb) (hsa : la.length < SZ) (hsb : lb.length ≤ SZ) :
    Ret Tryz.prog 41 [va, vb] w0 (fun r w1 => Below w0.heap.size w0 w1 ∧ ∃ v1 v2, r = .tuple #[v1, v2, .int .i64 (divE la lb)] ∧ ON w0.heap.size w1 v1 (if divE la lb = 0 then dg (val la / val lb) else []) ∧ ON w0.heap.size w1 v2 (if divE la lb = 0 then dg (val la % val lb) else []) ∧ ∃ K, (∀ g, bk v1 = some g → g < K) ∧ ∀ g, bk v2 = some g → K ≤ g) := by
 have E := Below.refl w0.heap.size w0
 have hmb := hb.maxl
 have hsa1 : la.length ≤ SZ := Nat.le_of_lt hsa
 refine Ret_of (n := 68) Tryz.func41 rfl rfl (Nat.le_of_ble_eq_true rfl) ?_
 refine W_seq ?_
 refine W_region rfl ?_
 refine S_assign rfl rfl rfl (v := (.slice none 0 0)) (rfl) ?_
 refine S_assign rfl rfl rfl (v := (.slice none 0 0)) (rfl) ?_
 refine S_assign rfl rfl rfl (v := (.int .i64 0)) (rfl) ?_
 refine OPS.nil ?_
 change WP _ _ _ _ _ _
 refine W_seq ?_
 refine W_block ?_
 refine W_seq ?_
 refine W_region rfl ?_
 refine S_move rfl rfl rfl (v := va) (rfl) ?_
 refine S_call en_nats_Check rfl rfl rfl (vs := [va]) (rfl) (natsCheck_c _ _ la ha) ?_
 rintro _ _ ⟨rfl, rfl⟩
 refine S_not rfl rfl rfl (rfl) ?_
 refine S_move rfl rfl rfl (v := (.bool (!(okL la)))) (rfl) ?_
 rcases Bool.eq_false_or_eq_true (!(okL la)) with pT | pF
 ·skip
  rw [pT]
  refine S_skip (d := 15) (op := .move _) (gd := some (3, false)) rfl (wg_off rfl (rfl) rfl) ?_
  refine S_skip (d := 16) (op := .call _) (gd := some (3, false)) rfl (wg_off rfl (rfl) rfl) ?_
  refine S_skip (d := 17) (op := .unOp _ _ _) (gd := some (3, false)) rfl (wg_off rfl (rfl) rfl) ?_
  refine S_pick rfl rfl rfl rfl rfl (b := true) (rfl) (v := (.bool true)) (rfl) ?_
  refine S_assign rfl rfl rfl (v := (.bool true)) (rfl) ?_
  refine OPS.nil ?_
  change WP _ _ _ _ _ _
  refine W_cond rfl (b := true) (rfl) (fun _ => ?_) (fun h => (by cases h))
  refine W_seq ?_
  refine W_region rfl ?_
  refine S_assign rfl rfl rfl (v := (.slice none 0 0)) (rfl) ?_
  refine S_assign rfl rfl rfl (v := (.slice none 0 0)) (rfl) ?_
  refine S_assign rfl rfl rfl (v := (.int .i64 1)) (rfl) ?_
  refine OPS.nil ?_
  change WP _ _ _ _ _ _
  refine W_ret ?_
  change Fin' _ _ _ _ _ _
  refine End3 (n := ⟨68, []⟩) (t := 4) (u := 5) (s := 6) rfl (by decide) (by decide) (by decide) (rfl) (rfl) (rfl) ?_
  have hs : divE la lb = 1 := by simp_all [divE]
  exact ⟨E, _, _, congrArg (fun z => Value.tuple #[_, _, .int .i64 z]) hs.symm, by rw [hs]; exact ON.nil _ _, by rw [hs]; exact ON.nil _ _, ⟨0, fun g hg => (nomatch (show (none : Option Nat) = some g from hg)), fun g _ => Nat.zero_le g⟩⟩
 ·skip
  rw [pF]
  refine S_move rfl rfl rfl (v := vb) (rfl) ?_
  refine S_call en_nats_Check rfl rfl rfl (vs := [vb]) (rfl) (natsCheck_c _ _ lb hb) ?_
  rintro _ _ ⟨rfl, rfl⟩
  refine S_not rfl rfl rfl (rfl) ?_
  refine S_pick rfl rfl rfl rfl rfl (b := false) (rfl) (v := (.bool (!(okL lb)))) (rfl) ?_
  refine S_assign rfl rfl rfl (v := (.bool (!(okL lb)))) (rfl) ?_
  refine OPS.nil ?_
  change WP _ _ _ _ _ _
  refine W_cond rfl (rfl) (fun hq10 => ?_) (fun hq10 => ?_)
  ·skip
   have pFT := hq10
   skip
   try rw [pFT]
   refine W_seq ?_
   refine W_region rfl ?_
   refine S_assign rfl rfl rfl (v := (.slice none 0 0)) (rfl) ?_
   refine S_assign rfl rfl rfl (v := (.slice none 0 0)) (rfl) ?_
   refine S_assign rfl rfl rfl (v := (.int .i64 1)) (rfl) ?_
   refine OPS.nil ?_
   change WP _ _ _ _ _ _
   refine W_ret ?_
   change Fin' _ _ _ _ _ _
   refine End3 (n := ⟨68, []⟩) (t := 4) (u := 5) (s := 6) rfl (by decide) (by decide) (by decide) (rfl) (rfl) (rfl) ?_
   have hs : divE la lb = 1 := by simp_all [divE]
   exact ⟨E, _, _, congrArg (fun z => Value.tuple #[_, _, .int .i64 z]) hs.symm, by rw [hs]; exact ON.nil _ _, by rw [hs]; exact ON.nil _ _, ⟨0, fun g hg => (nomatch (show (none : Option Nat) = some g from hg)), fun g _ => Nat.zero_le g⟩⟩
  ·skip
   have pFF := hq10
   skip
   have hka : okL la = true := by simpa using pF
   have hkb : okL lb = true := by simpa using pFF
   try rw [pFF]
   refine W_seq ?_
   refine W_region rfl ?_
   refine S_move rfl rfl rfl (v := vb) (rfl) ?_
   refine S_len Tryz.underlying23 rfl rfl rfl (rfl) (m := lb.length) (hb.len) ?_
   refine S_bin rfl rfl rfl rfl rfl (rfl) (rfl) (v := .bool (((lb.length : Int) == 0))) rfl ?_
   refine S_assign rfl rfl rfl (v := (.bool (((lb.length : Int) == 0)))) (rfl) ?_
   refine OPS.nil ?_
   change WP _ _ _ _ _ _
   refine W_cond rfl (rfl) (fun hq19 => ?_) (fun hq19 => ?_)
   ·skip
    have pFFT := hq19
    replace hq19 := eq_of_beq hq19
    have qFFT := hq19
    try rw [pFFT]
    refine W_seq ?_
    refine W_region rfl ?_
    refine S_assign rfl rfl rfl (v := (.slice none 0 0)) (rfl) ?_
    refine S_assign rfl rfl rfl (v := (.slice none 0 0)) (rfl) ?_
    refine S_assign rfl rfl rfl (v := (.int .i64 10)) (rfl) ?_
    refine OPS.nil ?_
    change WP _ _ _ _ _ _
    refine W_ret ?_
    change Fin' _ _ _ _ _ _
    refine End3 (n := ⟨68, []⟩) (t := 4) (u := 5) (s := 6) rfl (by decide) (by decide) (by decide) (rfl) (rfl) (rfl) ?_
    have hs : divE la lb = 10 := by unfold divE; rw [hka, hkb]; exact (if_pos rfl).trans (if_pos (by omega))
    exact ⟨E, _, _, congrArg (fun z => Value.tuple #[_, _, .int .i64 z]) hs.symm, by rw [hs]; exact ON.nil _ _, by rw [hs]; exact ON.nil _ _, ⟨0, fun g hg => (nomatch (show (none : Option Nat) = some g from hg)), fun g _ => Nat.zero_le g⟩⟩
   ·skip
    have pFFF := hq19
    replace hq19 := ne_of_beq_false hq19
    have qFFF := hq19
    try rw [pFFF]
    refine W_seq ?_
    refine W_region rfl ?_
    refine S_move rfl rfl rfl (v := va) (rfl) ?_
    refine S_move rfl rfl rfl (v := vb) (rfl) ?_
    refine S_call en_nats_Cmp rfl rfl rfl (vs := [va, vb]) (rfl) (natsCmp_c _ _ _ la lb (ha.below E) (hb.below E)) ?_
    rintro _ w1 ⟨hB1, rfl⟩
    have hz1 := hB1.size
    have E := Below.step E hB1
    refine S_bin rfl rfl rfl rfl rfl (rfl) (rfl) (v := .bool (decide ((cmpN (nv la) (nv lb)) < 0))) rfl ?_
    refine S_assign rfl rfl rfl (v := (.bool (decide ((cmpN (nv la) (nv lb)) < 0)))) (rfl) ?_
    refine OPS.nil ?_
    change WP _ _ _ _ _ _
    refine W_cond rfl (rfl) (fun hq23 => ?_) (fun hq23 => ?_)
    ·skip
     have pFFFT := hq23
     replace hq23 := of_decide_eq_true hq23
     have qFFFT := hq23
     try rw [pFFFT]
     refine W_seq ?_
     refine W_region rfl ?_
     refine S_move rfl rfl rfl (v := va) (rfl) ?_
     refine S_call en_slices_Clone_api_Nat_uint32 rfl rfl rfl (vs := [va]) (rfl) (natsClone_c _ _ la (ha.below E) hsa1) ?_
     rintro vh1 w2 ⟨hB2, h1⟩
     have hz2 := hB2.size
     have E := Below.step E hB2
     refine S_assign rfl rfl rfl (v := (.slice none 0 0)) (rfl) ?_
     refine S_assign rfl rfl rfl (v := vh1) (rfl) ?_
     refine S_assign rfl rfl rfl (v := (.int .i64 0)) (rfl) ?_
     refine OPS.nil ?_
     change WP _ _ _ _ _ _
     refine W_ret ?_
     change Fin' _ _ _ _ _ _
     refine End3 (n := ⟨68, []⟩) (t := 4) (u := 5) (s := 6) rfl (by decide) (by decide) (by decide) (rfl) (rfl) (rfl) ?_
     have hs : divE la lb = 0 := by unfold divE; rw [hka, hkb]; exact (if_pos rfl).trans (if_neg (by omega))
     have hlt := cmpN_lt0.1 qFFFT
     rw [nv_ok hka, nv_ok hkb] at hlt
     refine ⟨E, _, _, congrArg (fun z => Value.tuple #[_, _, .int .i64 z]) hs.symm, ?_, ?_, ⟨0, fun g hg => (nomatch (show (none : Option Nat) = some g from hg)), fun g _ => Nat.zero_le g⟩⟩
     · rw [hs, Nat.div_eq_of_lt hlt, dg_zero]; exact ON.nil _ _
     · rw [hs, Nat.mod_eq_of_lt hlt, dg_val ha.u32 hka]; exact h1.mono (by omega)
    ·skip
     have pFFFF := hq23
     replace hq23 := of_decide_eq_false hq23
     have qFFFF := hq23
     have hle : val lb ≤ val la := by
       have := mt cmpN_lt0.2 qFFFF
       rw [nv_ok hka, nv_ok hkb] at this
       omega
     have hlbp : 0 < lb.length := by have := qFFF; omega
     have hbp := val_pos_of_ok hb.u32 hkb (by intro h; subst h; simp at hlbp)
     try rw [pFFFF]
     refine W_seq ?_
     refine W_region rfl ?_
     refine S_move rfl rfl rfl (v := vb) (rfl) ?_
     refine S_len Tryz.underlying23 rfl rfl rfl (rfl) (m := lb.length) (hb.len) ?_
     refine S_bin rfl rfl rfl rfl rfl (rfl) (rfl) (v := .bool (((lb.length : Int) == 1))) rfl ?_
     refine S_assign rfl rfl rfl (v := (.bool (((lb.length : Int) == 1)))) (rfl) ?_
     refine OPS.nil ?_
     change WP _ _ _ _ _ _
     refine W_cond rfl (rfl) (fun hq30 => ?_) (fun hq30 => ?_)
     ·skip
      have pFFFFT := hq30
      replace hq30 := eq_of_beq hq30
      have qFFFFT := hq30
      have hl1 : lb.length = 1 := by have := qFFFFT; omega
      have hyp := ok_last hb.u32 hkb (m := 0) hl1
      have hyl := hb.u32.getD 0
      try rw [pFFFFT]
      refine W_seq ?_
      refine W_region rfl ?_
      refine S_move rfl rfl rfl (v := va) (rfl) ?_
      refine S_move rfl rfl rfl (v := vb) (rfl) ?_
      obtain ⟨ad1, hp3, hc2⟩ := (hb.below E).at 0 (by omega)
      refine S_idx Tryz.underlying23 ti_uint32 rfl rfl rfl rfl (rfl) (rfl) hp3 (by omega) ?_
      refine S_load rfl rfl rfl (rfl) (LD.one ti_uint32 hc2) ?_
      refine S_call en_nats_short rfl rfl rfl (vs := [va, (.int .u32 (lb.getD 0 0))]) (rfl) (natsShort_c _ _ la (lb.getD 0 0) (ha.below E) hsa1 ⟨by omega, by omega⟩) ?_
      rintro _ w3 ⟨hB3, v1, rfl, h1⟩
      have hz3 := hB3.size
      have E := Below.step E hB3
      have hml := Nat.mod_lt (val la) (show 0 < (lb.getD 0 0).toNat by omega)
      have hsz1 := E.size
      have hkq := h1.bkB
      refine S_move rfl rfl rfl (v := (.tuple #[v1, .int .u32 ((val la % (lb.getD 0 0).toNat : Nat) : Int)])) (rfl) ?_
      refine S_extract rfl rfl rfl (rfl) rfl ?_
      refine S_extract rfl rfl rfl (rfl) rfl ?_
      refine S_assign rfl rfl rfl (v := v1) (rfl) ?_
      refine S_assign rfl rfl rfl (v := (.int .u32 ((val la % (lb.getD 0 0).toNat : Nat) : Int))) (rfl) ?_
      refine OPS.nil ?_
      change WP _ _ _ _ _ _
      refine W_seq ?_
      refine W_region rfl ?_
      refine S_move rfl rfl rfl (v := v1) (rfl) ?_
      refine S_move rfl rfl rfl (v := (.int .u32 ((val la % (lb.getD 0 0).toNat : Nat) : Int))) (rfl) ?_
      refine S_conv Tryz.underlying106 Tryz.underlying124 rfl rfl rfl (rfl) (b := ((val la % (lb.getD 0 0).toNat : Nat) : Int)) (wrap_u64 (by omega) (by omega)) ?_
      refine S_call en_nats_Of rfl rfl rfl (vs := [(.int .u64 ((val la % (lb.getD 0 0).toNat : Nat) : Int))]) (rfl) (natsOf_c _ ((val la % (lb.getD 0 0).toNat : Nat) : Int) ⟨by omega, by omega⟩) ?_
      rintro vh2 w4 ⟨hB4, h2⟩
      have hz4 := hB4.size
      have E := Below.step E hB4
      have h1 := h1.below hB4
      rw [Int.toNat_natCast] at h2
      refine S_assign rfl rfl rfl (v := v1) (rfl) ?_
      refine S_assign rfl rfl rfl (v := vh2) (rfl) ?_
      refine S_assign rfl rfl rfl (v := (.int .i64 0)) (rfl) ?_
      refine OPS.nil ?_
      change WP _ _ _ _ _ _
      refine W_ret ?_
      change Fin' _ _ _ _ _ _
      refine End3 (n := ⟨68, []⟩) (t := 4) (u := 5) (s := 6) rfl (by decide) (by decide) (by decide) (rfl) (rfl) (rfl) ?_
      have hs : divE la lb = 0 := by unfold divE; rw [hka, hkb]; exact (if_pos rfl).trans (if_neg (by omega))
      have hy : (lb.getD 0 0).toNat = val lb := (val_one (l := lb) hl1).symm
      refine ⟨E, _, _, congrArg (fun z => Value.tuple #[_, _, .int .i64 z]) hs.symm, ?_, ?_, ⟨_, fun g hg => (hkq g hg).2, fun g hg => (h2.bkB g hg).1⟩⟩
      · rw [hs, ← hy]; exact h1.mono (by omega)
      · rw [hs, ← hy]; exact h2.mono (by omega)
     ·skip
      have pFFFFF := hq30
      replace hq30 := ne_of_beq_false hq30
      have qFFFFF := hq30
      obtain ⟨n, hn⟩ : ∃ n, lb.length = n + 1 := ⟨lb.length - 1, by omega⟩
      have hn1 : 1 ≤ n := by have := qFFFFF; omega
      obtain ⟨t, ht, htl⟩ := hb.u32.nat n
      have htp0 := ok_last hb.u32 hkb hn
      have htp : 1 ≤ t := by omega
      have hl32 := len32_le (x := t) (by omega)
      obtain ⟨s, hs⟩ : ∃ s, s + len32 t = 32 := ⟨32 - len32 t, by omega⟩
      obtain ⟨hts, htb, hsl⟩ := lz_norm htp htl hs
      obtain ⟨hDl, hDb⟩ := norm_len hb.u32 hn ht hts htb hsl
      have hmul : val la ≤ val la * 2 ^ s := Nat.le_mul_of_pos_right _ (Nat.pow_pos (by decide))
      have hul : la.length ≤ (dg (val la * 2 ^ s)).length := by
        have := dg_length_mono hmul
        rwa [dg_val ha.u32 hka] at this
      have hul2 : (dg (val la * 2 ^ s)).length ≤ la.length + 1 := by
        refine dg_length_le ?_
        rw [Nat.pow_succ]
        have h9 : 2 ^ s ≤ 2 ^ 32 := Nat.pow_le_pow_right (by decide) (by omega)
        exact Nat.lt_of_lt_of_le (Nat.mul_lt_mul_of_pos_right (val_lt ha.u32) (Nat.pow_pos (by decide))) (Nat.mul_le_mul_left _ h9)
      have hll := val_len_le ha.u32 hb.u32 hkb hle
      have hDk : okL (dg (val lb * 2 ^ s)) = true := okL_dg _
      have htop := ok_last (U32_dg (val lb * 2 ^ s)) hDk (m := n) hDl
      obtain ⟨m, hm⟩ : ∃ m, n = m + 1 := ⟨n - 1, by omega⟩
      have hlt0 : val ((dg (val la * 2 ^ s)).drop ((dg (val la * 2 ^ s)).length + 1 - (dg (val lb * 2 ^ s)).length)) < val (dg (val lb * 2 ^ s)) := norm_top (U32_dg _) (val_dg _) (N := (dg (val la * 2 ^ s)).length) (Nat.lt_of_le_of_lt hmul (lt_dg_length _)) hsl (n := n) (by omega) (by rw [val_dg]; exact hDb)
      try rw [pFFFFF]
      refine W_skip ?_
      change WP _ _ _ _ _ _
      refine W_seq ?_
      refine W_region rfl ?_
      refine S_move rfl rfl rfl (v := vb) (rfl) ?_
      refine S_move rfl rfl rfl (v := vb) (rfl) ?_
      refine S_len Tryz.underlying23 rfl rfl rfl (rfl) (m := lb.length) (hb.len) ?_
      refine S_sub64 rfl rfl rfl rfl (rfl) (rfl) (by omega) ?_
      obtain ⟨ad4, hp6, hc5⟩ := (hb.below E).at n (by omega)
      refine S_idx Tryz.underlying23 ti_uint32 rfl rfl rfl rfl (rfl) (rfl) hp6 (by omega) ?_
      refine S_load rfl rfl rfl (rfl) (LD.one ti_uint32 hc5) ?_
      refine S_call en_math_bits_LeadingZeros32 rfl rfl rfl (vs := [(.int .u32 (lb.getD n 0))]) (rfl) (lz32_c _ (lb.getD n 0) ⟨by omega, by omega⟩) ?_
      rintro r_ _ ⟨hr_, rfl⟩
      rw [ht, Int.toNat_natCast] at hr_
      obtain rfl : r_ = .int .i64 (s : Int) := hr_.trans (int_eq (by omega))
      refine S_conv Tryz.underlying3 Tryz.underlying125 rfl rfl rfl (rfl) (b := (s : Int)) (wrap_u64 (by omega) (by omega)) ?_
      refine S_assign rfl rfl rfl (v := (.int .u64 (s : Int))) (rfl) ?_
      refine OPS.nil ?_
      change WP _ _ _ _ _ _
      refine W_seq ?_
      refine W_region rfl ?_
      refine S_move rfl rfl rfl (v := va) (rfl) ?_
      refine S_move rfl rfl rfl (v := (.int .u64 (s : Int))) (rfl) ?_
      refine S_call en_nats_shift rfl rfl rfl (vs := [va, (.int .u64 (s : Int))]) (rfl) (natsShift_c _ _ la s (ha.below E) hsa1 (by omega)) ?_
      rintro vh1 w5 ⟨hB5, h1⟩
      have hz5 := hB5.size
      have E := Below.step E hB5
      refine S_move rfl rfl rfl (v := vb) (rfl) ?_
      refine S_move rfl rfl rfl (v := (.int .u64 (s : Int))) (rfl) ?_
      refine S_call en_nats_shift rfl rfl rfl (vs := [vb, (.int .u64 (s : Int))]) (rfl) (natsShift_c _ _ lb s (hb.below E) hsb (by omega)) ?_
      rintro vh2 w6 ⟨hB6, h2⟩
      have hz6 := hB6.size
      have E := Below.step E hB6
      have h1 := h1.below hB6
      refine S_call en_nats_long rfl rfl rfl (vs := [vh1, vh2]) (rfl) (natsLong_c _ _ _ (dg (val la * 2 ^ s)) (dg (val lb * 2 ^ s)) m h1.r h2.r (by omega) (by omega) (by omega) (by rw [← hm]; exact htop) hlt0) ?_
      rintro _ w7 ⟨hB7, vq, vr, rfl, d1, d2⟩
      have hz7 := hB7.size
      have E := Below.step E hB7
      have h1 := h1.below hB7
      have h2 := h2.below hB7
      have hkq := d1.bkB
      have hlr : (dg (val (dg (val la * 2 ^ s)) % val (dg (val lb * 2 ^ s)))).length ≤ SZ := by
        have h9 := dg_length_mono (Nat.le_of_lt (Nat.mod_lt (val (dg (val la * 2 ^ s))) (show 0 < val (dg (val lb * 2 ^ s)) by rw [val_dg]; exact Nat.mul_pos hbp (Nat.pow_pos (by decide)))))
        rw [val_dg (val lb * 2 ^ s), hDl] at h9
        rw [val_dg (val lb * 2 ^ s)]
        omega
      refine S_move rfl rfl rfl (v := (.tuple #[vq, vr])) (rfl) ?_
      refine S_extract rfl rfl rfl (rfl) rfl ?_
      refine S_extract rfl rfl rfl (rfl) rfl ?_
      refine S_assign rfl rfl rfl (v := vq) (rfl) ?_
      refine S_assign rfl rfl rfl (v := vr) (rfl) ?_
      refine OPS.nil ?_
      change WP _ _ _ _ _ _
      refine W_seq ?_
      refine W_region rfl ?_
      refine S_move rfl rfl rfl (v := vq) (rfl) ?_
      refine S_move rfl rfl rfl (v := vr) (rfl) ?_
      refine S_move rfl rfl rfl (v := (.int .u64 (s : Int))) (rfl) ?_
      refine S_call en_nats_back rfl rfl rfl (vs := [vr, (.int .u64 (s : Int))]) (rfl) (natsBack_c _ _ (dg (val (dg (val la * 2 ^ s)) % val (dg (val lb * 2 ^ s)))) s d2.r hlr (by omega)) ?_
      rintro vh3 w8 ⟨hB8, h3⟩
      have hz8 := hB8.size
      have E := Below.step E hB8
      have h1 := h1.below hB8
      have h2 := h2.below hB8
      have d1 := d1.below hB8
      have d2 := d2.below hB8
      refine S_assign rfl rfl rfl (v := vq) (rfl) ?_
      refine S_assign rfl rfl rfl (v := vh3) (rfl) ?_
      refine S_assign rfl rfl rfl (v := (.int .i64 0)) (rfl) ?_
      refine OPS.nil ?_
      change WP _ _ _ _ _ _
      refine W_ret ?_
      change Fin' _ _ _ _ _ _
      refine End3 (n := ⟨68, []⟩) (t := 4) (u := 5) (s := 6) rfl (by decide) (by decide) (by decide) (rfl) (rfl) (rfl) ?_
      have hs : divE la lb = 0 := by unfold divE; rw [hka, hkb]; exact (if_pos rfl).trans (if_neg (by omega))
      rw [val_dg, val_dg, shl_div] at d1
      rw [val_dg, val_dg, val_dg, shl_mod] at h3
      exact ⟨E, _, _, congrArg (fun z => Value.tuple #[_, _, .int .i64 z]) hs.symm, by rw [hs]; exact d1.mono (by omega), by rw [hs]; exact h3.mono (by omega), ⟨_, fun g hg => (hkq g hg).2, fun g hg => (h3.bkB g hg).1⟩⟩

set_option maxHeartbeats 400000 in
theorem natsGcd_c (w0 : World) (va vb : Value) (la lb : List Int) {a b a2 b2 : Nat} (ha : RN a b w0 va la) (hb : RN a2 b2 w0 vb lb) (hsa : la.length ≤ SZ) (hsb : lb.length ≤ SZ) (hT : Tab w0) :
    Ret Tryz.prog 42 [va, vb] w0 (fun r w1 => Below w0.heap.size w0 w1 ∧ ON w0.heap.size w1 r (dg (Nat.gcd (nv la) (nv lb)))) := by
 have E := Below.refl w0.heap.size w0
 have hfa := ha.fine
 have hfb := hb.fine
 have hf1 := fineL_length la
 have hf2 := fineL_length lb
 refine Ret_of (n := 52) Tryz.func42 rfl rfl (Nat.le_of_ble_eq_true rfl) ?_
 refine W_seq ?_
 refine W_region rfl ?_
 refine S_assign rfl rfl rfl (v := (.slice none 0 0)) (rfl) ?_
 refine OPS.nil ?_
 change WP _ _ _ _ _ _
 refine W_seq ?_
 refine W_region rfl ?_
 refine S_move rfl rfl rfl (v := va) (rfl) ?_
 refine S_call en_nats_fine rfl rfl rfl (vs := [va]) (rfl) (natsFine_c w0 va la ha) ?_
 rintro _ _ ⟨rfl, rfl⟩
 refine S_call en_slices_Clone_api_Nat_uint32 rfl rfl rfl (vs := [(if okL la then va else .slice none 0 0)]) (rfl) (natsClone_c _ _ (fineL la) (hfa.below E) (by omega)) ?_
 rintro vh1 w1 ⟨hB1, h1⟩
 have hz1 := hB1.size
 have E := Below.step E hB1
 have hT := hT.below hB1
 refine S_move rfl rfl rfl (v := vb) (rfl) ?_
 refine S_call en_nats_fine rfl rfl rfl (vs := [vb]) (rfl) (natsFine_c _ vb lb (hb.below E)) ?_
 rintro _ _ ⟨rfl, rfl⟩
 refine S_call en_slices_Clone_api_Nat_uint32 rfl rfl rfl (vs := [(if okL lb then vb else .slice none 0 0)]) (rfl) (natsClone_c _ _ (fineL lb) (hfb.below E) (by omega)) ?_
 rintro vh2 w2 ⟨hB2, h2⟩
 have hz2 := hB2.size
 have E := Below.step E hB2
 have hT := hT.below hB2
 have h1 := h1.below hB2
 have hz9 := E.size
 refine S_assign rfl rfl rfl (v := vh1) (rfl) ?_
 refine S_assign rfl rfl rfl (v := vh2) (rfl) ?_
 refine OPS.nil ?_
 change WP _ _ _ _ _ _
 refine W_seq ?_
 refine W_seq ?_
 refine W_region rfl ?_
 refine S_move rfl rfl rfl (v := vh1) (rfl) ?_
 refine S_len Tryz.underlying23 rfl rfl rfl (rfl) (m := (fineL la).length) (h1.r.len) ?_
 refine S_bin rfl rfl rfl rfl rfl (rfl) (rfl) (v := .bool ((((fineL la).length : Int) == 0))) rfl ?_
 refine OPS.nil ?_
 change WP _ _ _ _ _ _
 refine W_cond rfl (rfl) (fun hq15 => ?_) (fun hq15 => ?_)
 ·skip
  have pT := hq15
  replace hq15 := eq_of_beq hq15
  have qT := hq15
  try rw [pT]
  refine W_seq ?_
  refine W_region rfl ?_
  refine S_move rfl rfl rfl (v := vh2) (rfl) ?_
  refine S_assign rfl rfl rfl (v := vh2) (rfl) ?_
  refine OPS.nil ?_
  change WP _ _ _ _ _ _
  refine W_ret ?_
  change Fin' _ _ _ _ _ _
  refine End1 (n := ⟨52, []⟩) (t := 4) rfl (by decide) (v := vh2) (rfl) ?_
  rw [← dg_nv hb.u32] at h2
  rw [fine_len (l := la) (by omega), Nat.gcd_zero_left]
  exact ⟨E, h2.mono (by omega)⟩
 ·skip
  have pF := hq15
  replace hq15 := ne_of_beq_false hq15
  have qF := hq15
  try rw [pF]
  refine W_skip ?_
  change WP _ _ _ _ _ _
  refine W_seq ?_
  refine W_seq ?_
  refine W_region rfl ?_
  refine S_move rfl rfl rfl (v := vh2) (rfl) ?_
  refine S_len Tryz.underlying23 rfl rfl rfl (rfl) (m := (fineL lb).length) (h2.r.len) ?_
  refine S_bin rfl rfl rfl rfl rfl (rfl) (rfl) (v := .bool ((((fineL lb).length : Int) == 0))) rfl ?_
  refine OPS.nil ?_
  change WP _ _ _ _ _ _
  refine W_cond rfl (rfl) (fun hq19 => ?_) (fun hq19 => ?_)
  ·skip
   have pFT := hq19
   replace hq19 := eq_of_beq hq19
   have qFT := hq19
   try rw [pFT]
   refine W_seq ?_
   refine W_region rfl ?_
   refine S_move rfl rfl rfl (v := vh1) (rfl) ?_
   refine S_assign rfl rfl rfl (v := vh1) (rfl) ?_
   refine OPS.nil ?_
   change WP _ _ _ _ _ _
   refine W_ret ?_
   change Fin' _ _ _ _ _ _
   refine End1 (n := ⟨52, []⟩) (t := 4) rfl (by decide) (v := vh1) (rfl) ?_
   rw [← dg_nv ha.u32] at h1
   rw [fine_len (l := lb) (by omega), Nat.gcd_zero_right]
   exact ⟨E, h1.mono (by omega)⟩
  ·skip
   have pFF := hq19
   replace hq19 := ne_of_beq_false hq19
   have qFF := hq19
   try rw [pFF]
   refine W_skip ?_
   change WP _ _ _ _ _ _
   refine W_seq ?_
   refine W_region rfl ?_
   have hpa := fine_pos ha.u32 (by omega)
   have hpb := fine_pos hb.u32 (by omega)
   refine S_move rfl rfl rfl (v := vh1) (rfl) ?_
   refine S_call en_nats_noughts rfl rfl rfl (vs := [vh1]) (rfl) (natsNoughts_c _ _ (fineL la) h1.r (by omega) hT hpa) ?_
   rintro _ _ ⟨⟨qa, rfl, oa, oa_⟩, rfl⟩
   refine S_move rfl rfl rfl (v := vh2) (rfl) ?_
   refine S_call en_nats_noughts rfl rfl rfl (vs := [vh2]) (rfl) (natsNoughts_c _ _ (fineL lb) h2.r (by omega) hT hpb) ?_
   rintro _ _ ⟨⟨qb, rfl, ob, ob_⟩, rfl⟩
   refine S_assign rfl rfl rfl (v := (.int .u64 (qa : Int))) (rfl) ?_
   refine S_assign rfl rfl rfl (v := (.int .u64 (qb : Int))) (rfl) ?_
   refine OPS.nil ?_
   change WP _ _ _ _ _ _
   refine W_seq ?_
   refine W_region rfl ?_
   have hsa_ := hsa
   have hsb_ := hsb
   unfold SZ at hsa_ hsb_
   obtain ⟨ox1, ox2⟩ := oa.div
   obtain ⟨oy1, oy2⟩ := ob.div
   refine S_move rfl rfl rfl (v := vh1) (rfl) ?_
   refine S_move rfl rfl rfl (v := (.int .u64 (qa : Int))) (rfl) ?_
   refine S_call en_nats_back rfl rfl rfl (vs := [vh1, (.int .u64 (qa : Int))]) (rfl) (natsBack_c _ _ (fineL la) qa h1.r (by omega) (by omega)) ?_
   rintro vh5 w3 ⟨hB3, h5⟩
   have hz3 := hB3.size
   have E := Below.step E hB3
   have hT := hT.below hB3
   have h1 := h1.below hB3
   have h2 := h2.below hB3
   refine S_move rfl rfl rfl (v := vh2) (rfl) ?_
   refine S_move rfl rfl rfl (v := (.int .u64 (qb : Int))) (rfl) ?_
   refine S_call en_nats_back rfl rfl rfl (vs := [vh2, (.int .u64 (qb : Int))]) (rfl) (natsBack_c _ _ (fineL lb) qb h2.r (by omega) (by omega)) ?_
   rintro vh6 w4 ⟨hB4, h6⟩
   have hz4 := hB4.size
   have E := Below.step E hB4
   have hT := hT.below hB4
   have h1 := h1.below hB4
   have h2 := h2.below hB4
   have h5 := h5.below hB4
   refine S_assign rfl rfl rfl (v := vh5) (rfl) ?_
   refine S_assign rfl rfl rfl (v := vh6) (rfl) ?_
   refine OPS.nil ?_
   change WP _ _ _ _ _ _
   refine W_block ?_
   refine W_loop (fun k σ w => ∃ (vx vy : Value) (X Y : Nat), σ 0 = vx ∧ σ 1 = vy ∧ σ 5 = .int .u64 (qa : Int) ∧ σ 6 = .int .u64 (qb : Int) ∧ k = X + Y ∧ ON w0.heap.size w vx (dg X) ∧ ON w0.heap.size w vy (dg Y) ∧ X % 2 = 1 ∧ Y % 2 = 1 ∧ Nat.gcd X Y = Nat.gcd (val (fineL la) / 2 ^ qa) (val (fineL lb) / 2 ^ qb) ∧ (dg X).length ≤ SZ ∧ (dg Y).length ≤ SZ ∧ Tab w ∧ Below w0.heap.size w0 w) ((val (fineL la) / 2 ^ qa) + (val (fineL lb) / 2 ^ qb)) ⟨_, _, (val (fineL la) / 2 ^ qa), (val (fineL lb) / 2 ^ qb), rfl, rfl, rfl, rfl, rfl, h5.mono (by omega), h6.mono (by omega), ox1, oy1, rfl, Nat.le_trans (dg_length_mono (Nat.div_le_self _ _)) (by rw [dg_val hfa.u32 (okL_fine la)]; omega), Nat.le_trans (dg_length_mono (Nat.div_le_self _ _)) (by rw [dg_val hfb.u32 (okL_fine lb)]; omega), hT, E⟩ ?_
   rintro k σ w ⟨vx, vy, X, Y, s0, s1, s5, s6, hk, h1, h2, hX, hY, hg, hlx, hly, hT, E⟩
   have hz0 := E.size
   refine W_block ?_
   refine W_seq ?_
   refine W_seq ?_
   refine W_region rfl ?_
   refine S_move rfl rfl rfl (v := vx) (s0) ?_
   refine S_move rfl rfl rfl (v := vy) (s1) ?_
   refine S_call en_nats_Cmp rfl rfl rfl (vs := [vx, vy]) (rfl) (natsCmp_c _ _ _ (dg X) (dg Y) h1.r h2.r) ?_
   rintro _ w5 ⟨hB5, rfl⟩
   have hz5 := hB5.size
   have E := Below.step E hB5
   have h1 := h1.below hB5
   have h2 := h2.below hB5
   have hT := hT.below hB5
   refine OPS.nil ?_
   change WP _ _ _ _ _ _
   refine W_block ?_
   refine W_seq ?_
   refine W_region rfl ?_
   refine S_bin rfl rfl rfl rfl rfl (rfl) (rfl) (v := .bool (((cmpN (nv (dg X)) (nv (dg Y))) == 0))) rfl ?_
   refine S_assign rfl rfl rfl (v := (.bool (((cmpN (nv (dg X)) (nv (dg Y))) == 0)))) (rfl) ?_
   refine OPS.nil ?_
   change WP _ _ _ _ _ _
   refine W_cond rfl (rfl) (fun hq34 => ?_) (fun hq34 => ?_)
   ·skip
    have pT := hq34
    replace hq34 := eq_of_beq hq34
    have qT := hq34
    try rw [pT]
    refine W_seq ?_
    refine W_region rfl ?_
    refine S_move rfl rfl rfl (v := vx) (s0) ?_
    refine S_move rfl rfl rfl (v := (.int .u64 (qa : Int))) (s5) ?_
    refine S_move rfl rfl rfl (v := (.int .u64 (qb : Int))) (s6) ?_
    refine S_min rfl rfl rfl rfl (rfl) (rfl) (v := ((min qa qb : Nat) : Int)) (by omega) ?_
    refine S_call en_nats_shift rfl rfl rfl (vs := [vx, (.int .u64 ((min qa qb : Nat) : Int))]) (rfl) (natsShift_c _ _ (dg X) (min qa qb) h1.r hlx (by omega)) ?_
    rintro vh3 w6 ⟨hB6, h3⟩
    have hz6 := hB6.size
    have E := Below.step E hB6
    have h1 := h1.below hB6
    have h2 := h2.below hB6
    have hT := hT.below hB6
    refine S_assign rfl rfl rfl (v := vh3) (rfl) ?_
    refine OPS.nil ?_
    change WP _ _ _ _ _ _
    refine W_ret ?_
    change Fin' _ _ _ _ _ _
    refine End1 (n := ⟨52, []⟩) (t := 4) rfl (by decide) (v := vh3) (rfl) ?_
    have hXY := cmpN_eq0.1 qT
    rw [nv_dg, nv_dg] at hXY
    subst hXY
    rw [Nat.gcd_self] at hg
    rw [val_dg, hg, ← gcd_pows ox1 oy1, ← ox2, ← oy2] at h3
    exact ⟨E, h3.mono (by omega)⟩
   ·skip
    have pF := hq34
    replace hq34 := ne_of_beq_false hq34
    have qF := hq34
    try rw [pF]
    refine W_seq ?_
    refine W_region rfl ?_
    refine S_bin rfl rfl rfl rfl rfl (rfl) (rfl) (v := .bool (((cmpN (nv (dg X)) (nv (dg Y))) == 1))) rfl ?_
    refine S_assign rfl rfl rfl (v := (.bool (((cmpN (nv (dg X)) (nv (dg Y))) == 1)))) (rfl) ?_
    refine OPS.nil ?_
    change WP _ _ _ _ _ _
    refine W_cond rfl (rfl) (fun hq41 => ?_) (fun hq41 => ?_)
    ·skip
     have pFT := hq41
     replace hq41 := eq_of_beq hq41
     have qFT := hq41
     try rw [pFT]
     refine W_region rfl ?_
     refine S_move rfl rfl rfl (v := vy) (s1) ?_
     refine S_move rfl rfl rfl (v := vx) (s0) ?_
     refine S_assign rfl rfl rfl (v := vy) (rfl) ?_
     refine S_assign rfl rfl rfl (v := vx) (rfl) ?_
     refine OPS.nil ?_
     change WP _ _ _ _ _ _
     refine W_seq ?_
     refine W_region rfl ?_
     have hlt : Y < X := by
       have h9 := cmpN_eq1.1 qFT
       rwa [nv_dg, nv_dg] at h9
     refine S_move rfl rfl rfl (v := vx) (rfl) ?_
     refine S_move rfl rfl rfl (v := vy) (rfl) ?_
     refine S_call en_nats_minus rfl rfl rfl (vs := [vx, vy]) (rfl) (natsMinus_c _ _ _ (dg X) (dg Y) h1.r h2.r hlx (dg_length_mono (Nat.le_of_lt hlt)) (by rw [val_dg, val_dg]; exact Nat.le_of_lt hlt)) ?_
     rintro vh4 w7 ⟨hB7, h4⟩
     have hz7 := hB7.size
     have E := Below.step E hB7
     have h1 := h1.below hB7
     have h2 := h2.below hB7
     have hT := hT.below hB7
     have hl4 : (dg (val (dg X) - val (dg Y))).length ≤ SZ := Nat.le_trans (dg_length_mono (by rw [val_dg, val_dg]; exact Nat.sub_le _ _)) hlx
     have hp4 : 0 < val (dg (val (dg X) - val (dg Y))) := by rw [val_dg, val_dg, val_dg]; omega
     skip
     refine S_assign rfl rfl rfl (v := vh4) (rfl) ?_
     refine OPS.nil ?_
     change WP _ _ _ _ _ _
     refine W_region rfl ?_
     refine S_move rfl rfl rfl (v := vh4) (rfl) ?_
     refine S_move rfl rfl rfl (v := vh4) (rfl) ?_
     refine S_call en_nats_noughts rfl rfl rfl (vs := [vh4]) (rfl) (natsNoughts_c _ _ (dg (val (dg X) - val (dg Y))) h4.r hl4 hT hp4) ?_
     rintro _ _ ⟨⟨q2, rfl, od, od_⟩, rfl⟩
     have hl5 := hl4
     unfold SZ at hl5
     refine S_call en_nats_back rfl rfl rfl (vs := [vh4, (.int .u64 (q2 : Int))]) (rfl) (natsBack_c _ _ (dg (val (dg X) - val (dg Y))) q2 h4.r hl4 (by omega)) ?_
     rintro vh7 w8 ⟨hB8, h7⟩
     have hz8 := hB8.size
     have E := Below.step E hB8
     have h1 := h1.below hB8
     have h2 := h2.below hB8
     have hT := hT.below hB8
     have h4 := h4.below hB8
     refine S_assign rfl rfl rfl (v := vh7) (rfl) ?_
     refine OPS.nil ?_
     rw [val_dg, val_dg, val_dg] at od
     obtain ⟨g1, g2, g3, g4⟩ := gcd_round hY hlt od rfl
     rw [val_dg, val_dg, val_dg] at h7
     exact ⟨Y + (X - Y) / 2 ^ q2, by omega, _, _, Y, (X - Y) / 2 ^ q2, rfl, rfl, s5, s6, rfl, h2, h7.mono (by omega), hY, g2, g1.trans ((Nat.gcd_comm Y X).trans hg), hly, Nat.le_trans (dg_length_mono (Nat.le_of_lt g4)) hlx, hT, E⟩
    ·skip
     have pFF := hq41
     replace hq41 := ne_of_beq_false hq41
     have qFF := hq41
     try rw [pFF]
     refine W_skip ?_
     change WP _ _ _ _ _ _
     refine W_seq ?_
     refine W_region rfl ?_
     have hne : X ≠ Y := fun h => by rw [h] at qF; exact qF (cmpN_eq0.2 rfl)
     have hng : ¬ Y < X := fun h => qFF (by rw [nv_dg, nv_dg]; exact cmpN_eq1.2 h)
     have hlt : X < Y := by omega
     refine S_move rfl rfl rfl (v := vy) (s1) ?_
     refine S_move rfl rfl rfl (v := vx) (s0) ?_
     refine S_call en_nats_minus rfl rfl rfl (vs := [vy, vx]) (rfl) (natsMinus_c _ _ _ (dg Y) (dg X) h2.r h1.r hly (dg_length_mono (Nat.le_of_lt hlt)) (by rw [val_dg, val_dg]; exact Nat.le_of_lt hlt)) ?_
     rintro vh4 w9 ⟨hB9, h4⟩
     have hz9 := hB9.size
     have E := Below.step E hB9
     have h1 := h1.below hB9
     have h2 := h2.below hB9
     have hT := hT.below hB9
     have hl4 : (dg (val (dg Y) - val (dg X))).length ≤ SZ := Nat.le_trans (dg_length_mono (by rw [val_dg, val_dg]; exact Nat.sub_le _ _)) hly
     have hp4 : 0 < val (dg (val (dg Y) - val (dg X))) := by rw [val_dg, val_dg, val_dg]; omega
     skip
     refine S_assign rfl rfl rfl (v := vh4) (rfl) ?_
     refine OPS.nil ?_
     change WP _ _ _ _ _ _
     refine W_region rfl ?_
     refine S_move rfl rfl rfl (v := vh4) (rfl) ?_
     refine S_move rfl rfl rfl (v := vh4) (rfl) ?_
     refine S_call en_nats_noughts rfl rfl rfl (vs := [vh4]) (rfl) (natsNoughts_c _ _ (dg (val (dg Y) - val (dg X))) h4.r hl4 hT hp4) ?_
     rintro _ _ ⟨⟨q2, rfl, od, od_⟩, rfl⟩
     have hl5 := hl4
     unfold SZ at hl5
     refine S_call en_nats_back rfl rfl rfl (vs := [vh4, (.int .u64 (q2 : Int))]) (rfl) (natsBack_c _ _ (dg (val (dg Y) - val (dg X))) q2 h4.r hl4 (by omega)) ?_
     rintro vh7 w10 ⟨hB10, h7⟩
     have hz10 := hB10.size
     have E := Below.step E hB10
     have h1 := h1.below hB10
     have h2 := h2.below hB10
     have hT := hT.below hB10
     have h4 := h4.below hB10
     refine S_assign rfl rfl rfl (v := vh7) (rfl) ?_
     refine OPS.nil ?_
     rw [val_dg, val_dg, val_dg] at od
     obtain ⟨g1, g2, g3, g4⟩ := gcd_round hX hlt od rfl
     rw [val_dg, val_dg, val_dg] at h7
     exact ⟨X + (Y - X) / 2 ^ q2, by omega, _, _, X, (Y - X) / 2 ^ q2, s0, rfl, s5, s6, rfl, h1, h7.mono (by omega), hX, g2, g1.trans hg, hlx, Nat.le_trans (dg_length_mono (Nat.le_of_lt g4)) hly, hT, E⟩

end Go.Proofs.YtccmicegihlfbaaGreatDoor

/- Fractions: whether they may be; 0 if not. -/
namespace Go.Proofs.YtccmicegihlfbaaGreatDoor
open Go.RowKit


/-! ### Fractions: plain -/
def isOne (l : List Int) : Bool := decide (l = [1])
theorem dg_one {n : Nat} : dg n = [1] ↔ n = 1 := by
  constructor
  · intro h
    have h2 := congrArg val h
    rw [val_dg] at h2
    rw [h2]
    rfl
  · intro h
    subst h
    rw [dg_pos (by decide), show 1 / 4294967296 = 0 by decide, dg_zero]
    rfl
/-- A fraction may be. -/
def okQ (q : Q) : Bool := okI q.neg q.n && okL q.d && decide (0 < q.d.length) && decide (Nat.gcd (val q.n) (val q.d) = 1)
def qn (q : Q) : Int := if okQ q then iv q.neg q.n else 0
def qd (q : Q) : Nat := if okQ q then val q.d else 1
def Q.u32 (q : Q) : Prop := U32 q.n ∧ U32 q.d
/-- The fraction, or 0. -/
def fitQ (q : Q) : Q := ⟨decide (qn q < 0), dg (qn q).natAbs, dg (qd q)⟩
/-- A fraction in lowest terms. -/
def lowQ (z : Int) (m : Nat) : Q := ⟨decide (z < 0), dg (z.natAbs / Nat.gcd z.natAbs m), dg (m / Nat.gcd z.natAbs m)⟩
theorem okQ_spec {q : Q} (h : okQ q = true) (hu : q.u32) : q = fitQ q ∧ 0 < qd q ∧ okI q.neg q.n = true ∧ okL q.d = true := by
  have h0 := h
  unfold okQ at h
  simp only [Bool.and_eq_true, decide_eq_true_eq] at h
  obtain ⟨⟨⟨h1, h2⟩, h3⟩, h4⟩ := h
  have hs := okI_spec h1 hu.1
  refine ⟨?_, ?_, h1, h2⟩
  · unfold fitQ qn qd
    rw [h0, if_pos rfl, if_pos rfl, ← hs.1, ← hs.2, dg_val hu.2 h2]
  · unfold qd
    rw [h0, if_pos rfl]
    exact val_pos_of_ok hu.2 h2 (fun e => by rw [e] at h3; cases h3)
theorem okQ_not {q : Q} (h : okQ q = false) : qn q = 0 ∧ qd q = 1 := by
  unfold qn qd
  rw [h]
  exact ⟨rfl, rfl⟩
theorem qd_pos {q : Q} (hu : q.u32) : 0 < qd q := by
  cases h : okQ q with
  | true => exact (okQ_spec h hu).2.1
  | false => rw [(okQ_not h).2]; decide
theorem fit_len {q : Q} (hu : q.u32) : (dg (qn q).natAbs).length ≤ q.n.length ∧ (dg (qd q)).length ≤ max q.d.length 1 := by
  cases h : okQ q with
  | true =>
    have h1 := (okQ_spec h hu).1
    have e1 : q.n = dg (qn q).natAbs := congrArg Q.n h1
    have e2 : q.d = dg (qd q) := congrArg Q.d h1
    rw [← e1, ← e2]
    exact ⟨Nat.le_refl _, Nat.le_max_left _ _⟩
  | false =>
    rw [(okQ_not h).1, (okQ_not h).2, dg_one.2 rfl, show (0 : Int).natAbs = 0 from rfl, dg_zero]
    exact ⟨Nat.zero_le _, Nat.le_max_right _ _⟩
theorem div_self_len (m g : Nat) : (dg (m / g)).length ≤ (dg m).length := dg_length_mono (Nat.div_le_self _ _)
theorem divE_pos {m n : Nat} (h : 0 < n) : divE (dg m) (dg n) = 0 := divE_dg (fun e => by rw [dg_len0] at e; omega)
theorem neg_low {z : Int} {g : Nat} (hg : 0 < g) (hd : g ∣ z.natAbs) : (decide (z < 0) && decide (((dg (z.natAbs / g)).length : Int) > 0)) = decide (z < 0) := by
  by_cases h : z < 0
  · have h1 : 0 < z.natAbs / g := Nat.div_pos (Nat.le_of_dvd (by omega) hd) hg
    have h2 : (dg (z.natAbs / g)).length ≠ 0 := fun e => by rw [dg_len0] at e; omega
    have h3 : ((dg (z.natAbs / g)).length : Int) > 0 := by omega
    rw [decide_eq_true h3, Bool.and_true]
  · simp [h]
theorem neg_low2 {z : Int} {g : Nat} (hg : 0 < g) (hd : g ∣ z.natAbs) : (decide (z < 0) && !(dg (z.natAbs / g)).isEmpty) = decide (z < 0) := by
  by_cases h : z < 0
  · have h1 : 0 < z.natAbs / g := Nat.div_pos (Nat.le_of_dvd (by omega) hd) hg
    rw [dg_isEmpty, decide_eq_false (Nat.ne_of_gt h1)]
    simp [h]
  · simp [h]
/-! ### whole numbers, told by their value -/
section
variable {a b a' b' : Nat} {w0 : World} {va vb : Value} {x y : Int} {m n : Nat}
theorem natneg (m : Nat) : decide ((m : Int) < 0) = false := by simp

theorem intsAdd_d (ha : RN a b w0 va (dg x.natAbs)) (hb : RN a' b' w0 vb (dg y.natAbs)) (hsa : (dg x.natAbs).length ≤ SZ) (hsb : (dg y.natAbs).length ≤ SZ) : Ret Tryz.prog 12 [.agg #[.bool (decide (x < 0)), va], .agg #[.bool (decide (y < 0)), vb]] w0 (fun r w1 => Below w0.heap.size w0 w1 ∧ ∃ v, r = .agg #[.bool (decide (x + y < 0)), v] ∧ ON w0.heap.size w1 v (dg (x + y).natAbs)) := by
  have := intsAdd_c w0 (decide (x < 0)) (decide (y < 0)) va vb _ _ ha hb hsa hsb
  rwa [zv_dg, zv_dg] at this

theorem intsSub_d (ha : RN a b w0 va (dg x.natAbs)) (hb : RN a' b' w0 vb (dg y.natAbs)) (hsa : (dg x.natAbs).length ≤ SZ) (hsb : (dg y.natAbs).length ≤ SZ) : Ret Tryz.prog 13 [.agg #[.bool (decide (x < 0)), va], .agg #[.bool (decide (y < 0)), vb]] w0 (fun r w1 => Below w0.heap.size w0 w1 ∧ ∃ v, r = .agg #[.bool (decide (x - y < 0)), v] ∧ ON w0.heap.size w1 v (dg (x - y).natAbs)) := by
  have := intsSub_c w0 (decide (x < 0)) (decide (y < 0)) va vb _ _ ha hb hsa hsb
  rwa [zv_dg, zv_dg] at this

theorem intsMul_d (ha : RN a b w0 va (dg x.natAbs)) (hb : RN a' b' w0 vb (dg y.natAbs)) (hsa : (dg x.natAbs).length ≤ SZ) (hsb : (dg y.natAbs).length ≤ SZ) : Ret Tryz.prog 14 [.agg #[.bool (decide (x < 0)), va], .agg #[.bool (decide (y < 0)), vb]] w0 (fun r w1 => Below w0.heap.size w0 w1 ∧ ∃ v, r = .agg #[.bool (decide (x * y < 0)), v] ∧ ON w0.heap.size w1 v (dg (x * y).natAbs)) := by
  have := intsMul_c w0 (decide (x < 0)) (decide (y < 0)) va vb _ _ ha hb hsa hsb
  rwa [zv_dg, zv_dg] at this

theorem intsMul_n (ha : RN a b w0 va (dg x.natAbs)) (hb : RN a' b' w0 vb (dg m)) (hsa : (dg x.natAbs).length ≤ SZ) (hsb : (dg m).length ≤ SZ) : Ret Tryz.prog 14 [.agg #[.bool (decide (x < 0)), va], .agg #[.bool false, vb]] w0 (fun r w1 => Below w0.heap.size w0 w1 ∧ ∃ v, r = .agg #[.bool (decide (x * (m : Int) < 0)), v] ∧ ON w0.heap.size w1 v (dg (x * (m : Int)).natAbs)) := by
  have := intsMul_d (y := (m : Int)) ha hb hsa hsb
  rwa [natneg] at this
theorem intsNeg_d (ha : RN a b w0 va (dg x.natAbs)) (hsa : (dg x.natAbs).length ≤ SZ) : Ret Tryz.prog 15 [.agg #[.bool (decide (x < 0)), va]] w0 (fun r w1 => Below w0.heap.size w0 w1 ∧ ∃ v, r = .agg #[.bool (decide (-x < 0)), v] ∧ ON w0.heap.size w1 v (dg (-x).natAbs)) := by
  have := intsNeg_c w0 (decide (x < 0)) va _ ha hsa
  rwa [zv_dg] at this
theorem intsSign_d (ha : RN a b w0 va (dg x.natAbs)) : Ret Tryz.prog 18 [.agg #[.bool (decide (x < 0)), va]] w0 (fun r w1 => Below w0.heap.size w0 w1 ∧ r = .int .i64 (cmpZ x 0)) := by
  have := intsSign_c w0 (decide (x < 0)) va _ ha
  rwa [zv_dg] at this

theorem intsCmp_d (ha : RN a b w0 va (dg x.natAbs)) (hb : RN a' b' w0 vb (dg y.natAbs)) (hsa : (dg x.natAbs).length ≤ SZ) (hsb : (dg y.natAbs).length ≤ SZ) : Ret Tryz.prog 16 [.agg #[.bool (decide (x < 0)), va], .agg #[.bool (decide (y < 0)), vb]] w0 (fun r w1 => Below w0.heap.size w0 w1 ∧ r = .int .i64 (cmpZ x y)) := by
  have := intsCmp_c w0 (decide (x < 0)) (decide (y < 0)) va vb _ _ ha hb
  rwa [zv_dg, zv_dg] at this

theorem ref02Add_d (ha : RN a b w0 va (dg x.natAbs)) (hb : RN a' b' w0 vb (dg y.natAbs)) (hsa : (dg x.natAbs).length ≤ SZ) (hsb : (dg y.natAbs).length ≤ SZ) : Ret Tryz.prog 21 [.agg #[.bool (decide (x < 0)), va], .agg #[.bool (decide (y < 0)), vb]] w0 (fun r w1 => Below w0.heap.size w0 w1 ∧ ∃ v, r = .agg #[.bool (decide (x + y < 0)), v] ∧ ON w0.heap.size w1 v (dg (x + y).natAbs)) := by
  have := ref02Add_c w0 (decide (x < 0)) (decide (y < 0)) va vb _ _ ha hb hsa hsb
  rwa [zv_dg, zv_dg] at this

theorem ref02Sub_d (ha : RN a b w0 va (dg x.natAbs)) (hb : RN a' b' w0 vb (dg y.natAbs)) (hsa : (dg x.natAbs).length ≤ SZ) (hsb : (dg y.natAbs).length ≤ SZ) : Ret Tryz.prog 22 [.agg #[.bool (decide (x < 0)), va], .agg #[.bool (decide (y < 0)), vb]] w0 (fun r w1 => Below w0.heap.size w0 w1 ∧ ∃ v, r = .agg #[.bool (decide (x - y < 0)), v] ∧ ON w0.heap.size w1 v (dg (x - y).natAbs)) := by
  have := ref02Sub_c w0 (decide (x < 0)) (decide (y < 0)) va vb _ _ ha hb hsa hsb
  rwa [zv_dg, zv_dg] at this

theorem ref02Mul_d (ha : RN a b w0 va (dg x.natAbs)) (hb : RN a' b' w0 vb (dg y.natAbs)) (hsa : (dg x.natAbs).length ≤ SZ) (hsb : (dg y.natAbs).length ≤ SZ) : Ret Tryz.prog 23 [.agg #[.bool (decide (x < 0)), va], .agg #[.bool (decide (y < 0)), vb]] w0 (fun r w1 => Below w0.heap.size w0 w1 ∧ ∃ v, r = .agg #[.bool (decide (x * y < 0)), v] ∧ ON w0.heap.size w1 v (dg (x * y).natAbs)) := by
  have := ref02Mul_c w0 (decide (x < 0)) (decide (y < 0)) va vb _ _ ha hb hsa hsb
  rwa [zv_dg, zv_dg] at this

theorem ref02Mul_n (ha : RN a b w0 va (dg x.natAbs)) (hb : RN a' b' w0 vb (dg m)) (hsa : (dg x.natAbs).length ≤ SZ) (hsb : (dg m).length ≤ SZ) : Ret Tryz.prog 23 [.agg #[.bool (decide (x < 0)), va], .agg #[.bool false, vb]] w0 (fun r w1 => Below w0.heap.size w0 w1 ∧ ∃ v, r = .agg #[.bool (decide (x * (m : Int) < 0)), v] ∧ ON w0.heap.size w1 v (dg (x * (m : Int)).natAbs)) := by
  have := ref02Mul_d (y := (m : Int)) ha hb hsa hsb
  rwa [natneg] at this
theorem ref02Neg_d (ha : RN a b w0 va (dg x.natAbs)) (hsa : (dg x.natAbs).length ≤ SZ) : Ret Tryz.prog 24 [.agg #[.bool (decide (x < 0)), va]] w0 (fun r w1 => Below w0.heap.size w0 w1 ∧ ∃ v, r = .agg #[.bool (decide (-x < 0)), v] ∧ ON w0.heap.size w1 v (dg (-x).natAbs)) := by
  have := ref02Neg_c w0 (decide (x < 0)) va _ ha hsa
  rwa [zv_dg] at this
theorem ref02Sign_d (ha : RN a b w0 va (dg x.natAbs)) : Ret Tryz.prog 19 [.agg #[.bool (decide (x < 0)), va]] w0 (fun r w1 => Below w0.heap.size w0 w1 ∧ r = .int .i64 (cmpZ x 0)) := by
  have := ref02Sign_c w0 (decide (x < 0)) va _ ha
  rwa [zv_dg] at this

theorem ref02Cmp_d (ha : RN a b w0 va (dg x.natAbs)) (hb : RN a' b' w0 vb (dg y.natAbs)) (hsa : (dg x.natAbs).length ≤ SZ) (hsb : (dg y.natAbs).length ≤ SZ) : Ret Tryz.prog 17 [.agg #[.bool (decide (x < 0)), va], .agg #[.bool (decide (y < 0)), vb]] w0 (fun r w1 => Below w0.heap.size w0 w1 ∧ r = .int .i64 (cmpZ x y)) := by
  have := ref02Cmp_c w0 (decide (x < 0)) (decide (y < 0)) va vb _ _ ha hb hsa hsb
  rwa [zv_dg, zv_dg] at this

theorem natsDiv_d (ha : RN a b w0 va (dg m)) (hb : RN a' b' w0 vb (dg n)) (hsa : (dg m).length < SZ) (hsb : (dg n).length ≤ SZ) (hn : 0 < n) : Ret Tryz.prog 41 [va, vb] w0 (fun r w1 => Below w0.heap.size w0 w1 ∧ ∃ v1 v2, r = .tuple #[v1, v2, .int .i64 0] ∧ ON w0.heap.size w1 v1 (dg (m / n))) := by
  refine (natsDiv_c w0 va vb _ _ ha hb hsa hsb).mono ?_
  rintro r w1 ⟨h1, v1, v2, h2, h3, h4⟩
  rw [divE_pos hn] at h2 h3
  rw [if_pos rfl, val_dg, val_dg] at h3
  exact ⟨h1, v1, v2, h2, h3⟩

theorem ref01Div_d (ha : RN a b w0 va (dg m)) (hb : RN a' b' w0 vb (dg n)) (hsa : (dg m).length ≤ SZ) (hsb : (dg n).length ≤ SZ) (hn : 0 < n) : Ret Tryz.prog 43 [va, vb] w0 (fun r w1 => Below w0.heap.size w0 w1 ∧ ∃ v1 v2, r = .tuple #[v1, v2, .int .i64 0] ∧ ON w0.heap.size w1 v1 (dg (m / n))) := by
  refine (ref01Div_c w0 va vb _ _ ha hb hsa hsb).mono ?_
  rintro r w1 ⟨h1, v1, v2, h2, h3, h4⟩
  rw [divE_pos hn] at h2 h3
  rw [if_pos rfl, val_dg, val_dg] at h3
  exact ⟨h1, v1, v2, h2, h3⟩

theorem natsGcd_d (ha : RN a b w0 va (dg m)) (hb : RN a' b' w0 vb (dg n)) (hsa : (dg m).length ≤ SZ) (hsb : (dg n).length ≤ SZ) (hT : Tab w0) : Ret Tryz.prog 42 [va, vb] w0 (fun r w1 => Below w0.heap.size w0 w1 ∧ ON w0.heap.size w1 r (dg (Nat.gcd m n))) := by
  have := natsGcd_c w0 va vb _ _ ha hb hsa hsb hT
  rwa [nv_dg, nv_dg] at this
theorem ref01Gcd_d (ha : RN a b w0 va (dg m)) (hb : RN a' b' w0 vb (dg n)) (hsa : (dg m).length ≤ SZ) (hsb : (dg n).length ≤ SZ) : Ret Tryz.prog 45 [va, vb] w0 (fun r w1 => Below w0.heap.size w0 w1 ∧ ON w0.heap.size w1 r (dg (Nat.gcd m n))) := by
  have := ref01Gcd_c w0 va vb _ _ ha hb hsa hsb
  rwa [nv_dg, nv_dg] at this
end

set_option maxHeartbeats 400000 in
theorem ratsIs1_c (w0 : World) (v : Value) (l : List Int) {a b : Nat} (h : RN a b w0 v l) :
    Ret Tryz.prog 237 [v] w0 (fun r w1 => r = .bool (isOne l) ∧ w0 = w1) := by
 refine Ret_of (n := 12) Tryz.func237 rfl rfl (Nat.le_of_ble_eq_true rfl) ?_
 refine W_seq ?_
 refine W_region rfl ?_
 refine S_assign rfl rfl rfl (v := (.bool false)) (rfl) ?_
 refine OPS.nil ?_
 change WP _ _ _ _ _ _
 refine W_seq ?_
 refine W_region rfl ?_
 refine S_move rfl rfl rfl (v := v) (rfl) ?_
 refine S_len Tryz.underlying23 rfl rfl rfl (rfl) (m := l.length) (h.len) ?_
 refine S_bin rfl rfl rfl rfl rfl (rfl) (rfl) (v := .bool (((l.length : Int) == 1))) rfl ?_
 refine S_move rfl rfl rfl (v := (.bool (((l.length : Int) == 1)))) (rfl) ?_
 rcases Bool.eq_false_or_eq_true (((l.length : Int) == 1)) with pT | pF
 ·skip
  rw [pT]
  have qT := eq_of_beq pT
  have hl0 : 0 < l.length := by have := qT; omega
  refine S_move rfl rfl rfl (v := v) (rfl) ?_
  obtain ⟨ad1, hp3, hc2⟩ := h.at 0 (by omega)
  refine S_idx Tryz.underlying23 ti_uint32 rfl rfl rfl rfl (rfl) (rfl) hp3 (by omega) ?_
  refine S_load rfl rfl rfl (rfl) (LD.one ti_uint32 hc2) ?_
  refine S_bin rfl rfl rfl rfl rfl (rfl) (rfl) (v := .bool (((l.getD 0 0) == 1))) rfl ?_
  refine S_pick rfl rfl rfl rfl rfl (b := true) (rfl) (v := (.bool (((l.getD 0 0) == 1)))) (rfl) ?_
  refine S_assign rfl rfl rfl (v := (.bool (((l.getD 0 0) == 1)))) (rfl) ?_
  refine OPS.nil ?_
  change WP _ _ _ _ _ _
  refine W_ret ?_
  change Fin' _ _ _ _ _ _
  refine End1 (n := ⟨12, []⟩) (t := 2) rfl (by decide) (v := (.bool (((l.getD 0 0) == 1)))) (rfl) ?_
  have h1 : l.length = 1 := by have := qT; omega
  obtain ⟨x, rfl⟩ := List.length_eq_one_iff.1 h1
  exact ⟨congrArg Value.bool (by unfold isOne; by_cases hx : x = 1 <;> simp [hx]), rfl⟩
 ·skip
  rw [pF]
  have qF := ne_of_beq_false pF
  refine S_skip (d := 7) (op := .move _) (gd := some (3, true)) rfl (wg_off rfl (rfl) rfl) ?_
  refine S_skip (d := 8) (op := .indexAddr _ _ _) (gd := some (3, true)) rfl (wg_off rfl (rfl) rfl) ?_
  refine S_skip (d := 9) (op := .load _ _) (gd := some (3, true)) rfl (wg_off rfl (rfl) rfl) ?_
  refine S_skip (d := 10) (op := .binOp _ _ _ _ _) (gd := some (3, true)) rfl (wg_off rfl (rfl) rfl) ?_
  refine S_pick rfl rfl rfl rfl rfl (b := false) (rfl) (v := (.bool false)) (rfl) ?_
  refine S_assign rfl rfl rfl (v := (.bool false)) (rfl) ?_
  refine OPS.nil ?_
  change WP _ _ _ _ _ _
  refine W_ret ?_
  change Fin' _ _ _ _ _ _
  refine End1 (n := ⟨12, []⟩) (t := 2) rfl (by decide) (v := (.bool false)) (rfl) ?_
  exact ⟨by rw [show isOne l = false by unfold isOne; exact decide_eq_false fun e => (by subst e; simp at pF)], rfl⟩

set_option maxHeartbeats 400000 in
theorem ratsCheck_c (w0 : World) (s : Bool) (vn vd : Value) (ln ld : List Int) {a b a2 b2 : Nat} (hn : RN a b w0 vn ln) (hd : RN a2 b2 w0 vd ld) (hsn : ln.length ≤ SZ) (hsd : ld.length ≤ SZ) (hT : Tab w0) :
    Ret Tryz.prog 190 [.agg #[.bool s, vn, vd]] w0 (fun r w1 => Below w0.heap.size w0 w1 ∧ r = .bool (okQ ⟨s, ln, ld⟩)) := by
 have E := Below.refl w0.heap.size w0
 refine Ret_of (n := 26) Tryz.func190 rfl rfl (Nat.le_of_ble_eq_true rfl) ?_
 refine W_seq ?_
 refine W_region rfl ?_
 refine S_box rfl rfl rfl (v := .agg #[.bool s, vn, vd]) (rfl) (cs := [(.bool s), vn, vd]) rfl ?_
 intro g1 w1 hg1 hs1 hB1 b1
 have hz1 := hB1.size
 have E := Below.step E hB1
 refine S_assign rfl rfl rfl (v := (.bool false)) (rfl) ?_
 refine OPS.nil ?_
 change WP _ _ _ _ _ _
 refine W_seq ?_
 refine W_region rfl ?_
 refine S_field ft_api_Rat_0 rfl rfl rfl (g := g1) (o := 0) (rfl) (o' := 0) rfl ?_
 refine S_load rfl rfl rfl (rfl) (LD.blk ti_api_Int b1 (l := [(.bool s), vn]) rfl rfl) ?_
 refine S_call en_ints_Check rfl rfl rfl (vs := [(.agg #[(.bool s), vn])]) (rfl) (intsCheck_c _ s vn ln (hn.below E)) ?_
 rintro _ w2 ⟨hB2, rfl⟩
 have hz2 := hB2.size
 have E := Below.step E hB2
 have hl_b1 := b1.lt
 have b1 := b1.below hB2
 refine S_move rfl rfl rfl (v := (.bool (okI s ln))) (rfl) ?_
 rcases Bool.eq_false_or_eq_true (okI s ln) with pT | pF
 ·skip
  rw [pT]
  refine S_field ft_api_Rat_1 rfl rfl rfl (g := g1) (o := 0) (rfl) (o' := 2) rfl ?_
  refine S_load rfl rfl rfl (rfl) (LD.blk1 ti_api_Nat b1 (v := vd) rfl) ?_
  refine S_call en_nats_Check rfl rfl rfl (vs := [vd]) (rfl) (natsCheck_c _ _ ld (hd.below E)) ?_
  rintro _ _ ⟨rfl, rfl⟩
  refine S_pick rfl rfl rfl rfl rfl (b := true) (rfl) (v := (.bool (okL ld))) (rfl) ?_
  refine S_move rfl rfl rfl (v := (.bool (okL ld))) (rfl) ?_
  rcases Bool.eq_false_or_eq_true (okL ld) with pTT | pTF
  ·skip
   rw [pTT]
   refine S_field ft_api_Rat_1 rfl rfl rfl (g := g1) (o := 0) (rfl) (o' := 2) rfl ?_
   refine S_load rfl rfl rfl (rfl) (LD.blk1 ti_api_Nat b1 (v := vd) rfl) ?_
   refine S_len Tryz.underlying23 rfl rfl rfl (rfl) (m := ld.length) (hd.len) ?_
   refine S_bin rfl rfl rfl rfl rfl (rfl) (rfl) (v := .bool (decide ((ld.length : Int) > 0))) rfl ?_
   refine S_pick rfl rfl rfl rfl rfl (b := true) (rfl) (v := (.bool (decide ((ld.length : Int) > 0)))) (rfl) ?_
   refine S_move rfl rfl rfl (v := (.bool (decide ((ld.length : Int) > 0)))) (rfl) ?_
   rcases Bool.eq_false_or_eq_true (decide ((ld.length : Int) > 0)) with pTTT | pTTF
   ·skip
    rw [pTTT]
    have qTTT := of_decide_eq_true pTTT
    refine S_field ft_api_Rat_0 rfl rfl rfl (g := g1) (o := 0) (rfl) (o' := 0) rfl ?_
    refine S_field ft_api_Int_1 rfl rfl rfl (g := g1) (o := 0) (rfl) (o' := 1) rfl ?_
    refine S_load rfl rfl rfl (rfl) (LD.blk1 ti_api_Nat b1 (v := vn) rfl) ?_
    refine S_field ft_api_Rat_1 rfl rfl rfl (g := g1) (o := 0) (rfl) (o' := 2) rfl ?_
    refine S_load rfl rfl rfl (rfl) (LD.blk1 ti_api_Nat b1 (v := vd) rfl) ?_
    refine S_call en_nats_Gcd rfl rfl rfl (vs := [vn, vd]) (rfl) (natsGcd_c _ _ _ ln ld (hn.below E) (hd.below E) hsn hsd (hT.below E)) ?_
    rintro vh1 w3 ⟨hB3, h1⟩
    have hz3 := hB3.size
    have E := Below.step E hB3
    have hl_b1 := b1.lt
    have b1 := b1.below hB3
    refine S_call en_rats_is1 rfl rfl rfl (vs := [vh1]) (rfl) (ratsIs1_c _ _ _ h1.r) ?_
    rintro _ _ ⟨rfl, rfl⟩
    refine S_pick rfl rfl rfl rfl rfl (b := true) (rfl) (v := (.bool (isOne (dg (Nat.gcd (nv ln) (nv ld)))))) (rfl) ?_
    refine S_assign rfl rfl rfl (v := (.bool (isOne (dg (Nat.gcd (nv ln) (nv ld)))))) (rfl) ?_
    refine OPS.nil ?_
    change WP _ _ _ _ _ _
    refine W_ret ?_
    change Fin' _ _ _ _ _ _
    refine End1 (n := ⟨26, []⟩) (t := 2) rfl (by decide) (v := (.bool (isOne (dg (Nat.gcd (nv ln) (nv ld)))))) (rfl) ?_
    have h0 : 0 < ld.length := by have := qTTT; omega
    have h1 : okL ln = true := by unfold okI at pT; simp_all
    rw [nv_ok h1, nv_ok pTT]
    refine ⟨E, congrArg Value.bool ?_⟩
    unfold okQ isOne
    rw [show okI s ln = true from pT, show okL ld = true from pTT, show decide (0 < ld.length) = true from decide_eq_true h0]
    simp only [Bool.true_and]
    exact decide_eq_decide.2 dg_one
   ·skip
    rw [pTTF]
    have qTTF := of_decide_eq_false pTTF
    refine S_skip (d := 18) (op := .fieldAddr _ _ _) (gd := some (14, true)) rfl (wg_off rfl (rfl) rfl) ?_
    refine S_skip (d := 19) (op := .fieldAddr _ _ _) (gd := some (14, true)) rfl (wg_off rfl (rfl) rfl) ?_
    refine S_skip (d := 20) (op := .load _ _) (gd := some (14, true)) rfl (wg_off rfl (rfl) rfl) ?_
    refine S_skip (d := 21) (op := .fieldAddr _ _ _) (gd := some (14, true)) rfl (wg_off rfl (rfl) rfl) ?_
    refine S_skip (d := 22) (op := .load _ _) (gd := some (14, true)) rfl (wg_off rfl (rfl) rfl) ?_
    refine S_skip (d := 23) (op := .call _) (gd := some (14, true)) rfl (wg_off rfl (rfl) rfl) ?_
    refine S_skip (d := 24) (op := .call _) (gd := some (14, true)) rfl (wg_off rfl (rfl) rfl) ?_
    refine S_pick rfl rfl rfl rfl rfl (b := false) (rfl) (v := (.bool false)) (rfl) ?_
    refine S_assign rfl rfl rfl (v := (.bool false)) (rfl) ?_
    refine OPS.nil ?_
    change WP _ _ _ _ _ _
    refine W_ret ?_
    change Fin' _ _ _ _ _ _
    refine End1 (n := ⟨26, []⟩) (t := 2) rfl (by decide) (v := (.bool false)) (rfl) ?_
    have h0 : ¬ 0 < ld.length := by have := qTTF; omega
    exact ⟨E, by rw [show okQ ⟨s, ln, ld⟩ = false by unfold okQ; simp [h0]]⟩
  ·skip
   rw [pTF]
   refine S_skip (d := 12) (op := .fieldAddr _ _ _) (gd := some (8, true)) rfl (wg_off rfl (rfl) rfl) ?_
   refine S_skip (d := 13) (op := .load _ _) (gd := some (8, true)) rfl (wg_off rfl (rfl) rfl) ?_
   refine S_skip (d := 14) (op := .call _) (gd := some (8, true)) rfl (wg_off rfl (rfl) rfl) ?_
   refine S_skip (d := 15) (op := .binOp _ _ _ _ _) (gd := some (8, true)) rfl (wg_off rfl (rfl) rfl) ?_
   refine S_pick rfl rfl rfl rfl rfl (b := false) (rfl) (v := (.bool false)) (rfl) ?_
   refine S_move rfl rfl rfl (v := (.bool false)) (rfl) ?_
   refine S_skip (d := 18) (op := .fieldAddr _ _ _) (gd := some (14, true)) rfl (wg_off rfl (rfl) rfl) ?_
   refine S_skip (d := 19) (op := .fieldAddr _ _ _) (gd := some (14, true)) rfl (wg_off rfl (rfl) rfl) ?_
   refine S_skip (d := 20) (op := .load _ _) (gd := some (14, true)) rfl (wg_off rfl (rfl) rfl) ?_
   refine S_skip (d := 21) (op := .fieldAddr _ _ _) (gd := some (14, true)) rfl (wg_off rfl (rfl) rfl) ?_
   refine S_skip (d := 22) (op := .load _ _) (gd := some (14, true)) rfl (wg_off rfl (rfl) rfl) ?_
   refine S_skip (d := 23) (op := .call _) (gd := some (14, true)) rfl (wg_off rfl (rfl) rfl) ?_
   refine S_skip (d := 24) (op := .call _) (gd := some (14, true)) rfl (wg_off rfl (rfl) rfl) ?_
   refine S_pick rfl rfl rfl rfl rfl (b := false) (rfl) (v := (.bool false)) (rfl) ?_
   refine S_assign rfl rfl rfl (v := (.bool false)) (rfl) ?_
   refine OPS.nil ?_
   change WP _ _ _ _ _ _
   refine W_ret ?_
   change Fin' _ _ _ _ _ _
   refine End1 (n := ⟨26, []⟩) (t := 2) rfl (by decide) (v := (.bool false)) (rfl) ?_
   exact ⟨E, by rw [show okQ ⟨s, ln, ld⟩ = false by unfold okQ; simp_all]⟩
 ·skip
  rw [pF]
  refine S_skip (d := 7) (op := .fieldAddr _ _ _) (gd := some (3, true)) rfl (wg_off rfl (rfl) rfl) ?_
  refine S_skip (d := 8) (op := .load _ _) (gd := some (3, true)) rfl (wg_off rfl (rfl) rfl) ?_
  refine S_skip (d := 9) (op := .call _) (gd := some (3, true)) rfl (wg_off rfl (rfl) rfl) ?_
  refine S_pick rfl rfl rfl rfl rfl (b := false) (rfl) (v := (.bool false)) (rfl) ?_
  refine S_move rfl rfl rfl (v := (.bool false)) (rfl) ?_
  refine S_skip (d := 12) (op := .fieldAddr _ _ _) (gd := some (8, true)) rfl (wg_off rfl (rfl) rfl) ?_
  refine S_skip (d := 13) (op := .load _ _) (gd := some (8, true)) rfl (wg_off rfl (rfl) rfl) ?_
  refine S_skip (d := 14) (op := .call _) (gd := some (8, true)) rfl (wg_off rfl (rfl) rfl) ?_
  refine S_skip (d := 15) (op := .binOp _ _ _ _ _) (gd := some (8, true)) rfl (wg_off rfl (rfl) rfl) ?_
  refine S_pick rfl rfl rfl rfl rfl (b := false) (rfl) (v := (.bool false)) (rfl) ?_
  refine S_move rfl rfl rfl (v := (.bool false)) (rfl) ?_
  refine S_skip (d := 18) (op := .fieldAddr _ _ _) (gd := some (14, true)) rfl (wg_off rfl (rfl) rfl) ?_
  refine S_skip (d := 19) (op := .fieldAddr _ _ _) (gd := some (14, true)) rfl (wg_off rfl (rfl) rfl) ?_
  refine S_skip (d := 20) (op := .load _ _) (gd := some (14, true)) rfl (wg_off rfl (rfl) rfl) ?_
  refine S_skip (d := 21) (op := .fieldAddr _ _ _) (gd := some (14, true)) rfl (wg_off rfl (rfl) rfl) ?_
  refine S_skip (d := 22) (op := .load _ _) (gd := some (14, true)) rfl (wg_off rfl (rfl) rfl) ?_
  refine S_skip (d := 23) (op := .call _) (gd := some (14, true)) rfl (wg_off rfl (rfl) rfl) ?_
  refine S_skip (d := 24) (op := .call _) (gd := some (14, true)) rfl (wg_off rfl (rfl) rfl) ?_
  refine S_pick rfl rfl rfl rfl rfl (b := false) (rfl) (v := (.bool false)) (rfl) ?_
  refine S_assign rfl rfl rfl (v := (.bool false)) (rfl) ?_
  refine OPS.nil ?_
  change WP _ _ _ _ _ _
  refine W_ret ?_
  change Fin' _ _ _ _ _ _
  refine End1 (n := ⟨26, []⟩) (t := 2) rfl (by decide) (v := (.bool false)) (rfl) ?_
  exact ⟨E, by rw [show okQ ⟨s, ln, ld⟩ = false by unfold okQ; simp_all]⟩

set_option maxHeartbeats 400000 in
theorem ratsof_c (w0 : World) (s : Bool) (vn vd : Value) (ln ld : List Int) {a b a2 b2 : Nat} (hn : RN a b w0 vn ln) (hd : RN a2 b2 w0 vd ld) (hsn : ln.length ≤ SZ) (hsd : ld.length ≤ SZ) (hT : Tab w0) :
    Ret Tryz.prog 197 [.agg #[.bool s, vn, vd]] w0 (fun r w1 => Below w0.heap.size w0 w1 ∧ ∃ un ud, r = .agg #[.bool (decide (qn ⟨s, ln, ld⟩ < 0)), un, ud] ∧ ∀ a b, b ≤ w0.heap.size → RN a b w0 vn ln → RN a b w0 vd ld → RN a b w1 un (dg (qn ⟨s, ln, ld⟩).natAbs) ∧ RN a b w1 ud (dg (qd ⟨s, ln, ld⟩))) := by
 have E := Below.refl w0.heap.size w0
 refine Ret_of (n := 7) Tryz.func197 rfl rfl (Nat.le_of_ble_eq_true rfl) ?_
 refine W_seq ?_
 refine W_region rfl ?_
 refine S_box rfl rfl rfl (v := .agg #[.bool s, vn, vd]) (rfl) (cs := [(.bool s), vn, vd]) rfl ?_
 intro g1 w1 hg1 hs1 hB1 b1
 have hz1 := hB1.size
 have E := Below.step E hB1
 refine S_alloc ti_api_Rat rfl rfl (cs := [.bool false, .slice none 0 0, .slice none 0 0]) rfl ?_
 intro g2 w2 hg2 hs2 hB2 b2
 have hz2 := hB2.size
 have E := Below.step E hB2
 have hl_b1 := b1.lt
 have b1 := b1.below hB2
 refine OPS.nil ?_
 change WP _ _ _ _ _ _
 refine W_seq ?_
 refine W_seq ?_
 refine W_region rfl ?_
 refine S_load rfl rfl rfl (rfl) (LD.blk ti_api_Rat b1 (l := [(.bool s), vn, vd]) rfl rfl) ?_
 refine S_call en_rats_Check rfl rfl rfl (vs := [(.agg #[(.bool s), vn, vd])]) (rfl) (ratsCheck_c _ s vn vd ln ld (hn.below E) (hd.below E) hsn hsd (hT.below E)) ?_
 rintro _ w3 ⟨hB3, rfl⟩
 have hz3 := hB3.size
 have E := Below.step E hB3
 have hl_b1 := b1.lt
 have b1 := b1.below hB3
 have hl_b2 := b2.lt
 have b2 := b2.below hB3
 refine OPS.nil ?_
 change WP _ _ _ _ _ _
 refine W_cond rfl (rfl) (fun hq4 => ?_) (fun hq4 => ?_)
 ·skip
  have pT := hq4
  skip
  try rw [pT]
  refine W_seq ?_
  refine W_region rfl ?_
  refine S_load rfl rfl rfl (rfl) (LD.blk ti_api_Rat b1 (l := [(.bool s), vn, vd]) rfl rfl) ?_
  refine S_store ti_api_Rat rfl rfl rfl rfl (g := g2) (o := 0) (rfl) (v := (.agg #[(.bool s), vn, vd])) (rfl) (vs := [(.bool s), vn, vd]) rfl rfl (one3 (rfl) (hn.one_) (hd.one_)) b2 (by simp) (cs' := [(.bool s), vn, vd]) rfl ?_
  intro w4 hU4 b2
  have E := Below.stepU E hU4 (by omega)
  have b1 := b1.upd hU4 (by omega)
  have hz4 := hU4.size
  refine OPS.nil ?_
  change WP _ _ _ _ _ _
  refine W_ret ?_
  change Fin' _ _ _ _ _ _
  refine EndC (n := ⟨7, []⟩) (t := 2) rfl (by decide) (rfl) (LD.blk ti_api_Rat b2 (l := [(.bool s), vn, vd]) rfl rfl) ?_
  have h9 : okQ ⟨s, ln, ld⟩ = true := by simpa using pT
  have h8 := (okQ_spec h9 ⟨hn.u32, hd.u32⟩).1
  have e1 : s = decide (qn ⟨s, ln, ld⟩ < 0) := congrArg Q.neg h8
  have e2 : ln = dg (qn ⟨s, ln, ld⟩).natAbs := congrArg Q.n h8
  have e3 : ld = dg (qd ⟨s, ln, ld⟩) := congrArg Q.d h8
  refine ⟨E, vn, vd, by rw [← e1], fun a b hb h1 h2 => ?_⟩
  rw [← e2, ← e3]
  exact ⟨h1.below E, h2.below E⟩
 ·skip
  have pF := hq4
  skip
  try rw [pF]
  refine W_skip ?_
  change WP _ _ _ _ _ _
  refine W_seq ?_
  refine W_region rfl ?_
  refine S_call en_rats_Of rfl rfl rfl (vs := [(.int .i64 0)]) (rfl) (ratsOf0_c _) ?_
  rintro _ w5 ⟨hB5, zn, zd, rfl, hz1, hz2, -⟩
  have hz5 := hB5.size
  have E := Below.step E hB5
  have hl_b1 := b1.lt
  have b1 := b1.below hB5
  have hl_b2 := b2.lt
  have b2 := b2.below hB5
  obtain ⟨An, cn, rfl, -, -⟩ := hz1.r.form
  obtain ⟨Ad, cd, rfl, -, -⟩ := hz2.r.form
  have hkz1 := hz1.bkB
  have hkz2 := hz2.bkB
  refine S_store ti_api_Rat rfl rfl rfl rfl (g := g2) (o := 0) (rfl) (v := (.agg #[.bool false, (.slice An ([] : List Int).length cn), (.slice Ad ([1] : List Int).length cd)])) (rfl) (vs := [(.bool false), (.slice An ([] : List Int).length cn), (.slice Ad ([1] : List Int).length cd)]) rfl rfl (one3 (rfl) (rfl) (rfl)) b2 (by simp) (cs' := [(.bool false), (.slice An ([] : List Int).length cn), (.slice Ad ([1] : List Int).length cd)]) rfl ?_
  intro w6 hU6 b2
  have E := Below.stepU E hU6 (by omega)
  have b1 := b1.upd hU6 (by omega)
  have hz1 := hz1.updN hU6 (fun g hg => by have := hkz1 g hg; omega)
  have hz2 := hz2.updN hU6 (fun g hg => by have := hkz2 g hg; omega)
  have hz6 := hU6.size
  refine OPS.nil ?_
  change WP _ _ _ _ _ _
  refine W_ret ?_
  change Fin' _ _ _ _ _ _
  refine EndC (n := ⟨7, []⟩) (t := 2) rfl (by decide) (rfl) (LD.blk ti_api_Rat b2 (l := [(.bool false), (.slice An ([] : List Int).length cn), (.slice Ad ([1] : List Int).length cd)]) rfl rfl) ?_
  have h9 : okQ ⟨s, ln, ld⟩ = false := by simpa using pF
  have h8 := okQ_not h9
  rw [h8.1, h8.2, dg_one.2 rfl, show (0 : Int).natAbs = 0 from rfl, dg_zero]
  exact ⟨E, _, _, rfl, fun a b hb _ _ => ⟨hz1.r.weak (Nat.zero_le _) (by omega), hz2.r.weak (Nat.zero_le _) (by omega)⟩⟩

end Go.Proofs.YtccmicegihlfbaaGreatDoor

/- Fractions: lowest terms, making. -/
namespace Go.Proofs.YtccmicegihlfbaaGreatDoor
open Go.RowKit

set_option maxHeartbeats 1000000 in
theorem ratsLowest_c (w0 : World) (z : Int) (m : Nat) (vz vm : Value) {a b a2 b2 : Nat} (hz : RN a b w0 vz (dg z.natAbs)) (hv : RN a2 b2 w0 vm (dg m)) (hsz : (dg z.natAbs).length < SZ) (hsm : (dg m).length < SZ) (hm : 0 < m) (hT : Tab w0) :
    Ret Tryz.prog 174 [.agg #[.bool (decide (z < 0)), vz], vm] w0 (fun r w1 => Below w0.heap.size w0 w1 ∧ OQ w0.heap.size w1 r (lowQ z m)) := by
 have E := Below.refl w0.heap.size w0
 have hsz1 := Nat.le_of_lt hsz
 have hsm1 := Nat.le_of_lt hsm
 have hgp : 0 < (Nat.gcd z.natAbs m) := Nat.gcd_pos_of_pos_right _ hm
 have hgd : (Nat.gcd z.natAbs m) ∣ z.natAbs := Nat.gcd_dvd_left _ _
 have hgl : (dg (Nat.gcd z.natAbs m)).length ≤ SZ := Nat.le_trans (dg_length_mono (Nat.gcd_le_right z.natAbs hm)) hsm1
 refine Ret_of (n := 42) Tryz.func174 rfl rfl (Nat.le_of_ble_eq_true rfl) ?_
 refine W_seq ?_
 refine W_region rfl ?_
 refine S_box rfl rfl rfl (v := .agg #[.bool (decide (z < 0)), vz]) (rfl) (cs := [(.bool (decide (z < 0))), vz]) rfl ?_
 intro g1 w1 hg1 hs1 hB1 b1
 have hz1 := hB1.size
 have E := Below.step E hB1
 refine S_alloc ti_api_Rat rfl rfl (cs := [.bool false, .slice none 0 0, .slice none 0 0]) rfl ?_
 intro g2 w2 hg2 hs2 hB2 b2
 have hz2 := hB2.size
 have E := Below.step E hB2
 have hl_b1 := b1.lt
 have b1 := b1.below hB2
 refine OPS.nil ?_
 change WP _ _ _ _ _ _
 refine W_seq ?_
 refine W_region rfl ?_
 refine S_field ft_api_Int_1 rfl rfl rfl (g := g1) (o := 0) (rfl) (o' := 1) rfl ?_
 refine S_load rfl rfl rfl (rfl) (LD.blk1 ti_api_Nat b1 (v := vz) rfl) ?_
 refine S_move rfl rfl rfl (v := vm) (rfl) ?_
 refine S_call en_nats_Gcd rfl rfl rfl (vs := [vz, vm]) (rfl) (natsGcd_d (hz.below E) (hv.below E) hsz1 hsm1 (hT.below E)) ?_
 rintro vh1 w3 ⟨hB3, h1⟩
 have hz3 := hB3.size
 have E := Below.step E hB3
 have hl_b1 := b1.lt
 have b1 := b1.below hB3
 have hl_b2 := b2.lt
 have b2 := b2.below hB3
 refine S_assign rfl rfl rfl (v := vh1) (rfl) ?_
 refine OPS.nil ?_
 change WP _ _ _ _ _ _
 refine W_seq ?_
 refine W_region rfl ?_
 refine S_field ft_api_Int_1 rfl rfl rfl (g := g1) (o := 0) (rfl) (o' := 1) rfl ?_
 refine S_load rfl rfl rfl (rfl) (LD.blk1 ti_api_Nat b1 (v := vz) rfl) ?_
 refine S_move rfl rfl rfl (v := vh1) (rfl) ?_
 refine S_call en_nats_Div rfl rfl rfl (vs := [vz, vh1]) (rfl) (natsDiv_d (hz.below E) h1.r hsz hgl hgp) ?_
 rintro _ w4 ⟨hB4, vh2, xh2, rfl, h2⟩
 have hz4 := hB4.size
 have E := Below.step E hB4
 have hl_b1 := b1.lt
 have b1 := b1.below hB4
 have hl_b2 := b2.lt
 have b2 := b2.below hB4
 have h1 := h1.below hB4
 have hkh2 := h2.bkB
 obtain ⟨Ah2, ch2, rfl, -, -⟩ := h2.r.form
 refine S_move rfl rfl rfl (v := (.tuple #[(.slice Ah2 ((dg (z.natAbs / (Nat.gcd z.natAbs m)))).length ch2), xh2, .int .i64 0])) (rfl) ?_
 refine S_extract rfl rfl rfl (rfl) rfl ?_
 refine S_extract rfl rfl rfl (rfl) rfl ?_
 refine S_extract rfl rfl rfl (rfl) rfl ?_
 refine S_assign rfl rfl rfl (v := (.slice Ah2 ((dg (z.natAbs / (Nat.gcd z.natAbs m)))).length ch2)) (rfl) ?_
 refine S_assign rfl rfl rfl (v := xh2) (rfl) ?_
 refine S_assign rfl rfl rfl (v := (.int .i64 0)) (rfl) ?_
 refine OPS.nil ?_
 change WP _ _ _ _ _ _
 refine W_seq ?_
 refine W_region rfl ?_
 refine S_move rfl rfl rfl (v := vm) (rfl) ?_
 refine S_move rfl rfl rfl (v := vh1) (rfl) ?_
 refine S_call en_nats_Div rfl rfl rfl (vs := [vm, vh1]) (rfl) (natsDiv_d (hv.below E) h1.r hsm hgl hgp) ?_
 rintro _ w5 ⟨hB5, vh3, xh3, rfl, h3⟩
 have hz5 := hB5.size
 have E := Below.step E hB5
 have hl_b1 := b1.lt
 have b1 := b1.below hB5
 have hl_b2 := b2.lt
 have b2 := b2.below hB5
 have h1 := h1.below hB5
 have h2 := h2.below hB5
 have hkh3 := h3.bkB
 obtain ⟨Ah3, ch3, rfl, -, -⟩ := h3.r.form
 refine S_move rfl rfl rfl (v := (.tuple #[(.slice Ah3 ((dg (m / (Nat.gcd z.natAbs m)))).length ch3), xh3, .int .i64 0])) (rfl) ?_
 refine S_extract rfl rfl rfl (rfl) rfl ?_
 refine S_extract rfl rfl rfl (rfl) rfl ?_
 refine S_extract rfl rfl rfl (rfl) rfl ?_
 refine S_assign rfl rfl rfl (v := (.slice Ah3 ((dg (m / (Nat.gcd z.natAbs m)))).length ch3)) (rfl) ?_
 refine S_assign rfl rfl rfl (v := xh3) (rfl) ?_
 refine S_assign rfl rfl rfl (v := (.int .i64 0)) (rfl) ?_
 refine OPS.nil ?_
 change WP _ _ _ _ _ _
 refine W_seq ?_
 refine W_region rfl ?_
 refine S_field ft_api_Int_0 rfl rfl rfl (g := g1) (o := 0) (rfl) (o' := 0) rfl ?_
 refine S_load rfl rfl rfl (rfl) (LD.blk1 ti_bool b1 (v := (.bool (decide (z < 0)))) rfl) ?_
 refine S_move rfl rfl rfl (v := (.bool (decide (z < 0)))) (rfl) ?_
 rcases Bool.eq_false_or_eq_true (decide (z < 0)) with pT | pF
 ·skip
  rw [pT]
  refine S_move rfl rfl rfl (v := (.slice Ah2 ((dg (z.natAbs / (Nat.gcd z.natAbs m)))).length ch2)) (rfl) ?_
  refine S_len Tryz.underlying23 rfl rfl rfl (rfl) (m := (dg (z.natAbs / (Nat.gcd z.natAbs m))).length) (h2.r.len) ?_
  refine S_bin rfl rfl rfl rfl rfl (rfl) (rfl) (v := .bool (decide (((dg (z.natAbs / (Nat.gcd z.natAbs m))).length : Int) > 0))) rfl ?_
  refine S_pick rfl rfl rfl rfl rfl (b := true) (rfl) (v := (.bool (decide (((dg (z.natAbs / (Nat.gcd z.natAbs m))).length : Int) > 0)))) (rfl) ?_
  refine S_move rfl rfl rfl (v := (.slice Ah2 ((dg (z.natAbs / (Nat.gcd z.natAbs m)))).length ch2)) (rfl) ?_
  refine S_build rfl rfl rfl (cs := [(.bool (decide (((dg (z.natAbs / (Nat.gcd z.natAbs m))).length : Int) > 0))), (.slice Ah2 ((dg (z.natAbs / (Nat.gcd z.natAbs m)))).length ch2)]) (by kernel_rfl) ?_
  refine S_move rfl rfl rfl (v := (.slice Ah3 ((dg (m / (Nat.gcd z.natAbs m)))).length ch3)) (rfl) ?_
  refine S_build rfl rfl rfl (cs := [(.bool (decide (((dg (z.natAbs / (Nat.gcd z.natAbs m))).length : Int) > 0))), (.slice Ah2 ((dg (z.natAbs / (Nat.gcd z.natAbs m)))).length ch2), (.slice Ah3 ((dg (m / (Nat.gcd z.natAbs m)))).length ch3)]) (by kernel_rfl) ?_
  refine S_store ti_api_Rat rfl rfl rfl rfl (g := g2) (o := 0) (rfl) (v := (.agg #[(.bool (decide (((dg (z.natAbs / (Nat.gcd z.natAbs m))).length : Int) > 0))), (.slice Ah2 ((dg (z.natAbs / (Nat.gcd z.natAbs m)))).length ch2), (.slice Ah3 ((dg (m / (Nat.gcd z.natAbs m)))).length ch3)])) (rfl) (vs := [(.bool (decide (((dg (z.natAbs / (Nat.gcd z.natAbs m))).length : Int) > 0))), (.slice Ah2 ((dg (z.natAbs / (Nat.gcd z.natAbs m)))).length ch2), (.slice Ah3 ((dg (m / (Nat.gcd z.natAbs m)))).length ch3)]) rfl rfl (one3 (rfl) (rfl) (rfl)) b2 (by simp) (cs' := [(.bool (decide (((dg (z.natAbs / (Nat.gcd z.natAbs m))).length : Int) > 0))), (.slice Ah2 ((dg (z.natAbs / (Nat.gcd z.natAbs m)))).length ch2), (.slice Ah3 ((dg (m / (Nat.gcd z.natAbs m)))).length ch3)]) rfl ?_
  intro w6 hU6 b2
  have E := Below.stepU E hU6 (by omega)
  have b1 := b1.upd hU6 (by omega)
  have h1 := h1.upd hU6 (by omega) (by omega)
  have h2 := h2.upd hU6 (by omega) (by omega)
  have h3 := h3.upd hU6 (by omega) (by omega)
  have hz6 := hU6.size
  refine OPS.nil ?_
  change WP _ _ _ _ _ _
  refine W_ret ?_
  change Fin' _ _ _ _ _ _
  refine EndC (n := ⟨42, []⟩) (t := 4) rfl (by decide) (rfl) (LD.blk ti_api_Rat b2 (l := [(.bool (decide (((dg (z.natAbs / (Nat.gcd z.natAbs m))).length : Int) > 0))), (.slice Ah2 ((dg (z.natAbs / (Nat.gcd z.natAbs m)))).length ch2), (.slice Ah3 ((dg (m / (Nat.gcd z.natAbs m)))).length ch3)]) rfl rfl) ?_
  have h9 := neg_low (z := z) hgp hgd
  rw [pT, Bool.true_and] at h9
  refine ⟨E, _, _, congrArg (fun c => Value.agg #[.bool c, _, _]) (h9.trans pT.symm), h2.mono (by omega), h3.mono (by omega), Dj.lt (fun g hg => (hkh2 g hg).2) (fun g hg => by have := (h3.bkB g hg).1; omega)⟩
 ·skip
  rw [pF]
  refine S_skip (d := 34) (op := .move _) (gd := some (2, true)) rfl (wg_off rfl (rfl) rfl) ?_
  refine S_skip (d := 35) (op := .call _) (gd := some (2, true)) rfl (wg_off rfl (rfl) rfl) ?_
  refine S_skip (d := 36) (op := .binOp _ _ _ _ _) (gd := some (2, true)) rfl (wg_off rfl (rfl) rfl) ?_
  refine S_pick rfl rfl rfl rfl rfl (b := false) (rfl) (v := (.bool false)) (rfl) ?_
  refine S_move rfl rfl rfl (v := (.slice Ah2 ((dg (z.natAbs / (Nat.gcd z.natAbs m)))).length ch2)) (rfl) ?_
  refine S_build rfl rfl rfl (cs := [(.bool false), (.slice Ah2 ((dg (z.natAbs / (Nat.gcd z.natAbs m)))).length ch2)]) (by kernel_rfl) ?_
  refine S_move rfl rfl rfl (v := (.slice Ah3 ((dg (m / (Nat.gcd z.natAbs m)))).length ch3)) (rfl) ?_
  refine S_build rfl rfl rfl (cs := [(.bool false), (.slice Ah2 ((dg (z.natAbs / (Nat.gcd z.natAbs m)))).length ch2), (.slice Ah3 ((dg (m / (Nat.gcd z.natAbs m)))).length ch3)]) (by kernel_rfl) ?_
  refine S_store ti_api_Rat rfl rfl rfl rfl (g := g2) (o := 0) (rfl) (v := (.agg #[(.bool false), (.slice Ah2 ((dg (z.natAbs / (Nat.gcd z.natAbs m)))).length ch2), (.slice Ah3 ((dg (m / (Nat.gcd z.natAbs m)))).length ch3)])) (rfl) (vs := [(.bool false), (.slice Ah2 ((dg (z.natAbs / (Nat.gcd z.natAbs m)))).length ch2), (.slice Ah3 ((dg (m / (Nat.gcd z.natAbs m)))).length ch3)]) rfl rfl (one3 (rfl) (rfl) (rfl)) b2 (by simp) (cs' := [(.bool false), (.slice Ah2 ((dg (z.natAbs / (Nat.gcd z.natAbs m)))).length ch2), (.slice Ah3 ((dg (m / (Nat.gcd z.natAbs m)))).length ch3)]) rfl ?_
  intro w7 hU7 b2
  have E := Below.stepU E hU7 (by omega)
  have b1 := b1.upd hU7 (by omega)
  have h1 := h1.upd hU7 (by omega) (by omega)
  have h2 := h2.upd hU7 (by omega) (by omega)
  have h3 := h3.upd hU7 (by omega) (by omega)
  have hz7 := hU7.size
  refine OPS.nil ?_
  change WP _ _ _ _ _ _
  refine W_ret ?_
  change Fin' _ _ _ _ _ _
  refine EndC (n := ⟨42, []⟩) (t := 4) rfl (by decide) (rfl) (LD.blk ti_api_Rat b2 (l := [(.bool false), (.slice Ah2 ((dg (z.natAbs / (Nat.gcd z.natAbs m)))).length ch2), (.slice Ah3 ((dg (m / (Nat.gcd z.natAbs m)))).length ch3)]) rfl rfl) ?_
  refine ⟨E, _, _, congrArg (fun c => Value.agg #[.bool c, _, _]) pF.symm, h2.mono (by omega), h3.mono (by omega), Dj.lt (fun g hg => (hkh2 g hg).2) (fun g hg => by have := (h3.bkB g hg).1; omega)⟩


/-- What the making of a fraction says, and makes. -/
def makeE (s : Bool) (la : List Int) (t : Bool) (lb : List Int) : Int := if okI s la && okI t lb then (if zv t lb = 0 then 10 else 0) else 1
def makeQ (x y : Int) : Q := lowQ (if y < 0 then -x else x) y.natAbs
def noQ : Q := ⟨false, [], []⟩
theorem ratsLowest_g (w0 : World) (s : Bool) (l : List Int) (m : Nat) (vz vm : Value) {a b a2 b2 : Nat} (hk : okI s l = true) (hz : RN a b w0 vz l) (hv : RN a2 b2 w0 vm (dg m)) (hsz : l.length < SZ) (hsm : (dg m).length < SZ) (hm : 0 < m) (hT : Tab w0) :
    Ret Tryz.prog 174 [.agg #[.bool s, vz], vm] w0 (fun r w1 => Below w0.heap.size w0 w1 ∧ OQ w0.heap.size w1 r (lowQ (zv s l) m)) := by
  obtain ⟨e1, e2⟩ := zv_ok hk hz.u32
  have := ratsLowest_c w0 (zv s l) m vz vm (by rw [← e2]; exact hz) hv (by rw [← e2]; exact hsz) hsm hm hT
  rwa [← e1] at this
theorem OQ.nil (B : Nat) (w : World) : OQ B w (.agg #[.bool false, .slice none 0 0, .slice none 0 0]) noQ := ⟨_, _, rfl, ON.nil _ _, ON.nil _ _, fun g h => nomatch (show (none : Option Nat) = some g from h)⟩
theorem OQ.mono {B B' : Nat} {w : World} {v : Value} {q : Q} (h : OQ B w v q) (hB : B' ≤ B) : OQ B' w v q := by
  obtain ⟨vn, vd, h1, h2, h3, h4⟩ := h
  exact ⟨vn, vd, h1, h2.mono hB, h3.mono hB, h4⟩


theorem cmpZ_0 {x : Int} : cmpZ x 0 = 0 ↔ x = 0 := by unfold cmpZ; split <;> (try split) <;> omega

set_option maxHeartbeats 1000000 in
theorem ratsMake_c (w0 : World) (s t : Bool) (va vb : Value) (la lb : List Int) {a b a' b' : Nat} (ha : RN a b w0 va la) (hb : RN a' b' w0 vb lb) (hsa : la.length < SZ) (hsb : lb.length < SZ) (hT : Tab w0) :
    Ret Tryz.prog 48 [.agg #[.bool s, va], .agg #[.bool t, vb]] w0 (fun r w1 => Below w0.heap.size w0 w1 ∧ ∃ v, r = .tuple #[v, .int .i64 (makeE s la t lb)] ∧ OQ w0.heap.size w1 v (if makeE s la t lb = 0 then makeQ (zv s la) (zv t lb) else noQ)) := by
 have E := Below.refl w0.heap.size w0
 have hsa1 := Nat.le_of_lt hsa
 have hsb1 := Nat.le_of_lt hsb
 refine Ret_of (n := 30) Tryz.func48 rfl rfl (Nat.le_of_ble_eq_true rfl) ?_
 refine W_seq ?_
 refine W_region rfl ?_
 refine S_box rfl rfl rfl (v := .agg #[.bool s, va]) (rfl) (cs := [(.bool s), va]) rfl ?_
 intro g1 w1 hg1 hs1 hB1 b1
 have hz1 := hB1.size
 have E := Below.step E hB1
 refine S_box rfl rfl rfl (v := .agg #[.bool t, vb]) (rfl) (cs := [(.bool t), vb]) rfl ?_
 intro g2 w2 hg2 hs2 hB2 b2
 have hz2 := hB2.size
 have E := Below.step E hB2
 have hl_b1 := b1.lt
 have b1 := b1.below hB2
 refine S_alloc ti_api_Rat rfl rfl (cs := [.bool false, .slice none 0 0, .slice none 0 0]) rfl ?_
 intro g3 w3 hg3 hs3 hB3 b3
 have hz3 := hB3.size
 have E := Below.step E hB3
 have hl_b1 := b1.lt
 have b1 := b1.below hB3
 have hl_b2 := b2.lt
 have b2 := b2.below hB3
 refine S_assign rfl rfl rfl (v := (.int .i64 0)) (rfl) ?_
 refine OPS.nil ?_
 change WP _ _ _ _ _ _
 refine W_seq ?_
 refine W_block ?_
 refine W_seq ?_
 refine W_region rfl ?_
 refine S_load rfl rfl rfl (rfl) (LD.blk ti_api_Int b1 (l := [(.bool s), va]) rfl rfl) ?_
 refine S_call en_ints_Check rfl rfl rfl (vs := [(.agg #[(.bool s), va])]) (rfl) (intsCheck_c _ s va la (ha.below E)) ?_
 rintro _ w4 ⟨hB4, rfl⟩
 have hz4 := hB4.size
 have E := Below.step E hB4
 have hl_b1 := b1.lt
 have b1 := b1.below hB4
 have hl_b2 := b2.lt
 have b2 := b2.below hB4
 have hl_b3 := b3.lt
 have b3 := b3.below hB4
 refine S_not rfl rfl rfl (rfl) ?_
 refine S_move rfl rfl rfl (v := (.bool (!(okI s la)))) (rfl) ?_
 rcases Bool.eq_false_or_eq_true (!(okI s la)) with pT | pF
 ·skip
  rw [pT]
  refine S_skip (d := 11) (op := .load _ _) (gd := some (3, false)) rfl (wg_off rfl (rfl) rfl) ?_
  refine S_skip (d := 12) (op := .call _) (gd := some (3, false)) rfl (wg_off rfl (rfl) rfl) ?_
  refine S_skip (d := 13) (op := .unOp _ _ _) (gd := some (3, false)) rfl (wg_off rfl (rfl) rfl) ?_
  refine S_pick rfl rfl rfl rfl rfl (b := true) (rfl) (v := (.bool true)) (rfl) ?_
  refine S_assign rfl rfl rfl (v := (.bool true)) (rfl) ?_
  refine OPS.nil ?_
  change WP _ _ _ _ _ _
  refine W_cond rfl (b := true) (rfl) (fun _ => ?_) (fun h => (by cases h))
  refine W_seq ?_
  refine W_region rfl ?_
  refine S_build rfl rfl rfl (cs := [.bool false, .slice none 0 0, .slice none 0 0]) (by kernel_rfl) ?_
  refine S_store ti_api_Rat rfl rfl rfl rfl (g := g3) (o := 0) (rfl) (v := (.agg #[.bool false, .slice none 0 0, .slice none 0 0])) (rfl) (vs := [.bool false, .slice none 0 0, .slice none 0 0]) rfl rfl (by simp [Value.oneCell']) b3 (by simp) (cs' := [.bool false, .slice none 0 0, .slice none 0 0]) rfl ?_
  intro w5 hU5 b3
  have E := Below.stepU E hU5 (by omega)
  have b1 := b1.upd hU5 (by omega)
  have b2 := b2.upd hU5 (by omega)
  have hz5 := hU5.size
  refine S_assign rfl rfl rfl (v := (.int .i64 1)) (rfl) ?_
  refine OPS.nil ?_
  change WP _ _ _ _ _ _
  refine W_ret ?_
  change Fin' _ _ _ _ _ _
  refine EndC1 (n := ⟨30, []⟩) (t := 4) (u := 5) rfl (by decide) (by decide) (rfl) (LD.blk ti_api_Rat b3 (l := [.bool false, .slice none 0 0, .slice none 0 0]) rfl rfl) (rfl) ?_
  have hs : makeE s la t lb = 1 := by unfold makeE; simp_all
  exact ⟨E, _, congrArg (fun z => Value.tuple #[_, .int .i64 z]) hs.symm, by rw [hs]; exact OQ.nil _ _⟩
 ·skip
  rw [pF]
  refine S_load rfl rfl rfl (rfl) (LD.blk ti_api_Int b2 (l := [(.bool t), vb]) rfl rfl) ?_
  refine S_call en_ints_Check rfl rfl rfl (vs := [(.agg #[(.bool t), vb])]) (rfl) (intsCheck_c _ t vb lb (hb.below E)) ?_
  rintro _ w6 ⟨hB6, rfl⟩
  have hz6 := hB6.size
  have E := Below.step E hB6
  have hl_b1 := b1.lt
  have b1 := b1.below hB6
  have hl_b2 := b2.lt
  have b2 := b2.below hB6
  have hl_b3 := b3.lt
  have b3 := b3.below hB6
  refine S_not rfl rfl rfl (rfl) ?_
  refine S_pick rfl rfl rfl rfl rfl (b := false) (rfl) (v := (.bool (!(okI t lb)))) (rfl) ?_
  refine S_assign rfl rfl rfl (v := (.bool (!(okI t lb)))) (rfl) ?_
  refine OPS.nil ?_
  change WP _ _ _ _ _ _
  refine W_cond rfl (rfl) (fun hq6 => ?_) (fun hq6 => ?_)
  ·skip
   have pFT := hq6
   skip
   try rw [pFT]
   refine W_seq ?_
   refine W_region rfl ?_
   refine S_build rfl rfl rfl (cs := [.bool false, .slice none 0 0, .slice none 0 0]) (by kernel_rfl) ?_
   refine S_store ti_api_Rat rfl rfl rfl rfl (g := g3) (o := 0) (rfl) (v := (.agg #[.bool false, .slice none 0 0, .slice none 0 0])) (rfl) (vs := [.bool false, .slice none 0 0, .slice none 0 0]) rfl rfl (by simp [Value.oneCell']) b3 (by simp) (cs' := [.bool false, .slice none 0 0, .slice none 0 0]) rfl ?_
   intro w7 hU7 b3
   have E := Below.stepU E hU7 (by omega)
   have b1 := b1.upd hU7 (by omega)
   have b2 := b2.upd hU7 (by omega)
   have hz7 := hU7.size
   refine S_assign rfl rfl rfl (v := (.int .i64 1)) (rfl) ?_
   refine OPS.nil ?_
   change WP _ _ _ _ _ _
   refine W_ret ?_
   change Fin' _ _ _ _ _ _
   refine EndC1 (n := ⟨30, []⟩) (t := 4) (u := 5) rfl (by decide) (by decide) (rfl) (LD.blk ti_api_Rat b3 (l := [.bool false, .slice none 0 0, .slice none 0 0]) rfl rfl) (rfl) ?_
   have hs : makeE s la t lb = 1 := by unfold makeE; simp_all
   exact ⟨E, _, congrArg (fun z => Value.tuple #[_, .int .i64 z]) hs.symm, by rw [hs]; exact OQ.nil _ _⟩
  ·skip
   have pFF := hq6
   skip
   have hka : okI s la = true := by simpa using pF
   have hkb : okI t lb = true := by simpa using pFF
   obtain ⟨hts, htl⟩ := zv_ok hkb hb.u32
   try rw [pFF]
   refine W_seq ?_
   refine W_region rfl ?_
   refine S_load rfl rfl rfl (rfl) (LD.blk ti_api_Int b2 (l := [(.bool t), vb]) rfl rfl) ?_
   refine S_call en_ints_Sign rfl rfl rfl (vs := [(.agg #[(.bool t), vb])]) (rfl) (intsSign_c _ t vb lb (hb.below E)) ?_
   rintro _ w8 ⟨hB8, rfl⟩
   have hz8 := hB8.size
   have E := Below.step E hB8
   have hl_b1 := b1.lt
   have b1 := b1.below hB8
   have hl_b2 := b2.lt
   have b2 := b2.below hB8
   have hl_b3 := b3.lt
   have b3 := b3.below hB8
   refine S_bin rfl rfl rfl rfl rfl (rfl) (rfl) (v := .bool (((cmpZ (zv t lb) 0) == 0))) rfl ?_
   refine S_assign rfl rfl rfl (v := (.bool (((cmpZ (zv t lb) 0) == 0)))) (rfl) ?_
   refine OPS.nil ?_
   change WP _ _ _ _ _ _
   refine W_cond rfl (rfl) (fun hq16 => ?_) (fun hq16 => ?_)
   ·skip
    have pFFT := hq16
    replace hq16 := eq_of_beq hq16
    have qFFT := hq16
    try rw [pFFT]
    refine W_seq ?_
    refine W_region rfl ?_
    refine S_build rfl rfl rfl (cs := [.bool false, .slice none 0 0, .slice none 0 0]) (by kernel_rfl) ?_
    refine S_store ti_api_Rat rfl rfl rfl rfl (g := g3) (o := 0) (rfl) (v := (.agg #[.bool false, .slice none 0 0, .slice none 0 0])) (rfl) (vs := [.bool false, .slice none 0 0, .slice none 0 0]) rfl rfl (by simp [Value.oneCell']) b3 (by simp) (cs' := [.bool false, .slice none 0 0, .slice none 0 0]) rfl ?_
    intro w9 hU9 b3
    have E := Below.stepU E hU9 (by omega)
    have b1 := b1.upd hU9 (by omega)
    have b2 := b2.upd hU9 (by omega)
    have hz9 := hU9.size
    refine S_assign rfl rfl rfl (v := (.int .i64 10)) (rfl) ?_
    refine OPS.nil ?_
    change WP _ _ _ _ _ _
    refine W_ret ?_
    change Fin' _ _ _ _ _ _
    refine EndC1 (n := ⟨30, []⟩) (t := 4) (u := 5) rfl (by decide) (by decide) (rfl) (LD.blk ti_api_Rat b3 (l := [.bool false, .slice none 0 0, .slice none 0 0]) rfl rfl) (rfl) ?_
    have h0 : zv t lb = 0 := cmpZ_0.1 qFFT
    have hs : makeE s la t lb = 10 := by unfold makeE; rw [hka, hkb]; exact (if_pos rfl).trans (if_pos h0)
    exact ⟨E, _, congrArg (fun z => Value.tuple #[_, .int .i64 z]) hs.symm, by rw [hs]; exact OQ.nil _ _⟩
   ·skip
    have pFFF := hq16
    replace hq16 := ne_of_beq_false hq16
    have qFFF := hq16
    have hy0 : zv t lb ≠ 0 := fun h => qFFF (cmpZ_0.2 h)
    have hmp : 0 < (zv t lb).natAbs := by omega
    have hsb2 : (dg (zv t lb).natAbs).length < SZ := by rw [← htl]; exact hsb
    try rw [pFFF]
    refine W_seq ?_
    refine W_region rfl ?_
    refine S_field ft_api_Int_0 rfl rfl rfl (g := g2) (o := 0) (rfl) (o' := 0) rfl ?_
    refine S_load rfl rfl rfl (rfl) (LD.blk1 ti_bool b2 (v := (.bool t)) rfl) ?_
    refine S_assign rfl rfl rfl (v := (.bool t)) (rfl) ?_
    refine OPS.nil ?_
    change WP _ _ _ _ _ _
    refine W_cond rfl (rfl) (fun hq21 => ?_) (fun hq21 => ?_)
    ·skip
     have pFFFT := hq21
     skip
     try rw [pFFFT]
     refine W_region rfl ?_
     refine S_load rfl rfl rfl (rfl) (LD.blk ti_api_Int b1 (l := [(.bool s), va]) rfl rfl) ?_
     refine S_call en_ints_Neg rfl rfl rfl (vs := [(.agg #[(.bool s), va])]) (rfl) (intsNeg_c _ s va la (ha.below E) hsa1) ?_
     rintro _ w10 ⟨hB10, vh5, rfl, h5⟩
     have hz10 := hB10.size
     have E := Below.step E hB10
     have hl_b1 := b1.lt
     have b1 := b1.below hB10
     have hl_b2 := b2.lt
     have b2 := b2.below hB10
     have hl_b3 := b3.lt
     have b3 := b3.below hB10
     have hl5 : (dg (-(zv s la)).natAbs).length < SZ := by rw [Int.natAbs_neg]; exact Nat.lt_of_le_of_lt (zv_len ha.u32) hsa
     refine S_store ti_api_Int rfl rfl rfl rfl (g := g1) (o := 0) (rfl) (v := (.agg #[.bool (decide (-(zv s la) < 0)), vh5])) (rfl) (vs := [(.bool (decide (-(zv s la) < 0))), vh5]) rfl rfl (one2 (rfl) (h5.r.one_)) b1 (by simp) (cs' := [(.bool (decide (-(zv s la) < 0))), vh5]) rfl ?_
     intro w11 hU11 b1
     have E := Below.stepU E hU11 (by omega)
     have b2 := b2.upd hU11 (by omega)
     have b3 := b3.upd hU11 (by omega)
     have h5 := h5.upd hU11 (by omega) (by omega)
     have hz11 := hU11.size
     refine OPS.nil ?_
     change WP _ _ _ _ _ _
     refine W_seq ?_
     refine W_region rfl ?_
     refine S_load rfl rfl rfl (rfl) (LD.blk ti_api_Int b1 (l := [(.bool (decide (-(zv s la) < 0))), vh5]) rfl rfl) ?_
     refine S_field ft_api_Int_1 rfl rfl rfl (g := g2) (o := 0) (rfl) (o' := 1) rfl ?_
     refine S_load rfl rfl rfl (rfl) (LD.blk1 ti_api_Nat b2 (v := vb) rfl) ?_
     refine S_call en_rats_lowest rfl rfl rfl (vs := [(.agg #[(.bool (decide (-(zv s la) < 0))), vh5]), vb]) (rfl) (ratsLowest_c _ (-(zv s la)) (zv t lb).natAbs _ _ h5.r (by rw [← htl]; exact hb.below E) hl5 hsb2 hmp (hT.below E)) ?_
     rintro _ w12 ⟨hB12, nq1, dq1, rfl, q1a, q1b, q1j⟩
     have hz12 := hB12.size
     have E := Below.step E hB12
     have hl_b1 := b1.lt
     have b1 := b1.below hB12
     have hl_b2 := b2.lt
     have b2 := b2.below hB12
     have hl_b3 := b3.lt
     have b3 := b3.below hB12
     have h5 := h5.below hB12
     refine S_store ti_api_Rat rfl rfl rfl rfl (g := g3) (o := 0) (rfl) (v := (.agg #[.bool (decide (-(zv s la) < 0)), nq1, dq1])) (rfl) (vs := [(.bool (decide (-(zv s la) < 0))), nq1, dq1]) rfl rfl (one3 (rfl) (q1a.r.one_) (q1b.r.one_)) b3 (by simp) (cs' := [(.bool (decide (-(zv s la) < 0))), nq1, dq1]) rfl ?_
     intro w13 hU13 b3
     have E := Below.stepU E hU13 (by omega)
     have b1 := b1.upd hU13 (by omega)
     have b2 := b2.upd hU13 (by omega)
     have h5 := h5.upd hU13 (by omega) (by omega)
     have q1a := q1a.upd hU13 (by omega) (by omega)
     have q1b := q1b.upd hU13 (by omega) (by omega)
     have hz13 := hU13.size
     refine S_assign rfl rfl rfl (v := (.int .i64 0)) (rfl) ?_
     refine OPS.nil ?_
     change WP _ _ _ _ _ _
     refine W_ret ?_
     change Fin' _ _ _ _ _ _
     refine EndC1 (n := ⟨30, []⟩) (t := 4) (u := 5) rfl (by decide) (by decide) (rfl) (LD.blk ti_api_Rat b3 (l := [(.bool (decide (-(zv s la) < 0))), nq1, dq1]) rfl rfl) (rfl) ?_
     have hs : makeE s la t lb = 0 := by unfold makeE; rw [hka, hkb]; exact (if_pos rfl).trans (if_neg hy0)
     have hq : makeQ (zv s la) (zv t lb) = lowQ (-(zv s la)) (zv t lb).natAbs := by unfold makeQ; rw [if_pos (of_decide_eq_true (hts.symm.trans pFFFT))]
     subst pFFFT
     exact ⟨E, _, congrArg (fun z => Value.tuple #[_, .int .i64 z]) hs.symm, by rw [hs, hq]; exact ⟨_, _, rfl, q1a.mono (by omega), q1b.mono (by omega), q1j⟩⟩
    ·skip
     have pFFFF := hq21
     skip
     try rw [pFFFF]
     refine W_skip ?_
     change WP _ _ _ _ _ _
     refine W_seq ?_
     refine W_region rfl ?_
     refine S_load rfl rfl rfl (rfl) (LD.blk ti_api_Int b1 (l := [(.bool s), va]) rfl rfl) ?_
     refine S_field ft_api_Int_1 rfl rfl rfl (g := g2) (o := 0) (rfl) (o' := 1) rfl ?_
     refine S_load rfl rfl rfl (rfl) (LD.blk1 ti_api_Nat b2 (v := vb) rfl) ?_
     refine S_call en_rats_lowest rfl rfl rfl (vs := [(.agg #[(.bool s), va]), vb]) (rfl) (ratsLowest_g _ s la (zv t lb).natAbs _ _ hka (ha.below E) (by rw [← htl]; exact hb.below E) hsa hsb2 hmp (hT.below E)) ?_
     rintro _ w14 ⟨hB14, nq1, dq1, rfl, q1a, q1b, q1j⟩
     have hz14 := hB14.size
     have E := Below.step E hB14
     have hl_b1 := b1.lt
     have b1 := b1.below hB14
     have hl_b2 := b2.lt
     have b2 := b2.below hB14
     have hl_b3 := b3.lt
     have b3 := b3.below hB14
     refine S_store ti_api_Rat rfl rfl rfl rfl (g := g3) (o := 0) (rfl) (v := (.agg #[.bool (decide (zv s la < 0)), nq1, dq1])) (rfl) (vs := [(.bool (decide (zv s la < 0))), nq1, dq1]) rfl rfl (one3 (rfl) (q1a.r.one_) (q1b.r.one_)) b3 (by simp) (cs' := [(.bool (decide (zv s la < 0))), nq1, dq1]) rfl ?_
     intro w15 hU15 b3
     have E := Below.stepU E hU15 (by omega)
     have b1 := b1.upd hU15 (by omega)
     have b2 := b2.upd hU15 (by omega)
     have q1a := q1a.upd hU15 (by omega) (by omega)
     have q1b := q1b.upd hU15 (by omega) (by omega)
     have hz15 := hU15.size
     refine S_assign rfl rfl rfl (v := (.int .i64 0)) (rfl) ?_
     refine OPS.nil ?_
     change WP _ _ _ _ _ _
     refine W_ret ?_
     change Fin' _ _ _ _ _ _
     refine EndC1 (n := ⟨30, []⟩) (t := 4) (u := 5) rfl (by decide) (by decide) (rfl) (LD.blk ti_api_Rat b3 (l := [(.bool (decide (zv s la < 0))), nq1, dq1]) rfl rfl) (rfl) ?_
     have hs : makeE s la t lb = 0 := by unfold makeE; rw [hka, hkb]; exact (if_pos rfl).trans (if_neg hy0)
     have hq : makeQ (zv s la) (zv t lb) = lowQ (zv s la) (zv t lb).natAbs := by unfold makeQ; rw [if_neg (of_decide_eq_false (hts.symm.trans pFFFF))]
     subst pFFFF
     exact ⟨E, _, congrArg (fun z => Value.tuple #[_, .int .i64 z]) hs.symm, by rw [hs, hq]; exact ⟨_, _, rfl, q1a.mono (by omega), q1b.mono (by omega), q1j⟩⟩

end Go.Proofs.YtccmicegihlfbaaGreatDoor

/- A book is told of a list. -/
namespace Go.Proofs.YtccmicegihlfbaaGreatDoor
open Go.RowKit

set_option maxHeartbeats 400000 in
theorem keepInt32_c (w0 : World) {B : Nat} (kb : Nat) (no : Int) (vI vR : Value) (I R : List HE) (A : Option Addr) (m c : Nat) (e : TypeId) (sz : Nat) (xs : List Value) (O : List OV) (h : BOOK B kb w0 no vI vR I R (⟨.slice A m c, e, sz, m, xs⟩ :: O)) (hn : 0 ≤ no ∧ no < 1000000) (hI : I.length < 1000000) (hB : B ≤ kb) :
    Ret Tryz.prog 172 [(.pointer (some ⟨kb, 0, none⟩)), (.slice A m c)] w0 (fun r w1 => Below B w0 w1 ∧ ∃ v', BOOK B kb w1 (no + 1) v' vR (I ++ [⟨.slice A m c, .slice none 0 0, no + 1, ⟨.slice A m c, e, sz, m, xs⟩⟩]) R O) := by
 have E := Below.refl B w0
 obtain ⟨b0, OW, hkb⟩ := h
 have hB0 : B ≤ w0.heap.size := by have := b0.lt; omega
 replace b0 : Blk w0 kb [(.int .i64 no), (.slice none 0 0), vI, (.slice none 0 0), (.slice none 0 0), (.slice none 0 0), (.slice none 0 0), (.slice none 0 0), vR, (.slice none 0 0), (.slice none 0 0), (.slice none 0 0), (.slice none 0 0)] 45 := b0
 refine Ret_of (n := 26) Tryz.func172 rfl rfl (Nat.le_of_ble_eq_true rfl) ?_
 refine W_seq ?_
 refine W_region rfl ?_
 refine S_move rfl rfl rfl (v := (.pointer (some ⟨kb, 0, none⟩))) (rfl) ?_
 refine S_nil rfl rfl rfl (rfl) ?_
 refine S_field ft_assayerlaw01_Book_0 rfl rfl rfl (g := kb) (o := 0) (rfl) (o' := 0) rfl ?_
 refine S_load rfl rfl rfl (rfl) (LD.blk1 ti_int b0 (v := (.int .i64 no)) rfl) ?_
 refine S_add64 rfl rfl rfl rfl (rfl) (rfl) (by omega) ?_
 refine S_nil rfl rfl rfl (rfl) ?_
 refine S_field ft_assayerlaw01_Book_0 rfl rfl rfl (g := kb) (o := 0) (rfl) (o' := 0) rfl ?_
 refine S_store ti_int rfl rfl rfl rfl (g := kb) (o := 0) (rfl) (v := (.int .i64 (no + 1))) (rfl) (vs := [(.int .i64 (no + 1))]) rfl rfl (by simp [Value.oneCell']) b0 (by simp) (cs' := [(.int .i64 (no + 1)), (.slice none 0 0), vI, (.slice none 0 0), (.slice none 0 0), (.slice none 0 0), (.slice none 0 0), (.slice none 0 0), vR, (.slice none 0 0), (.slice none 0 0), (.slice none 0 0), (.slice none 0 0)]) rfl ?_
 intro w1 hU1 b0
 have E := Below.stepU E hU1 (by omega)
 have OW := OW.upd hU1 hkb
 have hz1 := hU1.size
 refine OPS.nil ?_
 change WP _ _ _ _ _ _
 refine D_begin mixed_ rfl rfl (fun w_ => w_.cell? ⟨kb, 0, none⟩ = some (.int .i64 (no + 1))) ?_
 intro w2 hB2 hz_2
 have hz2 := hB2.size
 have E := Below.step E hB2 hB0
 have hl_b0 := b0.lt
 have b0 := b0.below hB2
 have OW := OW.below hB2
 have hS_ := b0.cell 0
 have E_S := E
 have b0_S := b0
 have OW_S := OW
 refine D_move (i := 0) (listed2 := (bm 16 1)) (by kernel_rfl) rfl rfl rfl (v := (.pointer (some ⟨kb, 0, none⟩))) (rfl) hS_ ?_
 refine D_move (i := 1) (listed2 := (bm 16 3)) (by kernel_rfl) rfl rfl rfl (v := (.pointer (some ⟨kb, 0, none⟩))) (rfl) hS_ ?_
 refine D_nil (i := 2) (listed2 := (bm 16 7)) (by kernel_rfl) rfl rfl rfl (rfl) hS_ ?_
 refine D_field ft_assayerlaw01_Book_2 (i := 3) (listed2 := (bm 16 15)) (by kernel_rfl) rfl rfl rfl (g := kb) (o := 0) (rfl) (o' := 2) rfl hS_ ?_
 refine D_move (i := 5) (listed2 := (bm 16 47)) (by kernel_rfl) rfl rfl rfl (v := (.slice A m c)) (rfl) hS_ ?_
 refine D_move (i := 6) (listed2 := (bm 16 111)) (by kernel_rfl) rfl rfl rfl (v := (.pointer (some ⟨kb, 0, none⟩))) (rfl) hS_ ?_
 refine D_nil (i := 7) (listed2 := (bm 16 239)) (by kernel_rfl) rfl rfl rfl (rfl) hS_ ?_
 refine D_field ft_assayerlaw01_Book_0 (i := 8) (listed2 := (bm 16 495)) (by kernel_rfl) rfl rfl rfl (g := kb) (o := 0) (rfl) (o' := 0) rfl hS_ ?_
 refine D_load (i := 9) (listed2 := (bm 16 1007)) (by kernel_rfl) rfl rfl rfl (rfl) (v := (.int .i64 (no + 1))) (fun _ hS2 => LD.one ti_int hS2) hS_ ?_
 refine D_build (i := 10) (listed2 := (bm 16 2031)) (by kernel_rfl) rfl rfl rfl (cs := [(.slice A m c), .slice none 0 0, (.int .i64 (no + 1))]) (by kernel_rfl) hS_ ?_
 refine D_two (i := 4) (j := 11) (by kernel_rfl) (listed2 := (bm 16 2047)) (listed3 := (bm 16 4079)) (by kernel_rfl) (by kernel_rfl) ?_ ?_
 ·skip
  refine S_load rfl rfl rfl (rfl) (LD.blk1 ti_Lassayerlaw01_heldInt32 b0 (v := vI) rfl) ?_
  have hS_ := b0.cell 0
  refine OPS.nil ⟨hS_, ?_⟩
  refine D_only (i := 11) (by kernel_rfl) (listed2 := (bm 16 4095)) (by kernel_rfl) ?_
  refine S_lit Tryz.underlying33 ti_assayerlaw01_heldInt32 rfl rfl (by decide) (by decide) rfl (vs := [(.agg #[(.slice A m c), .slice none 0 0, (.int .i64 (no + 1))])]) (cs := [(.slice A m c), .slice none 0 0, (.int .i64 (no + 1))]) rfl rfl (by simp [Value.cells]) rfl ?_
  intro g3 w3 hg3 hs3 hB3 b3
  have hz3 := hB3.size
  have E := Below.step E hB3 hB0
  have hl_b0 := b0.lt
  have b0 := b0.below hB3
  have OW := OW.below hB3
  have hS_ := b0.cell 0
  refine OPS.nil ⟨hS_, ?_⟩
  refine D_only (i := 12) (by kernel_rfl) (listed2 := (bm 16 8191)) (by kernel_rfl) ?_
  have HB : BOOK B kb w3 (no + 1) vI vR I R (⟨.slice A m c, e, sz, m, xs⟩ :: O) := ⟨b0, OW, hkb⟩
  have hlk := b0.lt
  refine S_appendR Tryz.underlying33 ti_assayerlaw01_heldInt32 rfl rfl rfl rfl rfl (rfl) (rfl) HB.rowI (B := B) (m := I.length) (k := 1) (c := 1) (by decide) (news := [.slice A m c, .slice none 0 0, .int .i64 (no + 1)]) rfl (fun j u hj => by rw [add_plain, b3.cell, Nat.zero_add]; exact hj) (by simp [Value.oneCell']) (by omega) (by omega) (by omega) ?_
  intro v2 w4 hr hg hb _
  obtain ⟨A', c', rfl⟩ := hr.len
  have E := Below.grownE E hg (by omega) (fun g hg => (HB.rowI.bkB g hg).1)
  obtain ⟨OW, hkb, b0⟩ := HB.keepI (o := ⟨.slice A m c, e, sz, m, xs⟩) hr hg hb
  replace b0 : Blk w4 kb [(.int .i64 (no + 1)), (.slice none 0 0), vI, (.slice none 0 0), (.slice none 0 0), (.slice none 0 0), (.slice none 0 0), (.slice none 0 0), vR, (.slice none 0 0), (.slice none 0 0), (.slice none 0 0), (.slice none 0 0)] 45 := b0
  have hS_ := b0.cell 0
  refine OPS.nil ⟨hS_, ?_⟩
  refine D_nil (i := 13) (listed2 := (bm 16 16383)) (by kernel_rfl) rfl rfl rfl (rfl) hS_ ?_
  refine D_field ft_assayerlaw01_Book_2 (i := 14) (listed2 := (bm 16 32767)) (by kernel_rfl) rfl rfl rfl (g := kb) (o := 0) (rfl) (o' := 2) rfl hS_ ?_
  refine D_last (i := 15) (f := 12) (by kernel_rfl) (by kernel_rfl) (listed2 := (bm 16 65535)) (by kernel_rfl) ?_
  refine S_store ti_Lassayerlaw01_heldInt32 rfl rfl rfl rfl (g := kb) (o := 2) (rfl) (v := (.slice A' (I.length + 1) c')) (rfl) (vs := [(.slice A' (I.length + 1) c')]) rfl rfl (by simp [Value.oneCell']) b0 (by simp) (cs' := [(.int .i64 (no + 1)), (.slice none 0 0), (.slice A' (I.length + 1) c'), (.slice none 0 0), (.slice none 0 0), (.slice none 0 0), (.slice none 0 0), (.slice none 0 0), vR, (.slice none 0 0), (.slice none 0 0), (.slice none 0 0), (.slice none 0 0)]) rfl ?_
  intro w5 hU5 b0
  have E := Below.stepU E hU5 (by omega)
  have OW := OW.upd hU5 hkb
  have hz5 := hU5.size
  refine OPS.nil ?_
  refine D_done (by kernel_rfl) ?_
  change Fin' _ _ _ _ _ _
  refine End0 rfl ?_
  exact ⟨E, _, b0, OW, hkb⟩
 ·skip
  refine S_lit Tryz.underlying33 ti_assayerlaw01_heldInt32 rfl rfl (by decide) (by decide) rfl (vs := [(.agg #[(.slice A m c), .slice none 0 0, (.int .i64 (no + 1))])]) (cs := [(.slice A m c), .slice none 0 0, (.int .i64 (no + 1))]) rfl rfl (by simp [Value.cells]) rfl ?_
  intro g6 w6 hg6 hs6 hB6 b6
  have hz6 := hB6.size
  have E := Below.step E hB6 hB0
  have hl_b0 := b0.lt
  have b0 := b0.below hB6
  have OW := OW.below hB6
  have hS_ := b0.cell 0
  refine OPS.nil ⟨hS_, ?_⟩
  refine D_only (i := 4) (by kernel_rfl) (listed2 := (bm 16 4095)) (by kernel_rfl) ?_
  refine S_load rfl rfl rfl (rfl) (LD.blk1 ti_Lassayerlaw01_heldInt32 b0 (v := vI) rfl) ?_
  have hS_ := b0.cell 0
  refine OPS.nil ⟨hS_, ?_⟩
  refine D_only (i := 12) (by kernel_rfl) (listed2 := (bm 16 8191)) (by kernel_rfl) ?_
  have HB : BOOK B kb w6 (no + 1) vI vR I R (⟨.slice A m c, e, sz, m, xs⟩ :: O) := ⟨b0, OW, hkb⟩
  have hlk := b0.lt
  refine S_appendR Tryz.underlying33 ti_assayerlaw01_heldInt32 rfl rfl rfl rfl rfl (rfl) (rfl) HB.rowI (B := B) (m := I.length) (k := 1) (c := 1) (by decide) (news := [.slice A m c, .slice none 0 0, .int .i64 (no + 1)]) rfl (fun j u hj => by rw [add_plain, b6.cell, Nat.zero_add]; exact hj) (by simp [Value.oneCell']) (by omega) (by omega) (by omega) ?_
  intro v2 w7 hr hg hb _
  obtain ⟨A', c', rfl⟩ := hr.len
  have E := Below.grownE E hg (by omega) (fun g hg => (HB.rowI.bkB g hg).1)
  obtain ⟨OW, hkb, b0⟩ := HB.keepI (o := ⟨.slice A m c, e, sz, m, xs⟩) hr hg hb
  replace b0 : Blk w7 kb [(.int .i64 (no + 1)), (.slice none 0 0), vI, (.slice none 0 0), (.slice none 0 0), (.slice none 0 0), (.slice none 0 0), (.slice none 0 0), vR, (.slice none 0 0), (.slice none 0 0), (.slice none 0 0), (.slice none 0 0)] 45 := b0
  have hS_ := b0.cell 0
  refine OPS.nil ⟨hS_, ?_⟩
  refine D_nil (i := 13) (listed2 := (bm 16 16383)) (by kernel_rfl) rfl rfl rfl (rfl) hS_ ?_
  refine D_field ft_assayerlaw01_Book_2 (i := 14) (listed2 := (bm 16 32767)) (by kernel_rfl) rfl rfl rfl (g := kb) (o := 0) (rfl) (o' := 2) rfl hS_ ?_
  refine D_last (i := 15) (f := 12) (by kernel_rfl) (by kernel_rfl) (listed2 := (bm 16 65535)) (by kernel_rfl) ?_
  refine S_store ti_Lassayerlaw01_heldInt32 rfl rfl rfl rfl (g := kb) (o := 2) (rfl) (v := (.slice A' (I.length + 1) c')) (rfl) (vs := [(.slice A' (I.length + 1) c')]) rfl rfl (by simp [Value.oneCell']) b0 (by simp) (cs' := [(.int .i64 (no + 1)), (.slice none 0 0), (.slice A' (I.length + 1) c'), (.slice none 0 0), (.slice none 0 0), (.slice none 0 0), (.slice none 0 0), (.slice none 0 0), vR, (.slice none 0 0), (.slice none 0 0), (.slice none 0 0), (.slice none 0 0)]) rfl ?_
  intro w8 hU8 b0
  have E := Below.stepU E hU8 (by omega)
  have OW := OW.upd hU8 hkb
  have hz8 := hU8.size
  refine OPS.nil ?_
  refine D_done (by kernel_rfl) ?_
  change Fin' _ _ _ _ _ _
  refine End0 rfl ?_
  exact ⟨E, _, b0, OW, hkb⟩

set_option maxHeartbeats 400000 in
theorem keepRat_c (w0 : World) {B : Nat} (kb : Nat) (no : Int) (vI vR : Value) (I R : List HE) (A : Option Addr) (m c : Nat) (e : TypeId) (sz : Nat) (xs : List Value) (O : List OV) (h : BOOK B kb w0 no vI vR I R (⟨.slice A m c, e, sz, m, xs⟩ :: O)) (hn : 0 ≤ no ∧ no < 1000000) (hI : R.length < 1000000) (hB : B ≤ kb) :
    Ret Tryz.prog 193 [(.pointer (some ⟨kb, 0, none⟩)), (.slice A m c)] w0 (fun r w1 => Below B w0 w1 ∧ ∃ v', BOOK B kb w1 (no + 1) vI v' I (R ++ [⟨.slice A m c, .slice none 0 0, no + 1, ⟨.slice A m c, e, sz, m, xs⟩⟩]) O) := by
 have E := Below.refl B w0
 obtain ⟨b0, OW, hkb⟩ := h
 have hB0 : B ≤ w0.heap.size := by have := b0.lt; omega
 replace b0 : Blk w0 kb [(.int .i64 no), (.slice none 0 0), vI, (.slice none 0 0), (.slice none 0 0), (.slice none 0 0), (.slice none 0 0), (.slice none 0 0), vR, (.slice none 0 0), (.slice none 0 0), (.slice none 0 0), (.slice none 0 0)] 45 := b0
 refine Ret_of (n := 26) Tryz.func193 rfl rfl (Nat.le_of_ble_eq_true rfl) ?_
 refine W_seq ?_
 refine W_region rfl ?_
 refine S_move rfl rfl rfl (v := (.pointer (some ⟨kb, 0, none⟩))) (rfl) ?_
 refine S_nil rfl rfl rfl (rfl) ?_
 refine S_field ft_assayerlaw01_Book_0 rfl rfl rfl (g := kb) (o := 0) (rfl) (o' := 0) rfl ?_
 refine S_load rfl rfl rfl (rfl) (LD.blk1 ti_int b0 (v := (.int .i64 no)) rfl) ?_
 refine S_add64 rfl rfl rfl rfl (rfl) (rfl) (by omega) ?_
 refine S_nil rfl rfl rfl (rfl) ?_
 refine S_field ft_assayerlaw01_Book_0 rfl rfl rfl (g := kb) (o := 0) (rfl) (o' := 0) rfl ?_
 refine S_store ti_int rfl rfl rfl rfl (g := kb) (o := 0) (rfl) (v := (.int .i64 (no + 1))) (rfl) (vs := [(.int .i64 (no + 1))]) rfl rfl (by simp [Value.oneCell']) b0 (by simp) (cs' := [(.int .i64 (no + 1)), (.slice none 0 0), vI, (.slice none 0 0), (.slice none 0 0), (.slice none 0 0), (.slice none 0 0), (.slice none 0 0), vR, (.slice none 0 0), (.slice none 0 0), (.slice none 0 0), (.slice none 0 0)]) rfl ?_
 intro w1 hU1 b0
 have E := Below.stepU E hU1 (by omega)
 have OW := OW.upd hU1 hkb
 have hz1 := hU1.size
 refine OPS.nil ?_
 change WP _ _ _ _ _ _
 refine D_begin mixed_ rfl rfl (fun w_ => w_.cell? ⟨kb, 0, none⟩ = some (.int .i64 (no + 1))) ?_
 intro w2 hB2 hz_2
 have hz2 := hB2.size
 have E := Below.step E hB2 hB0
 have hl_b0 := b0.lt
 have b0 := b0.below hB2
 have OW := OW.below hB2
 have hS_ := b0.cell 0
 have E_S := E
 have b0_S := b0
 have OW_S := OW
 refine D_move (i := 0) (listed2 := (bm 16 1)) (by kernel_rfl) rfl rfl rfl (v := (.pointer (some ⟨kb, 0, none⟩))) (rfl) hS_ ?_
 refine D_move (i := 1) (listed2 := (bm 16 3)) (by kernel_rfl) rfl rfl rfl (v := (.pointer (some ⟨kb, 0, none⟩))) (rfl) hS_ ?_
 refine D_nil (i := 2) (listed2 := (bm 16 7)) (by kernel_rfl) rfl rfl rfl (rfl) hS_ ?_
 refine D_field ft_assayerlaw01_Book_8 (i := 3) (listed2 := (bm 16 15)) (by kernel_rfl) rfl rfl rfl (g := kb) (o := 0) (rfl) (o' := 8) rfl hS_ ?_
 refine D_move (i := 5) (listed2 := (bm 16 47)) (by kernel_rfl) rfl rfl rfl (v := (.slice A m c)) (rfl) hS_ ?_
 refine D_move (i := 6) (listed2 := (bm 16 111)) (by kernel_rfl) rfl rfl rfl (v := (.pointer (some ⟨kb, 0, none⟩))) (rfl) hS_ ?_
 refine D_nil (i := 7) (listed2 := (bm 16 239)) (by kernel_rfl) rfl rfl rfl (rfl) hS_ ?_
 refine D_field ft_assayerlaw01_Book_0 (i := 8) (listed2 := (bm 16 495)) (by kernel_rfl) rfl rfl rfl (g := kb) (o := 0) (rfl) (o' := 0) rfl hS_ ?_
 refine D_load (i := 9) (listed2 := (bm 16 1007)) (by kernel_rfl) rfl rfl rfl (rfl) (v := (.int .i64 (no + 1))) (fun _ hS2 => LD.one ti_int hS2) hS_ ?_
 refine D_build (i := 10) (listed2 := (bm 16 2031)) (by kernel_rfl) rfl rfl rfl (cs := [(.slice A m c), .slice none 0 0, (.int .i64 (no + 1))]) (by kernel_rfl) hS_ ?_
 refine D_two (i := 4) (j := 11) (by kernel_rfl) (listed2 := (bm 16 2047)) (listed3 := (bm 16 4079)) (by kernel_rfl) (by kernel_rfl) ?_ ?_
 ·skip
  refine S_load rfl rfl rfl (rfl) (LD.blk1 ti_Lassayerlaw01_heldRat b0 (v := vR) rfl) ?_
  have hS_ := b0.cell 0
  refine OPS.nil ⟨hS_, ?_⟩
  refine D_only (i := 11) (by kernel_rfl) (listed2 := (bm 16 4095)) (by kernel_rfl) ?_
  refine S_lit Tryz.underlying39 ti_assayerlaw01_heldRat rfl rfl (by decide) (by decide) rfl (vs := [(.agg #[(.slice A m c), .slice none 0 0, (.int .i64 (no + 1))])]) (cs := [(.slice A m c), .slice none 0 0, (.int .i64 (no + 1))]) rfl rfl (by simp [Value.cells]) rfl ?_
  intro g3 w3 hg3 hs3 hB3 b3
  have hz3 := hB3.size
  have E := Below.step E hB3 hB0
  have hl_b0 := b0.lt
  have b0 := b0.below hB3
  have OW := OW.below hB3
  have hS_ := b0.cell 0
  refine OPS.nil ⟨hS_, ?_⟩
  refine D_only (i := 12) (by kernel_rfl) (listed2 := (bm 16 8191)) (by kernel_rfl) ?_
  have HB : BOOK B kb w3 (no + 1) vI vR I R (⟨.slice A m c, e, sz, m, xs⟩ :: O) := ⟨b0, OW, hkb⟩
  have hlk := b0.lt
  refine S_appendR Tryz.underlying39 ti_assayerlaw01_heldRat rfl rfl rfl rfl rfl (rfl) (rfl) HB.rowH (B := B) (m := R.length) (k := 1) (c := 1) (by decide) (news := [.slice A m c, .slice none 0 0, .int .i64 (no + 1)]) rfl (fun j u hj => by rw [add_plain, b3.cell, Nat.zero_add]; exact hj) (by simp [Value.oneCell']) (by omega) (by omega) (by omega) ?_
  intro v2 w4 hr hg hb _
  obtain ⟨A', c', rfl⟩ := hr.len
  have E := Below.grownE E hg (by omega) (fun g hg => (HB.rowH.bkB g hg).1)
  obtain ⟨OW, hkb, b0⟩ := HB.keepH (o := ⟨.slice A m c, e, sz, m, xs⟩) hr hg hb
  replace b0 : Blk w4 kb [(.int .i64 (no + 1)), (.slice none 0 0), vI, (.slice none 0 0), (.slice none 0 0), (.slice none 0 0), (.slice none 0 0), (.slice none 0 0), vR, (.slice none 0 0), (.slice none 0 0), (.slice none 0 0), (.slice none 0 0)] 45 := b0
  have hS_ := b0.cell 0
  refine OPS.nil ⟨hS_, ?_⟩
  refine D_nil (i := 13) (listed2 := (bm 16 16383)) (by kernel_rfl) rfl rfl rfl (rfl) hS_ ?_
  refine D_field ft_assayerlaw01_Book_8 (i := 14) (listed2 := (bm 16 32767)) (by kernel_rfl) rfl rfl rfl (g := kb) (o := 0) (rfl) (o' := 8) rfl hS_ ?_
  refine D_last (i := 15) (f := 12) (by kernel_rfl) (by kernel_rfl) (listed2 := (bm 16 65535)) (by kernel_rfl) ?_
  refine S_store ti_Lassayerlaw01_heldRat rfl rfl rfl rfl (g := kb) (o := 8) (rfl) (v := (.slice A' (R.length + 1) c')) (rfl) (vs := [(.slice A' (R.length + 1) c')]) rfl rfl (by simp [Value.oneCell']) b0 (by simp) (cs' := [(.int .i64 (no + 1)), (.slice none 0 0), vI, (.slice none 0 0), (.slice none 0 0), (.slice none 0 0), (.slice none 0 0), (.slice none 0 0), (.slice A' (R.length + 1) c'), (.slice none 0 0), (.slice none 0 0), (.slice none 0 0), (.slice none 0 0)]) rfl ?_
  intro w5 hU5 b0
  have E := Below.stepU E hU5 (by omega)
  have OW := OW.upd hU5 hkb
  have hz5 := hU5.size
  refine OPS.nil ?_
  refine D_done (by kernel_rfl) ?_
  change Fin' _ _ _ _ _ _
  refine End0 rfl ?_
  exact ⟨E, _, b0, OW, hkb⟩
 ·skip
  refine S_lit Tryz.underlying39 ti_assayerlaw01_heldRat rfl rfl (by decide) (by decide) rfl (vs := [(.agg #[(.slice A m c), .slice none 0 0, (.int .i64 (no + 1))])]) (cs := [(.slice A m c), .slice none 0 0, (.int .i64 (no + 1))]) rfl rfl (by simp [Value.cells]) rfl ?_
  intro g6 w6 hg6 hs6 hB6 b6
  have hz6 := hB6.size
  have E := Below.step E hB6 hB0
  have hl_b0 := b0.lt
  have b0 := b0.below hB6
  have OW := OW.below hB6
  have hS_ := b0.cell 0
  refine OPS.nil ⟨hS_, ?_⟩
  refine D_only (i := 4) (by kernel_rfl) (listed2 := (bm 16 4095)) (by kernel_rfl) ?_
  refine S_load rfl rfl rfl (rfl) (LD.blk1 ti_Lassayerlaw01_heldRat b0 (v := vR) rfl) ?_
  have hS_ := b0.cell 0
  refine OPS.nil ⟨hS_, ?_⟩
  refine D_only (i := 12) (by kernel_rfl) (listed2 := (bm 16 8191)) (by kernel_rfl) ?_
  have HB : BOOK B kb w6 (no + 1) vI vR I R (⟨.slice A m c, e, sz, m, xs⟩ :: O) := ⟨b0, OW, hkb⟩
  have hlk := b0.lt
  refine S_appendR Tryz.underlying39 ti_assayerlaw01_heldRat rfl rfl rfl rfl rfl (rfl) (rfl) HB.rowH (B := B) (m := R.length) (k := 1) (c := 1) (by decide) (news := [.slice A m c, .slice none 0 0, .int .i64 (no + 1)]) rfl (fun j u hj => by rw [add_plain, b6.cell, Nat.zero_add]; exact hj) (by simp [Value.oneCell']) (by omega) (by omega) (by omega) ?_
  intro v2 w7 hr hg hb _
  obtain ⟨A', c', rfl⟩ := hr.len
  have E := Below.grownE E hg (by omega) (fun g hg => (HB.rowH.bkB g hg).1)
  obtain ⟨OW, hkb, b0⟩ := HB.keepH (o := ⟨.slice A m c, e, sz, m, xs⟩) hr hg hb
  replace b0 : Blk w7 kb [(.int .i64 (no + 1)), (.slice none 0 0), vI, (.slice none 0 0), (.slice none 0 0), (.slice none 0 0), (.slice none 0 0), (.slice none 0 0), vR, (.slice none 0 0), (.slice none 0 0), (.slice none 0 0), (.slice none 0 0)] 45 := b0
  have hS_ := b0.cell 0
  refine OPS.nil ⟨hS_, ?_⟩
  refine D_nil (i := 13) (listed2 := (bm 16 16383)) (by kernel_rfl) rfl rfl rfl (rfl) hS_ ?_
  refine D_field ft_assayerlaw01_Book_8 (i := 14) (listed2 := (bm 16 32767)) (by kernel_rfl) rfl rfl rfl (g := kb) (o := 0) (rfl) (o' := 8) rfl hS_ ?_
  refine D_last (i := 15) (f := 12) (by kernel_rfl) (by kernel_rfl) (listed2 := (bm 16 65535)) (by kernel_rfl) ?_
  refine S_store ti_Lassayerlaw01_heldRat rfl rfl rfl rfl (g := kb) (o := 8) (rfl) (v := (.slice A' (R.length + 1) c')) (rfl) (vs := [(.slice A' (R.length + 1) c')]) rfl rfl (by simp [Value.oneCell']) b0 (by simp) (cs' := [(.int .i64 (no + 1)), (.slice none 0 0), vI, (.slice none 0 0), (.slice none 0 0), (.slice none 0 0), (.slice none 0 0), (.slice none 0 0), (.slice A' (R.length + 1) c'), (.slice none 0 0), (.slice none 0 0), (.slice none 0 0), (.slice none 0 0)]) rfl ?_
  intro w8 hU8 b0
  have E := Below.stepU E hU8 (by omega)
  have OW := OW.upd hU8 hkb
  have hz8 := hU8.size
  refine OPS.nil ?_
  refine D_done (by kernel_rfl) ?_
  change Fin' _ _ _ _ _ _
  refine End0 rfl ?_
  exact ⟨E, _, b0, OW, hkb⟩


/-! ### The book, told all in all -/
def KeptI (h : HE) : Prop := h.l = h.o.v ∧ h.long = .slice none 0 0 ∧ (0 ≤ h.no ∧ h.no ≤ 1000000) ∧ h.o.e = 106 ∧ h.o.sz = 1 ∧ h.o.m ≤ 1000000000
def KeptR (h : HE) : Prop := h.l = h.o.v ∧ h.long = .slice none 0 0 ∧ (0 ≤ h.no ∧ h.no ≤ 1000000) ∧ h.o.e = 70 ∧ h.o.sz = 3 ∧ h.o.m ≤ 1000000000
/-- A book that holds N lists at most; O is held besides. -/
def BK (B kb : Nat) (w : World) (N : Nat) (O : List OV) : Prop :=
  ∃ no vI vR I R, BOOK B kb w no vI vR I R O ∧ (0 ≤ no ∧ no ≤ N ∧ B ≤ kb) ∧ I.length ≤ N ∧ R.length ≤ N ∧ (∀ h ∈ I, KeptI h) ∧ (∀ h ∈ R, KeptR h)
theorem BK.below {B kb : Nat} {w w' : World} {N : Nat} {O : List OV} (h : BK B kb w N O) (hb : Below w.heap.size w w') : BK B kb w' N O := by
  obtain ⟨no, vI, vR, I, R, h1, h2⟩ := h
  exact ⟨no, vI, vR, I, R, h1.below hb, h2⟩
theorem BK.ok {B kb : Nat} {w : World} {N : Nat} {O : List OV} (h : BK B kb w N O) {o : OV} (ho : o ∈ O) : o.ok B w := by
  obtain ⟨no, vI, vR, I, R, h1, h2⟩ := h
  exact h1.own.ok o (by simp [bookL, ho])
theorem BK.base {B kb : Nat} {w : World} {N : Nat} {O : List OV} (h : BK B kb w N O) : B ≤ kb ∧ kb < w.heap.size := by
  obtain ⟨no, vI, vR, I, R, h1, h2, _⟩ := h
  exact ⟨h2.2.2, h1.blk.lt⟩
theorem keepN_c (w0 : World) {B : Nat} (kb N : Nat) (v : Value) (l : List Int) (O : List OV) (h : BK B kb w0 N (ovN v l :: O)) (hN : N < 1000000) (hl : l.length ≤ 1000000000) :
    Ret Tryz.prog 172 [.pointer (some ⟨kb, 0, none⟩), v] w0 (fun r w1 => Below B w0 w1 ∧ BK B kb w1 (N + 1) O) := by
  have hk := (h.ok (o := ovN v l) (by simp)).len
  obtain ⟨A, c, hv⟩ := hk
  change v = .slice A l.length c at hv
  subst hv
  obtain ⟨no, vI, vR, I, R, h1, h2, h3, h4, h5, h6⟩ := h
  refine (keepInt32_c w0 kb no vI vR I R A _ c _ _ _ O h1 (by omega) (by omega) (by omega)).mono ?_
  rintro r w1 ⟨hE, v', hb⟩
  refine ⟨hE, _, _, _, _, _, hb, by omega, by simp; omega, by omega, fun h hh => ?_, h6⟩
  rcases List.mem_append.1 hh with hh | hh
  · exact h5 h hh
  · rw [List.mem_singleton] at hh
    subst hh
    exact ⟨rfl, rfl, by show 0 ≤ no + 1 ∧ no + 1 ≤ 1000000; omega, rfl, rfl, hl⟩
theorem keepR_c (w0 : World) {B : Nat} (kb N : Nat) (v : Value) (es : List RV) (O : List OV) (h : BK B kb w0 N (ovR v es :: O)) (hN : N < 1000000) (hl : es.length ≤ 1000000000) :
    Ret Tryz.prog 193 [.pointer (some ⟨kb, 0, none⟩), v] w0 (fun r w1 => Below B w0 w1 ∧ BK B kb w1 (N + 1) O) := by
  have hk := (h.ok (o := ovR v es) (by simp)).len
  obtain ⟨A, c, hv⟩ := hk
  change v = .slice A es.length c at hv
  subst hv
  obtain ⟨no, vI, vR, I, R, h1, h2, h3, h4, h5, h6⟩ := h
  refine (keepRat_c w0 kb no vI vR I R A _ c _ _ _ O h1 (by omega) (by omega) (by omega)).mono ?_
  rintro r w1 ⟨hE, v', hb⟩
  refine ⟨hE, _, _, _, _, _, hb, by omega, by omega, by simp; omega, h5, fun h hh => ?_⟩
  rcases List.mem_append.1 hh with hh | hh
  · exact h6 h hh
  · rw [List.mem_singleton] at hh
    subst hh
    exact ⟨rfl, rfl, by show 0 ≤ no + 1 ∧ no + 1 ≤ 1000000; omega, rfl, rfl, hl⟩
theorem BK.perm {B kb : Nat} {w : World} {N : Nat} {O O' : List OV} (h : BK B kb w N O) (hp : O.Perm O') : BK B kb w N O' := by
  obtain ⟨no, vI, vR, I, R, h1, h2⟩ := h
  have hp2 : (bookL vI vR I R O).Perm (bookL vI vR I R O') := (List.Perm.append_left _ hp).cons _ |>.cons _
  exact ⟨no, vI, vR, I, R, ⟨h1.blk, h1.own.perm hp2, fun o ho => h1.kb o (hp2.mem_iff.2 ho)⟩, h2⟩
/-- One more row is held, in new memory. -/
theorem BK.new {B kb : Nat} {w w1 : World} {N : Nat} {O : List OV} {o : OV} (h : BK B kb w N O) (hB : Below w.heap.size w w1) (hn : ∀ g, bk o.v = some g → w.heap.size ≤ g) (ho : o.ok B w1) : BK B kb w1 N (o :: O) := by
  obtain ⟨no, vI, vR, I, R, h1, h2⟩ := h
  have hp : (o :: bookL vI vR I R O).Perm (bookL vI vR I R (o :: O)) := by
    simp only [bookL]
    refine (List.Perm.swap _ _ _).trans (List.Perm.cons _ ((List.Perm.swap _ _ _).trans (List.Perm.cons _ ?_)))
    exact List.perm_middle.symm
  refine ⟨no, vI, vR, I, R, ⟨h1.blk.below hB, ((h1.own.below hB).addNew ho hn fun a ha g hg => h1.own.lt ha g hg).perm hp, fun p hp' => ?_⟩, h2⟩
  rcases List.mem_cons.1 (hp.mem_iff.2 hp') with rfl | hm
  · intro e
    have := hn kb e
    have := h1.blk.lt
    omega
  · exact h1.kb p hm
def ovB (g : Nat) (e : TypeId) (cs : List Value) : OV := ⟨.slice (some ⟨g, 0, none⟩) 1 1, e, cs.length, 1, cs⟩
theorem ovB_ok {B : Nat} {w : World} {g : Nat} {e : TypeId} {cs : List Value} (b : Blk w g cs e) (hB : B ≤ g) : (ovB g e cs).ok B w :=
  ⟨by simp [ovB], .inr ⟨g, 1, cs, rfl, by omega, hB, b, Nat.le_refl _, by omega, by simp [ovB], by simp [ovB]⟩⟩
theorem BK.box {B kb : Nat} {w w1 : World} {N g : Nat} {pre O : List OV} {cs : List Value} {e : TypeId} (h : BK B kb w N (pre ++ O)) (hB : Below w.heap.size w w1) (hg : g = w.heap.size) (b : Blk w1 g cs e) : BK B kb w1 N (pre ++ ovB g e cs :: O) := by
  refine (h.new (o := ovB g e cs) hB (fun k hk => ?_) (ovB_ok b (by have := h.base; omega))).perm List.perm_middle.symm
  have := bk_le hk
  omega
theorem box_get {B : Nat} {w : World} {g : Nat} {e : TypeId} {cs : List Value} (h : (ovB g e cs).ok B w) : ∃ r, Blk w g (cs ++ r) e := by
  rcases h.2 with ⟨h1, _⟩ | ⟨g', c, cs', h0, h1, h2, h3, h4, h5, h6, h7⟩
  · cases h1
  · cases h0
    refine ⟨cs'.drop cs.length, ?_⟩
    have : cs' = cs ++ cs'.drop cs.length := by
      have h8 : cs'.take cs.length = cs := by simpa [ovB] using h7
      conv => lhs; rw [← List.take_append_drop cs.length cs', h8]
    rwa [← this]
theorem BK.drop {B kb : Nat} {w : World} {N : Nat} {o : OV} {O : List OV} (h : BK B kb w N (o :: O)) : BK B kb w N O := by
  obtain ⟨no, vI, vR, I, R, h1, h2⟩ := h
  have hp : (bookL vI vR I R (o :: O)).Perm (o :: bookL vI vR I R O) := by
    simp only [bookL]
    exact (List.Perm.cons _ (List.Perm.cons _ List.perm_middle)).trans ((List.Perm.cons _ (List.Perm.swap _ _ _)).trans (List.Perm.swap _ _ _))
  exact ⟨no, vI, vR, I, R, ⟨h1.blk, (h1.own.perm hp).tail, fun p hp' => h1.kb p (hp.mem_iff.2 (List.mem_cons_of_mem _ hp'))⟩, h2⟩
theorem ovR_get {B : Nat} {w : World} {v : Value} {es : List RV} (h : (ovR v es).ok B w) (j : Nat) (hj : j < es.length) : ∃ ad, SlAt v es.length 3 j ad ∧ CellsAt w ad (es.getD j rv0).cs := by
  have hr : RC 0 0 3 w v es.length (es.flatMap RV.cs) := (Row.rc h).any (Nat.le_refl _)
  obtain ⟨ad, h1, h2⟩ := hr.at_ hj (by omega)
  refine ⟨ad, h1, fun i hi => ?_⟩
  rw [RV.cs_len] at hi
  rw [h2 i hi, flat_get RV.cs 3 RV.cs_len _ _ _ hi, List.getD_eq_getElem?_getD, List.getElem?_eq_getElem hj]
  rfl
def ovN2 (x : RV) : List OV := [ovN x.vn x.q.n, ovN x.vd x.q.d]
theorem drop_getD {es : List RV} {i : Nat} (hi : i < es.length) : es.drop i = es.getD i rv0 :: es.drop (i + 1) := by
  rw [List.drop_eq_getElem_cons hi, List.getD_eq_getElem?_getD, List.getElem?_eq_getElem hi]; rfl

set_option maxHeartbeats 400000 in
theorem bookNat_c (w0 : World) {B : Nat} (kb N : Nat) (v : Value) (l : List Int) (O : List OV) (HB : BK B kb w0 N (ovN v l :: O)) (hN : N < 1000000) (hl : l.length ≤ 1000000000) :
    Ret Tryz.prog 47 [(.pointer (some ⟨kb, 0, none⟩)), v] w0 (fun r w1 => Below B w0 w1 ∧ BK B kb w1 (N + 1) O) := by
 have E := Below.refl B w0
 have hB0 : B ≤ w0.heap.size := by have := HB.base; omega
 refine Ret_of (n := 7) Tryz.func47 rfl rfl (Nat.le_of_ble_eq_true rfl) ?_
 refine W_region rfl ?_
 refine S_move rfl rfl rfl (v := (.pointer (some ⟨kb, 0, none⟩))) (rfl) ?_
 refine S_move rfl rfl rfl (v := v) (rfl) ?_
 refine S_call en_passayerlaw01_Book_keepInt32 rfl rfl rfl (vs := [(.pointer (some ⟨kb, 0, none⟩)), v]) (rfl) (keepN_c _ kb N v l O HB hN hl) ?_
 rintro _ w1 ⟨hT, HB⟩
 have E := E.trans hT
 refine OPS.nil ?_
 change Fin' _ _ _ _ _ _
 refine End0 rfl ?_
 exact ⟨E, HB⟩

set_option maxHeartbeats 400000 in
theorem bookInt_c (w0 : World) {B : Nat} (kb N : Nat) (b : Bool) (v : Value) (l : List Int) (O : List OV) (HB : BK B kb w0 N (ovN v l :: O)) (hN : N < 1000000) (hl : l.length ≤ 1000000000) :
    Ret Tryz.prog 26 [(.pointer (some ⟨kb, 0, none⟩)), (.agg #[.bool b, v])] w0 (fun r w1 => Below B w0 w1 ∧ BK B kb w1 (N + 1) O) := by
 have E := Below.refl B w0
 have hB0 : B ≤ w0.heap.size := by have := HB.base; omega
 refine Ret_of (n := 8) Tryz.func26 rfl rfl (Nat.le_of_ble_eq_true rfl) ?_
 refine W_seq ?_
 refine W_region rfl ?_
 refine S_box rfl rfl rfl (v := (.agg #[.bool b, v])) (rfl) (cs := [(.bool b), v]) rfl ?_
 intro g1 w1 hg1 hs1 hB1 b1
 have hz1 := hB1.size
 have E := Below.step E hB1 hB0
 have HB := HB.below hB1
 refine OPS.nil ?_
 change WP _ _ _ _ _ _
 refine W_region rfl ?_
 refine S_move rfl rfl rfl (v := (.pointer (some ⟨kb, 0, none⟩))) (rfl) ?_
 refine S_field ft_api_Int_1 rfl rfl rfl (g := g1) (o := 0) (rfl) (o' := 1) rfl ?_
 refine S_load rfl rfl rfl (rfl) (LD.blk1 ti_api_Nat b1 (v := v) rfl) ?_
 refine S_call en_passayerlaw01_Book_Nat rfl rfl rfl (vs := [(.pointer (some ⟨kb, 0, none⟩)), v]) (rfl) (bookNat_c _ kb N v l O HB hN hl) ?_
 rintro _ w2 ⟨hT, HB⟩
 have E := E.trans hT
 refine OPS.nil ?_
 change Fin' _ _ _ _ _ _
 refine End0 rfl ?_
 exact ⟨E, HB⟩

set_option maxHeartbeats 400000 in
theorem bookRat_c (w0 : World) {B : Nat} (kb N : Nat) (x : RV) (O : List OV) (HB : BK B kb w0 N (ovN x.vn x.q.n :: ovN x.vd x.q.d :: O)) (hN : N + 1 < 1000000) (hl : x.q.n.length ≤ 1000000000) (hl2 : x.q.d.length ≤ 1000000000) :
    Ret Tryz.prog 53 [(.pointer (some ⟨kb, 0, none⟩)), (.agg (RV.cs x).toArray)] w0 (fun r w1 => Below B w0 w1 ∧ BK B kb w1 (N + 1 + 1) O) := by
 have E := Below.refl B w0
 have hB0 : B ≤ w0.heap.size := by have := HB.base; omega
 have HB0 := HB
 refine Ret_of (n := 12) Tryz.func53 rfl rfl (Nat.le_of_ble_eq_true rfl) ?_
 refine W_seq ?_
 refine W_region rfl ?_
 refine S_box rfl rfl rfl (v := (.agg (RV.cs x).toArray)) (rfl) (cs := [(.bool x.q.neg), x.vn, x.vd]) rfl ?_
 intro g1 w1 hg1 hs1 hB1 b1
 have hz1 := hB1.size
 have E := Below.step E hB1 hB0
 have HB := HB.below hB1
 have HB := HB0.box (pre := [ovN x.vn x.q.n, ovN x.vd x.q.d]) hB1 hg1 b1
 refine OPS.nil ?_
 change WP _ _ _ _ _ _
 refine W_seq ?_
 refine W_region rfl ?_
 refine S_move rfl rfl rfl (v := (.pointer (some ⟨kb, 0, none⟩))) (rfl) ?_
 refine S_field ft_api_Rat_0 rfl rfl rfl (g := g1) (o := 0) (rfl) (o' := 0) rfl ?_
 refine S_load rfl rfl rfl (rfl) (LD.blk ti_api_Int b1 (l := [(.bool x.q.neg), x.vn]) rfl rfl) ?_
 refine S_call en_passayerlaw01_Book_Int rfl rfl rfl (vs := [(.pointer (some ⟨kb, 0, none⟩)), (.agg #[(.bool x.q.neg), x.vn])]) (rfl) (bookInt_c _ kb N _ _ _ _ HB (by omega) hl) ?_
 rintro _ w2 ⟨hT, HB⟩
 have E := E.trans hT
 obtain ⟨rest, b1⟩ := box_get (HB.ok (o := ovB g1 70 [(.bool x.q.neg), x.vn, x.vd]) (by simp))
 refine OPS.nil ?_
 change WP _ _ _ _ _ _
 refine W_region rfl ?_
 refine S_move rfl rfl rfl (v := (.pointer (some ⟨kb, 0, none⟩))) (rfl) ?_
 refine S_field ft_api_Rat_1 rfl rfl rfl (g := g1) (o := 0) (rfl) (o' := 2) rfl ?_
 refine S_load rfl rfl rfl (rfl) (LD.blk1 ti_api_Nat b1 (v := x.vd) rfl) ?_
 refine S_call en_passayerlaw01_Book_Nat rfl rfl rfl (vs := [(.pointer (some ⟨kb, 0, none⟩)), x.vd]) (rfl) (bookNat_c _ kb (N + 1) _ _ _ HB (by omega) hl2) ?_
 rintro _ w3 ⟨hT, HB⟩
 have E := E.trans hT
 refine OPS.nil ?_
 change Fin' _ _ _ _ _ _
 refine End0 rfl ?_
 exact ⟨E, (HB.perm (O := ovB g1 70 [(.bool x.q.neg), x.vn, x.vd] :: O) (List.Perm.refl _)).drop⟩

set_option maxHeartbeats 400000 in
theorem bookRats_c (w0 : World) {B : Nat} (kb N : Nat) (v : Value) (es : List RV) (O : List OV) (HB : BK B kb w0 N (ovsR v es ++ O)) (hN : N + 2 * es.length + 1 < 1000000) (hl : ∀ x ∈ es, x.q.n.length ≤ 1000000000 ∧ x.q.d.length ≤ 1000000000) :
    Ret Tryz.prog 72 [(.pointer (some ⟨kb, 0, none⟩)), v] w0 (fun r w1 => Below B w0 w1 ∧ BK B kb w1 (N + 2 * es.length + 1) O) := by
 have E := Below.refl B w0
 have hB0 : B ≤ w0.heap.size := by have := HB.base; omega
 refine Ret_of (n := 20) Tryz.func72 rfl rfl (Nat.le_of_ble_eq_true rfl) ?_
 refine W_seq ?_
 refine W_seq ?_
 refine W_region rfl ?_
 refine S_assign rfl rfl rfl (v := (.int .i64 0)) (rfl) ?_
 refine OPS.nil ?_
 change WP _ _ _ _ _ _
 refine W_block ?_
 refine W_loop (fun k σ w => ∃ (i : Nat), σ 0 = .pointer (some ⟨kb, 0, none⟩) ∧ σ 1 = v ∧ σ 4 = .int .i64 (i : Int) ∧ i + k = es.length ∧ BK B kb w (N + 2 * i) ((es.drop i).flatMap ovN2 ++ ovR v es :: O) ∧ Below B w0 w) (es.length) ⟨0, rfl, rfl, rfl, by omega, (by rw [ovsR, List.append_assoc] at HB; exact HB), E⟩ ?_
 rintro k σ w ⟨i, s0, s1, s4, hik, HB, E⟩
 refine W_seq ?_
 refine W_seq ?_
 refine W_region rfl ?_
 refine S_move rfl rfl rfl (v := (.int .i64 (i : Int))) (s4) ?_
 refine S_move rfl rfl rfl (v := v) (s1) ?_
 refine S_len Tryz.underlying49 rfl rfl rfl (rfl) (m := es.length) ((HB.ok (o := ovR v es) (by simp)).len) ?_
 refine S_bin rfl rfl rfl rfl rfl (rfl) (rfl) (v := .bool (decide ((i : Int) < (es.length : Int)))) rfl ?_
 refine OPS.nil ?_
 change WP _ _ _ _ _ _
 refine W_cond rfl (rfl) (fun hq8 => ?_) (fun hq8 => ?_)
 ·skip
  have pT := hq8
  replace hq8 := of_decide_eq_true hq8
  have qT := hq8
  try rw [pT]
  refine W_skip ?_
  change WP _ _ _ _ _ _
  refine W_seq ?_
  refine W_block ?_
  refine W_region rfl ?_
  have hx := hl _ (getD_mem (j := i) (by omega))
  have HB1 : BK B kb w (N + 2 * i) (ovN (es.getD i rv0).vn (es.getD i rv0).q.n :: ovN (es.getD i rv0).vd (es.getD i rv0).q.d :: ((es.drop (i + 1)).flatMap ovN2 ++ ovR v es :: O)) := by rw [drop_getD (by omega)] at HB; exact HB
  refine S_move rfl rfl rfl (v := (.pointer (some ⟨kb, 0, none⟩))) (s0) ?_
  refine S_move rfl rfl rfl (v := v) (s1) ?_
  refine S_move rfl rfl rfl (v := (.int .i64 (i : Int))) (s4) ?_
  obtain ⟨ad1, hp3, hc2⟩ := (ovR_get (HB.ok (o := ovR v es) (by simp))) i (by omega)
  refine S_idx Tryz.underlying49 ti_api_Rat rfl rfl rfl rfl (rfl) (rfl) hp3 (by omega) ?_
  refine S_load rfl rfl rfl (rfl) (LD.cells ti_api_Rat hc2 rfl) ?_
  refine S_call en_passayerlaw01_Book_Rat rfl rfl rfl (vs := [(.pointer (some ⟨kb, 0, none⟩)), (.agg (RV.cs (es.getD i rv0)).toArray)]) (rfl) (bookRat_c _ kb (N + 2 * i) (es.getD i rv0) _ HB1 (by omega) hx.1 hx.2) ?_
  rintro _ w1 ⟨hT, HB⟩
  have E := E.trans hT
  refine OPS.nil ?_
  change WP _ _ _ _ _ _
  refine W_region rfl ?_
  refine S_move rfl rfl rfl (v := (.int .i64 (i : Int))) (s4) ?_
  refine S_add64 rfl rfl rfl rfl (rfl) (rfl) (by omega) ?_
  refine S_assign rfl rfl rfl (v := (.int .i64 ((i : Int) + 1))) (rfl) ?_
  refine OPS.nil ?_
  exact ⟨k - 1, by omega, i + 1, s0, s1, int_eq (by omega), by omega, HB, E⟩
 ·skip
  have pF := hq8
  replace hq8 := of_decide_eq_false hq8
  have qF := hq8
  try rw [pF]
  refine W_exit ?_
  change WP _ _ _ _ _ _
  refine W_region rfl ?_
  have hi2 : i = es.length := by omega
  replace HB : BK B kb w (N + 2 * es.length) (ovR v es :: O) := by rw [hi2, List.drop_length] at HB; exact HB
  refine S_move rfl rfl rfl (v := (.pointer (some ⟨kb, 0, none⟩))) (s0) ?_
  refine S_move rfl rfl rfl (v := v) (s1) ?_
  refine S_call en_passayerlaw01_Book_keepRat rfl rfl rfl (vs := [(.pointer (some ⟨kb, 0, none⟩)), v]) (rfl) (keepR_c _ kb (N + 2 * es.length) v es O HB (by omega) (by omega)) ?_
  rintro _ w2 ⟨hT, HB⟩
  have E := E.trans hT
  refine OPS.nil ?_
  change Fin' _ _ _ _ _ _
  refine End0 rfl ?_
  exact ⟨E, HB⟩

end Go.Proofs.YtccmicegihlfbaaGreatDoor

/- The book's rounds, in plain Lean: what is held for an entry is written, is grown, is told. Printed by mark.py. -/
namespace Go.Proofs.YtccmicegihlfbaaGreatDoor
open Go.RowKit

theorem putAt_app (A rest vs : List Value) (h : vs.length ≤ rest.length) : putAt (A ++ rest) A.length vs = A ++ vs ++ rest.drop vs.length := by simp [putAt]
theorem putAt_take {cs : List Value} {p q : Nat} {vs : List Value} (h : p + vs.length ≤ q) (hq : q ≤ cs.length) : (putAt cs p vs).take q = putAt (cs.take q) p vs := by
  have e : putAt cs p vs = (cs.take p ++ vs) ++ cs.drop (p + vs.length) := rfl
  have hl : (cs.take p ++ vs).length = p + vs.length := by simp; omega
  have hq2 : q = (cs.take p ++ vs).length + (q - (p + vs.length)) := by omega
  rw [e]
  conv => lhs; rw [hq2, List.take_length_add_append]
  simp only [putAt, List.take_take, List.drop_take, Nat.min_eq_left (by omega : p ≤ q)]
theorem putAt_length {cs : List Value} {p : Nat} {vs : List Value} (h : p + vs.length ≤ cs.length) : (putAt cs p vs).length = cs.length := by
  simp [putAt]; omega
theorem Row.put {B : Nat} {e : TypeId} {sz : Nat} {w : World} {g m c p : Nat} {xs : List Value} (h : Row B e sz w (.slice (some ⟨g, 0, none⟩) m c) m xs) (hc : 0 < c) (vs : List Value) (hp : p + vs.length ≤ m * sz) :
    ∃ cs, Blk w g cs e ∧ p + vs.length ≤ cs.length ∧ ∀ w1, Blk w1 g (putAt cs p vs) e → Row B e sz w1 (.slice (some ⟨g, 0, none⟩) m c) m (putAt xs p vs) := by
  rcases h.2 with ⟨h1, A, h2⟩ | ⟨g', c', cs, h0, h1, h2, h3, h4, h5, h6, h7⟩
  · cases h2; omega
  · cases h0
    have hm : m * sz ≤ c * sz := Nat.mul_le_mul_right _ h4
    refine ⟨cs, h3, by omega, fun w1 hb => ⟨by rw [putAt_length (by rw [h.1]; exact hp)]; exact h.1, .inr ⟨g, c, _, rfl, h1, h2, hb, h4, h5, by rw [putAt_length (by omega)]; exact h6, ?_⟩⟩⟩
    rw [putAt_take hp (by omega), h7]
section
variable {P : Program} {n : NF} {ops : Array Oper} {K : (Nat → Value) → World → Prop} {σ : Nat → Value} {w : World} {i : Nat} {rest : List Nat}
variable {d : Nat} {t : TypeId} {p : String} {af : Array Edge} {gd : Option (Nat × Bool)} {x y : Operand}
/-- A store into a row that is held. -/
theorem S_storeR {T : TypeId} {tsz by_ : Nat} {z : Value} {ag : Bool} (hT : TI P T tsz by_ z ag)
    (ho : ops[i]? = some { dst := none, op := .store T x y, type := t, pos := p, after := af, guard := gd }) (hw : wg n ops σ gd = true) (hx : tok n x = true) (hy : tok n y = true)
    {B : Nat} {e : TypeId} {sz g m c q : Nat} {xs : List Value} (hrow : Row B e sz w (.slice (some ⟨g, 0, none⟩) m c) m xs) (hc : 0 < c)
    (ha : sv σ x = .pointer (some ⟨g, q, none⟩)) {v : Value} (hv : sv σ y = v) {vs : List Value} (hvs : v.cells.toList = vs) (hn : vs.length = tsz) (h1 : ∀ u ∈ vs, u.oneCell' = true) (hq : q + vs.length ≤ m * sz)
    (h : ∀ w1, Upd g w w1 → Row B e sz w1 (.slice (some ⟨g, 0, none⟩) m c) m (putAt xs q vs) → OPS P n ops K rest σ w1) : OPS P n ops K (i :: rest) σ w := by
  obtain ⟨cs, hb, hfit, hrow'⟩ := hrow.put hc vs hq
  exact S_store hT ho hw hx hy ha hv hvs hn h1 hb hfit rfl fun w1 hu hb1 => h w1 hu (hrow' w1 hb1)
end
theorem Row.form {B : Nat} {e : TypeId} {sz : Nat} {w : World} {v : Value} {m : Nat} {xs : List Value} (h : Row B e sz w v m xs) (hm : 0 < m) : ∃ g c, v = .slice (some ⟨g, 0, none⟩) m c ∧ 0 < c ∧ bk v = some g ∧ m ≤ c := by
  rcases h.2 with ⟨rfl, A, rfl⟩ | ⟨g, c, cs, rfl, h1, h2, h3, h4, _⟩
  · omega
  · exact ⟨g, c, rfl, h1, bk_some h1, h4⟩

def restI (vI vR : Value) (R X1 : List HE) (h : HE) (X2 : List HE) (O : List OV) : List OV := ovI vI (X1 ++ h :: X2) :: ovH vR R :: (X1.map HE.o ++ (X2.map HE.o ++ R.map HE.o ++ O))
def restR (vI vR : Value) (I X1 : List HE) (h : HE) (X2 : List HE) (O : List OV) : List OV := ovI vI I :: ovH vR (X1 ++ h :: X2) :: ((I.map HE.o ++ X1.map HE.o) ++ (X2.map HE.o ++ O))

/-! #### side I -/
theorem perm_I {vI vR : Value} {I R : List HE} {O : List OV} {X1 X2 : List HE} {h : HE} (hX : I = X1 ++ h :: X2) : (bookL vI vR I R O).Perm (h.o :: restI vI vR R X1 h X2 O) := by
  subst hX
  have e : bookL vI vR (X1 ++ h :: X2) R O = ovI vI (X1 ++ h :: X2) :: ovH vR R :: ((X1.map HE.o) ++ h.o :: (X2.map HE.o ++ R.map HE.o ++ O)) := by simp [bookL]
  rw [e, restI]
  exact (List.Perm.cons _ (List.Perm.cons _ List.perm_middle)).trans ((List.Perm.cons _ (List.Perm.swap _ _ _)).trans (List.Perm.swap _ _ _))
/-- The row held for one entry is another one now. -/
theorem BOOK.putI {B kb : Nat} {w w1 : World} {no : Int} {vI vR : Value} {R X1 X2 : List HE} {h : HE} {o : OV} {O O' : List OV} (hb : BOOK B kb w no vI vR (X1 ++ h :: X2) R O) (hO : O' = O ∨ O' = h.o :: O)
    (ho : O' = O → OWN B w1 (o :: restI vI vR R X1 h X2 O)) (ho2 : O' = h.o :: O → OWN B w1 (o :: h.o :: restI vI vR R X1 h X2 O)) (hk : Blk w1 kb (bookCs no vI vR) 45) (hne : bk o.v ≠ some kb) : BOOK B kb w1 no vI vR (X1 ++ (⟨h.l, h.long, h.no, o⟩ : HE) :: X2) R O' := by
  have hp := perm_I (vI := vI) (vR := vR) (R := R) (O := O) (rfl : X1 ++ h :: X2 = X1 ++ h :: X2)
  have hp2 := perm_I (vI := vI) (vR := vR) (R := R) (O := O) (rfl : X1 ++ (⟨h.l, h.long, h.no, o⟩ : HE) :: X2 = X1 ++ (⟨h.l, h.long, h.no, o⟩ : HE) :: X2)
  have hp3 := perm_I (vI := vI) (vR := vR) (R := R) (O := h.o :: O) (rfl : X1 ++ (⟨h.l, h.long, h.no, o⟩ : HE) :: X2 = X1 ++ (⟨h.l, h.long, h.no, o⟩ : HE) :: X2)
  have er : restI vI vR R X1 (⟨h.l, h.long, h.no, o⟩ : HE) X2 O = restI vI vR R X1 h X2 O := by simp [restI, ovI, ovH, HE.cs]
  have er2 : (restI vI vR R X1 (⟨h.l, h.long, h.no, o⟩ : HE) X2 (h.o :: O)).Perm (h.o :: restI vI vR R X1 h X2 O) := by
    have e : restI vI vR R X1 (⟨h.l, h.long, h.no, o⟩ : HE) X2 (h.o :: O) = ovI vI (X1 ++ h :: X2) :: ovH vR R :: (((X1.map HE.o) ++ (X2.map HE.o ++ R.map HE.o)) ++ h.o :: O) := by simp [restI, ovI, ovH, HE.cs]
    have e2 : restI vI vR R X1 h X2 O = ovI vI (X1 ++ h :: X2) :: ovH vR R :: (((X1.map HE.o) ++ (X2.map HE.o ++ R.map HE.o)) ++ O) := by simp [restI]
    rw [e, e2]
    exact (List.Perm.cons _ (List.Perm.cons _ List.perm_middle)).trans ((List.Perm.cons _ (List.Perm.swap _ _ _)).trans (List.Perm.swap _ _ _))
  have hkb : ∀ p ∈ h.o :: restI vI vR R X1 h X2 O, bk p.v ≠ some kb := fun p hp' => hb.kb p (hp.mem_iff.2 hp')
  rcases hO with rfl | rfl
  · refine ⟨hk, (er ▸ ho rfl : OWN B w1 (o :: restI vI vR R X1 (⟨h.l, h.long, h.no, o⟩ : HE) X2 O')).perm hp2.symm, fun p hp' => ?_⟩
    rcases List.mem_cons.1 (hp2.mem_iff.1 hp') with rfl | hm
    · exact hne
    · rw [er] at hm; exact hkb p (by simp [hm])
  · refine ⟨hk, (ho2 rfl).perm ((List.Perm.cons _ er2.symm).trans hp3.symm), fun p hp' => ?_⟩
    rcases List.mem_cons.1 (hp3.mem_iff.1 hp') with rfl | hm
    · exact hne
    · exact hkb p (er2.mem_iff.1 hm)
/-- An entry's own row is written. -/
theorem BOOK.updI {B kb g : Nat} {w w1 : World} {no : Int} {vI vR : Value} {R X1 X2 : List HE} {h : HE} {o : OV} {O : List OV} (hb : BOOK B kb w no vI vR (X1 ++ h :: X2) R O) (hu : Upd g w w1) (hg : bk h.o.v = some g) (hv : o.v = h.o.v) (hok : o.ok B w1) :
    BOOK B kb w1 no vI vR (X1 ++ (⟨h.l, h.long, h.no, o⟩ : HE) :: X2) R O := by
  have hp := perm_I (vI := vI) (vR := vR) (R := R) (O := O) (rfl : X1 ++ h :: X2 = X1 ++ h :: X2)
  have hkb : bk h.o.v ≠ some kb := hb.kb _ (hp.mem_iff.2 (by simp))
  exact hb.putI (.inl rfl) (fun _ => (hb.own.perm hp).updHead hu hg hv hok) (fun e => by exact absurd e.symm (by simp)) (hb.blk.upd hu (fun e => hkb (by rw [hg, e]))) (by rw [hv]; exact hkb)
/-- An entry's own row is grown. -/
theorem BOOK.growI {B kb : Nat} {w w1 : World} {no : Int} {vI vR : Value} {R X1 X2 : List HE} {h : HE} {o : OV} {O : List OV} (hb : BOOK B kb w no vI vR (X1 ++ h :: X2) R O) (hg : w.grownBy w1 (bk h.o.v)) (hok : o.ok B w1)
    (hc : bk o.v = bk h.o.v ∨ ∃ g, bk o.v = some g ∧ w.heap.size ≤ g ∧ w.grownBy w1 none) : ∃ O', BOOK B kb w1 no vI vR (X1 ++ (⟨h.l, h.long, h.no, o⟩ : HE) :: X2) R O' ∧ ((bk o.v = bk h.o.v ∧ O' = O) ∨ O' = h.o :: O) := by
  have hp := perm_I (vI := vI) (vR := vR) (R := R) (O := O) (rfl : X1 ++ h :: X2 = X1 ++ h :: X2)
  have hkb : bk h.o.v ≠ some kb := hb.kb _ (hp.mem_iff.2 (by simp))
  have hne : bk o.v ≠ some kb := by
    rcases hc with hc | ⟨g, hc, hs, _⟩
    · rw [hc]; exact hkb
    · rw [hc]; intro e; cases e; have := hb.blk.lt; omega
  have hk := hb.blk.grown hg (fun e => hkb e.symm)
  obtain ⟨h1, h2⟩ := (hb.own.perm hp).grow hg hok hc
  rcases h2 with h2 | h2
  · exact ⟨O, hb.putI (.inl rfl) (fun _ => h1) (fun e => by exact absurd e.symm (by simp)) hk hne, .inl ⟨h2, rfl⟩⟩
  · exact ⟨h.o :: O, hb.putI (.inr rfl) (fun e => by exact absurd e (by simp)) (fun _ => h2) hk hne, .inr rfl⟩
/-- An entry is told its longer list. -/
theorem BOOK.longI {B kb g : Nat} {w w1 : World} {no : Int} {vI vR u : Value} {R X1 X2 : List HE} {h : HE} {O : List OV} (hb : BOOK B kb w no vI vR (X1 ++ h :: X2) R O) (hu : Upd g w w1) (hg : bk vI = some g)
    (hr : Row B 158 3 w1 vI (X1 ++ h :: X2).length (putAt ((X1 ++ h :: X2).flatMap HE.cs) (X1.length * 3 + 1) [u])) : BOOK B kb w1 no vI vR (X1 ++ (⟨h.l, u, h.no, h.o⟩ : HE) :: X2) R O := by
  have e : putAt ((X1 ++ h :: X2).flatMap HE.cs) (X1.length * 3 + 1) [u] = (X1 ++ (⟨h.l, u, h.no, h.o⟩ : HE) :: X2).flatMap HE.cs := by
    have e1 : (X1 ++ h :: X2).flatMap HE.cs = (X1.flatMap HE.cs ++ [h.l]) ++ ([h.long, .int .i64 h.no] ++ X2.flatMap HE.cs) := by simp [HE.cs]
    have e2 : X1.length * 3 + 1 = (X1.flatMap HE.cs ++ [h.l]).length := by simp [flat_len HE.cs 3 HE.cs_len]
    rw [e1, e2, putAt_app _ _ _ (by simp)]
    simp [HE.cs]
  rw [e] at hr
  have hne : bk vI ≠ some kb := hb.kb _ (by simp [bookL] : ovI vI (X1 ++ h :: X2) ∈ bookL vI vR (X1 ++ h :: X2) R O)
  have hp : (bookL vI vR (X1 ++ h :: X2) R O).Perm (ovI vI (X1 ++ h :: X2) :: ovH vR R :: ((X1 ++ h :: X2).map HE.o ++ R.map HE.o ++ O)) := by exact List.Perm.refl _
  have h1 := (hb.own.perm hp).updHead (o' := ovI vI (X1 ++ (⟨h.l, u, h.no, h.o⟩ : HE) :: X2)) hu hg rfl (by unfold OV.ok ovI; simp only [List.length_append, List.length_cons] at hr ⊢; exact hr)
  have hp2 : (ovI vI (X1 ++ (⟨h.l, u, h.no, h.o⟩ : HE) :: X2) :: ovH vR R :: ((X1 ++ h :: X2).map HE.o ++ R.map HE.o ++ O)).Perm (bookL vI vR (X1 ++ (⟨h.l, u, h.no, h.o⟩ : HE) :: X2) R O) := by
    have : (X1 ++ (⟨h.l, u, h.no, h.o⟩ : HE) :: X2).map HE.o = (X1 ++ h :: X2).map HE.o := by simp
    unfold bookL
    rw [this]
    try exact List.Perm.refl _
  refine ⟨hb.blk.upd hu (fun e => hne (by rw [hg, e])), h1.perm hp2, fun p hp' => ?_⟩
  rcases List.mem_cons.1 (hp2.mem_iff.2 hp') with rfl | hm
  · exact hne
  · exact hb.kb p (hp.mem_iff.2 (by simp only [List.mem_cons]; exact .inr (List.mem_cons.1 hm)))

/-! #### side R -/
theorem perm_R {vI vR : Value} {I R : List HE} {O : List OV} {X1 X2 : List HE} {h : HE} (hX : R = X1 ++ h :: X2) : (bookL vI vR I R O).Perm (h.o :: restR vI vR I X1 h X2 O) := by
  subst hX
  have e : bookL vI vR I (X1 ++ h :: X2) O = ovI vI I :: ovH vR (X1 ++ h :: X2) :: ((I.map HE.o ++ X1.map HE.o) ++ h.o :: (X2.map HE.o ++ O)) := by simp [bookL]
  rw [e, restR]
  exact (List.Perm.cons _ (List.Perm.cons _ List.perm_middle)).trans ((List.Perm.cons _ (List.Perm.swap _ _ _)).trans (List.Perm.swap _ _ _))
/-- The row held for one entry is another one now. -/
theorem BOOK.putR {B kb : Nat} {w w1 : World} {no : Int} {vI vR : Value} {I X1 X2 : List HE} {h : HE} {o : OV} {O O' : List OV} (hb : BOOK B kb w no vI vR I (X1 ++ h :: X2) O) (hO : O' = O ∨ O' = h.o :: O)
    (ho : O' = O → OWN B w1 (o :: restR vI vR I X1 h X2 O)) (ho2 : O' = h.o :: O → OWN B w1 (o :: h.o :: restR vI vR I X1 h X2 O)) (hk : Blk w1 kb (bookCs no vI vR) 45) (hne : bk o.v ≠ some kb) : BOOK B kb w1 no vI vR I (X1 ++ (⟨h.l, h.long, h.no, o⟩ : HE) :: X2) O' := by
  have hp := perm_R (vI := vI) (vR := vR) (I := I) (O := O) (rfl : X1 ++ h :: X2 = X1 ++ h :: X2)
  have hp2 := perm_R (vI := vI) (vR := vR) (I := I) (O := O) (rfl : X1 ++ (⟨h.l, h.long, h.no, o⟩ : HE) :: X2 = X1 ++ (⟨h.l, h.long, h.no, o⟩ : HE) :: X2)
  have hp3 := perm_R (vI := vI) (vR := vR) (I := I) (O := h.o :: O) (rfl : X1 ++ (⟨h.l, h.long, h.no, o⟩ : HE) :: X2 = X1 ++ (⟨h.l, h.long, h.no, o⟩ : HE) :: X2)
  have er : restR vI vR I X1 (⟨h.l, h.long, h.no, o⟩ : HE) X2 O = restR vI vR I X1 h X2 O := by simp [restR, ovI, ovH, HE.cs]
  have er2 : (restR vI vR I X1 (⟨h.l, h.long, h.no, o⟩ : HE) X2 (h.o :: O)).Perm (h.o :: restR vI vR I X1 h X2 O) := by
    have e : restR vI vR I X1 (⟨h.l, h.long, h.no, o⟩ : HE) X2 (h.o :: O) = ovI vI I :: ovH vR (X1 ++ h :: X2) :: (((I.map HE.o ++ X1.map HE.o) ++ X2.map HE.o) ++ h.o :: O) := by simp [restR, ovI, ovH, HE.cs]
    have e2 : restR vI vR I X1 h X2 O = ovI vI I :: ovH vR (X1 ++ h :: X2) :: (((I.map HE.o ++ X1.map HE.o) ++ X2.map HE.o) ++ O) := by simp [restR]
    rw [e, e2]
    exact (List.Perm.cons _ (List.Perm.cons _ List.perm_middle)).trans ((List.Perm.cons _ (List.Perm.swap _ _ _)).trans (List.Perm.swap _ _ _))
  have hkb : ∀ p ∈ h.o :: restR vI vR I X1 h X2 O, bk p.v ≠ some kb := fun p hp' => hb.kb p (hp.mem_iff.2 hp')
  rcases hO with rfl | rfl
  · refine ⟨hk, (er ▸ ho rfl : OWN B w1 (o :: restR vI vR I X1 (⟨h.l, h.long, h.no, o⟩ : HE) X2 O')).perm hp2.symm, fun p hp' => ?_⟩
    rcases List.mem_cons.1 (hp2.mem_iff.1 hp') with rfl | hm
    · exact hne
    · rw [er] at hm; exact hkb p (by simp [hm])
  · refine ⟨hk, (ho2 rfl).perm ((List.Perm.cons _ er2.symm).trans hp3.symm), fun p hp' => ?_⟩
    rcases List.mem_cons.1 (hp3.mem_iff.1 hp') with rfl | hm
    · exact hne
    · exact hkb p (er2.mem_iff.1 hm)
/-- An entry's own row is written. -/
theorem BOOK.updR {B kb g : Nat} {w w1 : World} {no : Int} {vI vR : Value} {I X1 X2 : List HE} {h : HE} {o : OV} {O : List OV} (hb : BOOK B kb w no vI vR I (X1 ++ h :: X2) O) (hu : Upd g w w1) (hg : bk h.o.v = some g) (hv : o.v = h.o.v) (hok : o.ok B w1) :
    BOOK B kb w1 no vI vR I (X1 ++ (⟨h.l, h.long, h.no, o⟩ : HE) :: X2) O := by
  have hp := perm_R (vI := vI) (vR := vR) (I := I) (O := O) (rfl : X1 ++ h :: X2 = X1 ++ h :: X2)
  have hkb : bk h.o.v ≠ some kb := hb.kb _ (hp.mem_iff.2 (by simp))
  exact hb.putR (.inl rfl) (fun _ => (hb.own.perm hp).updHead hu hg hv hok) (fun e => by exact absurd e.symm (by simp)) (hb.blk.upd hu (fun e => hkb (by rw [hg, e]))) (by rw [hv]; exact hkb)
/-- An entry's own row is grown. -/
theorem BOOK.growR {B kb : Nat} {w w1 : World} {no : Int} {vI vR : Value} {I X1 X2 : List HE} {h : HE} {o : OV} {O : List OV} (hb : BOOK B kb w no vI vR I (X1 ++ h :: X2) O) (hg : w.grownBy w1 (bk h.o.v)) (hok : o.ok B w1)
    (hc : bk o.v = bk h.o.v ∨ ∃ g, bk o.v = some g ∧ w.heap.size ≤ g ∧ w.grownBy w1 none) : ∃ O', BOOK B kb w1 no vI vR I (X1 ++ (⟨h.l, h.long, h.no, o⟩ : HE) :: X2) O' ∧ ((bk o.v = bk h.o.v ∧ O' = O) ∨ O' = h.o :: O) := by
  have hp := perm_R (vI := vI) (vR := vR) (I := I) (O := O) (rfl : X1 ++ h :: X2 = X1 ++ h :: X2)
  have hkb : bk h.o.v ≠ some kb := hb.kb _ (hp.mem_iff.2 (by simp))
  have hne : bk o.v ≠ some kb := by
    rcases hc with hc | ⟨g, hc, hs, _⟩
    · rw [hc]; exact hkb
    · rw [hc]; intro e; cases e; have := hb.blk.lt; omega
  have hk := hb.blk.grown hg (fun e => hkb e.symm)
  obtain ⟨h1, h2⟩ := (hb.own.perm hp).grow hg hok hc
  rcases h2 with h2 | h2
  · exact ⟨O, hb.putR (.inl rfl) (fun _ => h1) (fun e => by exact absurd e.symm (by simp)) hk hne, .inl ⟨h2, rfl⟩⟩
  · exact ⟨h.o :: O, hb.putR (.inr rfl) (fun e => by exact absurd e (by simp)) (fun _ => h2) hk hne, .inr rfl⟩
/-- An entry is told its longer list. -/
theorem BOOK.longR {B kb g : Nat} {w w1 : World} {no : Int} {vI vR u : Value} {I X1 X2 : List HE} {h : HE} {O : List OV} (hb : BOOK B kb w no vI vR I (X1 ++ h :: X2) O) (hu : Upd g w w1) (hg : bk vR = some g)
    (hr : Row B 183 3 w1 vR (X1 ++ h :: X2).length (putAt ((X1 ++ h :: X2).flatMap HE.cs) (X1.length * 3 + 1) [u])) : BOOK B kb w1 no vI vR I (X1 ++ (⟨h.l, u, h.no, h.o⟩ : HE) :: X2) O := by
  have e : putAt ((X1 ++ h :: X2).flatMap HE.cs) (X1.length * 3 + 1) [u] = (X1 ++ (⟨h.l, u, h.no, h.o⟩ : HE) :: X2).flatMap HE.cs := by
    have e1 : (X1 ++ h :: X2).flatMap HE.cs = (X1.flatMap HE.cs ++ [h.l]) ++ ([h.long, .int .i64 h.no] ++ X2.flatMap HE.cs) := by simp [HE.cs]
    have e2 : X1.length * 3 + 1 = (X1.flatMap HE.cs ++ [h.l]).length := by simp [flat_len HE.cs 3 HE.cs_len]
    rw [e1, e2, putAt_app _ _ _ (by simp)]
    simp [HE.cs]
  rw [e] at hr
  have hne : bk vR ≠ some kb := hb.kb _ (by simp [bookL] : ovH vR (X1 ++ h :: X2) ∈ bookL vI vR I (X1 ++ h :: X2) O)
  have hp : (bookL vI vR I (X1 ++ h :: X2) O).Perm (ovH vR (X1 ++ h :: X2) :: ovI vI I :: (I.map HE.o ++ (X1 ++ h :: X2).map HE.o ++ O)) := by exact List.Perm.swap _ _ _
  have h1 := (hb.own.perm hp).updHead (o' := ovH vR (X1 ++ (⟨h.l, u, h.no, h.o⟩ : HE) :: X2)) hu hg rfl (by unfold OV.ok ovH; simp only [List.length_append, List.length_cons] at hr ⊢; exact hr)
  have hp2 : (ovH vR (X1 ++ (⟨h.l, u, h.no, h.o⟩ : HE) :: X2) :: ovI vI I :: (I.map HE.o ++ (X1 ++ h :: X2).map HE.o ++ O)).Perm (bookL vI vR I (X1 ++ (⟨h.l, u, h.no, h.o⟩ : HE) :: X2) O) := by
    have : (X1 ++ (⟨h.l, u, h.no, h.o⟩ : HE) :: X2).map HE.o = (X1 ++ h :: X2).map HE.o := by simp
    unfold bookL
    rw [this]
    exact List.Perm.swap _ _ _
  refine ⟨hb.blk.upd hu (fun e => hne (by rw [hg, e])), h1.perm hp2, fun p hp' => ?_⟩
  rcases List.mem_cons.1 (hp2.mem_iff.2 hp') with rfl | hm
  · exact hne
  · exact hb.kb p (hp.mem_iff.2 (by simp only [List.mem_cons]; exact .inr (List.mem_cons.1 hm)))

/-! ### Marks -/
/-- The cells of one mark: of parts, or of fractions. -/
def MC (k : Bool) (O : List OV) (no : Int) (d : List Value) : Prop :=
  if k then ∃ a, d = [.bool false, .slice none 0 0, a] ∧ ovN a [1000 + no] ∈ O else d = [.int .u32 (1000 + no)]
def ksz (k : Bool) : Nat := if k then 3 else 1
def kty (k : Bool) : TypeId := if k then 70 else 106
def MK (k : Bool) (O : List OV) (no : Int) (m : Nat) (xs : List Value) : Prop := ∃ ds : List (List Value), ds.length = m ∧ xs = ds.flatten ∧ ∀ d ∈ ds, MC k O no d
section
variable {k : Bool} {O O' : List OV} {no : Int} {m : Nat} {xs d : List Value}
theorem MC.mono (h : MC k O no d) (hs : ∀ o ∈ O, o ∈ O') : MC k O' no d := by
  cases k
  · exact h
  · obtain ⟨a, h1, h2⟩ := h
    exact ⟨a, h1, hs _ h2⟩
theorem MC.len (h : MC k O no d) : d.length = ksz k := by
  cases k
  · rw [show d = _ from h]; rfl
  · obtain ⟨a, rfl, _⟩ := h; rfl
theorem MK.mono (h : MK k O no m xs) (hs : ∀ o ∈ O, o ∈ O') : MK k O' no m xs := by
  obtain ⟨ds, h1, h2, h3⟩ := h
  exact ⟨ds, h1, h2, fun d hd => (h3 d hd).mono hs⟩
theorem MK.nil : MK k O no 0 [] := ⟨[], rfl, rfl, fun _ h => by cases h⟩
theorem MK.snoc (h : MK k O no m xs) (hd : MC k O no d) : MK k O no (m + 1) (xs ++ d) := by
  obtain ⟨ds, h1, h2, h3⟩ := h
  refine ⟨ds ++ [d], by simp [h1], by simp [h2], fun e he => ?_⟩
  rcases List.mem_append.1 he with he | he
  · exact h3 e he
  · rw [List.mem_singleton] at he; subst he; exact hd
theorem MK.len (h : MK k O no m xs) : xs.length = m * ksz k := by
  obtain ⟨ds, rfl, rfl, h3⟩ := h
  induction ds with
  | nil => simp
  | cons d ds ih =>
    rw [List.flatten_cons, List.length_append, ih (fun e he => h3 e (by simp [he])), (h3 d (by simp)).len, List.length_cons, Nat.add_mul]
    omega
theorem MK.get (h : MK k O no m xs) {j : Nat} (hj : j < m) : ∃ d, MC k O no d ∧ ∀ i, i < ksz k → xs[j * ksz k + i]? = d[i]? := by
  obtain ⟨ds, rfl, rfl, h3⟩ := h
  induction ds generalizing j with
  | nil => simp at hj
  | cons d ds ih =>
    have hd := (h3 d (by simp)).len
    cases j with
    | zero =>
      refine ⟨d, h3 d (by simp), fun i hi => ?_⟩
      rw [List.flatten_cons, List.getElem?_append_left (by omega)]
      simp
    | succ j =>
      obtain ⟨d', h1, h2⟩ := ih (j := j) (by simpa using hj) (fun e he => h3 e (by simp [he]))
      refine ⟨d', h1, fun i hi => ?_⟩
      rw [List.flatten_cons, List.getElem?_append_right (by rw [hd, Nat.add_mul]; omega), hd, show (j + 1) * ksz k + i - ksz k = j * ksz k + i by rw [Nat.add_mul]; omega]
      exact h2 i hi
end
/-! ### The rounds of an entry -/
def PK (k : Bool) (h : HE) : Prop := h.l = h.o.v ∧ h.long = .slice none 0 0 ∧ (0 ≤ h.no ∧ h.no ≤ 1000000) ∧ h.o.e = kty k ∧ h.o.sz = ksz k ∧ h.o.m ≤ 1000000000
/-- Its first j elements are marked. -/
def PP (k : Bool) (O : List OV) (h : HE) (j : Nat) : Prop := PK k h ∧ j ≤ h.o.m ∧ ∃ xs rest, h.o.xs = xs ++ rest ∧ MK k O h.no j xs
def PF (k : Bool) (O : List OV) (h : HE) : Prop := PK k h ∧ MK k O h.no h.o.m h.o.xs
/-- j marks have been put behind it; the list itself is the head of a row that is held. -/
def PG (k : Bool) (O : List OV) (h : HE) (j : Nat) : Prop :=
  (0 ≤ h.no ∧ h.no ≤ 1000000) ∧ h.o.e = kty k ∧ h.o.sz = ksz k ∧ ∃ m A c, h.l = .slice A m c ∧ m ≤ 1000000000 ∧ h.o.m = m + j ∧ MK k O h.no (m + j) h.o.xs ∧
    ∃ o' : OV, (o' = h.o ∨ o' ∈ O) ∧ o'.sz = ksz k ∧ m ≤ o'.m ∧ (∃ c', o'.v = .slice A o'.m c') ∧ MK k O h.no o'.m o'.xs
def PD (k : Bool) (O : List OV) (h : HE) : Prop := PG k O h 40 ∧ h.long = h.o.v
section
variable {k : Bool} {O O' : List OV} {h : HE}
theorem PF.mono (hp : PF k O h) (hs : ∀ o ∈ O, o ∈ O') : PF k O' h := ⟨hp.1, hp.2.mono hs⟩
theorem PP.mono {j : Nat} (hp : PP k O h j) (hs : ∀ o ∈ O, o ∈ O') : PP k O' h j := by
  obtain ⟨h1, h2, xs, rest, h3, h4⟩ := hp
  exact ⟨h1, h2, xs, rest, h3, h4.mono hs⟩
theorem PG.mono {j : Nat} (hp : PG k O h j) (hs : ∀ o ∈ O, o ∈ O') : PG k O' h j := by
  obtain ⟨h1, h2, h3, m, A, c, h4, h5, h6, h7, h8⟩ := hp
  obtain ⟨o', g1, g2, g3, g4, g5⟩ := h8
  exact ⟨h1, h2, h3, m, A, c, h4, h5, h6, h7.mono hs, o', g1.imp id (hs _), g2, g3, g4, g5.mono hs⟩
theorem PD.mono (hp : PD k O h) (hs : ∀ o ∈ O, o ∈ O') : PD k O' h := ⟨hp.1.mono hs, hp.2⟩
theorem PP.start (hp : PK k h) : PP k O h 0 := ⟨hp, Nat.zero_le _, [], h.o.xs, rfl, MK.nil⟩
theorem PP.step {B : Nat} {w : World} {j : Nat} {d : List Value} (hp : PP k O h j) (hok : h.o.ok B w) (hj : j < h.o.m) (hd : MC k O h.no d) : PP k O ⟨h.l, h.long, h.no, { h.o with xs := putAt h.o.xs (j * ksz k) d }⟩ (j + 1) := by
  obtain ⟨⟨h1, h2, h3, h4, h5, h6⟩, h7, xs, rest, h8, h9⟩ := hp
  refine ⟨⟨h1, h2, h3, h4, h5, h6⟩, hj, xs ++ d, rest.drop d.length, ?_, h9.snoc hd⟩
  have hl := hok.1
  rw [h8, h5, List.length_append, h9.len] at hl
  have hm : (j + 1) * ksz k ≤ h.o.m * ksz k := Nat.mul_le_mul_right _ hj
  rw [Nat.add_mul] at hm
  show putAt h.o.xs (j * ksz k) d = _
  rw [h8, ← h9.len]
  exact putAt_app _ _ _ (by rw [hd.len]; omega)
theorem PP.done {B : Nat} {w : World} (hp : PP k O h h.o.m) (hok : h.o.ok B w) : PF k O h := by
  obtain ⟨h1, h7, xs, rest, h8, h9⟩ := hp
  have hl := hok.1
  have h5 := h1.2.2.2.2.1
  rw [h8, h5, List.length_append, h9.len] at hl
  obtain rfl : rest = [] := List.eq_nil_of_length_eq_zero (by omega)
  rw [List.append_nil] at h8
  exact ⟨h1, h8 ▸ h9⟩
theorem PG.start {B : Nat} {w : World} (hp : PF k O h) (hok : h.o.ok B w) : PG k O h 0 := by
  obtain ⟨⟨h1, h2, h3, h4, h5, h6⟩, h7⟩ := hp
  obtain ⟨A, c, hv⟩ := hok.len
  exact ⟨h3, h4, h5, h.o.m, A, c, by rw [h1, hv], h6, rfl, h7, h.o, .inl rfl, h5, Nat.le_refl _, ⟨c, hv⟩, h7⟩
theorem PG.step {B : Nat} {w w' : World} {j : Nat} {d : List Value} {v' : Value} (hp : PG k O h j) (hok : h.o.ok B w) (hd : MC k O h.no d) (hr : Row B h.o.e h.o.sz w' v' (h.o.m + 1) (h.o.xs ++ d))
    (hO : (bk v' = bk h.o.v ∧ O' = O) ∨ O' = h.o :: O) : PG k O' ⟨h.l, h.long, h.no, ⟨v', h.o.e, h.o.sz, h.o.m + 1, h.o.xs ++ d⟩⟩ (j + 1) := by
  obtain ⟨h1, h2, h3, m, A, c, h4, h5, h6, h7, o', g1, g2, g3, ⟨c', g4⟩, g5⟩ := hp
  have hs : ∀ o ∈ O, o ∈ O' := by
    rcases hO with ⟨_, rfl⟩ | rfl
    · exact fun o ho => ho
    · exact fun o ho => List.mem_cons_of_mem _ ho
  have hnew := (h7.snoc hd).mono hs
  refine ⟨h1, h2, h3, m, A, c, h4, h5, by show h.o.m + 1 = _; omega, hnew, ?_⟩
  rcases g1 with rfl | g1
  · rcases hO with ⟨hb, rfl⟩ | rfl
    · refine ⟨⟨v', h.o.e, h.o.sz, h.o.m + 1, h.o.xs ++ d⟩, .inl rfl, h3, by show m ≤ h.o.m + 1; omega, ?_, by show MK k O' h.no (h.o.m + 1) (h.o.xs ++ d); rw [h6]; exact hnew⟩
      obtain ⟨g, c2, e1, e2, e3, _⟩ := hr.form (by omega)
      refine ⟨c2, ?_⟩
      show v' = .slice A (h.o.m + 1) c2
      rw [e1]
      rcases hok.2 with ⟨_, A', e4⟩ | ⟨g2, c3, cs, e4, e5, _⟩
      · rw [e3, e4, bk_nil] at hb; cases hb
      · rw [e3, e4, bk_some e5] at hb
        cases hb
        rw [g4] at e4
        cases e4
        rfl
    · exact ⟨h.o, .inr (by simp), h3, by omega, ⟨c', g4⟩, g5.mono hs⟩
  · exact ⟨o', .inr (hs _ g1), g2, g3, ⟨c', g4⟩, g5.mono hs⟩
end
/-- What stands at a marked element. -/
theorem MK.at_ {k : Bool} {O : List OV} {no : Int} {w : World} {v : Value} {m j : Nat} {xs : List Value} (hm : MK k O no m xs) (hr : RC 0 0 (ksz k) w v m xs) (hj : j < m) : ∃ ad d, SlAt v m (ksz k) j ad ∧ MC k O no d ∧ CellsAt w ad d := by
  obtain ⟨ad, h1, h2⟩ := hr.at_ hj (by cases k <;> decide)
  obtain ⟨d, h3, h4⟩ := hm.get hj
  exact ⟨ad, d, h1, h3, fun i hi => by rw [h3.len] at hi; rw [h2 i hi, h4 i hi]⟩
theorem PD.long_at {B : Nat} {k : Bool} {O : List OV} {h : HE} {w : World} (hp : PD k O h) (hok : h.o.ok B w) : ∃ m A c, h.l = .slice A m c ∧ m ≤ 1000000000 ∧ SlLen h.long (m + 40) ∧ ∀ j, j < m + 40 → ∃ ad d, SlAt h.long (m + 40) (ksz k) j ad ∧ MC k O h.no d ∧ CellsAt w ad d := by
  obtain ⟨⟨h1, h2, h3, m, A, c, h4, h5, h6, h7, _⟩, h8⟩ := hp
  refine ⟨m, A, c, h4, h5, by rw [h8, ← h6]; exact hok.len, fun j hj => ?_⟩
  have hr : RC 0 0 (ksz k) w h.o.v (m + 40) h.o.xs := by
    have := Row.rc hok
    rw [h3, h6] at this
    exact this.any (Nat.le_refl _)
  rw [h8]
  exact h7.at_ hr hj
theorem PD.l_at {B : Nat} {k : Bool} {O : List OV} {h : HE} {w : World} (hp : PD k O h) (hok : h.o.ok B w) (hO : ∀ o ∈ O, o.ok B w) {m : Nat} {A : Option Addr} {c : Nat} (hl : h.l = .slice A m c) : ∀ j, j < m → ∃ ad d, SlAt h.l m (ksz k) j ad ∧ MC k O h.no d ∧ CellsAt w ad d := by
  obtain ⟨⟨h1, h2, h3, m', A', c', h4, h5, h6, h7, o', g1, g2, g3, ⟨c2, g4⟩, g5⟩, h8⟩ := hp
  rw [hl] at h4
  cases h4
  intro j hj
  have hok' : o'.ok B w := by
    rcases g1 with rfl | g1
    · exact hok
    · exact hO _ g1
  have hr : RC 0 0 (ksz k) w o'.v o'.m o'.xs := by
    have := Row.rc hok'
    rw [g2] at this
    exact this.any (Nat.le_refl _)
  obtain ⟨ad, d, e1, e2, e3⟩ := g5.at_ hr (Nat.lt_of_lt_of_le hj g3)
  refine ⟨ad, d, ?_, e2, e3⟩
  rw [g4] at e1
  obtain ⟨ad0, c3, e4, e5, e6⟩ := e1
  cases e4
  exact ⟨ad0, c, hl, hj, e6⟩
theorem PK.form {B : Nat} {k : Bool} {h : HE} {w : World} (hp : PK k h) (hok : h.o.ok B w) : ∃ A m c n xs, h = ⟨.slice A m c, .slice none 0 0, n, ⟨.slice A m c, kty k, ksz k, m, xs⟩⟩ ∧ (0 ≤ n ∧ n ≤ 1000000) ∧ m ≤ 1000000000 := by
  obtain ⟨l, long, no, ⟨v, e, sz, m, xs⟩⟩ := h
  obtain ⟨h1, h2, h3, h4, h5, h6⟩ := hp
  obtain ⟨A, c, hv⟩ := hok.len
  simp only at h1 h2 h3 h4 h5 h6 hv
  subst h1 h2 h4 h5 hv
  exact ⟨A, m, c, no, xs, rfl, h3, h6⟩
theorem cs_at {a b : Nat} {w : World} {v : Value} {X1 X2 : List HE} {h : HE} (hr : RC a b 3 w v (X1 ++ h :: X2).length ((X1 ++ h :: X2).flatMap HE.cs)) : ∃ ad, SlAt v (X1 ++ h :: X2).length 3 X1.length ad ∧ CellsAt w ad h.cs := by
  obtain ⟨ad, h1, h2⟩ := hr.at_ (j := X1.length) (by simp) (by omega)
  refine ⟨ad, h1, fun i hi => ?_⟩
  rw [HE.cs_len] at hi
  rw [h2 i hi, flat_get HE.cs 3 HE.cs_len _ _ _ hi]
  simp
theorem BOOK.atI {B kb : Nat} {w : World} {no : Int} {vI vR : Value} {X1 X2 R : List HE} {h : HE} {O : List OV} (hb : BOOK B kb w no vI vR (X1 ++ h :: X2) R O) : ∃ ad, SlAt vI (X1 ++ h :: X2).length 3 X1.length ad ∧ CellsAt w ad h.cs := cs_at hb.rowI.rc
theorem BOOK.atR {B kb : Nat} {w : World} {no : Int} {vI vR : Value} {X1 X2 I : List HE} {h : HE} {O : List OV} (hb : BOOK B kb w no vI vR I (X1 ++ h :: X2) O) : ∃ ad, SlAt vR (X1 ++ h :: X2).length 3 X1.length ad ∧ CellsAt w ad h.cs := cs_at hb.rowH.rc
theorem BOOK.okI {B kb : Nat} {w : World} {no : Int} {vI vR : Value} {I R : List HE} {h : HE} {O : List OV} (hb : BOOK B kb w no vI vR I R O) (hh : h ∈ I) : h.o.ok B w := hb.own.ok _ (by
  simp only [bookL, List.mem_cons, List.mem_append, List.mem_map]; exact .inr (.inr (.inl (.inl ⟨h, hh, rfl⟩))))
theorem BOOK.okR {B kb : Nat} {w : World} {no : Int} {vI vR : Value} {I R : List HE} {h : HE} {O : List OV} (hb : BOOK B kb w no vI vR I R O) (hh : h ∈ R) : h.o.ok B w := hb.own.ok _ (by
  simp only [bookL, List.mem_cons, List.mem_append, List.mem_map]; exact .inr (.inr (.inl (.inr ⟨h, hh, rfl⟩))))
theorem BOOK.okO {B kb : Nat} {w : World} {no : Int} {vI vR : Value} {I R : List HE} {o : OV} {O : List OV} (hb : BOOK B kb w no vI vR I R O) (ho : o ∈ O) : o.ok B w := hb.own.ok _ (by
  simp only [bookL, List.mem_cons, List.mem_append]; exact .inr (.inr (.inr ho)))
/-- One more row is held, in new memory. -/
theorem BOOK.new {B kb : Nat} {w w1 : World} {no : Int} {vI vR : Value} {I R : List HE} {O : List OV} {o : OV} (h1 : BOOK B kb w no vI vR I R O) (hB : Below w.heap.size w w1) (hn : ∀ g, bk o.v = some g → w.heap.size ≤ g) (ho : o.ok B w1) : BOOK B kb w1 no vI vR I R (o :: O) := by
  have hp : (o :: bookL vI vR I R O).Perm (bookL vI vR I R (o :: O)) := by
    simp only [bookL]
    exact (List.Perm.swap _ _ _).trans (List.Perm.cons _ ((List.Perm.swap _ _ _).trans (List.Perm.cons _ List.perm_middle.symm)))
  refine ⟨h1.blk.below hB, ((h1.own.below hB).addNew ho hn fun a ha g hg => h1.own.lt ha g hg).perm hp, fun p hp' => ?_⟩
  rcases List.mem_cons.1 (hp.mem_iff.2 hp') with rfl | hm
  · intro e
    have := hn kb e
    have := h1.blk.lt
    omega
  · exact h1.kb p hm
theorem BOOK.lt {B kb : Nat} {w : World} {no : Int} {vI vR : Value} {I R : List HE} {O : List OV} (h : BOOK B kb w no vI vR I R O) : ∀ o ∈ bookL vI vR I R O, ∀ g, bk o.v = some g → g < w.heap.size := fun o ho g hg => h.own.lt ho g hg
theorem BOOK.updHi {B kb H g : Nat} {w w1 : World} {no : Int} {vI vR : Value} {I R : List HE} {O : List OV} (h : BOOK B kb w no vI vR I R O) (hu : Upd g w w1) (hlt : ∀ o ∈ bookL vI vR I R O, ∀ g, bk o.v = some g → g < H) (hk : kb < H) (hg : H ≤ g) : BOOK B kb w1 no vI vR I R O :=
  ⟨h.blk.upd hu (by omega), h.own.upd hu (fun o ho e => by have := hlt o ho g e; omega), h.kb⟩
theorem BOOK.memI {vI vR : Value} {I R : List HE} {h : HE} {O : List OV} (hh : h ∈ I) : h.o ∈ bookL vI vR I R O := by
  simp only [bookL, List.mem_cons, List.mem_append, List.mem_map]; exact .inr (.inr (.inl (.inl ⟨h, hh, rfl⟩)))
theorem BOOK.memR {vI vR : Value} {I R : List HE} {h : HE} {O : List OV} (hh : h ∈ R) : h.o ∈ bookL vI vR I R O := by
  simp only [bookL, List.mem_cons, List.mem_append, List.mem_map]; exact .inr (.inr (.inl (.inr ⟨h, hh, rfl⟩)))
theorem PG.le {k : Bool} {O : List OV} {h : HE} {j : Nat} (hp : PG k O h j) : h.o.m ≤ 1000000000 + j := by
  obtain ⟨_, _, _, m, A, c, _, h5, h6, _⟩ := hp
  omega
theorem CellsAt.one {w : World} {ad : Addr} {x : Value} (h : CellsAt w ad [x]) : w.cell? ad = some x := by
  have := h 0 (by simp)
  simpa [Addr.add] using this
theorem list_split {l : List HE} {i : Nat} (hi : i < l.length) : ∃ X1 h X3, l = X1 ++ h :: X3 ∧ X1.length = i := by
  refine ⟨l.take i, l[i], l.drop (i + 1), ?_, by simp; omega⟩
  rw [← List.drop_eq_getElem_cons hi, List.take_append_drop]
theorem PD.form {B : Nat} {k : Bool} {O : List OV} {h : HE} {w : World} (hp : PD k O h) (hok : h.o.ok B w) : ∃ A m c Al cl n o, h = ⟨.slice A m c, .slice Al (m + 40) cl, n, o⟩ ∧ (0 ≤ n ∧ n ≤ 1000000) ∧ m ≤ 1000000000 := by
  obtain ⟨l, long, no, o⟩ := h
  have hlong := PD.long_at hp hok
  obtain ⟨⟨h1, _⟩, _⟩ := hp
  obtain ⟨m, A, c, e1, e2, ⟨Al, cl, e3⟩, _⟩ := hlong
  simp only at e1 e3 h1
  subst e1 e3
  exact ⟨A, m, c, Al, cl, no, o, rfl, h1, e2⟩
theorem PD.long_at' {B : Nat} {k : Bool} {O : List OV} {w : World} {A Al : Option Addr} {m c cl : Nat} {n : Int} {o : OV} (hp : PD k O ⟨.slice A m c, .slice Al (m + 40) cl, n, o⟩) (hok : o.ok B w) {j : Nat} (hj : j < m + 40) : ∃ ad d, SlAt (.slice Al (m + 40) cl) (m + 40) (ksz k) j ad ∧ MC k O n d ∧ CellsAt w ad d := by
  obtain ⟨m', A', c', h4, h5, _, h7⟩ := PD.long_at hp hok
  cases h4
  exact h7 j hj
end Go.Proofs.YtccmicegihlfbaaGreatDoor
