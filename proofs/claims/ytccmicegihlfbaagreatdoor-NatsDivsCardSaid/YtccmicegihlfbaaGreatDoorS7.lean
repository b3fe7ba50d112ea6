/- Quotients and greatest common measures. -/
import Derived.Test.YtccmicegihlfbaaGreatDoorS6
import Derived.Test.YtccmicegihlfbaaGreatDoorTy
import Derived.Test.YtccmicegihlfbaaGreatDoorPG
import Derived.Test.YtccmicegihlfbaaGreatDoorRow
import Derived.Test.YtccmicegihlfbaaGreatDoorN9
set_option linter.unusedVariables false
set_option linter.unusedSimpArgs false
namespace Go.Proofs.YtccmicegihlfbaaGreatDoor
open Go.RowKit


theorem divE_dg {x y : Nat} (h : (dg y).length ≠ 0) : divE (dg x) (dg y) = 0 := by
  unfold divE
  rw [okL_dg, okL_dg]
  exact (if_pos rfl).trans (if_neg h)
theorem dg_len0 {y : Nat} : (dg y).length = 0 ↔ y = 0 := by
  rw [List.length_eq_zero_iff, dg_eq_nil]
theorem fine_len {l : List Int} (h : (fineL l).length = 0) : nv l = 0 := by
  unfold nv; rw [List.eq_nil_of_length_eq_zero h, val_nil]
theorem fine_pos {l : List Int} (hu : U32 l) (h : (fineL l).length ≠ 0) : 0 < val (fineL l) :=
  val_pos_of_ok (U32_fine hu) (okL_fine l) (fun e => h (by rw [e]; rfl))
theorem lz_norm {t s : Nat} (h1 : 1 ≤ t) (h2 : t < 4294967296) (hs : s + len32 t = 32) : t * 2 ^ s < 4294967296 ∧ 2147483648 ≤ t * 2 ^ s ∧ s < 32 := by
  obtain ⟨a1, a2, a3⟩ := len32_spec (x := t) (by omega)
  have hp : 0 < 2 ^ s := Nat.pow_pos (by decide)
  have e1 : 2 ^ len32 t * 2 ^ s = 4294967296 := by rw [← Nat.pow_add, show len32 t + s = 32 by omega]
  have e2 : 2 ^ (len32 t - 1) * 2 ^ s = 2147483648 := by rw [← Nat.pow_add, show len32 t - 1 + s = 31 by omega]
  have b1 := Nat.mul_lt_mul_of_pos_right a2 hp
  have b2 := Nat.mul_le_mul_right (2 ^ s) a1
  exact ⟨by omega, by omega, by omega⟩

set_option maxHeartbeats 400000 in
theorem ref01Gcd_c (w0 : World) (va vb : Value) (la lb : List Int) {a b a2 b2 : Nat} (ha : RN a b w0 va la) (hb : RN a2 b2 w0 vb lb) (hsa : la.length ≤ SZ) (hsb : lb.length ≤ SZ) :
    Ret Tryz.prog 45 [va, vb] w0 (fun r w1 => Below w0.heap.size w0 w1 ∧ ON w0.heap.size w1 r (dg (Nat.gcd (nv la) (nv lb)))) := by
  have E := Below.refl w0.heap.size w0
  have hfa := ha.fine
  have hfb := hb.fine
  have hf1 := fineL_length la
  have hf2 := fineL_length lb
  refine Ret_of (n := 27) Tryz.func45 rfl rfl (Nat.le_of_ble_eq_true rfl) ?_
  refine W_seq ?_
  refine W_region rfl ?_
  refine S_assign rfl rfl rfl (v := (.slice none 0 0)) (rfl) ?_
  refine OPS.nil ?_
  change WP _ _ _ _ _ _
  refine W_seq ?_
  refine W_region rfl ?_
  refine S_move rfl rfl rfl (v := va) (rfl) ?_
  refine S_call en_assayerref01_fit rfl rfl rfl (vs := [va]) (rfl) (ref01Fit_c w0 va la ha) ?_
  rintro _ _ ⟨rfl, rfl⟩
  refine S_call en_assayerref01_Twin rfl rfl rfl (vs := [(if okL la then va else .slice none 0 0)]) (rfl) (ref01Twin_c _ _ (fineL la) (hfa.below E) (by omega)) ?_
  rintro vh1 w1 ⟨hB1, h1⟩
  have hz1 := hB1.size
  have E := Below.step E hB1
  refine S_assign rfl rfl rfl (v := vh1) (rfl) ?_
  refine OPS.nil ?_
  change WP _ _ _ _ _ _
  refine W_seq ?_
  refine W_region rfl ?_
  refine S_move rfl rfl rfl (v := vb) (rfl) ?_
  refine S_call en_assayerref01_fit rfl rfl rfl (vs := [vb]) (rfl) (ref01Fit_c _ vb lb (hb.below E)) ?_
  rintro _ _ ⟨rfl, rfl⟩
  refine S_call en_assayerref01_Twin rfl rfl rfl (vs := [(if okL lb then vb else .slice none 0 0)]) (rfl) (ref01Twin_c _ _ (fineL lb) (hfb.below E) (by omega)) ?_
  rintro vh2 w2 ⟨hB2, h2⟩
  have hz2 := hB2.size
  have E := Below.step E hB2
  have h1 := h1.below hB2
  have h1 := h1.mono (show w0.heap.size ≤ _ by omega)
  have h2 := h2.mono (show w0.heap.size ≤ _ by omega)
  rw [← dg_nv ha.u32] at h1
  rw [← dg_nv hb.u32] at h2
  have hz9 := E.size
  refine S_assign rfl rfl rfl (v := vh2) (rfl) ?_
  refine OPS.nil ?_
  change WP _ _ _ _ _ _
  refine W_seq ?_
  refine W_block ?_
  refine W_loop (fun k σ w => ∃ (vx vy : Value) (X : Nat), σ 0 = vx ∧ σ 1 = vy ∧ ON w0.heap.size w vx (dg X) ∧ ON w0.heap.size w vy (dg k) ∧ Nat.gcd X k = Nat.gcd (nv la) (nv lb) ∧ (dg X).length ≤ SZ ∧ (dg k).length ≤ SZ ∧ Below w0.heap.size w0 w) (nv lb) ⟨_, _, nv la, rfl, rfl, h1, h2, rfl, by rw [dg_nv ha.u32]; omega, by rw [dg_nv hb.u32]; omega, E⟩ ?_
  rintro k σ w ⟨vx, vy, X, s0, s1, h1, h2, hg, hlx, hly, E⟩
  have hz0 := E.size
  refine W_seq ?_
  refine W_seq ?_
  refine W_region rfl ?_
  refine S_move rfl rfl rfl (v := vy) (s1) ?_
  refine S_len Tryz.underlying23 rfl rfl rfl (rfl) (m := (dg k).length) (h2.r.len) ?_
  refine S_bin rfl rfl rfl rfl rfl (rfl) (rfl) (v := .bool (decide (((dg k).length : Int) > 0))) rfl ?_
  refine OPS.nil ?_
  change WP _ _ _ _ _ _
  refine W_cond rfl (rfl) (fun hq16 => ?_) (fun hq16 => ?_)
  · skip
    have pT := hq16
    replace hq16 := of_decide_eq_true hq16
    have qT := hq16
    try rw [pT]
    refine W_skip ?_
    change WP _ _ _ _ _ _
    refine W_block ?_
    refine W_seq ?_
    refine W_region rfl ?_
    have dv0 : divE (dg X) (dg k) = 0 := divE_dg (by omega)
    refine S_move rfl rfl rfl (v := vx) (s0) ?_
    refine S_move rfl rfl rfl (v := vy) (s1) ?_
    refine S_call en_assayerref01_Div rfl rfl rfl (vs := [vx, vy]) (rfl) (ref01Div_c _ _ _ (dg X) (dg k) h1.r h2.r hlx hly) ?_
    rintro _ w3 ⟨hB3, vq, vr, rfl, d1, d2⟩
    have hz3 := hB3.size
    have E := Below.step E hB3
    have h1 := h1.below hB3
    have h2 := h2.below hB3
    refine S_move rfl rfl rfl (v := (.tuple #[vq, vr, .int .i64 (divE (dg X) (dg k))])) (rfl) ?_
    refine S_extract rfl rfl rfl (rfl) rfl ?_
    refine S_extract rfl rfl rfl (rfl) rfl ?_
    refine S_extract rfl rfl rfl (rfl) rfl ?_
    refine S_assign rfl rfl rfl (v := vq) (rfl) ?_
    refine S_assign rfl rfl rfl (v := vr) (rfl) ?_
    refine S_assign rfl rfl rfl (v := (.int .i64 (divE (dg X) (dg k)))) (rfl) ?_
    refine OPS.nil ?_
    change WP _ _ _ _ _ _
    refine W_seq ?_
    refine W_region rfl ?_
    refine S_move rfl rfl rfl (v := vy) (s1) ?_
    refine S_assign rfl rfl rfl (v := vy) (rfl) ?_
    refine OPS.nil ?_
    change WP _ _ _ _ _ _
    refine W_region rfl ?_
    refine S_move rfl rfl rfl (v := vr) (rfl) ?_
    refine S_assign rfl rfl rfl (v := vr) (rfl) ?_
    refine OPS.nil ?_
    have hk : 0 < k := Nat.pos_of_ne_zero (fun h => by have := dg_len0.2 h; omega)
    have hml := Nat.mod_lt X hk
    rw [dv0, if_pos rfl, val_dg, val_dg] at d2
    exact ⟨X % k, hml, _, _, k, rfl, rfl, h2, d2.mono (by omega), by rw [Nat.gcd_comm, ← Nat.gcd_rec, Nat.gcd_comm]; exact hg, hly, Nat.le_trans (dg_length_mono (Nat.le_of_lt hml)) hly, E⟩
  · skip
    have pF := hq16
    replace hq16 := of_decide_eq_false hq16
    have qF := hq16
    try rw [pF]
    refine W_exit ?_
    change WP _ _ _ _ _ _
    refine W_seq ?_
    refine W_region rfl ?_
    refine S_move rfl rfl rfl (v := vx) (s0) ?_
    refine S_assign rfl rfl rfl (v := vx) (rfl) ?_
    refine OPS.nil ?_
    change WP _ _ _ _ _ _
    refine W_ret ?_
    change Fin' _ _ _ _ _ _
    refine End1 (n := ⟨27, []⟩) (t := 4) rfl (by decide) (v := vx) (rfl) ?_
    have hk : k = 0 := dg_len0.1 (by omega)
    subst hk
    rw [Nat.gcd_zero_right] at hg
    exact ⟨E, hg ▸ h1⟩

set_option maxHeartbeats 1000000 in
theorem natsDiv_c (w0 : World) (va vb : Value) (la lb : List Int) {a b a2 b2 : Nat} (ha : RN a b w0 va la) (hb : RN a2 b2 w0 vb lb) (hsa : la.length < SZ) (hsb : lb.length ≤ SZ) :
    Ret Tryz.prog 41 [va, vb] w0 (fun r w1 => Below w0.heap.size w0 w1 ∧ ∃ v1 v2, r = .tuple #[v1, v2, .int .i64 (divE la lb)] ∧ ON w0.heap.size w1 v1 (if divE la lb = 0 then dg (val la / val lb) else []) ∧ ON w0.heap.size w1 v2 (if divE la lb = 0 then dg (val la % val lb) else []) ∧ ∃ K, (∀ g, bk v1 = some g → g < K) ∧ ∀ g, bk v2 = some g → K ≤ g) := by
  have E := Below.refl w0.heap.size w0
  have hmb := hb.maxl
  have hsa1 : la.length ≤ SZ := Nat.le_of_lt hsa
  refine Ret_of (n := 68) Tryz.func41 rfl rfl (Nat.le_of_ble_eq_true rfl) ?_
  refine W_seq ?_
  refine W_region rfl ?_
  refine S_assign rfl rfl rfl (v := (.slice none 0 0)) (rfl) ?_
  refine S_assign rfl rfl rfl (v := (.slice none 0 0)) (rfl) ?_
  refine S_assign rfl rfl rfl (v := (.int .i64 0)) (rfl) ?_
  refine OPS.nil ?_
  change WP _ _ _ _ _ _
  refine W_seq ?_
  refine W_block ?_
  refine W_seq ?_
  refine W_region rfl ?_
  refine S_move rfl rfl rfl (v := va) (rfl) ?_
  refine S_call en_nats_Check rfl rfl rfl (vs := [va]) (rfl) (natsCheck_c _ _ la ha) ?_
  rintro _ _ ⟨rfl, rfl⟩
  refine S_not rfl rfl rfl (rfl) ?_
  refine S_move rfl rfl rfl (v := (.bool (!(okL la)))) (rfl) ?_
  rcases Bool.eq_false_or_eq_true (!(okL la)) with pT | pF
  · skip
    rw [pT]
    refine S_skip (d := 15) (op := .move _) (gd := some (3, false)) rfl (wg_off rfl (rfl) rfl) ?_
    refine S_skip (d := 16) (op := .call _) (gd := some (3, false)) rfl (wg_off rfl (rfl) rfl) ?_
    refine S_skip (d := 17) (op := .unOp _ _ _) (gd := some (3, false)) rfl (wg_off rfl (rfl) rfl) ?_
    refine S_pick rfl rfl rfl rfl rfl (b := true) (rfl) (v := (.bool true)) (rfl) ?_
    refine S_assign rfl rfl rfl (v := (.bool true)) (rfl) ?_
    refine OPS.nil ?_
    change WP _ _ _ _ _ _
    refine W_cond rfl (b := true) (rfl) (fun _ => ?_) (fun h => (by cases h))
    refine W_seq ?_
    refine W_region rfl ?_
    refine S_assign rfl rfl rfl (v := (.slice none 0 0)) (rfl) ?_
    refine S_assign rfl rfl rfl (v := (.slice none 0 0)) (rfl) ?_
    refine S_assign rfl rfl rfl (v := (.int .i64 1)) (rfl) ?_
    refine OPS.nil ?_
    change WP _ _ _ _ _ _
    refine W_ret ?_
    change Fin' _ _ _ _ _ _
    refine End3 (n := ⟨68, []⟩) (t := 4) (u := 5) (s := 6) rfl (by decide) (by decide) (by decide) (rfl) (rfl) (rfl) ?_
    have hs : divE la lb = 1 := by simp_all [divE]
    exact ⟨E, _, _, congrArg (fun z => Value.tuple #[_, _, .int .i64 z]) hs.symm, by rw [hs]; exact ON.nil _ _, by rw [hs]; exact ON.nil _ _, ⟨0, fun g hg => (nomatch (show (none : Option Nat) = some g from hg)), fun g _ => Nat.zero_le g⟩⟩
  · skip
    rw [pF]
    refine S_move rfl rfl rfl (v := vb) (rfl) ?_
    refine S_call en_nats_Check rfl rfl rfl (vs := [vb]) (rfl) (natsCheck_c _ _ lb hb) ?_
    rintro _ _ ⟨rfl, rfl⟩
    refine S_not rfl rfl rfl (rfl) ?_
    refine S_pick rfl rfl rfl rfl rfl (b := false) (rfl) (v := (.bool (!(okL lb)))) (rfl) ?_
    refine S_assign rfl rfl rfl (v := (.bool (!(okL lb)))) (rfl) ?_
    refine OPS.nil ?_
    change WP _ _ _ _ _ _
    refine W_cond rfl (rfl) (fun hq10 => ?_) (fun hq10 => ?_)
    · skip
      have pFT := hq10
      skip
      try rw [pFT]
      refine W_seq ?_
      refine W_region rfl ?_
      refine S_assign rfl rfl rfl (v := (.slice none 0 0)) (rfl) ?_
      refine S_assign rfl rfl rfl (v := (.slice none 0 0)) (rfl) ?_
      refine S_assign rfl rfl rfl (v := (.int .i64 1)) (rfl) ?_
      refine OPS.nil ?_
      change WP _ _ _ _ _ _
      refine W_ret ?_
      change Fin' _ _ _ _ _ _
      refine End3 (n := ⟨68, []⟩) (t := 4) (u := 5) (s := 6) rfl (by decide) (by decide) (by decide) (rfl) (rfl) (rfl) ?_
      have hs : divE la lb = 1 := by simp_all [divE]
      exact ⟨E, _, _, congrArg (fun z => Value.tuple #[_, _, .int .i64 z]) hs.symm, by rw [hs]; exact ON.nil _ _, by rw [hs]; exact ON.nil _ _, ⟨0, fun g hg => (nomatch (show (none : Option Nat) = some g from hg)), fun g _ => Nat.zero_le g⟩⟩
    · skip
      have pFF := hq10
      skip
      have hka : okL la = true := by simpa using pF
      have hkb : okL lb = true := by simpa using pFF
      try rw [pFF]
      refine W_seq ?_
      refine W_region rfl ?_
      refine S_move rfl rfl rfl (v := vb) (rfl) ?_
      refine S_len Tryz.underlying23 rfl rfl rfl (rfl) (m := lb.length) (hb.len) ?_
      refine S_bin rfl rfl rfl rfl rfl (rfl) (rfl) (v := .bool (((lb.length : Int) == 0))) rfl ?_
      refine S_assign rfl rfl rfl (v := (.bool (((lb.length : Int) == 0)))) (rfl) ?_
      refine OPS.nil ?_
      change WP _ _ _ _ _ _
      refine W_cond rfl (rfl) (fun hq19 => ?_) (fun hq19 => ?_)
      · skip
        have pFFT := hq19
        replace hq19 := eq_of_beq hq19
        have qFFT := hq19
        try rw [pFFT]
        refine W_seq ?_
        refine W_region rfl ?_
        refine S_assign rfl rfl rfl (v := (.slice none 0 0)) (rfl) ?_
        refine S_assign rfl rfl rfl (v := (.slice none 0 0)) (rfl) ?_
        refine S_assign rfl rfl rfl (v := (.int .i64 10)) (rfl) ?_
        refine OPS.nil ?_
        change WP _ _ _ _ _ _
        refine W_ret ?_
        change Fin' _ _ _ _ _ _
        refine End3 (n := ⟨68, []⟩) (t := 4) (u := 5) (s := 6) rfl (by decide) (by decide) (by decide) (rfl) (rfl) (rfl) ?_
        have hs : divE la lb = 10 := by unfold divE; rw [hka, hkb]; exact (if_pos rfl).trans (if_pos (by omega))
        exact ⟨E, _, _, congrArg (fun z => Value.tuple #[_, _, .int .i64 z]) hs.symm, by rw [hs]; exact ON.nil _ _, by rw [hs]; exact ON.nil _ _, ⟨0, fun g hg => (nomatch (show (none : Option Nat) = some g from hg)), fun g _ => Nat.zero_le g⟩⟩
      · skip
        have pFFF := hq19
        replace hq19 := ne_of_beq_false hq19
        have qFFF := hq19
        try rw [pFFF]
        refine W_seq ?_
        refine W_region rfl ?_
        refine S_move rfl rfl rfl (v := va) (rfl) ?_
        refine S_move rfl rfl rfl (v := vb) (rfl) ?_
        refine S_call en_nats_Cmp rfl rfl rfl (vs := [va, vb]) (rfl) (natsCmp_c _ _ _ la lb (ha.below E) (hb.below E)) ?_
        rintro _ w1 ⟨hB1, rfl⟩
        have hz1 := hB1.size
        have E := Below.step E hB1
        refine S_bin rfl rfl rfl rfl rfl (rfl) (rfl) (v := .bool (decide ((cmpN (nv la) (nv lb)) < 0))) rfl ?_
        refine S_assign rfl rfl rfl (v := (.bool (decide ((cmpN (nv la) (nv lb)) < 0)))) (rfl) ?_
        refine OPS.nil ?_
        change WP _ _ _ _ _ _
        refine W_cond rfl (rfl) (fun hq23 => ?_) (fun hq23 => ?_)
        · skip
          have pFFFT := hq23
          replace hq23 := of_decide_eq_true hq23
          have qFFFT := hq23
          try rw [pFFFT]
          refine W_seq ?_
          refine W_region rfl ?_
          refine S_move rfl rfl rfl (v := va) (rfl) ?_
          refine S_call en_slices_Clone_api_Nat_uint32 rfl rfl rfl (vs := [va]) (rfl) (natsClone_c _ _ la (ha.below E) hsa1) ?_
          rintro vh1 w2 ⟨hB2, h1⟩
          have hz2 := hB2.size
          have E := Below.step E hB2
          refine S_assign rfl rfl rfl (v := (.slice none 0 0)) (rfl) ?_
          refine S_assign rfl rfl rfl (v := vh1) (rfl) ?_
          refine S_assign rfl rfl rfl (v := (.int .i64 0)) (rfl) ?_
          refine OPS.nil ?_
          change WP _ _ _ _ _ _
          refine W_ret ?_
          change Fin' _ _ _ _ _ _
          refine End3 (n := ⟨68, []⟩) (t := 4) (u := 5) (s := 6) rfl (by decide) (by decide) (by decide) (rfl) (rfl) (rfl) ?_
          have hs : divE la lb = 0 := by unfold divE; rw [hka, hkb]; exact (if_pos rfl).trans (if_neg (by omega))
          have hlt := cmpN_lt0.1 qFFFT
          rw [nv_ok hka, nv_ok hkb] at hlt
          refine ⟨E, _, _, congrArg (fun z => Value.tuple #[_, _, .int .i64 z]) hs.symm, ?_, ?_, ⟨0, fun g hg => (nomatch (show (none : Option Nat) = some g from hg)), fun g _ => Nat.zero_le g⟩⟩
          · rw [hs, Nat.div_eq_of_lt hlt, dg_zero]; exact ON.nil _ _
          · rw [hs, Nat.mod_eq_of_lt hlt, dg_val ha.u32 hka]; exact h1.mono (by omega)
        · skip
          have pFFFF := hq23
          replace hq23 := of_decide_eq_false hq23
          have qFFFF := hq23
          have hle : val lb ≤ val la := by
            have := mt cmpN_lt0.2 qFFFF
            rw [nv_ok hka, nv_ok hkb] at this
            omega
          have hlbp : 0 < lb.length := by have := qFFF; omega
          have hbp := val_pos_of_ok hb.u32 hkb (by intro h; subst h; simp at hlbp)
          try rw [pFFFF]
          refine W_seq ?_
          refine W_region rfl ?_
          refine S_move rfl rfl rfl (v := vb) (rfl) ?_
          refine S_len Tryz.underlying23 rfl rfl rfl (rfl) (m := lb.length) (hb.len) ?_
          refine S_bin rfl rfl rfl rfl rfl (rfl) (rfl) (v := .bool (((lb.length : Int) == 1))) rfl ?_
          refine S_assign rfl rfl rfl (v := (.bool (((lb.length : Int) == 1)))) (rfl) ?_
          refine OPS.nil ?_
          change WP _ _ _ _ _ _
          refine W_cond rfl (rfl) (fun hq30 => ?_) (fun hq30 => ?_)
          · skip
            have pFFFFT := hq30
            replace hq30 := eq_of_beq hq30
            have qFFFFT := hq30
            have hl1 : lb.length = 1 := by have := qFFFFT; omega
            have hyp := ok_last hb.u32 hkb (m := 0) hl1
            have hyl := hb.u32.getD 0
            try rw [pFFFFT]
            refine W_seq ?_
            refine W_region rfl ?_
            refine S_move rfl rfl rfl (v := va) (rfl) ?_
            refine S_move rfl rfl rfl (v := vb) (rfl) ?_
            obtain ⟨ad1, hp3, hc2⟩ := (hb.below E).at 0 (by omega)
            refine S_idx Tryz.underlying23 ti_uint32 rfl rfl rfl rfl (rfl) (rfl) hp3 (by omega) ?_
            refine S_load rfl rfl rfl (rfl) (LD.one ti_uint32 hc2) ?_
            refine S_call en_nats_short rfl rfl rfl (vs := [va, (.int .u32 (lb.getD 0 0))]) (rfl) (natsShort_c _ _ la (lb.getD 0 0) (ha.below E) hsa1 ⟨by omega, by omega⟩) ?_
            rintro _ w3 ⟨hB3, v1, rfl, h1⟩
            have hz3 := hB3.size
            have E := Below.step E hB3
            have hml := Nat.mod_lt (val la) (show 0 < (lb.getD 0 0).toNat by omega)
            have hsz1 := E.size
            have hkq := h1.bkB
            refine S_move rfl rfl rfl (v := (.tuple #[v1, .int .u32 ((val la % (lb.getD 0 0).toNat : Nat) : Int)])) (rfl) ?_
            refine S_extract rfl rfl rfl (rfl) rfl ?_
            refine S_extract rfl rfl rfl (rfl) rfl ?_
            refine S_assign rfl rfl rfl (v := v1) (rfl) ?_
            refine S_assign rfl rfl rfl (v := (.int .u32 ((val la % (lb.getD 0 0).toNat : Nat) : Int))) (rfl) ?_
            refine OPS.nil ?_
            change WP _ _ _ _ _ _
            refine W_seq ?_
            refine W_region rfl ?_
            refine S_move rfl rfl rfl (v := v1) (rfl) ?_
            refine S_move rfl rfl rfl (v := (.int .u32 ((val la % (lb.getD 0 0).toNat : Nat) : Int))) (rfl) ?_
            refine S_conv Tryz.underlying106 Tryz.underlying124 rfl rfl rfl (rfl) (b := ((val la % (lb.getD 0 0).toNat : Nat) : Int)) (wrap_u64 (by omega) (by omega)) ?_
            refine S_call en_nats_Of rfl rfl rfl (vs := [(.int .u64 ((val la % (lb.getD 0 0).toNat : Nat) : Int))]) (rfl) (natsOf_c _ ((val la % (lb.getD 0 0).toNat : Nat) : Int) ⟨by omega, by omega⟩) ?_
            rintro vh2 w4 ⟨hB4, h2⟩
            have hz4 := hB4.size
            have E := Below.step E hB4
            have h1 := h1.below hB4
            rw [Int.toNat_natCast] at h2
            refine S_assign rfl rfl rfl (v := v1) (rfl) ?_
            refine S_assign rfl rfl rfl (v := vh2) (rfl) ?_
            refine S_assign rfl rfl rfl (v := (.int .i64 0)) (rfl) ?_
            refine OPS.nil ?_
            change WP _ _ _ _ _ _
            refine W_ret ?_
            change Fin' _ _ _ _ _ _
            refine End3 (n := ⟨68, []⟩) (t := 4) (u := 5) (s := 6) rfl (by decide) (by decide) (by decide) (rfl) (rfl) (rfl) ?_
            have hs : divE la lb = 0 := by unfold divE; rw [hka, hkb]; exact (if_pos rfl).trans (if_neg (by omega))
            have hy : (lb.getD 0 0).toNat = val lb := (val_one (l := lb) hl1).symm
            refine ⟨E, _, _, congrArg (fun z => Value.tuple #[_, _, .int .i64 z]) hs.symm, ?_, ?_, ⟨_, fun g hg => (hkq g hg).2, fun g hg => (h2.bkB g hg).1⟩⟩
            · rw [hs, ← hy]; exact h1.mono (by omega)
            · rw [hs, ← hy]; exact h2.mono (by omega)
          · skip
            have pFFFFF := hq30
            replace hq30 := ne_of_beq_false hq30
            have qFFFFF := hq30
            obtain ⟨n, hn⟩ : ∃ n, lb.length = n + 1 := ⟨lb.length - 1, by omega⟩
            have hn1 : 1 ≤ n := by have := qFFFFF; omega
            obtain ⟨t, ht, htl⟩ := hb.u32.nat n
            have htp0 := ok_last hb.u32 hkb hn
            have htp : 1 ≤ t := by omega
            have hl32 := len32_le (x := t) (by omega)
            obtain ⟨s, hs⟩ : ∃ s, s + len32 t = 32 := ⟨32 - len32 t, by omega⟩
            obtain ⟨hts, htb, hsl⟩ := lz_norm htp htl hs
            obtain ⟨hDl, hDb⟩ := norm_len hb.u32 hn ht hts htb hsl
            have hmul : val la ≤ val la * 2 ^ s := Nat.le_mul_of_pos_right _ (Nat.pow_pos (by decide))
            have hul : la.length ≤ (dg (val la * 2 ^ s)).length := by
              have := dg_length_mono hmul
              rwa [dg_val ha.u32 hka] at this
            have hul2 : (dg (val la * 2 ^ s)).length ≤ la.length + 1 := by
              refine dg_length_le ?_
              rw [Nat.pow_succ]
              have h9 : 2 ^ s ≤ 2 ^ 32 := Nat.pow_le_pow_right (by decide) (by omega)
              exact Nat.lt_of_lt_of_le (Nat.mul_lt_mul_of_pos_right (val_lt ha.u32) (Nat.pow_pos (by decide))) (Nat.mul_le_mul_left _ h9)
            have hll := val_len_le ha.u32 hb.u32 hkb hle
            have hDk : okL (dg (val lb * 2 ^ s)) = true := okL_dg _
            have htop := ok_last (U32_dg (val lb * 2 ^ s)) hDk (m := n) hDl
            obtain ⟨m, hm⟩ : ∃ m, n = m + 1 := ⟨n - 1, by omega⟩
            have hlt0 : val ((dg (val la * 2 ^ s)).drop ((dg (val la * 2 ^ s)).length + 1 - (dg (val lb * 2 ^ s)).length)) < val (dg (val lb * 2 ^ s)) := norm_top (U32_dg _) (val_dg _) (N := (dg (val la * 2 ^ s)).length) (Nat.lt_of_le_of_lt hmul (lt_dg_length _)) hsl (n := n) (by omega) (by rw [val_dg]; exact hDb)
            try rw [pFFFFF]
            refine W_skip ?_
            change WP _ _ _ _ _ _
            refine W_seq ?_
            refine W_region rfl ?_
            refine S_move rfl rfl rfl (v := vb) (rfl) ?_
            refine S_move rfl rfl rfl (v := vb) (rfl) ?_
            refine S_len Tryz.underlying23 rfl rfl rfl (rfl) (m := lb.length) (hb.len) ?_
            refine S_sub64 rfl rfl rfl rfl (rfl) (rfl) (by omega) ?_
            obtain ⟨ad4, hp6, hc5⟩ := (hb.below E).at n (by omega)
            refine S_idx Tryz.underlying23 ti_uint32 rfl rfl rfl rfl (rfl) (rfl) hp6 (by omega) ?_
            refine S_load rfl rfl rfl (rfl) (LD.one ti_uint32 hc5) ?_
            refine S_call en_math_bits_LeadingZeros32 rfl rfl rfl (vs := [(.int .u32 (lb.getD n 0))]) (rfl) (lz32_c _ (lb.getD n 0) ⟨by omega, by omega⟩) ?_
            rintro r_ _ ⟨hr_, rfl⟩
            rw [ht, Int.toNat_natCast] at hr_
            obtain rfl : r_ = .int .i64 (s : Int) := hr_.trans (int_eq (by omega))
            refine S_conv Tryz.underlying3 Tryz.underlying125 rfl rfl rfl (rfl) (b := (s : Int)) (wrap_u64 (by omega) (by omega)) ?_
            refine S_assign rfl rfl rfl (v := (.int .u64 (s : Int))) (rfl) ?_
            refine OPS.nil ?_
            change WP _ _ _ _ _ _
            refine W_seq ?_
            refine W_region rfl ?_
            refine S_move rfl rfl rfl (v := va) (rfl) ?_
            refine S_move rfl rfl rfl (v := (.int .u64 (s : Int))) (rfl) ?_
            refine S_call en_nats_shift rfl rfl rfl (vs := [va, (.int .u64 (s : Int))]) (rfl) (natsShift_c _ _ la s (ha.below E) hsa1 (by omega)) ?_
            rintro vh1 w5 ⟨hB5, h1⟩
            have hz5 := hB5.size
            have E := Below.step E hB5
            refine S_move rfl rfl rfl (v := vb) (rfl) ?_
            refine S_move rfl rfl rfl (v := (.int .u64 (s : Int))) (rfl) ?_
            refine S_call en_nats_shift rfl rfl rfl (vs := [vb, (.int .u64 (s : Int))]) (rfl) (natsShift_c _ _ lb s (hb.below E) hsb (by omega)) ?_
            rintro vh2 w6 ⟨hB6, h2⟩
            have hz6 := hB6.size
            have E := Below.step E hB6
            have h1 := h1.below hB6
            refine S_call en_nats_long rfl rfl rfl (vs := [vh1, vh2]) (rfl) (natsLong_c _ _ _ (dg (val la * 2 ^ s)) (dg (val lb * 2 ^ s)) m h1.r h2.r (by omega) (by omega) (by omega) (by rw [← hm]; exact htop) hlt0) ?_
            rintro _ w7 ⟨hB7, vq, vr, rfl, d1, d2⟩
            have hz7 := hB7.size
            have E := Below.step E hB7
            have h1 := h1.below hB7
            have h2 := h2.below hB7
            have hkq := d1.bkB
            have hlr : (dg (val (dg (val la * 2 ^ s)) % val (dg (val lb * 2 ^ s)))).length ≤ SZ := by
              have h9 := dg_length_mono (Nat.le_of_lt (Nat.mod_lt (val (dg (val la * 2 ^ s))) (show 0 < val (dg (val lb * 2 ^ s)) by rw [val_dg]; exact Nat.mul_pos hbp (Nat.pow_pos (by decide)))))
              rw [val_dg (val lb * 2 ^ s), hDl] at h9
              rw [val_dg (val lb * 2 ^ s)]
              omega
            refine S_move rfl rfl rfl (v := (.tuple #[vq, vr])) (rfl) ?_
            refine S_extract rfl rfl rfl (rfl) rfl ?_
            refine S_extract rfl rfl rfl (rfl) rfl ?_
            refine S_assign rfl rfl rfl (v := vq) (rfl) ?_
            refine S_assign rfl rfl rfl (v := vr) (rfl) ?_
            refine OPS.nil ?_
            change WP _ _ _ _ _ _
            refine W_seq ?_
            refine W_region rfl ?_
            refine S_move rfl rfl rfl (v := vq) (rfl) ?_
            refine S_move rfl rfl rfl (v := vr) (rfl) ?_
            refine S_move rfl rfl rfl (v := (.int .u64 (s : Int))) (rfl) ?_
            refine S_call en_nats_back rfl rfl rfl (vs := [vr, (.int .u64 (s : Int))]) (rfl) (natsBack_c _ _ (dg (val (dg (val la * 2 ^ s)) % val (dg (val lb * 2 ^ s)))) s d2.r hlr (by omega)) ?_
            rintro vh3 w8 ⟨hB8, h3⟩
            have hz8 := hB8.size
            have E := Below.step E hB8
            have h1 := h1.below hB8
            have h2 := h2.below hB8
            have d1 := d1.below hB8
            have d2 := d2.below hB8
            refine S_assign rfl rfl rfl (v := vq) (rfl) ?_
            refine S_assign rfl rfl rfl (v := vh3) (rfl) ?_
            refine S_assign rfl rfl rfl (v := (.int .i64 0)) (rfl) ?_
            refine OPS.nil ?_
            change WP _ _ _ _ _ _
            refine W_ret ?_
            change Fin' _ _ _ _ _ _
            refine End3 (n := ⟨68, []⟩) (t := 4) (u := 5) (s := 6) rfl (by decide) (by decide) (by decide) (rfl) (rfl) (rfl) ?_
            have hs : divE la lb = 0 := by unfold divE; rw [hka, hkb]; exact (if_pos rfl).trans (if_neg (by omega))
            rw [val_dg, val_dg, shl_div] at d1
            rw [val_dg, val_dg, val_dg, shl_mod] at h3
            exact ⟨E, _, _, congrArg (fun z => Value.tuple #[_, _, .int .i64 z]) hs.symm, by rw [hs]; exact d1.mono (by omega), by rw [hs]; exact h3.mono (by omega), ⟨_, fun g hg => (hkq g hg).2, fun g hg => (h3.bkB g hg).1⟩⟩

set_option maxHeartbeats 400000 in
theorem natsGcd_c (w0 : World) (va vb : Value) (la lb : List Int) {a b a2 b2 : Nat} (ha : RN a b w0 va la) (hb : RN a2 b2 w0 vb lb) (hsa : la.length ≤ SZ) (hsb : lb.length ≤ SZ) (hT : Tab w0) :
    Ret Tryz.prog 42 [va, vb] w0 (fun r w1 => Below w0.heap.size w0 w1 ∧ ON w0.heap.size w1 r (dg (Nat.gcd (nv la) (nv lb)))) := by
  have E := Below.refl w0.heap.size w0
  have hfa := ha.fine
  have hfb := hb.fine
  have hf1 := fineL_length la
  have hf2 := fineL_length lb
  refine Ret_of (n := 52) Tryz.func42 rfl rfl (Nat.le_of_ble_eq_true rfl) ?_
  refine W_seq ?_
  refine W_region rfl ?_
  refine S_assign rfl rfl rfl (v := (.slice none 0 0)) (rfl) ?_
  refine OPS.nil ?_
  change WP _ _ _ _ _ _
  refine W_seq ?_
  refine W_region rfl ?_
  refine S_move rfl rfl rfl (v := va) (rfl) ?_
  refine S_call en_nats_fine rfl rfl rfl (vs := [va]) (rfl) (natsFine_c w0 va la ha) ?_
  rintro _ _ ⟨rfl, rfl⟩
  refine S_call en_slices_Clone_api_Nat_uint32 rfl rfl rfl (vs := [(if okL la then va else .slice none 0 0)]) (rfl) (natsClone_c _ _ (fineL la) (hfa.below E) (by omega)) ?_
  rintro vh1 w1 ⟨hB1, h1⟩
  have hz1 := hB1.size
  have E := Below.step E hB1
  have hT := hT.below hB1
  refine S_move rfl rfl rfl (v := vb) (rfl) ?_
  refine S_call en_nats_fine rfl rfl rfl (vs := [vb]) (rfl) (natsFine_c _ vb lb (hb.below E)) ?_
  rintro _ _ ⟨rfl, rfl⟩
  refine S_call en_slices_Clone_api_Nat_uint32 rfl rfl rfl (vs := [(if okL lb then vb else .slice none 0 0)]) (rfl) (natsClone_c _ _ (fineL lb) (hfb.below E) (by omega)) ?_
  rintro vh2 w2 ⟨hB2, h2⟩
  have hz2 := hB2.size
  have E := Below.step E hB2
  have hT := hT.below hB2
  have h1 := h1.below hB2
  have hz9 := E.size
  refine S_assign rfl rfl rfl (v := vh1) (rfl) ?_
  refine S_assign rfl rfl rfl (v := vh2) (rfl) ?_
  refine OPS.nil ?_
  change WP _ _ _ _ _ _
  refine W_seq ?_
  refine W_seq ?_
  refine W_region rfl ?_
  refine S_move rfl rfl rfl (v := vh1) (rfl) ?_
  refine S_len Tryz.underlying23 rfl rfl rfl (rfl) (m := (fineL la).length) (h1.r.len) ?_
  refine S_bin rfl rfl rfl rfl rfl (rfl) (rfl) (v := .bool ((((fineL la).length : Int) == 0))) rfl ?_
  refine OPS.nil ?_
  change WP _ _ _ _ _ _
  refine W_cond rfl (rfl) (fun hq15 => ?_) (fun hq15 => ?_)
  · skip
    have pT := hq15
    replace hq15 := eq_of_beq hq15
    have qT := hq15
    try rw [pT]
    refine W_seq ?_
    refine W_region rfl ?_
    refine S_move rfl rfl rfl (v := vh2) (rfl) ?_
    refine S_assign rfl rfl rfl (v := vh2) (rfl) ?_
    refine OPS.nil ?_
    change WP _ _ _ _ _ _
    refine W_ret ?_
    change Fin' _ _ _ _ _ _
    refine End1 (n := ⟨52, []⟩) (t := 4) rfl (by decide) (v := vh2) (rfl) ?_
    rw [← dg_nv hb.u32] at h2
    rw [fine_len (l := la) (by omega), Nat.gcd_zero_left]
    exact ⟨E, h2.mono (by omega)⟩
  · skip
    have pF := hq15
    replace hq15 := ne_of_beq_false hq15
    have qF := hq15
    try rw [pF]
    refine W_skip ?_
    change WP _ _ _ _ _ _
    refine W_seq ?_
    refine W_seq ?_
    refine W_region rfl ?_
    refine S_move rfl rfl rfl (v := vh2) (rfl) ?_
    refine S_len Tryz.underlying23 rfl rfl rfl (rfl) (m := (fineL lb).length) (h2.r.len) ?_
    refine S_bin rfl rfl rfl rfl rfl (rfl) (rfl) (v := .bool ((((fineL lb).length : Int) == 0))) rfl ?_
    refine OPS.nil ?_
    change WP _ _ _ _ _ _
    refine W_cond rfl (rfl) (fun hq19 => ?_) (fun hq19 => ?_)
    · skip
      have pFT := hq19
      replace hq19 := eq_of_beq hq19
      have qFT := hq19
      try rw [pFT]
      refine W_seq ?_
      refine W_region rfl ?_
      refine S_move rfl rfl rfl (v := vh1) (rfl) ?_
      refine S_assign rfl rfl rfl (v := vh1) (rfl) ?_
      refine OPS.nil ?_
      change WP _ _ _ _ _ _
      refine W_ret ?_
      change Fin' _ _ _ _ _ _
      refine End1 (n := ⟨52, []⟩) (t := 4) rfl (by decide) (v := vh1) (rfl) ?_
      rw [← dg_nv ha.u32] at h1
      rw [fine_len (l := lb) (by omega), Nat.gcd_zero_right]
      exact ⟨E, h1.mono (by omega)⟩
    · skip
      have pFF := hq19
      replace hq19 := ne_of_beq_false hq19
      have qFF := hq19
      try rw [pFF]
      refine W_skip ?_
      change WP _ _ _ _ _ _
      refine W_seq ?_
      refine W_region rfl ?_
      have hpa := fine_pos ha.u32 (by omega)
      have hpb := fine_pos hb.u32 (by omega)
      refine S_move rfl rfl rfl (v := vh1) (rfl) ?_
      refine S_call en_nats_noughts rfl rfl rfl (vs := [vh1]) (rfl) (natsNoughts_c _ _ (fineL la) h1.r (by omega) hT hpa) ?_
      rintro _ _ ⟨⟨qa, rfl, oa, oa_⟩, rfl⟩
      refine S_move rfl rfl rfl (v := vh2) (rfl) ?_
      refine S_call en_nats_noughts rfl rfl rfl (vs := [vh2]) (rfl) (natsNoughts_c _ _ (fineL lb) h2.r (by omega) hT hpb) ?_
      rintro _ _ ⟨⟨qb, rfl, ob, ob_⟩, rfl⟩
      refine S_assign rfl rfl rfl (v := (.int .u64 (qa : Int))) (rfl) ?_
      refine S_assign rfl rfl rfl (v := (.int .u64 (qb : Int))) (rfl) ?_
      refine OPS.nil ?_
      change WP _ _ _ _ _ _
      refine W_seq ?_
      refine W_region rfl ?_
      have hsa_ := hsa
      have hsb_ := hsb
      unfold SZ at hsa_ hsb_
      obtain ⟨ox1, ox2⟩ := oa.div
      obtain ⟨oy1, oy2⟩ := ob.div
      refine S_move rfl rfl rfl (v := vh1) (rfl) ?_
      refine S_move rfl rfl rfl (v := (.int .u64 (qa : Int))) (rfl) ?_
      refine S_call en_nats_back rfl rfl rfl (vs := [vh1, (.int .u64 (qa : Int))]) (rfl) (natsBack_c _ _ (fineL la) qa h1.r (by omega) (by omega)) ?_
      rintro vh5 w3 ⟨hB3, h5⟩
      have hz3 := hB3.size
      have E := Below.step E hB3
      have hT := hT.below hB3
      have h1 := h1.below hB3
      have h2 := h2.below hB3
      refine S_move rfl rfl rfl (v := vh2) (rfl) ?_
      refine S_move rfl rfl rfl (v := (.int .u64 (qb : Int))) (rfl) ?_
      refine S_call en_nats_back rfl rfl rfl (vs := [vh2, (.int .u64 (qb : Int))]) (rfl) (natsBack_c _ _ (fineL lb) qb h2.r (by omega) (by omega)) ?_
      rintro vh6 w4 ⟨hB4, h6⟩
      have hz4 := hB4.size
      have E := Below.step E hB4
      have hT := hT.below hB4
      have h1 := h1.below hB4
      have h2 := h2.below hB4
      have h5 := h5.below hB4
      refine S_assign rfl rfl rfl (v := vh5) (rfl) ?_
      refine S_assign rfl rfl rfl (v := vh6) (rfl) ?_
      refine OPS.nil ?_
      change WP _ _ _ _ _ _
      refine W_block ?_
      refine W_loop (fun k σ w => ∃ (vx vy : Value) (X Y : Nat), σ 0 = vx ∧ σ 1 = vy ∧ σ 5 = .int .u64 (qa : Int) ∧ σ 6 = .int .u64 (qb : Int) ∧ k = X + Y ∧ ON w0.heap.size w vx (dg X) ∧ ON w0.heap.size w vy (dg Y) ∧ X % 2 = 1 ∧ Y % 2 = 1 ∧ Nat.gcd X Y = Nat.gcd (val (fineL la) / 2 ^ qa) (val (fineL lb) / 2 ^ qb) ∧ (dg X).length ≤ SZ ∧ (dg Y).length ≤ SZ ∧ Tab w ∧ Below w0.heap.size w0 w) ((val (fineL la) / 2 ^ qa) + (val (fineL lb) / 2 ^ qb)) ⟨_, _, (val (fineL la) / 2 ^ qa), (val (fineL lb) / 2 ^ qb), rfl, rfl, rfl, rfl, rfl, h5.mono (by omega), h6.mono (by omega), ox1, oy1, rfl, Nat.le_trans (dg_length_mono (Nat.div_le_self _ _)) (by rw [dg_val hfa.u32 (okL_fine la)]; omega), Nat.le_trans (dg_length_mono (Nat.div_le_self _ _)) (by rw [dg_val hfb.u32 (okL_fine lb)]; omega), hT, E⟩ ?_
      rintro k σ w ⟨vx, vy, X, Y, s0, s1, s5, s6, hk, h1, h2, hX, hY, hg, hlx, hly, hT, E⟩
      have hz0 := E.size
      refine W_block ?_
      refine W_seq ?_
      refine W_seq ?_
      refine W_region rfl ?_
      refine S_move rfl rfl rfl (v := vx) (s0) ?_
      refine S_move rfl rfl rfl (v := vy) (s1) ?_
      refine S_call en_nats_Cmp rfl rfl rfl (vs := [vx, vy]) (rfl) (natsCmp_c _ _ _ (dg X) (dg Y) h1.r h2.r) ?_
      rintro _ w5 ⟨hB5, rfl⟩
      have hz5 := hB5.size
      have E := Below.step E hB5
      have h1 := h1.below hB5
      have h2 := h2.below hB5
      have hT := hT.below hB5
      refine OPS.nil ?_
      change WP _ _ _ _ _ _
      refine W_block ?_
      refine W_seq ?_
      refine W_region rfl ?_
      refine S_bin rfl rfl rfl rfl rfl (rfl) (rfl) (v := .bool (((cmpN (nv (dg X)) (nv (dg Y))) == 0))) rfl ?_
      refine S_assign rfl rfl rfl (v := (.bool (((cmpN (nv (dg X)) (nv (dg Y))) == 0)))) (rfl) ?_
      refine OPS.nil ?_
      change WP _ _ _ _ _ _
      refine W_cond rfl (rfl) (fun hq34 => ?_) (fun hq34 => ?_)
      · skip
        have pT := hq34
        replace hq34 := eq_of_beq hq34
        have qT := hq34
        try rw [pT]
        refine W_seq ?_
        refine W_region rfl ?_
        refine S_move rfl rfl rfl (v := vx) (s0) ?_
        refine S_move rfl rfl rfl (v := (.int .u64 (qa : Int))) (s5) ?_
        refine S_move rfl rfl rfl (v := (.int .u64 (qb : Int))) (s6) ?_
        refine S_min rfl rfl rfl rfl (rfl) (rfl) (v := ((min qa qb : Nat) : Int)) (by omega) ?_
        refine S_call en_nats_shift rfl rfl rfl (vs := [vx, (.int .u64 ((min qa qb : Nat) : Int))]) (rfl) (natsShift_c _ _ (dg X) (min qa qb) h1.r hlx (by omega)) ?_
        rintro vh3 w6 ⟨hB6, h3⟩
        have hz6 := hB6.size
        have E := Below.step E hB6
        have h1 := h1.below hB6
        have h2 := h2.below hB6
        have hT := hT.below hB6
        refine S_assign rfl rfl rfl (v := vh3) (rfl) ?_
        refine OPS.nil ?_
        change WP _ _ _ _ _ _
        refine W_ret ?_
        change Fin' _ _ _ _ _ _
        refine End1 (n := ⟨52, []⟩) (t := 4) rfl (by decide) (v := vh3) (rfl) ?_
        have hXY := cmpN_eq0.1 qT
        rw [nv_dg, nv_dg] at hXY
        subst hXY
        rw [Nat.gcd_self] at hg
        rw [val_dg, hg, ← gcd_pows ox1 oy1, ← ox2, ← oy2] at h3
        exact ⟨E, h3.mono (by omega)⟩
      · skip
        have pF := hq34
        replace hq34 := ne_of_beq_false hq34
        have qF := hq34
        try rw [pF]
        refine W_seq ?_
        refine W_region rfl ?_
        refine S_bin rfl rfl rfl rfl rfl (rfl) (rfl) (v := .bool (((cmpN (nv (dg X)) (nv (dg Y))) == 1))) rfl ?_
        refine S_assign rfl rfl rfl (v := (.bool (((cmpN (nv (dg X)) (nv (dg Y))) == 1)))) (rfl) ?_
        refine OPS.nil ?_
        change WP _ _ _ _ _ _
        refine W_cond rfl (rfl) (fun hq41 => ?_) (fun hq41 => ?_)
        · skip
          have pFT := hq41
          replace hq41 := eq_of_beq hq41
          have qFT := hq41
          try rw [pFT]
          refine W_region rfl ?_
          refine S_move rfl rfl rfl (v := vy) (s1) ?_
          refine S_move rfl rfl rfl (v := vx) (s0) ?_
          refine S_assign rfl rfl rfl (v := vy) (rfl) ?_
          refine S_assign rfl rfl rfl (v := vx) (rfl) ?_
          refine OPS.nil ?_
          change WP _ _ _ _ _ _
          refine W_seq ?_
          refine W_region rfl ?_
          have hlt : Y < X := by
            have h9 := cmpN_eq1.1 qFT
            rwa [nv_dg, nv_dg] at h9
          refine S_move rfl rfl rfl (v := vx) (rfl) ?_
          refine S_move rfl rfl rfl (v := vy) (rfl) ?_
          refine S_call en_nats_minus rfl rfl rfl (vs := [vx, vy]) (rfl) (natsMinus_c _ _ _ (dg X) (dg Y) h1.r h2.r hlx (dg_length_mono (Nat.le_of_lt hlt)) (by rw [val_dg, val_dg]; exact Nat.le_of_lt hlt)) ?_
          rintro vh4 w7 ⟨hB7, h4⟩
          have hz7 := hB7.size
          have E := Below.step E hB7
          have h1 := h1.below hB7
          have h2 := h2.below hB7
          have hT := hT.below hB7
          have hl4 : (dg (val (dg X) - val (dg Y))).length ≤ SZ := Nat.le_trans (dg_length_mono (by rw [val_dg, val_dg]; exact Nat.sub_le _ _)) hlx
          have hp4 : 0 < val (dg (val (dg X) - val (dg Y))) := by rw [val_dg, val_dg, val_dg]; omega
          skip
          refine S_assign rfl rfl rfl (v := vh4) (rfl) ?_
          refine OPS.nil ?_
          change WP _ _ _ _ _ _
          refine W_region rfl ?_
          refine S_move rfl rfl rfl (v := vh4) (rfl) ?_
          refine S_move rfl rfl rfl (v := vh4) (rfl) ?_
          refine S_call en_nats_noughts rfl rfl rfl (vs := [vh4]) (rfl) (natsNoughts_c _ _ (dg (val (dg X) - val (dg Y))) h4.r hl4 hT hp4) ?_
          rintro _ _ ⟨⟨q2, rfl, od, od_⟩, rfl⟩
          have hl5 := hl4
          unfold SZ at hl5
          refine S_call en_nats_back rfl rfl rfl (vs := [vh4, (.int .u64 (q2 : Int))]) (rfl) (natsBack_c _ _ (dg (val (dg X) - val (dg Y))) q2 h4.r hl4 (by omega)) ?_
          rintro vh7 w8 ⟨hB8, h7⟩
          have hz8 := hB8.size
          have E := Below.step E hB8
          have h1 := h1.below hB8
          have h2 := h2.below hB8
          have hT := hT.below hB8
          have h4 := h4.below hB8
          refine S_assign rfl rfl rfl (v := vh7) (rfl) ?_
          refine OPS.nil ?_
          rw [val_dg, val_dg, val_dg] at od
          obtain ⟨g1, g2, g3, g4⟩ := gcd_round hY hlt od rfl
          rw [val_dg, val_dg, val_dg] at h7
          exact ⟨Y + (X - Y) / 2 ^ q2, by omega, _, _, Y, (X - Y) / 2 ^ q2, rfl, rfl, s5, s6, rfl, h2, h7.mono (by omega), hY, g2, g1.trans ((Nat.gcd_comm Y X).trans hg), hly, Nat.le_trans (dg_length_mono (Nat.le_of_lt g4)) hlx, hT, E⟩
        · skip
          have pFF := hq41
          replace hq41 := ne_of_beq_false hq41
          have qFF := hq41
          try rw [pFF]
          refine W_skip ?_
          change WP _ _ _ _ _ _
          refine W_seq ?_
          refine W_region rfl ?_
          have hne : X ≠ Y := fun h => by rw [h] at qF; exact qF (cmpN_eq0.2 rfl)
          have hng : ¬ Y < X := fun h => qFF (by rw [nv_dg, nv_dg]; exact cmpN_eq1.2 h)
          have hlt : X < Y := by omega
          refine S_move rfl rfl rfl (v := vy) (s1) ?_
          refine S_move rfl rfl rfl (v := vx) (s0) ?_
          refine S_call en_nats_minus rfl rfl rfl (vs := [vy, vx]) (rfl) (natsMinus_c _ _ _ (dg Y) (dg X) h2.r h1.r hly (dg_length_mono (Nat.le_of_lt hlt)) (by rw [val_dg, val_dg]; exact Nat.le_of_lt hlt)) ?_
          rintro vh4 w9 ⟨hB9, h4⟩
          have hz9 := hB9.size
          have E := Below.step E hB9
          have h1 := h1.below hB9
          have h2 := h2.below hB9
          have hT := hT.below hB9
          have hl4 : (dg (val (dg Y) - val (dg X))).length ≤ SZ := Nat.le_trans (dg_length_mono (by rw [val_dg, val_dg]; exact Nat.sub_le _ _)) hly
          have hp4 : 0 < val (dg (val (dg Y) - val (dg X))) := by rw [val_dg, val_dg, val_dg]; omega
          skip
          refine S_assign rfl rfl rfl (v := vh4) (rfl) ?_
          refine OPS.nil ?_
          change WP _ _ _ _ _ _
          refine W_region rfl ?_
          refine S_move rfl rfl rfl (v := vh4) (rfl) ?_
          refine S_move rfl rfl rfl (v := vh4) (rfl) ?_
          refine S_call en_nats_noughts rfl rfl rfl (vs := [vh4]) (rfl) (natsNoughts_c _ _ (dg (val (dg Y) - val (dg X))) h4.r hl4 hT hp4) ?_
          rintro _ _ ⟨⟨q2, rfl, od, od_⟩, rfl⟩
          have hl5 := hl4
          unfold SZ at hl5
          refine S_call en_nats_back rfl rfl rfl (vs := [vh4, (.int .u64 (q2 : Int))]) (rfl) (natsBack_c _ _ (dg (val (dg Y) - val (dg X))) q2 h4.r hl4 (by omega)) ?_
          rintro vh7 w10 ⟨hB10, h7⟩
          have hz10 := hB10.size
          have E := Below.step E hB10
          have h1 := h1.below hB10
          have h2 := h2.below hB10
          have hT := hT.below hB10
          have h4 := h4.below hB10
          refine S_assign rfl rfl rfl (v := vh7) (rfl) ?_
          refine OPS.nil ?_
          rw [val_dg, val_dg, val_dg] at od
          obtain ⟨g1, g2, g3, g4⟩ := gcd_round hX hlt od rfl
          rw [val_dg, val_dg, val_dg] at h7
          exact ⟨X + (Y - X) / 2 ^ q2, by omega, _, _, X, (Y - X) / 2 ^ q2, s0, rfl, s5, s6, rfl, h1, h7.mono (by omega), hX, g2, g1.trans hg, hlx, Nat.le_trans (dg_length_mono (Nat.le_of_lt g4)) hly, hT, E⟩

end Go.Proofs.YtccmicegihlfbaaGreatDoor
