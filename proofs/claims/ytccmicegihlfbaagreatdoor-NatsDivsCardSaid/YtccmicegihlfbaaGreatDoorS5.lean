/- The document's quotients. -/
import Derived.Test.YtccmicegihlfbaaGreatDoorS4
import Derived.Test.YtccmicegihlfbaaGreatDoorTy
import Derived.Test.YtccmicegihlfbaaGreatDoorOwn
set_option linter.unusedVariables false
set_option linter.unusedSimpArgs false
namespace Go.Proofs.YtccmicegihlfbaaGreatDoor
open Go.RowKit


/-- What a division says. -/
def divE (la lb : List Int) : Int := if okL la && okL lb then (if lb.length = 0 then 10 else 0) else 1
theorem ref01TrimN_c (w0 : World) (v : Value) (xs : List Int) {B : Nat} (h : ON B w0 v xs) : Ret Tryz.prog 166 [v] w0 (fun r w1 => ON B w0 r (dg (val xs)) ∧ w0 = w1) := by
  refine (ref01Trim_c w0 v xs h.r).mono ?_
  rintro r w1 ⟨⟨A, c, k, hv, hr, hk, ht⟩, hw⟩
  refine ⟨?_, hw⟩
  subst hv hr
  rw [← ht]
  exact h.prefix_ hk
theorem ref01TrimR_c (w0 : World) (v : Value) (xs : List Int) {a b : Nat} (h : RN a b w0 v xs) : Ret Tryz.prog 166 [v] w0 (fun r w1 => RN a b w0 r (dg (val xs)) ∧ w0 = w1) := by
  refine (ref01Trim_c w0 v xs h).mono ?_
  rintro r w1 ⟨⟨A, c, k, hv, hr, hk, ht⟩, hw⟩
  refine ⟨?_, hw⟩
  subst hv hr
  rw [← ht]
  exact h.prefix_ hk
theorem ON.ofNums {B g m : Nat} {w : World} {xs : List Int} (hb : Blk w g (nums .u32 xs) 106) (hu : U32 xs) (hB : B ≤ g) (hm : xs.length = m) (hmx : m ≤ 9223372036854775807) : ON B w (.slice (some ⟨g, 0, none⟩) m m) xs := by
  subst hm
  have := ON.mkNums hb hu hB (Nat.le_refl _) hmx
  rwa [List.take_length] at this
theorem ref01Up_d (w0 : World) (va : Value) (la : List Int) (q : Nat) {a b : Nat} (ha : RN a b w0 va la) (hsa : la.length ≤ SZ) (hq : q < 32) : Ret Tryz.prog 165 [va, .int .u64 (q : Int)] w0
    (fun r w1 => Below w0.heap.size w0 w1 ∧ ∃ (g : Nat) (xs : List Int), r = .slice (some ⟨g, 0, none⟩) (la.length + 1) (la.length + 1) ∧ w0.heap.size ≤ g ∧ xs.length = la.length + 1 ∧ U32 xs ∧ val xs = val la * 2 ^ q ∧ Blk w1 g (nums .u32 xs) 106) := by
  have := ref01Up_c w0 va la q ha hsa
  rwa [Nat.mod_eq_of_lt hq] at this
theorem ref01Down_d (w0 : World) (va : Value) (la : List Int) (q : Nat) {a b : Nat} (ha : RN a b w0 va la) (hsa : la.length ≤ SZ) (hq : q < 32) : Ret Tryz.prog 170 [va, .int .u64 (q : Int)] w0 (fun r w1 => Below w0.heap.size w0 w1 ∧ ON w0.heap.size w1 r (dg (val la / 2 ^ q))) := by
  have := ref01Down_c w0 va la q ha hsa
  rwa [Nat.mod_eq_of_lt hq] at this
theorem shlN32 {t s : Nat} (h : t * 2 ^ s < 4294967296) (hs : s ≤ 32) : IntKind.u32.wrap ((t : Int) * 2 ^ (min ((s : Int)).toNat IntKind.u32.bits)) = ((t * 2 ^ s : Nat) : Int) := by
  rw [show min ((s : Int)).toNat IntKind.u32.bits = s by show min _ 32 = _; omega]
  have e : ((2 ^ s : Nat) : Int) = (2 : Int) ^ s := by simp
  rw [← e, ← Int.natCast_mul]
  generalize t * 2 ^ s = z at *
  exact wrap_u32 (by omega) (by omega)
theorem shr31 (x : Int) : x.fdiv (2 ^ (min (31 : Int).toNat IntKind.u32.bits)) = x / 2147483648 := by
  rw [Int.fdiv_eq_ediv_of_nonneg _ (by decide)]
  rfl
theorem drop_eqD {l m : List Int} {k : Nat} (hl : l.length = m.length) (h : ∀ j, k ≤ j → l.getD j 0 = m.getD j 0) : l.drop k = m.drop k := by
  apply List.ext_getElem?
  intro j
  rw [List.getElem?_drop, List.getElem?_drop]
  have h2 := h (k + j) (by omega)
  by_cases hj : k + j < l.length
  · rw [List.getD_eq_getElem?_getD, List.getD_eq_getElem?_getD, List.getElem?_eq_getElem hj, List.getElem?_eq_getElem (by omega)] at h2
    rw [List.getElem?_eq_getElem hj, List.getElem?_eq_getElem (by omega)]
    simpa using h2
  · rw [List.getElem?_eq_none (by omega), List.getElem?_eq_none (by omega)]
theorem div_round {ru r0 x1 qs : List Int} {i n b d : Nat} (hI : val ru = val (qs.drop (i + 1)) * 4294967296 ^ (i + 1) * b + val r0) (hu : U32 r0) (h2 : val (r0.drop (i + 1)) < b) (hbn : b < 4294967296 ^ n) (htk : x1.take i = r0.take i)
    (hold : ∀ j, i + (n + 1) ≤ j → x1.getD j 0 = r0.getD j 0) (hl : x1.length = r0.length) (hi : i < qs.length) (hd : d = val ((r0.drop i).take (n + 1)) / b) (hr : val ((x1.drop i).take (n + 1)) = val ((r0.drop i).take (n + 1)) % b) :
    val ru = val ((qs.set i (d : Int)).drop i) * 4294967296 ^ i * b + val x1 ∧ val (x1.drop i) < b := by
  obtain ⟨e1, e2⟩ := step_u hu h2 hbn
  have hb : 0 < b := by omega
  have e3 := val_cut (r0.drop i) (n + 1)
  have e4 := val_cut (x1.drop i) (n + 1)
  rw [List.drop_drop] at e3 e4
  rw [drop_eqD hl hold] at e4
  have e5 : 4294967296 ^ (n + 1) * val (r0.drop (i + (n + 1))) = 0 := by omega
  rw [e5, Nat.add_zero, hr, ← e1] at e4
  rw [← e1] at hd
  refine ⟨outer_step hI htk e4 (by rw [Int.toNat_natCast]; exact hd) hi, ?_⟩
  rw [e4]
  exact Nat.mod_lt _ hb
theorem norm_len {lb : List Int} {n s t : Nat} (hu : U32 lb) (hn : lb.length = n + 1) (ht : lb.getD n 0 = (t : Int)) (h1 : t * 2 ^ s < 4294967296) (h2 : 2147483648 ≤ t * 2 ^ s) (hs : s < 32) :
    (dg (val lb * 2 ^ s)).length = n + 1 ∧ 4294967296 ^ n * 2147483648 ≤ val lb * 2 ^ s := by
  have hp : 0 < 2 ^ s := Nat.pow_pos (by decide)
  have e : (4294967296 : Nat) = 2 ^ (32 - s) * 2 ^ s := by rw [← Nat.pow_add, show 32 - s + s = 32 by omega]
  have ht2 : t + 1 ≤ 2 ^ (32 - s) := by
    rw [e] at h1
    exact Nat.lt_of_mul_lt_mul_right h1
  have hv : val lb = val (lb.take n) + 4294967296 ^ n * t := by
    have h := val_step lb n
    rw [List.take_of_length_le (by omega), ht, Int.toNat_natCast] at h
    exact h
  have hl := val_take_lt hu n
  have k1 : val lb < 4294967296 ^ n * (t + 1) := by rw [Nat.mul_add]; omega
  have k2 : val lb * 2 ^ s < 4294967296 ^ (n + 1) := by
    have a1 : val lb * 2 ^ s < 4294967296 ^ n * (t + 1) * 2 ^ s := Nat.mul_lt_mul_of_pos_right k1 hp
    have a2 : 4294967296 ^ n * (t + 1) * 2 ^ s ≤ 4294967296 ^ n * (2 ^ (32 - s)) * 2 ^ s := Nat.mul_le_mul_right _ (Nat.mul_le_mul_left _ ht2)
    rw [Nat.mul_assoc _ (2 ^ (32 - s)), ← e] at a2
    rw [Nat.pow_succ]
    omega
  have k3 : 4294967296 ^ n * 2147483648 ≤ val lb * 2 ^ s := by
    have a1 : 4294967296 ^ n * t * 2 ^ s ≤ val lb * 2 ^ s := Nat.mul_le_mul_right _ (by omega)
    have a2 : 4294967296 ^ n * 2147483648 ≤ 4294967296 ^ n * (t * 2 ^ s) := Nat.mul_le_mul_left _ h2
    rw [← Nat.mul_assoc] at a2
    omega
  refine ⟨Nat.le_antisymm (dg_length_le k2) ?_, k3⟩
  refine Nat.not_lt.1 fun hc => ?_
  have a1 := lt_dg_length (val lb * 2 ^ s)
  have a2 : 4294967296 ^ (dg (val lb * 2 ^ s)).length ≤ 4294967296 ^ n := Nat.pow_le_pow_right (by decide) (by omega)
  have a3 : 4294967296 ^ n * 1 ≤ 4294967296 ^ n * 2147483648 := Nat.mul_le_mul_left _ (by decide)
  omega
theorem norm_top {ru : List Int} {v s N n i : Nat} (hu : U32 ru) (hr : val ru = v * 2 ^ s) (hv : v < 4294967296 ^ N) (hs : s < 32) (hi : i + n = N) {b : Nat} (hb : 4294967296 ^ n * 2147483648 ≤ b) : val (ru.drop i) < b := by
  rw [← val_split ru i hu, hr]
  refine (Nat.div_lt_iff_lt_mul (Nat.pow_pos (by decide))).2 ?_
  have h1 : v * 2 ^ s < 4294967296 ^ N * 2 ^ s := Nat.mul_lt_mul_of_pos_right hv (Nat.pow_pos (by decide))
  have h2 : 4294967296 ^ N * 2 ^ s ≤ 4294967296 ^ N * 2 ^ 31 := Nat.mul_le_mul_left _ (Nat.pow_le_pow_right (by decide) (by omega))
  have h3 : 4294967296 ^ N * 2147483648 = 4294967296 ^ n * 2147483648 * 4294967296 ^ i := by
    rw [← hi, Nat.pow_add]; ac_rfl
  have h4 := Nat.mul_le_mul_right (4294967296 ^ i) hb
  rw [← h3] at h4
  exact Nat.lt_of_lt_of_le (Nat.lt_of_lt_of_le h1 h2) h4
theorem div_end {ru r0 qs : List Int} {b : Nat} (hI : val ru = val (qs.drop 0) * 4294967296 ^ 0 * b + val r0) (h2 : val (r0.drop 0) < b) : val qs = val ru / b ∧ val r0 = val ru % b := by
  rw [List.drop_zero] at hI h2
  rw [Nat.pow_zero, Nat.mul_one, Nat.mul_comm] at hI
  rw [hI, Nat.mul_add_div (by omega), Nat.div_eq_of_lt h2, Nat.mul_add_mod, Nat.mod_eq_of_lt h2]
  exact ⟨by omega, rfl⟩
theorem shl_div (a b s : Nat) : a * 2 ^ s / (b * 2 ^ s) = a / b := Nat.mul_div_mul_right _ _ (Nat.pow_pos (by decide))
theorem shl_mod (a b s : Nat) : a * 2 ^ s % (b * 2 ^ s) / 2 ^ s = a % b := by
  rw [Nat.mul_mod_mul_right, Nat.mul_div_cancel _ (Nat.pow_pos (by decide))]
theorem ok_last {l : List Int} (hu : U32 l) (hk : okL l = true) {m : Nat} (hm : l.length = m + 1) : 1 ≤ l.getD m 0 := by
  rw [okL_getD (by omega), show l.length - 1 = m by omega] at hk
  have := hu.getD m
  have h0 : l.getD m 0 ≠ 0 := by simpa using hk
  omega


theorem val_one {l : List Int} (h : l.length = 1) : val l = (l.getD 0 0).toNat := by
  obtain ⟨x, rfl⟩ := List.length_eq_one_iff.1 h
  simp [val]


theorem val_len_le {la lb : List Int} (ha : U32 la) (hb : U32 lb) (hk : okL lb = true) (h : val lb ≤ val la) : lb.length ≤ la.length := by
  rcases Nat.lt_or_ge la.length lb.length with h1 | h1
  · exact absurd (val_lt_len ha hb hk h1) (by omega)
  · exact h1

set_option maxHeartbeats 1000000 in
theorem ref01Div_c (w0 : World) (va vb : Value) (la lb : List Int) {a b a2 b2 : Nat} (ha : RN a b w0 va la) (hb : RN a2 b2 w0 vb lb) (hsa : la.length ≤ SZ) (hsb : lb.length ≤ SZ) :
    Ret Tryz.prog 43 [va, vb] w0 (fun r w1 => Below w0.heap.size w0 w1 ∧ ∃ v1 v2, r = .tuple #[v1, v2, .int .i64 (divE la lb)] ∧ ON w0.heap.size w1 v1 (if divE la lb = 0 then dg (val la / val lb) else []) ∧ ON w0.heap.size w1 v2 (if divE la lb = 0 then dg (val la % val lb) else [])) := by
  have E := Below.refl w0.heap.size w0
  have hmb := hb.maxl
  refine Ret_of (n := 105) Tryz.func43 rfl rfl (Nat.le_of_ble_eq_true rfl) ?_
  refine W_seq ?_
  refine W_region rfl ?_
  refine S_assign rfl rfl rfl (v := (.slice none 0 0)) (rfl) ?_
  refine S_assign rfl rfl rfl (v := (.slice none 0 0)) (rfl) ?_
  refine S_assign rfl rfl rfl (v := (.int .i64 0)) (rfl) ?_
  refine OPS.nil ?_
  change WP _ _ _ _ _ _
  refine W_seq ?_
  refine W_seq ?_
  refine W_region rfl ?_
  refine S_move rfl rfl rfl (v := va) (rfl) ?_
  refine S_call en_assayerref01_Check rfl rfl rfl (vs := [va]) (rfl) (ref01Check_c _ _ la ha) ?_
  rintro _ _ ⟨rfl, rfl⟩
  refine S_not rfl rfl rfl (rfl) ?_
  refine S_move rfl rfl rfl (v := (.bool (!(okL la)))) (rfl) ?_
  rcases Bool.eq_false_or_eq_true (!(okL la)) with pT | pF
  · skip
    rw [pT]
    refine S_skip (d := 19) (op := .move _) (gd := some (3, false)) rfl (wg_off rfl (rfl) rfl) ?_
    refine S_skip (d := 20) (op := .call _) (gd := some (3, false)) rfl (wg_off rfl (rfl) rfl) ?_
    refine S_skip (d := 21) (op := .unOp _ _ _) (gd := some (3, false)) rfl (wg_off rfl (rfl) rfl) ?_
    refine S_pick rfl rfl rfl rfl rfl (b := true) (rfl) (v := (.bool true)) (rfl) ?_
    refine OPS.nil ?_
    change WP _ _ _ _ _ _
    refine W_cond rfl (b := true) (rfl) (fun _ => ?_) (fun h => (by cases h))
    refine W_seq ?_
    refine W_region rfl ?_
    refine S_assign rfl rfl rfl (v := (.slice none 0 0)) (rfl) ?_
    refine S_assign rfl rfl rfl (v := (.slice none 0 0)) (rfl) ?_
    refine S_assign rfl rfl rfl (v := (.int .i64 1)) (rfl) ?_
    refine OPS.nil ?_
    change WP _ _ _ _ _ _
    refine W_ret ?_
    change Fin' _ _ _ _ _ _
    refine End3 (n := ⟨105, []⟩) (t := 4) (u := 5) (s := 6) rfl (by decide) (by decide) (by decide) (rfl) (rfl) (rfl) ?_
    have hs : divE la lb = 1 := by simp_all [divE]
    exact ⟨E, _, _, congrArg (fun z => Value.tuple #[_, _, .int .i64 z]) hs.symm, by rw [hs]; exact ON.nil _ _, by rw [hs]; exact ON.nil _ _⟩
  · skip
    rw [pF]
    refine S_move rfl rfl rfl (v := vb) (rfl) ?_
    refine S_call en_assayerref01_Check rfl rfl rfl (vs := [vb]) (rfl) (ref01Check_c _ _ lb hb) ?_
    rintro _ _ ⟨rfl, rfl⟩
    refine S_not rfl rfl rfl (rfl) ?_
    refine S_pick rfl rfl rfl rfl rfl (b := false) (rfl) (v := (.bool (!(okL lb)))) (rfl) ?_
    refine OPS.nil ?_
    change WP _ _ _ _ _ _
    refine W_cond rfl (rfl) (fun hq22 => ?_) (fun hq22 => ?_)
    · skip
      have pFT := hq22
      skip
      try rw [pFT]
      refine W_seq ?_
      refine W_region rfl ?_
      refine S_assign rfl rfl rfl (v := (.slice none 0 0)) (rfl) ?_
      refine S_assign rfl rfl rfl (v := (.slice none 0 0)) (rfl) ?_
      refine S_assign rfl rfl rfl (v := (.int .i64 1)) (rfl) ?_
      refine OPS.nil ?_
      change WP _ _ _ _ _ _
      refine W_ret ?_
      change Fin' _ _ _ _ _ _
      refine End3 (n := ⟨105, []⟩) (t := 4) (u := 5) (s := 6) rfl (by decide) (by decide) (by decide) (rfl) (rfl) (rfl) ?_
      have hs : divE la lb = 1 := by simp_all [divE]
      exact ⟨E, _, _, congrArg (fun z => Value.tuple #[_, _, .int .i64 z]) hs.symm, by rw [hs]; exact ON.nil _ _, by rw [hs]; exact ON.nil _ _⟩
    · skip
      have pFF := hq22
      skip
      have hka : okL la = true := by simpa using pF
      have hkb : okL lb = true := by simpa using pFF
      try rw [pFF]
      refine W_skip ?_
      change WP _ _ _ _ _ _
      refine W_seq ?_
      refine W_seq ?_
      refine W_region rfl ?_
      refine S_move rfl rfl rfl (v := vb) (rfl) ?_
      refine S_len Tryz.underlying23 rfl rfl rfl (rfl) (m := lb.length) (hb.len) ?_
      refine S_bin rfl rfl rfl rfl rfl (rfl) (rfl) (v := .bool (((lb.length : Int) == 0))) rfl ?_
      refine OPS.nil ?_
      change WP _ _ _ _ _ _
      refine W_cond rfl (rfl) (fun hq25 => ?_) (fun hq25 => ?_)
      · skip
        have pFFT := hq25
        replace hq25 := eq_of_beq hq25
        have qFFT := hq25
        try rw [pFFT]
        refine W_seq ?_
        refine W_region rfl ?_
        refine S_assign rfl rfl rfl (v := (.slice none 0 0)) (rfl) ?_
        refine S_assign rfl rfl rfl (v := (.slice none 0 0)) (rfl) ?_
        refine S_assign rfl rfl rfl (v := (.int .i64 10)) (rfl) ?_
        refine OPS.nil ?_
        change WP _ _ _ _ _ _
        refine W_ret ?_
        change Fin' _ _ _ _ _ _
        refine End3 (n := ⟨105, []⟩) (t := 4) (u := 5) (s := 6) rfl (by decide) (by decide) (by decide) (rfl) (rfl) (rfl) ?_
        have hs : divE la lb = 10 := by unfold divE; rw [hka, hkb]; exact (if_pos rfl).trans (if_pos (by omega))
        exact ⟨E, _, _, congrArg (fun z => Value.tuple #[_, _, .int .i64 z]) hs.symm, by rw [hs]; exact ON.nil _ _, by rw [hs]; exact ON.nil _ _⟩
      · skip
        have pFFF := hq25
        replace hq25 := ne_of_beq_false hq25
        have qFFF := hq25
        try rw [pFFF]
        refine W_skip ?_
        change WP _ _ _ _ _ _
        refine W_seq ?_
        refine W_seq ?_
        refine W_region rfl ?_
        refine S_move rfl rfl rfl (v := va) (rfl) ?_
        refine S_move rfl rfl rfl (v := vb) (rfl) ?_
        refine S_call en_assayerref01_Cmp rfl rfl rfl (vs := [va, vb]) (rfl) (ref01Cmp_c _ _ _ la lb (ha.below E) (hb.below E)) ?_
        rintro _ w1 ⟨hB1, rfl⟩
        have hz1 := hB1.size
        have E := Below.step E hB1
        refine S_bin rfl rfl rfl rfl rfl (rfl) (rfl) (v := .bool (decide ((cmpN (nv la) (nv lb)) < 0))) rfl ?_
        refine OPS.nil ?_
        change WP _ _ _ _ _ _
        refine W_cond rfl (rfl) (fun hq29 => ?_) (fun hq29 => ?_)
        · skip
          have pFFFT := hq29
          replace hq29 := of_decide_eq_true hq29
          have qFFFT := hq29
          try rw [pFFFT]
          refine W_seq ?_
          refine W_region rfl ?_
          refine S_move rfl rfl rfl (v := va) (rfl) ?_
          refine S_call en_assayerref01_Twin rfl rfl rfl (vs := [va]) (rfl) (ref01Twin_c _ _ la (ha.below E) hsa) ?_
          rintro vh1 w2 ⟨hB2, h1⟩
          have hz2 := hB2.size
          have E := Below.step E hB2
          refine S_assign rfl rfl rfl (v := (.slice none 0 0)) (rfl) ?_
          refine S_assign rfl rfl rfl (v := vh1) (rfl) ?_
          refine S_assign rfl rfl rfl (v := (.int .i64 0)) (rfl) ?_
          refine OPS.nil ?_
          change WP _ _ _ _ _ _
          refine W_ret ?_
          change Fin' _ _ _ _ _ _
          refine End3 (n := ⟨105, []⟩) (t := 4) (u := 5) (s := 6) rfl (by decide) (by decide) (by decide) (rfl) (rfl) (rfl) ?_
          have hs : divE la lb = 0 := by unfold divE; rw [hka, hkb]; exact (if_pos rfl).trans (if_neg (by omega))
          have hlt := cmpN_lt0.1 qFFFT
          rw [nv_ok hka, nv_ok hkb] at hlt
          refine ⟨E, _, _, congrArg (fun z => Value.tuple #[_, _, .int .i64 z]) hs.symm, ?_, ?_⟩
          · rw [hs, Nat.div_eq_of_lt hlt, dg_zero]; exact ON.nil _ _
          · rw [hs, Nat.mod_eq_of_lt hlt, dg_val ha.u32 hka]; exact h1.mono (by omega)
        · skip
          have pFFFF := hq29
          replace hq29 := of_decide_eq_false hq29
          have qFFFF := hq29
          have hle : val lb ≤ val la := by
            have := mt cmpN_lt0.2 qFFFF
            rw [nv_ok hka, nv_ok hkb] at this
            omega
          have hlbp : 0 < lb.length := by have := qFFF; omega
          have hbp := val_pos_of_ok hb.u32 hkb (by intro h; subst h; simp at hlbp)
          have hlap : 0 < la.length := by
            refine Nat.pos_of_ne_zero fun h => ?_
            rw [List.eq_nil_of_length_eq_zero h, val_nil] at hle
            omega
          try rw [pFFFF]
          refine W_skip ?_
          change WP _ _ _ _ _ _
          refine W_seq ?_
          refine W_seq ?_
          refine W_region rfl ?_
          refine S_move rfl rfl rfl (v := vb) (rfl) ?_
          refine S_len Tryz.underlying23 rfl rfl rfl (rfl) (m := lb.length) (hb.len) ?_
          refine S_bin rfl rfl rfl rfl rfl (rfl) (rfl) (v := .bool (((lb.length : Int) == 1))) rfl ?_
          refine OPS.nil ?_
          change WP _ _ _ _ _ _
          refine W_cond rfl (rfl) (fun hq34 => ?_) (fun hq34 => ?_)
          · skip
            have pFFFFT := hq34
            replace hq34 := eq_of_beq hq34
            have qFFFFT := hq34
            have hl1 : lb.length = 1 := by have := qFFFFT; omega
            have hyp := ok_last hb.u32 hkb (m := 0) hl1
            have hyl := hb.u32.getD 0
            try rw [pFFFFT]
            refine W_seq ?_
            refine W_region rfl ?_
            refine S_move rfl rfl rfl (v := va) (rfl) ?_
            refine S_move rfl rfl rfl (v := vb) (rfl) ?_
            obtain ⟨ad1, hp3, hc2⟩ := (hb.below E).at 0 (by omega)
            refine S_idx Tryz.underlying23 ti_uint32 rfl rfl rfl rfl (rfl) (rfl) hp3 (by omega) ?_
            refine S_load rfl rfl rfl (rfl) (LD.one ti_uint32 hc2) ?_
            refine S_call en_assayerref01_small rfl rfl rfl (vs := [va, (.int .u32 (lb.getD 0 0))]) (rfl) (ref01Small_c _ _ la (lb.getD 0 0) (ha.below E) hsa ⟨by omega, by omega⟩ hlap) ?_
            rintro _ w3 ⟨hB3, v1, rfl, h1⟩
            have hz3 := hB3.size
            have E := Below.step E hB3
            have hml := Nat.mod_lt (val la) (show 0 < (lb.getD 0 0).toNat by omega)
            have hsz1 := E.size
            refine S_move rfl rfl rfl (v := (.tuple #[v1, .int .u32 ((val la % (lb.getD 0 0).toNat : Nat) : Int)])) (rfl) ?_
            refine S_extract rfl rfl rfl (rfl) rfl ?_
            refine S_extract rfl rfl rfl (rfl) rfl ?_
            refine S_assign rfl rfl rfl (v := v1) (rfl) ?_
            refine S_assign rfl rfl rfl (v := (.int .u32 ((val la % (lb.getD 0 0).toNat : Nat) : Int))) (rfl) ?_
            refine OPS.nil ?_
            change WP _ _ _ _ _ _
            refine W_seq ?_
            refine W_region rfl ?_
            refine S_move rfl rfl rfl (v := v1) (rfl) ?_
            refine S_move rfl rfl rfl (v := (.int .u32 ((val la % (lb.getD 0 0).toNat : Nat) : Int))) (rfl) ?_
            refine S_conv Tryz.underlying106 Tryz.underlying124 rfl rfl rfl (rfl) (b := ((val la % (lb.getD 0 0).toNat : Nat) : Int)) (wrap_u64 (by omega) (by omega)) ?_
            refine S_call en_assayerref01_Of rfl rfl rfl (vs := [(.int .u64 ((val la % (lb.getD 0 0).toNat : Nat) : Int))]) (rfl) (ref01Of_c _ ((val la % (lb.getD 0 0).toNat : Nat) : Int) ⟨by omega, by omega⟩) ?_
            rintro vh2 w4 ⟨hB4, h2⟩
            have hz4 := hB4.size
            have E := Below.step E hB4
            have h1 := h1.below hB4
            rw [Int.toNat_natCast] at h2
            refine S_assign rfl rfl rfl (v := v1) (rfl) ?_
            refine S_assign rfl rfl rfl (v := vh2) (rfl) ?_
            refine S_assign rfl rfl rfl (v := (.int .i64 0)) (rfl) ?_
            refine OPS.nil ?_
            change WP _ _ _ _ _ _
            refine W_ret ?_
            change Fin' _ _ _ _ _ _
            refine End3 (n := ⟨105, []⟩) (t := 4) (u := 5) (s := 6) rfl (by decide) (by decide) (by decide) (rfl) (rfl) (rfl) ?_
            have hs : divE la lb = 0 := by unfold divE; rw [hka, hkb]; exact (if_pos rfl).trans (if_neg (by omega))
            have hy : (lb.getD 0 0).toNat = val lb := by
              rw [val_one (l := lb) hl1]
            skip
            refine ⟨E, _, _, congrArg (fun z => Value.tuple #[_, _, .int .i64 z]) hs.symm, ?_, ?_⟩
            · rw [hs, ← hy]; exact h1.mono (by omega)
            · rw [hs, ← hy]; exact h2.mono (by omega)
          · skip
            have pFFFFF := hq34
            replace hq34 := ne_of_beq_false hq34
            have qFFFFF := hq34
            obtain ⟨n, hn⟩ : ∃ n, lb.length = n + 1 := ⟨lb.length - 1, by omega⟩
            have hn1 : 1 ≤ n := by have := qFFFFF; omega
            obtain ⟨t, ht, htl⟩ := hb.u32.nat n
            have htp := ok_last hb.u32 hkb hn
            have htp : 1 ≤ t := by omega
            have hs0 : divE la lb = 0 := by unfold divE; rw [hka, hkb]; exact (if_pos rfl).trans (if_neg (by omega))
            try rw [pFFFFF]
            refine W_skip ?_
            change WP _ _ _ _ _ _
            refine W_seq ?_
            refine W_region rfl ?_
            refine S_assign rfl rfl rfl (v := (.int .u64 0)) (rfl) ?_
            refine OPS.nil ?_
            change WP _ _ _ _ _ _
            refine W_seq ?_
            refine W_block ?_
            refine W_loop (fun k σ w => ∃ (s : Nat), σ 0 = va ∧ σ 1 = vb ∧ σ 9 = .int .u64 (s : Int) ∧ t * 2 ^ s < 4294967296 ∧ s < 32 ∧ k + s = 32 ∧ Below w0.heap.size w0 w) (32) ⟨0, rfl, rfl, rfl, by omega, by decide, rfl, E⟩ ?_
            rintro k σ w ⟨s, s0, s1, s9, hts, hsl, hks, E⟩
            refine W_seq ?_
            refine W_seq ?_
            refine W_region rfl ?_
            refine S_move rfl rfl rfl (v := vb) (s1) ?_
            refine S_move rfl rfl rfl (v := vb) (s1) ?_
            refine S_len Tryz.underlying23 rfl rfl rfl (rfl) (m := lb.length) (hb.len) ?_
            refine S_sub64 rfl rfl rfl rfl (rfl) (rfl) (by omega) ?_
            obtain ⟨ad4, hp6, hc5⟩ := (hb.below E).at n (by omega)
            refine S_idx Tryz.underlying23 ti_uint32 rfl rfl rfl rfl (rfl) (rfl) hp6 (by omega) ?_
            refine S_load rfl rfl rfl (rfl) (LD.one ti_uint32 hc5) ?_
            refine S_move rfl rfl rfl (v := (.int .u64 (s : Int))) (s9) ?_
            refine S_shl rfl rfl rfl rfl (rfl) (rfl) (by omega) (v := ((t * 2 ^ s : Nat) : Int)) ((by rw [ht]; exact shlN32 hts (by omega))) ?_
            refine S_shr rfl rfl rfl rfl (rfl) (rfl) (by omega) (v := (((t * 2 ^ s : Nat) : Int) / 2147483648)) (shr31 _) ?_
            refine S_bin rfl rfl rfl rfl rfl (rfl) (rfl) (v := .bool (((((t * 2 ^ s : Nat) : Int) / 2147483648) == 0))) rfl ?_
            refine OPS.nil ?_
            change WP _ _ _ _ _ _
            refine W_cond rfl (rfl) (fun hq56 => ?_) (fun hq56 => ?_)
            · skip
              have pT := hq56
              replace hq56 := eq_of_beq hq56
              have qT := hq56
              try rw [pT]
              refine W_skip ?_
              change WP _ _ _ _ _ _
              refine W_block ?_
              refine W_region rfl ?_
              refine S_move rfl rfl rfl (v := (.int .u64 (s : Int))) (s9) ?_
              refine S_bin rfl rfl rfl rfl rfl (rfl) (rfl) (v := .int .u64 ((s : Int) + 1)) (congrArg (Value.int .u64) (wrap_u64 (by omega) (by omega))) ?_
              refine S_assign rfl rfl rfl (v := (.int .u64 ((s : Int) + 1))) (rfl) ?_
              refine OPS.nil ?_
              have ht2 : t * 2 ^ (s + 1) < 4294967296 := by rw [Nat.pow_succ, ← Nat.mul_assoc]; omega
              have hsl2 : s + 1 < 32 := by
                refine Nat.not_le.1 fun hc => ?_
                have h9 : 1 * 2 ^ 32 ≤ t * 2 ^ (s + 1) := Nat.mul_le_mul htp (Nat.pow_le_pow_right (by decide) (by omega))
                omega
              exact ⟨k - 1, by omega, s + 1, s0, s1, int_eq (by omega), ht2, hsl2, by omega, E⟩
            · skip
              have pF := hq56
              replace hq56 := ne_of_beq_false hq56
              have qF := hq56
              try rw [pF]
              refine W_exit ?_
              change WP _ _ _ _ _ _
              refine W_seq ?_
              refine W_region rfl ?_
              obtain ⟨hDl, hDb⟩ := norm_len hb.u32 hn ht hts (by omega) hsl
              have hsz0 := E.size
              refine S_move rfl rfl rfl (v := va) (s0) ?_
              refine S_move rfl rfl rfl (v := (.int .u64 (s : Int))) (s9) ?_
              refine S_call en_assayerref01_up rfl rfl rfl (vs := [va, (.int .u64 (s : Int))]) (rfl) (ref01Up_d _ _ la s (ha.below E) hsa hsl) ?_
              rintro _ w5 ⟨hB5, gu, ru, rfl, hgu, hrl, hru, hrv, bu⟩
              have hz5 := hB5.size
              have E := Below.step E hB5
              have hbl := bu.lt
              refine S_assign rfl rfl rfl (v := (.slice (some ⟨gu, 0, none⟩) (la.length + 1) (la.length + 1))) (rfl) ?_
              refine OPS.nil ?_
              change WP _ _ _ _ _ _
              refine W_seq ?_
              refine W_region rfl ?_
              refine S_move rfl rfl rfl (v := vb) (s1) ?_
              refine S_move rfl rfl rfl (v := (.int .u64 (s : Int))) (s9) ?_
              refine S_call en_assayerref01_up rfl rfl rfl (vs := [vb, (.int .u64 (s : Int))]) (rfl) (ref01Up_d _ _ lb s (hb.below E) hsb hsl) ?_
              rintro _ w6 ⟨hB6, gv, rv, rfl, hgv, hvl, hvu, hvv, bv⟩
              have hz6 := hB6.size
              have E := Below.step E hB6
              have hl_bu := bu.lt
              have bu := bu.below hB6
              have hblv := bv.lt
              unfold SZ at hsa hsb
              refine S_call en_assayerref01_trim rfl rfl rfl (vs := [(.slice (some ⟨gv, 0, none⟩) (lb.length + 1) (lb.length + 1))]) (rfl) (ref01TrimN_c _ _ _ (ON.ofNums (B := gv) bv hvu (Nat.le_refl _) hvl (by omega))) ?_
              rintro vD _ ⟨h2, rfl⟩
              rw [hvv] at h2
              obtain ⟨D, hD⟩ : ∃ D, D = dg (val lb * 2 ^ s) := ⟨_, rfl⟩
              rw [← hD] at h2 hDl
              have hDv : val D = val lb * 2 ^ s := by rw [hD, val_dg]
              have hk2 := h2.bkB
              refine S_assign rfl rfl rfl (v := vD) (rfl) ?_
              refine OPS.nil ?_
              change WP _ _ _ _ _ _
              refine W_seq ?_
              refine W_region rfl ?_
              have hll := val_len_le ha.u32 hb.u32 hkb hle
              obtain ⟨mq, hmq⟩ : ∃ mq, mq + D.length = la.length + 1 := ⟨la.length + 1 - D.length, by omega⟩
              refine S_move rfl rfl rfl (v := (.slice (some ⟨gu, 0, none⟩) (la.length + 1) (la.length + 1))) (rfl) ?_
              refine S_len Tryz.underlying23 rfl rfl rfl (rfl) (m := (la.length + 1)) (⟨_, _, rfl⟩) ?_
              refine S_move rfl rfl rfl (v := vD) (rfl) ?_
              refine S_len Tryz.underlying23 rfl rfl rfl (rfl) (m := D.length) (h2.r.len) ?_
              refine S_sub64 rfl rfl rfl rfl (rfl) (rfl) (by omega) ?_
              refine S_make Tryz.underlying23 ti_uint32 rfl rfl rfl rfl (rfl) (m := mq) (by omega) (by omega) (by omega) ?_
              intro g7 w7 hg7 hs7 hB7 b7
              rw [nums_rep] at b7
              have hz7 := hB7.size
              have E := Below.step E hB7
              have hl_bu := bu.lt
              have bu := bu.below hB7
              have hl_bv := bv.lt
              have bv := bv.below hB7
              have h2 := h2.below hB7
              refine S_assign rfl rfl rfl (v := (.slice (some ⟨g7, 0, none⟩) (mq) (mq))) (rfl) ?_
              refine OPS.nil ?_
              change WP _ _ _ _ _ _
              refine W_seq ?_
              refine W_seq ?_
              refine W_region rfl ?_
              have hlt0 : val (ru.drop mq) < val D := norm_top hru hrv (val_lt ha.u32) hsl (n := n) (by omega) (by rw [hDv]; exact hDb)
              have hDlt : val D < 4294967296 ^ D.length := by rw [hD, val_dg]; exact lt_dg_length _
              have hDlt2 : 4294967296 ^ D.length ≤ 4294967296 ^ (D.length + 1) := Nat.pow_le_pow_right (by decide) (by omega)
              obtain ⟨m, hm⟩ : ∃ m, D.length = m + 2 := ⟨D.length - 2, by omega⟩
              have hDk : okL D = true := by rw [hD]; exact okL_dg _
              have hDp : 0 < val D := by rw [hDv]; exact Nat.mul_pos hbp (Nat.pow_pos (by decide))
              have htop := ok_last h2.r.u32 hDk (m := m + 1) hm
              refine S_move rfl rfl rfl (v := (.slice (some ⟨g7, 0, none⟩) (mq) (mq))) (rfl) ?_
              refine S_len Tryz.underlying23 rfl rfl rfl (rfl) (m := (mq)) (⟨_, _, rfl⟩) ?_
              refine S_sub64 rfl rfl rfl rfl (rfl) (rfl) (by omega) ?_
              refine S_assign rfl rfl rfl (v := (.int .i64 (((mq) : Int) - 1))) (rfl) ?_
              refine OPS.nil ?_
              change WP _ _ _ _ _ _
              refine W_block ?_
              refine W_loop (fun k σ w => ∃ (r0 qs : List Int), σ 9 = .int .u64 (s : Int) ∧ σ 10 = .slice (some ⟨gu, 0, none⟩) (la.length + 1) (la.length + 1) ∧ σ 11 = vD ∧ σ 12 = .slice (some ⟨g7, 0, none⟩) mq mq ∧ σ 13 = .int .i64 ((k : Int) - 1) ∧ k ≤ mq ∧ val ru = val (qs.drop k) * 4294967296 ^ k * val D + val r0 ∧ val (r0.drop k) < val D ∧
      r0.length = la.length + 1 ∧ U32 r0 ∧ qs.length = mq ∧ U32 qs ∧ Blk w gu (nums .u32 r0) 106 ∧ Blk w g7 (nums .u32 qs) 106 ∧ ON gv w vD D ∧ Below w0.heap.size w0 w) (mq) ⟨ru, List.replicate mq 0, s9, rfl, rfl, rfl, rfl, Nat.le_refl _, by rw [List.drop_of_length_le (by simp)]; simp [val], hlt0, hrl, hru, by simp, U32.replicate mq, bu, b7, h2, E⟩ ?_
              rintro k σ w ⟨r0, qs, s9, s10, s11, s12, s13, hk, hI, hlt, hrl, hru, hql, hqu, bu, bq, h2, E⟩
              refine W_seq ?_
              refine W_seq ?_
              refine W_region rfl ?_
              refine S_move rfl rfl rfl (v := (.int .i64 ((k : Int) - 1))) (s13) ?_
              refine S_bin rfl rfl rfl rfl rfl (rfl) (rfl) (v := .bool (decide (((k : Int) - 1) ≥ 0))) rfl ?_
              refine OPS.nil ?_
              change WP _ _ _ _ _ _
              refine W_cond rfl (rfl) (fun hq76 => ?_) (fun hq76 => ?_)
              · skip
                have pT := hq76
                replace hq76 := of_decide_eq_true hq76
                have qT := hq76
                try rw [pT]
                refine W_skip ?_
                change WP _ _ _ _ _ _
                refine W_seq ?_
                refine W_block ?_
                refine W_seq ?_
                refine W_region rfl ?_
                have hm2 : D.length + 1 = m + 3 := by omega
                have hst := step_u (i := k - 1) hru (by rw [show k - 1 + 1 = k by omega]; exact hlt) hDlt
                have hub9 : val ((r0.drop (k - 1)).take (m + 3)) < 4294967296 * val D := by rw [← hm2, ← hst.1]; exact hst.2
                refine S_move rfl rfl rfl (v := (.slice (some ⟨gu, 0, none⟩) (la.length + 1) (la.length + 1))) (s10) ?_
                refine S_move rfl rfl rfl (v := vD) (s11) ?_
                refine S_move rfl rfl rfl (v := (.int .i64 ((k - 1 : Nat) : Int))) ((s13).trans (int_eq (by omega))) ?_
                refine S_call en_assayerref01_guess rfl rfl rfl (vs := [(.slice (some ⟨gu, 0, none⟩) (la.length + 1) (la.length + 1)), vD, (.int .i64 ((k - 1 : Nat) : Int))]) (rfl) (ref01Guess_c _ _ _ r0 D (k - 1) m (RN.ofNums (a := 0) (b := 0) bu hru hrl (by omega)) h2.r hm (by omega) htop hub9) ?_
                rintro _ w8 ⟨hB8, q, rfl, hq1, hq2, hq3⟩
                have hz8 := hB8.size
                have E := Below.step E hB8
                have hl_bu := bu.lt
                have bu := bu.below hB8
                have hl_bq := bq.lt
                have bq := bq.below hB8
                have h2 := h2.below hB8
                rw [← hm2] at hq2 hq3
                refine S_assign rfl rfl rfl (v := (.int .u64 (q : Int))) (rfl) ?_
                refine OPS.nil ?_
                change WP _ _ _ _ _ _
                refine W_seq ?_
                refine W_seq ?_
                refine W_region rfl ?_
                refine S_move rfl rfl rfl (v := (.slice (some ⟨gu, 0, none⟩) (la.length + 1) (la.length + 1))) (s10) ?_
                refine S_move rfl rfl rfl (v := vD) (s11) ?_
                refine S_move rfl rfl rfl (v := (.int .i64 ((k - 1 : Nat) : Int))) ((s13).trans (int_eq (by omega))) ?_
                refine S_move rfl rfl rfl (v := (.int .u64 (q : Int))) (rfl) ?_
                refine S_call en_assayerref01_takes rfl rfl rfl (vs := [(.slice (some ⟨gu, 0, none⟩) (la.length + 1) (la.length + 1)), vD, (.int .i64 ((k - 1 : Nat) : Int)), (.int .u64 (q : Int))]) (rfl) (ref01Takes_c _ gu (la.length + 1) (k - 1) vD D r0 (fun _ hu_ => (h2.updN hu_ (fun g hg => by have := hk2 g hg; omega)).r.any) bu hrl hru (by omega) (by omega) (q : Int) ⟨by omega, by omega⟩) ?_
                rintro _ w9 ⟨hU9, x1, owed, rfl, how, hs1, hx1t, hx1o, hx1l, hx1u, bu⟩
                have E := Below.stepU E hU9 (by omega)
                have bq := bq.upd hU9 (by omega)
                have h2 := h2.updN hU9 (fun g hg => by have := hk2 g hg; omega)
                have hz9 := hU9.size
                rw [Int.toNat_natCast, Nat.mul_comm (4294967296 ^ (D.length + 1)) owed.toNat] at hs1
                refine OPS.nil ?_
                change WP _ _ _ _ _ _
                refine W_cond rfl (rfl) (fun hq87 => ?_) (fun hq87 => ?_)
                · skip
                  have pTT := hq87
                  replace hq87 := of_decide_eq_true hq87
                  have qTT := hq87
                  try rw [pTT]
                  refine W_seq ?_
                  refine W_region rfl ?_
                  refine S_move rfl rfl rfl (v := (.slice (some ⟨gu, 0, none⟩) (la.length + 1) (la.length + 1))) (s10) ?_
                  refine S_move rfl rfl rfl (v := vD) (s11) ?_
                  refine S_move rfl rfl rfl (v := (.int .i64 ((k - 1 : Nat) : Int))) ((s13).trans (int_eq (by omega))) ?_
                  refine S_call en_assayerref01_gives rfl rfl rfl (vs := [(.slice (some ⟨gu, 0, none⟩) (la.length + 1) (la.length + 1)), vD, (.int .i64 ((k - 1 : Nat) : Int))]) (rfl) (ref01Gives_c _ gu (la.length + 1) (k - 1) vD D x1 (fun _ hu_ => (h2.updN hu_ (fun g hg => by have := hk2 g hg; omega)).r.any) bu hx1l hx1u (by omega) (by omega)) ?_
                  rintro _ w10 ⟨hU10, x2, cc, hs2, hx2t, hx2o, hx2l, hx2u, bu⟩
                  have E := Below.stepU E hU10 (by omega)
                  have bq := bq.upd hU10 (by omega)
                  have h2 := h2.updN hU10 (fun g hg => by have := hk2 g hg; omega)
                  have hz10 := hU10.size
                  refine OPS.nil ?_
                  change WP _ _ _ _ _ _
                  refine W_region rfl ?_
                  have hq0 : 1 ≤ q := by
                    refine Nat.pos_of_ne_zero fun h => ?_
                    subst h
                    have h8 := val_take_lt (hru.drop (k - 1)) (D.length + 1)
                    have h7 : 4294967296 ^ (D.length + 1) * 1 ≤ owed.toNat * 4294967296 ^ (D.length + 1) := by rw [Nat.mul_comm]; exact Nat.mul_le_mul_right _ (by omega)
                    have h6 := val_take_lt (hx1u.drop (k - 1)) (D.length + 1)
                    omega
                  refine S_move rfl rfl rfl (v := (.int .u64 (q : Int))) (rfl) ?_
                  refine S_bin rfl rfl rfl rfl rfl (rfl) (rfl) (v := .int .u64 ((q - 1 : Nat) : Int)) (congrArg (Value.int .u64) ((wrap_u64 (by omega) (by omega)).trans (by omega))) ?_
                  refine S_assign rfl rfl rfl (v := (.int .u64 ((q - 1 : Nat) : Int))) (rfl) ?_
                  refine OPS.nil ?_
                  change WP _ _ _ _ _ _
                  refine W_region rfl ?_
                  refine S_move rfl rfl rfl (v := (.slice (some ⟨g7, 0, none⟩) mq mq)) (s12) ?_
                  refine S_move rfl rfl rfl (v := (.int .i64 ((k : Int) - 1))) (s13) ?_
                  refine S_move rfl rfl rfl (v := (.int .u64 ((q - 1 : Nat) : Int))) (rfl) ?_
                  refine S_conv Tryz.underlying124 Tryz.underlying106 rfl rfl rfl (rfl) (b := ((q - 1 : Nat) : Int)) (wrap_u32 (by omega) (by omega)) ?_
                  refine S_idx Tryz.underlying23 ti_uint32 rfl rfl rfl rfl (rfl) (rfl) (j := (k - 1)) (ad := ⟨g7, (k - 1), none⟩) (SlAt.own1 (by omega)) (by omega) ?_
                  refine S_storeN ti_uint32 rfl rfl rfl rfl (g := g7) (o := (k - 1)) (rfl) (a := ((q - 1 : Nat) : Int)) (rfl) bq (by omega) ?_
                  intro w11 hU11 bq
                  have E := Below.stepU E hU11 (by omega)
                  have bu := bu.upd hU11 (by omega)
                  have h2 := h2.updN hU11 (fun g hg => by have := hk2 g hg; omega)
                  have hz11 := hU11.size
                  refine OPS.nil ?_
                  change WP _ _ _ _ _ _
                  refine W_region rfl ?_
                  refine S_move rfl rfl rfl (v := (.int .i64 ((k : Int) - 1))) (s13) ?_
                  refine S_sub64 rfl rfl rfl rfl (rfl) (rfl) (by omega) ?_
                  refine S_assign rfl rfl rfl (v := (.int .i64 (((k : Int) - 1) - 1))) (rfl) ?_
                  refine OPS.nil ?_
                  obtain ⟨e1, e2, e3⟩ := fix_yes (u := val ((r0.drop (k - 1)).take (D.length + 1))) (v := val D) (q := q) (h := 0) (owed := owed.toNat) (P := 4294967296 ^ (D.length + 1)) (low := val ((r0.drop (k - 1)).take (D.length + 1))) (by rw [Nat.zero_mul]; rfl) hs1 (by omega) (val_take_lt (hx1u.drop _) _) hq3 (by omega) (by omega) (hs2.trans (by rw [Nat.mul_comm (4294967296 ^ (D.length + 1)), Nat.add_comm])) (val_take_lt (hx2u.drop _) _)
                  obtain ⟨f1, f2⟩ := div_round (i := k - 1) (n := D.length) (by rw [show k - 1 + 1 = k by omega]; exact hI) hru (by rw [show k - 1 + 1 = k by omega]; exact hlt) hDlt (hx2t.trans hx1t) (fun j hj => (hx2o j hj).trans (hx1o j hj)) (hx2l.trans hrl.symm) (by omega) e1 e2
                  exact ⟨k - 1, by omega, x2, _, s9, s10, s11, s12, int_eq (by omega), by omega, f1, f2, hx2l, hx2u, by simpa using hql, hqu.set _ (by omega) (by omega), bu, bq, h2, E⟩
                · skip
                  have pTF := hq87
                  replace hq87 := of_decide_eq_false hq87
                  have qTF := hq87
                  try rw [pTF]
                  refine W_skip ?_
                  change WP _ _ _ _ _ _
                  refine W_region rfl ?_
                  refine S_move rfl rfl rfl (v := (.slice (some ⟨g7, 0, none⟩) mq mq)) (s12) ?_
                  refine S_move rfl rfl rfl (v := (.int .i64 ((k : Int) - 1))) (s13) ?_
                  refine S_move rfl rfl rfl (v := (.int .u64 (q : Int))) (rfl) ?_
                  refine S_conv Tryz.underlying124 Tryz.underlying106 rfl rfl rfl (rfl) (b := (q : Int)) (wrap_u32 (by omega) (by omega)) ?_
                  refine S_idx Tryz.underlying23 ti_uint32 rfl rfl rfl rfl (rfl) (rfl) (j := (k - 1)) (ad := ⟨g7, (k - 1), none⟩) (SlAt.own1 (by omega)) (by omega) ?_
                  refine S_storeN ti_uint32 rfl rfl rfl rfl (g := g7) (o := (k - 1)) (rfl) (a := (q : Int)) (rfl) bq (by omega) ?_
                  intro w12 hU12 bq
                  have E := Below.stepU E hU12 (by omega)
                  have bu := bu.upd hU12 (by omega)
                  have h2 := h2.updN hU12 (fun g hg => by have := hk2 g hg; omega)
                  have hz12 := hU12.size
                  refine OPS.nil ?_
                  change WP _ _ _ _ _ _
                  refine W_region rfl ?_
                  refine S_move rfl rfl rfl (v := (.int .i64 ((k : Int) - 1))) (s13) ?_
                  refine S_sub64 rfl rfl rfl rfl (rfl) (rfl) (by omega) ?_
                  refine S_assign rfl rfl rfl (v := (.int .i64 (((k : Int) - 1) - 1))) (rfl) ?_
                  refine OPS.nil ?_
                  obtain ⟨e1, e2⟩ := fix_no (u := val ((r0.drop (k - 1)).take (D.length + 1))) (v := val D) (q := q) (h := 0) (owed := owed.toNat) (P := 4294967296 ^ (D.length + 1)) (low := val ((r0.drop (k - 1)).take (D.length + 1))) (by rw [Nat.zero_mul]; rfl) hs1 (by omega) hq2 (by omega) (by omega)
                  obtain ⟨f1, f2⟩ := div_round (i := k - 1) (n := D.length) (by rw [show k - 1 + 1 = k by omega]; exact hI) hru (by rw [show k - 1 + 1 = k by omega]; exact hlt) hDlt (hx1t) (hx1o) (hx1l.trans hrl.symm) (by omega) e1 e2
                  exact ⟨k - 1, by omega, x1, _, s9, s10, s11, s12, int_eq (by omega), by omega, f1, f2, hx1l, hx1u, by simpa using hql, hqu.set _ (by omega) (by omega), bu, bq, h2, E⟩
              · skip
                have pF := hq76
                replace hq76 := of_decide_eq_false hq76
                have qF := hq76
                try rw [pF]
                refine W_exit ?_
                change WP _ _ _ _ _ _
                refine W_seq ?_
                refine W_region rfl ?_
                have hln : (dg (val r0)).length ≤ SZ := by
                  have hk0 : k = 0 := by omega
                  subst hk0
                  rw [List.drop_zero] at hlt
                  have h9 := dg_length_mono (Nat.le_of_lt hlt)
                  rw [hDv, ← hD] at h9
                  unfold SZ
                  omega
                refine S_move rfl rfl rfl (v := (.slice (some ⟨g7, 0, none⟩) mq mq)) (s12) ?_
                refine S_call en_assayerref01_trim rfl rfl rfl (vs := [(.slice (some ⟨g7, 0, none⟩) mq mq)]) (rfl) (ref01TrimN_c _ _ _ (ON.ofNums (B := g7) bq hqu (Nat.le_refl _) hql (by omega))) ?_
                rintro t1v _ ⟨t1, rfl⟩
                refine S_move rfl rfl rfl (v := (.slice (some ⟨gu, 0, none⟩) (la.length + 1) (la.length + 1))) (s10) ?_
                refine S_call en_assayerref01_trim rfl rfl rfl (vs := [(.slice (some ⟨gu, 0, none⟩) (la.length + 1) (la.length + 1))]) (rfl) (ref01TrimN_c _ _ _ (ON.ofNums (B := gu) bu hru (Nat.le_refl _) hrl (by omega))) ?_
                rintro t2v _ ⟨t2, rfl⟩
                refine S_move rfl rfl rfl (v := (.int .u64 (s : Int))) (s9) ?_
                refine S_call en_assayerref01_down rfl rfl rfl (vs := [t2v, (.int .u64 (s : Int))]) (rfl) (ref01Down_d _ _ (dg (val r0)) s t2.r hln hsl) ?_
                rintro vh3 w13 ⟨hB13, h3⟩
                have hz13 := hB13.size
                have E := Below.step E hB13
                have hl_bu := bu.lt
                have bu := bu.below hB13
                have hl_bq := bq.lt
                have bq := bq.below hB13
                have h2 := h2.below hB13
                have t1 := t1.below hB13
                refine S_assign rfl rfl rfl (v := t1v) (rfl) ?_
                refine S_assign rfl rfl rfl (v := vh3) (rfl) ?_
                refine S_assign rfl rfl rfl (v := (.int .i64 0)) (rfl) ?_
                refine OPS.nil ?_
                change WP _ _ _ _ _ _
                refine W_ret ?_
                change Fin' _ _ _ _ _ _
                refine End3 (n := ⟨105, []⟩) (t := 4) (u := 5) (s := 6) rfl (by decide) (by decide) (by decide) (rfl) (rfl) (rfl) ?_
                have hk0 : k = 0 := by omega
                subst hk0
                obtain ⟨d1, d2⟩ := div_end hI hlt
                rw [d1, hrv, hDv, shl_div] at t1
                rw [val_dg, d2, hrv, hDv, shl_mod] at h3
                exact ⟨E, _, _, congrArg (fun z => Value.tuple #[_, _, .int .i64 z]) hs0.symm, by rw [hs0]; exact t1.mono (by omega), by rw [hs0]; exact h3.mono (by omega)⟩

end Go.Proofs.YtccmicegihlfbaaGreatDoor
