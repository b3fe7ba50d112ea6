/- Differences of numbers from 0 on; the document's order and differences. -/
import Derived.Test.YtccmicegihlfbaaGreatDoorN9
import Derived.Test.YtccmicegihlfbaaGreatDoorTy
import Derived.Test.YtccmicegihlfbaaGreatDoorR1
import Derived.Deep.Upon
set_option linter.unusedVariables false
set_option linter.unusedSimpArgs false
namespace Go.Proofs.YtccmicegihlfbaaGreatDoor
open Go.RowKit


theorem nums_app (k : IntKind) (l m : List Int) : nums k l ++ nums k m = nums k (l ++ m) := by simp [nums]
theorem run_append_0 {P : Program} {w : World} {t ty e : TypeId} {sz by_ : Nat} {z : Value} {ag : Bool} (hT : P.underlying t = some (.slice e)) (he : TI P e sz by_ z ag) (base A : Option Addr) (m c c' : Nat) (hle : m ≤ c) :
    (Builtin.append_ #[t, t] ty #[.slice base m c, .slice A 0 c']).run P w = .ok (.slice base m c) w := by
  obtain ⟨i0, hi0, hs0, hby, hzz⟩ := he.info
  cases A with
  | none => exact run_append_nothing w t t ty e i0 hT hi0 base m c hle _ (Src.ofNil w hT c')
  | some a => exact run_append_nothing w t t ty e i0 hT hi0 base m c hle _ (Src.ofSlice w hT a 0 c' [] (by simp) (fun j u h => by simp at h) (fun u h => by simp at h))
section
variable {P : Program} {n : NF} {ops : Array Oper} {K : (Nat → Value) → World → Prop} {σ : Nat → Value} {w : World} {i : Nat} {rest : List Nat}
variable {d : Nat} {t : TypeId} {p : String} {af : Array Edge} {gd : Option (Nat × Bool)} {x y : Operand}
/-- append(s, x...), x empty. -/
theorem S_append0 {T e : TypeId} {sz by_ : Nat} {z : Value} {ag : Bool} (hT : P.underlying T = some (.slice e)) (he : TI P e sz by_ z ag)
    (ho : ops[i]? = some { dst := some d, op := .call { callee := .builtin .append, args := #[x, y], argTypes := #[T, T] }, type := t, pos := p, after := af, guard := gd }) (hw : wg n ops σ gd = true) (hx : tok n x = true) (hy : tok n y = true)
    {A A' : Option Addr} {m c c' : Nat} (hv : sv σ x = .slice A m c) (hs : sv σ y = .slice A' 0 c') (hle : m ≤ c) (h : OPS P n ops K rest (upd σ d (.slice A m c)) w) : OPS P n ops K (i :: rest) σ w := by
  have := run_append_0 (w := w) (ty := t) hT he A A' m c c' hle
  refine OPS.step ho hw rfl ?_ h
  simp [execOp, resolve, invoke, builtin, eval_act hx, eval_act hy, hv, hs, this]
end
theorem RN.prefix_ {a b : Nat} {w : World} {A : Option Addr} {l : List Int} {c k : Nat} (h : RN a b w (.slice A l.length c) l) (hk : k ≤ l.length) : RN a b w (.slice A k c) (l.take k) := by
  obtain ⟨hu, A', c', hv, h1, h2, h3⟩ := h
  simp only [Value.slice.injEq] at hv
  obtain ⟨rfl, _, rfl⟩ := hv
  have hl : (l.take k).length = k := by simp; omega
  refine ⟨hu.take k, A, c, by rw [hl], by omega, h2, fun j hj => ?_⟩
  obtain ⟨ad, hA, hb, hc⟩ := h3 j (by omega)
  refine ⟨ad, hA, hb, ?_⟩
  rw [hc]
  simp [List.getD_eq_getElem?_getD, List.getElem?_take_of_lt (show j < k by omega)]
theorem ON.prefix_ {B : Nat} {w : World} {A : Option Addr} {l : List Int} {c k : Nat} (h : ON B w (.slice A l.length c) l) (hk : k ≤ l.length) : ON B w (.slice A k c) (l.take k) := by
  refine ⟨h.1.prefix_ hk, ?_⟩
  rcases h.2 with ⟨A', hv⟩ | ⟨g, m, c', cs, hv, h2, h3, h4, h5⟩
  · simp only [Value.slice.injEq] at hv
    obtain ⟨rfl, hl, rfl⟩ := hv
    exact .inl ⟨A, by rw [show k = 0 by omega]⟩
  · simp only [Value.slice.injEq] at hv
    obtain ⟨rfl, hl, rfl⟩ := hv
    exact .inr ⟨g, k, c, cs, rfl, h2, h3, by omega, h5⟩
theorem dg_take_ok {l : List Int} {k n : Nat} (ht : l.take k = dg n) : l.take k = dg n := ht


/-- A difference may be. -/
def subOk (la lb : List Int) : Bool := okL la && okL lb && decide (val lb ≤ val la)

set_option maxHeartbeats 400000 in
theorem natsSub_c (w0 : World) (va vb : Value) (la lb : List Int) {a b a' b' : Nat} (ha : RN a b w0 va la) (hb : RN a' b' w0 vb lb) (hsa : la.length ≤ SZ) :
    Ret Tryz.prog 204 [va, vb] w0 (fun r w1 => Below w0.heap.size w0 w1 ∧ ∃ v, r = .tuple #[v, .int .i64 (if subOk la lb then 0 else 1)] ∧ ON w0.heap.size w1 v (if subOk la lb then dg (val la - val lb) else [])) := by
  have E := Below.refl w0.heap.size w0
  refine Ret_of (n := 23) Tryz.func204 rfl rfl (Nat.le_of_ble_eq_true rfl) ?_
  refine W_seq ?_
  refine W_region rfl ?_
  refine S_assign rfl rfl rfl (v := (.slice none 0 0)) (rfl) ?_
  refine S_assign rfl rfl rfl (v := (.int .i64 0)) (rfl) ?_
  refine OPS.nil ?_
  change WP _ _ _ _ _ _
  refine W_seq ?_
  refine W_seq ?_
  refine W_region rfl ?_
  refine S_move rfl rfl rfl (v := va) (rfl) ?_
  refine S_call en_nats_Check rfl rfl rfl (vs := [va]) (rfl) (natsCheck_c _ _ la ha) ?_
  rintro _ _ ⟨rfl, rfl⟩
  refine S_not rfl rfl rfl (rfl) ?_
  refine S_move rfl rfl rfl (v := (.bool (!(okL la)))) (rfl) ?_
  rcases Bool.eq_false_or_eq_true (!(okL la)) with pT | pF
  · skip
    rw [pT]
    refine S_skip (d := 10) (op := .move _) (gd := some (3, false)) rfl (wg_off rfl (rfl) rfl) ?_
    refine S_skip (d := 11) (op := .call _) (gd := some (3, false)) rfl (wg_off rfl (rfl) rfl) ?_
    refine S_skip (d := 12) (op := .unOp _ _ _) (gd := some (3, false)) rfl (wg_off rfl (rfl) rfl) ?_
    refine S_pick rfl rfl rfl rfl rfl (b := true) (rfl) (v := (.bool true)) (rfl) ?_
    refine S_move rfl rfl rfl (v := (.bool true)) (rfl) ?_
    refine S_skip (d := 15) (op := .move _) (gd := some (8, false)) rfl (wg_off rfl (rfl) rfl) ?_
    refine S_skip (d := 16) (op := .move _) (gd := some (8, false)) rfl (wg_off rfl (rfl) rfl) ?_
    refine S_skip (d := 17) (op := .call _) (gd := some (8, false)) rfl (wg_off rfl (rfl) rfl) ?_
    refine S_skip (d := 18) (op := .binOp _ _ _ _ _) (gd := some (8, false)) rfl (wg_off rfl (rfl) rfl) ?_
    refine S_pick rfl rfl rfl rfl rfl (b := true) (rfl) (v := (.bool true)) (rfl) ?_
    refine OPS.nil ?_
    change WP _ _ _ _ _ _
    refine W_cond rfl (b := true) (rfl) (fun _ => ?_) (fun h => (by cases h))
    refine W_seq ?_
    refine W_region rfl ?_
    refine S_assign rfl rfl rfl (v := (.slice none 0 0)) (rfl) ?_
    refine S_assign rfl rfl rfl (v := (.int .i64 1)) (rfl) ?_
    refine OPS.nil ?_
    change WP _ _ _ _ _ _
    refine W_ret ?_
    change Fin' _ _ _ _ _ _
    refine End2 (n := ⟨23, []⟩) (t := 4) (u := 5) rfl (by decide) (by decide) (rfl) (rfl) ?_
    have hs : subOk la lb = false := by simp_all [subOk]
    exact ⟨E, _, by rw [hs]; rfl, by rw [hs]; exact ON.nil _ _⟩
  · skip
    rw [pF]
    refine S_move rfl rfl rfl (v := vb) (rfl) ?_
    refine S_call en_nats_Check rfl rfl rfl (vs := [vb]) (rfl) (natsCheck_c _ _ lb hb) ?_
    rintro _ _ ⟨rfl, rfl⟩
    refine S_not rfl rfl rfl (rfl) ?_
    refine S_pick rfl rfl rfl rfl rfl (b := false) (rfl) (v := (.bool (!(okL lb)))) (rfl) ?_
    refine S_move rfl rfl rfl (v := (.bool (!(okL lb)))) (rfl) ?_
    rcases Bool.eq_false_or_eq_true (!(okL lb)) with pFT | pFF
    · skip
      rw [pFT]
      refine S_skip (d := 15) (op := .move _) (gd := some (8, false)) rfl (wg_off rfl (rfl) rfl) ?_
      refine S_skip (d := 16) (op := .move _) (gd := some (8, false)) rfl (wg_off rfl (rfl) rfl) ?_
      refine S_skip (d := 17) (op := .call _) (gd := some (8, false)) rfl (wg_off rfl (rfl) rfl) ?_
      refine S_skip (d := 18) (op := .binOp _ _ _ _ _) (gd := some (8, false)) rfl (wg_off rfl (rfl) rfl) ?_
      refine S_pick rfl rfl rfl rfl rfl (b := true) (rfl) (v := (.bool true)) (rfl) ?_
      refine OPS.nil ?_
      change WP _ _ _ _ _ _
      refine W_cond rfl (b := true) (rfl) (fun _ => ?_) (fun h => (by cases h))
      refine W_seq ?_
      refine W_region rfl ?_
      refine S_assign rfl rfl rfl (v := (.slice none 0 0)) (rfl) ?_
      refine S_assign rfl rfl rfl (v := (.int .i64 1)) (rfl) ?_
      refine OPS.nil ?_
      change WP _ _ _ _ _ _
      refine W_ret ?_
      change Fin' _ _ _ _ _ _
      refine End2 (n := ⟨23, []⟩) (t := 4) (u := 5) rfl (by decide) (by decide) (rfl) (rfl) ?_
      have hs : subOk la lb = false := by simp_all [subOk]
      exact ⟨E, _, by rw [hs]; rfl, by rw [hs]; exact ON.nil _ _⟩
    · skip
      rw [pFF]
      refine S_move rfl rfl rfl (v := va) (rfl) ?_
      refine S_move rfl rfl rfl (v := vb) (rfl) ?_
      refine S_call en_nats_Cmp rfl rfl rfl (vs := [va, vb]) (rfl) (natsCmp_c _ _ _ la lb ha hb) ?_
      rintro _ w1 ⟨hB1, rfl⟩
      have hz1 := hB1.size
      have E := Below.step E hB1
      refine S_bin rfl rfl rfl rfl rfl (rfl) (rfl) (v := .bool (decide ((cmpN (nv la) (nv lb)) < 0))) rfl ?_
      refine S_pick rfl rfl rfl rfl rfl (b := false) (rfl) (v := (.bool (decide ((cmpN (nv la) (nv lb)) < 0)))) (rfl) ?_
      refine OPS.nil ?_
      change WP _ _ _ _ _ _
      refine W_cond rfl (rfl) (fun hq19 => ?_) (fun hq19 => ?_)
      · skip
        have pFFT := hq19
        replace hq19 := of_decide_eq_true hq19
        have qFFT := hq19
        try rw [pFFT]
        refine W_seq ?_
        refine W_region rfl ?_
        refine S_assign rfl rfl rfl (v := (.slice none 0 0)) (rfl) ?_
        refine S_assign rfl rfl rfl (v := (.int .i64 1)) (rfl) ?_
        refine OPS.nil ?_
        change WP _ _ _ _ _ _
        refine W_ret ?_
        change Fin' _ _ _ _ _ _
        refine End2 (n := ⟨23, []⟩) (t := 4) (u := 5) rfl (by decide) (by decide) (rfl) (rfl) ?_
        have hs : subOk la lb = false := by have := cmpN_lt0.1 hq19; unfold subOk; rw [← nv_ok (l := la) (by simpa using pF), ← nv_ok (l := lb) (by simpa using pFF)]; simp; omega
        exact ⟨E, _, by rw [hs]; rfl, by rw [hs]; exact ON.nil _ _⟩
      · skip
        have pFFF := hq19
        replace hq19 := of_decide_eq_false hq19
        have qFFF := hq19
        have hka : okL la = true := by simpa using pF
        have hkb : okL lb = true := by simpa using pFF
        have hle : val lb ≤ val la := by
          rw [← nv_ok hka, ← nv_ok hkb]
          have := mt cmpN_lt0.2 hq19
          omega
        have hlen : lb.length ≤ la.length := by
          rcases Nat.lt_or_ge la.length lb.length with h | h
          · exact absurd (val_lt_len ha.u32 hb.u32 hkb h) (by omega)
          · exact h
        try rw [pFFF]
        refine W_skip ?_
        change WP _ _ _ _ _ _
        refine W_seq ?_
        refine W_region rfl ?_
        refine S_move rfl rfl rfl (v := va) (rfl) ?_
        refine S_move rfl rfl rfl (v := vb) (rfl) ?_
        refine S_call en_nats_minus rfl rfl rfl (vs := [va, vb]) (rfl) (natsMinus_c _ _ _ la lb (ha.below E) (hb.below E) hsa hlen hle) ?_
        rintro vh1 w2 ⟨hB2, h1⟩
        have hz2 := hB2.size
        have E := Below.step E hB2
        refine S_assign rfl rfl rfl (v := vh1) (rfl) ?_
        refine S_assign rfl rfl rfl (v := (.int .i64 0)) (rfl) ?_
        refine OPS.nil ?_
        change WP _ _ _ _ _ _
        refine W_ret ?_
        change Fin' _ _ _ _ _ _
        refine End2 (n := ⟨23, []⟩) (t := 4) (u := 5) rfl (by decide) (by decide) (rfl) (rfl) ?_
        have hs : subOk la lb = true := by unfold subOk; rw [hka, hkb]; simp; exact hle
        exact ⟨E, _, by rw [hs]; rfl, by rw [hs]; exact h1.mono (by omega)⟩

set_option maxHeartbeats 400000 in
theorem ref01Check_c (w0 : World) (v : Value) (l : List Int) {a b : Nat} (h : RN a b w0 v l) :
    Ret Tryz.prog 162 [v] w0 (fun r w1 => r = .bool (okL l) ∧ w0 = w1) := by
  have hm := h.maxl
  refine Ret_of (n := 15) Tryz.func162 rfl rfl (Nat.le_of_ble_eq_true rfl) ?_
  refine W_seq ?_
  refine W_region rfl ?_
  refine S_assign rfl rfl rfl (v := (.bool false)) (rfl) ?_
  refine OPS.nil ?_
  change WP _ _ _ _ _ _
  refine W_seq ?_
  refine W_region rfl ?_
  refine S_move rfl rfl rfl (v := v) (rfl) ?_
  refine S_len Tryz.underlying23 rfl rfl rfl (rfl) (m := l.length) (h.len) ?_
  refine S_bin rfl rfl rfl rfl rfl (rfl) (rfl) (v := .bool (((l.length : Int) == 0))) rfl ?_
  refine S_move rfl rfl rfl (v := (.bool (((l.length : Int) == 0)))) (rfl) ?_
  rcases Bool.eq_false_or_eq_true (((l.length : Int) == 0)) with pT | pF
  · skip
    rw [pT]
    have qT := eq_of_beq pT
    have h0 : l.length = 0 := by
      have := qT
      omega
    refine S_skip (d := 7) (op := .move _) (gd := some (3, false)) rfl (wg_off rfl (rfl) rfl) ?_
    refine S_skip (d := 8) (op := .move _) (gd := some (3, false)) rfl (wg_off rfl (rfl) rfl) ?_
    refine S_skip (d := 9) (op := .call _) (gd := some (3, false)) rfl (wg_off rfl (rfl) rfl) ?_
    refine S_skip (d := 10) (op := .binOp _ _ _ _ _) (gd := some (3, false)) rfl (wg_off rfl (rfl) rfl) ?_
    refine S_skip (d := 11) (op := .indexAddr _ _ _) (gd := some (3, false)) rfl (wg_off rfl (rfl) rfl) ?_
    refine S_skip (d := 12) (op := .load _ _) (gd := some (3, false)) rfl (wg_off rfl (rfl) rfl) ?_
    refine S_skip (d := 13) (op := .binOp _ _ _ _ _) (gd := some (3, false)) rfl (wg_off rfl (rfl) rfl) ?_
    refine S_pick rfl rfl rfl rfl rfl (b := true) (rfl) (v := (.bool true)) (rfl) ?_
    refine S_assign rfl rfl rfl (v := (.bool true)) (rfl) ?_
    refine OPS.nil ?_
    change WP _ _ _ _ _ _
    refine W_ret ?_
    change Fin' _ _ _ _ _ _
    refine End1 (n := ⟨15, []⟩) (t := 2) rfl (by decide) (v := (.bool true)) (rfl) ?_
    exact ⟨by rw [okL_len0 h0], rfl⟩
  · skip
    rw [pF]
    have qF := ne_of_beq_false pF
    have h0 : 0 < l.length := by
      have := qF
      omega
    refine S_move rfl rfl rfl (v := v) (rfl) ?_
    refine S_move rfl rfl rfl (v := v) (rfl) ?_
    refine S_len Tryz.underlying23 rfl rfl rfl (rfl) (m := l.length) (h.len) ?_
    refine S_sub64 rfl rfl rfl rfl (rfl) (rfl) (by omega) ?_
    obtain ⟨ad1, hp3, hc2⟩ := h.at (l.length - 1) (by omega)
    refine S_idx Tryz.underlying23 ti_uint32 rfl rfl rfl rfl (rfl) (rfl) hp3 (by omega) ?_
    refine S_load rfl rfl rfl (rfl) (LD.one ti_uint32 hc2) ?_
    refine S_bin rfl rfl rfl rfl rfl (rfl) (rfl) (v := .bool (((l.getD ((l.length - 1)) 0) != 0))) rfl ?_
    refine S_pick rfl rfl rfl rfl rfl (b := false) (rfl) (v := (.bool (((l.getD ((l.length - 1)) 0) != 0)))) (rfl) ?_
    refine S_assign rfl rfl rfl (v := (.bool (((l.getD ((l.length - 1)) 0) != 0)))) (rfl) ?_
    refine OPS.nil ?_
    change WP _ _ _ _ _ _
    refine W_ret ?_
    change Fin' _ _ _ _ _ _
    refine End1 (n := ⟨15, []⟩) (t := 2) rfl (by decide) (v := (.bool (((l.getD ((l.length - 1)) 0) != 0)))) (rfl) ?_
    exact ⟨by rw [okL_getD h0], rfl⟩

set_option maxHeartbeats 400000 in
theorem ref01Fit_c (w0 : World) (v : Value) (l : List Int) {a b : Nat} (h : RN a b w0 v l) :
    Ret Tryz.prog 171 [v] w0 (fun r w1 => r = (if okL l then v else .slice none 0 0) ∧ w0 = w1) := by
  refine Ret_of (n := 7) Tryz.func171 rfl rfl (Nat.le_of_ble_eq_true rfl) ?_
  refine W_seq ?_
  refine W_region rfl ?_
  refine S_assign rfl rfl rfl (v := (.slice none 0 0)) (rfl) ?_
  refine OPS.nil ?_
  change WP _ _ _ _ _ _
  refine W_seq ?_
  refine W_seq ?_
  refine W_region rfl ?_
  refine S_move rfl rfl rfl (v := v) (rfl) ?_
  refine S_call en_assayerref01_Check rfl rfl rfl (vs := [v]) (rfl) (ref01Check_c w0 v l h) ?_
  rintro _ _ ⟨rfl, rfl⟩
  refine S_not rfl rfl rfl (rfl) ?_
  refine OPS.nil ?_
  change WP _ _ _ _ _ _
  refine W_cond rfl (rfl) (fun hq5 => ?_) (fun hq5 => ?_)
  · skip
    have pT := hq5
    skip
    try rw [pT]
    refine W_seq ?_
    refine W_region rfl ?_
    refine S_assign rfl rfl rfl (v := (.slice none 0 0)) (rfl) ?_
    refine OPS.nil ?_
    change WP _ _ _ _ _ _
    refine W_ret ?_
    change Fin' _ _ _ _ _ _
    refine End1 (n := ⟨7, []⟩) (t := 2) rfl (by decide) (v := (.slice none 0 0)) (rfl) ?_
    have h9 : okL l = false := by simpa using pT
    exact ⟨by rw [h9]; rfl, rfl⟩
  · skip
    have pF := hq5
    skip
    try rw [pF]
    refine W_skip ?_
    change WP _ _ _ _ _ _
    refine W_seq ?_
    refine W_region rfl ?_
    refine S_move rfl rfl rfl (v := v) (rfl) ?_
    refine S_assign rfl rfl rfl (v := v) (rfl) ?_
    refine OPS.nil ?_
    change WP _ _ _ _ _ _
    refine W_ret ?_
    change Fin' _ _ _ _ _ _
    refine End1 (n := ⟨7, []⟩) (t := 2) rfl (by decide) (v := v) (rfl) ?_
    have h9 : okL l = true := by simpa using pF
    exact ⟨by rw [h9]; rfl, rfl⟩

set_option maxHeartbeats 400000 in
theorem ref01Twin_0 (w0 : World) (A : Option Addr) (l : List Int) (c : Nat) {a b : Nat} (h : RN a b w0 (.slice A l.length c) l) (hs : l.length ≤ SZ) (h0 : l.length = 0) :
    Ret Tryz.prog 100 [(.slice A l.length c)] w0 (fun r w1 => Below w0.heap.size w0 w1 ∧ ON w0.heap.size w1 r l) := by
  have E := Below.refl w0.heap.size w0
  unfold SZ at hs
  refine Ret_of (n := 7) Tryz.func100 rfl rfl (Nat.le_of_ble_eq_true rfl) ?_
  refine W_seq ?_
  refine W_region rfl ?_
  refine S_assign rfl rfl rfl (v := (.slice none 0 0)) (rfl) ?_
  refine OPS.nil ?_
  change WP _ _ _ _ _ _
  refine W_seq ?_
  refine W_region rfl ?_
  refine S_assign rfl rfl rfl (v := (.slice none 0 0)) (rfl) ?_
  refine OPS.nil ?_
  change WP _ _ _ _ _ _
  refine W_seq ?_
  refine W_region rfl ?_
  refine S_move rfl rfl rfl (v := (.slice none 0 0)) (rfl) ?_
  refine S_move rfl rfl rfl (v := (.slice A l.length c)) (rfl) ?_
  refine S_append0 Tryz.underlying23 ti_uint32 rfl rfl rfl rfl (A := none) (m := 0) (c := 0) (A' := A) (c' := c) rfl (congrArg (fun m => Value.slice A m c) h0) (Nat.le_refl _) ?_
  refine S_assign rfl rfl rfl (v := (.slice none 0 0)) (rfl) ?_
  refine OPS.nil ?_
  change WP _ _ _ _ _ _
  refine W_ret ?_
  change Fin' _ _ _ _ _ _
  refine End1 (n := ⟨7, []⟩) (t := 2) rfl (by decide) (v := (.slice none 0 0)) (rfl) ?_
  exact ⟨E, by rw [List.eq_nil_of_length_eq_zero h0]; exact ON.nil _ _⟩

set_option maxHeartbeats 400000 in
theorem ref01Twin_1 (w0 : World) (A : Option Addr) (l : List Int) (c : Nat) {a b : Nat} (h : RN a b w0 (.slice A l.length c) l) (hs : l.length ≤ SZ) (h0 : 0 < l.length) :
    Ret Tryz.prog 100 [(.slice A l.length c)] w0 (fun r w1 => Below w0.heap.size w0 w1 ∧ ON w0.heap.size w1 r l) := by
  have E := Below.refl w0.heap.size w0
  unfold SZ at hs
  refine Ret_of (n := 7) Tryz.func100 rfl rfl (Nat.le_of_ble_eq_true rfl) ?_
  refine W_seq ?_
  refine W_region rfl ?_
  refine S_assign rfl rfl rfl (v := (.slice none 0 0)) (rfl) ?_
  refine OPS.nil ?_
  change WP _ _ _ _ _ _
  refine W_seq ?_
  refine W_region rfl ?_
  refine S_assign rfl rfl rfl (v := (.slice none 0 0)) (rfl) ?_
  refine OPS.nil ?_
  change WP _ _ _ _ _ _
  refine W_seq ?_
  refine W_region rfl ?_
  refine S_move rfl rfl rfl (v := (.slice none 0 0)) (rfl) ?_
  refine S_move rfl rfl rfl (v := (.slice A l.length c)) (rfl) ?_
  obtain ⟨a0, rfl⟩ : ∃ a0, A = some a0 := by
    obtain ⟨hu, A', c', hv, h1, h2, h3⟩ := h
    obtain ⟨ad, hA, _⟩ := h3 0 h0
    simp only [Value.slice.injEq] at hv
    exact ⟨ad, hv.1.trans hA⟩
  refine S_appendR Tryz.underlying23 ti_uint32 rfl rfl rfl rfl rfl (v := .slice none 0 0) rfl rfl (Row.nil w0.heap.size 106 1 w0) h0 (news := nums .u32 l) (by rw [nums_len]; omega) (RN.srcs h) (one_nums _ _) (by omega) (by omega) (Nat.le_refl _) ?_
  intro v2 w1 hr hg hb _
  have E := Below.grownE E hg (Nat.le_refl _) (fun g h => by cases h)
  rw [Nat.zero_add, List.nil_append] at hr
  refine S_assign rfl rfl rfl (v := v2) (rfl) ?_
  refine OPS.nil ?_
  change WP _ _ _ _ _ _
  refine W_ret ?_
  change Fin' _ _ _ _ _ _
  refine End1 (n := ⟨7, []⟩) (t := 2) rfl (by decide) (v := v2) (rfl) ?_
  exact ⟨E, Row.on hr h.u32⟩


theorem ref01Twin_c (w0 : World) (v : Value) (l : List Int) {a b : Nat} (h : RN a b w0 v l) (hs : l.length ≤ SZ) : Ret Tryz.prog 100 [v] w0 (fun r w1 => Below w0.heap.size w0 w1 ∧ ON w0.heap.size w1 r l) := by
  obtain ⟨A, c, hv, hc, hm⟩ := h.form
  subst hv
  rcases Nat.eq_zero_or_pos l.length with h0 | h0
  · exact ref01Twin_0 w0 A l c h hs h0
  · exact ref01Twin_1 w0 A l c h hs h0

set_option maxHeartbeats 400000 in
theorem ref01Cmp_c (w0 : World) (va vb : Value) (la lb : List Int) {a b a' b' : Nat} (ha : RN a b w0 va la) (hb : RN a' b' w0 vb lb) :
    Ret Tryz.prog 97 [va, vb] w0 (fun r w1 => Below w0.heap.size w0 w1 ∧ r = .int .i64 (cmpN (nv la) (nv lb))) := by
  have E := Below.refl w0.heap.size w0
  have hfa := ha.fine
  have hfb := hb.fine
  have hma := hfa.maxl
  have hmb := hfb.maxl
  rw [show nv la = val (fineL la) from rfl, show nv lb = val (fineL lb) from rfl]
  refine Ret_of (n := 45) Tryz.func97 rfl rfl (Nat.le_of_ble_eq_true rfl) ?_
  refine W_seq ?_
  refine W_region rfl ?_
  refine S_assign rfl rfl rfl (v := (.int .i64 0)) (rfl) ?_
  refine OPS.nil ?_
  change WP _ _ _ _ _ _
  refine W_seq ?_
  refine W_region rfl ?_
  refine S_move rfl rfl rfl (v := va) (rfl) ?_
  refine S_call en_assayerref01_fit rfl rfl rfl (vs := [va]) (rfl) (ref01Fit_c w0 va la ha) ?_
  rintro _ _ ⟨rfl, rfl⟩
  refine S_assign rfl rfl rfl (v := (if okL la then va else .slice none 0 0)) (rfl) ?_
  refine OPS.nil ?_
  change WP _ _ _ _ _ _
  refine W_seq ?_
  refine W_region rfl ?_
  refine S_move rfl rfl rfl (v := vb) (rfl) ?_
  refine S_call en_assayerref01_fit rfl rfl rfl (vs := [vb]) (rfl) (ref01Fit_c w0 vb lb hb) ?_
  rintro _ _ ⟨rfl, rfl⟩
  refine S_assign rfl rfl rfl (v := (if okL lb then vb else .slice none 0 0)) (rfl) ?_
  refine OPS.nil ?_
  change WP _ _ _ _ _ _
  refine W_seq ?_
  refine W_seq ?_
  refine W_region rfl ?_
  refine S_move rfl rfl rfl (v := (if okL la then va else .slice none 0 0)) (rfl) ?_
  refine S_len Tryz.underlying23 rfl rfl rfl (rfl) (m := (fineL la).length) (hfa.len) ?_
  refine S_move rfl rfl rfl (v := (if okL lb then vb else .slice none 0 0)) (rfl) ?_
  refine S_len Tryz.underlying23 rfl rfl rfl (rfl) (m := (fineL lb).length) (hfb.len) ?_
  refine S_bin rfl rfl rfl rfl rfl (rfl) (rfl) (v := .bool (decide (((fineL la).length : Int) < ((fineL lb).length : Int)))) rfl ?_
  refine OPS.nil ?_
  change WP _ _ _ _ _ _
  refine W_cond rfl (rfl) (fun hq14 => ?_) (fun hq14 => ?_)
  · skip
    have pT := hq14
    replace hq14 := of_decide_eq_true hq14
    have qT := hq14
    try rw [pT]
    refine W_seq ?_
    refine W_region rfl ?_
    refine S_assign rfl rfl rfl (v := (.int .i64 (-1))) (rfl) ?_
    refine OPS.nil ?_
    change WP _ _ _ _ _ _
    refine W_ret ?_
    change Fin' _ _ _ _ _ _
    refine End1 (n := ⟨45, []⟩) (t := 4) rfl (by decide) (v := (.int .i64 (-1))) (rfl) ?_
    exact ⟨E, by rw [cmpN_lt]; exact val_lt_len hfa.u32 hfb.u32 (okL_fine lb) (by omega)⟩
  · skip
    have pF := hq14
    replace hq14 := of_decide_eq_false hq14
    have qF := hq14
    try rw [pF]
    refine W_skip ?_
    change WP _ _ _ _ _ _
    refine W_seq ?_
    refine W_seq ?_
    refine W_region rfl ?_
    refine S_move rfl rfl rfl (v := (if okL la then va else .slice none 0 0)) (rfl) ?_
    refine S_len Tryz.underlying23 rfl rfl rfl (rfl) (m := (fineL la).length) (hfa.len) ?_
    refine S_move rfl rfl rfl (v := (if okL lb then vb else .slice none 0 0)) (rfl) ?_
    refine S_len Tryz.underlying23 rfl rfl rfl (rfl) (m := (fineL lb).length) (hfb.len) ?_
    refine S_bin rfl rfl rfl rfl rfl (rfl) (rfl) (v := .bool (decide (((fineL la).length : Int) > ((fineL lb).length : Int)))) rfl ?_
    refine OPS.nil ?_
    change WP _ _ _ _ _ _
    refine W_cond rfl (rfl) (fun hq19 => ?_) (fun hq19 => ?_)
    · skip
      have pFT := hq19
      replace hq19 := of_decide_eq_true hq19
      have qFT := hq19
      try rw [pFT]
      refine W_seq ?_
      refine W_region rfl ?_
      refine S_assign rfl rfl rfl (v := (.int .i64 1)) (rfl) ?_
      refine OPS.nil ?_
      change WP _ _ _ _ _ _
      refine W_ret ?_
      change Fin' _ _ _ _ _ _
      refine End1 (n := ⟨45, []⟩) (t := 4) rfl (by decide) (v := (.int .i64 1)) (rfl) ?_
      exact ⟨E, by rw [cmpN_gt]; exact val_lt_len hfb.u32 hfa.u32 (okL_fine la) (by omega)⟩
    · skip
      have pFF := hq19
      replace hq19 := of_decide_eq_false hq19
      have qFF := hq19
      try rw [pFF]
      refine W_skip ?_
      change WP _ _ _ _ _ _
      refine W_seq ?_
      refine W_seq ?_
      refine W_region rfl ?_
      refine S_move rfl rfl rfl (v := (if okL la then va else .slice none 0 0)) (rfl) ?_
      refine S_len Tryz.underlying23 rfl rfl rfl (rfl) (m := (fineL la).length) (hfa.len) ?_
      refine S_sub64 rfl rfl rfl rfl (rfl) (rfl) (by omega) ?_
      refine S_assign rfl rfl rfl (v := (.int .i64 (((fineL la).length : Int) - 1))) (rfl) ?_
      refine OPS.nil ?_
      change WP _ _ _ _ _ _
      refine W_block ?_
      refine W_loop (fun k σ w => σ 0 = (if okL la then va else .slice none 0 0) ∧ σ 1 = (if okL lb then vb else .slice none 0 0) ∧ σ 5 = .int .i64 ((k : Int) - 1) ∧ k ≤ (fineL la).length ∧ val ((fineL la).drop k) = val ((fineL lb).drop k) ∧ Below w0.heap.size w0 w) ((fineL la).length) ⟨rfl, rfl, rfl, Nat.le_refl _, by rw [List.drop_of_length_le (Nat.le_refl _), List.drop_of_length_le (by omega)], E⟩ ?_
      rintro k σ w ⟨s0, s1, s5, hk, hval, E⟩
      have hll : (fineL la).length = (fineL lb).length := by omega
      have hua := hfa.u32.getD (k - 1)
      have hub := hfb.u32.getD (k - 1)
      refine W_seq ?_
      refine W_seq ?_
      refine W_region rfl ?_
      refine S_move rfl rfl rfl (v := (.int .i64 ((k : Int) - 1))) (s5) ?_
      refine S_bin rfl rfl rfl rfl rfl (rfl) (rfl) (v := .bool (decide (((k : Int) - 1) ≥ 0))) rfl ?_
      refine OPS.nil ?_
      change WP _ _ _ _ _ _
      refine W_cond rfl (rfl) (fun hq24 => ?_) (fun hq24 => ?_)
      · skip
        have pT := hq24
        replace hq24 := of_decide_eq_true hq24
        have qT := hq24
        try rw [pT]
        refine W_skip ?_
        change WP _ _ _ _ _ _
        refine W_seq ?_
        refine W_block ?_
        refine W_seq ?_
        refine W_seq ?_
        refine D_begin mixed_ rfl rfl (fun w_ => Below w0.heap.size w0 w_) ?_
        intro w1 hB1 hz_1
        have hz1 := hB1.size
        have E := Below.step E hB1
        have hS_ : Below w0.heap.size w0 w1 := E
        have E_S := E
        refine D_move (i := 0) (by kernel_rfl) (by kernel_rfl) (by kernel_rfl) (listed2 := #[true, false, false, false, false, false, false, false, false]) (by kernel_rfl) rfl rfl rfl (v := (if okL la then va else .slice none 0 0)) (s0) hS_ ?_
        refine D_move (i := 1) (by kernel_rfl) (by kernel_rfl) (by kernel_rfl) (listed2 := #[true, true, false, false, false, false, false, false, false]) (by kernel_rfl) rfl rfl rfl (v := (.int .i64 ((k : Int) - 1))) (s5) hS_ ?_
        obtain ⟨ad1, hp3, hc2⟩ := hfa.at (k - 1) (by omega)
        refine D_idx Tryz.underlying23 ti_uint32 (i := 2) (by kernel_rfl) (by kernel_rfl) (by kernel_rfl) (listed2 := #[true, true, true, false, false, false, false, false, false]) (by kernel_rfl) rfl rfl rfl rfl (rfl) (rfl) hp3 (by omega) hS_ ?_
        refine D_load (i := 3) (by kernel_rfl) (by kernel_rfl) (by kernel_rfl) (listed2 := #[true, true, true, true, false, false, false, false, false]) (by kernel_rfl) rfl rfl rfl (rfl) (fun _ hS2 => LD.one ti_uint32 (cell_below hS2 hc2)) hS_ ?_
        refine D_move (i := 4) (by kernel_rfl) (by kernel_rfl) (by kernel_rfl) (listed2 := #[true, true, true, true, true, false, false, false, false]) (by kernel_rfl) rfl rfl rfl (v := (if okL lb then vb else .slice none 0 0)) (s1) hS_ ?_
        refine D_move (i := 5) (by kernel_rfl) (by kernel_rfl) (by kernel_rfl) (listed2 := #[true, true, true, true, true, true, false, false, false]) (by kernel_rfl) rfl rfl rfl (v := (.int .i64 ((k : Int) - 1))) (s5) hS_ ?_
        obtain ⟨ad4, hp6, hc5⟩ := hfb.at (k - 1) (by omega)
        refine D_idx Tryz.underlying23 ti_uint32 (i := 6) (by kernel_rfl) (by kernel_rfl) (by kernel_rfl) (listed2 := #[true, true, true, true, true, true, true, false, false]) (by kernel_rfl) rfl rfl rfl rfl (rfl) (rfl) hp6 (by omega) hS_ ?_
        refine D_load (i := 7) (by kernel_rfl) (by kernel_rfl) (by kernel_rfl) (listed2 := #[true, true, true, true, true, true, true, true, false]) (by kernel_rfl) rfl rfl rfl (rfl) (fun _ hS2 => LD.one ti_uint32 (cell_below hS2 hc5)) hS_ ?_
        refine D_bin (i := 8) (by kernel_rfl) (by kernel_rfl) (by kernel_rfl) (listed2 := #[true, true, true, true, true, true, true, true, true]) (by kernel_rfl) rfl rfl rfl rfl rfl (rfl) (rfl) (v := .bool (decide (((fineL la).getD ((k - 1)) 0) < ((fineL lb).getD ((k - 1)) 0)))) rfl hS_ ?_
        refine D_done (by kernel_rfl) ?_
        change WP _ _ _ _ _ _
        refine W_cond rfl (rfl) (fun hq35 => ?_) (fun hq35 => ?_)
        · skip
          have pTT := hq35
          replace hq35 := of_decide_eq_true hq35
          have qTT := hq35
          try rw [pTT]
          refine W_seq ?_
          refine W_region rfl ?_
          refine S_assign rfl rfl rfl (v := (.int .i64 (-1))) (rfl) ?_
          refine OPS.nil ?_
          change WP _ _ _ _ _ _
          refine W_ret ?_
          change Fin' _ _ _ _ _ _
          refine End1 (n := ⟨45, []⟩) (t := 4) rfl (by decide) (v := (.int .i64 (-1))) (rfl) ?_
          exact ⟨E, by rw [cmpN_lt]; exact cmp_lt hfa.u32 (k - 1) (by rw [show k - 1 + 1 = k by omega]; exact hval) (by omega)⟩
        · skip
          have pTF := hq35
          replace hq35 := of_decide_eq_false hq35
          have qTF := hq35
          try rw [pTF]
          refine W_skip ?_
          change WP _ _ _ _ _ _
          refine W_seq ?_
          refine D_begin mixed_ rfl rfl (fun w_ => Below w0.heap.size w0 w_) ?_
          intro w2 hB2 hz_2
          have hz2 := hB2.size
          have E := Below.step E hB2
          have hS_ : Below w0.heap.size w0 w2 := E
          have E_S := E
          refine D_move (i := 0) (by kernel_rfl) (by kernel_rfl) (by kernel_rfl) (listed2 := #[true, false, false, false, false, false, false, false, false]) (by kernel_rfl) rfl rfl rfl (v := (if okL la then va else .slice none 0 0)) (s0) hS_ ?_
          refine D_move (i := 1) (by kernel_rfl) (by kernel_rfl) (by kernel_rfl) (listed2 := #[true, true, false, false, false, false, false, false, false]) (by kernel_rfl) rfl rfl rfl (v := (.int .i64 ((k : Int) - 1))) (s5) hS_ ?_
          obtain ⟨ad7, hp9, hc8⟩ := hfa.at (k - 1) (by omega)
          refine D_idx Tryz.underlying23 ti_uint32 (i := 2) (by kernel_rfl) (by kernel_rfl) (by kernel_rfl) (listed2 := #[true, true, true, false, false, false, false, false, false]) (by kernel_rfl) rfl rfl rfl rfl (rfl) (rfl) hp9 (by omega) hS_ ?_
          refine D_load (i := 3) (by kernel_rfl) (by kernel_rfl) (by kernel_rfl) (listed2 := #[true, true, true, true, false, false, false, false, false]) (by kernel_rfl) rfl rfl rfl (rfl) (fun _ hS2 => LD.one ti_uint32 (cell_below hS2 hc8)) hS_ ?_
          refine D_move (i := 4) (by kernel_rfl) (by kernel_rfl) (by kernel_rfl) (listed2 := #[true, true, true, true, true, false, false, false, false]) (by kernel_rfl) rfl rfl rfl (v := (if okL lb then vb else .slice none 0 0)) (s1) hS_ ?_
          refine D_move (i := 5) (by kernel_rfl) (by kernel_rfl) (by kernel_rfl) (listed2 := #[true, true, true, true, true, true, false, false, false]) (by kernel_rfl) rfl rfl rfl (v := (.int .i64 ((k : Int) - 1))) (s5) hS_ ?_
          obtain ⟨ad10, hp12, hc11⟩ := hfb.at (k - 1) (by omega)
          refine D_idx Tryz.underlying23 ti_uint32 (i := 6) (by kernel_rfl) (by kernel_rfl) (by kernel_rfl) (listed2 := #[true, true, true, true, true, true, true, false, false]) (by kernel_rfl) rfl rfl rfl rfl (rfl) (rfl) hp12 (by omega) hS_ ?_
          refine D_load (i := 7) (by kernel_rfl) (by kernel_rfl) (by kernel_rfl) (listed2 := #[true, true, true, true, true, true, true, true, false]) (by kernel_rfl) rfl rfl rfl (rfl) (fun _ hS2 => LD.one ti_uint32 (cell_below hS2 hc11)) hS_ ?_
          refine D_bin (i := 8) (by kernel_rfl) (by kernel_rfl) (by kernel_rfl) (listed2 := #[true, true, true, true, true, true, true, true, true]) (by kernel_rfl) rfl rfl rfl rfl rfl (rfl) (rfl) (v := .bool (decide (((fineL la).getD ((k - 1)) 0) > ((fineL lb).getD ((k - 1)) 0)))) rfl hS_ ?_
          refine D_done (by kernel_rfl) ?_
          change WP _ _ _ _ _ _
          refine W_cond rfl (rfl) (fun hq44 => ?_) (fun hq44 => ?_)
          · skip
            have pTFT := hq44
            replace hq44 := of_decide_eq_true hq44
            have qTFT := hq44
            try rw [pTFT]
            refine W_seq ?_
            refine W_region rfl ?_
            refine S_assign rfl rfl rfl (v := (.int .i64 1)) (rfl) ?_
            refine OPS.nil ?_
            change WP _ _ _ _ _ _
            refine W_ret ?_
            change Fin' _ _ _ _ _ _
            refine End1 (n := ⟨45, []⟩) (t := 4) rfl (by decide) (v := (.int .i64 1)) (rfl) ?_
            exact ⟨E, by rw [cmpN_gt]; exact cmp_lt hfb.u32 (k - 1) (by rw [show k - 1 + 1 = k by omega]; exact hval.symm) (by omega)⟩
          · skip
            have pTFF := hq44
            replace hq44 := of_decide_eq_false hq44
            have qTFF := hq44
            try rw [pTFF]
            refine W_skip ?_
            change WP _ _ _ _ _ _
            refine W_region rfl ?_
            refine S_move rfl rfl rfl (v := (.int .i64 ((k : Int) - 1))) (s5) ?_
            refine S_sub64 rfl rfl rfl rfl (rfl) (rfl) (by omega) ?_
            refine S_assign rfl rfl rfl (v := (.int .i64 (((k : Int) - 1) - 1))) (rfl) ?_
            refine OPS.nil ?_
            exact ⟨k - 1, by omega, s0, s1, int_eq (by omega), by omega, drop_eq_step (k - 1) (by rw [show k - 1 + 1 = k by omega]; exact hval) (by omega), E⟩
      · skip
        have pF := hq24
        replace hq24 := of_decide_eq_false hq24
        have qF := hq24
        try rw [pF]
        refine W_exit ?_
        change WP _ _ _ _ _ _
        refine W_seq ?_
        refine W_region rfl ?_
        refine S_assign rfl rfl rfl (v := (.int .i64 0)) (rfl) ?_
        refine OPS.nil ?_
        change WP _ _ _ _ _ _
        refine W_ret ?_
        change Fin' _ _ _ _ _ _
        refine End1 (n := ⟨45, []⟩) (t := 4) rfl (by decide) (v := (.int .i64 0)) (rfl) ?_
        have hk0 : k = 0 := by omega
        subst hk0
        exact ⟨E, by rw [cmpN_eq]; exact hval⟩


theorem wrap_neg {x : Int} (h : -18446744073709551616 ≤ x) (h2 : x < 0) : IntKind.u64.wrap x = x + 18446744073709551616 := by
  rw [wrap_u64']; omega
theorem shr63 {x : Int} : x.fdiv (2 ^ (min (63 : Int).toNat IntKind.u64.bits)) = x / 9223372036854775808 := by
  rw [Int.fdiv_eq_ediv_of_nonneg _ (by decide)]; rfl


/-- A row of parts of the call's own, as it is written. -/
def OW (B g c : Nat) (w : World) (v : Value) (xs : List Int) : Prop := v = .slice (some ⟨g, 0, none⟩) xs.length c ∧ B ≤ g ∧ xs.length ≤ c ∧ c ≤ 9223372036854775807 ∧ ∃ rest, Blk w g (nums .u32 xs ++ rest) 106 ∧ c ≤ (nums .u32 xs ++ rest).length
theorem OW.below {B g c : Nat} {w w' : World} {v : Value} {xs : List Int} (h : OW B g c w v xs) (hb : Below w.heap.size w w') : OW B g c w' v xs := by
  obtain ⟨h1, h2, h3, h4, r, h5, h6⟩ := h
  exact ⟨h1, h2, h3, h4, r, h5.below hb, h6⟩
theorem ON.ow {B : Nat} {w : World} {v : Value} {xs : List Int} (h : ON B w v xs) (h0 : 0 < xs.length) : ∃ g c, OW B g c w v xs := by
  obtain ⟨⟨hu, A, c, hv, h1, h2, h3⟩, ho⟩ := h
  rcases ho with ⟨A', rfl⟩ | ⟨g, m, c', cs, rfl, g2, g3, g4, g5, g6⟩
  · simp only [Value.slice.injEq] at hv; omega
  · cases hv
    refine ⟨g, c, rfl, g2, h1, h2, cs.drop xs.length, ?_, ?_⟩
    · have : nums .u32 xs ++ cs.drop xs.length = cs := by
        have e : nums .u32 xs = cs.take xs.length := by
          apply List.ext_getElem?
          intro i
          by_cases hi : i < xs.length
          · obtain ⟨ad, hA, _, hc⟩ := h3 i hi
            cases hA
            rw [add_plain, g3.cell] at hc
            rw [List.getElem?_take_of_lt (by omega), nums_get _ _ _ hi, ← hc, Nat.zero_add]
          · rw [List.getElem?_eq_none (by rw [nums_len]; omega), List.getElem?_eq_none (by simp; omega)]
        rw [e, List.take_append_drop]
      rw [this]; exact g3
    · have : (nums .u32 xs ++ cs.drop xs.length).length = cs.length := by
        rw [List.length_append, nums_len, List.length_drop]; omega
      rw [this]; omega
theorem OW.upd {B g c k : Nat} {w w' : World} {v : Value} {xs : List Int} (h : OW B g c w v xs) (hu : Upd k w w') (hg : g ≠ k) : OW B g c w' v xs := by
  obtain ⟨h1, h2, h3, h4, r, h5, h6⟩ := h
  exact ⟨h1, h2, h3, h4, r, h5.upd hu hg, h6⟩
theorem OW.cell {B g c j : Nat} {w : World} {v : Value} {xs : List Int} (h : OW B g c w v xs) (hj : j < xs.length) : w.cell? ⟨g, j, none⟩ = some (.int .u32 (xs.getD j 0)) := by
  obtain ⟨rfl, h2, h3, h4, r, h5, h6⟩ := h
  rw [h5.cell, List.getElem?_append_left (by rw [nums_len]; exact hj), nums_get _ _ _ hj]
theorem OW.on {B g c : Nat} {w : World} {v : Value} {xs : List Int} (h : OW B g c w v xs) (hu : U32 xs) : ON B w v xs := by
  obtain ⟨rfl, h2, h3, h4, r, h5, h6⟩ := h
  refine ON.mk h5 hu h2 rfl h3 h6 h4 (fun j hj => ?_)
  rw [List.getElem?_append_left (by rw [nums_len]; exact hj), nums_get _ _ _ hj]
theorem OW.at {B g c : Nat} {w : World} {v : Value} {xs : List Int} (h : OW B g c w v xs) (j : Nat) (hj : j < xs.length) : ∃ ad, SlAt v xs.length 1 j ad ∧ w.cell? ad = some (.int .u32 (xs.getD j 0)) := by
  obtain ⟨rfl, h2, h3, h4, r, h5, h6⟩ := h
  refine ⟨⟨g, j, none⟩, SlAt.own1 hj, ?_⟩
  rw [h5.cell, List.getElem?_append_left (by rw [nums_len]; exact hj), nums_get _ _ _ hj]
section
variable {P : Program} {n : NF} {ops : Array Oper} {K : (Nat → Value) → World → Prop} {σ : Nat → Value} {w : World} {i : Nat} {rest : List Nat}
variable {d : Nat} {t : TypeId} {p : String} {af : Array Edge} {gd : Option (Nat × Bool)} {x y : Operand}
theorem S_storeOW {by_ : Nat} {z : Value} (hT : TI P 106 1 by_ z false)
    (ho : ops[i]? = some { dst := none, op := .store 106 x y, type := t, pos := p, after := af, guard := gd }) (hw : wg n ops σ gd = true) (hx : tok n x = true) (hy : tok n y = true)
    {g o B c : Nat} {ov : Value} (ha : sv σ x = .pointer (some ⟨g, o, none⟩)) {a : Int} (hv : sv σ y = .int .u32 a) {l : List Int} (hb : OW B g c w ov l) (hfit : o < l.length)
    (h : ∀ w1, Upd g w w1 → OW B g c w1 ov (l.set o a) → OPS P n ops K rest σ w1) : OPS P n ops K (i :: rest) σ w := by
  obtain ⟨rfl, h2, h3, h4, r, h5, h6⟩ := hb
  refine S_store hT ho hw hx hy ha hv (vs := [.int .u32 a]) rfl rfl (by simp [Value.oneCell']) h5 (by rw [List.length_append, nums_len]; simp; omega) rfl ?_
  intro w1 k1 k2
  refine h w1 k1 ⟨by simp, h2, by simpa using h3, h4, r, ?_, by rw [List.length_append, nums_len] at h6 ⊢; simpa using h6⟩
  have e : putAt (nums .u32 l ++ r) o [.int .u32 a] = nums .u32 (l.set o a) ++ r := by
    rw [← nums_set]
    have hl : o < (nums .u32 l).length := by rw [nums_len]; exact hfit
    simp only [putAt, List.length_singleton]
    rw [List.take_append_of_le_length (by omega), List.drop_append_of_le_length (by omega), List.set_eq_take_append_cons_drop, if_pos hl]
    simp
  rwa [e] at k2
end

set_option maxHeartbeats 400000 in
theorem ref01Less_0 (w0 : World) (va vb : Value) (la lb : List Int) {a b a2 b2 : Nat} (ha : RN a b w0 va la) (hb : RN a2 b2 w0 vb lb) (h0 : la.length = 0) :
    Ret Tryz.prog 207 [va, vb] w0 (fun r w1 => Below w0.heap.size w0 w1 ∧ ON w0.heap.size w1 r (dg 0)) := by
  have E := Below.refl w0.heap.size w0
  refine Ret_of (n := 44) Tryz.func207 rfl rfl (Nat.le_of_ble_eq_true rfl) ?_
  refine W_seq ?_
  refine W_region rfl ?_
  refine S_assign rfl rfl rfl (v := (.slice none 0 0)) (rfl) ?_
  refine OPS.nil ?_
  change WP _ _ _ _ _ _
  refine W_seq ?_
  refine W_region rfl ?_
  refine S_move rfl rfl rfl (v := va) (rfl) ?_
  refine S_call en_assayerref01_Twin rfl rfl rfl (vs := [va]) (rfl) (ref01Twin_c _ _ la ha (by rw [h0]; decide)) ?_
  rintro vh1 w1 ⟨hB1, h1⟩
  have hz1 := hB1.size
  have E := Below.step E hB1
  refine S_assign rfl rfl rfl (v := vh1) (rfl) ?_
  refine OPS.nil ?_
  change WP _ _ _ _ _ _
  refine W_seq ?_
  refine W_region rfl ?_
  refine S_assign rfl rfl rfl (v := (.int .u64 0)) (rfl) ?_
  refine OPS.nil ?_
  change WP _ _ _ _ _ _
  refine W_seq ?_
  refine W_seq ?_
  refine W_region rfl ?_
  refine S_assign rfl rfl rfl (v := (.int .i64 0)) (rfl) ?_
  refine OPS.nil ?_
  change WP _ _ _ _ _ _
  refine W_block ?_
  refine W_loop (fun k σ w => ∃ v, σ 5 = v ∧ σ 7 = .int .i64 0 ∧ ON w0.heap.size w v la ∧ Below w0.heap.size w0 w) (0) ⟨_, rfl, rfl, h1, E⟩ ?_
  rintro k σ w ⟨v, s5, s7, h1, E⟩
  refine W_seq ?_
  refine W_seq ?_
  refine W_region rfl ?_
  refine S_move rfl rfl rfl (v := (.int .i64 0)) (s7) ?_
  refine S_move rfl rfl rfl (v := v) (s5) ?_
  refine S_len Tryz.underlying23 rfl rfl rfl (rfl) (m := la.length) (h1.r.len) ?_
  refine S_bin rfl rfl rfl rfl rfl (rfl) (rfl) (v := .bool false) (by simp [binV, h0]) ?_
  refine OPS.nil ?_
  change WP _ _ _ _ _ _
  refine W_cond rfl (b := false) (rfl) (fun h => (by cases h)) (fun _ => ?_)
  refine W_exit ?_
  change WP _ _ _ _ _ _
  refine W_seq ?_
  refine W_region rfl ?_
  refine S_move rfl rfl rfl (v := v) (s5) ?_
  refine S_call en_assayerref01_trim rfl rfl rfl (vs := [v]) (rfl) (ref01Trim_c _ _ la h1.r) ?_
  rintro r _ ⟨⟨A, c', k', hv, hr, hk', ht⟩, rfl⟩
  refine S_assign rfl rfl rfl (v := r) (rfl) ?_
  refine OPS.nil ?_
  change WP _ _ _ _ _ _
  refine W_ret ?_
  change Fin' _ _ _ _ _ _
  refine End1 (n := ⟨44, []⟩) (t := 4) rfl (by decide) (v := r) (rfl) ?_
  subst hv
  subst hr
  have := h1.prefix_ hk'
  rw [ht, List.eq_nil_of_length_eq_zero h0, val_nil] at this
  exact ⟨E, this⟩

set_option maxHeartbeats 400000 in
theorem ref01Less_1 (w0 : World) (va vb : Value) (la lb : List Int) {a b a2 b2 : Nat} (ha : RN a b w0 va la) (hb : RN a2 b2 w0 vb lb) (hsa : la.length ≤ SZ) (hlb : lb.length ≤ la.length) (hle : val lb ≤ val la) (h0 : 0 < la.length) :
    Ret Tryz.prog 207 [va, vb] w0 (fun r w1 => Below w0.heap.size w0 w1 ∧ ON w0.heap.size w1 r (dg (val la - val lb))) := by
  have E := Below.refl w0.heap.size w0
  unfold SZ at hsa
  obtain ⟨m, hmm⟩ : ∃ m, m = la.length := ⟨_, rfl⟩
  refine Ret_of (n := 44) Tryz.func207 rfl rfl (Nat.le_of_ble_eq_true rfl) ?_
  refine W_seq ?_
  refine W_region rfl ?_
  refine S_assign rfl rfl rfl (v := (.slice none 0 0)) (rfl) ?_
  refine OPS.nil ?_
  change WP _ _ _ _ _ _
  refine W_seq ?_
  refine W_region rfl ?_
  refine S_move rfl rfl rfl (v := va) (rfl) ?_
  refine S_call en_assayerref01_Twin rfl rfl rfl (vs := [va]) (rfl) (ref01Twin_c _ _ la ha hsa) ?_
  rintro vh1 w1 ⟨hB1, h1⟩
  have hz1 := hB1.size
  have E := Below.step E hB1
  obtain ⟨g, cc, RW⟩ := h1.ow h0
  have hgE := RW.2.1
  refine S_assign rfl rfl rfl (v := vh1) (rfl) ?_
  refine OPS.nil ?_
  change WP _ _ _ _ _ _
  refine W_seq ?_
  refine W_region rfl ?_
  refine S_assign rfl rfl rfl (v := (.int .u64 0)) (rfl) ?_
  refine OPS.nil ?_
  change WP _ _ _ _ _ _
  refine W_seq ?_
  refine W_seq ?_
  refine W_region rfl ?_
  refine S_assign rfl rfl rfl (v := (.int .i64 0)) (rfl) ?_
  refine OPS.nil ?_
  change WP _ _ _ _ _ _
  refine W_block ?_
  refine W_loop (fun k σ w => ∃ (i : Nat) (c : Int) (xs : List Int), σ 0 = va ∧ σ 1 = vb ∧ σ 5 = .slice (some ⟨g, 0, none⟩) m cc ∧ σ 6 = .int .u64 c ∧ σ 7 = .int .i64 (i : Int) ∧ i + k = m ∧ xs.length = m ∧ U32 xs ∧ (0 ≤ c ∧ c ≤ 1) ∧
      val (xs.take i) + val (lb.take i) = val (la.take i) + 4294967296 ^ i * c.toNat ∧ (∀ j, i ≤ j → xs.getD j 0 = la.getD j 0) ∧ OW w0.heap.size g cc w (.slice (some ⟨g, 0, none⟩) m cc) xs ∧ Below w0.heap.size w0 w) (m) ⟨0, 0, la, rfl, rfl, by rw [hmm]; exact RW.1, rfl, rfl, by omega, by omega, ha.u32, ⟨by decide, by decide⟩, by simp [val], fun _ _ => rfl, by rw [hmm, ← RW.1]; exact RW, E⟩ ?_
  rintro k σ w ⟨i, c, xs, s0, s1, s5, s6, s7, hik, hxl, hxu, hc, hval, hold, RW, E⟩
  have hua := ha.u32.getD i
  have hub := hb.u32.getD i
  refine W_seq ?_
  refine W_seq ?_
  refine W_region rfl ?_
  refine S_move rfl rfl rfl (v := (.int .i64 (i : Int))) (s7) ?_
  refine S_move rfl rfl rfl (v := (.slice (some ⟨g, 0, none⟩) m cc)) (s5) ?_
  refine S_len Tryz.underlying23 rfl rfl rfl (rfl) (m := m) (⟨_, _, rfl⟩) ?_
  refine S_bin rfl rfl rfl rfl rfl (rfl) (rfl) (v := .bool (decide ((i : Int) < (m : Int)))) rfl ?_
  refine OPS.nil ?_
  change WP _ _ _ _ _ _
  refine W_cond rfl (rfl) (fun hq14 => ?_) (fun hq14 => ?_)
  · skip
    have pT := hq14
    replace hq14 := of_decide_eq_true hq14
    have qT := hq14
    try rw [pT]
    refine W_skip ?_
    change WP _ _ _ _ _ _
    refine W_seq ?_
    refine W_block ?_
    refine W_seq ?_
    refine W_region rfl ?_
    refine S_move rfl rfl rfl (v := (.slice (some ⟨g, 0, none⟩) m cc)) (s5) ?_
    refine S_move rfl rfl rfl (v := (.int .i64 (i : Int))) (s7) ?_
    refine S_idx Tryz.underlying23 ti_uint32 rfl rfl rfl rfl (rfl) (rfl) (j := i) (ad := ⟨g, i, none⟩) (SlAt.own1 (by omega)) (by omega) ?_
    refine S_load rfl rfl rfl (rfl) (LD.one ti_uint32 (RW.cell (by omega))) ?_
    have hxi := hold i (Nat.le_refl _)
    refine S_conv Tryz.underlying106 Tryz.underlying124 rfl rfl rfl (rfl) (b := (la.getD i 0)) ((wrap_u64 (by omega) (by omega)).trans hxi) ?_
    refine S_move rfl rfl rfl (v := (.int .u64 c)) (s6) ?_
    refine S_bin rfl rfl rfl rfl rfl (rfl) (rfl) (v := .int .u64 (((la.getD i 0) - c) % 18446744073709551616)) (congrArg (Value.int .u64) (wrap_u64' _)) ?_
    refine S_assign rfl rfl rfl (v := (.int .u64 (((la.getD i 0) - c) % 18446744073709551616))) (rfl) ?_
    refine OPS.nil ?_
    change WP _ _ _ _ _ _
    refine W_seq ?_
    refine W_seq ?_
    refine W_region rfl ?_
    refine S_move rfl rfl rfl (v := (.int .i64 (i : Int))) (s7) ?_
    refine S_move rfl rfl rfl (v := vb) (s1) ?_
    refine S_len Tryz.underlying23 rfl rfl rfl (rfl) (m := lb.length) (hb.len) ?_
    refine S_bin rfl rfl rfl rfl rfl (rfl) (rfl) (v := .bool (decide ((i : Int) < (lb.length : Int)))) rfl ?_
    refine OPS.nil ?_
    change WP _ _ _ _ _ _
    refine W_cond rfl (rfl) (fun hq27 => ?_) (fun hq27 => ?_)
    · skip
      have pTT := hq27
      replace hq27 := of_decide_eq_true hq27
      have qTT := hq27
      try rw [pTT]
      refine W_region rfl ?_
      refine S_move rfl rfl rfl (v := (.int .u64 (((la.getD i 0) - c) % 18446744073709551616))) (rfl) ?_
      refine S_move rfl rfl rfl (v := vb) (s1) ?_
      refine S_move rfl rfl rfl (v := (.int .i64 (i : Int))) (s7) ?_
      obtain ⟨ad4, hp6, hc5⟩ := (hb.below E).at i (by omega)
      refine S_idx Tryz.underlying23 ti_uint32 rfl rfl rfl rfl (rfl) (rfl) hp6 (by omega) ?_
      refine S_load rfl rfl rfl (rfl) (LD.one ti_uint32 hc5) ?_
      refine S_conv Tryz.underlying106 Tryz.underlying124 rfl rfl rfl (rfl) (b := (lb.getD i 0)) (wrap_u64 hub.1 (by omega)) ?_
      refine S_bin rfl rfl rfl rfl rfl (rfl) (rfl) (v := .int .u64 (((la.getD i 0) - c - (lb.getD i 0)) % 18446744073709551616)) (congrArg (Value.int .u64) ((wrap_u64' _).trans (by omega))) ?_
      refine S_assign rfl rfl rfl (v := (.int .u64 (((la.getD i 0) - c - (lb.getD i 0)) % 18446744073709551616))) (rfl) ?_
      refine OPS.nil ?_
      change WP _ _ _ _ _ _
      refine W_seq ?_
      refine W_region rfl ?_
      refine S_move rfl rfl rfl (v := (.slice (some ⟨g, 0, none⟩) m cc)) (s5) ?_
      refine S_move rfl rfl rfl (v := (.int .i64 (i : Int))) (s7) ?_
      refine S_move rfl rfl rfl (v := (.int .u64 (((la.getD i 0) - c - (lb.getD i 0)) % 18446744073709551616))) (rfl) ?_
      refine S_conv Tryz.underlying124 Tryz.underlying106 rfl rfl rfl (rfl) (b := ((((la.getD i 0) - c - (lb.getD i 0)) % 18446744073709551616) % 4294967296)) (wrap_u32' _) ?_
      refine S_idx Tryz.underlying23 ti_uint32 rfl rfl rfl rfl (rfl) (rfl) (j := i) (ad := ⟨g, i, none⟩) (SlAt.own1 (by omega)) (by omega) ?_
      refine S_storeOW ti_uint32 rfl rfl rfl rfl (g := g) (o := i) (rfl) (a := ((((la.getD i 0) - c - (lb.getD i 0)) % 18446744073709551616) % 4294967296)) (rfl) RW (by omega) ?_
      intro w2 hU2 RW
      have E := Below.stepU E hU2 (by omega)
      have hz2 := hU2.size
      refine OPS.nil ?_
      change WP _ _ _ _ _ _
      refine W_region rfl ?_
      refine S_move rfl rfl rfl (v := (.int .u64 (((la.getD i 0) - c - (lb.getD i 0)) % 18446744073709551616))) (rfl) ?_
      refine S_shr rfl rfl rfl rfl (rfl) (rfl) (by omega) (v := ((((la.getD i 0) - c - (lb.getD i 0)) % 18446744073709551616) / 9223372036854775808)) (shr63) ?_
      refine S_assign rfl rfl rfl (v := (.int .u64 ((((la.getD i 0) - c - (lb.getD i 0)) % 18446744073709551616) / 9223372036854775808))) (rfl) ?_
      refine OPS.nil ?_
      change WP _ _ _ _ _ _
      refine W_region rfl ?_
      refine S_move rfl rfl rfl (v := (.int .i64 (i : Int))) (s7) ?_
      refine S_add64 rfl rfl rfl rfl (rfl) (rfl) (by omega) ?_
      refine S_assign rfl rfl rfl (v := (.int .i64 ((i : Int) + 1))) (rfl) ?_
      refine OPS.nil ?_
      have e1 : (((la.getD i 0) - c - (lb.getD i 0)) % 18446744073709551616) % 4294967296 = ((la.getD i 0) - (lb.getD i 0) - c) % 4294967296 := by omega
      have e2 : (((la.getD i 0) - c - (lb.getD i 0)) % 18446744073709551616) / 9223372036854775808 = if (la.getD i 0) < (lb.getD i 0) + c then 1 else 0 := by split <;> omega
      exact ⟨k - 1, by omega, i + 1, _, _, s0, s1, s5, int_eq e2, int_eq (by omega), by omega, by simpa using hxl, hxu.set _ (by omega) (by omega), ⟨by split <;> decide, by split <;> decide⟩, by rw [e1]; exact sub_round (by omega) hua hub hc rfl rfl hval, fun j hj => by rw [getD_set_ne' _ _ _ _ (by omega)]; exact hold j (by omega), RW, E⟩
    · skip
      have pTF := hq27
      replace hq27 := of_decide_eq_false hq27
      have qTF := hq27
      try rw [pTF]
      refine W_skip ?_
      change WP _ _ _ _ _ _
      refine W_seq ?_
      refine W_region rfl ?_
      refine S_move rfl rfl rfl (v := (.slice (some ⟨g, 0, none⟩) m cc)) (s5) ?_
      refine S_move rfl rfl rfl (v := (.int .i64 (i : Int))) (s7) ?_
      refine S_move rfl rfl rfl (v := (.int .u64 (((la.getD i 0) - c) % 18446744073709551616))) (rfl) ?_
      refine S_conv Tryz.underlying124 Tryz.underlying106 rfl rfl rfl (rfl) (b := ((((la.getD i 0) - c) % 18446744073709551616) % 4294967296)) (wrap_u32' _) ?_
      refine S_idx Tryz.underlying23 ti_uint32 rfl rfl rfl rfl (rfl) (rfl) (j := i) (ad := ⟨g, i, none⟩) (SlAt.own1 (by omega)) (by omega) ?_
      refine S_storeOW ti_uint32 rfl rfl rfl rfl (g := g) (o := i) (rfl) (a := ((((la.getD i 0) - c) % 18446744073709551616) % 4294967296)) (rfl) RW (by omega) ?_
      intro w3 hU3 RW
      have E := Below.stepU E hU3 (by omega)
      have hz3 := hU3.size
      refine OPS.nil ?_
      change WP _ _ _ _ _ _
      refine W_region rfl ?_
      refine S_move rfl rfl rfl (v := (.int .u64 (((la.getD i 0) - c) % 18446744073709551616))) (rfl) ?_
      refine S_shr rfl rfl rfl rfl (rfl) (rfl) (by omega) (v := ((((la.getD i 0) - c) % 18446744073709551616) / 9223372036854775808)) (shr63) ?_
      refine S_assign rfl rfl rfl (v := (.int .u64 ((((la.getD i 0) - c) % 18446744073709551616) / 9223372036854775808))) (rfl) ?_
      refine OPS.nil ?_
      change WP _ _ _ _ _ _
      refine W_region rfl ?_
      refine S_move rfl rfl rfl (v := (.int .i64 (i : Int))) (s7) ?_
      refine S_add64 rfl rfl rfl rfl (rfl) (rfl) (by omega) ?_
      refine S_assign rfl rfl rfl (v := (.int .i64 ((i : Int) + 1))) (rfl) ?_
      refine OPS.nil ?_
      have hy0 : lb.getD i 0 = 0 := by rw [List.getD_eq_getElem?_getD, List.getElem?_eq_none (by omega)]; rfl
      have e1 : (((la.getD i 0) - c) % 18446744073709551616) % 4294967296 = ((la.getD i 0) - (lb.getD i 0) - c) % 4294967296 := by omega
      have e2 : (((la.getD i 0) - c) % 18446744073709551616) / 9223372036854775808 = if (la.getD i 0) < (lb.getD i 0) + c then 1 else 0 := by split <;> omega
      exact ⟨k - 1, by omega, i + 1, _, _, s0, s1, s5, int_eq e2, int_eq (by omega), by omega, by simpa using hxl, hxu.set _ (by omega) (by omega), ⟨by split <;> decide, by split <;> decide⟩, by rw [e1]; exact sub_round (by omega) hua hub hc rfl rfl hval, fun j hj => by rw [getD_set_ne' _ _ _ _ (by omega)]; exact hold j (by omega), RW, E⟩
  · skip
    have pF := hq14
    replace hq14 := of_decide_eq_false hq14
    have qF := hq14
    try rw [pF]
    refine W_exit ?_
    change WP _ _ _ _ _ _
    refine W_seq ?_
    refine W_region rfl ?_
    refine S_move rfl rfl rfl (v := (.slice (some ⟨g, 0, none⟩) m cc)) (s5) ?_
    refine S_call en_assayerref01_trim rfl rfl rfl (vs := [(.slice (some ⟨g, 0, none⟩) m cc)]) (rfl) (ref01Trim_c _ _ xs (RW.on hxu).r) ?_
    rintro r _ ⟨⟨A, c', k', hv, hr, hk', ht⟩, rfl⟩
    refine S_assign rfl rfl rfl (v := r) (rfl) ?_
    refine OPS.nil ?_
    change WP _ _ _ _ _ _
    refine W_ret ?_
    change Fin' _ _ _ _ _ _
    refine End1 (n := ⟨44, []⟩) (t := 4) rfl (by decide) (v := r) (rfl) ?_
    have hi : i = m := by omega
    subst hi
    have he := sub_end hxl hmm hlb hxu hle hc.1 hval
    have h9 := RW.on hxu
    rw [hv] at h9
    subst hr
    have := h9.prefix_ hk'
    rw [ht, he] at this
    exact ⟨E, this⟩


theorem ref01Less_c (w0 : World) (va vb : Value) (la lb : List Int) {a b a2 b2 : Nat} (ha : RN a b w0 va la) (hb : RN a2 b2 w0 vb lb) (hsa : la.length ≤ SZ) (hlb : lb.length ≤ la.length) (hle : val lb ≤ val la) :
    Ret Tryz.prog 207 [va, vb] w0 (fun r w1 => Below w0.heap.size w0 w1 ∧ ON w0.heap.size w1 r (dg (val la - val lb))) := by
  rcases Nat.eq_zero_or_pos la.length with h0 | h0
  · have e : val la = 0 := by rw [List.eq_nil_of_length_eq_zero h0, val_nil]
    rw [show val la - val lb = 0 by omega]
    exact ref01Less_0 w0 va vb la lb ha hb h0
  · exact ref01Less_1 w0 va vb la lb ha hb hsa hlb hle h0

set_option maxHeartbeats 400000 in
theorem ref01Sub_c (w0 : World) (va vb : Value) (la lb : List Int) {a b a' b' : Nat} (ha : RN a b w0 va la) (hb : RN a' b' w0 vb lb) (hsa : la.length ≤ SZ) :
    Ret Tryz.prog 98 [va, vb] w0 (fun r w1 => Below w0.heap.size w0 w1 ∧ ∃ v, r = .tuple #[v, .int .i64 (if subOk la lb then 0 else 1)] ∧ ON w0.heap.size w1 v (if subOk la lb then dg (val la - val lb) else [])) := by
  have E := Below.refl w0.heap.size w0
  refine Ret_of (n := 23) Tryz.func98 rfl rfl (Nat.le_of_ble_eq_true rfl) ?_
  refine W_seq ?_
  refine W_region rfl ?_
  refine S_assign rfl rfl rfl (v := (.slice none 0 0)) (rfl) ?_
  refine S_assign rfl rfl rfl (v := (.int .i64 0)) (rfl) ?_
  refine OPS.nil ?_
  change WP _ _ _ _ _ _
  refine W_seq ?_
  refine W_seq ?_
  refine W_region rfl ?_
  refine S_move rfl rfl rfl (v := va) (rfl) ?_
  refine S_call en_assayerref01_Check rfl rfl rfl (vs := [va]) (rfl) (ref01Check_c _ _ la ha) ?_
  rintro _ _ ⟨rfl, rfl⟩
  refine S_not rfl rfl rfl (rfl) ?_
  refine S_move rfl rfl rfl (v := (.bool (!(okL la)))) (rfl) ?_
  rcases Bool.eq_false_or_eq_true (!(okL la)) with pT | pF
  · skip
    rw [pT]
    refine S_skip (d := 10) (op := .move _) (gd := some (3, false)) rfl (wg_off rfl (rfl) rfl) ?_
    refine S_skip (d := 11) (op := .call _) (gd := some (3, false)) rfl (wg_off rfl (rfl) rfl) ?_
    refine S_skip (d := 12) (op := .unOp _ _ _) (gd := some (3, false)) rfl (wg_off rfl (rfl) rfl) ?_
    refine S_pick rfl rfl rfl rfl rfl (b := true) (rfl) (v := (.bool true)) (rfl) ?_
    refine S_move rfl rfl rfl (v := (.bool true)) (rfl) ?_
    refine S_skip (d := 15) (op := .move _) (gd := some (8, false)) rfl (wg_off rfl (rfl) rfl) ?_
    refine S_skip (d := 16) (op := .move _) (gd := some (8, false)) rfl (wg_off rfl (rfl) rfl) ?_
    refine S_skip (d := 17) (op := .call _) (gd := some (8, false)) rfl (wg_off rfl (rfl) rfl) ?_
    refine S_skip (d := 18) (op := .binOp _ _ _ _ _) (gd := some (8, false)) rfl (wg_off rfl (rfl) rfl) ?_
    refine S_pick rfl rfl rfl rfl rfl (b := true) (rfl) (v := (.bool true)) (rfl) ?_
    refine OPS.nil ?_
    change WP _ _ _ _ _ _
    refine W_cond rfl (b := true) (rfl) (fun _ => ?_) (fun h => (by cases h))
    refine W_seq ?_
    refine W_region rfl ?_
    refine S_assign rfl rfl rfl (v := (.slice none 0 0)) (rfl) ?_
    refine S_assign rfl rfl rfl (v := (.int .i64 1)) (rfl) ?_
    refine OPS.nil ?_
    change WP _ _ _ _ _ _
    refine W_ret ?_
    change Fin' _ _ _ _ _ _
    refine End2 (n := ⟨23, []⟩) (t := 4) (u := 5) rfl (by decide) (by decide) (rfl) (rfl) ?_
    have hs : subOk la lb = false := by simp_all [subOk]
    exact ⟨E, _, by rw [hs]; rfl, by rw [hs]; exact ON.nil _ _⟩
  · skip
    rw [pF]
    refine S_move rfl rfl rfl (v := vb) (rfl) ?_
    refine S_call en_assayerref01_Check rfl rfl rfl (vs := [vb]) (rfl) (ref01Check_c _ _ lb hb) ?_
    rintro _ _ ⟨rfl, rfl⟩
    refine S_not rfl rfl rfl (rfl) ?_
    refine S_pick rfl rfl rfl rfl rfl (b := false) (rfl) (v := (.bool (!(okL lb)))) (rfl) ?_
    refine S_move rfl rfl rfl (v := (.bool (!(okL lb)))) (rfl) ?_
    rcases Bool.eq_false_or_eq_true (!(okL lb)) with pFT | pFF
    · skip
      rw [pFT]
      refine S_skip (d := 15) (op := .move _) (gd := some (8, false)) rfl (wg_off rfl (rfl) rfl) ?_
      refine S_skip (d := 16) (op := .move _) (gd := some (8, false)) rfl (wg_off rfl (rfl) rfl) ?_
      refine S_skip (d := 17) (op := .call _) (gd := some (8, false)) rfl (wg_off rfl (rfl) rfl) ?_
      refine S_skip (d := 18) (op := .binOp _ _ _ _ _) (gd := some (8, false)) rfl (wg_off rfl (rfl) rfl) ?_
      refine S_pick rfl rfl rfl rfl rfl (b := true) (rfl) (v := (.bool true)) (rfl) ?_
      refine OPS.nil ?_
      change WP _ _ _ _ _ _
      refine W_cond rfl (b := true) (rfl) (fun _ => ?_) (fun h => (by cases h))
      refine W_seq ?_
      refine W_region rfl ?_
      refine S_assign rfl rfl rfl (v := (.slice none 0 0)) (rfl) ?_
      refine S_assign rfl rfl rfl (v := (.int .i64 1)) (rfl) ?_
      refine OPS.nil ?_
      change WP _ _ _ _ _ _
      refine W_ret ?_
      change Fin' _ _ _ _ _ _
      refine End2 (n := ⟨23, []⟩) (t := 4) (u := 5) rfl (by decide) (by decide) (rfl) (rfl) ?_
      have hs : subOk la lb = false := by simp_all [subOk]
      exact ⟨E, _, by rw [hs]; rfl, by rw [hs]; exact ON.nil _ _⟩
    · skip
      rw [pFF]
      refine S_move rfl rfl rfl (v := va) (rfl) ?_
      refine S_move rfl rfl rfl (v := vb) (rfl) ?_
      refine S_call en_assayerref01_Cmp rfl rfl rfl (vs := [va, vb]) (rfl) (ref01Cmp_c _ _ _ la lb ha hb) ?_
      rintro _ w1 ⟨hB1, rfl⟩
      have hz1 := hB1.size
      have E := Below.step E hB1
      refine S_bin rfl rfl rfl rfl rfl (rfl) (rfl) (v := .bool (decide ((cmpN (nv la) (nv lb)) < 0))) rfl ?_
      refine S_pick rfl rfl rfl rfl rfl (b := false) (rfl) (v := (.bool (decide ((cmpN (nv la) (nv lb)) < 0)))) (rfl) ?_
      refine OPS.nil ?_
      change WP _ _ _ _ _ _
      refine W_cond rfl (rfl) (fun hq19 => ?_) (fun hq19 => ?_)
      · skip
        have pFFT := hq19
        replace hq19 := of_decide_eq_true hq19
        have qFFT := hq19
        try rw [pFFT]
        refine W_seq ?_
        refine W_region rfl ?_
        refine S_assign rfl rfl rfl (v := (.slice none 0 0)) (rfl) ?_
        refine S_assign rfl rfl rfl (v := (.int .i64 1)) (rfl) ?_
        refine OPS.nil ?_
        change WP _ _ _ _ _ _
        refine W_ret ?_
        change Fin' _ _ _ _ _ _
        refine End2 (n := ⟨23, []⟩) (t := 4) (u := 5) rfl (by decide) (by decide) (rfl) (rfl) ?_
        have hs : subOk la lb = false := by have := cmpN_lt0.1 hq19; unfold subOk; rw [← nv_ok (l := la) (by simpa using pF), ← nv_ok (l := lb) (by simpa using pFF)]; simp; omega
        exact ⟨E, _, by rw [hs]; rfl, by rw [hs]; exact ON.nil _ _⟩
      · skip
        have pFFF := hq19
        replace hq19 := of_decide_eq_false hq19
        have qFFF := hq19
        have hka : okL la = true := by simpa using pF
        have hkb : okL lb = true := by simpa using pFF
        have hle : val lb ≤ val la := by
          rw [← nv_ok hka, ← nv_ok hkb]
          have := mt cmpN_lt0.2 hq19
          omega
        have hlen : lb.length ≤ la.length := by
          rcases Nat.lt_or_ge la.length lb.length with h | h
          · exact absurd (val_lt_len ha.u32 hb.u32 hkb h) (by omega)
          · exact h
        try rw [pFFF]
        refine W_skip ?_
        change WP _ _ _ _ _ _
        refine W_seq ?_
        refine W_region rfl ?_
        refine S_move rfl rfl rfl (v := va) (rfl) ?_
        refine S_move rfl rfl rfl (v := vb) (rfl) ?_
        refine S_call en_assayerref01_less rfl rfl rfl (vs := [va, vb]) (rfl) (ref01Less_c _ _ _ la lb (ha.below E) (hb.below E) hsa hlen hle) ?_
        rintro vh1 w2 ⟨hB2, h1⟩
        have hz2 := hB2.size
        have E := Below.step E hB2
        refine S_assign rfl rfl rfl (v := vh1) (rfl) ?_
        refine S_assign rfl rfl rfl (v := (.int .i64 0)) (rfl) ?_
        refine OPS.nil ?_
        change WP _ _ _ _ _ _
        refine W_ret ?_
        change Fin' _ _ _ _ _ _
        refine End2 (n := ⟨23, []⟩) (t := 4) (u := 5) rfl (by decide) (by decide) (rfl) (rfl) ?_
        have hs : subOk la lb = true := by unfold subOk; rw [hka, hkb]; simp; exact hle
        exact ⟨E, _, by rw [hs]; rfl, by rw [hs]; exact h1.mono (by omega)⟩

end Go.Proofs.YtccmicegihlfbaaGreatDoor
