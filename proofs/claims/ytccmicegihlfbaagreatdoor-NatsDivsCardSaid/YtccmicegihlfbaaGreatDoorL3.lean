/- Any two numbers from 0 on, divided: the law. -/
import Derived.Test.YtccmicegihlfbaaGreatDoorLaw
import Derived.Test.YtccmicegihlfbaaGreatDoorTy
import Derived.Test.YtccmicegihlfbaaGreatDoorS7
set_option linter.unusedVariables false
set_option linter.unusedSimpArgs false
namespace Go.Proofs.YtccmicegihlfbaaGreatDoor
open Go.RowKit


theorem if_len {p : Prop} [Decidable p] {l : List Int} {n : Nat} (h : l.length ≤ n) : (if p then l else []).length ≤ n := by
  split
  · exact h
  · exact Nat.zero_le _
theorem gcd_len (a b : Nat) : (dg (Nat.gcd a b)).length ≤ max (dg a).length (dg b).length := by
  rcases Nat.eq_zero_or_pos a with h | h
  · subst h
    rw [Nat.gcd_zero_left]
    exact Nat.le_max_right _ _
  · exact Nat.le_trans (dg_length_mono (Nat.gcd_le_left b h)) (Nat.le_max_left _ _)
theorem divs_len {la lb : List Int} (ha : U32 la) (hb : U32 lb) (hla : la.length ≤ 100) (hlb : lb.length ≤ 100) : (if divE la lb = 0 then dg (val la / val lb) else []).length ≤ 1000000000 ∧ (if divE la lb = 0 then dg (val la % val lb) else []).length ≤ 1000000000 ∧ (dg (Nat.gcd (nv la) (nv lb))).length ≤ 1000000000 := by
  have h1 : (dg (val la / val lb)).length ≤ la.length := dg_length_le (Nat.lt_of_le_of_lt (Nat.div_le_self _ _) (val_lt ha))
  have h2 : (dg (val la % val lb)).length ≤ la.length := dg_length_le (Nat.lt_of_le_of_lt (Nat.mod_le _ _) (val_lt ha))
  have h3 := gcd_len (nv la) (nv lb)
  have h4 := dg_length_nv ha
  have h5 := dg_length_nv hb
  exact ⟨Nat.le_trans (if_len h1) (by omega), Nat.le_trans (if_len h2) (by omega), by omega⟩

set_option maxHeartbeats 1000000 in
theorem natsDivs_c (w0 : World) (va vb : Value) (la lb : List Int) {a b a' b' : Nat} (ha : RN a b w0 va la) (hb : RN a' b' w0 vb lb) (hT : Tab w0) :
    Ret Tryz.prog 5 [va, vb] w0 (fun r w1 => Below w0.heap.size w0 w1 ∧ r = .bool true) := by
  have E := Below.refl w0.heap.size w0
  refine Ret_of (n := 91) Tryz.func5 rfl rfl (Nat.le_of_ble_eq_true rfl) ?_
  refine W_seq ?_
  refine W_region rfl ?_
  refine S_assign rfl rfl rfl (v := (.bool false)) (rfl) ?_
  refine OPS.nil ?_
  change WP _ _ _ _ _ _
  refine W_seq ?_
  refine W_seq ?_
  refine W_region rfl ?_
  refine S_move rfl rfl rfl (v := va) (rfl) ?_
  refine S_len Tryz.underlying23 rfl rfl rfl (rfl) (m := la.length) (ha.len) ?_
  refine S_bin rfl rfl rfl rfl rfl (rfl) (rfl) (v := .bool (decide ((la.length : Int) > 100))) rfl ?_
  refine S_move rfl rfl rfl (v := (.bool (decide ((la.length : Int) > 100)))) (rfl) ?_
  rcases Bool.eq_false_or_eq_true (decide ((la.length : Int) > 100)) with pT | pF
  · skip
    rw [pT]
    have qT := of_decide_eq_true pT
    refine S_skip (d := 19) (op := .move _) (gd := some (3, false)) rfl (wg_off rfl (rfl) rfl) ?_
    refine S_skip (d := 20) (op := .call _) (gd := some (3, false)) rfl (wg_off rfl (rfl) rfl) ?_
    refine S_skip (d := 21) (op := .binOp _ _ _ _ _) (gd := some (3, false)) rfl (wg_off rfl (rfl) rfl) ?_
    refine S_pick rfl rfl rfl rfl rfl (b := true) (rfl) (v := (.bool true)) (rfl) ?_
    refine OPS.nil ?_
    change WP _ _ _ _ _ _
    refine W_cond rfl (b := true) (rfl) (fun _ => ?_) (fun h => (by cases h))
    refine W_seq ?_
    refine W_region rfl ?_
    refine S_assign rfl rfl rfl (v := (.bool true)) (rfl) ?_
    refine OPS.nil ?_
    change WP _ _ _ _ _ _
    refine W_ret ?_
    change Fin' _ _ _ _ _ _
    refine End1 (n := ⟨91, []⟩) (t := 4) rfl (by decide) (v := (.bool true)) (rfl) ?_
    exact ⟨E, rfl⟩
  · skip
    rw [pF]
    have qF := of_decide_eq_false pF
    refine S_move rfl rfl rfl (v := vb) (rfl) ?_
    refine S_len Tryz.underlying23 rfl rfl rfl (rfl) (m := lb.length) (hb.len) ?_
    refine S_bin rfl rfl rfl rfl rfl (rfl) (rfl) (v := .bool (decide ((lb.length : Int) > 100))) rfl ?_
    refine S_pick rfl rfl rfl rfl rfl (b := false) (rfl) (v := (.bool (decide ((lb.length : Int) > 100)))) (rfl) ?_
    refine OPS.nil ?_
    change WP _ _ _ _ _ _
    refine W_cond rfl (rfl) (fun hq22 => ?_) (fun hq22 => ?_)
    · skip
      have pFT := hq22
      replace hq22 := of_decide_eq_true hq22
      have qFT := hq22
      try rw [pFT]
      refine W_seq ?_
      refine W_region rfl ?_
      refine S_assign rfl rfl rfl (v := (.bool true)) (rfl) ?_
      refine OPS.nil ?_
      change WP _ _ _ _ _ _
      refine W_ret ?_
      change Fin' _ _ _ _ _ _
      refine End1 (n := ⟨91, []⟩) (t := 4) rfl (by decide) (v := (.bool true)) (rfl) ?_
      exact ⟨E, rfl⟩
    · skip
      have pFF := hq22
      replace hq22 := of_decide_eq_false hq22
      have qFF := hq22
      have hla : la.length ≤ 100 := by have := qF; omega
      have hlb : lb.length ≤ 100 := by have := qFF; omega
      have hsa : la.length ≤ SZ := by unfold SZ; omega
      have hsb : lb.length ≤ SZ := by unfold SZ; omega
      have hsa2 : la.length < SZ := by unfold SZ; omega
      obtain ⟨hlq, hlr, hlg⟩ := divs_len ha.u32 hb.u32 hla hlb
      try rw [pFF]
      refine W_skip ?_
      change WP _ _ _ _ _ _
      refine W_seq ?_
      refine W_region rfl ?_
      refine S_move rfl rfl rfl (v := va) (rfl) ?_
      refine S_call en_assayerlaw01_TwinNat rfl rfl rfl (vs := [va]) (rfl) (twinNat_c _ va la (ha.below E) hsa) ?_
      rintro _ w1 ⟨hB1, At1, ct1, rfl, t1⟩
      have hz1 := hB1.size
      have E := Below.step E hB1
      have hk1 := t1.bk
      refine S_assign rfl rfl rfl (v := (.slice At1 (la).length ct1)) (rfl) ?_
      refine OPS.nil ?_
      change WP _ _ _ _ _ _
      refine W_seq ?_
      refine W_region rfl ?_
      refine S_move rfl rfl rfl (v := vb) (rfl) ?_
      refine S_call en_assayerlaw01_TwinNat rfl rfl rfl (vs := [vb]) (rfl) (twinNat_c _ vb lb (hb.below E) hsb) ?_
      rintro _ w2 ⟨hB2, At2, ct2, rfl, t2⟩
      have hz2 := hB2.size
      have E := Below.step E hB2
      have t1 := t1.below hB2
      have hk2 := t2.bk
      refine S_assign rfl rfl rfl (v := (.slice At2 (lb).length ct2)) (rfl) ?_
      refine OPS.nil ?_
      change WP _ _ _ _ _ _
      refine W_seq ?_
      refine W_region rfl ?_
      refine S_move rfl rfl rfl (v := (.slice At1 (la).length ct1)) (rfl) ?_
      refine S_move rfl rfl rfl (v := (.slice At2 (lb).length ct2)) (rfl) ?_
      refine S_call en_nats_Div rfl rfl rfl (vs := [(.slice At1 (la).length ct1), (.slice At2 (lb).length ct2)]) (rfl) (natsDiv_c _ _ _ la lb t1.r t2.r hsa2 hsb) ?_
      rintro _ w3 ⟨hB3, dq, dr, rfl, d1, d2, K, hK1, hK2⟩
      have hz3 := hB3.size
      have E := Below.step E hB3
      have t1 := t1.below hB3
      have t2 := t2.below hB3
      obtain ⟨K2, hKe⟩ : ∃ K2, K2 = min (max K w2.heap.size) w3.heap.size := ⟨_, rfl⟩
      have hk3 : ∀ g, bk dq = some g → w2.heap.size ≤ g ∧ g < K2 := fun g hg => ⟨(d1.bkB g hg).1, by have := hK1 g hg; have := (d1.bkB g hg).2; omega⟩
      have hk4 : ∀ g, bk dr = some g → K2 ≤ g ∧ g < w3.heap.size := fun g hg => ⟨by have := hK2 g hg; have := (d2.bkB g hg).1; omega, (d2.bkB g hg).2⟩
      refine S_move rfl rfl rfl (v := (.tuple #[dq, dr, .int .i64 (divE la lb)])) (rfl) ?_
      refine S_extract rfl rfl rfl (rfl) rfl ?_
      refine S_extract rfl rfl rfl (rfl) rfl ?_
      refine S_extract rfl rfl rfl (rfl) rfl ?_
      refine S_assign rfl rfl rfl (v := dq) (rfl) ?_
      refine S_assign rfl rfl rfl (v := dr) (rfl) ?_
      refine S_assign rfl rfl rfl (v := (.int .i64 (divE la lb))) (rfl) ?_
      refine OPS.nil ?_
      change WP _ _ _ _ _ _
      refine W_seq ?_
      refine W_region rfl ?_
      refine S_move rfl rfl rfl (v := (.slice At1 (la).length ct1)) (rfl) ?_
      refine S_move rfl rfl rfl (v := (.slice At2 (lb).length ct2)) (rfl) ?_
      refine S_call en_nats_Gcd rfl rfl rfl (vs := [(.slice At1 (la).length ct1), (.slice At2 (lb).length ct2)]) (rfl) (natsGcd_c _ _ _ la lb t1.r t2.r hsa hsb (hT.below E)) ?_
      rintro vg w4 ⟨hB4, g1⟩
      have hz4 := hB4.size
      have E := Below.step E hB4
      have t1 := t1.below hB4
      have t2 := t2.below hB4
      have d1 := d1.below hB4
      have d2 := d2.below hB4
      have hk5 := g1.bkB
      refine S_assign rfl rfl rfl (v := vg) (rfl) ?_
      refine OPS.nil ?_
      change WP _ _ _ _ _ _
      refine W_seq ?_
      refine W_region rfl ?_
      refine S_move rfl rfl rfl (v := va) (rfl) ?_
      refine S_move rfl rfl rfl (v := vb) (rfl) ?_
      refine S_call en_assayerref01_Div rfl rfl rfl (vs := [va, vb]) (rfl) (ref01Div_c _ va vb la lb (ha.below E) (hb.below E) hsa hsb) ?_
      rintro _ w5 ⟨hB5, eq, er, rfl, e1, e2⟩
      have hz5 := hB5.size
      have E := Below.step E hB5
      have t1 := t1.below hB5
      have t2 := t2.below hB5
      have d1 := d1.below hB5
      have d2 := d2.below hB5
      have g1 := g1.below hB5
      refine S_move rfl rfl rfl (v := (.tuple #[eq, er, .int .i64 (divE la lb)])) (rfl) ?_
      refine S_extract rfl rfl rfl (rfl) rfl ?_
      refine S_extract rfl rfl rfl (rfl) rfl ?_
      refine S_extract rfl rfl rfl (rfl) rfl ?_
      refine S_assign rfl rfl rfl (v := eq) (rfl) ?_
      refine S_assign rfl rfl rfl (v := er) (rfl) ?_
      refine S_assign rfl rfl rfl (v := (.int .i64 (divE la lb))) (rfl) ?_
      refine OPS.nil ?_
      change WP _ _ _ _ _ _
      refine W_seq ?_
      refine W_seq ?_
      refine W_region rfl ?_
      refine S_move rfl rfl rfl (v := dq) (rfl) ?_
      refine S_move rfl rfl rfl (v := eq) (rfl) ?_
      refine S_call en_assayerlaw01_SameNat rfl rfl rfl (vs := [dq, eq]) (rfl) (sameNat_c _ _ _ _ d1.r e1.r) ?_
      rintro _ w6 ⟨hB6, rfl⟩
      have hz6 := hB6.size
      have E := Below.step E hB6
      have t1 := t1.below hB6
      have t2 := t2.below hB6
      have d1 := d1.below hB6
      have d2 := d2.below hB6
      have g1 := g1.below hB6
      have e1 := e1.below hB6
      have e2 := e2.below hB6
      refine S_not rfl rfl rfl (rfl) ?_
      change OPS _ _ _ _ _ (upd _ _ (.bool false)) _
      refine S_move rfl rfl rfl (v := (.bool false)) (rfl) ?_
      refine S_move rfl rfl rfl (v := dr) (rfl) ?_
      refine S_move rfl rfl rfl (v := er) (rfl) ?_
      refine S_call en_assayerlaw01_SameNat rfl rfl rfl (vs := [dr, er]) (rfl) (sameNat_c _ _ _ _ d2.r e2.r) ?_
      rintro _ w7 ⟨hB7, rfl⟩
      have hz7 := hB7.size
      have E := Below.step E hB7
      have t1 := t1.below hB7
      have t2 := t2.below hB7
      have d1 := d1.below hB7
      have d2 := d2.below hB7
      have g1 := g1.below hB7
      have e1 := e1.below hB7
      have e2 := e2.below hB7
      refine S_not rfl rfl rfl (rfl) ?_
      change OPS _ _ _ _ _ (upd _ _ (.bool false)) _
      refine S_pick rfl rfl rfl rfl rfl (b := false) (rfl) (v := (.bool false)) (rfl) ?_
      refine S_move rfl rfl rfl (v := (.bool false)) (rfl) ?_
      refine S_move rfl rfl rfl (v := (.int .i64 (divE la lb))) (rfl) ?_
      refine S_move rfl rfl rfl (v := (.int .i64 (divE la lb))) (rfl) ?_
      refine S_bin rfl rfl rfl rfl rfl (rfl) (rfl) (v := .bool false) (by simp [binV]) ?_
      refine S_pick rfl rfl rfl rfl rfl (b := false) (rfl) (v := (.bool false)) (rfl) ?_
      refine S_move rfl rfl rfl (v := (.bool false)) (rfl) ?_
      refine S_move rfl rfl rfl (v := vg) (rfl) ?_
      refine S_move rfl rfl rfl (v := va) (rfl) ?_
      refine S_move rfl rfl rfl (v := vb) (rfl) ?_
      refine S_call en_assayerref01_Gcd rfl rfl rfl (vs := [va, vb]) (rfl) (ref01Gcd_c _ va vb la lb (ha.below E) (hb.below E) hsa hsb) ?_
      rintro ve3 w8 ⟨hB8, e3⟩
      have hz8 := hB8.size
      have E := Below.step E hB8
      have t1 := t1.below hB8
      have t2 := t2.below hB8
      have d1 := d1.below hB8
      have d2 := d2.below hB8
      have g1 := g1.below hB8
      have e1 := e1.below hB8
      have e2 := e2.below hB8
      refine S_call en_assayerlaw01_SameNat rfl rfl rfl (vs := [vg, ve3]) (rfl) (sameNat_c _ _ _ _ g1.r e3.r) ?_
      rintro _ w9 ⟨hB9, rfl⟩
      have hz9 := hB9.size
      have E := Below.step E hB9
      have t1 := t1.below hB9
      have t2 := t2.below hB9
      have d1 := d1.below hB9
      have d2 := d2.below hB9
      have g1 := g1.below hB9
      have e1 := e1.below hB9
      have e2 := e2.below hB9
      have e3 := e3.below hB9
      refine S_not rfl rfl rfl (rfl) ?_
      change OPS _ _ _ _ _ (upd _ _ (.bool false)) _
      refine S_pick rfl rfl rfl rfl rfl (b := false) (rfl) (v := (.bool false)) (rfl) ?_
      refine S_move rfl rfl rfl (v := (.bool false)) (rfl) ?_
      refine S_move rfl rfl rfl (v := (.slice At1 (la).length ct1)) (rfl) ?_
      refine S_move rfl rfl rfl (v := va) (rfl) ?_
      refine S_call en_assayerlaw01_LeftNat rfl rfl rfl (vs := [(.slice At1 (la).length ct1), va]) (rfl) (leftNat_c _ _ _ va la t1 (ha.below E)) ?_
      rintro _ w10 ⟨hB10, rfl⟩
      have hz10 := hB10.size
      have E := Below.step E hB10
      have t1 := t1.below hB10
      have t2 := t2.below hB10
      have d1 := d1.below hB10
      have d2 := d2.below hB10
      have g1 := g1.below hB10
      have e1 := e1.below hB10
      have e2 := e2.below hB10
      have e3 := e3.below hB10
      refine S_not rfl rfl rfl (rfl) ?_
      change OPS _ _ _ _ _ (upd _ _ (.bool false)) _
      refine S_pick rfl rfl rfl rfl rfl (b := false) (rfl) (v := (.bool false)) (rfl) ?_
      refine S_move rfl rfl rfl (v := (.bool false)) (rfl) ?_
      refine S_move rfl rfl rfl (v := (.slice At2 (lb).length ct2)) (rfl) ?_
      refine S_move rfl rfl rfl (v := vb) (rfl) ?_
      refine S_call en_assayerlaw01_LeftNat rfl rfl rfl (vs := [(.slice At2 (lb).length ct2), vb]) (rfl) (leftNat_c _ _ _ vb lb t2 (hb.below E)) ?_
      rintro _ w11 ⟨hB11, rfl⟩
      have hz11 := hB11.size
      have E := Below.step E hB11
      have t1 := t1.below hB11
      have t2 := t2.below hB11
      have d1 := d1.below hB11
      have d2 := d2.below hB11
      have g1 := g1.below hB11
      have e1 := e1.below hB11
      have e2 := e2.below hB11
      have e3 := e3.below hB11
      refine S_not rfl rfl rfl (rfl) ?_
      change OPS _ _ _ _ _ (upd _ _ (.bool false)) _
      refine S_pick rfl rfl rfl rfl rfl (b := false) (rfl) (v := (.bool false)) (rfl) ?_
      refine OPS.nil ?_
      change WP _ _ _ _ _ _
      refine W_cond rfl (b := false) (rfl) (fun h => (by cases h)) (fun _ => ?_)
      refine W_skip ?_
      change WP _ _ _ _ _ _
      refine W_seq ?_
      refine W_region rfl ?_
      refine S_build rfl rfl rfl (cs := [.int .i64 0, .slice none 0 0, .slice none 0 0, .slice none 0 0, .slice none 0 0, .slice none 0 0, .slice none 0 0, .slice none 0 0, .slice none 0 0, .slice none 0 0, .slice none 0 0, .slice none 0 0, .slice none 0 0]) (by kernel_rfl) ?_
      refine S_alloc ti_assayerlaw01_Book rfl rfl (cs := [.int .i64 0, .slice none 0 0, .slice none 0 0, .slice none 0 0, .slice none 0 0, .slice none 0 0, .slice none 0 0, .slice none 0 0, .slice none 0 0, .slice none 0 0, .slice none 0 0, .slice none 0 0, .slice none 0 0]) rfl ?_
      intro g12 w12 hg12 hs12 hB12 b12
      have hz12 := hB12.size
      have E := Below.step E hB12
      have t1 := t1.below hB12
      have t2 := t2.below hB12
      have d1 := d1.below hB12
      have d2 := d2.below hB12
      have g1 := g1.below hB12
      refine S_store ti_assayerlaw01_Book rfl rfl rfl rfl (g := g12) (o := 0) (rfl) (v := (.agg #[.int .i64 0, .slice none 0 0, .slice none 0 0, .slice none 0 0, .slice none 0 0, .slice none 0 0, .slice none 0 0, .slice none 0 0, .slice none 0 0, .slice none 0 0, .slice none 0 0, .slice none 0 0, .slice none 0 0])) (rfl) (vs := [.int .i64 0, .slice none 0 0, .slice none 0 0, .slice none 0 0, .slice none 0 0, .slice none 0 0, .slice none 0 0, .slice none 0 0, .slice none 0 0, .slice none 0 0, .slice none 0 0, .slice none 0 0, .slice none 0 0]) rfl rfl (by simp [Value.oneCell']) b12 (by simp) (cs' := [.int .i64 0, .slice none 0 0, .slice none 0 0, .slice none 0 0, .slice none 0 0, .slice none 0 0, .slice none 0 0, .slice none 0 0, .slice none 0 0, .slice none 0 0, .slice none 0 0, .slice none 0 0, .slice none 0 0]) rfl ?_
      intro w13 hU13 b12
      have E := Below.stepU E hU13 (by omega)
      have t1 := t1.updN hU13 (fun g hg => by have := hk1 g hg; omega)
      have t2 := t2.updN hU13 (fun g hg => by have := hk2 g hg; omega)
      have d1 := d1.updN hU13 (fun g hg => by have := hk3 g hg; omega)
      have d2 := d2.updN hU13 (fun g hg => by have := hk4 g hg; omega)
      have g1 := g1.updN hU13 (fun g hg => by have := hk5 g hg; omega)
      have hz13 := hU13.size
      have HW := (((((OWF.nil w0.heap.size w13 g12).cons (o := ovN vg (dg (Nat.gcd (nv la) (nv lb)))) (ON.ov (ON.mono (g1) (by omega))) hk5 (by omega) (by omega)).cons (o := ovN dr (if divE la lb = 0 then dg (val la % val lb) else [])) (ON.ov (ON.mono (d2) (by omega))) hk4 (by omega) (by omega)).cons (o := ovN dq (if divE la lb = 0 then dg (val la / val lb) else [])) (ON.ov (ON.mono (d1) (by omega))) hk3 (by omega) (by omega)).cons (o := ovN (.slice At2 lb.length ct2) lb) (ON.ov (ON.mono (t2.on) (by omega))) hk2 (by omega) (by omega)).cons (o := ovN (.slice At1 la.length ct1) la) (ON.ov (ON.mono (t1.on) (by omega))) hk1 (by omega) (by omega)
      have hkb : ∀ o ∈ [(ovN (.slice At1 la.length ct1) la), (ovN (.slice At2 lb.length ct2) lb), (ovN dq (if divE la lb = 0 then dg (val la / val lb) else [])), (ovN dr (if divE la lb = 0 then dg (val la % val lb) else [])), (ovN vg (dg (Nat.gcd (nv la) (nv lb))))], bk o.v ≠ some g12 := fun o ho e => by
        simp only [List.mem_cons, List.not_mem_nil, or_false] at ho
        rcases ho with rfl | rfl | rfl | rfl | rfl
        · have := hk1 _ e; omega
        · have := hk2 _ e; omega
        · have := hk3 _ e; omega
        · have := hk4 _ e; omega
        · have := hk5 _ e; omega
      have HB : BK w0.heap.size g12 w13 0 [(ovN (.slice At1 la.length ct1) la), (ovN (.slice At2 lb.length ct2) lb), (ovN dq (if divE la lb = 0 then dg (val la / val lb) else [])), (ovN dr (if divE la lb = 0 then dg (val la % val lb) else [])), (ovN vg (dg (Nat.gcd (nv la) (nv lb))))] := BK.start b12 HW.1 hkb (by omega)
      refine OPS.nil ?_
      change WP _ _ _ _ _ _
      refine W_seq ?_
      refine W_region rfl ?_
      refine S_move rfl rfl rfl (v := (.slice At1 (la).length ct1)) (rfl) ?_
      refine S_call en_passayerlaw01_Book_Nat rfl rfl rfl (vs := [(.pointer (some ⟨g12, 0, none⟩)), (.slice At1 (la).length ct1)]) (rfl) (bookNat_c _ _ 0 _ _ _ HB (by omega) (by omega)) ?_
      rintro _ w14 ⟨hT, HB⟩
      have E := E.trans hT
      refine OPS.nil ?_
      change WP _ _ _ _ _ _
      refine W_seq ?_
      refine W_region rfl ?_
      refine S_move rfl rfl rfl (v := (.slice At2 (lb).length ct2)) (rfl) ?_
      refine S_call en_passayerlaw01_Book_Nat rfl rfl rfl (vs := [(.pointer (some ⟨g12, 0, none⟩)), (.slice At2 (lb).length ct2)]) (rfl) (bookNat_c _ _ 1 _ _ _ HB (by omega) (by omega)) ?_
      rintro _ w15 ⟨hT, HB⟩
      have E := E.trans hT
      refine OPS.nil ?_
      change WP _ _ _ _ _ _
      refine W_seq ?_
      refine W_region rfl ?_
      refine S_move rfl rfl rfl (v := dq) (rfl) ?_
      refine S_call en_passayerlaw01_Book_Nat rfl rfl rfl (vs := [(.pointer (some ⟨g12, 0, none⟩)), dq]) (rfl) (bookNat_c _ _ 2 _ _ _ HB (by omega) (hlq)) ?_
      rintro _ w16 ⟨hT, HB⟩
      have E := E.trans hT
      refine OPS.nil ?_
      change WP _ _ _ _ _ _
      refine W_seq ?_
      refine W_region rfl ?_
      refine S_move rfl rfl rfl (v := dr) (rfl) ?_
      refine S_call en_passayerlaw01_Book_Nat rfl rfl rfl (vs := [(.pointer (some ⟨g12, 0, none⟩)), dr]) (rfl) (bookNat_c _ _ 3 _ _ _ HB (by omega) (hlr)) ?_
      rintro _ w17 ⟨hT, HB⟩
      have E := E.trans hT
      refine OPS.nil ?_
      change WP _ _ _ _ _ _
      refine W_seq ?_
      refine W_region rfl ?_
      refine S_move rfl rfl rfl (v := vg) (rfl) ?_
      refine S_call en_passayerlaw01_Book_Nat rfl rfl rfl (vs := [(.pointer (some ⟨g12, 0, none⟩)), vg]) (rfl) (bookNat_c _ _ 4 _ _ _ HB (by omega) (hlg)) ?_
      rintro _ w18 ⟨hT, HB⟩
      have E := E.trans hT
      refine OPS.nil ?_
      change WP _ _ _ _ _ _
      refine W_seq ?_
      refine W_region rfl ?_
      refine S_call en_passayerlaw01_Book_Apart rfl rfl rfl (vs := [(.pointer (some ⟨g12, 0, none⟩))]) (rfl) (apart_c _ _ _ _ HB) ?_
      rintro _ w19 ⟨hT, rfl⟩
      have E := E.trans hT
      refine S_assign rfl rfl rfl (v := (.bool true)) (rfl) ?_
      refine OPS.nil ?_
      change WP _ _ _ _ _ _
      refine W_ret ?_
      change Fin' _ _ _ _ _ _
      refine End1 (n := ⟨91, []⟩) (t := 4) rfl (by decide) (v := (.bool true)) (rfl) ?_
      exact ⟨E, rfl⟩

end Go.Proofs.YtccmicegihlfbaaGreatDoor
