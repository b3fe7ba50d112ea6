import Derived.Test.YtccmicegihlfbaaGreatDoorRm7
import Derived.Test.YtccmicegihlfbaaGreatDoorTie
import Derived.Test.YtccmicegihlfbaaGreatDoorCards
import Derived.Lib.LaidTab
set_option linter.unusedVariables false
set_option linter.unusedSimpArgs false

/- The document's fractions: whether they may be, lowest terms. -/
namespace Go.Proofs.YtccmicegihlfbaaGreatDoor
open Go.RowKit

set_option maxHeartbeats 400000 in
theorem ref03Check_c (w0 : World) (s : Bool) (vn vd : Value) (ln ld : List Int) {a b a2 b2 : Nat} (hn : RN a b w0 vn ln) (hd : RN a2 b2 w0 vd ld) (hsn : ln.length ≤ SZ) (hsd : ld.length ≤ SZ) :
    Ret Tryz.prog 192 [.agg #[.bool s, vn, vd]] w0 (fun r w1 => Below w0.heap.size w0 w1 ∧ r = .bool (okQ ⟨s, ln, ld⟩)) := by
 have E := Below.refl w0.heap.size w0
 refine Ret_of (n := 35) Tryz.func192 rfl rfl (Nat.le_of_ble_eq_true rfl) ?_
 refine W_seq ?_
 refine W_region rfl ?_
 refine S_box rfl rfl rfl (v := .agg #[.bool s, vn, vd]) (rfl) (cs := [(.bool s), vn, vd]) rfl ?_
 intro g1 w1 hg1 hs1 hB1 b1
 have hz1 := hB1.size
 have E := Below.step E hB1
 refine S_assign rfl rfl rfl (v := (.bool false)) (rfl) ?_
 refine OPS.nil ?_
 change WP _ _ _ _ _ _
 refine W_seq ?_
 refine W_seq ?_
 refine W_region rfl ?_
 refine S_field ft_api_Rat_0 rfl rfl rfl (g := g1) (o := 0) (rfl) (o' := 0) rfl ?_
 refine S_load rfl rfl rfl (rfl) (LD.blk ti_api_Int b1 (l := [(.bool s), vn]) rfl rfl) ?_
 refine S_call en_assayerref02_Check rfl rfl rfl (vs := [(.agg #[(.bool s), vn])]) (rfl) (ref02Check_c _ s vn ln (hn.below E)) ?_
 rintro _ w2 ⟨hB2, rfl⟩
 have hz2 := hB2.size
 have E := Below.step E hB2
 have hl_b1 := b1.lt
 have b1 := b1.below hB2
 refine S_not rfl rfl rfl (rfl) ?_
 refine S_move rfl rfl rfl (v := (.bool (!(okI s ln)))) (rfl) ?_
 rcases Bool.eq_false_or_eq_true (!(okI s ln)) with pT | pF
 ·skip
  rw [pT]
  refine S_skip (d := 9) (op := .fieldAddr _ _ _) (gd := some (4, false)) rfl (wg_off rfl (rfl) rfl) ?_
  refine S_skip (d := 10) (op := .load _ _) (gd := some (4, false)) rfl (wg_off rfl (rfl) rfl) ?_
  refine S_skip (d := 11) (op := .call _) (gd := some (4, false)) rfl (wg_off rfl (rfl) rfl) ?_
  refine S_skip (d := 12) (op := .unOp _ _ _) (gd := some (4, false)) rfl (wg_off rfl (rfl) rfl) ?_
  refine S_pick rfl rfl rfl rfl rfl (b := true) (rfl) (v := (.bool true)) (rfl) ?_
  refine S_move rfl rfl rfl (v := (.bool true)) (rfl) ?_
  refine S_skip (d := 15) (op := .fieldAddr _ _ _) (gd := some (10, false)) rfl (wg_off rfl (rfl) rfl) ?_
  refine S_skip (d := 16) (op := .load _ _) (gd := some (10, false)) rfl (wg_off rfl (rfl) rfl) ?_
  refine S_skip (d := 17) (op := .call _) (gd := some (10, false)) rfl (wg_off rfl (rfl) rfl) ?_
  refine S_skip (d := 18) (op := .binOp _ _ _ _ _) (gd := some (10, false)) rfl (wg_off rfl (rfl) rfl) ?_
  refine S_pick rfl rfl rfl rfl rfl (b := true) (rfl) (v := (.bool true)) (rfl) ?_
  refine OPS.nil ?_
  change WP _ _ _ _ _ _
  refine W_cond rfl (b := true) (rfl) (fun _ => ?_) (fun h => (by cases h))
  refine W_seq ?_
  refine W_region rfl ?_
  refine S_assign rfl rfl rfl (v := (.bool false)) (rfl) ?_
  refine OPS.nil ?_
  change WP _ _ _ _ _ _
  refine W_ret ?_
  change Fin' _ _ _ _ _ _
  refine End1 (n := ⟨35, []⟩) (t := 2) rfl (by decide) (v := (.bool false)) (rfl) ?_
  exact ⟨E, by rw [show okQ ⟨s, ln, ld⟩ = false by unfold okQ; simp_all]⟩
 ·skip
  rw [pF]
  refine S_field ft_api_Rat_1 rfl rfl rfl (g := g1) (o := 0) (rfl) (o' := 2) rfl ?_
  refine S_load rfl rfl rfl (rfl) (LD.blk1 ti_api_Nat b1 (v := vd) rfl) ?_
  refine S_call en_assayerref01_Check rfl rfl rfl (vs := [vd]) (rfl) (ref01Check_c _ _ ld (hd.below E)) ?_
  rintro _ _ ⟨rfl, rfl⟩
  refine S_not rfl rfl rfl (rfl) ?_
  refine S_pick rfl rfl rfl rfl rfl (b := false) (rfl) (v := (.bool (!(okL ld)))) (rfl) ?_
  refine S_move rfl rfl rfl (v := (.bool (!(okL ld)))) (rfl) ?_
  rcases Bool.eq_false_or_eq_true (!(okL ld)) with pFT | pFF
  ·skip
   rw [pFT]
   refine S_skip (d := 15) (op := .fieldAddr _ _ _) (gd := some (10, false)) rfl (wg_off rfl (rfl) rfl) ?_
   refine S_skip (d := 16) (op := .load _ _) (gd := some (10, false)) rfl (wg_off rfl (rfl) rfl) ?_
   refine S_skip (d := 17) (op := .call _) (gd := some (10, false)) rfl (wg_off rfl (rfl) rfl) ?_
   refine S_skip (d := 18) (op := .binOp _ _ _ _ _) (gd := some (10, false)) rfl (wg_off rfl (rfl) rfl) ?_
   refine S_pick rfl rfl rfl rfl rfl (b := true) (rfl) (v := (.bool true)) (rfl) ?_
   refine OPS.nil ?_
   change WP _ _ _ _ _ _
   refine W_cond rfl (b := true) (rfl) (fun _ => ?_) (fun h => (by cases h))
   refine W_seq ?_
   refine W_region rfl ?_
   refine S_assign rfl rfl rfl (v := (.bool false)) (rfl) ?_
   refine OPS.nil ?_
   change WP _ _ _ _ _ _
   refine W_ret ?_
   change Fin' _ _ _ _ _ _
   refine End1 (n := ⟨35, []⟩) (t := 2) rfl (by decide) (v := (.bool false)) (rfl) ?_
   exact ⟨E, by rw [show okQ ⟨s, ln, ld⟩ = false by unfold okQ; simp_all]⟩
  ·skip
   rw [pFF]
   refine S_field ft_api_Rat_1 rfl rfl rfl (g := g1) (o := 0) (rfl) (o' := 2) rfl ?_
   refine S_load rfl rfl rfl (rfl) (LD.blk1 ti_api_Nat b1 (v := vd) rfl) ?_
   refine S_len Tryz.underlying23 rfl rfl rfl (rfl) (m := ld.length) (hd.len) ?_
   refine S_bin rfl rfl rfl rfl rfl (rfl) (rfl) (v := .bool (((ld.length : Int) == 0))) rfl ?_
   refine S_pick rfl rfl rfl rfl rfl (b := false) (rfl) (v := (.bool (((ld.length : Int) == 0)))) (rfl) ?_
   refine OPS.nil ?_
   change WP _ _ _ _ _ _
   refine W_cond rfl (rfl) (fun hq19 => ?_) (fun hq19 => ?_)
   ·skip
    have pFFT := hq19
    replace hq19 := eq_of_beq hq19
    have qFFT := hq19
    try rw [pFFT]
    refine W_seq ?_
    refine W_region rfl ?_
    refine S_assign rfl rfl rfl (v := (.bool false)) (rfl) ?_
    refine OPS.nil ?_
    change WP _ _ _ _ _ _
    refine W_ret ?_
    change Fin' _ _ _ _ _ _
    refine End1 (n := ⟨35, []⟩) (t := 2) rfl (by decide) (v := (.bool false)) (rfl) ?_
    have hka : okI s ln = true := by simpa using pF
    have hkb : okL ld = true := by simpa using pFF
    have h0 : ¬ 0 < ld.length := by have := qFFT; omega
    exact ⟨E, by rw [show okQ ⟨s, ln, ld⟩ = false by unfold okQ; simp [h0]]⟩
   ·skip
    have pFFF := hq19
    replace hq19 := ne_of_beq_false hq19
    have qFFF := hq19
    try rw [pFFF]
    refine W_skip ?_
    change WP _ _ _ _ _ _
    refine W_seq ?_
    refine W_region rfl ?_
    refine S_field ft_api_Rat_0 rfl rfl rfl (g := g1) (o := 0) (rfl) (o' := 0) rfl ?_
    refine S_field ft_api_Int_1 rfl rfl rfl (g := g1) (o := 0) (rfl) (o' := 1) rfl ?_
    refine S_load rfl rfl rfl (rfl) (LD.blk1 ti_api_Nat b1 (v := vn) rfl) ?_
    refine S_field ft_api_Rat_1 rfl rfl rfl (g := g1) (o := 0) (rfl) (o' := 2) rfl ?_
    refine S_load rfl rfl rfl (rfl) (LD.blk1 ti_api_Nat b1 (v := vd) rfl) ?_
    refine S_call en_assayerref01_Gcd rfl rfl rfl (vs := [vn, vd]) (rfl) (ref01Gcd_c _ _ _ ln ld (hn.below E) (hd.below E) hsn hsd) ?_
    rintro vh1 w3 ⟨hB3, h1⟩
    have hz3 := hB3.size
    have E := Below.step E hB3
    have hl_b1 := b1.lt
    have b1 := b1.below hB3
    refine S_assign rfl rfl rfl (v := vh1) (rfl) ?_
    refine OPS.nil ?_
    change WP _ _ _ _ _ _
    refine W_seq ?_
    refine W_region rfl ?_
    refine S_move rfl rfl rfl (v := vh1) (rfl) ?_
    refine S_len Tryz.underlying23 rfl rfl rfl (rfl) (m := (dg (Nat.gcd (nv ln) (nv ld))).length) (h1.r.len) ?_
    refine S_bin rfl rfl rfl rfl rfl (rfl) (rfl) (v := .bool ((((dg (Nat.gcd (nv ln) (nv ld))).length : Int) == 1))) rfl ?_
    refine S_move rfl rfl rfl (v := (.bool ((((dg (Nat.gcd (nv ln) (nv ld))).length : Int) == 1)))) (rfl) ?_
    rcases Bool.eq_false_or_eq_true ((((dg (Nat.gcd (nv ln) (nv ld))).length : Int) == 1)) with pFFFT | pFFFF
    ·skip
     rw [pFFFT]
     have qFFFT := eq_of_beq pFFFT
     have hl0 : 0 < (dg (Nat.gcd (nv ln) (nv ld))).length := by have := qFFFT; omega
     refine S_move rfl rfl rfl (v := vh1) (rfl) ?_
     obtain ⟨ad1, hp3, hc2⟩ := h1.r.at 0 (by omega)
     refine S_idx Tryz.underlying23 ti_uint32 rfl rfl rfl rfl (rfl) (rfl) hp3 (by omega) ?_
     refine S_load rfl rfl rfl (rfl) (LD.one ti_uint32 hc2) ?_
     refine S_bin rfl rfl rfl rfl rfl (rfl) (rfl) (v := .bool ((((dg (Nat.gcd (nv ln) (nv ld))).getD 0 0) == 1))) rfl ?_
     refine S_pick rfl rfl rfl rfl rfl (b := true) (rfl) (v := (.bool ((((dg (Nat.gcd (nv ln) (nv ld))).getD 0 0) == 1)))) (rfl) ?_
     refine S_assign rfl rfl rfl (v := (.bool ((((dg (Nat.gcd (nv ln) (nv ld))).getD 0 0) == 1)))) (rfl) ?_
     refine OPS.nil ?_
     change WP _ _ _ _ _ _
     refine W_ret ?_
     change Fin' _ _ _ _ _ _
     refine End1 (n := ⟨35, []⟩) (t := 2) rfl (by decide) (v := (.bool ((((dg (Nat.gcd (nv ln) (nv ld))).getD 0 0) == 1)))) (rfl) ?_
     have hka : okI s ln = true := by simpa using pF
     have hkb : okL ld = true := by simpa using pFF
     have h0 : 0 < ld.length := by have := qFFF; omega
     have hk1 : okL ln = true := by unfold okI at hka; simp_all
     have hq : okQ ⟨s, ln, ld⟩ = isOne (dg (Nat.gcd (nv ln) (nv ld))) := by
       rw [nv_ok hk1, nv_ok hkb]
       unfold okQ isOne
       rw [show okI s ln = true from hka, show okL ld = true from hkb, show decide (0 < ld.length) = true from decide_eq_true h0]
       simp only [Bool.true_and]
       exact decide_eq_decide.2 dg_one.symm
     rw [hq]
     have h8 : (dg (Nat.gcd (nv ln) (nv ld))).length = 1 := by have := qFFFT; omega
     obtain ⟨x, hx⟩ := List.length_eq_one_iff.1 h8
     rw [hx]
     exact ⟨E, congrArg Value.bool (by unfold isOne; by_cases h7 : x = 1 <;> simp [h7])⟩
    ·skip
     rw [pFFFF]
     have qFFFF := ne_of_beq_false pFFFF
     refine S_skip (d := 30) (op := .move _) (gd := some (3, true)) rfl (wg_off rfl (rfl) rfl) ?_
     refine S_skip (d := 31) (op := .indexAddr _ _ _) (gd := some (3, true)) rfl (wg_off rfl (rfl) rfl) ?_
     refine S_skip (d := 32) (op := .load _ _) (gd := some (3, true)) rfl (wg_off rfl (rfl) rfl) ?_
     refine S_skip (d := 33) (op := .binOp _ _ _ _ _) (gd := some (3, true)) rfl (wg_off rfl (rfl) rfl) ?_
     refine S_pick rfl rfl rfl rfl rfl (b := false) (rfl) (v := (.bool false)) (rfl) ?_
     refine S_assign rfl rfl rfl (v := (.bool false)) (rfl) ?_
     refine OPS.nil ?_
     change WP _ _ _ _ _ _
     refine W_ret ?_
     change Fin' _ _ _ _ _ _
     refine End1 (n := ⟨35, []⟩) (t := 2) rfl (by decide) (v := (.bool false)) (rfl) ?_
     have hka : okI s ln = true := by simpa using pF
     have hkb : okL ld = true := by simpa using pFF
     have h0 : 0 < ld.length := by have := qFFF; omega
     have hk1 : okL ln = true := by unfold okI at hka; simp_all
     have hq : okQ ⟨s, ln, ld⟩ = isOne (dg (Nat.gcd (nv ln) (nv ld))) := by
       rw [nv_ok hk1, nv_ok hkb]
       unfold okQ isOne
       rw [show okI s ln = true from hka, show okL ld = true from hkb, show decide (0 < ld.length) = true from decide_eq_true h0]
       simp only [Bool.true_and]
       exact decide_eq_decide.2 dg_one.symm
     rw [hq]
     exact ⟨E, by rw [show isOne (dg (Nat.gcd (nv ln) (nv ld))) = false by unfold isOne; exact decide_eq_false fun e => (by rw [e] at qFFFF; simp at qFFFF)]⟩

set_option maxHeartbeats 400000 in
theorem ref03Fit_c (w0 : World) (s : Bool) (vn vd : Value) (ln ld : List Int) {a b a2 b2 : Nat} (hn : RN a b w0 vn ln) (hd : RN a2 b2 w0 vd ld) (hsn : ln.length ≤ SZ) (hsd : ld.length ≤ SZ) :
    Ret Tryz.prog 201 [.agg #[.bool s, vn, vd]] w0 (fun r w1 => Below w0.heap.size w0 w1 ∧ ∃ un ud, r = .agg #[.bool (decide (qn ⟨s, ln, ld⟩ < 0)), un, ud] ∧ ∀ a b, b ≤ w0.heap.size → RN a b w0 vn ln → RN a b w0 vd ld → RN a b w1 un (dg (qn ⟨s, ln, ld⟩).natAbs) ∧ RN a b w1 ud (dg (qd ⟨s, ln, ld⟩))) := by
 have E := Below.refl w0.heap.size w0
 refine Ret_of (n := 9) Tryz.func201 rfl rfl (Nat.le_of_ble_eq_true rfl) ?_
 refine W_seq ?_
 refine W_region rfl ?_
 refine S_box rfl rfl rfl (v := .agg #[.bool s, vn, vd]) (rfl) (cs := [(.bool s), vn, vd]) rfl ?_
 intro g1 w1 hg1 hs1 hB1 b1
 have hz1 := hB1.size
 have E := Below.step E hB1
 refine S_alloc ti_api_Rat rfl rfl (cs := [.bool false, .slice none 0 0, .slice none 0 0]) rfl ?_
 intro g2 w2 hg2 hs2 hB2 b2
 have hz2 := hB2.size
 have E := Below.step E hB2
 have hl_b1 := b1.lt
 have b1 := b1.below hB2
 refine OPS.nil ?_
 change WP _ _ _ _ _ _
 refine W_seq ?_
 refine W_seq ?_
 refine W_region rfl ?_
 refine S_load rfl rfl rfl (rfl) (LD.blk ti_api_Rat b1 (l := [(.bool s), vn, vd]) rfl rfl) ?_
 refine S_call en_assayerref03_Check rfl rfl rfl (vs := [(.agg #[(.bool s), vn, vd])]) (rfl) (ref03Check_c _ s vn vd ln ld (hn.below E) (hd.below E) hsn hsd) ?_
 rintro _ w3 ⟨hB3, rfl⟩
 have hz3 := hB3.size
 have E := Below.step E hB3
 have hl_b1 := b1.lt
 have b1 := b1.below hB3
 have hl_b2 := b2.lt
 have b2 := b2.below hB3
 refine S_not rfl rfl rfl (rfl) ?_
 refine OPS.nil ?_
 change WP _ _ _ _ _ _
 refine W_cond rfl (rfl) (fun hq5 => ?_) (fun hq5 => ?_)
 ·skip
  have pT := hq5
  skip
  try rw [pT]
  refine W_seq ?_
  refine W_region rfl ?_
  refine S_lit Tryz.underlying23 ti_uint32 rfl rfl (by decide) (by decide) rfl (vs := [(.int .u32 1)]) (cs := [(.int .u32 1)]) rfl rfl (by simp [Value.cells]) rfl ?_
  intro g4 w4 hg4 hs4 hB4 b4
  have hz4 := hB4.size
  have E := Below.step E hB4
  have hl_b1 := b1.lt
  have b1 := b1.below hB4
  have hl_b2 := b2.lt
  have b2 := b2.below hB4
  replace b4 : Blk w4 g4 (nums .u32 [1]) 106 := b4
  refine S_build rfl rfl rfl (cs := [.bool false, .slice none 0 0, (.slice (some ⟨g4, 0, none⟩) 1 1)]) (by kernel_rfl) ?_
  refine S_store ti_api_Rat rfl rfl rfl rfl (g := g2) (o := 0) (rfl) (v := (.agg #[.bool false, .slice none 0 0, (.slice (some ⟨g4, 0, none⟩) 1 1)])) (rfl) (vs := [.bool false, .slice none 0 0, (.slice (some ⟨g4, 0, none⟩) 1 1)]) rfl rfl (by simp [Value.oneCell']) b2 (by simp) (cs' := [.bool false, .slice none 0 0, (.slice (some ⟨g4, 0, none⟩) 1 1)]) rfl ?_
  intro w5 hU5 b2
  have E := Below.stepU E hU5 (by omega)
  have b1 := b1.upd hU5 (by omega)
  have b4 := b4.upd hU5 (by omega)
  have hz5 := hU5.size
  refine OPS.nil ?_
  change WP _ _ _ _ _ _
  refine W_ret ?_
  change Fin' _ _ _ _ _ _
  refine EndC (n := ⟨9, []⟩) (t := 2) rfl (by decide) (rfl) (LD.blk ti_api_Rat b2 (l := [.bool false, .slice none 0 0, (.slice (some ⟨g4, 0, none⟩) 1 1)]) rfl rfl) ?_
  have h9 : okQ ⟨s, ln, ld⟩ = false := by simpa using pT
  have h8 := okQ_not h9
  rw [h8.1, h8.2, dg_one.2 rfl, show (0 : Int).natAbs = 0 from rfl, dg_zero]
  have h1 : ON w0.heap.size w5 (.slice (some ⟨g4, 0, none⟩) 1 1) [1] := ON.mkNums (k := 1) b4 (U32.mk (by omega) (by omega) U32.nil) (by omega) (Nat.le_refl _) (by decide)
  exact ⟨E, _, _, rfl, fun a b hb _ _ => ⟨RN.nil _ _ _, h1.r.weak (Nat.zero_le _) (by omega)⟩⟩
 ·skip
  have pF := hq5
  skip
  try rw [pF]
  refine W_skip ?_
  change WP _ _ _ _ _ _
  refine W_seq ?_
  refine W_region rfl ?_
  refine S_load rfl rfl rfl (rfl) (LD.blk ti_api_Rat b1 (l := [(.bool s), vn, vd]) rfl rfl) ?_
  refine S_store ti_api_Rat rfl rfl rfl rfl (g := g2) (o := 0) (rfl) (v := (.agg #[(.bool s), vn, vd])) (rfl) (vs := [(.bool s), vn, vd]) rfl rfl (one3 (rfl) (hn.one_) (hd.one_)) b2 (by simp) (cs' := [(.bool s), vn, vd]) rfl ?_
  intro w6 hU6 b2
  have E := Below.stepU E hU6 (by omega)
  have b1 := b1.upd hU6 (by omega)
  have hz6 := hU6.size
  refine OPS.nil ?_
  change WP _ _ _ _ _ _
  refine W_ret ?_
  change Fin' _ _ _ _ _ _
  refine EndC (n := ⟨9, []⟩) (t := 2) rfl (by decide) (rfl) (LD.blk ti_api_Rat b2 (l := [(.bool s), vn, vd]) rfl rfl) ?_
  have h9 : okQ ⟨s, ln, ld⟩ = true := by simpa using pF
  have h8 := (okQ_spec h9 ⟨hn.u32, hd.u32⟩).1
  have e1 : s = decide (qn ⟨s, ln, ld⟩ < 0) := congrArg Q.neg h8
  have e2 : ln = dg (qn ⟨s, ln, ld⟩).natAbs := congrArg Q.n h8
  have e3 : ld = dg (qd ⟨s, ln, ld⟩) := congrArg Q.d h8
  refine ⟨E, vn, vd, by rw [← e1], fun a b hb h1 h2 => ?_⟩
  rw [← e2, ← e3]
  exact ⟨h1.below E, h2.below E⟩

set_option maxHeartbeats 1000000 in
theorem ref03Lowest_c (w0 : World) (z : Int) (m : Nat) (vz vm : Value) {a b a2 b2 : Nat} (hz : RN a b w0 vz (dg z.natAbs)) (hv : RN a2 b2 w0 vm (dg m)) (hsz1 : (dg z.natAbs).length ≤ SZ) (hsm1 : (dg m).length ≤ SZ) (hm : 0 < m) :
    Ret Tryz.prog 176 [.agg #[.bool (decide (z < 0)), vz], vm] w0 (fun r w1 => Below w0.heap.size w0 w1 ∧ OQ w0.heap.size w1 r (lowQ z m)) := by
 have E := Below.refl w0.heap.size w0
 have hgp : 0 < (Nat.gcd z.natAbs m) := Nat.gcd_pos_of_pos_right _ hm
 have hgd : (Nat.gcd z.natAbs m) ∣ z.natAbs := Nat.gcd_dvd_left _ _
 have hgl : (dg (Nat.gcd z.natAbs m)).length ≤ SZ := Nat.le_trans (dg_length_mono (Nat.gcd_le_right z.natAbs hm)) hsm1
 refine Ret_of (n := 37) Tryz.func176 rfl rfl (Nat.le_of_ble_eq_true rfl) ?_
 refine W_seq ?_
 refine W_region rfl ?_
 refine S_box rfl rfl rfl (v := .agg #[.bool (decide (z < 0)), vz]) (rfl) (cs := [(.bool (decide (z < 0))), vz]) rfl ?_
 intro g1 w1 hg1 hs1 hB1 b1
 have hz1 := hB1.size
 have E := Below.step E hB1
 refine S_alloc ti_api_Rat rfl rfl (cs := [.bool false, .slice none 0 0, .slice none 0 0]) rfl ?_
 intro g2 w2 hg2 hs2 hB2 b2
 have hz2 := hB2.size
 have E := Below.step E hB2
 have hl_b1 := b1.lt
 have b1 := b1.below hB2
 refine OPS.nil ?_
 change WP _ _ _ _ _ _
 refine W_seq ?_
 refine W_region rfl ?_
 refine S_field ft_api_Int_1 rfl rfl rfl (g := g1) (o := 0) (rfl) (o' := 1) rfl ?_
 refine S_load rfl rfl rfl (rfl) (LD.blk1 ti_api_Nat b1 (v := vz) rfl) ?_
 refine S_move rfl rfl rfl (v := vm) (rfl) ?_
 refine S_call en_assayerref01_Gcd rfl rfl rfl (vs := [vz, vm]) (rfl) (ref01Gcd_d (hz.below E) (hv.below E) hsz1 hsm1) ?_
 rintro vh1 w3 ⟨hB3, h1⟩
 have hz3 := hB3.size
 have E := Below.step E hB3
 have hl_b1 := b1.lt
 have b1 := b1.below hB3
 have hl_b2 := b2.lt
 have b2 := b2.below hB3
 refine S_assign rfl rfl rfl (v := vh1) (rfl) ?_
 refine OPS.nil ?_
 change WP _ _ _ _ _ _
 refine W_seq ?_
 refine W_region rfl ?_
 refine S_field ft_api_Int_1 rfl rfl rfl (g := g1) (o := 0) (rfl) (o' := 1) rfl ?_
 refine S_load rfl rfl rfl (rfl) (LD.blk1 ti_api_Nat b1 (v := vz) rfl) ?_
 refine S_move rfl rfl rfl (v := vh1) (rfl) ?_
 refine S_call en_assayerref01_Div rfl rfl rfl (vs := [vz, vh1]) (rfl) (ref01Div_d (hz.below E) h1.r hsz1 hgl hgp) ?_
 rintro _ w4 ⟨hB4, vh2, xh2, rfl, h2⟩
 have hz4 := hB4.size
 have E := Below.step E hB4
 have hl_b1 := b1.lt
 have b1 := b1.below hB4
 have hl_b2 := b2.lt
 have b2 := b2.below hB4
 have h1 := h1.below hB4
 have hkh2 := h2.bkB
 obtain ⟨Ah2, ch2, rfl, -, -⟩ := h2.r.form
 refine S_move rfl rfl rfl (v := (.tuple #[(.slice Ah2 ((dg (z.natAbs / (Nat.gcd z.natAbs m)))).length ch2), xh2, .int .i64 0])) (rfl) ?_
 refine S_extract rfl rfl rfl (rfl) rfl ?_
 refine S_extract rfl rfl rfl (rfl) rfl ?_
 refine S_extract rfl rfl rfl (rfl) rfl ?_
 refine S_assign rfl rfl rfl (v := (.slice Ah2 ((dg (z.natAbs / (Nat.gcd z.natAbs m)))).length ch2)) (rfl) ?_
 refine S_assign rfl rfl rfl (v := xh2) (rfl) ?_
 refine S_assign rfl rfl rfl (v := (.int .i64 0)) (rfl) ?_
 refine OPS.nil ?_
 change WP _ _ _ _ _ _
 refine W_seq ?_
 refine W_region rfl ?_
 refine S_move rfl rfl rfl (v := vm) (rfl) ?_
 refine S_move rfl rfl rfl (v := vh1) (rfl) ?_
 refine S_call en_assayerref01_Div rfl rfl rfl (vs := [vm, vh1]) (rfl) (ref01Div_d (hv.below E) h1.r hsm1 hgl hgp) ?_
 rintro _ w5 ⟨hB5, vh3, xh3, rfl, h3⟩
 have hz5 := hB5.size
 have E := Below.step E hB5
 have hl_b1 := b1.lt
 have b1 := b1.below hB5
 have hl_b2 := b2.lt
 have b2 := b2.below hB5
 have h1 := h1.below hB5
 have h2 := h2.below hB5
 have hkh3 := h3.bkB
 obtain ⟨Ah3, ch3, rfl, -, -⟩ := h3.r.form
 refine S_move rfl rfl rfl (v := (.tuple #[(.slice Ah3 ((dg (m / (Nat.gcd z.natAbs m)))).length ch3), xh3, .int .i64 0])) (rfl) ?_
 refine S_extract rfl rfl rfl (rfl) rfl ?_
 refine S_extract rfl rfl rfl (rfl) rfl ?_
 refine S_extract rfl rfl rfl (rfl) rfl ?_
 refine S_assign rfl rfl rfl (v := (.slice Ah3 ((dg (m / (Nat.gcd z.natAbs m)))).length ch3)) (rfl) ?_
 refine S_assign rfl rfl rfl (v := xh3) (rfl) ?_
 refine S_assign rfl rfl rfl (v := (.int .i64 0)) (rfl) ?_
 refine OPS.nil ?_
 change WP _ _ _ _ _ _
 refine W_seq ?_
 refine W_region rfl ?_
 refine S_field ft_api_Int_0 rfl rfl rfl (g := g1) (o := 0) (rfl) (o' := 0) rfl ?_
 refine S_load rfl rfl rfl (rfl) (LD.blk1 ti_bool b1 (v := (.bool (decide (z < 0)))) rfl) ?_
 refine S_move rfl rfl rfl (v := (.slice Ah2 ((dg (z.natAbs / (Nat.gcd z.natAbs m)))).length ch2)) (rfl) ?_
 refine S_call en_assayerref02_Signed rfl rfl rfl (vs := [(.bool (decide (z < 0))), (.slice Ah2 ((dg (z.natAbs / (Nat.gcd z.natAbs m)))).length ch2)]) (rfl) (ref02Signed_c _ (decide (z < 0)) (.slice Ah2 (dg (z.natAbs / (Nat.gcd z.natAbs m))).length ch2) (dg (z.natAbs / (Nat.gcd z.natAbs m))) h2.r) ?_
 rintro _ w6 ⟨hB6, rfl⟩
 have hz6 := hB6.size
 have E := Below.step E hB6
 have hl_b1 := b1.lt
 have b1 := b1.below hB6
 have hl_b2 := b2.lt
 have b2 := b2.below hB6
 have h1 := h1.below hB6
 have h2 := h2.below hB6
 have h3 := h3.below hB6
 refine S_move rfl rfl rfl (v := (.slice Ah3 ((dg (m / (Nat.gcd z.natAbs m)))).length ch3)) (rfl) ?_
 refine S_build rfl rfl rfl (cs := [(.bool ((decide (z < 0)) && !((dg (z.natAbs / (Nat.gcd z.natAbs m)))).isEmpty)), (.slice Ah2 (dg (z.natAbs / (Nat.gcd z.natAbs m))).length ch2), (.slice Ah3 ((dg (m / (Nat.gcd z.natAbs m)))).length ch3)]) (by kernel_rfl) ?_
 refine S_store ti_api_Rat rfl rfl rfl rfl (g := g2) (o := 0) (rfl) (v := (.agg #[(.bool ((decide (z < 0)) && !((dg (z.natAbs / (Nat.gcd z.natAbs m)))).isEmpty)), (.slice Ah2 (dg (z.natAbs / (Nat.gcd z.natAbs m))).length ch2), (.slice Ah3 ((dg (m / (Nat.gcd z.natAbs m)))).length ch3)])) (rfl) (vs := [(.bool ((decide (z < 0)) && !((dg (z.natAbs / (Nat.gcd z.natAbs m)))).isEmpty)), (.slice Ah2 (dg (z.natAbs / (Nat.gcd z.natAbs m))).length ch2), (.slice Ah3 ((dg (m / (Nat.gcd z.natAbs m)))).length ch3)]) rfl rfl (one3 (rfl) (rfl) (rfl)) b2 (by simp) (cs' := [(.bool ((decide (z < 0)) && !((dg (z.natAbs / (Nat.gcd z.natAbs m)))).isEmpty)), (.slice Ah2 (dg (z.natAbs / (Nat.gcd z.natAbs m))).length ch2), (.slice Ah3 ((dg (m / (Nat.gcd z.natAbs m)))).length ch3)]) rfl ?_
 intro w7 hU7 b2
 have E := Below.stepU E hU7 (by omega)
 have b1 := b1.upd hU7 (by omega)
 have h1 := h1.upd hU7 (by omega) (by omega)
 have h2 := h2.upd hU7 (by omega) (by omega)
 have h3 := h3.upd hU7 (by omega) (by omega)
 have hz7 := hU7.size
 refine OPS.nil ?_
 change WP _ _ _ _ _ _
 refine W_ret ?_
 change Fin' _ _ _ _ _ _
 refine EndC (n := ⟨37, []⟩) (t := 4) rfl (by decide) (rfl) (LD.blk ti_api_Rat b2 (l := [(.bool ((decide (z < 0)) && !((dg (z.natAbs / (Nat.gcd z.natAbs m)))).isEmpty)), (.slice Ah2 (dg (z.natAbs / (Nat.gcd z.natAbs m))).length ch2), (.slice Ah3 ((dg (m / (Nat.gcd z.natAbs m)))).length ch3)]) rfl rfl) ?_
 have h9 := neg_low2 (z := z) hgp hgd
 exact ⟨E, _, _, congrArg (fun c => Value.agg #[.bool c, _, _]) h9, h2.mono (by omega), h3.mono (by omega), Dj.lt (fun g hg => (hkh2 g hg).2) (fun g hg => by have := (h3.bkB g hg).1; omega)⟩


theorem mk_sign {x y : Int} (hy : y ≠ 0) : ((decide (x < 0) != decide (y < 0)) && !(dg x.natAbs).isEmpty) = decide ((if y < 0 then -x else x) < 0) ∧ x.natAbs = (if y < 0 then -x else x).natAbs := by
  rw [dg_isEmpty]
  by_cases h : y < 0
  · rw [if_pos h]
    refine ⟨?_, (Int.natAbs_neg x).symm⟩
    by_cases hx : x < 0
    · have h2 : ¬ (-x < 0) := by omega
      simp [h, hx]; omega
    · by_cases h0 : x = 0
      · subst h0; simp
      · have h2 : -x < 0 := by omega
        have h3 : x.natAbs ≠ 0 := by omega
        simp [h, hx, h0]; omega
  · rw [if_neg h]
    refine ⟨?_, rfl⟩
    by_cases hx : x < 0
    · have h3 : x ≠ 0 := by omega
      simp [h, hx, h3]
    · simp [h, hx]


theorem ref03Lowest_g (w0 : World) (z : Int) (neg : Bool) (l : List Int) (m : Nat) (vz vm : Value) {a b a2 b2 : Nat} (h1 : neg = decide (z < 0)) (h2 : l = dg z.natAbs) (hz : RN a b w0 vz l) (hv : RN a2 b2 w0 vm (dg m)) (hsz : l.length ≤ SZ) (hsm : (dg m).length ≤ SZ) (hm : 0 < m) :
    Ret Tryz.prog 176 [.agg #[.bool neg, vz], vm] w0 (fun r w1 => Below w0.heap.size w0 w1 ∧ OQ w0.heap.size w1 r (lowQ z m)) := by
  subst h1 h2
  exact ref03Lowest_c w0 z m vz vm hz hv hsz hsm hm

set_option maxHeartbeats 1000000 in
theorem ref03Make_c (w0 : World) (s t : Bool) (va vb : Value) (la lb : List Int) {a b a' b' : Nat} (ha : RN a b w0 va la) (hb : RN a' b' w0 vb lb) (hsa : la.length ≤ SZ) (hsb : lb.length ≤ SZ) :
    Ret Tryz.prog 49 [.agg #[.bool s, va], .agg #[.bool t, vb]] w0 (fun r w1 => Below w0.heap.size w0 w1 ∧ ∃ v, r = .tuple #[v, .int .i64 (makeE s la t lb)] ∧ OQ w0.heap.size w1 v (if makeE s la t lb = 0 then makeQ (zv s la) (zv t lb) else noQ)) := by
 have E := Below.refl w0.heap.size w0
 refine Ret_of (n := 31) Tryz.func49 rfl rfl (Nat.le_of_ble_eq_true rfl) ?_
 refine W_seq ?_
 refine W_region rfl ?_
 refine S_box rfl rfl rfl (v := .agg #[.bool s, va]) (rfl) (cs := [(.bool s), va]) rfl ?_
 intro g1 w1 hg1 hs1 hB1 b1
 have hz1 := hB1.size
 have E := Below.step E hB1
 refine S_box rfl rfl rfl (v := .agg #[.bool t, vb]) (rfl) (cs := [(.bool t), vb]) rfl ?_
 intro g2 w2 hg2 hs2 hB2 b2
 have hz2 := hB2.size
 have E := Below.step E hB2
 have hl_b1 := b1.lt
 have b1 := b1.below hB2
 refine S_alloc ti_api_Rat rfl rfl (cs := [.bool false, .slice none 0 0, .slice none 0 0]) rfl ?_
 intro g3 w3 hg3 hs3 hB3 b3
 have hz3 := hB3.size
 have E := Below.step E hB3
 have hl_b1 := b1.lt
 have b1 := b1.below hB3
 have hl_b2 := b2.lt
 have b2 := b2.below hB3
 refine S_assign rfl rfl rfl (v := (.int .i64 0)) (rfl) ?_
 refine OPS.nil ?_
 change WP _ _ _ _ _ _
 refine W_seq ?_
 refine W_seq ?_
 refine W_region rfl ?_
 refine S_load rfl rfl rfl (rfl) (LD.blk ti_api_Int b1 (l := [(.bool s), va]) rfl rfl) ?_
 refine S_call en_assayerref02_Check rfl rfl rfl (vs := [(.agg #[(.bool s), va])]) (rfl) (ref02Check_c _ s va la (ha.below E)) ?_
 rintro _ w4 ⟨hB4, rfl⟩
 have hz4 := hB4.size
 have E := Below.step E hB4
 have hl_b1 := b1.lt
 have b1 := b1.below hB4
 have hl_b2 := b2.lt
 have b2 := b2.below hB4
 have hl_b3 := b3.lt
 have b3 := b3.below hB4
 refine S_not rfl rfl rfl (rfl) ?_
 refine S_move rfl rfl rfl (v := (.bool (!(okI s la)))) (rfl) ?_
 rcases Bool.eq_false_or_eq_true (!(okI s la)) with pT | pF
 ·skip
  rw [pT]
  refine S_skip (d := 10) (op := .load _ _) (gd := some (3, false)) rfl (wg_off rfl (rfl) rfl) ?_
  refine S_skip (d := 11) (op := .call _) (gd := some (3, false)) rfl (wg_off rfl (rfl) rfl) ?_
  refine S_skip (d := 12) (op := .unOp _ _ _) (gd := some (3, false)) rfl (wg_off rfl (rfl) rfl) ?_
  refine S_pick rfl rfl rfl rfl rfl (b := true) (rfl) (v := (.bool true)) (rfl) ?_
  refine OPS.nil ?_
  change WP _ _ _ _ _ _
  refine W_cond rfl (b := true) (rfl) (fun _ => ?_) (fun h => (by cases h))
  refine W_seq ?_
  refine W_region rfl ?_
  refine S_build rfl rfl rfl (cs := [.bool false, .slice none 0 0, .slice none 0 0]) (by kernel_rfl) ?_
  refine S_store ti_api_Rat rfl rfl rfl rfl (g := g3) (o := 0) (rfl) (v := (.agg #[.bool false, .slice none 0 0, .slice none 0 0])) (rfl) (vs := [.bool false, .slice none 0 0, .slice none 0 0]) rfl rfl (by simp [Value.oneCell']) b3 (by simp) (cs' := [.bool false, .slice none 0 0, .slice none 0 0]) rfl ?_
  intro w5 hU5 b3
  have E := Below.stepU E hU5 (by omega)
  have b1 := b1.upd hU5 (by omega)
  have b2 := b2.upd hU5 (by omega)
  have hz5 := hU5.size
  refine S_assign rfl rfl rfl (v := (.int .i64 1)) (rfl) ?_
  refine OPS.nil ?_
  change WP _ _ _ _ _ _
  refine W_ret ?_
  change Fin' _ _ _ _ _ _
  refine EndC1 (n := ⟨31, []⟩) (t := 4) (u := 5) rfl (by decide) (by decide) (rfl) (LD.blk ti_api_Rat b3 (l := [.bool false, .slice none 0 0, .slice none 0 0]) rfl rfl) (rfl) ?_
  have hs : makeE s la t lb = 1 := by unfold makeE; simp_all
  exact ⟨E, _, congrArg (fun z => Value.tuple #[_, .int .i64 z]) hs.symm, by rw [hs]; exact OQ.nil _ _⟩
 ·skip
  rw [pF]
  refine S_load rfl rfl rfl (rfl) (LD.blk ti_api_Int b2 (l := [(.bool t), vb]) rfl rfl) ?_
  refine S_call en_assayerref02_Check rfl rfl rfl (vs := [(.agg #[(.bool t), vb])]) (rfl) (ref02Check_c _ t vb lb (hb.below E)) ?_
  rintro _ w6 ⟨hB6, rfl⟩
  have hz6 := hB6.size
  have E := Below.step E hB6
  have hl_b1 := b1.lt
  have b1 := b1.below hB6
  have hl_b2 := b2.lt
  have b2 := b2.below hB6
  have hl_b3 := b3.lt
  have b3 := b3.below hB6
  refine S_not rfl rfl rfl (rfl) ?_
  refine S_pick rfl rfl rfl rfl rfl (b := false) (rfl) (v := (.bool (!(okI t lb)))) (rfl) ?_
  refine OPS.nil ?_
  change WP _ _ _ _ _ _
  refine W_cond rfl (rfl) (fun hq13 => ?_) (fun hq13 => ?_)
  ·skip
   have pFT := hq13
   skip
   try rw [pFT]
   refine W_seq ?_
   refine W_region rfl ?_
   refine S_build rfl rfl rfl (cs := [.bool false, .slice none 0 0, .slice none 0 0]) (by kernel_rfl) ?_
   refine S_store ti_api_Rat rfl rfl rfl rfl (g := g3) (o := 0) (rfl) (v := (.agg #[.bool false, .slice none 0 0, .slice none 0 0])) (rfl) (vs := [.bool false, .slice none 0 0, .slice none 0 0]) rfl rfl (by simp [Value.oneCell']) b3 (by simp) (cs' := [.bool false, .slice none 0 0, .slice none 0 0]) rfl ?_
   intro w7 hU7 b3
   have E := Below.stepU E hU7 (by omega)
   have b1 := b1.upd hU7 (by omega)
   have b2 := b2.upd hU7 (by omega)
   have hz7 := hU7.size
   refine S_assign rfl rfl rfl (v := (.int .i64 1)) (rfl) ?_
   refine OPS.nil ?_
   change WP _ _ _ _ _ _
   refine W_ret ?_
   change Fin' _ _ _ _ _ _
   refine EndC1 (n := ⟨31, []⟩) (t := 4) (u := 5) rfl (by decide) (by decide) (rfl) (LD.blk ti_api_Rat b3 (l := [.bool false, .slice none 0 0, .slice none 0 0]) rfl rfl) (rfl) ?_
   have hs : makeE s la t lb = 1 := by unfold makeE; simp_all
   exact ⟨E, _, congrArg (fun z => Value.tuple #[_, .int .i64 z]) hs.symm, by rw [hs]; exact OQ.nil _ _⟩
  ·skip
   have pFF := hq13
   skip
   have hka : okI s la = true := by simpa using pF
   have hkb : okI t lb = true := by simpa using pFF
   obtain ⟨hts, htl⟩ := zv_ok hkb hb.u32
   obtain ⟨hss, hsl⟩ := zv_ok hka ha.u32
   have zlen0 : lb.length = 0 ↔ zv t lb = 0 := by
     conv => lhs; rw [htl]
     rw [dg_len0]
     omega
   try rw [pFF]
   refine W_skip ?_
   change WP _ _ _ _ _ _
   refine W_seq ?_
   refine W_seq ?_
   refine W_region rfl ?_
   refine S_field ft_api_Int_1 rfl rfl rfl (g := g2) (o := 0) (rfl) (o' := 1) rfl ?_
   refine S_load rfl rfl rfl (rfl) (LD.blk1 ti_api_Nat b2 (v := vb) rfl) ?_
   refine S_len Tryz.underlying23 rfl rfl rfl (rfl) (m := lb.length) (hb.len) ?_
   refine S_bin rfl rfl rfl rfl rfl (rfl) (rfl) (v := .bool (((lb.length : Int) == 0))) rfl ?_
   refine OPS.nil ?_
   change WP _ _ _ _ _ _
   refine W_cond rfl (rfl) (fun hq18 => ?_) (fun hq18 => ?_)
   ·skip
    have pFFT := hq18
    replace hq18 := eq_of_beq hq18
    have qFFT := hq18
    try rw [pFFT]
    refine W_seq ?_
    refine W_region rfl ?_
    refine S_build rfl rfl rfl (cs := [.bool false, .slice none 0 0, .slice none 0 0]) (by kernel_rfl) ?_
    refine S_store ti_api_Rat rfl rfl rfl rfl (g := g3) (o := 0) (rfl) (v := (.agg #[.bool false, .slice none 0 0, .slice none 0 0])) (rfl) (vs := [.bool false, .slice none 0 0, .slice none 0 0]) rfl rfl (by simp [Value.oneCell']) b3 (by simp) (cs' := [.bool false, .slice none 0 0, .slice none 0 0]) rfl ?_
    intro w8 hU8 b3
    have E := Below.stepU E hU8 (by omega)
    have b1 := b1.upd hU8 (by omega)
    have b2 := b2.upd hU8 (by omega)
    have hz8 := hU8.size
    refine S_assign rfl rfl rfl (v := (.int .i64 10)) (rfl) ?_
    refine OPS.nil ?_
    change WP _ _ _ _ _ _
    refine W_ret ?_
    change Fin' _ _ _ _ _ _
    refine EndC1 (n := ⟨31, []⟩) (t := 4) (u := 5) rfl (by decide) (by decide) (rfl) (LD.blk ti_api_Rat b3 (l := [.bool false, .slice none 0 0, .slice none 0 0]) rfl rfl) (rfl) ?_
    have h0 : zv t lb = 0 := zlen0.1 (by have := qFFT; omega)
    have hs : makeE s la t lb = 10 := by unfold makeE; rw [hka, hkb]; exact (if_pos rfl).trans (if_pos h0)
    exact ⟨E, _, congrArg (fun z => Value.tuple #[_, .int .i64 z]) hs.symm, by rw [hs]; exact OQ.nil _ _⟩
   ·skip
    have pFFF := hq18
    replace hq18 := ne_of_beq_false hq18
    have qFFF := hq18
    have hy0 : zv t lb ≠ 0 := fun h => qFFF (by have := zlen0.2 h; omega)
    have hmp : 0 < (zv t lb).natAbs := by omega
    have hsg := mk_sign (x := zv s la) hy0
    rw [← hss, ← hts, ← hsl] at hsg
    try rw [pFFF]
    refine W_skip ?_
    change WP _ _ _ _ _ _
    refine W_seq ?_
    refine D_begin_ mixed_ rfl rfl ?_
    intro w9 hB9 hz_9
    have hz9 := hB9.size
    have E := Below.step E hB9
    have hl_b1 := b1.lt
    have b1 := b1.below hB9
    have hl_b2 := b2.lt
    have b2 := b2.below hB9
    have hl_b3 := b3.lt
    have b3 := b3.below hB9
    have hS_ : Below w9.heap.size w9 w9 := Below.refl _ _
    have E_S := E
    have b1_S := b1
    have b2_S := b2
    have b3_S := b3
    refine D_field ft_api_Int_0 (i := 0) (listed2 := (bm 13 1)) (by kernel_rfl) rfl rfl rfl (g := g1) (o := 0) (rfl) (o' := 0) rfl hS_ ?_
    refine D_load (i := 1) (listed2 := (bm 13 3)) (by kernel_rfl) rfl rfl rfl (rfl) (fun _ hS2 => LD.blk1 ti_bool (b1_S.below hS2) (v := (.bool s)) rfl) hS_ ?_
    refine D_field ft_api_Int_0 (i := 2) (listed2 := (bm 13 7)) (by kernel_rfl) rfl rfl rfl (g := g2) (o := 0) (rfl) (o' := 0) rfl hS_ ?_
    refine D_load (i := 3) (listed2 := (bm 13 15)) (by kernel_rfl) rfl rfl rfl (rfl) (fun _ hS2 => LD.blk1 ti_bool (b2_S.below hS2) (v := (.bool t)) rfl) hS_ ?_
    refine D_bne Tryz.underlying4 (i := 4) (listed2 := (bm 13 31)) (by kernel_rfl) rfl rfl rfl rfl (rfl) (rfl) (c := (s != t)) (rfl) hS_ ?_
    refine D_field ft_api_Int_1 (i := 5) (listed2 := (bm 13 63)) (by kernel_rfl) rfl rfl rfl (g := g1) (o := 0) (rfl) (o' := 1) rfl hS_ ?_
    refine D_load (i := 6) (listed2 := (bm 13 127)) (by kernel_rfl) rfl rfl rfl (rfl) (fun _ hS2 => LD.blk1 ti_api_Nat (b1_S.below hS2) (v := va) rfl) hS_ ?_
    refine D_field ft_api_Int_1 (i := 8) (listed2 := (bm 13 383)) (by kernel_rfl) rfl rfl rfl (g := g2) (o := 0) (rfl) (o' := 1) rfl hS_ ?_
    refine D_load (i := 9) (listed2 := (bm 13 895)) (by kernel_rfl) rfl rfl rfl (rfl) (fun _ hS2 => LD.blk1 ti_api_Nat (b2_S.below hS2) (v := vb) rfl) hS_ ?_
    refine D_only (i := 7) (by kernel_rfl) (listed2 := (bm 13 1023)) (by kernel_rfl) ?_
    refine S_call en_assayerref02_Signed rfl rfl rfl (vs := [(.bool (s != t)), va]) (rfl) (ref02Signed_c _ (s != t) va la (ha.below E)) ?_
    rintro _ w10 ⟨hB10, rfl⟩
    have hz10 := hB10.size
    have E := Below.step E hB10
    have hl_b1 := b1.lt
    have b1 := b1.below hB10
    have hl_b2 := b2.lt
    have b2 := b2.below hB10
    have hl_b3 := b3.lt
    have b3 := b3.below hB10
    have hS_ := Below.step hS_ hB10
    refine OPS.nil ⟨hS_, ?_⟩
    refine D_last (i := 10) (f := 12) (by kernel_rfl) (by kernel_rfl) (listed2 := (bm 13 2047)) (by kernel_rfl) ?_
    refine S_call en_assayerref03_lowest rfl rfl rfl (vs := [(.agg #[.bool ((s != t) && !(la).isEmpty), va]), vb]) (rfl) (ref03Lowest_g _ (if zv t lb < 0 then -(zv s la) else zv s la) _ la (zv t lb).natAbs _ _ hsg.1 (by rw [← hsg.2]; exact hsl) (ha.below E) (by rw [← htl]; exact hb.below E) hsa (by rw [← htl]; exact hsb) hmp) ?_
    rintro _ w11 ⟨hB11, nq1, dq1, rfl, q1a, q1b, q1j⟩
    have hz11 := hB11.size
    have E := Below.step E hB11
    have hl_b1 := b1.lt
    have b1 := b1.below hB11
    have hl_b2 := b2.lt
    have b2 := b2.below hB11
    have hl_b3 := b3.lt
    have b3 := b3.below hB11
    refine OPS.nil ?_
    refine D_last (i := 11) (f := 12) (by kernel_rfl) (by kernel_rfl) (listed2 := (bm 13 4095)) (by kernel_rfl) ?_
    refine S_store ti_api_Rat rfl rfl rfl rfl (g := g3) (o := 0) (rfl) (v := (.agg #[.bool (decide ((if zv t lb < 0 then -(zv s la) else zv s la) < 0)), nq1, dq1])) (rfl) (vs := [(.bool (decide ((if zv t lb < 0 then -(zv s la) else zv s la) < 0))), nq1, dq1]) rfl rfl (one3 (rfl) (q1a.r.one_) (q1b.r.one_)) b3 (by simp) (cs' := [(.bool (decide ((if zv t lb < 0 then -(zv s la) else zv s la) < 0))), nq1, dq1]) rfl ?_
    intro w12 hU12 b3
    have E := Below.stepU E hU12 (by omega)
    have b1 := b1.upd hU12 (by omega)
    have b2 := b2.upd hU12 (by omega)
    have q1a := q1a.upd hU12 (by omega) (by omega)
    have q1b := q1b.upd hU12 (by omega) (by omega)
    have hz12 := hU12.size
    refine OPS.nil ?_
    refine D_last (i := 12) (f := 12) (by kernel_rfl) (by kernel_rfl) (listed2 := (bm 13 8191)) (by kernel_rfl) ?_
    refine S_assign rfl rfl rfl (v := (.int .i64 0)) (rfl) ?_
    refine OPS.nil ?_
    refine D_done (by kernel_rfl) ?_
    change WP _ _ _ _ _ _
    refine W_ret ?_
    change Fin' _ _ _ _ _ _
    refine EndC1 (n := ⟨31, []⟩) (t := 4) (u := 5) rfl (by decide) (by decide) (rfl) (LD.blk ti_api_Rat b3 (l := [(.bool (decide ((if zv t lb < 0 then -(zv s la) else zv s la) < 0))), nq1, dq1]) rfl rfl) (rfl) ?_
    have hs : makeE s la t lb = 0 := by unfold makeE; rw [hka, hkb]; exact (if_pos rfl).trans (if_neg hy0)
    exact ⟨E, _, congrArg (fun z => Value.tuple #[_, .int .i64 z]) hs.symm, by rw [hs]; exact ⟨_, _, rfl, q1a.mono (by omega), q1b.mono (by omega), q1j⟩⟩

end Go.Proofs.YtccmicegihlfbaaGreatDoor

/- Any two whole numbers, made a fraction: the law. -/
namespace Go.Proofs.YtccmicegihlfbaaGreatDoor
open Go.RowKit


/-- Two rows of one making. -/
theorem OWF.cons2 {B H lo hi : Nat} {w : World} {L : List OV} {o p : OV} (h : OWF B w H L) (hok : o.ok B w) (hop : p.ok B w) (hk : ∀ g, bk o.v = some g → lo ≤ g ∧ g < hi) (hkp : ∀ g, bk p.v = some g → lo ≤ g ∧ g < hi) (hd : Dj o.v p.v) (hH : hi ≤ H) (hl : lo ≤ hi) : OWF B w lo (o :: p :: L) := by
  have h2 := h.cons hop hkp hH hl
  refine ⟨h2.1.add hok (fun a ha => ?_), fun a ha g hg => ?_⟩
  · rcases List.mem_cons.1 ha with rfl | ha
    · exact hd
    · exact Dj.lt (fun g hg => (hk g hg).2) (fun g hg => Nat.le_trans hH (h.2 a ha g hg))
  · rcases List.mem_cons.1 ha with rfl | ha
    · exact (hk g hg).1
    · exact h2.2 a ha g hg
theorem pull {α : Type} (x : α) (l1 l2 : List α) {M : List α} (h : (l1 ++ l2).Perm M) : (l1 ++ x :: l2).Perm (x :: M) := List.perm_middle.trans (h.cons x)
theorem lowQ_len {z : Int} {m k : Nat} (h1 : (dg z.natAbs).length ≤ k) (h2 : (dg m).length ≤ k) : (lowQ z m).n.length ≤ k ∧ (lowQ z m).d.length ≤ k :=
  ⟨Nat.le_trans (div_self_len _ _) h1, Nat.le_trans (div_self_len _ _) h2⟩
theorem makeQ_len {p : Prop} [Decidable p] {s t : Bool} {la lb : List Int} (ha : U32 la) (hb : U32 lb) (h1 : la.length ≤ 60) (h2 : lb.length ≤ 60) : (if p then makeQ (zv s la) (zv t lb) else noQ).n.length ≤ 1000000000 ∧ (if p then makeQ (zv s la) (zv t lb) else noQ).d.length ≤ 1000000000 := by
  split
  · have h3 := zv_len (s := s) ha
    have h4 := zv_len (s := t) hb
    exact lowQ_len (by split <;> (try rw [Int.natAbs_neg]) <;> omega) (by omega)
  · exact ⟨by decide, by decide⟩
theorem of_len {n : Int} (h : -9223372036854775808 ≤ n ∧ n ≤ 9223372036854775807) : (dg n.natAbs).length ≤ 1000000000 := Nat.le_trans (dg_length_le (k := 2) (by omega)) (by decide)

set_option maxHeartbeats 1000000 in
theorem ratsMakes_c (w0 : World) (s t : Bool) (va vb : Value) (la lb : List Int) (n : Int) {a b a' b' : Nat} (ha : RN a b w0 va la) (hb : RN a' b' w0 vb lb) (hn : -9223372036854775808 ≤ n ∧ n ≤ 9223372036854775807) (hT : Tab w0) :
    Ret Tryz.prog 6 [.agg #[.bool s, va], .agg #[.bool t, vb], .int .i64 n] w0 (fun r w1 => Below w0.heap.size w0 w1 ∧ r = .bool true) := by
 have E := Below.refl w0.heap.size w0
 refine Ret_of (n := 97) Tryz.func6 rfl rfl (Nat.le_of_ble_eq_true rfl) ?_
 refine W_seq ?_
 refine W_region rfl ?_
 refine S_box rfl rfl rfl (v := .agg #[.bool s, va]) (rfl) (cs := [(.bool s), va]) rfl ?_
 intro g1 w1 hg1 hs1 hB1 b1
 have hz1 := hB1.size
 have E := Below.step E hB1
 refine S_box rfl rfl rfl (v := .agg #[.bool t, vb]) (rfl) (cs := [(.bool t), vb]) rfl ?_
 intro g2 w2 hg2 hs2 hB2 b2
 have hz2 := hB2.size
 have E := Below.step E hB2
 have hl_b1 := b1.lt
 have b1 := b1.below hB2
 refine S_assign rfl rfl rfl (v := (.bool false)) (rfl) ?_
 refine OPS.nil ?_
 change WP _ _ _ _ _ _
 refine W_seq ?_
 refine W_seq ?_
 refine W_region rfl ?_
 refine S_field ft_api_Int_1 rfl rfl rfl (g := g1) (o := 0) (rfl) (o' := 1) rfl ?_
 refine S_load rfl rfl rfl (rfl) (LD.blk1 ti_api_Nat b1 (v := va) rfl) ?_
 refine S_len Tryz.underlying23 rfl rfl rfl (rfl) (m := la.length) (ha.len) ?_
 refine S_bin rfl rfl rfl rfl rfl (rfl) (rfl) (v := .bool (decide ((la.length : Int) > 60))) rfl ?_
 refine S_move rfl rfl rfl (v := (.bool (decide ((la.length : Int) > 60)))) (rfl) ?_
 rcases Bool.eq_false_or_eq_true (decide ((la.length : Int) > 60)) with pT | pF
 ·skip
  rw [pT]
  have qT := of_decide_eq_true pT
  refine S_skip (d := 22) (op := .fieldAddr _ _ _) (gd := some (4, false)) rfl (wg_off rfl (rfl) rfl) ?_
  refine S_skip (d := 23) (op := .load _ _) (gd := some (4, false)) rfl (wg_off rfl (rfl) rfl) ?_
  refine S_skip (d := 24) (op := .call _) (gd := some (4, false)) rfl (wg_off rfl (rfl) rfl) ?_
  refine S_skip (d := 25) (op := .binOp _ _ _ _ _) (gd := some (4, false)) rfl (wg_off rfl (rfl) rfl) ?_
  refine S_pick rfl rfl rfl rfl rfl (b := true) (rfl) (v := (.bool true)) (rfl) ?_
  refine OPS.nil ?_
  change WP _ _ _ _ _ _
  refine W_cond rfl (b := true) (rfl) (fun _ => ?_) (fun h => (by cases h))
  refine W_seq ?_
  refine W_region rfl ?_
  refine S_assign rfl rfl rfl (v := (.bool true)) (rfl) ?_
  refine OPS.nil ?_
  change WP _ _ _ _ _ _
  refine W_ret ?_
  change Fin' _ _ _ _ _ _
  refine End1 (n := ⟨97, []⟩) (t := 6) rfl (by decide) (v := (.bool true)) (rfl) ?_
  exact ⟨E, rfl⟩
 ·skip
  rw [pF]
  have qF := of_decide_eq_false pF
  refine S_field ft_api_Int_1 rfl rfl rfl (g := g2) (o := 0) (rfl) (o' := 1) rfl ?_
  refine S_load rfl rfl rfl (rfl) (LD.blk1 ti_api_Nat b2 (v := vb) rfl) ?_
  refine S_len Tryz.underlying23 rfl rfl rfl (rfl) (m := lb.length) (hb.len) ?_
  refine S_bin rfl rfl rfl rfl rfl (rfl) (rfl) (v := .bool (decide ((lb.length : Int) > 60))) rfl ?_
  refine S_pick rfl rfl rfl rfl rfl (b := false) (rfl) (v := (.bool (decide ((lb.length : Int) > 60)))) (rfl) ?_
  refine OPS.nil ?_
  change WP _ _ _ _ _ _
  refine W_cond rfl (rfl) (fun hq26 => ?_) (fun hq26 => ?_)
  ·skip
   have pFT := hq26
   replace hq26 := of_decide_eq_true hq26
   have qFT := hq26
   try rw [pFT]
   refine W_seq ?_
   refine W_region rfl ?_
   refine S_assign rfl rfl rfl (v := (.bool true)) (rfl) ?_
   refine OPS.nil ?_
   change WP _ _ _ _ _ _
   refine W_ret ?_
   change Fin' _ _ _ _ _ _
   refine End1 (n := ⟨97, []⟩) (t := 6) rfl (by decide) (v := (.bool true)) (rfl) ?_
   exact ⟨E, rfl⟩
  ·skip
   have pFF := hq26
   replace hq26 := of_decide_eq_false hq26
   have qFF := hq26
   have hla : la.length ≤ 60 := by have := qF; omega
   have hlb : lb.length ≤ 60 := by have := qFF; omega
   have hsa : la.length ≤ SZ := by unfold SZ; omega
   have hsb : lb.length ≤ SZ := by unfold SZ; omega
   have hsa2 : la.length < SZ := by unfold SZ; omega
   have hsb2 : lb.length < SZ := by unfold SZ; omega
   obtain ⟨hq1, hq2⟩ := makeQ_len (p := makeE s la t lb = 0) (s := s) (t := t) ha.u32 hb.u32 hla hlb
   have hol := of_len hn
   try rw [pFF]
   refine W_skip ?_
   change WP _ _ _ _ _ _
   refine W_seq ?_
   refine W_region rfl ?_
   refine S_load rfl rfl rfl (rfl) (LD.blk ti_api_Int b1 (l := [(.bool s), va]) rfl rfl) ?_
   refine S_call en_assayerlaw01_TwinInt rfl rfl rfl (vs := [(.agg #[(.bool s), va])]) (rfl) (twinInt_c _ s va la (ha.below E) hsa) ?_
   rintro _ w3 ⟨hB3, At1, ct1, rfl, t1⟩
   have hz3 := hB3.size
   have E := Below.step E hB3
   have hl_b1 := b1.lt
   have b1 := b1.below hB3
   have hl_b2 := b2.lt
   have b2 := b2.below hB3
   have hk1 := t1.bk
   refine S_alloc ti_api_Int rfl rfl (cs := [.bool false, .slice none 0 0]) rfl ?_
   intro g4 w4 hg4 hs4 hB4 b4
   have hz4 := hB4.size
   have E := Below.step E hB4
   have hl_b1 := b1.lt
   have b1 := b1.below hB4
   have hl_b2 := b2.lt
   have b2 := b2.below hB4
   have t1 := t1.below hB4
   refine S_store ti_api_Int rfl rfl rfl rfl (g := g4) (o := 0) (rfl) (v := (.agg #[.bool s, (.slice At1 (la).length ct1)])) (rfl) (vs := [(.bool s), (.slice At1 (la).length ct1)]) rfl rfl (one2 (rfl) (rfl)) b4 (by simp) (cs' := [(.bool s), (.slice At1 (la).length ct1)]) rfl ?_
   intro w5 hU5 b4
   have E := Below.stepU E hU5 (by omega)
   have b1 := b1.upd hU5 (by omega)
   have b2 := b2.upd hU5 (by omega)
   have t1 := t1.updN hU5 (fun g hg => by have := hk1 g hg; omega)
   have hz5 := hU5.size
   refine OPS.nil ?_
   change WP _ _ _ _ _ _
   refine W_seq ?_
   refine W_region rfl ?_
   refine S_load rfl rfl rfl (rfl) (LD.blk ti_api_Int b2 (l := [(.bool t), vb]) rfl rfl) ?_
   refine S_call en_assayerlaw01_TwinInt rfl rfl rfl (vs := [(.agg #[(.bool t), vb])]) (rfl) (twinInt_c _ t vb lb (hb.below E) hsb) ?_
   rintro _ w6 ⟨hB6, At2, ct2, rfl, t2⟩
   have hz6 := hB6.size
   have E := Below.step E hB6
   have hl_b1 := b1.lt
   have b1 := b1.below hB6
   have hl_b2 := b2.lt
   have b2 := b2.below hB6
   have t1 := t1.below hB6
   have hl_b4 := b4.lt
   have b4 := b4.below hB6
   have hk2 := t2.bk
   refine S_alloc ti_api_Int rfl rfl (cs := [.bool false, .slice none 0 0]) rfl ?_
   intro g7 w7 hg7 hs7 hB7 b7
   have hz7 := hB7.size
   have E := Below.step E hB7
   have hl_b1 := b1.lt
   have b1 := b1.below hB7
   have hl_b2 := b2.lt
   have b2 := b2.below hB7
   have t1 := t1.below hB7
   have hl_b4 := b4.lt
   have b4 := b4.below hB7
   have t2 := t2.below hB7
   refine S_store ti_api_Int rfl rfl rfl rfl (g := g7) (o := 0) (rfl) (v := (.agg #[.bool t, (.slice At2 (lb).length ct2)])) (rfl) (vs := [(.bool t), (.slice At2 (lb).length ct2)]) rfl rfl (one2 (rfl) (rfl)) b7 (by simp) (cs' := [(.bool t), (.slice At2 (lb).length ct2)]) rfl ?_
   intro w8 hU8 b7
   have E := Below.stepU E hU8 (by omega)
   have b1 := b1.upd hU8 (by omega)
   have b2 := b2.upd hU8 (by omega)
   have t1 := t1.updN hU8 (fun g hg => by have := hk1 g hg; omega)
   have b4 := b4.upd hU8 (by omega)
   have t2 := t2.updN hU8 (fun g hg => by have := hk2 g hg; omega)
   have hz8 := hU8.size
   refine OPS.nil ?_
   change WP _ _ _ _ _ _
   refine W_seq ?_
   refine W_region rfl ?_
   refine S_load rfl rfl rfl (rfl) (LD.blk ti_api_Int b4 (l := [(.bool s), (.slice At1 (la).length ct1)]) rfl rfl) ?_
   refine S_load rfl rfl rfl (rfl) (LD.blk ti_api_Int b7 (l := [(.bool t), (.slice At2 (lb).length ct2)]) rfl rfl) ?_
   refine S_call en_rats_Make rfl rfl rfl (vs := [(.agg #[(.bool s), (.slice At1 (la).length ct1)]), (.agg #[(.bool t), (.slice At2 (lb).length ct2)])]) (rfl) (ratsMake_c _ s t _ _ la lb t1.r t2.r hsa2 hsb2 (hT.below E)) ?_
   rintro _ w9 ⟨hB9, _, rfl, nm1, dm1, rfl, m1a, m1b, m1j⟩
   have hz9 := hB9.size
   have E := Below.step E hB9
   have hl_b1 := b1.lt
   have b1 := b1.below hB9
   have hl_b2 := b2.lt
   have b2 := b2.below hB9
   have t1 := t1.below hB9
   have hl_b4 := b4.lt
   have b4 := b4.below hB9
   have t2 := t2.below hB9
   have hl_b7 := b7.lt
   have b7 := b7.below hB9
   have hkm1a := m1a.bkB
   have hkm1b := m1b.bkB
   refine S_move rfl rfl rfl (v := (.tuple #[(.agg #[.bool (if makeE s la t lb = 0 then makeQ (zv s la) (zv t lb) else noQ).neg, nm1, dm1]), .int .i64 (makeE s la t lb)])) (rfl) ?_
   refine S_extract rfl rfl rfl (rfl) rfl ?_
   refine S_extract rfl rfl rfl (rfl) rfl ?_
   refine S_alloc ti_api_Rat rfl rfl (cs := [.bool false, .slice none 0 0, .slice none 0 0]) rfl ?_
   intro g10 w10 hg10 hs10 hB10 b10
   have hz10 := hB10.size
   have E := Below.step E hB10
   have hl_b1 := b1.lt
   have b1 := b1.below hB10
   have hl_b2 := b2.lt
   have b2 := b2.below hB10
   have t1 := t1.below hB10
   have hl_b4 := b4.lt
   have b4 := b4.below hB10
   have t2 := t2.below hB10
   have hl_b7 := b7.lt
   have b7 := b7.below hB10
   have m1a := m1a.below hB10
   have m1b := m1b.below hB10
   refine S_store ti_api_Rat rfl rfl rfl rfl (g := g10) (o := 0) (rfl) (v := (.agg #[.bool (if makeE s la t lb = 0 then makeQ (zv s la) (zv t lb) else noQ).neg, nm1, dm1])) (rfl) (vs := [(.bool (if makeE s la t lb = 0 then makeQ (zv s la) (zv t lb) else noQ).neg), nm1, dm1]) rfl rfl (one3 (rfl) (m1a.r.one_) (m1b.r.one_)) b10 (by simp) (cs' := [(.bool (if makeE s la t lb = 0 then makeQ (zv s la) (zv t lb) else noQ).neg), nm1, dm1]) rfl ?_
   intro w11 hU11 b10
   have E := Below.stepU E hU11 (by omega)
   have b1 := b1.upd hU11 (by omega)
   have b2 := b2.upd hU11 (by omega)
   have t1 := t1.updN hU11 (fun g hg => by have := hk1 g hg; omega)
   have b4 := b4.upd hU11 (by omega)
   have t2 := t2.updN hU11 (fun g hg => by have := hk2 g hg; omega)
   have b7 := b7.upd hU11 (by omega)
   have m1a := m1a.updN hU11 (fun g hg => by have := hkm1a g hg; omega)
   have m1b := m1b.updN hU11 (fun g hg => by have := hkm1b g hg; omega)
   have hz11 := hU11.size
   refine S_assign rfl rfl rfl (v := (.int .i64 (makeE s la t lb))) (rfl) ?_
   refine OPS.nil ?_
   change WP _ _ _ _ _ _
   refine W_seq ?_
   refine W_region rfl ?_
   refine S_load rfl rfl rfl (rfl) (LD.blk ti_api_Int b4 (l := [(.bool s), (.slice At1 (la).length ct1)]) rfl rfl) ?_
   refine S_load rfl rfl rfl (rfl) (LD.blk ti_api_Int b7 (l := [(.bool t), (.slice At2 (lb).length ct2)]) rfl rfl) ?_
   refine S_call en_rats_Make rfl rfl rfl (vs := [(.agg #[(.bool s), (.slice At1 (la).length ct1)]), (.agg #[(.bool t), (.slice At2 (lb).length ct2)])]) (rfl) (ratsMake_c _ s t _ _ la lb t1.r t2.r hsa2 hsb2 (hT.below E)) ?_
   rintro _ w12 ⟨hB12, _, rfl, nm2, dm2, rfl, m2a, m2b, m2j⟩
   have hz12 := hB12.size
   have E := Below.step E hB12
   have hl_b1 := b1.lt
   have b1 := b1.below hB12
   have hl_b2 := b2.lt
   have b2 := b2.below hB12
   have t1 := t1.below hB12
   have hl_b4 := b4.lt
   have b4 := b4.below hB12
   have t2 := t2.below hB12
   have hl_b7 := b7.lt
   have b7 := b7.below hB12
   have m1a := m1a.below hB12
   have m1b := m1b.below hB12
   have hl_b10 := b10.lt
   have b10 := b10.below hB12
   have hkm2a := m2a.bkB
   have hkm2b := m2b.bkB
   refine S_move rfl rfl rfl (v := (.tuple #[(.agg #[.bool (if makeE s la t lb = 0 then makeQ (zv s la) (zv t lb) else noQ).neg, nm2, dm2]), .int .i64 (makeE s la t lb)])) (rfl) ?_
   refine S_extract rfl rfl rfl (rfl) rfl ?_
   refine S_extract rfl rfl rfl (rfl) rfl ?_
   refine S_alloc ti_api_Rat rfl rfl (cs := [.bool false, .slice none 0 0, .slice none 0 0]) rfl ?_
   intro g13 w13 hg13 hs13 hB13 b13
   have hz13 := hB13.size
   have E := Below.step E hB13
   have hl_b1 := b1.lt
   have b1 := b1.below hB13
   have hl_b2 := b2.lt
   have b2 := b2.below hB13
   have t1 := t1.below hB13
   have hl_b4 := b4.lt
   have b4 := b4.below hB13
   have t2 := t2.below hB13
   have hl_b7 := b7.lt
   have b7 := b7.below hB13
   have m1a := m1a.below hB13
   have m1b := m1b.below hB13
   have hl_b10 := b10.lt
   have b10 := b10.below hB13
   have m2a := m2a.below hB13
   have m2b := m2b.below hB13
   refine S_store ti_api_Rat rfl rfl rfl rfl (g := g13) (o := 0) (rfl) (v := (.agg #[.bool (if makeE s la t lb = 0 then makeQ (zv s la) (zv t lb) else noQ).neg, nm2, dm2])) (rfl) (vs := [(.bool (if makeE s la t lb = 0 then makeQ (zv s la) (zv t lb) else noQ).neg), nm2, dm2]) rfl rfl (one3 (rfl) (m2a.r.one_) (m2b.r.one_)) b13 (by simp) (cs' := [(.bool (if makeE s la t lb = 0 then makeQ (zv s la) (zv t lb) else noQ).neg), nm2, dm2]) rfl ?_
   intro w14 hU14 b13
   have E := Below.stepU E hU14 (by omega)
   have b1 := b1.upd hU14 (by omega)
   have b2 := b2.upd hU14 (by omega)
   have t1 := t1.updN hU14 (fun g hg => by have := hk1 g hg; omega)
   have b4 := b4.upd hU14 (by omega)
   have t2 := t2.updN hU14 (fun g hg => by have := hk2 g hg; omega)
   have b7 := b7.upd hU14 (by omega)
   have m1a := m1a.updN hU14 (fun g hg => by have := hkm1a g hg; omega)
   have m1b := m1b.updN hU14 (fun g hg => by have := hkm1b g hg; omega)
   have b10 := b10.upd hU14 (by omega)
   have m2a := m2a.updN hU14 (fun g hg => by have := hkm2a g hg; omega)
   have m2b := m2b.updN hU14 (fun g hg => by have := hkm2b g hg; omega)
   have hz14 := hU14.size
   refine S_assign rfl rfl rfl (v := (.int .i64 (makeE s la t lb))) (rfl) ?_
   refine OPS.nil ?_
   change WP _ _ _ _ _ _
   refine W_seq ?_
   refine W_region rfl ?_
   refine S_load rfl rfl rfl (rfl) (LD.blk ti_api_Int b1 (l := [(.bool s), va]) rfl rfl) ?_
   refine S_load rfl rfl rfl (rfl) (LD.blk ti_api_Int b2 (l := [(.bool t), vb]) rfl rfl) ?_
   refine S_call en_assayerref03_Make rfl rfl rfl (vs := [(.agg #[(.bool s), va]), (.agg #[(.bool t), vb])]) (rfl) (ref03Make_c _ s t va vb la lb (ha.below E) (hb.below E) hsa hsb) ?_
   rintro _ w15 ⟨hB15, _, rfl, nm3, dm3, rfl, m3a, m3b, m3j⟩
   have hz15 := hB15.size
   have E := Below.step E hB15
   have hl_b1 := b1.lt
   have b1 := b1.below hB15
   have hl_b2 := b2.lt
   have b2 := b2.below hB15
   have t1 := t1.below hB15
   have hl_b4 := b4.lt
   have b4 := b4.below hB15
   have t2 := t2.below hB15
   have hl_b7 := b7.lt
   have b7 := b7.below hB15
   have m1a := m1a.below hB15
   have m1b := m1b.below hB15
   have hl_b10 := b10.lt
   have b10 := b10.below hB15
   have m2a := m2a.below hB15
   have m2b := m2b.below hB15
   have hl_b13 := b13.lt
   have b13 := b13.below hB15
   have hkm3a := m3a.bkB
   have hkm3b := m3b.bkB
   refine S_move rfl rfl rfl (v := (.tuple #[(.agg #[.bool (if makeE s la t lb = 0 then makeQ (zv s la) (zv t lb) else noQ).neg, nm3, dm3]), .int .i64 (makeE s la t lb)])) (rfl) ?_
   refine S_extract rfl rfl rfl (rfl) rfl ?_
   refine S_extract rfl rfl rfl (rfl) rfl ?_
   refine S_alloc ti_api_Rat rfl rfl (cs := [.bool false, .slice none 0 0, .slice none 0 0]) rfl ?_
   intro g16 w16 hg16 hs16 hB16 b16
   have hz16 := hB16.size
   have E := Below.step E hB16
   have hl_b1 := b1.lt
   have b1 := b1.below hB16
   have hl_b2 := b2.lt
   have b2 := b2.below hB16
   have t1 := t1.below hB16
   have hl_b4 := b4.lt
   have b4 := b4.below hB16
   have t2 := t2.below hB16
   have hl_b7 := b7.lt
   have b7 := b7.below hB16
   have m1a := m1a.below hB16
   have m1b := m1b.below hB16
   have hl_b10 := b10.lt
   have b10 := b10.below hB16
   have m2a := m2a.below hB16
   have m2b := m2b.below hB16
   have hl_b13 := b13.lt
   have b13 := b13.below hB16
   have m3a := m3a.below hB16
   have m3b := m3b.below hB16
   refine S_store ti_api_Rat rfl rfl rfl rfl (g := g16) (o := 0) (rfl) (v := (.agg #[.bool (if makeE s la t lb = 0 then makeQ (zv s la) (zv t lb) else noQ).neg, nm3, dm3])) (rfl) (vs := [(.bool (if makeE s la t lb = 0 then makeQ (zv s la) (zv t lb) else noQ).neg), nm3, dm3]) rfl rfl (one3 (rfl) (m3a.r.one_) (m3b.r.one_)) b16 (by simp) (cs' := [(.bool (if makeE s la t lb = 0 then makeQ (zv s la) (zv t lb) else noQ).neg), nm3, dm3]) rfl ?_
   intro w17 hU17 b16
   have E := Below.stepU E hU17 (by omega)
   have b1 := b1.upd hU17 (by omega)
   have b2 := b2.upd hU17 (by omega)
   have t1 := t1.updN hU17 (fun g hg => by have := hk1 g hg; omega)
   have b4 := b4.upd hU17 (by omega)
   have t2 := t2.updN hU17 (fun g hg => by have := hk2 g hg; omega)
   have b7 := b7.upd hU17 (by omega)
   have m1a := m1a.updN hU17 (fun g hg => by have := hkm1a g hg; omega)
   have m1b := m1b.updN hU17 (fun g hg => by have := hkm1b g hg; omega)
   have b10 := b10.upd hU17 (by omega)
   have m2a := m2a.updN hU17 (fun g hg => by have := hkm2a g hg; omega)
   have m2b := m2b.updN hU17 (fun g hg => by have := hkm2b g hg; omega)
   have b13 := b13.upd hU17 (by omega)
   have m3a := m3a.updN hU17 (fun g hg => by have := hkm3a g hg; omega)
   have m3b := m3b.updN hU17 (fun g hg => by have := hkm3b g hg; omega)
   have hz17 := hU17.size
   refine S_assign rfl rfl rfl (v := (.int .i64 (makeE s la t lb))) (rfl) ?_
   refine OPS.nil ?_
   change WP _ _ _ _ _ _
   refine W_seq ?_
   refine W_region rfl ?_
   refine S_move rfl rfl rfl (v := .int .i64 n) (rfl) ?_
   refine S_call en_rats_Of rfl rfl rfl (vs := [.int .i64 n]) (rfl) (ratsOf_c _ n hn) ?_
   rintro _ w18 ⟨hB18, no1, do1, rfl, o1a, o1b, o1j⟩
   have hz18 := hB18.size
   have E := Below.step E hB18
   have hl_b1 := b1.lt
   have b1 := b1.below hB18
   have hl_b2 := b2.lt
   have b2 := b2.below hB18
   have t1 := t1.below hB18
   have hl_b4 := b4.lt
   have b4 := b4.below hB18
   have t2 := t2.below hB18
   have hl_b7 := b7.lt
   have b7 := b7.below hB18
   have m1a := m1a.below hB18
   have m1b := m1b.below hB18
   have hl_b10 := b10.lt
   have b10 := b10.below hB18
   have m2a := m2a.below hB18
   have m2b := m2b.below hB18
   have hl_b13 := b13.lt
   have b13 := b13.below hB18
   have m3a := m3a.below hB18
   have m3b := m3b.below hB18
   have hl_b16 := b16.lt
   have b16 := b16.below hB18
   have hko1a := o1a.bkB
   have hko1b := o1b.bkB
   refine S_alloc ti_api_Rat rfl rfl (cs := [.bool false, .slice none 0 0, .slice none 0 0]) rfl ?_
   intro g19 w19 hg19 hs19 hB19 b19
   have hz19 := hB19.size
   have E := Below.step E hB19
   have hl_b1 := b1.lt
   have b1 := b1.below hB19
   have hl_b2 := b2.lt
   have b2 := b2.below hB19
   have t1 := t1.below hB19
   have hl_b4 := b4.lt
   have b4 := b4.below hB19
   have t2 := t2.below hB19
   have hl_b7 := b7.lt
   have b7 := b7.below hB19
   have m1a := m1a.below hB19
   have m1b := m1b.below hB19
   have hl_b10 := b10.lt
   have b10 := b10.below hB19
   have m2a := m2a.below hB19
   have m2b := m2b.below hB19
   have hl_b13 := b13.lt
   have b13 := b13.below hB19
   have m3a := m3a.below hB19
   have m3b := m3b.below hB19
   have hl_b16 := b16.lt
   have b16 := b16.below hB19
   have o1a := o1a.below hB19
   have o1b := o1b.below hB19
   refine S_store ti_api_Rat rfl rfl rfl rfl (g := g19) (o := 0) (rfl) (v := (.agg #[.bool (⟨decide (n < 0), dg n.natAbs, [1]⟩ : Q).neg, no1, do1])) (rfl) (vs := [(.bool (⟨decide (n < 0), dg n.natAbs, [1]⟩ : Q).neg), no1, do1]) rfl rfl (one3 (rfl) (o1a.r.one_) (o1b.r.one_)) b19 (by simp) (cs' := [(.bool (⟨decide (n < 0), dg n.natAbs, [1]⟩ : Q).neg), no1, do1]) rfl ?_
   intro w20 hU20 b19
   have E := Below.stepU E hU20 (by omega)
   have b1 := b1.upd hU20 (by omega)
   have b2 := b2.upd hU20 (by omega)
   have t1 := t1.updN hU20 (fun g hg => by have := hk1 g hg; omega)
   have b4 := b4.upd hU20 (by omega)
   have t2 := t2.updN hU20 (fun g hg => by have := hk2 g hg; omega)
   have b7 := b7.upd hU20 (by omega)
   have m1a := m1a.updN hU20 (fun g hg => by have := hkm1a g hg; omega)
   have m1b := m1b.updN hU20 (fun g hg => by have := hkm1b g hg; omega)
   have b10 := b10.upd hU20 (by omega)
   have m2a := m2a.updN hU20 (fun g hg => by have := hkm2a g hg; omega)
   have m2b := m2b.updN hU20 (fun g hg => by have := hkm2b g hg; omega)
   have b13 := b13.upd hU20 (by omega)
   have m3a := m3a.updN hU20 (fun g hg => by have := hkm3a g hg; omega)
   have m3b := m3b.updN hU20 (fun g hg => by have := hkm3b g hg; omega)
   have b16 := b16.upd hU20 (by omega)
   have o1a := o1a.updN hU20 (fun g hg => by have := hko1a g hg; omega)
   have o1b := o1b.updN hU20 (fun g hg => by have := hko1b g hg; omega)
   have hz20 := hU20.size
   refine OPS.nil ?_
   change WP _ _ _ _ _ _
   refine W_seq ?_
   refine W_seq ?_
   refine D_begin_ mixed_ rfl rfl ?_
   intro w21 hB21 hz_21
   have hz21 := hB21.size
   have E := Below.step E hB21
   have hl_b1 := b1.lt
   have b1 := b1.below hB21
   have hl_b2 := b2.lt
   have b2 := b2.below hB21
   have t1 := t1.below hB21
   have hl_b4 := b4.lt
   have b4 := b4.below hB21
   have t2 := t2.below hB21
   have hl_b7 := b7.lt
   have b7 := b7.below hB21
   have m1a := m1a.below hB21
   have m1b := m1b.below hB21
   have hl_b10 := b10.lt
   have b10 := b10.below hB21
   have m2a := m2a.below hB21
   have m2b := m2b.below hB21
   have hl_b13 := b13.lt
   have b13 := b13.below hB21
   have m3a := m3a.below hB21
   have m3b := m3b.below hB21
   have hl_b16 := b16.lt
   have b16 := b16.below hB21
   have o1a := o1a.below hB21
   have o1b := o1b.below hB21
   have hl_b19 := b19.lt
   have b19 := b19.below hB21
   have hS_ : Below w21.heap.size w21 w21 := Below.refl _ _
   have E_S := E
   have b1_S := b1
   have b2_S := b2
   have t1_S := t1
   have b4_S := b4
   have t2_S := t2
   have b7_S := b7
   have m1a_S := m1a
   have m1b_S := m1b
   have b10_S := b10
   have m2a_S := m2a
   have m2b_S := m2b
   have b13_S := b13
   have m3a_S := m3a
   have m3b_S := m3b
   have b16_S := b16
   have o1a_S := o1a
   have o1b_S := o1b
   have b19_S := b19
   refine D_load (i := 0) (listed2 := (bm 34 1)) (by kernel_rfl) rfl rfl rfl (rfl) (fun _ hS2 => LD.blk ti_api_Rat (b10_S.below hS2) (l := [(.bool (if makeE s la t lb = 0 then makeQ (zv s la) (zv t lb) else noQ).neg), nm1, dm1]) rfl rfl) hS_ ?_
   refine D_load (i := 1) (listed2 := (bm 34 3)) (by kernel_rfl) rfl rfl rfl (rfl) (fun _ hS2 => LD.blk ti_api_Rat (b16_S.below hS2) (l := [(.bool (if makeE s la t lb = 0 then makeQ (zv s la) (zv t lb) else noQ).neg), nm3, dm3]) rfl rfl) hS_ ?_
   refine D_only (i := 2) (by kernel_rfl) (listed2 := (bm 34 7)) (by kernel_rfl) ?_
   refine S_call en_assayerlaw01_SameRat rfl rfl rfl (vs := [(.agg #[(.bool (if makeE s la t lb = 0 then makeQ (zv s la) (zv t lb) else noQ).neg), nm1, dm1]), (.agg #[(.bool (if makeE s la t lb = 0 then makeQ (zv s la) (zv t lb) else noQ).neg), nm3, dm3])]) (rfl) (sameRat_c _ (if makeE s la t lb = 0 then makeQ (zv s la) (zv t lb) else noQ).neg _ _ _ _ (if makeE s la t lb = 0 then makeQ (zv s la) (zv t lb) else noQ).n (if makeE s la t lb = 0 then makeQ (zv s la) (zv t lb) else noQ).d m1a.r m3a.r m1b.r m3b.r) ?_
   rintro _ w22 ⟨hB22, rfl⟩
   have hz22 := hB22.size
   have E := Below.step E hB22
   have hl_b1 := b1.lt
   have b1 := b1.below hB22
   have hl_b2 := b2.lt
   have b2 := b2.below hB22
   have t1 := t1.below hB22
   have hl_b4 := b4.lt
   have b4 := b4.below hB22
   have t2 := t2.below hB22
   have hl_b7 := b7.lt
   have b7 := b7.below hB22
   have m1a := m1a.below hB22
   have m1b := m1b.below hB22
   have hl_b10 := b10.lt
   have b10 := b10.below hB22
   have m2a := m2a.below hB22
   have m2b := m2b.below hB22
   have hl_b13 := b13.lt
   have b13 := b13.below hB22
   have m3a := m3a.below hB22
   have m3b := m3b.below hB22
   have hl_b16 := b16.lt
   have b16 := b16.below hB22
   have o1a := o1a.below hB22
   have o1b := o1b.below hB22
   have hl_b19 := b19.lt
   have b19 := b19.below hB22
   have hS_ := Below.step hS_ hB22
   refine OPS.nil ⟨hS_, ?_⟩
   refine D_not (i := 3) (listed2 := (bm 34 15)) (by kernel_rfl) rfl rfl rfl (rfl) hS_ ?_
   change DRW _ _ _ _ _ _ _ (upd _ _ (.bool false)) _
   refine D_move (i := 4) (listed2 := (bm 34 31)) (by kernel_rfl) rfl rfl rfl (v := (.bool false)) (rfl) hS_ ?_
   refine D_load (i := 5) (listed2 := (bm 34 63)) (by kernel_rfl) rfl rfl rfl (rfl) (fun _ hS2 => LD.blk ti_api_Rat (b13_S.below hS2) (l := [(.bool (if makeE s la t lb = 0 then makeQ (zv s la) (zv t lb) else noQ).neg), nm2, dm2]) rfl rfl) hS_ ?_
   refine D_load (i := 6) (listed2 := (bm 34 127)) (by kernel_rfl) rfl rfl rfl (rfl) (fun _ hS2 => LD.blk ti_api_Rat (b16_S.below hS2) (l := [(.bool (if makeE s la t lb = 0 then makeQ (zv s la) (zv t lb) else noQ).neg), nm3, dm3]) rfl rfl) hS_ ?_
   refine D_only (i := 7) (by kernel_rfl) (listed2 := (bm 34 255)) (by kernel_rfl) ?_
   refine S_call en_assayerlaw01_SameRat rfl rfl rfl (vs := [(.agg #[(.bool (if makeE s la t lb = 0 then makeQ (zv s la) (zv t lb) else noQ).neg), nm2, dm2]), (.agg #[(.bool (if makeE s la t lb = 0 then makeQ (zv s la) (zv t lb) else noQ).neg), nm3, dm3])]) (rfl) (sameRat_c _ (if makeE s la t lb = 0 then makeQ (zv s la) (zv t lb) else noQ).neg _ _ _ _ (if makeE s la t lb = 0 then makeQ (zv s la) (zv t lb) else noQ).n (if makeE s la t lb = 0 then makeQ (zv s la) (zv t lb) else noQ).d m2a.r m3a.r m2b.r m3b.r) ?_
   rintro _ w23 ⟨hB23, rfl⟩
   have hz23 := hB23.size
   have E := Below.step E hB23
   have hl_b1 := b1.lt
   have b1 := b1.below hB23
   have hl_b2 := b2.lt
   have b2 := b2.below hB23
   have t1 := t1.below hB23
   have hl_b4 := b4.lt
   have b4 := b4.below hB23
   have t2 := t2.below hB23
   have hl_b7 := b7.lt
   have b7 := b7.below hB23
   have m1a := m1a.below hB23
   have m1b := m1b.below hB23
   have hl_b10 := b10.lt
   have b10 := b10.below hB23
   have m2a := m2a.below hB23
   have m2b := m2b.below hB23
   have hl_b13 := b13.lt
   have b13 := b13.below hB23
   have m3a := m3a.below hB23
   have m3b := m3b.below hB23
   have hl_b16 := b16.lt
   have b16 := b16.below hB23
   have o1a := o1a.below hB23
   have o1b := o1b.below hB23
   have hl_b19 := b19.lt
   have b19 := b19.below hB23
   have hS_ := Below.step hS_ hB23
   refine OPS.nil ⟨hS_, ?_⟩
   refine D_not (i := 8) (listed2 := (bm 34 511)) (by kernel_rfl) rfl rfl rfl (rfl) hS_ ?_
   change DRW _ _ _ _ _ _ _ (upd _ _ (.bool false)) _
   refine D_pick (i := 9) (listed2 := (bm 34 1023)) (by kernel_rfl) rfl rfl rfl rfl rfl (b := false) (rfl) (v := (.bool false)) (rfl) hS_ ?_
   refine D_move (i := 10) (listed2 := (bm 34 2047)) (by kernel_rfl) rfl rfl rfl (v := (.bool false)) (rfl) hS_ ?_
   refine D_move (i := 11) (listed2 := (bm 34 4095)) (by kernel_rfl) rfl rfl rfl (v := (.int .i64 (makeE s la t lb))) (rfl) hS_ ?_
   refine D_move (i := 12) (listed2 := (bm 34 8191)) (by kernel_rfl) rfl rfl rfl (v := (.int .i64 (makeE s la t lb))) (rfl) hS_ ?_
   refine D_bin (i := 13) (listed2 := (bm 34 16383)) (by kernel_rfl) rfl rfl rfl rfl rfl (rfl) (rfl) (v := .bool false) (by simp [binV]) hS_ ?_
   refine D_pick (i := 14) (listed2 := (bm 34 32767)) (by kernel_rfl) rfl rfl rfl rfl rfl (b := false) (rfl) (v := (.bool false)) (rfl) hS_ ?_
   refine D_move (i := 15) (listed2 := (bm 34 65535)) (by kernel_rfl) rfl rfl rfl (v := (.bool false)) (rfl) hS_ ?_
   refine D_load (i := 16) (listed2 := (bm 34 131071)) (by kernel_rfl) rfl rfl rfl (rfl) (fun _ hS2 => LD.blk ti_api_Rat (b19_S.below hS2) (l := [(.bool (⟨decide (n < 0), dg n.natAbs, [1]⟩ : Q).neg), no1, do1]) rfl rfl) hS_ ?_
   refine D_move (i := 17) (listed2 := (bm 34 262143)) (by kernel_rfl) rfl rfl rfl (v := .int .i64 n) (rfl) hS_ ?_
   refine D_only (i := 18) (by kernel_rfl) (listed2 := (bm 34 524287)) (by kernel_rfl) ?_
   refine S_call en_assayerref03_Of rfl rfl rfl (vs := [.int .i64 n]) (rfl) (ref03Of_c _ n hn) ?_
   rintro _ w24 ⟨hB24, no2, do2, rfl, o2a, o2b, o2j⟩
   have hz24 := hB24.size
   have E := Below.step E hB24
   have hl_b1 := b1.lt
   have b1 := b1.below hB24
   have hl_b2 := b2.lt
   have b2 := b2.below hB24
   have t1 := t1.below hB24
   have hl_b4 := b4.lt
   have b4 := b4.below hB24
   have t2 := t2.below hB24
   have hl_b7 := b7.lt
   have b7 := b7.below hB24
   have m1a := m1a.below hB24
   have m1b := m1b.below hB24
   have hl_b10 := b10.lt
   have b10 := b10.below hB24
   have m2a := m2a.below hB24
   have m2b := m2b.below hB24
   have hl_b13 := b13.lt
   have b13 := b13.below hB24
   have m3a := m3a.below hB24
   have m3b := m3b.below hB24
   have hl_b16 := b16.lt
   have b16 := b16.below hB24
   have o1a := o1a.below hB24
   have o1b := o1b.below hB24
   have hl_b19 := b19.lt
   have b19 := b19.below hB24
   have hS_ := Below.step hS_ hB24
   have hko2a := o2a.bkB
   have hko2b := o2b.bkB
   refine OPS.nil ⟨hS_, ?_⟩
   refine D_only (i := 19) (by kernel_rfl) (listed2 := (bm 34 1048575)) (by kernel_rfl) ?_
   refine S_call en_assayerlaw01_SameRat rfl rfl rfl (vs := [(.agg #[(.bool (⟨decide (n < 0), dg n.natAbs, [1]⟩ : Q).neg), no1, do1]), (.agg #[.bool (⟨decide (n < 0), dg n.natAbs, [1]⟩ : Q).neg, no2, do2])]) (rfl) (sameRat_c _ (⟨decide (n < 0), dg n.natAbs, [1]⟩ : Q).neg _ _ _ _ (⟨decide (n < 0), dg n.natAbs, [1]⟩ : Q).n (⟨decide (n < 0), dg n.natAbs, [1]⟩ : Q).d o1a.r o2a.r o1b.r o2b.r) ?_
   rintro _ w25 ⟨hB25, rfl⟩
   have hz25 := hB25.size
   have E := Below.step E hB25
   have hl_b1 := b1.lt
   have b1 := b1.below hB25
   have hl_b2 := b2.lt
   have b2 := b2.below hB25
   have t1 := t1.below hB25
   have hl_b4 := b4.lt
   have b4 := b4.below hB25
   have t2 := t2.below hB25
   have hl_b7 := b7.lt
   have b7 := b7.below hB25
   have m1a := m1a.below hB25
   have m1b := m1b.below hB25
   have hl_b10 := b10.lt
   have b10 := b10.below hB25
   have m2a := m2a.below hB25
   have m2b := m2b.below hB25
   have hl_b13 := b13.lt
   have b13 := b13.below hB25
   have m3a := m3a.below hB25
   have m3b := m3b.below hB25
   have hl_b16 := b16.lt
   have b16 := b16.below hB25
   have o1a := o1a.below hB25
   have o1b := o1b.below hB25
   have hl_b19 := b19.lt
   have b19 := b19.below hB25
   have hS_ := Below.step hS_ hB25
   have o2a := o2a.below hB25
   have o2b := o2b.below hB25
   refine OPS.nil ⟨hS_, ?_⟩
   refine D_not (i := 20) (listed2 := (bm 34 2097151)) (by kernel_rfl) rfl rfl rfl (rfl) hS_ ?_
   change DRW _ _ _ _ _ _ _ (upd _ _ (.bool false)) _
   refine D_pick (i := 21) (listed2 := (bm 34 4194303)) (by kernel_rfl) rfl rfl rfl rfl rfl (b := false) (rfl) (v := (.bool false)) (rfl) hS_ ?_
   refine D_move (i := 22) (listed2 := (bm 34 8388607)) (by kernel_rfl) rfl rfl rfl (v := (.bool false)) (rfl) hS_ ?_
   refine D_load (i := 23) (listed2 := (bm 34 16777215)) (by kernel_rfl) rfl rfl rfl (rfl) (fun _ hS2 => LD.blk ti_api_Int (b4_S.below hS2) (l := [(.bool s), (.slice At1 (la).length ct1)]) rfl rfl) hS_ ?_
   refine D_load (i := 24) (listed2 := (bm 34 33554431)) (by kernel_rfl) rfl rfl rfl (rfl) (fun _ hS2 => LD.blk ti_api_Int (b1_S.below hS2) (l := [(.bool s), va]) rfl rfl) hS_ ?_
   refine D_only (i := 25) (by kernel_rfl) (listed2 := (bm 34 67108863)) (by kernel_rfl) ?_
   refine S_call en_assayerlaw01_LeftInt rfl rfl rfl (vs := [(.agg #[(.bool s), (.slice At1 (la).length ct1)]), (.agg #[(.bool s), va])]) (rfl) (leftInt_c _ s _ _ va la t1 (ha.below E)) ?_
   rintro _ w26 ⟨hB26, rfl⟩
   have hz26 := hB26.size
   have E := Below.step E hB26
   have hl_b1 := b1.lt
   have b1 := b1.below hB26
   have hl_b2 := b2.lt
   have b2 := b2.below hB26
   have t1 := t1.below hB26
   have hl_b4 := b4.lt
   have b4 := b4.below hB26
   have t2 := t2.below hB26
   have hl_b7 := b7.lt
   have b7 := b7.below hB26
   have m1a := m1a.below hB26
   have m1b := m1b.below hB26
   have hl_b10 := b10.lt
   have b10 := b10.below hB26
   have m2a := m2a.below hB26
   have m2b := m2b.below hB26
   have hl_b13 := b13.lt
   have b13 := b13.below hB26
   have m3a := m3a.below hB26
   have m3b := m3b.below hB26
   have hl_b16 := b16.lt
   have b16 := b16.below hB26
   have o1a := o1a.below hB26
   have o1b := o1b.below hB26
   have hl_b19 := b19.lt
   have b19 := b19.below hB26
   have hS_ := Below.step hS_ hB26
   have o2a := o2a.below hB26
   have o2b := o2b.below hB26
   refine OPS.nil ⟨hS_, ?_⟩
   refine D_not (i := 26) (listed2 := (bm 34 134217727)) (by kernel_rfl) rfl rfl rfl (rfl) hS_ ?_
   change DRW _ _ _ _ _ _ _ (upd _ _ (.bool false)) _
   refine D_pick (i := 27) (listed2 := (bm 34 268435455)) (by kernel_rfl) rfl rfl rfl rfl rfl (b := false) (rfl) (v := (.bool false)) (rfl) hS_ ?_
   refine D_move (i := 28) (listed2 := (bm 34 536870911)) (by kernel_rfl) rfl rfl rfl (v := (.bool false)) (rfl) hS_ ?_
   refine D_load (i := 29) (listed2 := (bm 34 1073741823)) (by kernel_rfl) rfl rfl rfl (rfl) (fun _ hS2 => LD.blk ti_api_Int (b7_S.below hS2) (l := [(.bool t), (.slice At2 (lb).length ct2)]) rfl rfl) hS_ ?_
   refine D_load (i := 30) (listed2 := (bm 34 2147483647)) (by kernel_rfl) rfl rfl rfl (rfl) (fun _ hS2 => LD.blk ti_api_Int (b2_S.below hS2) (l := [(.bool t), vb]) rfl rfl) hS_ ?_
   refine D_only (i := 31) (by kernel_rfl) (listed2 := (bm 34 4294967295)) (by kernel_rfl) ?_
   refine S_call en_assayerlaw01_LeftInt rfl rfl rfl (vs := [(.agg #[(.bool t), (.slice At2 (lb).length ct2)]), (.agg #[(.bool t), vb])]) (rfl) (leftInt_c _ t _ _ vb lb t2 (hb.below E)) ?_
   rintro _ w27 ⟨hB27, rfl⟩
   have hz27 := hB27.size
   have E := Below.step E hB27
   have hl_b1 := b1.lt
   have b1 := b1.below hB27
   have hl_b2 := b2.lt
   have b2 := b2.below hB27
   have t1 := t1.below hB27
   have hl_b4 := b4.lt
   have b4 := b4.below hB27
   have t2 := t2.below hB27
   have hl_b7 := b7.lt
   have b7 := b7.below hB27
   have m1a := m1a.below hB27
   have m1b := m1b.below hB27
   have hl_b10 := b10.lt
   have b10 := b10.below hB27
   have m2a := m2a.below hB27
   have m2b := m2b.below hB27
   have hl_b13 := b13.lt
   have b13 := b13.below hB27
   have m3a := m3a.below hB27
   have m3b := m3b.below hB27
   have hl_b16 := b16.lt
   have b16 := b16.below hB27
   have o1a := o1a.below hB27
   have o1b := o1b.below hB27
   have hl_b19 := b19.lt
   have b19 := b19.below hB27
   have hS_ := Below.step hS_ hB27
   have o2a := o2a.below hB27
   have o2b := o2b.below hB27
   refine OPS.nil ⟨hS_, ?_⟩
   refine D_not (i := 32) (listed2 := (bm 34 8589934591)) (by kernel_rfl) rfl rfl rfl (rfl) hS_ ?_
   change DRW _ _ _ _ _ _ _ (upd _ _ (.bool false)) _
   refine D_pick (i := 33) (listed2 := (bm 34 17179869183)) (by kernel_rfl) rfl rfl rfl rfl rfl (b := false) (rfl) (v := (.bool false)) (rfl) hS_ ?_
   refine D_done (by kernel_rfl) ?_
   change WP _ _ _ _ _ _
   refine W_cond rfl (b := false) (rfl) (fun h => (by cases h)) (fun _ => ?_)
   refine W_skip ?_
   change WP _ _ _ _ _ _
   refine W_seq ?_
   refine W_region rfl ?_
   refine S_build rfl rfl rfl (cs := [.int .i64 0, .slice none 0 0, .slice none 0 0, .slice none 0 0, .slice none 0 0, .slice none 0 0, .slice none 0 0, .slice none 0 0, .slice none 0 0, .slice none 0 0, .slice none 0 0, .slice none 0 0, .slice none 0 0]) (by kernel_rfl) ?_
   refine S_alloc ti_assayerlaw01_Book rfl rfl (cs := [.int .i64 0, .slice none 0 0, .slice none 0 0, .slice none 0 0, .slice none 0 0, .slice none 0 0, .slice none 0 0, .slice none 0 0, .slice none 0 0, .slice none 0 0, .slice none 0 0, .slice none 0 0, .slice none 0 0]) rfl ?_
   intro g28 w28 hg28 hs28 hB28 b28
   have hz28 := hB28.size
   have E := Below.step E hB28
   have hl_b1 := b1.lt
   have b1 := b1.below hB28
   have hl_b2 := b2.lt
   have b2 := b2.below hB28
   have t1 := t1.below hB28
   have hl_b4 := b4.lt
   have b4 := b4.below hB28
   have t2 := t2.below hB28
   have hl_b7 := b7.lt
   have b7 := b7.below hB28
   have m1a := m1a.below hB28
   have m1b := m1b.below hB28
   have hl_b10 := b10.lt
   have b10 := b10.below hB28
   have m2a := m2a.below hB28
   have m2b := m2b.below hB28
   have hl_b13 := b13.lt
   have b13 := b13.below hB28
   have hl_b16 := b16.lt
   have b16 := b16.below hB28
   have o1a := o1a.below hB28
   have o1b := o1b.below hB28
   have hl_b19 := b19.lt
   have b19 := b19.below hB28
   refine S_store ti_assayerlaw01_Book rfl rfl rfl rfl (g := g28) (o := 0) (rfl) (v := (.agg #[.int .i64 0, .slice none 0 0, .slice none 0 0, .slice none 0 0, .slice none 0 0, .slice none 0 0, .slice none 0 0, .slice none 0 0, .slice none 0 0, .slice none 0 0, .slice none 0 0, .slice none 0 0, .slice none 0 0])) (rfl) (vs := [.int .i64 0, .slice none 0 0, .slice none 0 0, .slice none 0 0, .slice none 0 0, .slice none 0 0, .slice none 0 0, .slice none 0 0, .slice none 0 0, .slice none 0 0, .slice none 0 0, .slice none 0 0, .slice none 0 0]) rfl rfl (by simp [Value.oneCell']) b28 (by simp) (cs' := [.int .i64 0, .slice none 0 0, .slice none 0 0, .slice none 0 0, .slice none 0 0, .slice none 0 0, .slice none 0 0, .slice none 0 0, .slice none 0 0, .slice none 0 0, .slice none 0 0, .slice none 0 0, .slice none 0 0]) rfl ?_
   intro w29 hU29 b28
   have E := Below.stepU E hU29 (by omega)
   have b1 := b1.upd hU29 (by omega)
   have b2 := b2.upd hU29 (by omega)
   have t1 := t1.updN hU29 (fun g hg => by have := hk1 g hg; omega)
   have b4 := b4.upd hU29 (by omega)
   have t2 := t2.updN hU29 (fun g hg => by have := hk2 g hg; omega)
   have b7 := b7.upd hU29 (by omega)
   have m1a := m1a.updN hU29 (fun g hg => by have := hkm1a g hg; omega)
   have m1b := m1b.updN hU29 (fun g hg => by have := hkm1b g hg; omega)
   have b10 := b10.upd hU29 (by omega)
   have m2a := m2a.updN hU29 (fun g hg => by have := hkm2a g hg; omega)
   have m2b := m2b.updN hU29 (fun g hg => by have := hkm2b g hg; omega)
   have b13 := b13.upd hU29 (by omega)
   have b16 := b16.upd hU29 (by omega)
   have o1a := o1a.updN hU29 (fun g hg => by have := hko1a g hg; omega)
   have o1b := o1b.updN hU29 (fun g hg => by have := hko1b g hg; omega)
   have b19 := b19.upd hU29 (by omega)
   have hz29 := hU29.size
   have HW := ((((((((((OWF.nil w0.heap.size w29 g28).cons (o := ovB g19 70 [(.bool (⟨decide (n < 0), dg n.natAbs, [1]⟩ : Q).neg), no1, do1]) (ovB_ok b19 (by omega)) box_bk (by omega) (by omega)).cons2 (o := ovN no1 (⟨decide (n < 0), dg n.natAbs, [1]⟩ : Q).n) (p := ovN do1 (⟨decide (n < 0), dg n.natAbs, [1]⟩ : Q).d) (ON.ov (ON.mono (o1a) (by omega))) (ON.ov (ON.mono (o1b) (by omega))) hko1a hko1b o1j (by omega) (by omega)).cons (o := ovB g13 70 [(.bool (if makeE s la t lb = 0 then makeQ (zv s la) (zv t lb) else noQ).neg), nm2, dm2]) (ovB_ok b13 (by omega)) box_bk (by omega) (by omega)).cons2 (o := ovN nm2 (if makeE s la t lb = 0 then makeQ (zv s la) (zv t lb) else noQ).n) (p := ovN dm2 (if makeE s la t lb = 0 then makeQ (zv s la) (zv t lb) else noQ).d) (ON.ov (ON.mono (m2a) (by omega))) (ON.ov (ON.mono (m2b) (by omega))) hkm2a hkm2b m2j (by omega) (by omega)).cons (o := ovB g10 70 [(.bool (if makeE s la t lb = 0 then makeQ (zv s la) (zv t lb) else noQ).neg), nm1, dm1]) (ovB_ok b10 (by omega)) box_bk (by omega) (by omega)).cons2 (o := ovN nm1 (if makeE s la t lb = 0 then makeQ (zv s la) (zv t lb) else noQ).n) (p := ovN dm1 (if makeE s la t lb = 0 then makeQ (zv s la) (zv t lb) else noQ).d) (ON.ov (ON.mono (m1a) (by omega))) (ON.ov (ON.mono (m1b) (by omega))) hkm1a hkm1b m1j (by omega) (by omega)).cons (o := ovB g7 25 [(.bool t), (.slice At2 (lb).length ct2)]) (ovB_ok b7 (by omega)) box_bk (by omega) (by omega)).cons (o := ovN (.slice At2 lb.length ct2) lb) (ON.ov (ON.mono (t2.on) (by omega))) hk2 (by omega) (by omega)).cons (o := ovB g4 25 [(.bool s), (.slice At1 (la).length ct1)]) (ovB_ok b4 (by omega)) box_bk (by omega) (by omega)).cons (o := ovN (.slice At1 la.length ct1) la) (ON.ov (ON.mono (t1.on) (by omega))) hk1 (by omega) (by omega)
   have HWP := OWN.perm HW.1 (M := [(ovN (.slice At1 la.length ct1) la), (ovN (.slice At2 lb.length ct2) lb), (ovN nm1 (if makeE s la t lb = 0 then makeQ (zv s la) (zv t lb) else noQ).n), (ovN dm1 (if makeE s la t lb = 0 then makeQ (zv s la) (zv t lb) else noQ).d), (ovN nm2 (if makeE s la t lb = 0 then makeQ (zv s la) (zv t lb) else noQ).n), (ovN dm2 (if makeE s la t lb = 0 then makeQ (zv s la) (zv t lb) else noQ).d), (ovN no1 (⟨decide (n < 0), dg n.natAbs, [1]⟩ : Q).n), (ovN do1 (⟨decide (n < 0), dg n.natAbs, [1]⟩ : Q).d), (ovB g4 25 [(.bool s), (.slice At1 (la).length ct1)]), (ovB g7 25 [(.bool t), (.slice At2 (lb).length ct2)]), (ovB g10 70 [(.bool (if makeE s la t lb = 0 then makeQ (zv s la) (zv t lb) else noQ).neg), nm1, dm1]), (ovB g13 70 [(.bool (if makeE s la t lb = 0 then makeQ (zv s la) (zv t lb) else noQ).neg), nm2, dm2]), (ovB g19 70 [(.bool (⟨decide (n < 0), dg n.natAbs, [1]⟩ : Q).neg), no1, do1])]) (pull (ovN (.slice At1 la.length ct1) la) [] [(ovB g4 25 [(.bool s), (.slice At1 (la).length ct1)]), (ovN (.slice At2 lb.length ct2) lb), (ovB g7 25 [(.bool t), (.slice At2 (lb).length ct2)]), (ovN nm1 (if makeE s la t lb = 0 then makeQ (zv s la) (zv t lb) else noQ).n), (ovN dm1 (if makeE s la t lb = 0 then makeQ (zv s la) (zv t lb) else noQ).d), (ovB g10 70 [(.bool (if makeE s la t lb = 0 then makeQ (zv s la) (zv t lb) else noQ).neg), nm1, dm1]), (ovN nm2 (if makeE s la t lb = 0 then makeQ (zv s la) (zv t lb) else noQ).n), (ovN dm2 (if makeE s la t lb = 0 then makeQ (zv s la) (zv t lb) else noQ).d), (ovB g13 70 [(.bool (if makeE s la t lb = 0 then makeQ (zv s la) (zv t lb) else noQ).neg), nm2, dm2]), (ovN no1 (⟨decide (n < 0), dg n.natAbs, [1]⟩ : Q).n), (ovN do1 (⟨decide (n < 0), dg n.natAbs, [1]⟩ : Q).d), (ovB g19 70 [(.bool (⟨decide (n < 0), dg n.natAbs, [1]⟩ : Q).neg), no1, do1])] (pull (ovN (.slice At2 lb.length ct2) lb) [(ovB g4 25 [(.bool s), (.slice At1 (la).length ct1)])] [(ovB g7 25 [(.bool t), (.slice At2 (lb).length ct2)]), (ovN nm1 (if makeE s la t lb = 0 then makeQ (zv s la) (zv t lb) else noQ).n), (ovN dm1 (if makeE s la t lb = 0 then makeQ (zv s la) (zv t lb) else noQ).d), (ovB g10 70 [(.bool (if makeE s la t lb = 0 then makeQ (zv s la) (zv t lb) else noQ).neg), nm1, dm1]), (ovN nm2 (if makeE s la t lb = 0 then makeQ (zv s la) (zv t lb) else noQ).n), (ovN dm2 (if makeE s la t lb = 0 then makeQ (zv s la) (zv t lb) else noQ).d), (ovB g13 70 [(.bool (if makeE s la t lb = 0 then makeQ (zv s la) (zv t lb) else noQ).neg), nm2, dm2]), (ovN no1 (⟨decide (n < 0), dg n.natAbs, [1]⟩ : Q).n), (ovN do1 (⟨decide (n < 0), dg n.natAbs, [1]⟩ : Q).d), (ovB g19 70 [(.bool (⟨decide (n < 0), dg n.natAbs, [1]⟩ : Q).neg), no1, do1])] (pull (ovN nm1 (if makeE s la t lb = 0 then makeQ (zv s la) (zv t lb) else noQ).n) [(ovB g4 25 [(.bool s), (.slice At1 (la).length ct1)]), (ovB g7 25 [(.bool t), (.slice At2 (lb).length ct2)])] [(ovN dm1 (if makeE s la t lb = 0 then makeQ (zv s la) (zv t lb) else noQ).d), (ovB g10 70 [(.bool (if makeE s la t lb = 0 then makeQ (zv s la) (zv t lb) else noQ).neg), nm1, dm1]), (ovN nm2 (if makeE s la t lb = 0 then makeQ (zv s la) (zv t lb) else noQ).n), (ovN dm2 (if makeE s la t lb = 0 then makeQ (zv s la) (zv t lb) else noQ).d), (ovB g13 70 [(.bool (if makeE s la t lb = 0 then makeQ (zv s la) (zv t lb) else noQ).neg), nm2, dm2]), (ovN no1 (⟨decide (n < 0), dg n.natAbs, [1]⟩ : Q).n), (ovN do1 (⟨decide (n < 0), dg n.natAbs, [1]⟩ : Q).d), (ovB g19 70 [(.bool (⟨decide (n < 0), dg n.natAbs, [1]⟩ : Q).neg), no1, do1])] (pull (ovN dm1 (if makeE s la t lb = 0 then makeQ (zv s la) (zv t lb) else noQ).d) [(ovB g4 25 [(.bool s), (.slice At1 (la).length ct1)]), (ovB g7 25 [(.bool t), (.slice At2 (lb).length ct2)])] [(ovB g10 70 [(.bool (if makeE s la t lb = 0 then makeQ (zv s la) (zv t lb) else noQ).neg), nm1, dm1]), (ovN nm2 (if makeE s la t lb = 0 then makeQ (zv s la) (zv t lb) else noQ).n), (ovN dm2 (if makeE s la t lb = 0 then makeQ (zv s la) (zv t lb) else noQ).d), (ovB g13 70 [(.bool (if makeE s la t lb = 0 then makeQ (zv s la) (zv t lb) else noQ).neg), nm2, dm2]), (ovN no1 (⟨decide (n < 0), dg n.natAbs, [1]⟩ : Q).n), (ovN do1 (⟨decide (n < 0), dg n.natAbs, [1]⟩ : Q).d), (ovB g19 70 [(.bool (⟨decide (n < 0), dg n.natAbs, [1]⟩ : Q).neg), no1, do1])] (pull (ovN nm2 (if makeE s la t lb = 0 then makeQ (zv s la) (zv t lb) else noQ).n) [(ovB g4 25 [(.bool s), (.slice At1 (la).length ct1)]), (ovB g7 25 [(.bool t), (.slice At2 (lb).length ct2)]), (ovB g10 70 [(.bool (if makeE s la t lb = 0 then makeQ (zv s la) (zv t lb) else noQ).neg), nm1, dm1])] [(ovN dm2 (if makeE s la t lb = 0 then makeQ (zv s la) (zv t lb) else noQ).d), (ovB g13 70 [(.bool (if makeE s la t lb = 0 then makeQ (zv s la) (zv t lb) else noQ).neg), nm2, dm2]), (ovN no1 (⟨decide (n < 0), dg n.natAbs, [1]⟩ : Q).n), (ovN do1 (⟨decide (n < 0), dg n.natAbs, [1]⟩ : Q).d), (ovB g19 70 [(.bool (⟨decide (n < 0), dg n.natAbs, [1]⟩ : Q).neg), no1, do1])] (pull (ovN dm2 (if makeE s la t lb = 0 then makeQ (zv s la) (zv t lb) else noQ).d) [(ovB g4 25 [(.bool s), (.slice At1 (la).length ct1)]), (ovB g7 25 [(.bool t), (.slice At2 (lb).length ct2)]), (ovB g10 70 [(.bool (if makeE s la t lb = 0 then makeQ (zv s la) (zv t lb) else noQ).neg), nm1, dm1])] [(ovB g13 70 [(.bool (if makeE s la t lb = 0 then makeQ (zv s la) (zv t lb) else noQ).neg), nm2, dm2]), (ovN no1 (⟨decide (n < 0), dg n.natAbs, [1]⟩ : Q).n), (ovN do1 (⟨decide (n < 0), dg n.natAbs, [1]⟩ : Q).d), (ovB g19 70 [(.bool (⟨decide (n < 0), dg n.natAbs, [1]⟩ : Q).neg), no1, do1])] (pull (ovN no1 (⟨decide (n < 0), dg n.natAbs, [1]⟩ : Q).n) [(ovB g4 25 [(.bool s), (.slice At1 (la).length ct1)]), (ovB g7 25 [(.bool t), (.slice At2 (lb).length ct2)]), (ovB g10 70 [(.bool (if makeE s la t lb = 0 then makeQ (zv s la) (zv t lb) else noQ).neg), nm1, dm1]), (ovB g13 70 [(.bool (if makeE s la t lb = 0 then makeQ (zv s la) (zv t lb) else noQ).neg), nm2, dm2])] [(ovN do1 (⟨decide (n < 0), dg n.natAbs, [1]⟩ : Q).d), (ovB g19 70 [(.bool (⟨decide (n < 0), dg n.natAbs, [1]⟩ : Q).neg), no1, do1])] (pull (ovN do1 (⟨decide (n < 0), dg n.natAbs, [1]⟩ : Q).d) [(ovB g4 25 [(.bool s), (.slice At1 (la).length ct1)]), (ovB g7 25 [(.bool t), (.slice At2 (lb).length ct2)]), (ovB g10 70 [(.bool (if makeE s la t lb = 0 then makeQ (zv s la) (zv t lb) else noQ).neg), nm1, dm1]), (ovB g13 70 [(.bool (if makeE s la t lb = 0 then makeQ (zv s la) (zv t lb) else noQ).neg), nm2, dm2])] [(ovB g19 70 [(.bool (⟨decide (n < 0), dg n.natAbs, [1]⟩ : Q).neg), no1, do1])] (List.Perm.refl _)))))))))
   have hkb : ∀ o ∈ [(ovN (.slice At1 la.length ct1) la), (ovN (.slice At2 lb.length ct2) lb), (ovN nm1 (if makeE s la t lb = 0 then makeQ (zv s la) (zv t lb) else noQ).n), (ovN dm1 (if makeE s la t lb = 0 then makeQ (zv s la) (zv t lb) else noQ).d), (ovN nm2 (if makeE s la t lb = 0 then makeQ (zv s la) (zv t lb) else noQ).n), (ovN dm2 (if makeE s la t lb = 0 then makeQ (zv s la) (zv t lb) else noQ).d), (ovN no1 (⟨decide (n < 0), dg n.natAbs, [1]⟩ : Q).n), (ovN do1 (⟨decide (n < 0), dg n.natAbs, [1]⟩ : Q).d), (ovB g4 25 [(.bool s), (.slice At1 (la).length ct1)]), (ovB g7 25 [(.bool t), (.slice At2 (lb).length ct2)]), (ovB g10 70 [(.bool (if makeE s la t lb = 0 then makeQ (zv s la) (zv t lb) else noQ).neg), nm1, dm1]), (ovB g13 70 [(.bool (if makeE s la t lb = 0 then makeQ (zv s la) (zv t lb) else noQ).neg), nm2, dm2]), (ovB g19 70 [(.bool (⟨decide (n < 0), dg n.natAbs, [1]⟩ : Q).neg), no1, do1])], bk o.v ≠ some g28 := fun o ho e => by
     simp only [List.mem_cons, List.not_mem_nil, or_false] at ho
     rcases ho with rfl | rfl | rfl | rfl | rfl | rfl | rfl | rfl | rfl | rfl | rfl | rfl | rfl
     · have := hk1 _ e; omega
     · have := hk2 _ e; omega
     · have := hkm1a _ e; omega
     · have := hkm1b _ e; omega
     · have := hkm2a _ e; omega
     · have := hkm2b _ e; omega
     · have := hko1a _ e; omega
     · have := hko1b _ e; omega
     · have := box_bk _ e; omega
     · have := box_bk _ e; omega
     · have := box_bk _ e; omega
     · have := box_bk _ e; omega
     · have := box_bk _ e; omega
   have HB : BK w0.heap.size g28 w29 0 [(ovN (.slice At1 la.length ct1) la), (ovN (.slice At2 lb.length ct2) lb), (ovN nm1 (if makeE s la t lb = 0 then makeQ (zv s la) (zv t lb) else noQ).n), (ovN dm1 (if makeE s la t lb = 0 then makeQ (zv s la) (zv t lb) else noQ).d), (ovN nm2 (if makeE s la t lb = 0 then makeQ (zv s la) (zv t lb) else noQ).n), (ovN dm2 (if makeE s la t lb = 0 then makeQ (zv s la) (zv t lb) else noQ).d), (ovN no1 (⟨decide (n < 0), dg n.natAbs, [1]⟩ : Q).n), (ovN do1 (⟨decide (n < 0), dg n.natAbs, [1]⟩ : Q).d), (ovB g4 25 [(.bool s), (.slice At1 (la).length ct1)]), (ovB g7 25 [(.bool t), (.slice At2 (lb).length ct2)]), (ovB g10 70 [(.bool (if makeE s la t lb = 0 then makeQ (zv s la) (zv t lb) else noQ).neg), nm1, dm1]), (ovB g13 70 [(.bool (if makeE s la t lb = 0 then makeQ (zv s la) (zv t lb) else noQ).neg), nm2, dm2]), (ovB g19 70 [(.bool (⟨decide (n < 0), dg n.natAbs, [1]⟩ : Q).neg), no1, do1])] := BK.start b28 HWP hkb (by omega)
   refine OPS.nil ?_
   change WP _ _ _ _ _ _
   refine W_seq ?_
   refine W_region rfl ?_
   refine S_load rfl rfl rfl (rfl) (LD.blk ti_api_Int b4 (l := [(.bool s), (.slice At1 (la).length ct1)]) rfl rfl) ?_
   refine S_call en_passayerlaw01_Book_Int rfl rfl rfl (vs := [(.pointer (some ⟨g28, 0, none⟩)), (.agg #[(.bool s), (.slice At1 (la).length ct1)])]) (rfl) (bookInt_c _ _ 0 _ _ _ _ HB (by omega) (by omega)) ?_
   rintro _ w30 ⟨hT, HB⟩
   have E := E.trans hT
   obtain ⟨rest0, bx0⟩ := box_get (HB.ok (o := ovB g7 25 [(.bool t), (.slice At2 (lb).length ct2)]) (by simp))
   refine OPS.nil ?_
   change WP _ _ _ _ _ _
   refine W_seq ?_
   refine W_region rfl ?_
   refine S_load rfl rfl rfl (rfl) (LD.blk ti_api_Int bx0 (l := [(.bool t), (.slice At2 (lb).length ct2)]) rfl rfl) ?_
   refine S_call en_passayerlaw01_Book_Int rfl rfl rfl (vs := [(.pointer (some ⟨g28, 0, none⟩)), (.agg #[(.bool t), (.slice At2 (lb).length ct2)])]) (rfl) (bookInt_c _ _ 1 _ _ _ _ HB (by omega) (by omega)) ?_
   rintro _ w31 ⟨hT, HB⟩
   have E := E.trans hT
   obtain ⟨rest1, bx1⟩ := box_get (HB.ok (o := ovB g10 70 [(.bool (if makeE s la t lb = 0 then makeQ (zv s la) (zv t lb) else noQ).neg), nm1, dm1]) (by simp))
   refine OPS.nil ?_
   change WP _ _ _ _ _ _
   refine W_seq ?_
   refine W_region rfl ?_
   refine S_load rfl rfl rfl (rfl) (LD.blk ti_api_Rat bx1 (l := [(.bool (if makeE s la t lb = 0 then makeQ (zv s la) (zv t lb) else noQ).neg), nm1, dm1]) rfl rfl) ?_
   refine S_call en_passayerlaw01_Book_Rat rfl rfl rfl (vs := [(.pointer (some ⟨g28, 0, none⟩)), (.agg #[(.bool (if makeE s la t lb = 0 then makeQ (zv s la) (zv t lb) else noQ).neg), nm1, dm1])]) (rfl) (bookRat_c _ _ 2 (⟨(if makeE s la t lb = 0 then makeQ (zv s la) (zv t lb) else noQ), nm1, dm1⟩ : RV) _ HB (by omega) hq1 hq2) ?_
   rintro _ w32 ⟨hT, HB⟩
   have E := E.trans hT
   obtain ⟨rest2, bx2⟩ := box_get (HB.ok (o := ovB g13 70 [(.bool (if makeE s la t lb = 0 then makeQ (zv s la) (zv t lb) else noQ).neg), nm2, dm2]) (by simp))
   refine OPS.nil ?_
   change WP _ _ _ _ _ _
   refine W_seq ?_
   refine W_region rfl ?_
   refine S_load rfl rfl rfl (rfl) (LD.blk ti_api_Rat bx2 (l := [(.bool (if makeE s la t lb = 0 then makeQ (zv s la) (zv t lb) else noQ).neg), nm2, dm2]) rfl rfl) ?_
   refine S_call en_passayerlaw01_Book_Rat rfl rfl rfl (vs := [(.pointer (some ⟨g28, 0, none⟩)), (.agg #[(.bool (if makeE s la t lb = 0 then makeQ (zv s la) (zv t lb) else noQ).neg), nm2, dm2])]) (rfl) (bookRat_c _ _ 4 (⟨(if makeE s la t lb = 0 then makeQ (zv s la) (zv t lb) else noQ), nm2, dm2⟩ : RV) _ HB (by omega) hq1 hq2) ?_
   rintro _ w33 ⟨hT, HB⟩
   have E := E.trans hT
   obtain ⟨rest3, bx3⟩ := box_get (HB.ok (o := ovB g19 70 [(.bool (⟨decide (n < 0), dg n.natAbs, [1]⟩ : Q).neg), no1, do1]) (by simp))
   refine OPS.nil ?_
   change WP _ _ _ _ _ _
   refine W_seq ?_
   refine W_region rfl ?_
   refine S_load rfl rfl rfl (rfl) (LD.blk ti_api_Rat bx3 (l := [(.bool (⟨decide (n < 0), dg n.natAbs, [1]⟩ : Q).neg), no1, do1]) rfl rfl) ?_
   refine S_call en_passayerlaw01_Book_Rat rfl rfl rfl (vs := [(.pointer (some ⟨g28, 0, none⟩)), (.agg #[(.bool (⟨decide (n < 0), dg n.natAbs, [1]⟩ : Q).neg), no1, do1])]) (rfl) (bookRat_c _ _ 6 (⟨(⟨decide (n < 0), dg n.natAbs, [1]⟩ : Q), no1, do1⟩ : RV) _ HB (by omega) hol (by show 1 ≤ 1000000000; decide)) ?_
   rintro _ w34 ⟨hT, HB⟩
   have E := E.trans hT
   refine OPS.nil ?_
   change WP _ _ _ _ _ _
   refine W_seq ?_
   refine W_region rfl ?_
   refine S_call en_passayerlaw01_Book_Apart rfl rfl rfl (vs := [(.pointer (some ⟨g28, 0, none⟩))]) (rfl) (apart_c _ _ _ _ HB) ?_
   rintro _ w35 ⟨hT, rfl⟩
   have E := E.trans hT
   refine S_assign rfl rfl rfl (v := (.bool true)) (rfl) ?_
   refine OPS.nil ?_
   change WP _ _ _ _ _ _
   refine W_ret ?_
   change Fin' _ _ _ _ _ _
   refine End1 (n := ⟨97, []⟩) (t := 6) rfl (by decide) (v := (.bool true)) (rfl) ?_
   exact ⟨E, rfl⟩

end Go.Proofs.YtccmicegihlfbaaGreatDoor

/- What a law's arguments are, read from the row's condition: numbers, fractions. -/
namespace Go.Proofs.YtccmicegihlfbaaGreatDoor
open Go.ChangeShapes Go.WideShapes Go.ChangeAt Go.RowKit
section
variable {H : Type} {enc : TypeId × Value → H} {W : World} {n base : Nat} {sp : Nat → Bool} {held : Bool} {cs : List Value} {x : DataW H × List MemPlace}
set_option maxRecDepth 100000 in
theorem nat_arg {v : Value} {d : DataW H} {p : List MemPlace} (hval : Value.okWide Tryz.prog W .any 0 23 v) (h : DataW.Trod enc Tryz.prog W base sp held 23 v d p) : ∃ l, RN 0 0 W v l := by
  obtain ⟨a, len, cap, rfl⟩ := okWide_slice Tryz.underlying23 hval
  obtain ⟨k, hk⟩ := h
  exact nat_of_trod hk
set_option maxRecDepth 100000 in
theorem i64_arg {T : TypeId} {v : Value} {d : DataW H} {p : List MemPlace} (hT : Tryz.prog.underlying T = some (.int .i64)) (hval : Value.okWide Tryz.prog W .any 0 T v) (h : DataW.Trod enc Tryz.prog W base sp held T v d p) : ∃ n : Int, v = .int .i64 n ∧ -9223372036854775808 ≤ n ∧ n ≤ 9223372036854775807 := by
  obtain ⟨n, rfl⟩ := okWide_int hT hval
  obtain ⟨k, hk⟩ := h
  obtain ⟨z, hz, _, hw⟩ := DataW.trod_int hT hk
  have hz' : [Value.int .i64 n] = [Value.int .i64 z] := hz
  simp only [List.cons.injEq, Value.int.injEq, and_true, true_and] at hz'
  subst hz'
  refine ⟨n, rfl, ?_⟩
  simpa [Lit.wf, IntKind.min, IntKind.max, IntKind.signed, IntKind.bits] using hw
end
end Go.Proofs.YtccmicegihlfbaaGreatDoor

/- 'assayer/assayerlaw03.RatsMakes' answers true for any two whole numbers and any number: the row and its tied card. Conditions: those of the row (the listed tables are laid as the program's text lays them). -/
namespace Go.Proofs.YtccmicegihlfbaaGreatDoor
open Go.ChangeShapes Go.WideShapes Go.ChangeAt Go.RowKit

/-- From the row's condition to the table. -/
theorem tab_of_laid {W : World} (h : laidMetH Tryz.prog Rows.ratsMakesRow.laid W) : Tab W := by
  rw [MakeChecks.laidMetH_plain _ _ _ (by kernel_rfl)] at h
  have ht := Go.Lib.tabIs_of_head (P := Tryz.prog) (W := W) (name := "math/bits.deBruijn32tab") (k := .u8) (zs := tab32.map Int.ofNat) (g := 1) (t := 235) (e := 5) (n := 32)
    (by kernel_rfl) (by kernel_rfl) Tryz.underlying235 Tryz.underlying5 (by kernel_rfl) (by kernel_rfl) h
  intro j hj
  have h2 := ht.cell (g := 1) (by kernel_rfl) j (by simpa [tab32] using hj)
  rw [h2, List.getD_eq_getElem?_getD, List.getD_eq_getElem?_getD, List.getElem?_map]
  have h3 : j < tab32.length := by simpa [tab32] using hj
  rw [List.getElem?_eq_getElem h3]
  rfl

theorem ownKnob_ : ownKnob Tryz.prog.godebug = none := by kernel_rfl
/-- The door's own heap meets the condition. -/
theorem law_door_met (os : Os) (args : Array Value) : laidMetH Tryz.prog Rows.ratsMakesRow.laid ((World.doorLaid Tryz.prog 400 os).forCall (fun _ _ => 0) ⟨#[], args, []⟩).memory := by
  rw [MakeChecks.laidMetH_plain _ _ _ (by kernel_rfl)]
  exact laidMet_of_run' 8 (by kernel_rfl) (by kernel_rfl)

set_option maxRecDepth 100000 in
theorem law_lifted (os : Os) (started : os.Started) (H : Type) (enc : TypeId × Value → H) :
    ReturnsInHanded {} Tryz.checked os 6 .any (fun w args => (Rows.ratsMakesSpec.pre enc Tryz.prog Tryz.f6 [] false w args ∧ laidMetH Tryz.prog Rows.ratsMakesRow.laid w) ∧ sizedMet enc Tryz.prog Tryz.f6 (OpenSpec.ofChange Rows.ratsMakesSpec) false w args)
      (Rows.ratsMakesSpec.post enc Tryz.prog Tryz.f6 false true false false) := by
  refine returnsInHanded_of_change_and (C := Tryz.checked) (X := fun w _ => laidMetH Tryz.prog Rows.ratsMakesRow.laid w) (fun _ _ _ hh h => h.of_heap hh) ownKnob_ started (by kernel_rfl) Tryz.func6
    (ChangeSpec.witness_shaped (enc := enc) (C := Tryz.checked) (os := os) (X := fun w _ => laidMetH Tryz.prog Rows.ratsMakesRow.laid w) false (World.doorLaid Tryz.prog 400 os) #[.agg #[.bool false, .slice none 0 0], .agg #[.bool false, .slice none 0 0], .int .i64 0] 8 rfl (World.shaped_of_RefB (by kernel_rfl) (by kernel_rfl)) (by kernel_rfl) (by kernel_rfl) (by kernel_rfl) (law_door_met os _)) ?_
  intro W base args ds gs before hval0 hW hx1 hx2 hL hx3
  have hval : ∀ (j : Nat) t v, Tryz.f6.params[j]? = some t → args[j]? = some v → Value.okWide Tryz.prog W .any base t v := hval0
  have hW' := hW
  obtain ⟨p, q, hA0, hV, rfl, hfz, hnd⟩ := hW
  have hA : DataW.TrodAll enc Tryz.prog W 0 (fun _ => true) true Tryz.f6.params.toList args.toList ds p := hA0
  rw [Tryz.params6] at hA hval
  obtain ⟨v0, v1, v2, d0, d1, d2, p0, p1, p2, rfl, rfl, rfl, h0, h1, h2⟩ := trodAll_three hA
  obtain ⟨rfl, rfl⟩ := trodVars_none hV
  obtain ⟨s, va, la, rfl, ha⟩ := int_arg (hval 0 25 v0 rfl rfl) h0
  obtain ⟨t, vb, lb, rfl, hb⟩ := int_arg (hval 1 25 v1 rfl rfl) h1
  obtain ⟨n, rfl, hn⟩ := i64_arg Tryz.underlying2 (hval 2 2 v2 rfl rfl) h2
  clear hA0 hval0
  refine Calls.mono (ratsMakes_c W s t va vb la lb n ha hb hn (by first | exact tab_of_laid hx1 | exact tab_of_laid hx2 | exact tab_of_laid hL | exact tab_of_laid hx3)) fun e W' h => ?_
  obtain ⟨v, he, hB, hv⟩ := h
  subst he
  subst hv
  refine ⟨_, rfl, post_true laid_ full_ hW' rfl rfl (show Tryz.f6.resultTypes = #[4] by kernel_rfl) Tryz.underlying4 (fun u hu => ?_) hB⟩
  rw [Tryz.params6] at hu
  simp only [List.mem_cons, List.not_mem_nil, or_false] at hu
  rcases hu with rfl | rfl | rfl
  · exact some_of (by kernel_rfl) (of_decide_eq_true (by kernel_rfl))
  · exact some_of (by kernel_rfl) (of_decide_eq_true (by kernel_rfl))
  · exact some_of (by kernel_rfl) (of_decide_eq_true (by kernel_rfl))

theorem ratsMakes_holds : Rows.RatsMakesSaid :=
  OpenClaim.holds_of_wide 6 Tryz.f6 rfl rfl rfl rfl rfl rfl rfl ⟨rfl, rfl, rfl, rfl, rfl⟩ rfl rfl rfl rfl rfl (by kernel_rfl) Tryz.func6 (by kernel_rfl)
    (of_decide_eq_true (by kernel_rfl)) (by unfold Func.isWrapper; first | (rw [if_pos (by decide +kernel)]; kernel_rfl) | (rw [if_neg (by decide +kernel)]; exact ⟨rfl, rfl⟩))
    (fun os started H enc _ => law_lifted os started H enc)

/-- The tied card. -/
theorem ratsMakes_card : Rows.RatsMakesCardSaid :=
  Claim7.holds_tied_plain_at .later [] [.data, .data, .data] true Rows.ratsMakesCard.stood.harness false
    ratsMakes_holds (fun _ h => by cases h) (by kernel_rfl) (fun _ h => by cases h) ratsMakes_row_tie rfl ⟨rfl, rfl⟩ (by kernel_rfl) rfl
    (fun f fn hf hfn => by
      obtain rfl : f = 6 := Option.some.inj ((show Tryz.prog.funcNamed "assayer/assayerlaw03.RatsMakes" = some 6 by kernel_rfl).symm.trans hf) |>.symm
      obtain rfl : fn = Tryz.f6 := (Option.some.inj (Tryz.func6.symm.trans hfn)).symm
      exact ⟨by kernel_rfl, fun j t ht => by
        rw [Tryz.params6] at ht
        have hm : t ∈ [25, 25, 2] := by simpa using Array.mem_of_getElem? ht
        have hall : ([25, 25, 2].all fun u => !Tryz.prog.wantsStandIn u) = true := by kernel_rfl
        exact (show Tryz.prog.wantsStandIn t = false by simpa using List.all_eq_true.1 hall t hm)⟩)
    (by kernel_rfl)
#print axioms ratsMakes_card
end Go.Proofs.YtccmicegihlfbaaGreatDoor
