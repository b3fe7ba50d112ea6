import Derived.Test.YtccmicegihlfbaaGreatDoorRm3
set_option linter.unusedVariables false
set_option linter.unusedSimpArgs false

/- Whole numbers: order, sums, differences, products. -/
namespace Go.Proofs.YtccmicegihlfbaaGreatDoor
open Go.RowKit


section
variable {P : Program} {n : NF} {ops : Array Oper} {K : (Nat → Value) → World → Prop} {σ : Nat → Value} {w : World} {i : Nat} {rest : List Nat}
variable {d : Nat} {t : TypeId} {p : String} {af : Array Edge} {gd : Option (Nat × Bool)} {x y : Operand}
/-- A method, bound to its receiver. -/
theorem S_makeBound {fn : Fn} {y : Operand} (ho : ops[i]? = some { dst := some d, op := .makeFunc fn #[y] #[], type := t, pos := p, after := af, guard := gd }) (hw : wg n ops σ gd = true)
    (hy : tok n y = true) {v : Value} (hv : sv σ y = v) (h : OPS P n ops K rest (upd σ d (.func fn #[v] #[])) w) : OPS P n ops K (i :: rest) σ w := by
  refine OPS.step ho hw rfl ?_ h
  simp [execOp, Instr.makeFunc, eval_act hy, hv]
theorem S_callBound {f : FuncId} {v : Value} {ars : Array Operand} {ats : Array TypeId} (hf : En P f)
    (ho : ops[i]? = some { dst := some d, op := .call { callee := .value x, args := ars, argTypes := ats }, type := t, pos := p, after := af, guard := gd })
    (hw : wg n ops σ gd = true) (hx0 : tok n x = true) (hx : ars.toList.all (tok n) = true) (hv : sv σ x = .func (.func f) #[v] #[]) {vs : List Value} (hvs : v :: ars.toList.map (sv σ) = vs) {R : Value → World → Prop} (hc : Ret P f vs w R)
    (h : ∀ v w', R v w' → OPS P n ops K rest (upd σ d v) w') : OPS P n ops K (i :: rest) σ w := by
  have hr : (execOp (act n σ).eval { dst := some d, op := .call { callee := .value x, args := ars, argTypes := ats }, type := t, pos := p, after := af, guard := gd }).run P w = .ok (.enter f vs.toArray) w := by
    have := run_call (P := P) (w := w) hf vs.toArray
    subst hvs
    simp [execOp, resolve, args_eval hx, eval_act hx0, hv, Deferred.ofValue, invoke]
    exact this
  unfold OPS at *
  intro m
  simp only [wpOpsIn, ho, wanted_wg, hw, if_true]
  refine ⟨fun f _ => trivial, ?_⟩
  rw [show Fence.wide.round = none from rfl, Oper.semAt_none, hr, Oper.uponIn_enter]
  refine ⟨fun h => by simp [Fence.wide] at h, CallsIn.mono (callsIn_wide.2 hc) ?_⟩
  rintro e w' ⟨v, rfl, hv⟩
  simp only [put_act]
  exact h v w' hv m
end

set_option maxHeartbeats 400000 in
theorem intsPlus_c (w0 : World) (x y : Int) (vx vy : Value) {a b a' b' : Nat} (hx : RN a b w0 vx (dg x.natAbs)) (hy : RN a' b' w0 vy (dg y.natAbs)) (hsx : (dg x.natAbs).length ≤ SZ) (hsy : (dg y.natAbs).length ≤ SZ) :
    Ret Tryz.prog 87 [.agg #[.bool (decide (x < 0)), vx], .agg #[.bool (decide (y < 0)), vy]] w0 (fun r w1 => Below w0.heap.size w0 w1 ∧ ∃ v, r = .agg #[.bool (decide (x + y < 0)), v] ∧ ON w0.heap.size w1 v (dg (x + y).natAbs)) := by
 have E := Below.refl w0.heap.size w0
 refine Ret_of (n := 40) Tryz.func87 rfl rfl (Nat.le_of_ble_eq_true rfl) ?_
 refine W_seq ?_
 refine W_region rfl ?_
 refine S_box rfl rfl rfl (v := .agg #[.bool (decide (x < 0)), vx]) (rfl) (cs := [(.bool (decide (x < 0))), vx]) rfl ?_
 intro g1 w1 hg1 hs1 hB1 b1
 have hz1 := hB1.size
 have E := Below.step E hB1
 refine S_box rfl rfl rfl (v := .agg #[.bool (decide (y < 0)), vy]) (rfl) (cs := [(.bool (decide (y < 0))), vy]) rfl ?_
 intro g2 w2 hg2 hs2 hB2 b2
 have hz2 := hB2.size
 have E := Below.step E hB2
 have hl_b1 := b1.lt
 have b1 := b1.below hB2
 refine S_alloc ti_api_Int rfl rfl (cs := [.bool false, .slice none 0 0]) rfl ?_
 intro g3 w3 hg3 hs3 hB3 b3
 have hz3 := hB3.size
 have E := Below.step E hB3
 have hl_b1 := b1.lt
 have b1 := b1.below hB3
 have hl_b2 := b2.lt
 have b2 := b2.below hB3
 refine OPS.nil ?_
 change WP _ _ _ _ _ _
 refine W_seq ?_
 refine W_seq ?_
 refine W_region rfl ?_
 refine S_field ft_ints_whole_0 rfl rfl rfl (g := g1) (o := 0) (rfl) (o' := 0) rfl ?_
 refine S_load rfl rfl rfl (rfl) (LD.blk1 ti_bool b1 (v := (.bool (decide (x < 0)))) rfl) ?_
 refine S_field ft_ints_whole_0 rfl rfl rfl (g := g2) (o := 0) (rfl) (o' := 0) rfl ?_
 refine S_load rfl rfl rfl (rfl) (LD.blk1 ti_bool b2 (v := (.bool (decide (y < 0)))) rfl) ?_
 refine S_beq Tryz.underlying4 rfl rfl rfl rfl (rfl) (rfl) (c := ((decide (x < 0)) == (decide (y < 0)))) (rfl) ?_
 refine OPS.nil ?_
 change WP _ _ _ _ _ _
 refine W_cond rfl (rfl) (fun hq11 => ?_) (fun hq11 => ?_)
 ·skip
  have pT := hq11
  skip
  try rw [pT]
  refine W_seq ?_
  refine D_begin_ mixed_ rfl rfl ?_
  intro w4 hB4 hz_4
  have hz4 := hB4.size
  have E := Below.step E hB4
  have hl_b1 := b1.lt
  have b1 := b1.below hB4
  have hl_b2 := b2.lt
  have b2 := b2.below hB4
  have hl_b3 := b3.lt
  have b3 := b3.below hB4
  have hS_ : Below w4.heap.size w4 w4 := Below.refl _ _
  have E_S := E
  have b1_S := b1
  have b2_S := b2
  have b3_S := b3
  refine D_field ft_ints_whole_0 (i := 0) (listed2 := (bm 9 1)) (by kernel_rfl) rfl rfl rfl (g := g1) (o := 0) (rfl) (o' := 0) rfl hS_ ?_
  refine D_load (i := 1) (listed2 := (bm 9 3)) (by kernel_rfl) rfl rfl rfl (rfl) (fun _ hS2 => LD.blk1 ti_bool (b1_S.below hS2) (v := (.bool (decide (x < 0)))) rfl) hS_ ?_
  refine D_field ft_ints_whole_1 (i := 2) (listed2 := (bm 9 7)) (by kernel_rfl) rfl rfl rfl (g := g1) (o := 0) (rfl) (o' := 1) rfl hS_ ?_
  refine D_load (i := 3) (listed2 := (bm 9 15)) (by kernel_rfl) rfl rfl rfl (rfl) (fun _ hS2 => LD.blk1 ti_api_Nat (b1_S.below hS2) (v := vx) rfl) hS_ ?_
  refine D_field ft_ints_whole_1 (i := 4) (listed2 := (bm 9 31)) (by kernel_rfl) rfl rfl rfl (g := g2) (o := 0) (rfl) (o' := 1) rfl hS_ ?_
  refine D_load (i := 5) (listed2 := (bm 9 63)) (by kernel_rfl) rfl rfl rfl (rfl) (fun _ hS2 => LD.blk1 ti_api_Nat (b2_S.below hS2) (v := vy) rfl) hS_ ?_
  refine D_only (i := 6) (by kernel_rfl) (listed2 := (bm 9 127)) (by kernel_rfl) ?_
  refine S_call en_nats_Add rfl rfl rfl (vs := [vx, vy]) (rfl) (natsAdd_d (hx.below E) (hy.below E) hsx hsy) ?_
  rintro vh1 w5 ⟨hB5, h1⟩
  have hz5 := hB5.size
  have E := Below.step E hB5
  have hl_b1 := b1.lt
  have b1 := b1.below hB5
  have hl_b2 := b2.lt
  have b2 := b2.below hB5
  have hl_b3 := b3.lt
  have b3 := b3.below hB5
  have hS_ := Below.step hS_ hB5
  refine OPS.nil ⟨hS_, ?_⟩
  refine D_last (i := 7) (f := 9) (by kernel_rfl) (by kernel_rfl) (listed2 := (bm 9 255)) (by kernel_rfl) ?_
  refine S_call en_ints_signed rfl rfl rfl (vs := [(.bool (decide (x < 0))), vh1]) (rfl) (intsSigned_c _ (decide (x < 0)) vh1 (dg (x.natAbs + y.natAbs)) h1.r) ?_
  rintro _ w6 ⟨hB6, rfl⟩
  have hz6 := hB6.size
  have E := Below.step E hB6
  have hl_b1 := b1.lt
  have b1 := b1.below hB6
  have hl_b2 := b2.lt
  have b2 := b2.below hB6
  have hl_b3 := b3.lt
  have b3 := b3.below hB6
  have h1 := h1.below hB6
  refine OPS.nil ?_
  refine D_last (i := 8) (f := 9) (by kernel_rfl) (by kernel_rfl) (listed2 := (bm 9 511)) (by kernel_rfl) ?_
  refine S_store ti_api_Int rfl rfl rfl rfl (g := g3) (o := 0) (rfl) (v := (.agg #[.bool ((decide (x < 0)) && !((dg (x.natAbs + y.natAbs))).isEmpty), vh1])) (rfl) (vs := [(.bool ((decide (x < 0)) && !((dg (x.natAbs + y.natAbs))).isEmpty)), vh1]) rfl rfl (one2 (rfl) (h1.r.one_)) b3 (by simp) (cs' := [(.bool ((decide (x < 0)) && !((dg (x.natAbs + y.natAbs))).isEmpty)), vh1]) rfl ?_
  intro w7 hU7 b3
  have E := Below.stepU E hU7 (by omega)
  have b1 := b1.upd hU7 (by omega)
  have b2 := b2.upd hU7 (by omega)
  have h1 := h1.upd hU7 (by omega) (by omega)
  have hz7 := hU7.size
  refine OPS.nil ?_
  refine D_done (by kernel_rfl) ?_
  change WP _ _ _ _ _ _
  refine W_ret ?_
  change Fin' _ _ _ _ _ _
  refine EndC (n := ⟨40, []⟩) (t := 4) rfl (by decide) (rfl) (LD.blk ti_api_Int b3 (l := [(.bool ((decide (x < 0)) && !((dg (x.natAbs + y.natAbs))).isEmpty)), vh1]) rfl rfl) ?_
  have h9 := sum_same (x := x) (y := y) (eq_of_beq pT)
  exact ⟨E, vh1, by rw [h9.1], by rw [← h9.2]; exact h1.mono (by omega)⟩
 ·skip
  have pF := hq11
  skip
  try rw [pF]
  refine W_skip ?_
  change WP _ _ _ _ _ _
  refine W_seq ?_
  refine W_seq ?_
  refine W_region rfl ?_
  refine S_field ft_ints_whole_1 rfl rfl rfl (g := g1) (o := 0) (rfl) (o' := 1) rfl ?_
  refine S_load rfl rfl rfl (rfl) (LD.blk1 ti_api_Nat b1 (v := vx) rfl) ?_
  refine S_field ft_ints_whole_1 rfl rfl rfl (g := g2) (o := 0) (rfl) (o' := 1) rfl ?_
  refine S_load rfl rfl rfl (rfl) (LD.blk1 ti_api_Nat b2 (v := vy) rfl) ?_
  refine S_call en_nats_Cmp rfl rfl rfl (vs := [vx, vy]) (rfl) (natsCmp_d (hx.below E) (hy.below E)) ?_
  rintro _ w8 ⟨hB8, rfl⟩
  have hz8 := hB8.size
  have E := Below.step E hB8
  have hl_b1 := b1.lt
  have b1 := b1.below hB8
  have hl_b2 := b2.lt
  have b2 := b2.below hB8
  have hl_b3 := b3.lt
  have b3 := b3.below hB8
  refine S_bin rfl rfl rfl rfl rfl (rfl) (rfl) (v := .bool (decide ((cmpN x.natAbs y.natAbs) < 0))) rfl ?_
  refine OPS.nil ?_
  change WP _ _ _ _ _ _
  refine W_cond rfl (rfl) (fun hq25 => ?_) (fun hq25 => ?_)
  ·skip
   have pFT := hq25
   replace hq25 := of_decide_eq_true hq25
   have qFT := hq25
   have hle : x.natAbs ≤ y.natAbs := Nat.le_of_lt (cmpN_lt0.1 qFT)
   try rw [pFT]
   refine W_region rfl ?_
   refine S_load rfl rfl rfl (rfl) (LD.blk ti_ints_whole b2 (l := [(.bool (decide (y < 0))), vy]) rfl rfl) ?_
   refine S_load rfl rfl rfl (rfl) (LD.blk ti_ints_whole b1 (l := [(.bool (decide (x < 0))), vx]) rfl rfl) ?_
   refine S_store ti_ints_whole rfl rfl rfl rfl (g := g1) (o := 0) (rfl) (v := (.agg #[(.bool (decide (y < 0))), vy])) (rfl) (vs := [(.bool (decide (y < 0))), vy]) rfl rfl (one2 (rfl) (hy.one_)) b1 (by simp) (cs' := [(.bool (decide (y < 0))), vy]) rfl ?_
   intro w9 hU9 b1
   have E := Below.stepU E hU9 (by omega)
   have b2 := b2.upd hU9 (by omega)
   have b3 := b3.upd hU9 (by omega)
   have hz9 := hU9.size
   refine S_store ti_ints_whole rfl rfl rfl rfl (g := g2) (o := 0) (rfl) (v := (.agg #[(.bool (decide (x < 0))), vx])) (rfl) (vs := [(.bool (decide (x < 0))), vx]) rfl rfl (one2 (rfl) (hx.one_)) b2 (by simp) (cs' := [(.bool (decide (x < 0))), vx]) rfl ?_
   intro w10 hU10 b2
   have E := Below.stepU E hU10 (by omega)
   have b1 := b1.upd hU10 (by omega)
   have b3 := b3.upd hU10 (by omega)
   have hz10 := hU10.size
   refine OPS.nil ?_
   change WP _ _ _ _ _ _
   refine W_seq ?_
   refine W_region rfl ?_
   refine S_field ft_ints_whole_1 rfl rfl rfl (g := g1) (o := 0) (rfl) (o' := 1) rfl ?_
   refine S_load rfl rfl rfl (rfl) (LD.blk1 ti_api_Nat b1 (v := vy) rfl) ?_
   refine S_field ft_ints_whole_1 rfl rfl rfl (g := g2) (o := 0) (rfl) (o' := 1) rfl ?_
   refine S_load rfl rfl rfl (rfl) (LD.blk1 ti_api_Nat b2 (v := vx) rfl) ?_
   refine S_call en_nats_Sub rfl rfl rfl (vs := [vy, vx]) (rfl) (natsSub_d (hy.below E) (hx.below E) hsy hle) ?_
   rintro _ w11 ⟨hB11, vh1, rfl, h1⟩
   have hz11 := hB11.size
   have E := Below.step E hB11
   have hl_b1 := b1.lt
   have b1 := b1.below hB11
   have hl_b2 := b2.lt
   have b2 := b2.below hB11
   have hl_b3 := b3.lt
   have b3 := b3.below hB11
   refine S_move rfl rfl rfl (v := (.tuple #[vh1, .int .i64 0])) (rfl) ?_
   refine S_extract rfl rfl rfl (rfl) rfl ?_
   refine S_extract rfl rfl rfl (rfl) rfl ?_
   refine S_assign rfl rfl rfl (v := vh1) (rfl) ?_
   refine S_assign rfl rfl rfl (v := (.int .i64 0)) (rfl) ?_
   refine OPS.nil ?_
   change WP _ _ _ _ _ _
   refine W_seq ?_
   refine W_region rfl ?_
   refine S_field ft_ints_whole_0 rfl rfl rfl (g := g1) (o := 0) (rfl) (o' := 0) rfl ?_
   refine S_load rfl rfl rfl (rfl) (LD.blk1 ti_bool b1 (v := (.bool (decide (y < 0)))) rfl) ?_
   refine S_move rfl rfl rfl (v := vh1) (rfl) ?_
   refine S_call en_ints_signed rfl rfl rfl (vs := [(.bool (decide (y < 0))), vh1]) (rfl) (intsSigned_c _ (decide (y < 0)) vh1 (dg (y.natAbs - x.natAbs)) h1.r) ?_
   rintro _ w12 ⟨hB12, rfl⟩
   have hz12 := hB12.size
   have E := Below.step E hB12
   have hl_b1 := b1.lt
   have b1 := b1.below hB12
   have hl_b2 := b2.lt
   have b2 := b2.below hB12
   have hl_b3 := b3.lt
   have b3 := b3.below hB12
   have h1 := h1.below hB12
   refine S_store ti_api_Int rfl rfl rfl rfl (g := g3) (o := 0) (rfl) (v := (.agg #[.bool ((decide (y < 0)) && !((dg (y.natAbs - x.natAbs))).isEmpty), vh1])) (rfl) (vs := [(.bool ((decide (y < 0)) && !((dg (y.natAbs - x.natAbs))).isEmpty)), vh1]) rfl rfl (one2 (rfl) (h1.r.one_)) b3 (by simp) (cs' := [(.bool ((decide (y < 0)) && !((dg (y.natAbs - x.natAbs))).isEmpty)), vh1]) rfl ?_
   intro w13 hU13 b3
   have E := Below.stepU E hU13 (by omega)
   have b1 := b1.upd hU13 (by omega)
   have b2 := b2.upd hU13 (by omega)
   have h1 := h1.upd hU13 (by omega) (by omega)
   have hz13 := hU13.size
   refine OPS.nil ?_
   change WP _ _ _ _ _ _
   refine W_ret ?_
   change Fin' _ _ _ _ _ _
   refine EndC (n := ⟨40, []⟩) (t := 4) rfl (by decide) (rfl) (LD.blk ti_api_Int b3 (l := [(.bool ((decide (y < 0)) && !((dg (y.natAbs - x.natAbs))).isEmpty)), vh1]) rfl rfl) ?_
   have h9 := sum_diff (x := y) (y := x) (ne_of_beq_false pF).symm hle
   rw [Int.add_comm x y]
   exact ⟨E, vh1, by rw [h9.1], by rw [← h9.2]; exact h1.mono (by omega)⟩
  ·skip
   have pFF := hq25
   replace hq25 := of_decide_eq_false hq25
   have qFF := hq25
   have hle : y.natAbs ≤ x.natAbs := by
     have := mt cmpN_lt0.2 qFF
     omega
   try rw [pFF]
   refine W_skip ?_
   change WP _ _ _ _ _ _
   refine W_seq ?_
   refine W_region rfl ?_
   refine S_field ft_ints_whole_1 rfl rfl rfl (g := g1) (o := 0) (rfl) (o' := 1) rfl ?_
   refine S_load rfl rfl rfl (rfl) (LD.blk1 ti_api_Nat b1 (v := vx) rfl) ?_
   refine S_field ft_ints_whole_1 rfl rfl rfl (g := g2) (o := 0) (rfl) (o' := 1) rfl ?_
   refine S_load rfl rfl rfl (rfl) (LD.blk1 ti_api_Nat b2 (v := vy) rfl) ?_
   refine S_call en_nats_Sub rfl rfl rfl (vs := [vx, vy]) (rfl) (natsSub_d (hx.below E) (hy.below E) hsx hle) ?_
   rintro _ w14 ⟨hB14, vh1, rfl, h1⟩
   have hz14 := hB14.size
   have E := Below.step E hB14
   have hl_b1 := b1.lt
   have b1 := b1.below hB14
   have hl_b2 := b2.lt
   have b2 := b2.below hB14
   have hl_b3 := b3.lt
   have b3 := b3.below hB14
   refine S_move rfl rfl rfl (v := (.tuple #[vh1, .int .i64 0])) (rfl) ?_
   refine S_extract rfl rfl rfl (rfl) rfl ?_
   refine S_extract rfl rfl rfl (rfl) rfl ?_
   refine S_assign rfl rfl rfl (v := vh1) (rfl) ?_
   refine S_assign rfl rfl rfl (v := (.int .i64 0)) (rfl) ?_
   refine OPS.nil ?_
   change WP _ _ _ _ _ _
   refine W_seq ?_
   refine W_region rfl ?_
   refine S_field ft_ints_whole_0 rfl rfl rfl (g := g1) (o := 0) (rfl) (o' := 0) rfl ?_
   refine S_load rfl rfl rfl (rfl) (LD.blk1 ti_bool b1 (v := (.bool (decide (x < 0)))) rfl) ?_
   refine S_move rfl rfl rfl (v := vh1) (rfl) ?_
   refine S_call en_ints_signed rfl rfl rfl (vs := [(.bool (decide (x < 0))), vh1]) (rfl) (intsSigned_c _ (decide (x < 0)) vh1 (dg (x.natAbs - y.natAbs)) h1.r) ?_
   rintro _ w15 ⟨hB15, rfl⟩
   have hz15 := hB15.size
   have E := Below.step E hB15
   have hl_b1 := b1.lt
   have b1 := b1.below hB15
   have hl_b2 := b2.lt
   have b2 := b2.below hB15
   have hl_b3 := b3.lt
   have b3 := b3.below hB15
   have h1 := h1.below hB15
   refine S_store ti_api_Int rfl rfl rfl rfl (g := g3) (o := 0) (rfl) (v := (.agg #[.bool ((decide (x < 0)) && !((dg (x.natAbs - y.natAbs))).isEmpty), vh1])) (rfl) (vs := [(.bool ((decide (x < 0)) && !((dg (x.natAbs - y.natAbs))).isEmpty)), vh1]) rfl rfl (one2 (rfl) (h1.r.one_)) b3 (by simp) (cs' := [(.bool ((decide (x < 0)) && !((dg (x.natAbs - y.natAbs))).isEmpty)), vh1]) rfl ?_
   intro w16 hU16 b3
   have E := Below.stepU E hU16 (by omega)
   have b1 := b1.upd hU16 (by omega)
   have b2 := b2.upd hU16 (by omega)
   have h1 := h1.upd hU16 (by omega) (by omega)
   have hz16 := hU16.size
   refine OPS.nil ?_
   change WP _ _ _ _ _ _
   refine W_ret ?_
   change Fin' _ _ _ _ _ _
   refine EndC (n := ⟨40, []⟩) (t := 4) rfl (by decide) (rfl) (LD.blk ti_api_Int b3 (l := [(.bool ((decide (x < 0)) && !((dg (x.natAbs - y.natAbs))).isEmpty)), vh1]) rfl rfl) ?_
   have h9 := sum_diff (x := x) (y := y) (ne_of_beq_false pF) hle
   exact ⟨E, vh1, by rw [h9.1], by rw [← h9.2]; exact h1.mono (by omega)⟩

set_option maxHeartbeats 400000 in
theorem intsTurned_c (w0 : World) (z : Int) (vz : Value) {a b : Nat} (hz : RN a b w0 vz (dg z.natAbs)) :
    Ret Tryz.prog 88 [.agg #[.bool (decide (z < 0)), vz]] w0 (fun r w1 => Below w0.heap.size w0 w1 ∧ r = .agg #[.bool (decide (-z < 0)), vz]) := by
 have E := Below.refl w0.heap.size w0
 refine Ret_of (n := 9) Tryz.func88 rfl rfl (Nat.le_of_ble_eq_true rfl) ?_
 refine W_seq ?_
 refine W_region rfl ?_
 refine S_box rfl rfl rfl (v := .agg #[.bool (decide (z < 0)), vz]) (rfl) (cs := [(.bool (decide (z < 0))), vz]) rfl ?_
 intro g1 w1 hg1 hs1 hB1 b1
 have hz1 := hB1.size
 have E := Below.step E hB1
 refine S_alloc ti_ints_whole rfl rfl (cs := [.bool false, .slice none 0 0]) rfl ?_
 intro g2 w2 hg2 hs2 hB2 b2
 have hz2 := hB2.size
 have E := Below.step E hB2
 have hl_b1 := b1.lt
 have b1 := b1.below hB2
 refine OPS.nil ?_
 change WP _ _ _ _ _ _
 refine W_seq ?_
 refine W_region rfl ?_
 refine S_field ft_ints_whole_0 rfl rfl rfl (g := g1) (o := 0) (rfl) (o' := 0) rfl ?_
 refine S_load rfl rfl rfl (rfl) (LD.blk1 ti_bool b1 (v := (.bool (decide (z < 0)))) rfl) ?_
 refine S_not rfl rfl rfl (rfl) ?_
 refine S_field ft_ints_whole_1 rfl rfl rfl (g := g1) (o := 0) (rfl) (o' := 1) rfl ?_
 refine S_load rfl rfl rfl (rfl) (LD.blk1 ti_api_Nat b1 (v := vz) rfl) ?_
 refine S_call en_ints_signed rfl rfl rfl (vs := [(.bool (!(decide (z < 0)))), vz]) (rfl) (intsSigned_c _ (!(decide (z < 0))) vz (dg z.natAbs) (hz.below E)) ?_
 rintro _ w3 ⟨hB3, rfl⟩
 have hz3 := hB3.size
 have E := Below.step E hB3
 have hl_b1 := b1.lt
 have b1 := b1.below hB3
 have hl_b2 := b2.lt
 have b2 := b2.below hB3
 refine S_store ti_ints_whole rfl rfl rfl rfl (g := g2) (o := 0) (rfl) (v := (.agg #[.bool ((!(decide (z < 0))) && !((dg z.natAbs)).isEmpty), vz])) (rfl) (vs := [(.bool ((!(decide (z < 0))) && !((dg z.natAbs)).isEmpty)), vz]) rfl rfl (one2 (rfl) (hz.one_)) b2 (by simp) (cs' := [(.bool ((!(decide (z < 0))) && !((dg z.natAbs)).isEmpty)), vz]) rfl ?_
 intro w4 hU4 b2
 have E := Below.stepU E hU4 (by omega)
 have b1 := b1.upd hU4 (by omega)
 have hz4 := hU4.size
 refine OPS.nil ?_
 change WP _ _ _ _ _ _
 refine W_ret ?_
 change Fin' _ _ _ _ _ _
 refine EndC (n := ⟨9, []⟩) (t := 2) rfl (by decide) (rfl) (LD.blk ti_ints_whole b2 (l := [(.bool ((!(decide (z < 0))) && !((dg z.natAbs)).isEmpty)), vz]) rfl rfl) ?_
 have h9 := neg_sign (z := z)
 exact ⟨E, by rw [h9.1]⟩

set_option maxHeartbeats 400000 in
theorem intssign_c (w0 : World) (z : Int) (vz : Value) {a b : Nat} (hz : RN a b w0 vz (dg z.natAbs)) :
    Ret Tryz.prog 92 [.agg #[.bool (decide (z < 0)), vz]] w0 (fun r w1 => Below w0.heap.size w0 w1 ∧ r = .int .i64 (cmpZ z 0)) := by
 have E := Below.refl w0.heap.size w0
 refine Ret_of (n := 11) Tryz.func92 rfl rfl (Nat.le_of_ble_eq_true rfl) ?_
 refine W_seq ?_
 refine W_region rfl ?_
 refine S_box rfl rfl rfl (v := .agg #[.bool (decide (z < 0)), vz]) (rfl) (cs := [(.bool (decide (z < 0))), vz]) rfl ?_
 intro g1 w1 hg1 hs1 hB1 b1
 have hz1 := hB1.size
 have E := Below.step E hB1
 refine S_assign rfl rfl rfl (v := (.int .i64 0)) (rfl) ?_
 refine OPS.nil ?_
 change WP _ _ _ _ _ _
 refine W_seq ?_
 refine W_block ?_
 refine W_seq ?_
 refine W_region rfl ?_
 refine S_field ft_ints_whole_0 rfl rfl rfl (g := g1) (o := 0) (rfl) (o' := 0) rfl ?_
 refine S_load rfl rfl rfl (rfl) (LD.blk1 ti_bool b1 (v := (.bool (decide (z < 0)))) rfl) ?_
 refine S_assign rfl rfl rfl (v := (.bool (decide (z < 0)))) (rfl) ?_
 refine OPS.nil ?_
 change WP _ _ _ _ _ _
 refine W_cond rfl (rfl) (fun hq3 => ?_) (fun hq3 => ?_)
 ·skip
  have pT := hq3
  skip
  try rw [pT]
  refine W_seq ?_
  refine W_region rfl ?_
  refine S_assign rfl rfl rfl (v := (.int .i64 (-1))) (rfl) ?_
  refine OPS.nil ?_
  change WP _ _ _ _ _ _
  refine W_ret ?_
  change Fin' _ _ _ _ _ _
  refine End1 (n := ⟨11, []⟩) (t := 2) rfl (by decide) (v := (.int .i64 (-1))) (rfl) ?_
  exact ⟨E, by rw [show cmpZ z 0 = -1 from if_pos (of_decide_eq_true pT)]⟩
 ·skip
  have pF := hq3
  skip
  try rw [pF]
  refine W_seq ?_
  refine W_region rfl ?_
  refine S_field ft_ints_whole_1 rfl rfl rfl (g := g1) (o := 0) (rfl) (o' := 1) rfl ?_
  refine S_load rfl rfl rfl (rfl) (LD.blk1 ti_api_Nat b1 (v := vz) rfl) ?_
  refine S_len Tryz.underlying23 rfl rfl rfl (rfl) (m := (dg (z).natAbs).length) (hz.len) ?_
  refine S_bin rfl rfl rfl rfl rfl (rfl) (rfl) (v := .bool (decide (((dg (z).natAbs).length : Int) > 0))) rfl ?_
  refine S_assign rfl rfl rfl (v := (.bool (decide (((dg (z).natAbs).length : Int) > 0)))) (rfl) ?_
  refine OPS.nil ?_
  change WP _ _ _ _ _ _
  refine W_cond rfl (rfl) (fun hq6 => ?_) (fun hq6 => ?_)
  ·skip
   have pFT := hq6
   replace hq6 := of_decide_eq_true hq6
   have qFT := hq6
   try rw [pFT]
   refine W_seq ?_
   refine W_region rfl ?_
   refine S_assign rfl rfl rfl (v := (.int .i64 1)) (rfl) ?_
   refine OPS.nil ?_
   change WP _ _ _ _ _ _
   refine W_ret ?_
   change Fin' _ _ _ _ _ _
   refine End1 (n := ⟨11, []⟩) (t := 2) rfl (by decide) (v := (.int .i64 1)) (rfl) ?_
   have h8 := of_decide_eq_false pF
   have h9 : dg z.natAbs ≠ [] := fun e => by rw [e] at qFT; simp at qFT
   have h7 : z.natAbs ≠ 0 := fun e => h9 (dg_eq_nil.2 e)
   exact ⟨E, int_eq (by unfold cmpZ; rw [if_neg h8, if_neg (by omega)])⟩
  ·skip
   have pFF := hq6
   replace hq6 := of_decide_eq_false hq6
   have qFF := hq6
   try rw [pFF]
   refine W_skip ?_
   change WP _ _ _ _ _ _
   refine W_seq ?_
   refine W_region rfl ?_
   refine S_assign rfl rfl rfl (v := (.int .i64 0)) (rfl) ?_
   refine OPS.nil ?_
   change WP _ _ _ _ _ _
   refine W_ret ?_
   change Fin' _ _ _ _ _ _
   refine End1 (n := ⟨11, []⟩) (t := 2) rfl (by decide) (v := (.int .i64 0)) (rfl) ?_
   have h8 := of_decide_eq_false pF
   have h9 : dg z.natAbs = [] := List.eq_nil_of_length_eq_zero (by omega)
   have h7 := dg_eq_nil.1 h9
   exact ⟨E, int_eq (by unfold cmpZ; rw [if_neg h8, if_pos (by omega)])⟩


theorem mul_small {a b : Int} (ha : -1 ≤ a ∧ a ≤ 1) (hb : -1 ≤ b ∧ b ≤ 1) : -9223372036854775808 ≤ a * b ∧ a * b ≤ 9223372036854775807 := by
  have h1 : a = -1 ∨ a = 0 ∨ a = 1 := by omega
  rcases h1 with rfl | rfl | rfl <;> omega

set_option maxHeartbeats 400000 in
theorem intsCmp_c (w0 : World) (s t : Bool) (va vb : Value) (la lb : List Int) {a b a' b' : Nat} (ha : RN a b w0 va la) (hb : RN a' b' w0 vb lb) :
    Ret Tryz.prog 16 [.agg #[.bool s, va], .agg #[.bool t, vb]] w0 (fun r w1 => Below w0.heap.size w0 w1 ∧ r = .int .i64 (cmpZ (zv s la) (zv t lb))) := by
 have E := Below.refl w0.heap.size w0
 refine Ret_of (n := 31) Tryz.func16 rfl rfl (Nat.le_of_ble_eq_true rfl) ?_
 refine W_seq ?_
 refine W_region rfl ?_
 refine S_box rfl rfl rfl (v := .agg #[.bool s, va]) (rfl) (cs := [(.bool s), va]) rfl ?_
 intro g1 w1 hg1 hs1 hB1 b1
 have hz1 := hB1.size
 have E := Below.step E hB1
 refine S_box rfl rfl rfl (v := .agg #[.bool t, vb]) (rfl) (cs := [(.bool t), vb]) rfl ?_
 intro g2 w2 hg2 hs2 hB2 b2
 have hz2 := hB2.size
 have E := Below.step E hB2
 have hl_b1 := b1.lt
 have b1 := b1.below hB2
 refine S_assign rfl rfl rfl (v := (.int .i64 0)) (rfl) ?_
 refine OPS.nil ?_
 change WP _ _ _ _ _ _
 refine W_seq ?_
 refine W_cut (fun σ w => ∃ (g h : Nat) (vx vy : Value), σ 5 = .pointer (some ⟨g, 0, none⟩) ∧ σ 6 = .pointer (some ⟨h, 0, none⟩) ∧ g ≠ h ∧ w0.heap.size ≤ g ∧ w0.heap.size ≤ h ∧ Blk w g [.bool (decide (zv s la < 0)), vx] 100 ∧ Blk w h [.bool (decide (zv t lb < 0)), vy] 100 ∧ RN a b w0 vx (dg (zv s la).natAbs) ∧ RN a' b' w0 vy (dg (zv t lb).natAbs) ∧ Below w0.heap.size w0 w) ?_ ?_
 ·skip
  refine D_begin_ mixed_ rfl rfl ?_
  intro w3 hB3 hz_3
  have hz3 := hB3.size
  have E := Below.step E hB3
  have hl_b1 := b1.lt
  have b1 := b1.below hB3
  have hl_b2 := b2.lt
  have b2 := b2.below hB3
  have hS_ : Below w3.heap.size w3 w3 := Below.refl _ _
  have E_S := E
  have b1_S := b1
  have b2_S := b2
  refine D_load (i := 0) (listed2 := (bm 8 1)) (by kernel_rfl) rfl rfl rfl (rfl) (fun _ hS2 => LD.blk ti_api_Int (b1_S.below hS2) (l := [(.bool s), va]) rfl rfl) hS_ ?_
  refine D_load (i := 2) (listed2 := (bm 8 5)) (by kernel_rfl) rfl rfl rfl (rfl) (fun _ hS2 => LD.blk ti_api_Int (b2_S.below hS2) (l := [(.bool t), vb]) rfl rfl) hS_ ?_
  refine D_three (i := 1) (j := 4) (k := 5) (by kernel_rfl) (listed2 := (bm 8 7)) (listed3 := (bm 8 21)) (listed4 := (bm 8 37)) (by kernel_rfl) (by kernel_rfl) (by kernel_rfl) ?_ ?_ ?_
  ·skip
   refine S_call en_ints_of rfl rfl rfl (vs := [(.agg #[(.bool s), va])]) (rfl) (intsof_c _ s va la (ha.below E)) ?_
   rintro _ w4 ⟨hB4, vh1, rfl, h1⟩
   have hz4 := hB4.size
   have E := Below.step E hB4
   have hl_b1 := b1.lt
   have b1 := b1.below hB4
   have hl_b2 := b2.lt
   have b2 := b2.below hB4
   have hS_ := Below.step hS_ hB4
   have h1 := h1 _ _ _ ha
   refine OPS.nil ⟨hS_, ?_⟩
   refine D_three (i := 3) (j := 4) (k := 5) (by kernel_rfl) (listed2 := (bm 8 15)) (listed3 := (bm 8 23)) (listed4 := (bm 8 39)) (by kernel_rfl) (by kernel_rfl) (by kernel_rfl) ?_ ?_ ?_
   ·skip
    refine S_call en_ints_of rfl rfl rfl (vs := [(.agg #[(.bool t), vb])]) (rfl) (intsof_c _ t vb lb (hb.below E)) ?_
    rintro _ w5 ⟨hB5, vh2, rfl, h2⟩
    have hz5 := hB5.size
    have E := Below.step E hB5
    have hl_b1 := b1.lt
    have b1 := b1.below hB5
    have hl_b2 := b2.lt
    have b2 := b2.below hB5
    have hS_ := Below.step hS_ hB5
    have h2 := h2 _ _ _ hb
    refine OPS.nil ⟨hS_, ?_⟩
    refine D_two (i := 4) (j := 5) (by kernel_rfl) (listed2 := (bm 8 31)) (listed3 := (bm 8 47)) (by kernel_rfl) (by kernel_rfl) ?_ ?_
    ·skip
     refine S_alloc ti_ints_whole rfl rfl (cs := [.bool false, .slice none 0 0]) rfl ?_
     intro g6 w6 hg6 hs6 hB6 b6
     have hz6 := hB6.size
     have E := Below.step E hB6
     have hl_b1 := b1.lt
     have b1 := b1.below hB6
     have hl_b2 := b2.lt
     have b2 := b2.below hB6
     have hS_ := Below.step hS_ hB6
     refine OPS.nil ⟨hS_, ?_⟩
     refine D_only (i := 5) (by kernel_rfl) (listed2 := (bm 8 63)) (by kernel_rfl) ?_
     refine S_alloc ti_ints_whole rfl rfl (cs := [.bool false, .slice none 0 0]) rfl ?_
     intro g7 w7 hg7 hs7 hB7 b7
     have hz7 := hB7.size
     have E := Below.step E hB7
     have hl_b1 := b1.lt
     have b1 := b1.below hB7
     have hl_b2 := b2.lt
     have b2 := b2.below hB7
     have hS_ := Below.step hS_ hB7
     have hl_b6 := b6.lt
     have b6 := b6.below hB7
     refine OPS.nil ⟨hS_, ?_⟩
     refine D_last (i := 6) (f := 8) (by kernel_rfl) (by kernel_rfl) (listed2 := (bm 8 127)) (by kernel_rfl) ?_
     refine S_store ti_ints_whole rfl rfl rfl rfl (g := g6) (o := 0) (rfl) (v := (.agg #[.bool (decide (zv s la < 0)), vh1])) (rfl) (vs := [(.bool (decide (zv s la < 0))), vh1]) rfl rfl (one2 (rfl) ((h1.below E).one_)) b6 (by simp) (cs' := [(.bool (decide (zv s la < 0))), vh1]) rfl ?_
     intro w8 hU8 b6
     have E := Below.stepU E hU8 (by omega)
     have b1 := b1.upd hU8 (by omega)
     have b2 := b2.upd hU8 (by omega)
     have b7 := b7.upd hU8 (by omega)
     have hz8 := hU8.size
     refine OPS.nil ?_
     refine D_last (i := 7) (f := 8) (by kernel_rfl) (by kernel_rfl) (listed2 := (bm 8 255)) (by kernel_rfl) ?_
     refine S_store ti_ints_whole rfl rfl rfl rfl (g := g7) (o := 0) (rfl) (v := (.agg #[.bool (decide (zv t lb < 0)), vh2])) (rfl) (vs := [(.bool (decide (zv t lb < 0))), vh2]) rfl rfl (one2 (rfl) ((h2.below E).one_)) b7 (by simp) (cs' := [(.bool (decide (zv t lb < 0))), vh2]) rfl ?_
     intro w9 hU9 b7
     have E := Below.stepU E hU9 (by omega)
     have b1 := b1.upd hU9 (by omega)
     have b2 := b2.upd hU9 (by omega)
     have b6 := b6.upd hU9 (by omega)
     have hz9 := hU9.size
     refine OPS.nil ?_
     refine D_done (by kernel_rfl) ?_
     exact ⟨rfl, g6, g7, vh1, vh2, rfl, rfl, by omega, by omega, by omega, b6, b7, h1, h2, E⟩
    ·skip
     refine S_alloc ti_ints_whole rfl rfl (cs := [.bool false, .slice none 0 0]) rfl ?_
     intro g10 w10 hg10 hs10 hB10 b10
     have hz10 := hB10.size
     have E := Below.step E hB10
     have hl_b1 := b1.lt
     have b1 := b1.below hB10
     have hl_b2 := b2.lt
     have b2 := b2.below hB10
     have hS_ := Below.step hS_ hB10
     refine OPS.nil ⟨hS_, ?_⟩
     refine D_only (i := 4) (by kernel_rfl) (listed2 := (bm 8 63)) (by kernel_rfl) ?_
     refine S_alloc ti_ints_whole rfl rfl (cs := [.bool false, .slice none 0 0]) rfl ?_
     intro g11 w11 hg11 hs11 hB11 b11
     have hz11 := hB11.size
     have E := Below.step E hB11
     have hl_b1 := b1.lt
     have b1 := b1.below hB11
     have hl_b2 := b2.lt
     have b2 := b2.below hB11
     have hS_ := Below.step hS_ hB11
     have hl_b10 := b10.lt
     have b10 := b10.below hB11
     refine OPS.nil ⟨hS_, ?_⟩
     refine D_last (i := 6) (f := 8) (by kernel_rfl) (by kernel_rfl) (listed2 := (bm 8 127)) (by kernel_rfl) ?_
     refine S_store ti_ints_whole rfl rfl rfl rfl (g := g11) (o := 0) (rfl) (v := (.agg #[.bool (decide (zv s la < 0)), vh1])) (rfl) (vs := [(.bool (decide (zv s la < 0))), vh1]) rfl rfl (one2 (rfl) ((h1.below E).one_)) b11 (by simp) (cs' := [(.bool (decide (zv s la < 0))), vh1]) rfl ?_
     intro w12 hU12 b11
     have E := Below.stepU E hU12 (by omega)
     have b1 := b1.upd hU12 (by omega)
     have b2 := b2.upd hU12 (by omega)
     have b10 := b10.upd hU12 (by omega)
     have hz12 := hU12.size
     refine OPS.nil ?_
     refine D_last (i := 7) (f := 8) (by kernel_rfl) (by kernel_rfl) (listed2 := (bm 8 255)) (by kernel_rfl) ?_
     refine S_store ti_ints_whole rfl rfl rfl rfl (g := g10) (o := 0) (rfl) (v := (.agg #[.bool (decide (zv t lb < 0)), vh2])) (rfl) (vs := [(.bool (decide (zv t lb < 0))), vh2]) rfl rfl (one2 (rfl) ((h2.below E).one_)) b10 (by simp) (cs' := [(.bool (decide (zv t lb < 0))), vh2]) rfl ?_
     intro w13 hU13 b10
     have E := Below.stepU E hU13 (by omega)
     have b1 := b1.upd hU13 (by omega)
     have b2 := b2.upd hU13 (by omega)
     have b11 := b11.upd hU13 (by omega)
     have hz13 := hU13.size
     refine OPS.nil ?_
     refine D_done (by kernel_rfl) ?_
     exact ⟨rfl, g11, g10, vh1, vh2, rfl, rfl, by omega, by omega, by omega, b11, b10, h1, h2, E⟩
   ·skip
    refine S_alloc ti_ints_whole rfl rfl (cs := [.bool false, .slice none 0 0]) rfl ?_
    intro g14 w14 hg14 hs14 hB14 b14
    have hz14 := hB14.size
    have E := Below.step E hB14
    have hl_b1 := b1.lt
    have b1 := b1.below hB14
    have hl_b2 := b2.lt
    have b2 := b2.below hB14
    have hS_ := Below.step hS_ hB14
    refine OPS.nil ⟨hS_, ?_⟩
    refine D_two (i := 3) (j := 5) (by kernel_rfl) (listed2 := (bm 8 31)) (listed3 := (bm 8 55)) (by kernel_rfl) (by kernel_rfl) ?_ ?_
    ·skip
     refine S_call en_ints_of rfl rfl rfl (vs := [(.agg #[(.bool t), vb])]) (rfl) (intsof_c _ t vb lb (hb.below E)) ?_
     rintro _ w15 ⟨hB15, vh2, rfl, h2⟩
     have hz15 := hB15.size
     have E := Below.step E hB15
     have hl_b1 := b1.lt
     have b1 := b1.below hB15
     have hl_b2 := b2.lt
     have b2 := b2.below hB15
     have hS_ := Below.step hS_ hB15
     have hl_b14 := b14.lt
     have b14 := b14.below hB15
     have h2 := h2 _ _ _ hb
     refine OPS.nil ⟨hS_, ?_⟩
     refine D_only (i := 5) (by kernel_rfl) (listed2 := (bm 8 63)) (by kernel_rfl) ?_
     refine S_alloc ti_ints_whole rfl rfl (cs := [.bool false, .slice none 0 0]) rfl ?_
     intro g16 w16 hg16 hs16 hB16 b16
     have hz16 := hB16.size
     have E := Below.step E hB16
     have hl_b1 := b1.lt
     have b1 := b1.below hB16
     have hl_b2 := b2.lt
     have b2 := b2.below hB16
     have hS_ := Below.step hS_ hB16
     have hl_b14 := b14.lt
     have b14 := b14.below hB16
     refine OPS.nil ⟨hS_, ?_⟩
     refine D_last (i := 6) (f := 8) (by kernel_rfl) (by kernel_rfl) (listed2 := (bm 8 127)) (by kernel_rfl) ?_
     refine S_store ti_ints_whole rfl rfl rfl rfl (g := g14) (o := 0) (rfl) (v := (.agg #[.bool (decide (zv s la < 0)), vh1])) (rfl) (vs := [(.bool (decide (zv s la < 0))), vh1]) rfl rfl (one2 (rfl) ((h1.below E).one_)) b14 (by simp) (cs' := [(.bool (decide (zv s la < 0))), vh1]) rfl ?_
     intro w17 hU17 b14
     have E := Below.stepU E hU17 (by omega)
     have b1 := b1.upd hU17 (by omega)
     have b2 := b2.upd hU17 (by omega)
     have b16 := b16.upd hU17 (by omega)
     have hz17 := hU17.size
     refine OPS.nil ?_
     refine D_last (i := 7) (f := 8) (by kernel_rfl) (by kernel_rfl) (listed2 := (bm 8 255)) (by kernel_rfl) ?_
     refine S_store ti_ints_whole rfl rfl rfl rfl (g := g16) (o := 0) (rfl) (v := (.agg #[.bool (decide (zv t lb < 0)), vh2])) (rfl) (vs := [(.bool (decide (zv t lb < 0))), vh2]) rfl rfl (one2 (rfl) ((h2.below E).one_)) b16 (by simp) (cs' := [(.bool (decide (zv t lb < 0))), vh2]) rfl ?_
     intro w18 hU18 b16
     have E := Below.stepU E hU18 (by omega)
     have b1 := b1.upd hU18 (by omega)
     have b2 := b2.upd hU18 (by omega)
     have b14 := b14.upd hU18 (by omega)
     have hz18 := hU18.size
     refine OPS.nil ?_
     refine D_done (by kernel_rfl) ?_
     exact ⟨rfl, g14, g16, vh1, vh2, rfl, rfl, by omega, by omega, by omega, b14, b16, h1, h2, E⟩
    ·skip
     refine S_alloc ti_ints_whole rfl rfl (cs := [.bool false, .slice none 0 0]) rfl ?_
     intro g19 w19 hg19 hs19 hB19 b19
     have hz19 := hB19.size
     have E := Below.step E hB19
     have hl_b1 := b1.lt
     have b1 := b1.below hB19
     have hl_b2 := b2.lt
     have b2 := b2.below hB19
     have hS_ := Below.step hS_ hB19
     have hl_b14 := b14.lt
     have b14 := b14.below hB19
     refine OPS.nil ⟨hS_, ?_⟩
     refine D_only (i := 3) (by kernel_rfl) (listed2 := (bm 8 63)) (by kernel_rfl) ?_
     refine S_call en_ints_of rfl rfl rfl (vs := [(.agg #[(.bool t), vb])]) (rfl) (intsof_c _ t vb lb (hb.below E)) ?_
     rintro _ w20 ⟨hB20, vh2, rfl, h2⟩
     have hz20 := hB20.size
     have E := Below.step E hB20
     have hl_b1 := b1.lt
     have b1 := b1.below hB20
     have hl_b2 := b2.lt
     have b2 := b2.below hB20
     have hS_ := Below.step hS_ hB20
     have hl_b14 := b14.lt
     have b14 := b14.below hB20
     have hl_b19 := b19.lt
     have b19 := b19.below hB20
     have h2 := h2 _ _ _ hb
     refine OPS.nil ⟨hS_, ?_⟩
     refine D_last (i := 6) (f := 8) (by kernel_rfl) (by kernel_rfl) (listed2 := (bm 8 127)) (by kernel_rfl) ?_
     refine S_store ti_ints_whole rfl rfl rfl rfl (g := g14) (o := 0) (rfl) (v := (.agg #[.bool (decide (zv s la < 0)), vh1])) (rfl) (vs := [(.bool (decide (zv s la < 0))), vh1]) rfl rfl (one2 (rfl) ((h1.below E).one_)) b14 (by simp) (cs' := [(.bool (decide (zv s la < 0))), vh1]) rfl ?_
     intro w21 hU21 b14
     have E := Below.stepU E hU21 (by omega)
     have b1 := b1.upd hU21 (by omega)
     have b2 := b2.upd hU21 (by omega)
     have b19 := b19.upd hU21 (by omega)
     have hz21 := hU21.size
     refine OPS.nil ?_
     refine D_last (i := 7) (f := 8) (by kernel_rfl) (by kernel_rfl) (listed2 := (bm 8 255)) (by kernel_rfl) ?_
     refine S_store ti_ints_whole rfl rfl rfl rfl (g := g19) (o := 0) (rfl) (v := (.agg #[.bool (decide (zv t lb < 0)), vh2])) (rfl) (vs := [(.bool (decide (zv t lb < 0))), vh2]) rfl rfl (one2 (rfl) ((h2.below E).one_)) b19 (by simp) (cs' := [(.bool (decide (zv t lb < 0))), vh2]) rfl ?_
     intro w22 hU22 b19
     have E := Below.stepU E hU22 (by omega)
     have b1 := b1.upd hU22 (by omega)
     have b2 := b2.upd hU22 (by omega)
     have b14 := b14.upd hU22 (by omega)
     have hz22 := hU22.size
     refine OPS.nil ?_
     refine D_done (by kernel_rfl) ?_
     exact ⟨rfl, g14, g19, vh1, vh2, rfl, rfl, by omega, by omega, by omega, b14, b19, h1, h2, E⟩
   ·skip
    refine S_alloc ti_ints_whole rfl rfl (cs := [.bool false, .slice none 0 0]) rfl ?_
    intro g23 w23 hg23 hs23 hB23 b23
    have hz23 := hB23.size
    have E := Below.step E hB23
    have hl_b1 := b1.lt
    have b1 := b1.below hB23
    have hl_b2 := b2.lt
    have b2 := b2.below hB23
    have hS_ := Below.step hS_ hB23
    refine OPS.nil ⟨hS_, ?_⟩
    refine D_two (i := 3) (j := 4) (by kernel_rfl) (listed2 := (bm 8 47)) (listed3 := (bm 8 55)) (by kernel_rfl) (by kernel_rfl) ?_ ?_
    ·skip
     refine S_call en_ints_of rfl rfl rfl (vs := [(.agg #[(.bool t), vb])]) (rfl) (intsof_c _ t vb lb (hb.below E)) ?_
     rintro _ w24 ⟨hB24, vh2, rfl, h2⟩
     have hz24 := hB24.size
     have E := Below.step E hB24
     have hl_b1 := b1.lt
     have b1 := b1.below hB24
     have hl_b2 := b2.lt
     have b2 := b2.below hB24
     have hS_ := Below.step hS_ hB24
     have hl_b23 := b23.lt
     have b23 := b23.below hB24
     have h2 := h2 _ _ _ hb
     refine OPS.nil ⟨hS_, ?_⟩
     refine D_only (i := 4) (by kernel_rfl) (listed2 := (bm 8 63)) (by kernel_rfl) ?_
     refine S_alloc ti_ints_whole rfl rfl (cs := [.bool false, .slice none 0 0]) rfl ?_
     intro g25 w25 hg25 hs25 hB25 b25
     have hz25 := hB25.size
     have E := Below.step E hB25
     have hl_b1 := b1.lt
     have b1 := b1.below hB25
     have hl_b2 := b2.lt
     have b2 := b2.below hB25
     have hS_ := Below.step hS_ hB25
     have hl_b23 := b23.lt
     have b23 := b23.below hB25
     refine OPS.nil ⟨hS_, ?_⟩
     refine D_last (i := 6) (f := 8) (by kernel_rfl) (by kernel_rfl) (listed2 := (bm 8 127)) (by kernel_rfl) ?_
     refine S_store ti_ints_whole rfl rfl rfl rfl (g := g25) (o := 0) (rfl) (v := (.agg #[.bool (decide (zv s la < 0)), vh1])) (rfl) (vs := [(.bool (decide (zv s la < 0))), vh1]) rfl rfl (one2 (rfl) ((h1.below E).one_)) b25 (by simp) (cs' := [(.bool (decide (zv s la < 0))), vh1]) rfl ?_
     intro w26 hU26 b25
     have E := Below.stepU E hU26 (by omega)
     have b1 := b1.upd hU26 (by omega)
     have b2 := b2.upd hU26 (by omega)
     have b23 := b23.upd hU26 (by omega)
     have hz26 := hU26.size
     refine OPS.nil ?_
     refine D_last (i := 7) (f := 8) (by kernel_rfl) (by kernel_rfl) (listed2 := (bm 8 255)) (by kernel_rfl) ?_
     refine S_store ti_ints_whole rfl rfl rfl rfl (g := g23) (o := 0) (rfl) (v := (.agg #[.bool (decide (zv t lb < 0)), vh2])) (rfl) (vs := [(.bool (decide (zv t lb < 0))), vh2]) rfl rfl (one2 (rfl) ((h2.below E).one_)) b23 (by simp) (cs' := [(.bool (decide (zv t lb < 0))), vh2]) rfl ?_
     intro w27 hU27 b23
     have E := Below.stepU E hU27 (by omega)
     have b1 := b1.upd hU27 (by omega)
     have b2 := b2.upd hU27 (by omega)
     have b25 := b25.upd hU27 (by omega)
     have hz27 := hU27.size
     refine OPS.nil ?_
     refine D_done (by kernel_rfl) ?_
     exact ⟨rfl, g25, g23, vh1, vh2, rfl, rfl, by omega, by omega, by omega, b25, b23, h1, h2, E⟩
    ·skip
     refine S_alloc ti_ints_whole rfl rfl (cs := [.bool false, .slice none 0 0]) rfl ?_
     intro g28 w28 hg28 hs28 hB28 b28
     have hz28 := hB28.size
     have E := Below.step E hB28
     have hl_b1 := b1.lt
     have b1 := b1.below hB28
     have hl_b2 := b2.lt
     have b2 := b2.below hB28
     have hS_ := Below.step hS_ hB28
     have hl_b23 := b23.lt
     have b23 := b23.below hB28
     refine OPS.nil ⟨hS_, ?_⟩
     refine D_only (i := 3) (by kernel_rfl) (listed2 := (bm 8 63)) (by kernel_rfl) ?_
     refine S_call en_ints_of rfl rfl rfl (vs := [(.agg #[(.bool t), vb])]) (rfl) (intsof_c _ t vb lb (hb.below E)) ?_
     rintro _ w29 ⟨hB29, vh2, rfl, h2⟩
     have hz29 := hB29.size
     have E := Below.step E hB29
     have hl_b1 := b1.lt
     have b1 := b1.below hB29
     have hl_b2 := b2.lt
     have b2 := b2.below hB29
     have hS_ := Below.step hS_ hB29
     have hl_b23 := b23.lt
     have b23 := b23.below hB29
     have hl_b28 := b28.lt
     have b28 := b28.below hB29
     have h2 := h2 _ _ _ hb
     refine OPS.nil ⟨hS_, ?_⟩
     refine D_last (i := 6) (f := 8) (by kernel_rfl) (by kernel_rfl) (listed2 := (bm 8 127)) (by kernel_rfl) ?_
     refine S_store ti_ints_whole rfl rfl rfl rfl (g := g28) (o := 0) (rfl) (v := (.agg #[.bool (decide (zv s la < 0)), vh1])) (rfl) (vs := [(.bool (decide (zv s la < 0))), vh1]) rfl rfl (one2 (rfl) ((h1.below E).one_)) b28 (by simp) (cs' := [(.bool (decide (zv s la < 0))), vh1]) rfl ?_
     intro w30 hU30 b28
     have E := Below.stepU E hU30 (by omega)
     have b1 := b1.upd hU30 (by omega)
     have b2 := b2.upd hU30 (by omega)
     have b23 := b23.upd hU30 (by omega)
     have hz30 := hU30.size
     refine OPS.nil ?_
     refine D_last (i := 7) (f := 8) (by kernel_rfl) (by kernel_rfl) (listed2 := (bm 8 255)) (by kernel_rfl) ?_
     refine S_store ti_ints_whole rfl rfl rfl rfl (g := g23) (o := 0) (rfl) (v := (.agg #[.bool (decide (zv t lb < 0)), vh2])) (rfl) (vs := [(.bool (decide (zv t lb < 0))), vh2]) rfl rfl (one2 (rfl) ((h2.below E).one_)) b23 (by simp) (cs' := [(.bool (decide (zv t lb < 0))), vh2]) rfl ?_
     intro w31 hU31 b23
     have E := Below.stepU E hU31 (by omega)
     have b1 := b1.upd hU31 (by omega)
     have b2 := b2.upd hU31 (by omega)
     have b28 := b28.upd hU31 (by omega)
     have hz31 := hU31.size
     refine OPS.nil ?_
     refine D_done (by kernel_rfl) ?_
     exact ⟨rfl, g28, g23, vh1, vh2, rfl, rfl, by omega, by omega, by omega, b28, b23, h1, h2, E⟩
  ·skip
   refine S_alloc ti_ints_whole rfl rfl (cs := [.bool false, .slice none 0 0]) rfl ?_
   intro g32 w32 hg32 hs32 hB32 b32
   have hz32 := hB32.size
   have E := Below.step E hB32
   have hl_b1 := b1.lt
   have b1 := b1.below hB32
   have hl_b2 := b2.lt
   have b2 := b2.below hB32
   have hS_ := Below.step hS_ hB32
   refine OPS.nil ⟨hS_, ?_⟩
   refine D_two (i := 1) (j := 5) (by kernel_rfl) (listed2 := (bm 8 23)) (listed3 := (bm 8 53)) (by kernel_rfl) (by kernel_rfl) ?_ ?_
   ·skip
    refine S_call en_ints_of rfl rfl rfl (vs := [(.agg #[(.bool s), va])]) (rfl) (intsof_c _ s va la (ha.below E)) ?_
    rintro _ w33 ⟨hB33, vh1, rfl, h1⟩
    have hz33 := hB33.size
    have E := Below.step E hB33
    have hl_b1 := b1.lt
    have b1 := b1.below hB33
    have hl_b2 := b2.lt
    have b2 := b2.below hB33
    have hS_ := Below.step hS_ hB33
    have hl_b32 := b32.lt
    have b32 := b32.below hB33
    have h1 := h1 _ _ _ ha
    refine OPS.nil ⟨hS_, ?_⟩
    refine D_two (i := 3) (j := 5) (by kernel_rfl) (listed2 := (bm 8 31)) (listed3 := (bm 8 55)) (by kernel_rfl) (by kernel_rfl) ?_ ?_
    ·skip
     refine S_call en_ints_of rfl rfl rfl (vs := [(.agg #[(.bool t), vb])]) (rfl) (intsof_c _ t vb lb (hb.below E)) ?_
     rintro _ w34 ⟨hB34, vh2, rfl, h2⟩
     have hz34 := hB34.size
     have E := Below.step E hB34
     have hl_b1 := b1.lt
     have b1 := b1.below hB34
     have hl_b2 := b2.lt
     have b2 := b2.below hB34
     have hS_ := Below.step hS_ hB34
     have hl_b32 := b32.lt
     have b32 := b32.below hB34
     have h2 := h2 _ _ _ hb
     refine OPS.nil ⟨hS_, ?_⟩
     refine D_only (i := 5) (by kernel_rfl) (listed2 := (bm 8 63)) (by kernel_rfl) ?_
     refine S_alloc ti_ints_whole rfl rfl (cs := [.bool false, .slice none 0 0]) rfl ?_
     intro g35 w35 hg35 hs35 hB35 b35
     have hz35 := hB35.size
     have E := Below.step E hB35
     have hl_b1 := b1.lt
     have b1 := b1.below hB35
     have hl_b2 := b2.lt
     have b2 := b2.below hB35
     have hS_ := Below.step hS_ hB35
     have hl_b32 := b32.lt
     have b32 := b32.below hB35
     refine OPS.nil ⟨hS_, ?_⟩
     refine D_last (i := 6) (f := 8) (by kernel_rfl) (by kernel_rfl) (listed2 := (bm 8 127)) (by kernel_rfl) ?_
     refine S_store ti_ints_whole rfl rfl rfl rfl (g := g32) (o := 0) (rfl) (v := (.agg #[.bool (decide (zv s la < 0)), vh1])) (rfl) (vs := [(.bool (decide (zv s la < 0))), vh1]) rfl rfl (one2 (rfl) ((h1.below E).one_)) b32 (by simp) (cs' := [(.bool (decide (zv s la < 0))), vh1]) rfl ?_
     intro w36 hU36 b32
     have E := Below.stepU E hU36 (by omega)
     have b1 := b1.upd hU36 (by omega)
     have b2 := b2.upd hU36 (by omega)
     have b35 := b35.upd hU36 (by omega)
     have hz36 := hU36.size
     refine OPS.nil ?_
     refine D_last (i := 7) (f := 8) (by kernel_rfl) (by kernel_rfl) (listed2 := (bm 8 255)) (by kernel_rfl) ?_
     refine S_store ti_ints_whole rfl rfl rfl rfl (g := g35) (o := 0) (rfl) (v := (.agg #[.bool (decide (zv t lb < 0)), vh2])) (rfl) (vs := [(.bool (decide (zv t lb < 0))), vh2]) rfl rfl (one2 (rfl) ((h2.below E).one_)) b35 (by simp) (cs' := [(.bool (decide (zv t lb < 0))), vh2]) rfl ?_
     intro w37 hU37 b35
     have E := Below.stepU E hU37 (by omega)
     have b1 := b1.upd hU37 (by omega)
     have b2 := b2.upd hU37 (by omega)
     have b32 := b32.upd hU37 (by omega)
     have hz37 := hU37.size
     refine OPS.nil ?_
     refine D_done (by kernel_rfl) ?_
     exact ⟨rfl, g32, g35, vh1, vh2, rfl, rfl, by omega, by omega, by omega, b32, b35, h1, h2, E⟩
    ·skip
     refine S_alloc ti_ints_whole rfl rfl (cs := [.bool false, .slice none 0 0]) rfl ?_
     intro g38 w38 hg38 hs38 hB38 b38
     have hz38 := hB38.size
     have E := Below.step E hB38
     have hl_b1 := b1.lt
     have b1 := b1.below hB38
     have hl_b2 := b2.lt
     have b2 := b2.below hB38
     have hS_ := Below.step hS_ hB38
     have hl_b32 := b32.lt
     have b32 := b32.below hB38
     refine OPS.nil ⟨hS_, ?_⟩
     refine D_only (i := 3) (by kernel_rfl) (listed2 := (bm 8 63)) (by kernel_rfl) ?_
     refine S_call en_ints_of rfl rfl rfl (vs := [(.agg #[(.bool t), vb])]) (rfl) (intsof_c _ t vb lb (hb.below E)) ?_
     rintro _ w39 ⟨hB39, vh2, rfl, h2⟩
     have hz39 := hB39.size
     have E := Below.step E hB39
     have hl_b1 := b1.lt
     have b1 := b1.below hB39
     have hl_b2 := b2.lt
     have b2 := b2.below hB39
     have hS_ := Below.step hS_ hB39
     have hl_b32 := b32.lt
     have b32 := b32.below hB39
     have hl_b38 := b38.lt
     have b38 := b38.below hB39
     have h2 := h2 _ _ _ hb
     refine OPS.nil ⟨hS_, ?_⟩
     refine D_last (i := 6) (f := 8) (by kernel_rfl) (by kernel_rfl) (listed2 := (bm 8 127)) (by kernel_rfl) ?_
     refine S_store ti_ints_whole rfl rfl rfl rfl (g := g32) (o := 0) (rfl) (v := (.agg #[.bool (decide (zv s la < 0)), vh1])) (rfl) (vs := [(.bool (decide (zv s la < 0))), vh1]) rfl rfl (one2 (rfl) ((h1.below E).one_)) b32 (by simp) (cs' := [(.bool (decide (zv s la < 0))), vh1]) rfl ?_
     intro w40 hU40 b32
     have E := Below.stepU E hU40 (by omega)
     have b1 := b1.upd hU40 (by omega)
     have b2 := b2.upd hU40 (by omega)
     have b38 := b38.upd hU40 (by omega)
     have hz40 := hU40.size
     refine OPS.nil ?_
     refine D_last (i := 7) (f := 8) (by kernel_rfl) (by kernel_rfl) (listed2 := (bm 8 255)) (by kernel_rfl) ?_
     refine S_store ti_ints_whole rfl rfl rfl rfl (g := g38) (o := 0) (rfl) (v := (.agg #[.bool (decide (zv t lb < 0)), vh2])) (rfl) (vs := [(.bool (decide (zv t lb < 0))), vh2]) rfl rfl (one2 (rfl) ((h2.below E).one_)) b38 (by simp) (cs' := [(.bool (decide (zv t lb < 0))), vh2]) rfl ?_
     intro w41 hU41 b38
     have E := Below.stepU E hU41 (by omega)
     have b1 := b1.upd hU41 (by omega)
     have b2 := b2.upd hU41 (by omega)
     have b32 := b32.upd hU41 (by omega)
     have hz41 := hU41.size
     refine OPS.nil ?_
     refine D_done (by kernel_rfl) ?_
     exact ⟨rfl, g32, g38, vh1, vh2, rfl, rfl, by omega, by omega, by omega, b32, b38, h1, h2, E⟩
   ·skip
    refine S_alloc ti_ints_whole rfl rfl (cs := [.bool false, .slice none 0 0]) rfl ?_
    intro g42 w42 hg42 hs42 hB42 b42
    have hz42 := hB42.size
    have E := Below.step E hB42
    have hl_b1 := b1.lt
    have b1 := b1.below hB42
    have hl_b2 := b2.lt
    have b2 := b2.below hB42
    have hS_ := Below.step hS_ hB42
    have hl_b32 := b32.lt
    have b32 := b32.below hB42
    refine OPS.nil ⟨hS_, ?_⟩
    refine D_only (i := 1) (by kernel_rfl) (listed2 := (bm 8 55)) (by kernel_rfl) ?_
    refine S_call en_ints_of rfl rfl rfl (vs := [(.agg #[(.bool s), va])]) (rfl) (intsof_c _ s va la (ha.below E)) ?_
    rintro _ w43 ⟨hB43, vh1, rfl, h1⟩
    have hz43 := hB43.size
    have E := Below.step E hB43
    have hl_b1 := b1.lt
    have b1 := b1.below hB43
    have hl_b2 := b2.lt
    have b2 := b2.below hB43
    have hS_ := Below.step hS_ hB43
    have hl_b32 := b32.lt
    have b32 := b32.below hB43
    have hl_b42 := b42.lt
    have b42 := b42.below hB43
    have h1 := h1 _ _ _ ha
    refine OPS.nil ⟨hS_, ?_⟩
    refine D_only (i := 3) (by kernel_rfl) (listed2 := (bm 8 63)) (by kernel_rfl) ?_
    refine S_call en_ints_of rfl rfl rfl (vs := [(.agg #[(.bool t), vb])]) (rfl) (intsof_c _ t vb lb (hb.below E)) ?_
    rintro _ w44 ⟨hB44, vh2, rfl, h2⟩
    have hz44 := hB44.size
    have E := Below.step E hB44
    have hl_b1 := b1.lt
    have b1 := b1.below hB44
    have hl_b2 := b2.lt
    have b2 := b2.below hB44
    have hS_ := Below.step hS_ hB44
    have hl_b32 := b32.lt
    have b32 := b32.below hB44
    have hl_b42 := b42.lt
    have b42 := b42.below hB44
    have h2 := h2 _ _ _ hb
    refine OPS.nil ⟨hS_, ?_⟩
    refine D_last (i := 6) (f := 8) (by kernel_rfl) (by kernel_rfl) (listed2 := (bm 8 127)) (by kernel_rfl) ?_
    refine S_store ti_ints_whole rfl rfl rfl rfl (g := g32) (o := 0) (rfl) (v := (.agg #[.bool (decide (zv s la < 0)), vh1])) (rfl) (vs := [(.bool (decide (zv s la < 0))), vh1]) rfl rfl (one2 (rfl) ((h1.below E).one_)) b32 (by simp) (cs' := [(.bool (decide (zv s la < 0))), vh1]) rfl ?_
    intro w45 hU45 b32
    have E := Below.stepU E hU45 (by omega)
    have b1 := b1.upd hU45 (by omega)
    have b2 := b2.upd hU45 (by omega)
    have b42 := b42.upd hU45 (by omega)
    have hz45 := hU45.size
    refine OPS.nil ?_
    refine D_last (i := 7) (f := 8) (by kernel_rfl) (by kernel_rfl) (listed2 := (bm 8 255)) (by kernel_rfl) ?_
    refine S_store ti_ints_whole rfl rfl rfl rfl (g := g42) (o := 0) (rfl) (v := (.agg #[.bool (decide (zv t lb < 0)), vh2])) (rfl) (vs := [(.bool (decide (zv t lb < 0))), vh2]) rfl rfl (one2 (rfl) ((h2.below E).one_)) b42 (by simp) (cs' := [(.bool (decide (zv t lb < 0))), vh2]) rfl ?_
    intro w46 hU46 b42
    have E := Below.stepU E hU46 (by omega)
    have b1 := b1.upd hU46 (by omega)
    have b2 := b2.upd hU46 (by omega)
    have b32 := b32.upd hU46 (by omega)
    have hz46 := hU46.size
    refine OPS.nil ?_
    refine D_done (by kernel_rfl) ?_
    exact ⟨rfl, g32, g42, vh1, vh2, rfl, rfl, by omega, by omega, by omega, b32, b42, h1, h2, E⟩
  ·skip
   refine S_alloc ti_ints_whole rfl rfl (cs := [.bool false, .slice none 0 0]) rfl ?_
   intro g47 w47 hg47 hs47 hB47 b47
   have hz47 := hB47.size
   have E := Below.step E hB47
   have hl_b1 := b1.lt
   have b1 := b1.below hB47
   have hl_b2 := b2.lt
   have b2 := b2.below hB47
   have hS_ := Below.step hS_ hB47
   refine OPS.nil ⟨hS_, ?_⟩
   refine D_two (i := 1) (j := 4) (by kernel_rfl) (listed2 := (bm 8 39)) (listed3 := (bm 8 53)) (by kernel_rfl) (by kernel_rfl) ?_ ?_
   ·skip
    refine S_call en_ints_of rfl rfl rfl (vs := [(.agg #[(.bool s), va])]) (rfl) (intsof_c _ s va la (ha.below E)) ?_
    rintro _ w48 ⟨hB48, vh1, rfl, h1⟩
    have hz48 := hB48.size
    have E := Below.step E hB48
    have hl_b1 := b1.lt
    have b1 := b1.below hB48
    have hl_b2 := b2.lt
    have b2 := b2.below hB48
    have hS_ := Below.step hS_ hB48
    have hl_b47 := b47.lt
    have b47 := b47.below hB48
    have h1 := h1 _ _ _ ha
    refine OPS.nil ⟨hS_, ?_⟩
    refine D_two (i := 3) (j := 4) (by kernel_rfl) (listed2 := (bm 8 47)) (listed3 := (bm 8 55)) (by kernel_rfl) (by kernel_rfl) ?_ ?_
    ·skip
     refine S_call en_ints_of rfl rfl rfl (vs := [(.agg #[(.bool t), vb])]) (rfl) (intsof_c _ t vb lb (hb.below E)) ?_
     rintro _ w49 ⟨hB49, vh2, rfl, h2⟩
     have hz49 := hB49.size
     have E := Below.step E hB49
     have hl_b1 := b1.lt
     have b1 := b1.below hB49
     have hl_b2 := b2.lt
     have b2 := b2.below hB49
     have hS_ := Below.step hS_ hB49
     have hl_b47 := b47.lt
     have b47 := b47.below hB49
     have h2 := h2 _ _ _ hb
     refine OPS.nil ⟨hS_, ?_⟩
     refine D_only (i := 4) (by kernel_rfl) (listed2 := (bm 8 63)) (by kernel_rfl) ?_
     refine S_alloc ti_ints_whole rfl rfl (cs := [.bool false, .slice none 0 0]) rfl ?_
     intro g50 w50 hg50 hs50 hB50 b50
     have hz50 := hB50.size
     have E := Below.step E hB50
     have hl_b1 := b1.lt
     have b1 := b1.below hB50
     have hl_b2 := b2.lt
     have b2 := b2.below hB50
     have hS_ := Below.step hS_ hB50
     have hl_b47 := b47.lt
     have b47 := b47.below hB50
     refine OPS.nil ⟨hS_, ?_⟩
     refine D_last (i := 6) (f := 8) (by kernel_rfl) (by kernel_rfl) (listed2 := (bm 8 127)) (by kernel_rfl) ?_
     refine S_store ti_ints_whole rfl rfl rfl rfl (g := g50) (o := 0) (rfl) (v := (.agg #[.bool (decide (zv s la < 0)), vh1])) (rfl) (vs := [(.bool (decide (zv s la < 0))), vh1]) rfl rfl (one2 (rfl) ((h1.below E).one_)) b50 (by simp) (cs' := [(.bool (decide (zv s la < 0))), vh1]) rfl ?_
     intro w51 hU51 b50
     have E := Below.stepU E hU51 (by omega)
     have b1 := b1.upd hU51 (by omega)
     have b2 := b2.upd hU51 (by omega)
     have b47 := b47.upd hU51 (by omega)
     have hz51 := hU51.size
     refine OPS.nil ?_
     refine D_last (i := 7) (f := 8) (by kernel_rfl) (by kernel_rfl) (listed2 := (bm 8 255)) (by kernel_rfl) ?_
     refine S_store ti_ints_whole rfl rfl rfl rfl (g := g47) (o := 0) (rfl) (v := (.agg #[.bool (decide (zv t lb < 0)), vh2])) (rfl) (vs := [(.bool (decide (zv t lb < 0))), vh2]) rfl rfl (one2 (rfl) ((h2.below E).one_)) b47 (by simp) (cs' := [(.bool (decide (zv t lb < 0))), vh2]) rfl ?_
     intro w52 hU52 b47
     have E := Below.stepU E hU52 (by omega)
     have b1 := b1.upd hU52 (by omega)
     have b2 := b2.upd hU52 (by omega)
     have b50 := b50.upd hU52 (by omega)
     have hz52 := hU52.size
     refine OPS.nil ?_
     refine D_done (by kernel_rfl) ?_
     exact ⟨rfl, g50, g47, vh1, vh2, rfl, rfl, by omega, by omega, by omega, b50, b47, h1, h2, E⟩
    ·skip
     refine S_alloc ti_ints_whole rfl rfl (cs := [.bool false, .slice none 0 0]) rfl ?_
     intro g53 w53 hg53 hs53 hB53 b53
     have hz53 := hB53.size
     have E := Below.step E hB53
     have hl_b1 := b1.lt
     have b1 := b1.below hB53
     have hl_b2 := b2.lt
     have b2 := b2.below hB53
     have hS_ := Below.step hS_ hB53
     have hl_b47 := b47.lt
     have b47 := b47.below hB53
     refine OPS.nil ⟨hS_, ?_⟩
     refine D_only (i := 3) (by kernel_rfl) (listed2 := (bm 8 63)) (by kernel_rfl) ?_
     refine S_call en_ints_of rfl rfl rfl (vs := [(.agg #[(.bool t), vb])]) (rfl) (intsof_c _ t vb lb (hb.below E)) ?_
     rintro _ w54 ⟨hB54, vh2, rfl, h2⟩
     have hz54 := hB54.size
     have E := Below.step E hB54
     have hl_b1 := b1.lt
     have b1 := b1.below hB54
     have hl_b2 := b2.lt
     have b2 := b2.below hB54
     have hS_ := Below.step hS_ hB54
     have hl_b47 := b47.lt
     have b47 := b47.below hB54
     have hl_b53 := b53.lt
     have b53 := b53.below hB54
     have h2 := h2 _ _ _ hb
     refine OPS.nil ⟨hS_, ?_⟩
     refine D_last (i := 6) (f := 8) (by kernel_rfl) (by kernel_rfl) (listed2 := (bm 8 127)) (by kernel_rfl) ?_
     refine S_store ti_ints_whole rfl rfl rfl rfl (g := g53) (o := 0) (rfl) (v := (.agg #[.bool (decide (zv s la < 0)), vh1])) (rfl) (vs := [(.bool (decide (zv s la < 0))), vh1]) rfl rfl (one2 (rfl) ((h1.below E).one_)) b53 (by simp) (cs' := [(.bool (decide (zv s la < 0))), vh1]) rfl ?_
     intro w55 hU55 b53
     have E := Below.stepU E hU55 (by omega)
     have b1 := b1.upd hU55 (by omega)
     have b2 := b2.upd hU55 (by omega)
     have b47 := b47.upd hU55 (by omega)
     have hz55 := hU55.size
     refine OPS.nil ?_
     refine D_last (i := 7) (f := 8) (by kernel_rfl) (by kernel_rfl) (listed2 := (bm 8 255)) (by kernel_rfl) ?_
     refine S_store ti_ints_whole rfl rfl rfl rfl (g := g47) (o := 0) (rfl) (v := (.agg #[.bool (decide (zv t lb < 0)), vh2])) (rfl) (vs := [(.bool (decide (zv t lb < 0))), vh2]) rfl rfl (one2 (rfl) ((h2.below E).one_)) b47 (by simp) (cs' := [(.bool (decide (zv t lb < 0))), vh2]) rfl ?_
     intro w56 hU56 b47
     have E := Below.stepU E hU56 (by omega)
     have b1 := b1.upd hU56 (by omega)
     have b2 := b2.upd hU56 (by omega)
     have b53 := b53.upd hU56 (by omega)
     have hz56 := hU56.size
     refine OPS.nil ?_
     refine D_done (by kernel_rfl) ?_
     exact ⟨rfl, g53, g47, vh1, vh2, rfl, rfl, by omega, by omega, by omega, b53, b47, h1, h2, E⟩
   ·skip
    refine S_alloc ti_ints_whole rfl rfl (cs := [.bool false, .slice none 0 0]) rfl ?_
    intro g57 w57 hg57 hs57 hB57 b57
    have hz57 := hB57.size
    have E := Below.step E hB57
    have hl_b1 := b1.lt
    have b1 := b1.below hB57
    have hl_b2 := b2.lt
    have b2 := b2.below hB57
    have hS_ := Below.step hS_ hB57
    have hl_b47 := b47.lt
    have b47 := b47.below hB57
    refine OPS.nil ⟨hS_, ?_⟩
    refine D_only (i := 1) (by kernel_rfl) (listed2 := (bm 8 55)) (by kernel_rfl) ?_
    refine S_call en_ints_of rfl rfl rfl (vs := [(.agg #[(.bool s), va])]) (rfl) (intsof_c _ s va la (ha.below E)) ?_
    rintro _ w58 ⟨hB58, vh1, rfl, h1⟩
    have hz58 := hB58.size
    have E := Below.step E hB58
    have hl_b1 := b1.lt
    have b1 := b1.below hB58
    have hl_b2 := b2.lt
    have b2 := b2.below hB58
    have hS_ := Below.step hS_ hB58
    have hl_b47 := b47.lt
    have b47 := b47.below hB58
    have hl_b57 := b57.lt
    have b57 := b57.below hB58
    have h1 := h1 _ _ _ ha
    refine OPS.nil ⟨hS_, ?_⟩
    refine D_only (i := 3) (by kernel_rfl) (listed2 := (bm 8 63)) (by kernel_rfl) ?_
    refine S_call en_ints_of rfl rfl rfl (vs := [(.agg #[(.bool t), vb])]) (rfl) (intsof_c _ t vb lb (hb.below E)) ?_
    rintro _ w59 ⟨hB59, vh2, rfl, h2⟩
    have hz59 := hB59.size
    have E := Below.step E hB59
    have hl_b1 := b1.lt
    have b1 := b1.below hB59
    have hl_b2 := b2.lt
    have b2 := b2.below hB59
    have hS_ := Below.step hS_ hB59
    have hl_b47 := b47.lt
    have b47 := b47.below hB59
    have hl_b57 := b57.lt
    have b57 := b57.below hB59
    have h2 := h2 _ _ _ hb
    refine OPS.nil ⟨hS_, ?_⟩
    refine D_last (i := 6) (f := 8) (by kernel_rfl) (by kernel_rfl) (listed2 := (bm 8 127)) (by kernel_rfl) ?_
    refine S_store ti_ints_whole rfl rfl rfl rfl (g := g57) (o := 0) (rfl) (v := (.agg #[.bool (decide (zv s la < 0)), vh1])) (rfl) (vs := [(.bool (decide (zv s la < 0))), vh1]) rfl rfl (one2 (rfl) ((h1.below E).one_)) b57 (by simp) (cs' := [(.bool (decide (zv s la < 0))), vh1]) rfl ?_
    intro w60 hU60 b57
    have E := Below.stepU E hU60 (by omega)
    have b1 := b1.upd hU60 (by omega)
    have b2 := b2.upd hU60 (by omega)
    have b47 := b47.upd hU60 (by omega)
    have hz60 := hU60.size
    refine OPS.nil ?_
    refine D_last (i := 7) (f := 8) (by kernel_rfl) (by kernel_rfl) (listed2 := (bm 8 255)) (by kernel_rfl) ?_
    refine S_store ti_ints_whole rfl rfl rfl rfl (g := g47) (o := 0) (rfl) (v := (.agg #[.bool (decide (zv t lb < 0)), vh2])) (rfl) (vs := [(.bool (decide (zv t lb < 0))), vh2]) rfl rfl (one2 (rfl) ((h2.below E).one_)) b47 (by simp) (cs' := [(.bool (decide (zv t lb < 0))), vh2]) rfl ?_
    intro w61 hU61 b47
    have E := Below.stepU E hU61 (by omega)
    have b1 := b1.upd hU61 (by omega)
    have b2 := b2.upd hU61 (by omega)
    have b57 := b57.upd hU61 (by omega)
    have hz61 := hU61.size
    refine OPS.nil ?_
    refine D_done (by kernel_rfl) ?_
    exact ⟨rfl, g57, g47, vh1, vh2, rfl, rfl, by omega, by omega, by omega, b57, b47, h1, h2, E⟩
 ·skip
  rintro σ w ⟨g, h, vx, vy, s5, s6, hgh, hg0, hh0, b5, b6, h1, h2, E⟩
  change WP _ _ _ _ _ _
  refine W_seq ?_
  refine W_seq ?_
  refine D_begin_ mixed_ rfl rfl ?_
  intro w62 hB62 hz_62
  have hz62 := hB62.size
  have E := Below.step E hB62
  have hl_b5 := b5.lt
  have b5 := b5.below hB62
  have hl_b6 := b6.lt
  have b6 := b6.below hB62
  have hS_ : Below w62.heap.size w62 w62 := Below.refl _ _
  have E_S := E
  have b5_S := b5
  have b6_S := b6
  refine D_load (i := 0) (listed2 := (bm 5 1)) (by kernel_rfl) rfl rfl rfl (s5) (fun _ hS2 => LD.blk ti_ints_whole (b5_S.below hS2) (l := [(.bool (decide (zv s la < 0))), vx]) rfl rfl) hS_ ?_
  refine D_load (i := 2) (listed2 := (bm 5 5)) (by kernel_rfl) rfl rfl rfl (s6) (fun _ hS2 => LD.blk ti_ints_whole (b6_S.below hS2) (l := [(.bool (decide (zv t lb < 0))), vy]) rfl rfl) hS_ ?_
  refine D_only (i := 1) (by kernel_rfl) (listed2 := (bm 5 7)) (by kernel_rfl) ?_
  refine S_call en_ints_whole_sign rfl rfl rfl (vs := [(.agg #[(.bool (decide (zv s la < 0))), vx])]) (rfl) (intssign_c _ _ _ (h1.below E)) ?_
  rintro _ w63 ⟨hB63, rfl⟩
  have hz63 := hB63.size
  have E := Below.step E hB63
  have hl_b5 := b5.lt
  have b5 := b5.below hB63
  have hl_b6 := b6.lt
  have b6 := b6.below hB63
  have hS_ := Below.step hS_ hB63
  refine OPS.nil ⟨hS_, ?_⟩
  refine D_last (i := 3) (f := 5) (by kernel_rfl) (by kernel_rfl) (listed2 := (bm 5 15)) (by kernel_rfl) ?_
  refine S_call en_ints_whole_sign rfl rfl rfl (vs := [(.agg #[(.bool (decide (zv t lb < 0))), vy])]) (rfl) (intssign_c _ _ _ (h2.below E)) ?_
  rintro _ w64 ⟨hB64, rfl⟩
  have hz64 := hB64.size
  have E := Below.step E hB64
  have hl_b5 := b5.lt
  have b5 := b5.below hB64
  have hl_b6 := b6.lt
  have b6 := b6.below hB64
  refine OPS.nil ?_
  refine D_last (i := 4) (f := 5) (by kernel_rfl) (by kernel_rfl) (listed2 := (bm 5 31)) (by kernel_rfl) ?_
  refine S_bin rfl rfl rfl rfl rfl (rfl) (rfl) (v := .bool (((cmpZ (zv s la) 0) != (cmpZ (zv t lb) 0)))) rfl ?_
  refine OPS.nil ?_
  refine D_done (by kernel_rfl) ?_
  change WP _ _ _ _ _ _
  refine W_cond rfl (rfl) (fun hq15 => ?_) (fun hq15 => ?_)
  ·skip
   have pT := hq15
   replace hq15 := bne_iff_ne.1 hq15
   have qT := hq15
   have hr1 := cmpZ_range (zv s la) 0
   have hr2 := cmpZ_range (zv t lb) 0
   try rw [pT]
   refine W_seq ?_
   refine D_begin_ mixed_ rfl rfl ?_
   intro w65 hB65 hz_65
   have hz65 := hB65.size
   have E := Below.step E hB65
   have hl_b5 := b5.lt
   have b5 := b5.below hB65
   have hl_b6 := b6.lt
   have b6 := b6.below hB65
   have hS_ : Below w65.heap.size w65 w65 := Below.refl _ _
   have E_S := E
   have b5_S := b5
   have b6_S := b6
   refine D_load (i := 0) (listed2 := (bm 8 1)) (by kernel_rfl) rfl rfl rfl (s5) (fun _ hS2 => LD.blk ti_ints_whole (b5_S.below hS2) (l := [(.bool (decide (zv s la < 0))), vx]) rfl rfl) hS_ ?_
   refine D_load (i := 2) (listed2 := (bm 8 5)) (by kernel_rfl) rfl rfl rfl (s6) (fun _ hS2 => LD.blk ti_ints_whole (b6_S.below hS2) (l := [(.bool (decide (zv t lb < 0))), vy]) rfl rfl) hS_ ?_
   refine D_only (i := 1) (by kernel_rfl) (listed2 := (bm 8 7)) (by kernel_rfl) ?_
   refine S_call en_ints_whole_sign rfl rfl rfl (vs := [(.agg #[(.bool (decide (zv s la < 0))), vx])]) (rfl) (intssign_c _ _ _ (h1.below E)) ?_
   rintro _ w66 ⟨hB66, rfl⟩
   have hz66 := hB66.size
   have E := Below.step E hB66
   have hl_b5 := b5.lt
   have b5 := b5.below hB66
   have hl_b6 := b6.lt
   have b6 := b6.below hB66
   have hS_ := Below.step hS_ hB66
   refine OPS.nil ⟨hS_, ?_⟩
   refine D_only (i := 3) (by kernel_rfl) (listed2 := (bm 8 15)) (by kernel_rfl) ?_
   refine S_call en_ints_whole_sign rfl rfl rfl (vs := [(.agg #[(.bool (decide (zv t lb < 0))), vy])]) (rfl) (intssign_c _ _ _ (h2.below E)) ?_
   rintro _ w67 ⟨hB67, rfl⟩
   have hz67 := hB67.size
   have E := Below.step E hB67
   have hl_b5 := b5.lt
   have b5 := b5.below hB67
   have hl_b6 := b6.lt
   have b6 := b6.below hB67
   have hS_ := Below.step hS_ hB67
   refine OPS.nil ⟨hS_, ?_⟩
   refine D_sub64 (i := 4) (listed2 := (bm 8 31)) (by kernel_rfl) rfl rfl rfl rfl (rfl) (rfl) (by omega) hS_ ?_
   refine D_min (i := 5) (listed2 := (bm 8 63)) (by kernel_rfl) rfl rfl rfl rfl (rfl) (rfl) (v := (min 1 (cmpZ (zv s la) 0 - cmpZ (zv t lb) 0))) (rfl) hS_ ?_
   refine D_max (i := 6) (listed2 := (bm 8 127)) (by kernel_rfl) rfl rfl rfl rfl (rfl) (rfl) (v := (max (-1) (min 1 (cmpZ (zv s la) 0 - cmpZ (zv t lb) 0)))) (rfl) hS_ ?_
   refine D_assign (i := 7) (listed2 := (bm 8 255)) (by kernel_rfl) rfl rfl rfl (v := (.int .i64 (max (-1) (min 1 (cmpZ (zv s la) 0 - cmpZ (zv t lb) 0))))) (rfl) hS_ ?_
   refine D_done (by kernel_rfl) ?_
   change WP _ _ _ _ _ _
   refine W_ret ?_
   change Fin' _ _ _ _ _ _
   refine End1 (n := ⟨31, []⟩) (t := 4) rfl (by decide) (v := (.int .i64 (max (-1) (min 1 (cmpZ (zv s la) 0 - cmpZ (zv t lb) 0))))) (rfl) ?_
   exact ⟨E, int_eq (cmpZ_far qT)⟩
  ·skip
   have pF := hq15
   replace hq15 := bne_eq_false_iff_eq.1 hq15
   have qF := hq15
   have hr1 := cmpZ_range (zv s la) 0
   have hr3 := cmpN_range (zv s la).natAbs (zv t lb).natAbs
   try rw [pF]
   refine W_skip ?_
   change WP _ _ _ _ _ _
   refine W_seq ?_
   refine D_begin_ mixed_ rfl rfl ?_
   intro w68 hB68 hz_68
   have hz68 := hB68.size
   have E := Below.step E hB68
   have hl_b5 := b5.lt
   have b5 := b5.below hB68
   have hl_b6 := b6.lt
   have b6 := b6.below hB68
   have hS_ : Below w68.heap.size w68 w68 := Below.refl _ _
   have E_S := E
   have b5_S := b5
   have b6_S := b6
   refine D_field ft_ints_whole_1 (i := 0) (listed2 := (bm 9 1)) (by kernel_rfl) rfl rfl rfl (g := g) (o := 0) (s5) (o' := 1) rfl hS_ ?_
   refine D_load (i := 1) (listed2 := (bm 9 3)) (by kernel_rfl) rfl rfl rfl (rfl) (fun _ hS2 => LD.blk1 ti_api_Nat (b5_S.below hS2) (v := vx) rfl) hS_ ?_
   refine D_field ft_ints_whole_1 (i := 2) (listed2 := (bm 9 7)) (by kernel_rfl) rfl rfl rfl (g := h) (o := 0) (s6) (o' := 1) rfl hS_ ?_
   refine D_load (i := 3) (listed2 := (bm 9 15)) (by kernel_rfl) rfl rfl rfl (rfl) (fun _ hS2 => LD.blk1 ti_api_Nat (b6_S.below hS2) (v := vy) rfl) hS_ ?_
   refine D_load (i := 5) (listed2 := (bm 9 47)) (by kernel_rfl) rfl rfl rfl (s5) (fun _ hS2 => LD.blk ti_ints_whole (b5_S.below hS2) (l := [(.bool (decide (zv s la < 0))), vx]) rfl rfl) hS_ ?_
   refine D_only (i := 4) (by kernel_rfl) (listed2 := (bm 9 63)) (by kernel_rfl) ?_
   refine S_call en_nats_Cmp rfl rfl rfl (vs := [vx, vy]) (rfl) (natsCmp_d (h1.below E) (h2.below E)) ?_
   rintro _ w69 ⟨hB69, rfl⟩
   have hz69 := hB69.size
   have E := Below.step E hB69
   have hl_b5 := b5.lt
   have b5 := b5.below hB69
   have hl_b6 := b6.lt
   have b6 := b6.below hB69
   have hS_ := Below.step hS_ hB69
   refine OPS.nil ⟨hS_, ?_⟩
   refine D_last (i := 6) (f := 9) (by kernel_rfl) (by kernel_rfl) (listed2 := (bm 9 127)) (by kernel_rfl) ?_
   refine S_call en_ints_whole_sign rfl rfl rfl (vs := [(.agg #[(.bool (decide (zv s la < 0))), vx])]) (rfl) (intssign_c _ _ _ (h1.below E)) ?_
   rintro _ w70 ⟨hB70, rfl⟩
   have hz70 := hB70.size
   have E := Below.step E hB70
   have hl_b5 := b5.lt
   have b5 := b5.below hB70
   have hl_b6 := b6.lt
   have b6 := b6.below hB70
   refine OPS.nil ?_
   refine D_last (i := 7) (f := 9) (by kernel_rfl) (by kernel_rfl) (listed2 := (bm 9 255)) (by kernel_rfl) ?_
   refine S_mul64 rfl rfl rfl rfl (rfl) (rfl) (mul_small hr3 hr1) ?_
   refine OPS.nil ?_
   refine D_last (i := 8) (f := 9) (by kernel_rfl) (by kernel_rfl) (listed2 := (bm 9 511)) (by kernel_rfl) ?_
   refine S_assign rfl rfl rfl (v := (.int .i64 ((cmpN (zv s la).natAbs (zv t lb).natAbs) * (cmpZ (zv s la) 0)))) (rfl) ?_
   refine OPS.nil ?_
   refine D_done (by kernel_rfl) ?_
   change WP _ _ _ _ _ _
   refine W_ret ?_
   change Fin' _ _ _ _ _ _
   refine End1 (n := ⟨31, []⟩) (t := 4) rfl (by decide) (v := (.int .i64 ((cmpN (zv s la).natAbs (zv t lb).natAbs) * (cmpZ (zv s la) 0)))) (rfl) ?_
   exact ⟨E, int_eq (cmpZ_near (by omega))⟩

set_option maxHeartbeats 400000 in
theorem intsSign_c (w0 : World) (s : Bool) (va : Value) (la : List Int) {a b : Nat} (ha : RN a b w0 va la) :
    Ret Tryz.prog 18 [.agg #[.bool s, va]] w0 (fun r w1 => Below w0.heap.size w0 w1 ∧ r = .int .i64 (cmpZ (zv s la) 0)) := by
 have E := Below.refl w0.heap.size w0
 refine Ret_of (n := 9) Tryz.func18 rfl rfl (Nat.le_of_ble_eq_true rfl) ?_
 refine W_seq ?_
 refine W_region rfl ?_
 refine S_box rfl rfl rfl (v := .agg #[.bool s, va]) (rfl) (cs := [(.bool s), va]) rfl ?_
 intro g1 w1 hg1 hs1 hB1 b1
 have hz1 := hB1.size
 have E := Below.step E hB1
 refine S_assign rfl rfl rfl (v := (.int .i64 0)) (rfl) ?_
 refine OPS.nil ?_
 change WP _ _ _ _ _ _
 refine W_seq ?_
 refine W_region rfl ?_
 refine S_load rfl rfl rfl (rfl) (LD.blk ti_api_Int b1 (l := [(.bool s), va]) rfl rfl) ?_
 refine S_call en_ints_of rfl rfl rfl (vs := [(.agg #[(.bool s), va])]) (rfl) (intsof_c _ s va la (ha.below E)) ?_
 rintro _ w2 ⟨hB2, vh1, rfl, h1⟩
 have hz2 := hB2.size
 have E := Below.step E hB2
 have hl_b1 := b1.lt
 have b1 := b1.below hB2
 have h1 := h1 _ _ _ ha
 refine S_makeBound rfl rfl rfl (rfl) ?_
 refine S_assign rfl rfl rfl (v := (.func (.func 92) #[(.agg #[.bool (decide (zv s la < 0)), vh1])] #[])) (rfl) ?_
 refine OPS.nil ?_
 change WP _ _ _ _ _ _
 refine W_seq ?_
 refine W_region rfl ?_
 refine S_move rfl rfl rfl (v := (.func (.func 92) #[(.agg #[.bool (decide (zv s la < 0)), vh1])] #[])) (rfl) ?_
 refine S_callBound en_ints_whole_sign rfl rfl rfl rfl (rfl) (vs := [(.agg #[.bool (decide (zv s la < 0)), vh1])]) rfl (intssign_c _ _ _ (h1.below E)) ?_
 rintro _ w9 ⟨hB9, rfl⟩
 have hz9 := hB9.size
 have E := Below.step E hB9
 have hl_b1 := b1.lt
 have b1 := b1.below hB9
 refine S_assign rfl rfl rfl (v := (.int .i64 (cmpZ (zv s la) 0))) (rfl) ?_
 refine OPS.nil ?_
 change WP _ _ _ _ _ _
 refine W_ret ?_
 change Fin' _ _ _ _ _ _
 refine End1 (n := ⟨9, []⟩) (t := 2) rfl (by decide) (v := (.int .i64 (cmpZ (zv s la) 0))) (rfl) ?_
 exact ⟨E, rfl⟩

set_option maxHeartbeats 400000 in
theorem intsAdd_c (w0 : World) (s t : Bool) (va vb : Value) (la lb : List Int) {a b a' b' : Nat} (ha : RN a b w0 va la) (hb : RN a' b' w0 vb lb) (hsa : la.length ≤ SZ) (hsb : lb.length ≤ SZ) :
    Ret Tryz.prog 12 [.agg #[.bool s, va], .agg #[.bool t, vb]] w0 (fun r w1 => Below w0.heap.size w0 w1 ∧ ∃ v, r = .agg #[.bool (decide (zv s la + zv t lb < 0)), v] ∧ ON w0.heap.size w1 v (dg (zv s la + zv t lb).natAbs)) := by
 have E := Below.refl w0.heap.size w0
 have hlx := zv_len (s := s) ha.u32
 have hly := zv_len (s := t) hb.u32
 refine Ret_of (n := 10) Tryz.func12 rfl rfl (Nat.le_of_ble_eq_true rfl) ?_
 refine W_seq ?_
 refine W_region rfl ?_
 refine S_box rfl rfl rfl (v := .agg #[.bool s, va]) (rfl) (cs := [(.bool s), va]) rfl ?_
 intro g1 w1 hg1 hs1 hB1 b1
 have hz1 := hB1.size
 have E := Below.step E hB1
 refine S_box rfl rfl rfl (v := .agg #[.bool t, vb]) (rfl) (cs := [(.bool t), vb]) rfl ?_
 intro g2 w2 hg2 hs2 hB2 b2
 have hz2 := hB2.size
 have E := Below.step E hB2
 have hl_b1 := b1.lt
 have b1 := b1.below hB2
 refine S_alloc ti_api_Int rfl rfl (cs := [.bool false, .slice none 0 0]) rfl ?_
 intro g3 w3 hg3 hs3 hB3 b3
 have hz3 := hB3.size
 have E := Below.step E hB3
 have hl_b1 := b1.lt
 have b1 := b1.below hB3
 have hl_b2 := b2.lt
 have b2 := b2.below hB3
 refine OPS.nil ?_
 change WP _ _ _ _ _ _
 refine W_seq ?_
 refine D_begin_ mixed_ rfl rfl ?_
 intro w4 hB4 hz_4
 have hz4 := hB4.size
 have E := Below.step E hB4
 have hl_b1 := b1.lt
 have b1 := b1.below hB4
 have hl_b2 := b2.lt
 have b2 := b2.below hB4
 have hl_b3 := b3.lt
 have b3 := b3.below hB4
 have hS_ : Below w4.heap.size w4 w4 := Below.refl _ _
 have E_S := E
 have b1_S := b1
 have b2_S := b2
 have b3_S := b3
 refine D_load (i := 0) (listed2 := (bm 6 1)) (by kernel_rfl) rfl rfl rfl (rfl) (fun _ hS2 => LD.blk ti_api_Int (b1_S.below hS2) (l := [(.bool s), va]) rfl rfl) hS_ ?_
 refine D_load (i := 2) (listed2 := (bm 6 5)) (by kernel_rfl) rfl rfl rfl (rfl) (fun _ hS2 => LD.blk ti_api_Int (b2_S.below hS2) (l := [(.bool t), vb]) rfl rfl) hS_ ?_
 refine D_only (i := 1) (by kernel_rfl) (listed2 := (bm 6 7)) (by kernel_rfl) ?_
 refine S_call en_ints_of rfl rfl rfl (vs := [(.agg #[(.bool s), va])]) (rfl) (intsof_c _ s va la (ha.below E)) ?_
 rintro _ w5 ⟨hB5, vh1, rfl, h1⟩
 have hz5 := hB5.size
 have E := Below.step E hB5
 have hl_b1 := b1.lt
 have b1 := b1.below hB5
 have hl_b2 := b2.lt
 have b2 := b2.below hB5
 have hl_b3 := b3.lt
 have b3 := b3.below hB5
 have hS_ := Below.step hS_ hB5
 have h1 := h1 _ _ _ ha
 refine OPS.nil ⟨hS_, ?_⟩
 refine D_last (i := 3) (f := 6) (by kernel_rfl) (by kernel_rfl) (listed2 := (bm 6 15)) (by kernel_rfl) ?_
 refine S_call en_ints_of rfl rfl rfl (vs := [(.agg #[(.bool t), vb])]) (rfl) (intsof_c _ t vb lb (hb.below E)) ?_
 rintro _ w6 ⟨hB6, vh2, rfl, h2⟩
 have hz6 := hB6.size
 have E := Below.step E hB6
 have hl_b1 := b1.lt
 have b1 := b1.below hB6
 have hl_b2 := b2.lt
 have b2 := b2.below hB6
 have hl_b3 := b3.lt
 have b3 := b3.below hB6
 have h2 := h2 _ _ _ hb
 refine OPS.nil ?_
 refine D_last (i := 4) (f := 6) (by kernel_rfl) (by kernel_rfl) (listed2 := (bm 6 31)) (by kernel_rfl) ?_
 refine S_call en_ints_whole_plus rfl rfl rfl (vs := [(.agg #[.bool (decide (zv s la < 0)), vh1]), (.agg #[.bool (decide (zv t lb < 0)), vh2])]) (rfl) (intsPlus_c _ (zv s la) (zv t lb) _ _ (h1.below E) (h2.below E) (by omega) (by omega)) ?_
 rintro _ w7 ⟨hB7, vh9, rfl, h9⟩
 have hz7 := hB7.size
 have E := Below.step E hB7
 have hl_b1 := b1.lt
 have b1 := b1.below hB7
 have hl_b2 := b2.lt
 have b2 := b2.below hB7
 have hl_b3 := b3.lt
 have b3 := b3.below hB7
 refine OPS.nil ?_
 refine D_last (i := 5) (f := 6) (by kernel_rfl) (by kernel_rfl) (listed2 := (bm 6 63)) (by kernel_rfl) ?_
 refine S_store ti_api_Int rfl rfl rfl rfl (g := g3) (o := 0) (rfl) (v := (.agg #[.bool (decide (zv s la + zv t lb < 0)), vh9])) (rfl) (vs := [(.bool (decide (zv s la + zv t lb < 0))), vh9]) rfl rfl (one2 (rfl) (h9.r.one_)) b3 (by simp) (cs' := [(.bool (decide (zv s la + zv t lb < 0))), vh9]) rfl ?_
 intro w8 hU8 b3
 have E := Below.stepU E hU8 (by omega)
 have b1 := b1.upd hU8 (by omega)
 have b2 := b2.upd hU8 (by omega)
 have h9 := h9.upd hU8 (by omega) (by omega)
 have hz8 := hU8.size
 refine OPS.nil ?_
 refine D_done (by kernel_rfl) ?_
 change WP _ _ _ _ _ _
 refine W_ret ?_
 change Fin' _ _ _ _ _ _
 refine EndC (n := ⟨10, []⟩) (t := 4) rfl (by decide) (rfl) (LD.blk ti_api_Int b3 (l := [(.bool (decide (zv s la + zv t lb < 0))), vh9]) rfl rfl) ?_
 exact ⟨E, vh9, rfl, h9.mono (by omega)⟩

set_option maxHeartbeats 400000 in
theorem intsSub_c (w0 : World) (s t : Bool) (va vb : Value) (la lb : List Int) {a b a' b' : Nat} (ha : RN a b w0 va la) (hb : RN a' b' w0 vb lb) (hsa : la.length ≤ SZ) (hsb : lb.length ≤ SZ) :
    Ret Tryz.prog 13 [.agg #[.bool s, va], .agg #[.bool t, vb]] w0 (fun r w1 => Below w0.heap.size w0 w1 ∧ ∃ v, r = .agg #[.bool (decide (zv s la - zv t lb < 0)), v] ∧ ON w0.heap.size w1 v (dg (zv s la - zv t lb).natAbs)) := by
 have E := Below.refl w0.heap.size w0
 have hlx := zv_len (s := s) ha.u32
 have hly := zv_len (s := t) hb.u32
 refine Ret_of (n := 11) Tryz.func13 rfl rfl (Nat.le_of_ble_eq_true rfl) ?_
 refine W_seq ?_
 refine W_region rfl ?_
 refine S_box rfl rfl rfl (v := .agg #[.bool s, va]) (rfl) (cs := [(.bool s), va]) rfl ?_
 intro g1 w1 hg1 hs1 hB1 b1
 have hz1 := hB1.size
 have E := Below.step E hB1
 refine S_box rfl rfl rfl (v := .agg #[.bool t, vb]) (rfl) (cs := [(.bool t), vb]) rfl ?_
 intro g2 w2 hg2 hs2 hB2 b2
 have hz2 := hB2.size
 have E := Below.step E hB2
 have hl_b1 := b1.lt
 have b1 := b1.below hB2
 refine S_alloc ti_api_Int rfl rfl (cs := [.bool false, .slice none 0 0]) rfl ?_
 intro g3 w3 hg3 hs3 hB3 b3
 have hz3 := hB3.size
 have E := Below.step E hB3
 have hl_b1 := b1.lt
 have b1 := b1.below hB3
 have hl_b2 := b2.lt
 have b2 := b2.below hB3
 refine OPS.nil ?_
 change WP _ _ _ _ _ _
 refine W_seq ?_
 refine D_begin_ mixed_ rfl rfl ?_
 intro w4 hB4 hz_4
 have hz4 := hB4.size
 have E := Below.step E hB4
 have hl_b1 := b1.lt
 have b1 := b1.below hB4
 have hl_b2 := b2.lt
 have b2 := b2.below hB4
 have hl_b3 := b3.lt
 have b3 := b3.below hB4
 have hS_ : Below w4.heap.size w4 w4 := Below.refl _ _
 have E_S := E
 have b1_S := b1
 have b2_S := b2
 have b3_S := b3
 refine D_load (i := 0) (listed2 := (bm 7 1)) (by kernel_rfl) rfl rfl rfl (rfl) (fun _ hS2 => LD.blk ti_api_Int (b1_S.below hS2) (l := [(.bool s), va]) rfl rfl) hS_ ?_
 refine D_load (i := 2) (listed2 := (bm 7 5)) (by kernel_rfl) rfl rfl rfl (rfl) (fun _ hS2 => LD.blk ti_api_Int (b2_S.below hS2) (l := [(.bool t), vb]) rfl rfl) hS_ ?_
 refine D_only (i := 1) (by kernel_rfl) (listed2 := (bm 7 7)) (by kernel_rfl) ?_
 refine S_call en_ints_of rfl rfl rfl (vs := [(.agg #[(.bool s), va])]) (rfl) (intsof_c _ s va la (ha.below E)) ?_
 rintro _ w5 ⟨hB5, vh1, rfl, h1⟩
 have hz5 := hB5.size
 have E := Below.step E hB5
 have hl_b1 := b1.lt
 have b1 := b1.below hB5
 have hl_b2 := b2.lt
 have b2 := b2.below hB5
 have hl_b3 := b3.lt
 have b3 := b3.below hB5
 have hS_ := Below.step hS_ hB5
 have h1 := h1 _ _ _ ha
 refine OPS.nil ⟨hS_, ?_⟩
 refine D_only (i := 3) (by kernel_rfl) (listed2 := (bm 7 15)) (by kernel_rfl) ?_
 refine S_call en_ints_of rfl rfl rfl (vs := [(.agg #[(.bool t), vb])]) (rfl) (intsof_c _ t vb lb (hb.below E)) ?_
 rintro _ w6 ⟨hB6, vh2, rfl, h2⟩
 have hz6 := hB6.size
 have E := Below.step E hB6
 have hl_b1 := b1.lt
 have b1 := b1.below hB6
 have hl_b2 := b2.lt
 have b2 := b2.below hB6
 have hl_b3 := b3.lt
 have b3 := b3.below hB6
 have hS_ := Below.step hS_ hB6
 have h2 := h2 _ _ _ hb
 refine OPS.nil ⟨hS_, ?_⟩
 refine D_last (i := 4) (f := 7) (by kernel_rfl) (by kernel_rfl) (listed2 := (bm 7 31)) (by kernel_rfl) ?_
 refine S_call en_ints_whole_turned rfl rfl rfl (vs := [(.agg #[.bool (decide (zv t lb < 0)), vh2])]) (rfl) (intsTurned_c _ _ _ (h2.below E)) ?_
 rintro _ w7 ⟨hB7, rfl⟩
 have hz7 := hB7.size
 have E := Below.step E hB7
 have hl_b1 := b1.lt
 have b1 := b1.below hB7
 have hl_b2 := b2.lt
 have b2 := b2.below hB7
 have hl_b3 := b3.lt
 have b3 := b3.below hB7
 have h3 := h2
 rw [← Int.natAbs_neg (zv t lb)] at h3
 refine OPS.nil ?_
 refine D_last (i := 5) (f := 7) (by kernel_rfl) (by kernel_rfl) (listed2 := (bm 7 63)) (by kernel_rfl) ?_
 have hl3 : (dg (-(zv t lb)).natAbs).length ≤ lb.length := by rw [Int.natAbs_neg]; exact hly
 refine S_call en_ints_whole_plus rfl rfl rfl (vs := [(.agg #[.bool (decide (zv s la < 0)), vh1]), (.agg #[.bool (decide (-(zv t lb) < 0)), vh2])]) (rfl) (intsPlus_c _ (zv s la) (-(zv t lb)) _ _ (h1.below E) (h3.below E) (by omega) (by omega)) ?_
 rintro _ w8 ⟨hB8, vh9, rfl, h9⟩
 have hz8 := hB8.size
 have E := Below.step E hB8
 have hl_b1 := b1.lt
 have b1 := b1.below hB8
 have hl_b2 := b2.lt
 have b2 := b2.below hB8
 have hl_b3 := b3.lt
 have b3 := b3.below hB8
 refine OPS.nil ?_
 refine D_last (i := 6) (f := 7) (by kernel_rfl) (by kernel_rfl) (listed2 := (bm 7 127)) (by kernel_rfl) ?_
 refine S_store ti_api_Int rfl rfl rfl rfl (g := g3) (o := 0) (rfl) (v := (.agg #[.bool (decide (zv s la + -(zv t lb) < 0)), vh9])) (rfl) (vs := [(.bool (decide (zv s la + -(zv t lb) < 0))), vh9]) rfl rfl (one2 (rfl) (h9.r.one_)) b3 (by simp) (cs' := [(.bool (decide (zv s la + -(zv t lb) < 0))), vh9]) rfl ?_
 intro w9 hU9 b3
 have E := Below.stepU E hU9 (by omega)
 have b1 := b1.upd hU9 (by omega)
 have b2 := b2.upd hU9 (by omega)
 have h9 := h9.upd hU9 (by omega) (by omega)
 have hz9 := hU9.size
 refine OPS.nil ?_
 refine D_done (by kernel_rfl) ?_
 change WP _ _ _ _ _ _
 refine W_ret ?_
 change Fin' _ _ _ _ _ _
 refine EndC (n := ⟨11, []⟩) (t := 4) rfl (by decide) (rfl) (LD.blk ti_api_Int b3 (l := [(.bool (decide (zv s la + -(zv t lb) < 0))), vh9]) rfl rfl) ?_
 exact ⟨E, vh9, rfl, h9.mono (by omega)⟩

set_option maxHeartbeats 400000 in
theorem intsMul_c (w0 : World) (s t : Bool) (va vb : Value) (la lb : List Int) {a b a' b' : Nat} (ha : RN a b w0 va la) (hb : RN a' b' w0 vb lb) (hsa : la.length ≤ SZ) (hsb : lb.length ≤ SZ) :
    Ret Tryz.prog 14 [.agg #[.bool s, va], .agg #[.bool t, vb]] w0 (fun r w1 => Below w0.heap.size w0 w1 ∧ ∃ v, r = .agg #[.bool (decide (zv s la * zv t lb < 0)), v] ∧ ON w0.heap.size w1 v (dg (zv s la * zv t lb).natAbs)) := by
 have E := Below.refl w0.heap.size w0
 have hlx := zv_len (s := s) ha.u32
 have hly := zv_len (s := t) hb.u32
 refine Ret_of (n := 22) Tryz.func14 rfl rfl (Nat.le_of_ble_eq_true rfl) ?_
 refine W_seq ?_
 refine W_region rfl ?_
 refine S_box rfl rfl rfl (v := .agg #[.bool s, va]) (rfl) (cs := [(.bool s), va]) rfl ?_
 intro g1 w1 hg1 hs1 hB1 b1
 have hz1 := hB1.size
 have E := Below.step E hB1
 refine S_box rfl rfl rfl (v := .agg #[.bool t, vb]) (rfl) (cs := [(.bool t), vb]) rfl ?_
 intro g2 w2 hg2 hs2 hB2 b2
 have hz2 := hB2.size
 have E := Below.step E hB2
 have hl_b1 := b1.lt
 have b1 := b1.below hB2
 refine S_alloc ti_api_Int rfl rfl (cs := [.bool false, .slice none 0 0]) rfl ?_
 intro g3 w3 hg3 hs3 hB3 b3
 have hz3 := hB3.size
 have E := Below.step E hB3
 have hl_b1 := b1.lt
 have b1 := b1.below hB3
 have hl_b2 := b2.lt
 have b2 := b2.below hB3
 refine OPS.nil ?_
 change WP _ _ _ _ _ _
 refine W_seq ?_
 refine W_cut (fun σ w => ∃ (g h : Nat) (vx vy : Value), σ 4 = .pointer (some ⟨g3, 0, none⟩) ∧ Blk w g3 [.bool false, .slice none 0 0] 25 ∧ g ≠ g3 ∧ h ≠ g3 ∧ σ 5 = .pointer (some ⟨g, 0, none⟩) ∧ σ 6 = .pointer (some ⟨h, 0, none⟩) ∧ g ≠ h ∧ w0.heap.size ≤ g ∧ w0.heap.size ≤ h ∧ Blk w g [.bool (decide (zv s la < 0)), vx] 100 ∧ Blk w h [.bool (decide (zv t lb < 0)), vy] 100 ∧ RN a b w0 vx (dg (zv s la).natAbs) ∧ RN a' b' w0 vy (dg (zv t lb).natAbs) ∧ Below w0.heap.size w0 w) ?_ ?_
 ·skip
  refine D_begin_ mixed_ rfl rfl ?_
  intro w4 hB4 hz_4
  have hz4 := hB4.size
  have E := Below.step E hB4
  have hl_b1 := b1.lt
  have b1 := b1.below hB4
  have hl_b2 := b2.lt
  have b2 := b2.below hB4
  have hl_b3 := b3.lt
  have b3 := b3.below hB4
  have hS_ : Below w4.heap.size w4 w4 := Below.refl _ _
  have E_S := E
  have b1_S := b1
  have b2_S := b2
  have b3_S := b3
  refine D_load (i := 0) (listed2 := (bm 8 1)) (by kernel_rfl) rfl rfl rfl (rfl) (fun _ hS2 => LD.blk ti_api_Int (b1_S.below hS2) (l := [(.bool s), va]) rfl rfl) hS_ ?_
  refine D_load (i := 2) (listed2 := (bm 8 5)) (by kernel_rfl) rfl rfl rfl (rfl) (fun _ hS2 => LD.blk ti_api_Int (b2_S.below hS2) (l := [(.bool t), vb]) rfl rfl) hS_ ?_
  refine D_three (i := 1) (j := 4) (k := 5) (by kernel_rfl) (listed2 := (bm 8 7)) (listed3 := (bm 8 21)) (listed4 := (bm 8 37)) (by kernel_rfl) (by kernel_rfl) (by kernel_rfl) ?_ ?_ ?_
  ·skip
   refine S_call en_ints_of rfl rfl rfl (vs := [(.agg #[(.bool s), va])]) (rfl) (intsof_c _ s va la (ha.below E)) ?_
   rintro _ w5 ⟨hB5, vh1, rfl, h1⟩
   have hz5 := hB5.size
   have E := Below.step E hB5
   have hl_b1 := b1.lt
   have b1 := b1.below hB5
   have hl_b2 := b2.lt
   have b2 := b2.below hB5
   have hl_b3 := b3.lt
   have b3 := b3.below hB5
   have hS_ := Below.step hS_ hB5
   have h1 := h1 _ _ _ ha
   refine OPS.nil ⟨hS_, ?_⟩
   refine D_three (i := 3) (j := 4) (k := 5) (by kernel_rfl) (listed2 := (bm 8 15)) (listed3 := (bm 8 23)) (listed4 := (bm 8 39)) (by kernel_rfl) (by kernel_rfl) (by kernel_rfl) ?_ ?_ ?_
   ·skip
    refine S_call en_ints_of rfl rfl rfl (vs := [(.agg #[(.bool t), vb])]) (rfl) (intsof_c _ t vb lb (hb.below E)) ?_
    rintro _ w6 ⟨hB6, vh2, rfl, h2⟩
    have hz6 := hB6.size
    have E := Below.step E hB6
    have hl_b1 := b1.lt
    have b1 := b1.below hB6
    have hl_b2 := b2.lt
    have b2 := b2.below hB6
    have hl_b3 := b3.lt
    have b3 := b3.below hB6
    have hS_ := Below.step hS_ hB6
    have h2 := h2 _ _ _ hb
    refine OPS.nil ⟨hS_, ?_⟩
    refine D_two (i := 4) (j := 5) (by kernel_rfl) (listed2 := (bm 8 31)) (listed3 := (bm 8 47)) (by kernel_rfl) (by kernel_rfl) ?_ ?_
    ·skip
     refine S_alloc ti_ints_whole rfl rfl (cs := [.bool false, .slice none 0 0]) rfl ?_
     intro g7 w7 hg7 hs7 hB7 b7
     have hz7 := hB7.size
     have E := Below.step E hB7
     have hl_b1 := b1.lt
     have b1 := b1.below hB7
     have hl_b2 := b2.lt
     have b2 := b2.below hB7
     have hl_b3 := b3.lt
     have b3 := b3.below hB7
     have hS_ := Below.step hS_ hB7
     refine OPS.nil ⟨hS_, ?_⟩
     refine D_only (i := 5) (by kernel_rfl) (listed2 := (bm 8 63)) (by kernel_rfl) ?_
     refine S_alloc ti_ints_whole rfl rfl (cs := [.bool false, .slice none 0 0]) rfl ?_
     intro g8 w8 hg8 hs8 hB8 b8
     have hz8 := hB8.size
     have E := Below.step E hB8
     have hl_b1 := b1.lt
     have b1 := b1.below hB8
     have hl_b2 := b2.lt
     have b2 := b2.below hB8
     have hl_b3 := b3.lt
     have b3 := b3.below hB8
     have hS_ := Below.step hS_ hB8
     have hl_b7 := b7.lt
     have b7 := b7.below hB8
     refine OPS.nil ⟨hS_, ?_⟩
     refine D_last (i := 6) (f := 8) (by kernel_rfl) (by kernel_rfl) (listed2 := (bm 8 127)) (by kernel_rfl) ?_
     refine S_store ti_ints_whole rfl rfl rfl rfl (g := g7) (o := 0) (rfl) (v := (.agg #[.bool (decide (zv s la < 0)), vh1])) (rfl) (vs := [(.bool (decide (zv s la < 0))), vh1]) rfl rfl (one2 (rfl) ((h1.below E).one_)) b7 (by simp) (cs' := [(.bool (decide (zv s la < 0))), vh1]) rfl ?_
     intro w9 hU9 b7
     have E := Below.stepU E hU9 (by omega)
     have b1 := b1.upd hU9 (by omega)
     have b2 := b2.upd hU9 (by omega)
     have b3 := b3.upd hU9 (by omega)
     have b8 := b8.upd hU9 (by omega)
     have hz9 := hU9.size
     refine OPS.nil ?_
     refine D_last (i := 7) (f := 8) (by kernel_rfl) (by kernel_rfl) (listed2 := (bm 8 255)) (by kernel_rfl) ?_
     refine S_store ti_ints_whole rfl rfl rfl rfl (g := g8) (o := 0) (rfl) (v := (.agg #[.bool (decide (zv t lb < 0)), vh2])) (rfl) (vs := [(.bool (decide (zv t lb < 0))), vh2]) rfl rfl (one2 (rfl) ((h2.below E).one_)) b8 (by simp) (cs' := [(.bool (decide (zv t lb < 0))), vh2]) rfl ?_
     intro w10 hU10 b8
     have E := Below.stepU E hU10 (by omega)
     have b1 := b1.upd hU10 (by omega)
     have b2 := b2.upd hU10 (by omega)
     have b3 := b3.upd hU10 (by omega)
     have b7 := b7.upd hU10 (by omega)
     have hz10 := hU10.size
     refine OPS.nil ?_
     refine D_done (by kernel_rfl) ?_
     exact ⟨rfl, g7, g8, vh1, vh2, rfl, b3, by omega, by omega, rfl, rfl, by omega, by omega, by omega, b7, b8, h1, h2, E⟩
    ·skip
     refine S_alloc ti_ints_whole rfl rfl (cs := [.bool false, .slice none 0 0]) rfl ?_
     intro g11 w11 hg11 hs11 hB11 b11
     have hz11 := hB11.size
     have E := Below.step E hB11
     have hl_b1 := b1.lt
     have b1 := b1.below hB11
     have hl_b2 := b2.lt
     have b2 := b2.below hB11
     have hl_b3 := b3.lt
     have b3 := b3.below hB11
     have hS_ := Below.step hS_ hB11
     refine OPS.nil ⟨hS_, ?_⟩
     refine D_only (i := 4) (by kernel_rfl) (listed2 := (bm 8 63)) (by kernel_rfl) ?_
     refine S_alloc ti_ints_whole rfl rfl (cs := [.bool false, .slice none 0 0]) rfl ?_
     intro g12 w12 hg12 hs12 hB12 b12
     have hz12 := hB12.size
     have E := Below.step E hB12
     have hl_b1 := b1.lt
     have b1 := b1.below hB12
     have hl_b2 := b2.lt
     have b2 := b2.below hB12
     have hl_b3 := b3.lt
     have b3 := b3.below hB12
     have hS_ := Below.step hS_ hB12
     have hl_b11 := b11.lt
     have b11 := b11.below hB12
     refine OPS.nil ⟨hS_, ?_⟩
     refine D_last (i := 6) (f := 8) (by kernel_rfl) (by kernel_rfl) (listed2 := (bm 8 127)) (by kernel_rfl) ?_
     refine S_store ti_ints_whole rfl rfl rfl rfl (g := g12) (o := 0) (rfl) (v := (.agg #[.bool (decide (zv s la < 0)), vh1])) (rfl) (vs := [(.bool (decide (zv s la < 0))), vh1]) rfl rfl (one2 (rfl) ((h1.below E).one_)) b12 (by simp) (cs' := [(.bool (decide (zv s la < 0))), vh1]) rfl ?_
     intro w13 hU13 b12
     have E := Below.stepU E hU13 (by omega)
     have b1 := b1.upd hU13 (by omega)
     have b2 := b2.upd hU13 (by omega)
     have b3 := b3.upd hU13 (by omega)
     have b11 := b11.upd hU13 (by omega)
     have hz13 := hU13.size
     refine OPS.nil ?_
     refine D_last (i := 7) (f := 8) (by kernel_rfl) (by kernel_rfl) (listed2 := (bm 8 255)) (by kernel_rfl) ?_
     refine S_store ti_ints_whole rfl rfl rfl rfl (g := g11) (o := 0) (rfl) (v := (.agg #[.bool (decide (zv t lb < 0)), vh2])) (rfl) (vs := [(.bool (decide (zv t lb < 0))), vh2]) rfl rfl (one2 (rfl) ((h2.below E).one_)) b11 (by simp) (cs' := [(.bool (decide (zv t lb < 0))), vh2]) rfl ?_
     intro w14 hU14 b11
     have E := Below.stepU E hU14 (by omega)
     have b1 := b1.upd hU14 (by omega)
     have b2 := b2.upd hU14 (by omega)
     have b3 := b3.upd hU14 (by omega)
     have b12 := b12.upd hU14 (by omega)
     have hz14 := hU14.size
     refine OPS.nil ?_
     refine D_done (by kernel_rfl) ?_
     exact ⟨rfl, g12, g11, vh1, vh2, rfl, b3, by omega, by omega, rfl, rfl, by omega, by omega, by omega, b12, b11, h1, h2, E⟩
   ·skip
    refine S_alloc ti_ints_whole rfl rfl (cs := [.bool false, .slice none 0 0]) rfl ?_
    intro g15 w15 hg15 hs15 hB15 b15
    have hz15 := hB15.size
    have E := Below.step E hB15
    have hl_b1 := b1.lt
    have b1 := b1.below hB15
    have hl_b2 := b2.lt
    have b2 := b2.below hB15
    have hl_b3 := b3.lt
    have b3 := b3.below hB15
    have hS_ := Below.step hS_ hB15
    refine OPS.nil ⟨hS_, ?_⟩
    refine D_two (i := 3) (j := 5) (by kernel_rfl) (listed2 := (bm 8 31)) (listed3 := (bm 8 55)) (by kernel_rfl) (by kernel_rfl) ?_ ?_
    ·skip
     refine S_call en_ints_of rfl rfl rfl (vs := [(.agg #[(.bool t), vb])]) (rfl) (intsof_c _ t vb lb (hb.below E)) ?_
     rintro _ w16 ⟨hB16, vh2, rfl, h2⟩
     have hz16 := hB16.size
     have E := Below.step E hB16
     have hl_b1 := b1.lt
     have b1 := b1.below hB16
     have hl_b2 := b2.lt
     have b2 := b2.below hB16
     have hl_b3 := b3.lt
     have b3 := b3.below hB16
     have hS_ := Below.step hS_ hB16
     have hl_b15 := b15.lt
     have b15 := b15.below hB16
     have h2 := h2 _ _ _ hb
     refine OPS.nil ⟨hS_, ?_⟩
     refine D_only (i := 5) (by kernel_rfl) (listed2 := (bm 8 63)) (by kernel_rfl) ?_
     refine S_alloc ti_ints_whole rfl rfl (cs := [.bool false, .slice none 0 0]) rfl ?_
     intro g17 w17 hg17 hs17 hB17 b17
     have hz17 := hB17.size
     have E := Below.step E hB17
     have hl_b1 := b1.lt
     have b1 := b1.below hB17
     have hl_b2 := b2.lt
     have b2 := b2.below hB17
     have hl_b3 := b3.lt
     have b3 := b3.below hB17
     have hS_ := Below.step hS_ hB17
     have hl_b15 := b15.lt
     have b15 := b15.below hB17
     refine OPS.nil ⟨hS_, ?_⟩
     refine D_last (i := 6) (f := 8) (by kernel_rfl) (by kernel_rfl) (listed2 := (bm 8 127)) (by kernel_rfl) ?_
     refine S_store ti_ints_whole rfl rfl rfl rfl (g := g15) (o := 0) (rfl) (v := (.agg #[.bool (decide (zv s la < 0)), vh1])) (rfl) (vs := [(.bool (decide (zv s la < 0))), vh1]) rfl rfl (one2 (rfl) ((h1.below E).one_)) b15 (by simp) (cs' := [(.bool (decide (zv s la < 0))), vh1]) rfl ?_
     intro w18 hU18 b15
     have E := Below.stepU E hU18 (by omega)
     have b1 := b1.upd hU18 (by omega)
     have b2 := b2.upd hU18 (by omega)
     have b3 := b3.upd hU18 (by omega)
     have b17 := b17.upd hU18 (by omega)
     have hz18 := hU18.size
     refine OPS.nil ?_
     refine D_last (i := 7) (f := 8) (by kernel_rfl) (by kernel_rfl) (listed2 := (bm 8 255)) (by kernel_rfl) ?_
     refine S_store ti_ints_whole rfl rfl rfl rfl (g := g17) (o := 0) (rfl) (v := (.agg #[.bool (decide (zv t lb < 0)), vh2])) (rfl) (vs := [(.bool (decide (zv t lb < 0))), vh2]) rfl rfl (one2 (rfl) ((h2.below E).one_)) b17 (by simp) (cs' := [(.bool (decide (zv t lb < 0))), vh2]) rfl ?_
     intro w19 hU19 b17
     have E := Below.stepU E hU19 (by omega)
     have b1 := b1.upd hU19 (by omega)
     have b2 := b2.upd hU19 (by omega)
     have b3 := b3.upd hU19 (by omega)
     have b15 := b15.upd hU19 (by omega)
     have hz19 := hU19.size
     refine OPS.nil ?_
     refine D_done (by kernel_rfl) ?_
     exact ⟨rfl, g15, g17, vh1, vh2, rfl, b3, by omega, by omega, rfl, rfl, by omega, by omega, by omega, b15, b17, h1, h2, E⟩
    ·skip
     refine S_alloc ti_ints_whole rfl rfl (cs := [.bool false, .slice none 0 0]) rfl ?_
     intro g20 w20 hg20 hs20 hB20 b20
     have hz20 := hB20.size
     have E := Below.step E hB20
     have hl_b1 := b1.lt
     have b1 := b1.below hB20
     have hl_b2 := b2.lt
     have b2 := b2.below hB20
     have hl_b3 := b3.lt
     have b3 := b3.below hB20
     have hS_ := Below.step hS_ hB20
     have hl_b15 := b15.lt
     have b15 := b15.below hB20
     refine OPS.nil ⟨hS_, ?_⟩
     refine D_only (i := 3) (by kernel_rfl) (listed2 := (bm 8 63)) (by kernel_rfl) ?_
     refine S_call en_ints_of rfl rfl rfl (vs := [(.agg #[(.bool t), vb])]) (rfl) (intsof_c _ t vb lb (hb.below E)) ?_
     rintro _ w21 ⟨hB21, vh2, rfl, h2⟩
     have hz21 := hB21.size
     have E := Below.step E hB21
     have hl_b1 := b1.lt
     have b1 := b1.below hB21
     have hl_b2 := b2.lt
     have b2 := b2.below hB21
     have hl_b3 := b3.lt
     have b3 := b3.below hB21
     have hS_ := Below.step hS_ hB21
     have hl_b15 := b15.lt
     have b15 := b15.below hB21
     have hl_b20 := b20.lt
     have b20 := b20.below hB21
     have h2 := h2 _ _ _ hb
     refine OPS.nil ⟨hS_, ?_⟩
     refine D_last (i := 6) (f := 8) (by kernel_rfl) (by kernel_rfl) (listed2 := (bm 8 127)) (by kernel_rfl) ?_
     refine S_store ti_ints_whole rfl rfl rfl rfl (g := g15) (o := 0) (rfl) (v := (.agg #[.bool (decide (zv s la < 0)), vh1])) (rfl) (vs := [(.bool (decide (zv s la < 0))), vh1]) rfl rfl (one2 (rfl) ((h1.below E).one_)) b15 (by simp) (cs' := [(.bool (decide (zv s la < 0))), vh1]) rfl ?_
     intro w22 hU22 b15
     have E := Below.stepU E hU22 (by omega)
     have b1 := b1.upd hU22 (by omega)
     have b2 := b2.upd hU22 (by omega)
     have b3 := b3.upd hU22 (by omega)
     have b20 := b20.upd hU22 (by omega)
     have hz22 := hU22.size
     refine OPS.nil ?_
     refine D_last (i := 7) (f := 8) (by kernel_rfl) (by kernel_rfl) (listed2 := (bm 8 255)) (by kernel_rfl) ?_
     refine S_store ti_ints_whole rfl rfl rfl rfl (g := g20) (o := 0) (rfl) (v := (.agg #[.bool (decide (zv t lb < 0)), vh2])) (rfl) (vs := [(.bool (decide (zv t lb < 0))), vh2]) rfl rfl (one2 (rfl) ((h2.below E).one_)) b20 (by simp) (cs' := [(.bool (decide (zv t lb < 0))), vh2]) rfl ?_
     intro w23 hU23 b20
     have E := Below.stepU E hU23 (by omega)
     have b1 := b1.upd hU23 (by omega)
     have b2 := b2.upd hU23 (by omega)
     have b3 := b3.upd hU23 (by omega)
     have b15 := b15.upd hU23 (by omega)
     have hz23 := hU23.size
     refine OPS.nil ?_
     refine D_done (by kernel_rfl) ?_
     exact ⟨rfl, g15, g20, vh1, vh2, rfl, b3, by omega, by omega, rfl, rfl, by omega, by omega, by omega, b15, b20, h1, h2, E⟩
   ·skip
    refine S_alloc ti_ints_whole rfl rfl (cs := [.bool false, .slice none 0 0]) rfl ?_
    intro g24 w24 hg24 hs24 hB24 b24
    have hz24 := hB24.size
    have E := Below.step E hB24
    have hl_b1 := b1.lt
    have b1 := b1.below hB24
    have hl_b2 := b2.lt
    have b2 := b2.below hB24
    have hl_b3 := b3.lt
    have b3 := b3.below hB24
    have hS_ := Below.step hS_ hB24
    refine OPS.nil ⟨hS_, ?_⟩
    refine D_two (i := 3) (j := 4) (by kernel_rfl) (listed2 := (bm 8 47)) (listed3 := (bm 8 55)) (by kernel_rfl) (by kernel_rfl) ?_ ?_
    ·skip
     refine S_call en_ints_of rfl rfl rfl (vs := [(.agg #[(.bool t), vb])]) (rfl) (intsof_c _ t vb lb (hb.below E)) ?_
     rintro _ w25 ⟨hB25, vh2, rfl, h2⟩
     have hz25 := hB25.size
     have E := Below.step E hB25
     have hl_b1 := b1.lt
     have b1 := b1.below hB25
     have hl_b2 := b2.lt
     have b2 := b2.below hB25
     have hl_b3 := b3.lt
     have b3 := b3.below hB25
     have hS_ := Below.step hS_ hB25
     have hl_b24 := b24.lt
     have b24 := b24.below hB25
     have h2 := h2 _ _ _ hb
     refine OPS.nil ⟨hS_, ?_⟩
     refine D_only (i := 4) (by kernel_rfl) (listed2 := (bm 8 63)) (by kernel_rfl) ?_
     refine S_alloc ti_ints_whole rfl rfl (cs := [.bool false, .slice none 0 0]) rfl ?_
     intro g26 w26 hg26 hs26 hB26 b26
     have hz26 := hB26.size
     have E := Below.step E hB26
     have hl_b1 := b1.lt
     have b1 := b1.below hB26
     have hl_b2 := b2.lt
     have b2 := b2.below hB26
     have hl_b3 := b3.lt
     have b3 := b3.below hB26
     have hS_ := Below.step hS_ hB26
     have hl_b24 := b24.lt
     have b24 := b24.below hB26
     refine OPS.nil ⟨hS_, ?_⟩
     refine D_last (i := 6) (f := 8) (by kernel_rfl) (by kernel_rfl) (listed2 := (bm 8 127)) (by kernel_rfl) ?_
     refine S_store ti_ints_whole rfl rfl rfl rfl (g := g26) (o := 0) (rfl) (v := (.agg #[.bool (decide (zv s la < 0)), vh1])) (rfl) (vs := [(.bool (decide (zv s la < 0))), vh1]) rfl rfl (one2 (rfl) ((h1.below E).one_)) b26 (by simp) (cs' := [(.bool (decide (zv s la < 0))), vh1]) rfl ?_
     intro w27 hU27 b26
     have E := Below.stepU E hU27 (by omega)
     have b1 := b1.upd hU27 (by omega)
     have b2 := b2.upd hU27 (by omega)
     have b3 := b3.upd hU27 (by omega)
     have b24 := b24.upd hU27 (by omega)
     have hz27 := hU27.size
     refine OPS.nil ?_
     refine D_last (i := 7) (f := 8) (by kernel_rfl) (by kernel_rfl) (listed2 := (bm 8 255)) (by kernel_rfl) ?_
     refine S_store ti_ints_whole rfl rfl rfl rfl (g := g24) (o := 0) (rfl) (v := (.agg #[.bool (decide (zv t lb < 0)), vh2])) (rfl) (vs := [(.bool (decide (zv t lb < 0))), vh2]) rfl rfl (one2 (rfl) ((h2.below E).one_)) b24 (by simp) (cs' := [(.bool (decide (zv t lb < 0))), vh2]) rfl ?_
     intro w28 hU28 b24
     have E := Below.stepU E hU28 (by omega)
     have b1 := b1.upd hU28 (by omega)
     have b2 := b2.upd hU28 (by omega)
     have b3 := b3.upd hU28 (by omega)
     have b26 := b26.upd hU28 (by omega)
     have hz28 := hU28.size
     refine OPS.nil ?_
     refine D_done (by kernel_rfl) ?_
     exact ⟨rfl, g26, g24, vh1, vh2, rfl, b3, by omega, by omega, rfl, rfl, by omega, by omega, by omega, b26, b24, h1, h2, E⟩
    ·skip
     refine S_alloc ti_ints_whole rfl rfl (cs := [.bool false, .slice none 0 0]) rfl ?_
     intro g29 w29 hg29 hs29 hB29 b29
     have hz29 := hB29.size
     have E := Below.step E hB29
     have hl_b1 := b1.lt
     have b1 := b1.below hB29
     have hl_b2 := b2.lt
     have b2 := b2.below hB29
     have hl_b3 := b3.lt
     have b3 := b3.below hB29
     have hS_ := Below.step hS_ hB29
     have hl_b24 := b24.lt
     have b24 := b24.below hB29
     refine OPS.nil ⟨hS_, ?_⟩
     refine D_only (i := 3) (by kernel_rfl) (listed2 := (bm 8 63)) (by kernel_rfl) ?_
     refine S_call en_ints_of rfl rfl rfl (vs := [(.agg #[(.bool t), vb])]) (rfl) (intsof_c _ t vb lb (hb.below E)) ?_
     rintro _ w30 ⟨hB30, vh2, rfl, h2⟩
     have hz30 := hB30.size
     have E := Below.step E hB30
     have hl_b1 := b1.lt
     have b1 := b1.below hB30
     have hl_b2 := b2.lt
     have b2 := b2.below hB30
     have hl_b3 := b3.lt
     have b3 := b3.below hB30
     have hS_ := Below.step hS_ hB30
     have hl_b24 := b24.lt
     have b24 := b24.below hB30
     have hl_b29 := b29.lt
     have b29 := b29.below hB30
     have h2 := h2 _ _ _ hb
     refine OPS.nil ⟨hS_, ?_⟩
     refine D_last (i := 6) (f := 8) (by kernel_rfl) (by kernel_rfl) (listed2 := (bm 8 127)) (by kernel_rfl) ?_
     refine S_store ti_ints_whole rfl rfl rfl rfl (g := g29) (o := 0) (rfl) (v := (.agg #[.bool (decide (zv s la < 0)), vh1])) (rfl) (vs := [(.bool (decide (zv s la < 0))), vh1]) rfl rfl (one2 (rfl) ((h1.below E).one_)) b29 (by simp) (cs' := [(.bool (decide (zv s la < 0))), vh1]) rfl ?_
     intro w31 hU31 b29
     have E := Below.stepU E hU31 (by omega)
     have b1 := b1.upd hU31 (by omega)
     have b2 := b2.upd hU31 (by omega)
     have b3 := b3.upd hU31 (by omega)
     have b24 := b24.upd hU31 (by omega)
     have hz31 := hU31.size
     refine OPS.nil ?_
     refine D_last (i := 7) (f := 8) (by kernel_rfl) (by kernel_rfl) (listed2 := (bm 8 255)) (by kernel_rfl) ?_
     refine S_store ti_ints_whole rfl rfl rfl rfl (g := g24) (o := 0) (rfl) (v := (.agg #[.bool (decide (zv t lb < 0)), vh2])) (rfl) (vs := [(.bool (decide (zv t lb < 0))), vh2]) rfl rfl (one2 (rfl) ((h2.below E).one_)) b24 (by simp) (cs' := [(.bool (decide (zv t lb < 0))), vh2]) rfl ?_
     intro w32 hU32 b24
     have E := Below.stepU E hU32 (by omega)
     have b1 := b1.upd hU32 (by omega)
     have b2 := b2.upd hU32 (by omega)
     have b3 := b3.upd hU32 (by omega)
     have b29 := b29.upd hU32 (by omega)
     have hz32 := hU32.size
     refine OPS.nil ?_
     refine D_done (by kernel_rfl) ?_
     exact ⟨rfl, g29, g24, vh1, vh2, rfl, b3, by omega, by omega, rfl, rfl, by omega, by omega, by omega, b29, b24, h1, h2, E⟩
  ·skip
   refine S_alloc ti_ints_whole rfl rfl (cs := [.bool false, .slice none 0 0]) rfl ?_
   intro g33 w33 hg33 hs33 hB33 b33
   have hz33 := hB33.size
   have E := Below.step E hB33
   have hl_b1 := b1.lt
   have b1 := b1.below hB33
   have hl_b2 := b2.lt
   have b2 := b2.below hB33
   have hl_b3 := b3.lt
   have b3 := b3.below hB33
   have hS_ := Below.step hS_ hB33
   refine OPS.nil ⟨hS_, ?_⟩
   refine D_two (i := 1) (j := 5) (by kernel_rfl) (listed2 := (bm 8 23)) (listed3 := (bm 8 53)) (by kernel_rfl) (by kernel_rfl) ?_ ?_
   ·skip
    refine S_call en_ints_of rfl rfl rfl (vs := [(.agg #[(.bool s), va])]) (rfl) (intsof_c _ s va la (ha.below E)) ?_
    rintro _ w34 ⟨hB34, vh1, rfl, h1⟩
    have hz34 := hB34.size
    have E := Below.step E hB34
    have hl_b1 := b1.lt
    have b1 := b1.below hB34
    have hl_b2 := b2.lt
    have b2 := b2.below hB34
    have hl_b3 := b3.lt
    have b3 := b3.below hB34
    have hS_ := Below.step hS_ hB34
    have hl_b33 := b33.lt
    have b33 := b33.below hB34
    have h1 := h1 _ _ _ ha
    refine OPS.nil ⟨hS_, ?_⟩
    refine D_two (i := 3) (j := 5) (by kernel_rfl) (listed2 := (bm 8 31)) (listed3 := (bm 8 55)) (by kernel_rfl) (by kernel_rfl) ?_ ?_
    ·skip
     refine S_call en_ints_of rfl rfl rfl (vs := [(.agg #[(.bool t), vb])]) (rfl) (intsof_c _ t vb lb (hb.below E)) ?_
     rintro _ w35 ⟨hB35, vh2, rfl, h2⟩
     have hz35 := hB35.size
     have E := Below.step E hB35
     have hl_b1 := b1.lt
     have b1 := b1.below hB35
     have hl_b2 := b2.lt
     have b2 := b2.below hB35
     have hl_b3 := b3.lt
     have b3 := b3.below hB35
     have hS_ := Below.step hS_ hB35
     have hl_b33 := b33.lt
     have b33 := b33.below hB35
     have h2 := h2 _ _ _ hb
     refine OPS.nil ⟨hS_, ?_⟩
     refine D_only (i := 5) (by kernel_rfl) (listed2 := (bm 8 63)) (by kernel_rfl) ?_
     refine S_alloc ti_ints_whole rfl rfl (cs := [.bool false, .slice none 0 0]) rfl ?_
     intro g36 w36 hg36 hs36 hB36 b36
     have hz36 := hB36.size
     have E := Below.step E hB36
     have hl_b1 := b1.lt
     have b1 := b1.below hB36
     have hl_b2 := b2.lt
     have b2 := b2.below hB36
     have hl_b3 := b3.lt
     have b3 := b3.below hB36
     have hS_ := Below.step hS_ hB36
     have hl_b33 := b33.lt
     have b33 := b33.below hB36
     refine OPS.nil ⟨hS_, ?_⟩
     refine D_last (i := 6) (f := 8) (by kernel_rfl) (by kernel_rfl) (listed2 := (bm 8 127)) (by kernel_rfl) ?_
     refine S_store ti_ints_whole rfl rfl rfl rfl (g := g33) (o := 0) (rfl) (v := (.agg #[.bool (decide (zv s la < 0)), vh1])) (rfl) (vs := [(.bool (decide (zv s la < 0))), vh1]) rfl rfl (one2 (rfl) ((h1.below E).one_)) b33 (by simp) (cs' := [(.bool (decide (zv s la < 0))), vh1]) rfl ?_
     intro w37 hU37 b33
     have E := Below.stepU E hU37 (by omega)
     have b1 := b1.upd hU37 (by omega)
     have b2 := b2.upd hU37 (by omega)
     have b3 := b3.upd hU37 (by omega)
     have b36 := b36.upd hU37 (by omega)
     have hz37 := hU37.size
     refine OPS.nil ?_
     refine D_last (i := 7) (f := 8) (by kernel_rfl) (by kernel_rfl) (listed2 := (bm 8 255)) (by kernel_rfl) ?_
     refine S_store ti_ints_whole rfl rfl rfl rfl (g := g36) (o := 0) (rfl) (v := (.agg #[.bool (decide (zv t lb < 0)), vh2])) (rfl) (vs := [(.bool (decide (zv t lb < 0))), vh2]) rfl rfl (one2 (rfl) ((h2.below E).one_)) b36 (by simp) (cs' := [(.bool (decide (zv t lb < 0))), vh2]) rfl ?_
     intro w38 hU38 b36
     have E := Below.stepU E hU38 (by omega)
     have b1 := b1.upd hU38 (by omega)
     have b2 := b2.upd hU38 (by omega)
     have b3 := b3.upd hU38 (by omega)
     have b33 := b33.upd hU38 (by omega)
     have hz38 := hU38.size
     refine OPS.nil ?_
     refine D_done (by kernel_rfl) ?_
     exact ⟨rfl, g33, g36, vh1, vh2, rfl, b3, by omega, by omega, rfl, rfl, by omega, by omega, by omega, b33, b36, h1, h2, E⟩
    ·skip
     refine S_alloc ti_ints_whole rfl rfl (cs := [.bool false, .slice none 0 0]) rfl ?_
     intro g39 w39 hg39 hs39 hB39 b39
     have hz39 := hB39.size
     have E := Below.step E hB39
     have hl_b1 := b1.lt
     have b1 := b1.below hB39
     have hl_b2 := b2.lt
     have b2 := b2.below hB39
     have hl_b3 := b3.lt
     have b3 := b3.below hB39
     have hS_ := Below.step hS_ hB39
     have hl_b33 := b33.lt
     have b33 := b33.below hB39
     refine OPS.nil ⟨hS_, ?_⟩
     refine D_only (i := 3) (by kernel_rfl) (listed2 := (bm 8 63)) (by kernel_rfl) ?_
     refine S_call en_ints_of rfl rfl rfl (vs := [(.agg #[(.bool t), vb])]) (rfl) (intsof_c _ t vb lb (hb.below E)) ?_
     rintro _ w40 ⟨hB40, vh2, rfl, h2⟩
     have hz40 := hB40.size
     have E := Below.step E hB40
     have hl_b1 := b1.lt
     have b1 := b1.below hB40
     have hl_b2 := b2.lt
     have b2 := b2.below hB40
     have hl_b3 := b3.lt
     have b3 := b3.below hB40
     have hS_ := Below.step hS_ hB40
     have hl_b33 := b33.lt
     have b33 := b33.below hB40
     have hl_b39 := b39.lt
     have b39 := b39.below hB40
     have h2 := h2 _ _ _ hb
     refine OPS.nil ⟨hS_, ?_⟩
     refine D_last (i := 6) (f := 8) (by kernel_rfl) (by kernel_rfl) (listed2 := (bm 8 127)) (by kernel_rfl) ?_
     refine S_store ti_ints_whole rfl rfl rfl rfl (g := g33) (o := 0) (rfl) (v := (.agg #[.bool (decide (zv s la < 0)), vh1])) (rfl) (vs := [(.bool (decide (zv s la < 0))), vh1]) rfl rfl (one2 (rfl) ((h1.below E).one_)) b33 (by simp) (cs' := [(.bool (decide (zv s la < 0))), vh1]) rfl ?_
     intro w41 hU41 b33
     have E := Below.stepU E hU41 (by omega)
     have b1 := b1.upd hU41 (by omega)
     have b2 := b2.upd hU41 (by omega)
     have b3 := b3.upd hU41 (by omega)
     have b39 := b39.upd hU41 (by omega)
     have hz41 := hU41.size
     refine OPS.nil ?_
     refine D_last (i := 7) (f := 8) (by kernel_rfl) (by kernel_rfl) (listed2 := (bm 8 255)) (by kernel_rfl) ?_
     refine S_store ti_ints_whole rfl rfl rfl rfl (g := g39) (o := 0) (rfl) (v := (.agg #[.bool (decide (zv t lb < 0)), vh2])) (rfl) (vs := [(.bool (decide (zv t lb < 0))), vh2]) rfl rfl (one2 (rfl) ((h2.below E).one_)) b39 (by simp) (cs' := [(.bool (decide (zv t lb < 0))), vh2]) rfl ?_
     intro w42 hU42 b39
     have E := Below.stepU E hU42 (by omega)
     have b1 := b1.upd hU42 (by omega)
     have b2 := b2.upd hU42 (by omega)
     have b3 := b3.upd hU42 (by omega)
     have b33 := b33.upd hU42 (by omega)
     have hz42 := hU42.size
     refine OPS.nil ?_
     refine D_done (by kernel_rfl) ?_
     exact ⟨rfl, g33, g39, vh1, vh2, rfl, b3, by omega, by omega, rfl, rfl, by omega, by omega, by omega, b33, b39, h1, h2, E⟩
   ·skip
    refine S_alloc ti_ints_whole rfl rfl (cs := [.bool false, .slice none 0 0]) rfl ?_
    intro g43 w43 hg43 hs43 hB43 b43
    have hz43 := hB43.size
    have E := Below.step E hB43
    have hl_b1 := b1.lt
    have b1 := b1.below hB43
    have hl_b2 := b2.lt
    have b2 := b2.below hB43
    have hl_b3 := b3.lt
    have b3 := b3.below hB43
    have hS_ := Below.step hS_ hB43
    have hl_b33 := b33.lt
    have b33 := b33.below hB43
    refine OPS.nil ⟨hS_, ?_⟩
    refine D_only (i := 1) (by kernel_rfl) (listed2 := (bm 8 55)) (by kernel_rfl) ?_
    refine S_call en_ints_of rfl rfl rfl (vs := [(.agg #[(.bool s), va])]) (rfl) (intsof_c _ s va la (ha.below E)) ?_
    rintro _ w44 ⟨hB44, vh1, rfl, h1⟩
    have hz44 := hB44.size
    have E := Below.step E hB44
    have hl_b1 := b1.lt
    have b1 := b1.below hB44
    have hl_b2 := b2.lt
    have b2 := b2.below hB44
    have hl_b3 := b3.lt
    have b3 := b3.below hB44
    have hS_ := Below.step hS_ hB44
    have hl_b33 := b33.lt
    have b33 := b33.below hB44
    have hl_b43 := b43.lt
    have b43 := b43.below hB44
    have h1 := h1 _ _ _ ha
    refine OPS.nil ⟨hS_, ?_⟩
    refine D_only (i := 3) (by kernel_rfl) (listed2 := (bm 8 63)) (by kernel_rfl) ?_
    refine S_call en_ints_of rfl rfl rfl (vs := [(.agg #[(.bool t), vb])]) (rfl) (intsof_c _ t vb lb (hb.below E)) ?_
    rintro _ w45 ⟨hB45, vh2, rfl, h2⟩
    have hz45 := hB45.size
    have E := Below.step E hB45
    have hl_b1 := b1.lt
    have b1 := b1.below hB45
    have hl_b2 := b2.lt
    have b2 := b2.below hB45
    have hl_b3 := b3.lt
    have b3 := b3.below hB45
    have hS_ := Below.step hS_ hB45
    have hl_b33 := b33.lt
    have b33 := b33.below hB45
    have hl_b43 := b43.lt
    have b43 := b43.below hB45
    have h2 := h2 _ _ _ hb
    refine OPS.nil ⟨hS_, ?_⟩
    refine D_last (i := 6) (f := 8) (by kernel_rfl) (by kernel_rfl) (listed2 := (bm 8 127)) (by kernel_rfl) ?_
    refine S_store ti_ints_whole rfl rfl rfl rfl (g := g33) (o := 0) (rfl) (v := (.agg #[.bool (decide (zv s la < 0)), vh1])) (rfl) (vs := [(.bool (decide (zv s la < 0))), vh1]) rfl rfl (one2 (rfl) ((h1.below E).one_)) b33 (by simp) (cs' := [(.bool (decide (zv s la < 0))), vh1]) rfl ?_
    intro w46 hU46 b33
    have E := Below.stepU E hU46 (by omega)
    have b1 := b1.upd hU46 (by omega)
    have b2 := b2.upd hU46 (by omega)
    have b3 := b3.upd hU46 (by omega)
    have b43 := b43.upd hU46 (by omega)
    have hz46 := hU46.size
    refine OPS.nil ?_
    refine D_last (i := 7) (f := 8) (by kernel_rfl) (by kernel_rfl) (listed2 := (bm 8 255)) (by kernel_rfl) ?_
    refine S_store ti_ints_whole rfl rfl rfl rfl (g := g43) (o := 0) (rfl) (v := (.agg #[.bool (decide (zv t lb < 0)), vh2])) (rfl) (vs := [(.bool (decide (zv t lb < 0))), vh2]) rfl rfl (one2 (rfl) ((h2.below E).one_)) b43 (by simp) (cs' := [(.bool (decide (zv t lb < 0))), vh2]) rfl ?_
    intro w47 hU47 b43
    have E := Below.stepU E hU47 (by omega)
    have b1 := b1.upd hU47 (by omega)
    have b2 := b2.upd hU47 (by omega)
    have b3 := b3.upd hU47 (by omega)
    have b33 := b33.upd hU47 (by omega)
    have hz47 := hU47.size
    refine OPS.nil ?_
    refine D_done (by kernel_rfl) ?_
    exact ⟨rfl, g33, g43, vh1, vh2, rfl, b3, by omega, by omega, rfl, rfl, by omega, by omega, by omega, b33, b43, h1, h2, E⟩
  ·skip
   refine S_alloc ti_ints_whole rfl rfl (cs := [.bool false, .slice none 0 0]) rfl ?_
   intro g48 w48 hg48 hs48 hB48 b48
   have hz48 := hB48.size
   have E := Below.step E hB48
   have hl_b1 := b1.lt
   have b1 := b1.below hB48
   have hl_b2 := b2.lt
   have b2 := b2.below hB48
   have hl_b3 := b3.lt
   have b3 := b3.below hB48
   have hS_ := Below.step hS_ hB48
   refine OPS.nil ⟨hS_, ?_⟩
   refine D_two (i := 1) (j := 4) (by kernel_rfl) (listed2 := (bm 8 39)) (listed3 := (bm 8 53)) (by kernel_rfl) (by kernel_rfl) ?_ ?_
   ·skip
    refine S_call en_ints_of rfl rfl rfl (vs := [(.agg #[(.bool s), va])]) (rfl) (intsof_c _ s va la (ha.below E)) ?_
    rintro _ w49 ⟨hB49, vh1, rfl, h1⟩
    have hz49 := hB49.size
    have E := Below.step E hB49
    have hl_b1 := b1.lt
    have b1 := b1.below hB49
    have hl_b2 := b2.lt
    have b2 := b2.below hB49
    have hl_b3 := b3.lt
    have b3 := b3.below hB49
    have hS_ := Below.step hS_ hB49
    have hl_b48 := b48.lt
    have b48 := b48.below hB49
    have h1 := h1 _ _ _ ha
    refine OPS.nil ⟨hS_, ?_⟩
    refine D_two (i := 3) (j := 4) (by kernel_rfl) (listed2 := (bm 8 47)) (listed3 := (bm 8 55)) (by kernel_rfl) (by kernel_rfl) ?_ ?_
    ·skip
     refine S_call en_ints_of rfl rfl rfl (vs := [(.agg #[(.bool t), vb])]) (rfl) (intsof_c _ t vb lb (hb.below E)) ?_
     rintro _ w50 ⟨hB50, vh2, rfl, h2⟩
     have hz50 := hB50.size
     have E := Below.step E hB50
     have hl_b1 := b1.lt
     have b1 := b1.below hB50
     have hl_b2 := b2.lt
     have b2 := b2.below hB50
     have hl_b3 := b3.lt
     have b3 := b3.below hB50
     have hS_ := Below.step hS_ hB50
     have hl_b48 := b48.lt
     have b48 := b48.below hB50
     have h2 := h2 _ _ _ hb
     refine OPS.nil ⟨hS_, ?_⟩
     refine D_only (i := 4) (by kernel_rfl) (listed2 := (bm 8 63)) (by kernel_rfl) ?_
     refine S_alloc ti_ints_whole rfl rfl (cs := [.bool false, .slice none 0 0]) rfl ?_
     intro g51 w51 hg51 hs51 hB51 b51
     have hz51 := hB51.size
     have E := Below.step E hB51
     have hl_b1 := b1.lt
     have b1 := b1.below hB51
     have hl_b2 := b2.lt
     have b2 := b2.below hB51
     have hl_b3 := b3.lt
     have b3 := b3.below hB51
     have hS_ := Below.step hS_ hB51
     have hl_b48 := b48.lt
     have b48 := b48.below hB51
     refine OPS.nil ⟨hS_, ?_⟩
     refine D_last (i := 6) (f := 8) (by kernel_rfl) (by kernel_rfl) (listed2 := (bm 8 127)) (by kernel_rfl) ?_
     refine S_store ti_ints_whole rfl rfl rfl rfl (g := g51) (o := 0) (rfl) (v := (.agg #[.bool (decide (zv s la < 0)), vh1])) (rfl) (vs := [(.bool (decide (zv s la < 0))), vh1]) rfl rfl (one2 (rfl) ((h1.below E).one_)) b51 (by simp) (cs' := [(.bool (decide (zv s la < 0))), vh1]) rfl ?_
     intro w52 hU52 b51
     have E := Below.stepU E hU52 (by omega)
     have b1 := b1.upd hU52 (by omega)
     have b2 := b2.upd hU52 (by omega)
     have b3 := b3.upd hU52 (by omega)
     have b48 := b48.upd hU52 (by omega)
     have hz52 := hU52.size
     refine OPS.nil ?_
     refine D_last (i := 7) (f := 8) (by kernel_rfl) (by kernel_rfl) (listed2 := (bm 8 255)) (by kernel_rfl) ?_
     refine S_store ti_ints_whole rfl rfl rfl rfl (g := g48) (o := 0) (rfl) (v := (.agg #[.bool (decide (zv t lb < 0)), vh2])) (rfl) (vs := [(.bool (decide (zv t lb < 0))), vh2]) rfl rfl (one2 (rfl) ((h2.below E).one_)) b48 (by simp) (cs' := [(.bool (decide (zv t lb < 0))), vh2]) rfl ?_
     intro w53 hU53 b48
     have E := Below.stepU E hU53 (by omega)
     have b1 := b1.upd hU53 (by omega)
     have b2 := b2.upd hU53 (by omega)
     have b3 := b3.upd hU53 (by omega)
     have b51 := b51.upd hU53 (by omega)
     have hz53 := hU53.size
     refine OPS.nil ?_
     refine D_done (by kernel_rfl) ?_
     exact ⟨rfl, g51, g48, vh1, vh2, rfl, b3, by omega, by omega, rfl, rfl, by omega, by omega, by omega, b51, b48, h1, h2, E⟩
    ·skip
     refine S_alloc ti_ints_whole rfl rfl (cs := [.bool false, .slice none 0 0]) rfl ?_
     intro g54 w54 hg54 hs54 hB54 b54
     have hz54 := hB54.size
     have E := Below.step E hB54
     have hl_b1 := b1.lt
     have b1 := b1.below hB54
     have hl_b2 := b2.lt
     have b2 := b2.below hB54
     have hl_b3 := b3.lt
     have b3 := b3.below hB54
     have hS_ := Below.step hS_ hB54
     have hl_b48 := b48.lt
     have b48 := b48.below hB54
     refine OPS.nil ⟨hS_, ?_⟩
     refine D_only (i := 3) (by kernel_rfl) (listed2 := (bm 8 63)) (by kernel_rfl) ?_
     refine S_call en_ints_of rfl rfl rfl (vs := [(.agg #[(.bool t), vb])]) (rfl) (intsof_c _ t vb lb (hb.below E)) ?_
     rintro _ w55 ⟨hB55, vh2, rfl, h2⟩
     have hz55 := hB55.size
     have E := Below.step E hB55
     have hl_b1 := b1.lt
     have b1 := b1.below hB55
     have hl_b2 := b2.lt
     have b2 := b2.below hB55
     have hl_b3 := b3.lt
     have b3 := b3.below hB55
     have hS_ := Below.step hS_ hB55
     have hl_b48 := b48.lt
     have b48 := b48.below hB55
     have hl_b54 := b54.lt
     have b54 := b54.below hB55
     have h2 := h2 _ _ _ hb
     refine OPS.nil ⟨hS_, ?_⟩
     refine D_last (i := 6) (f := 8) (by kernel_rfl) (by kernel_rfl) (listed2 := (bm 8 127)) (by kernel_rfl) ?_
     refine S_store ti_ints_whole rfl rfl rfl rfl (g := g54) (o := 0) (rfl) (v := (.agg #[.bool (decide (zv s la < 0)), vh1])) (rfl) (vs := [(.bool (decide (zv s la < 0))), vh1]) rfl rfl (one2 (rfl) ((h1.below E).one_)) b54 (by simp) (cs' := [(.bool (decide (zv s la < 0))), vh1]) rfl ?_
     intro w56 hU56 b54
     have E := Below.stepU E hU56 (by omega)
     have b1 := b1.upd hU56 (by omega)
     have b2 := b2.upd hU56 (by omega)
     have b3 := b3.upd hU56 (by omega)
     have b48 := b48.upd hU56 (by omega)
     have hz56 := hU56.size
     refine OPS.nil ?_
     refine D_last (i := 7) (f := 8) (by kernel_rfl) (by kernel_rfl) (listed2 := (bm 8 255)) (by kernel_rfl) ?_
     refine S_store ti_ints_whole rfl rfl rfl rfl (g := g48) (o := 0) (rfl) (v := (.agg #[.bool (decide (zv t lb < 0)), vh2])) (rfl) (vs := [(.bool (decide (zv t lb < 0))), vh2]) rfl rfl (one2 (rfl) ((h2.below E).one_)) b48 (by simp) (cs' := [(.bool (decide (zv t lb < 0))), vh2]) rfl ?_
     intro w57 hU57 b48
     have E := Below.stepU E hU57 (by omega)
     have b1 := b1.upd hU57 (by omega)
     have b2 := b2.upd hU57 (by omega)
     have b3 := b3.upd hU57 (by omega)
     have b54 := b54.upd hU57 (by omega)
     have hz57 := hU57.size
     refine OPS.nil ?_
     refine D_done (by kernel_rfl) ?_
     exact ⟨rfl, g54, g48, vh1, vh2, rfl, b3, by omega, by omega, rfl, rfl, by omega, by omega, by omega, b54, b48, h1, h2, E⟩
   ·skip
    refine S_alloc ti_ints_whole rfl rfl (cs := [.bool false, .slice none 0 0]) rfl ?_
    intro g58 w58 hg58 hs58 hB58 b58
    have hz58 := hB58.size
    have E := Below.step E hB58
    have hl_b1 := b1.lt
    have b1 := b1.below hB58
    have hl_b2 := b2.lt
    have b2 := b2.below hB58
    have hl_b3 := b3.lt
    have b3 := b3.below hB58
    have hS_ := Below.step hS_ hB58
    have hl_b48 := b48.lt
    have b48 := b48.below hB58
    refine OPS.nil ⟨hS_, ?_⟩
    refine D_only (i := 1) (by kernel_rfl) (listed2 := (bm 8 55)) (by kernel_rfl) ?_
    refine S_call en_ints_of rfl rfl rfl (vs := [(.agg #[(.bool s), va])]) (rfl) (intsof_c _ s va la (ha.below E)) ?_
    rintro _ w59 ⟨hB59, vh1, rfl, h1⟩
    have hz59 := hB59.size
    have E := Below.step E hB59
    have hl_b1 := b1.lt
    have b1 := b1.below hB59
    have hl_b2 := b2.lt
    have b2 := b2.below hB59
    have hl_b3 := b3.lt
    have b3 := b3.below hB59
    have hS_ := Below.step hS_ hB59
    have hl_b48 := b48.lt
    have b48 := b48.below hB59
    have hl_b58 := b58.lt
    have b58 := b58.below hB59
    have h1 := h1 _ _ _ ha
    refine OPS.nil ⟨hS_, ?_⟩
    refine D_only (i := 3) (by kernel_rfl) (listed2 := (bm 8 63)) (by kernel_rfl) ?_
    refine S_call en_ints_of rfl rfl rfl (vs := [(.agg #[(.bool t), vb])]) (rfl) (intsof_c _ t vb lb (hb.below E)) ?_
    rintro _ w60 ⟨hB60, vh2, rfl, h2⟩
    have hz60 := hB60.size
    have E := Below.step E hB60
    have hl_b1 := b1.lt
    have b1 := b1.below hB60
    have hl_b2 := b2.lt
    have b2 := b2.below hB60
    have hl_b3 := b3.lt
    have b3 := b3.below hB60
    have hS_ := Below.step hS_ hB60
    have hl_b48 := b48.lt
    have b48 := b48.below hB60
    have hl_b58 := b58.lt
    have b58 := b58.below hB60
    have h2 := h2 _ _ _ hb
    refine OPS.nil ⟨hS_, ?_⟩
    refine D_last (i := 6) (f := 8) (by kernel_rfl) (by kernel_rfl) (listed2 := (bm 8 127)) (by kernel_rfl) ?_
    refine S_store ti_ints_whole rfl rfl rfl rfl (g := g58) (o := 0) (rfl) (v := (.agg #[.bool (decide (zv s la < 0)), vh1])) (rfl) (vs := [(.bool (decide (zv s la < 0))), vh1]) rfl rfl (one2 (rfl) ((h1.below E).one_)) b58 (by simp) (cs' := [(.bool (decide (zv s la < 0))), vh1]) rfl ?_
    intro w61 hU61 b58
    have E := Below.stepU E hU61 (by omega)
    have b1 := b1.upd hU61 (by omega)
    have b2 := b2.upd hU61 (by omega)
    have b3 := b3.upd hU61 (by omega)
    have b48 := b48.upd hU61 (by omega)
    have hz61 := hU61.size
    refine OPS.nil ?_
    refine D_last (i := 7) (f := 8) (by kernel_rfl) (by kernel_rfl) (listed2 := (bm 8 255)) (by kernel_rfl) ?_
    refine S_store ti_ints_whole rfl rfl rfl rfl (g := g48) (o := 0) (rfl) (v := (.agg #[.bool (decide (zv t lb < 0)), vh2])) (rfl) (vs := [(.bool (decide (zv t lb < 0))), vh2]) rfl rfl (one2 (rfl) ((h2.below E).one_)) b48 (by simp) (cs' := [(.bool (decide (zv t lb < 0))), vh2]) rfl ?_
    intro w62 hU62 b48
    have E := Below.stepU E hU62 (by omega)
    have b1 := b1.upd hU62 (by omega)
    have b2 := b2.upd hU62 (by omega)
    have b3 := b3.upd hU62 (by omega)
    have b58 := b58.upd hU62 (by omega)
    have hz62 := hU62.size
    refine OPS.nil ?_
    refine D_done (by kernel_rfl) ?_
    exact ⟨rfl, g58, g48, vh1, vh2, rfl, b3, by omega, by omega, rfl, rfl, by omega, by omega, by omega, b58, b48, h1, h2, E⟩
 ·skip
  rintro σ w ⟨g, h, vx, vy, s4, b3, hg3a, hg3b, s5, s6, hgh, hg0, hh0, b5, b6, h1, h2, E⟩
  change WP _ _ _ _ _ _
  refine W_seq ?_
  refine D_begin_ mixed_ rfl rfl ?_
  intro w63 hB63 hz_63
  have hz63 := hB63.size
  have E := Below.step E hB63
  have hl_b5 := b5.lt
  have b5 := b5.below hB63
  have hl_b6 := b6.lt
  have b6 := b6.below hB63
  have hl_b3 := b3.lt
  have b3 := b3.below hB63
  have hS_ : Below w63.heap.size w63 w63 := Below.refl _ _
  have E_S := E
  have b5_S := b5
  have b6_S := b6
  have b3_S := b3
  refine D_field ft_ints_whole_0 (i := 0) (listed2 := (bm 12 1)) (by kernel_rfl) rfl rfl rfl (g := g) (o := 0) (s5) (o' := 0) rfl hS_ ?_
  refine D_load (i := 1) (listed2 := (bm 12 3)) (by kernel_rfl) rfl rfl rfl (rfl) (fun _ hS2 => LD.blk1 ti_bool (b5_S.below hS2) (v := (.bool (decide (zv s la < 0)))) rfl) hS_ ?_
  refine D_field ft_ints_whole_0 (i := 2) (listed2 := (bm 12 7)) (by kernel_rfl) rfl rfl rfl (g := h) (o := 0) (s6) (o' := 0) rfl hS_ ?_
  refine D_load (i := 3) (listed2 := (bm 12 15)) (by kernel_rfl) rfl rfl rfl (rfl) (fun _ hS2 => LD.blk1 ti_bool (b6_S.below hS2) (v := (.bool (decide (zv t lb < 0)))) rfl) hS_ ?_
  refine D_bne Tryz.underlying4 (i := 4) (listed2 := (bm 12 31)) (by kernel_rfl) rfl rfl rfl rfl (rfl) (rfl) (c := (decide (zv s la < 0) != decide (zv t lb < 0))) (rfl) hS_ ?_
  refine D_field ft_ints_whole_1 (i := 5) (listed2 := (bm 12 63)) (by kernel_rfl) rfl rfl rfl (g := g) (o := 0) (s5) (o' := 1) rfl hS_ ?_
  refine D_load (i := 6) (listed2 := (bm 12 127)) (by kernel_rfl) rfl rfl rfl (rfl) (fun _ hS2 => LD.blk1 ti_api_Nat (b5_S.below hS2) (v := vx) rfl) hS_ ?_
  refine D_field ft_ints_whole_1 (i := 7) (listed2 := (bm 12 255)) (by kernel_rfl) rfl rfl rfl (g := h) (o := 0) (s6) (o' := 1) rfl hS_ ?_
  refine D_load (i := 8) (listed2 := (bm 12 511)) (by kernel_rfl) rfl rfl rfl (rfl) (fun _ hS2 => LD.blk1 ti_api_Nat (b6_S.below hS2) (v := vy) rfl) hS_ ?_
  refine D_only (i := 9) (by kernel_rfl) (listed2 := (bm 12 1023)) (by kernel_rfl) ?_
  refine S_call en_nats_Mul rfl rfl rfl (vs := [vx, vy]) (rfl) (natsMul_d (h1.below E) (h2.below E) (by omega) (by omega)) ?_
  rintro vh9 w64 ⟨hB64, h9⟩
  have hz64 := hB64.size
  have E := Below.step E hB64
  have hl_b5 := b5.lt
  have b5 := b5.below hB64
  have hl_b6 := b6.lt
  have b6 := b6.below hB64
  have hl_b3 := b3.lt
  have b3 := b3.below hB64
  have hS_ := Below.step hS_ hB64
  refine OPS.nil ⟨hS_, ?_⟩
  refine D_last (i := 10) (f := 12) (by kernel_rfl) (by kernel_rfl) (listed2 := (bm 12 2047)) (by kernel_rfl) ?_
  refine S_call en_ints_signed rfl rfl rfl (vs := [(.bool (decide (zv s la < 0) != decide (zv t lb < 0))), vh9]) (rfl) (intsSigned_c _ (decide (zv s la < 0) != decide (zv t lb < 0)) vh9 (dg ((zv s la).natAbs * (zv t lb).natAbs)) h9.r) ?_
  rintro _ w65 ⟨hB65, rfl⟩
  have hz65 := hB65.size
  have E := Below.step E hB65
  have hl_b5 := b5.lt
  have b5 := b5.below hB65
  have hl_b6 := b6.lt
  have b6 := b6.below hB65
  have hl_b3 := b3.lt
  have b3 := b3.below hB65
  have h9 := h9.below hB65
  refine OPS.nil ?_
  refine D_last (i := 11) (f := 12) (by kernel_rfl) (by kernel_rfl) (listed2 := (bm 12 4095)) (by kernel_rfl) ?_
  refine S_store ti_api_Int rfl rfl rfl rfl (g := g3) (o := 0) (s4) (v := (.agg #[.bool ((decide (zv s la < 0) != decide (zv t lb < 0)) && !((dg ((zv s la).natAbs * (zv t lb).natAbs))).isEmpty), vh9])) (rfl) (vs := [(.bool ((decide (zv s la < 0) != decide (zv t lb < 0)) && !((dg ((zv s la).natAbs * (zv t lb).natAbs))).isEmpty)), vh9]) rfl rfl (one2 (rfl) (h9.r.one_)) b3 (by simp) (cs' := [(.bool ((decide (zv s la < 0) != decide (zv t lb < 0)) && !((dg ((zv s la).natAbs * (zv t lb).natAbs))).isEmpty)), vh9]) rfl ?_
  intro w66 hU66 b3
  have E := Below.stepU E hU66 (by omega)
  have b5 := b5.upd hU66 (by omega)
  have b6 := b6.upd hU66 (by omega)
  have h9 := h9.upd hU66 (by omega) (by omega)
  have hz66 := hU66.size
  refine OPS.nil ?_
  refine D_done (by kernel_rfl) ?_
  change WP _ _ _ _ _ _
  refine W_ret ?_
  change Fin' _ _ _ _ _ _
  refine EndC (n := ⟨22, []⟩) (t := 4) rfl (by decide) (s4) (LD.blk ti_api_Int b3 (l := [(.bool ((decide (zv s la < 0) != decide (zv t lb < 0)) && !((dg ((zv s la).natAbs * (zv t lb).natAbs))).isEmpty)), vh9]) rfl rfl) ?_
  have h8 := mul_sign (x := zv s la) (y := zv t lb)
  exact ⟨E, vh9, by rw [h8.1], by rw [← h8.2]; exact h9.mono (by omega)⟩

set_option maxHeartbeats 400000 in
theorem intsNeg_c (w0 : World) (s : Bool) (va : Value) (la : List Int) {a b : Nat} (ha : RN a b w0 va la) (hsa : la.length ≤ SZ) :
    Ret Tryz.prog 15 [.agg #[.bool s, va]] w0 (fun r w1 => Below w0.heap.size w0 w1 ∧ ∃ v, r = .agg #[.bool (decide (-(zv s la) < 0)), v] ∧ ON w0.heap.size w1 v (dg (-(zv s la)).natAbs)) := by
 have E := Below.refl w0.heap.size w0
 have hlx := zv_len (s := s) ha.u32
 refine Ret_of (n := 13) Tryz.func15 rfl rfl (Nat.le_of_ble_eq_true rfl) ?_
 refine W_seq ?_
 refine W_region rfl ?_
 refine S_box rfl rfl rfl (v := .agg #[.bool s, va]) (rfl) (cs := [(.bool s), va]) rfl ?_
 intro g1 w1 hg1 hs1 hB1 b1
 have hz1 := hB1.size
 have E := Below.step E hB1
 refine S_alloc ti_api_Int rfl rfl (cs := [.bool false, .slice none 0 0]) rfl ?_
 intro g2 w2 hg2 hs2 hB2 b2
 have hz2 := hB2.size
 have E := Below.step E hB2
 have hl_b1 := b1.lt
 have b1 := b1.below hB2
 refine OPS.nil ?_
 change WP _ _ _ _ _ _
 refine W_seq ?_
 refine W_region rfl ?_
 refine S_load rfl rfl rfl (rfl) (LD.blk ti_api_Int b1 (l := [(.bool s), va]) rfl rfl) ?_
 refine S_call en_ints_of rfl rfl rfl (vs := [(.agg #[(.bool s), va])]) (rfl) (intsof_c _ s va la (ha.below E)) ?_
 rintro _ w3 ⟨hB3, vh1, rfl, h1⟩
 have hz3 := hB3.size
 have E := Below.step E hB3
 have hl_b1 := b1.lt
 have b1 := b1.below hB3
 have hl_b2 := b2.lt
 have b2 := b2.below hB3
 have h1 := h1 _ _ _ ha
 refine S_call en_ints_whole_turned rfl rfl rfl (vs := [(.agg #[.bool (decide (zv s la < 0)), vh1])]) (rfl) (intsTurned_c _ _ _ (h1.below E)) ?_
 rintro _ w4 ⟨hB4, rfl⟩
 have hz4 := hB4.size
 have E := Below.step E hB4
 have hl_b1 := b1.lt
 have b1 := b1.below hB4
 have hl_b2 := b2.lt
 have b2 := b2.below hB4
 have h2 := h1
 rw [← Int.natAbs_neg (zv s la)] at h2
 refine S_alloc ti_ints_whole rfl rfl (cs := [.bool false, .slice none 0 0]) rfl ?_
 intro g5 w5 hg5 hs5 hB5 b5
 have hz5 := hB5.size
 have E := Below.step E hB5
 have hl_b1 := b1.lt
 have b1 := b1.below hB5
 have hl_b2 := b2.lt
 have b2 := b2.below hB5
 refine S_store ti_ints_whole rfl rfl rfl rfl (g := g5) (o := 0) (rfl) (v := (.agg #[.bool (decide (-(zv s la) < 0)), vh1])) (rfl) (vs := [(.bool (decide (-(zv s la) < 0))), vh1]) rfl rfl (one2 (rfl) ((h2.below E).one_)) b5 (by simp) (cs' := [(.bool (decide (-(zv s la) < 0))), vh1]) rfl ?_
 intro w6 hU6 b5
 have E := Below.stepU E hU6 (by omega)
 have b1 := b1.upd hU6 (by omega)
 have b2 := b2.upd hU6 (by omega)
 have hz6 := hU6.size
 refine OPS.nil ?_
 change WP _ _ _ _ _ _
 refine W_seq ?_
 refine D_begin_ mixed_ rfl rfl ?_
 intro w7 hB7 hz_7
 have hz7 := hB7.size
 have E := Below.step E hB7
 have hl_b1 := b1.lt
 have b1 := b1.below hB7
 have hl_b2 := b2.lt
 have b2 := b2.below hB7
 have hl_b5 := b5.lt
 have b5 := b5.below hB7
 have hS_ : Below w7.heap.size w7 w7 := Below.refl _ _
 have E_S := E
 have b1_S := b1
 have b2_S := b2
 have b5_S := b5
 refine D_field ft_ints_whole_0 (i := 0) (listed2 := (bm 7 1)) (by kernel_rfl) rfl rfl rfl (g := g5) (o := 0) (rfl) (o' := 0) rfl hS_ ?_
 refine D_load (i := 1) (listed2 := (bm 7 3)) (by kernel_rfl) rfl rfl rfl (rfl) (fun _ hS2 => LD.blk1 ti_bool (b5_S.below hS2) (v := (.bool (decide (-(zv s la) < 0)))) rfl) hS_ ?_
 refine D_field ft_ints_whole_1 (i := 2) (listed2 := (bm 7 7)) (by kernel_rfl) rfl rfl rfl (g := g5) (o := 0) (rfl) (o' := 1) rfl hS_ ?_
 refine D_load (i := 3) (listed2 := (bm 7 15)) (by kernel_rfl) rfl rfl rfl (rfl) (fun _ hS2 => LD.blk1 ti_api_Nat (b5_S.below hS2) (v := vh1) rfl) hS_ ?_
 refine D_only (i := 4) (by kernel_rfl) (listed2 := (bm 7 31)) (by kernel_rfl) ?_
 refine S_call en_slices_Clone_api_Nat_uint32 rfl rfl rfl (vs := [vh1]) (rfl) (natsClone_c _ _ _ (h2.below E) (by rw [Int.natAbs_neg]; omega)) ?_
 rintro vh3 w8 ⟨hB8, h3⟩
 have hz8 := hB8.size
 have E := Below.step E hB8
 have hl_b1 := b1.lt
 have b1 := b1.below hB8
 have hl_b2 := b2.lt
 have b2 := b2.below hB8
 have hl_b5 := b5.lt
 have b5 := b5.below hB8
 have hS_ := Below.step hS_ hB8
 obtain ⟨Ah3, ch3, rfl, -, -⟩ := h3.r.form
 refine OPS.nil ⟨hS_, ?_⟩
 refine D_build (i := 5) (listed2 := (bm 7 63)) (by kernel_rfl) rfl rfl rfl (cs := [(.bool (decide (-(zv s la) < 0))), (.slice Ah3 ((dg (-(zv s la)).natAbs)).length ch3)]) (by kernel_rfl) hS_ ?_
 refine D_last (i := 6) (f := 7) (by kernel_rfl) (by kernel_rfl) (listed2 := (bm 7 127)) (by kernel_rfl) ?_
 refine S_store ti_api_Int rfl rfl rfl rfl (g := g2) (o := 0) (rfl) (v := (.agg #[(.bool (decide (-(zv s la) < 0))), (.slice Ah3 ((dg (-(zv s la)).natAbs)).length ch3)])) (rfl) (vs := [(.bool (decide (-(zv s la) < 0))), (.slice Ah3 ((dg (-(zv s la)).natAbs)).length ch3)]) rfl rfl (one2 (rfl) (rfl)) b2 (by simp) (cs' := [(.bool (decide (-(zv s la) < 0))), (.slice Ah3 ((dg (-(zv s la)).natAbs)).length ch3)]) rfl ?_
 intro w9 hU9 b2
 have E := Below.stepU E hU9 (by omega)
 have b1 := b1.upd hU9 (by omega)
 have b5 := b5.upd hU9 (by omega)
 have h3 := h3.upd hU9 (by omega) (by omega)
 have hz9 := hU9.size
 refine OPS.nil ?_
 refine D_done (by kernel_rfl) ?_
 change WP _ _ _ _ _ _
 refine W_ret ?_
 change Fin' _ _ _ _ _ _
 refine EndC (n := ⟨13, []⟩) (t := 2) rfl (by decide) (rfl) (LD.blk ti_api_Int b2 (l := [(.bool (decide (-(zv s la) < 0))), (.slice Ah3 ((dg (-(zv s la)).natAbs)).length ch3)]) rfl rfl) ?_
 exact ⟨E, _, rfl, h3.mono (by omega)⟩

end Go.Proofs.YtccmicegihlfbaaGreatDoor

/- Whole numbers: the document's. -/
namespace Go.Proofs.YtccmicegihlfbaaGreatDoor
open Go.RowKit

set_option maxHeartbeats 400000 in
theorem ref02Sign_c (w0 : World) (s : Bool) (va : Value) (la : List Int) {a b : Nat} (ha : RN a b w0 va la) :
    Ret Tryz.prog 19 [.agg #[.bool s, va]] w0 (fun r w1 => Below w0.heap.size w0 w1 ∧ r = .int .i64 (cmpZ (zv s la) 0)) := by
 have E := Below.refl w0.heap.size w0
 refine Ret_of (n := 11) Tryz.func19 rfl rfl (Nat.le_of_ble_eq_true rfl) ?_
 refine W_seq ?_
 refine W_region rfl ?_
 refine S_box rfl rfl rfl (v := .agg #[.bool s, va]) (rfl) (cs := [(.bool s), va]) rfl ?_
 intro g1 w1 hg1 hs1 hB1 b1
 have hz1 := hB1.size
 have E := Below.step E hB1
 refine S_assign rfl rfl rfl (v := (.int .i64 0)) (rfl) ?_
 refine OPS.nil ?_
 change WP _ _ _ _ _ _
 refine W_seq ?_
 refine W_region rfl ?_
 refine S_load rfl rfl rfl (rfl) (LD.blk ti_api_Int b1 (l := [(.bool s), va]) rfl rfl) ?_
 refine S_call en_assayerref02_fit rfl rfl rfl (vs := [(.agg #[(.bool s), va])]) (rfl) (ref02Fit_c _ s va la (ha.below E)) ?_
 rintro _ w2 ⟨hB2, vh1, rfl, h1⟩
 have hz2 := hB2.size
 have E := Below.step E hB2
 have hl_b1 := b1.lt
 have b1 := b1.below hB2
 have h1 := h1 _ _ _ ha
 refine S_store ti_api_Int rfl rfl rfl rfl (g := g1) (o := 0) (rfl) (v := (.agg #[.bool (decide (zv s la < 0)), vh1])) (rfl) (vs := [(.bool (decide (zv s la < 0))), vh1]) rfl rfl (one2 (rfl) ((h1.below E).one_)) b1 (by simp) (cs' := [(.bool (decide (zv s la < 0))), vh1]) rfl ?_
 intro w3 hU3 b1
 have E := Below.stepU E hU3 (by omega)
 have hz3 := hU3.size
 refine OPS.nil ?_
 change WP _ _ _ _ _ _
 refine W_seq ?_
 refine W_seq ?_
 refine W_region rfl ?_
 refine S_field ft_api_Int_0 rfl rfl rfl (g := g1) (o := 0) (rfl) (o' := 0) rfl ?_
 refine S_load rfl rfl rfl (rfl) (LD.blk1 ti_bool b1 (v := (.bool (decide (zv s la < 0)))) rfl) ?_
 refine OPS.nil ?_
 change WP _ _ _ _ _ _
 refine W_cond rfl (rfl) (fun hq6 => ?_) (fun hq6 => ?_)
 ·skip
  have pT := hq6
  skip
  try rw [pT]
  refine W_seq ?_
  refine W_region rfl ?_
  refine S_assign rfl rfl rfl (v := (.int .i64 (-1))) (rfl) ?_
  refine OPS.nil ?_
  change WP _ _ _ _ _ _
  refine W_ret ?_
  change Fin' _ _ _ _ _ _
  refine End1 (n := ⟨11, []⟩) (t := 2) rfl (by decide) (v := (.int .i64 (-1))) (rfl) ?_
  exact ⟨E, by rw [show cmpZ (zv s la) 0 = -1 from if_pos (of_decide_eq_true pT)]⟩
 ·skip
  have pF := hq6
  skip
  try rw [pF]
  refine W_skip ?_
  change WP _ _ _ _ _ _
  refine W_seq ?_
  refine W_seq ?_
  refine W_region rfl ?_
  refine S_field ft_api_Int_1 rfl rfl rfl (g := g1) (o := 0) (rfl) (o' := 1) rfl ?_
  refine S_load rfl rfl rfl (rfl) (LD.blk1 ti_api_Nat b1 (v := vh1) rfl) ?_
  refine S_len Tryz.underlying23 rfl rfl rfl (rfl) (m := (dg (zv s la).natAbs).length) ((h1.below E).len) ?_
  refine S_bin rfl rfl rfl rfl rfl (rfl) (rfl) (v := .bool (decide (((dg (zv s la).natAbs).length : Int) > 0))) rfl ?_
  refine OPS.nil ?_
  change WP _ _ _ _ _ _
  refine W_cond rfl (rfl) (fun hq10 => ?_) (fun hq10 => ?_)
  ·skip
   have pFT := hq10
   replace hq10 := of_decide_eq_true hq10
   have qFT := hq10
   try rw [pFT]
   refine W_seq ?_
   refine W_region rfl ?_
   refine S_assign rfl rfl rfl (v := (.int .i64 1)) (rfl) ?_
   refine OPS.nil ?_
   change WP _ _ _ _ _ _
   refine W_ret ?_
   change Fin' _ _ _ _ _ _
   refine End1 (n := ⟨11, []⟩) (t := 2) rfl (by decide) (v := (.int .i64 1)) (rfl) ?_
   have h8 := of_decide_eq_false pF
   have h9 : dg (zv s la).natAbs ≠ [] := fun e => by rw [e] at qFT; simp at qFT
   have h7 : (zv s la).natAbs ≠ 0 := fun e => h9 (dg_eq_nil.2 e)
   exact ⟨E, int_eq (by unfold cmpZ; rw [if_neg h8, if_neg (by omega)])⟩
  ·skip
   have pFF := hq10
   replace hq10 := of_decide_eq_false hq10
   have qFF := hq10
   try rw [pFF]
   refine W_skip ?_
   change WP _ _ _ _ _ _
   refine W_seq ?_
   refine W_region rfl ?_
   refine S_assign rfl rfl rfl (v := (.int .i64 0)) (rfl) ?_
   refine OPS.nil ?_
   change WP _ _ _ _ _ _
   refine W_ret ?_
   change Fin' _ _ _ _ _ _
   refine End1 (n := ⟨11, []⟩) (t := 2) rfl (by decide) (v := (.int .i64 0)) (rfl) ?_
   have h8 := of_decide_eq_false pF
   have h9 : dg (zv s la).natAbs = [] := List.eq_nil_of_length_eq_zero (by omega)
   have h7 := dg_eq_nil.1 h9
   exact ⟨E, int_eq (by unfold cmpZ; rw [if_neg h8, if_pos (by omega)])⟩

set_option maxHeartbeats 400000 in
theorem ref02Neg_c (w0 : World) (s : Bool) (va : Value) (la : List Int) {a b : Nat} (ha : RN a b w0 va la) (hsa : la.length ≤ SZ) :
    Ret Tryz.prog 24 [.agg #[.bool s, va]] w0 (fun r w1 => Below w0.heap.size w0 w1 ∧ ∃ v, r = .agg #[.bool (decide (-(zv s la) < 0)), v] ∧ ON w0.heap.size w1 v (dg (-(zv s la)).natAbs)) := by
 have E := Below.refl w0.heap.size w0
 have hlx := zv_len (s := s) ha.u32
 refine Ret_of (n := 12) Tryz.func24 rfl rfl (Nat.le_of_ble_eq_true rfl) ?_
 refine W_seq ?_
 refine W_region rfl ?_
 refine S_box rfl rfl rfl (v := .agg #[.bool s, va]) (rfl) (cs := [(.bool s), va]) rfl ?_
 intro g1 w1 hg1 hs1 hB1 b1
 have hz1 := hB1.size
 have E := Below.step E hB1
 refine S_alloc ti_api_Int rfl rfl (cs := [.bool false, .slice none 0 0]) rfl ?_
 intro g2 w2 hg2 hs2 hB2 b2
 have hz2 := hB2.size
 have E := Below.step E hB2
 have hl_b1 := b1.lt
 have b1 := b1.below hB2
 refine OPS.nil ?_
 change WP _ _ _ _ _ _
 refine W_seq ?_
 refine W_region rfl ?_
 refine S_load rfl rfl rfl (rfl) (LD.blk ti_api_Int b1 (l := [(.bool s), va]) rfl rfl) ?_
 refine S_call en_assayerref02_fit rfl rfl rfl (vs := [(.agg #[(.bool s), va])]) (rfl) (ref02Fit_c _ s va la (ha.below E)) ?_
 rintro _ w3 ⟨hB3, vh1, rfl, h1⟩
 have hz3 := hB3.size
 have E := Below.step E hB3
 have hl_b1 := b1.lt
 have b1 := b1.below hB3
 have hl_b2 := b2.lt
 have b2 := b2.below hB3
 have h1 := h1 _ _ _ ha
 refine S_store ti_api_Int rfl rfl rfl rfl (g := g1) (o := 0) (rfl) (v := (.agg #[.bool (decide (zv s la < 0)), vh1])) (rfl) (vs := [(.bool (decide (zv s la < 0))), vh1]) rfl rfl (one2 (rfl) ((h1.below E).one_)) b1 (by simp) (cs' := [(.bool (decide (zv s la < 0))), vh1]) rfl ?_
 intro w4 hU4 b1
 have E := Below.stepU E hU4 (by omega)
 have b2 := b2.upd hU4 (by omega)
 have hz4 := hU4.size
 refine OPS.nil ?_
 change WP _ _ _ _ _ _
 refine W_seq ?_
 refine D_begin_ mixed_ rfl rfl ?_
 intro w5 hB5 hz_5
 have hz5 := hB5.size
 have E := Below.step E hB5
 have hl_b1 := b1.lt
 have b1 := b1.below hB5
 have hl_b2 := b2.lt
 have b2 := b2.below hB5
 have hS_ : Below w5.heap.size w5 w5 := Below.refl _ _
 have E_S := E
 have b1_S := b1
 have b2_S := b2
 refine D_field ft_api_Int_0 (i := 0) (listed2 := (bm 8 1)) (by kernel_rfl) rfl rfl rfl (g := g1) (o := 0) (rfl) (o' := 0) rfl hS_ ?_
 refine D_load (i := 1) (listed2 := (bm 8 3)) (by kernel_rfl) rfl rfl rfl (rfl) (fun _ hS2 => LD.blk1 ti_bool (b1_S.below hS2) (v := (.bool (decide (zv s la < 0)))) rfl) hS_ ?_
 refine D_not (i := 2) (listed2 := (bm 8 7)) (by kernel_rfl) rfl rfl rfl (rfl) hS_ ?_
 refine D_field ft_api_Int_1 (i := 3) (listed2 := (bm 8 15)) (by kernel_rfl) rfl rfl rfl (g := g1) (o := 0) (rfl) (o' := 1) rfl hS_ ?_
 refine D_load (i := 4) (listed2 := (bm 8 31)) (by kernel_rfl) rfl rfl rfl (rfl) (fun _ hS2 => LD.blk1 ti_api_Nat (b1_S.below hS2) (v := vh1) rfl) hS_ ?_
 refine D_only (i := 5) (by kernel_rfl) (listed2 := (bm 8 63)) (by kernel_rfl) ?_
 refine S_call en_assayerref01_Twin rfl rfl rfl (vs := [vh1]) (rfl) (ref01Twin_c _ _ _ (h1.below E) (by omega)) ?_
 rintro vh3 w6 ⟨hB6, h3⟩
 have hz6 := hB6.size
 have E := Below.step E hB6
 have hl_b1 := b1.lt
 have b1 := b1.below hB6
 have hl_b2 := b2.lt
 have b2 := b2.below hB6
 have hS_ := Below.step hS_ hB6
 refine OPS.nil ⟨hS_, ?_⟩
 refine D_last (i := 6) (f := 8) (by kernel_rfl) (by kernel_rfl) (listed2 := (bm 8 127)) (by kernel_rfl) ?_
 refine S_call en_assayerref02_Signed rfl rfl rfl (vs := [(.bool (!(decide (zv s la < 0)))), vh3]) (rfl) (ref02Signed_c _ (!(decide (zv s la < 0))) vh3 (dg (zv s la).natAbs) h3.r) ?_
 rintro _ w7 ⟨hB7, rfl⟩
 have hz7 := hB7.size
 have E := Below.step E hB7
 have hl_b1 := b1.lt
 have b1 := b1.below hB7
 have hl_b2 := b2.lt
 have b2 := b2.below hB7
 have h3 := h3.below hB7
 refine OPS.nil ?_
 refine D_last (i := 7) (f := 8) (by kernel_rfl) (by kernel_rfl) (listed2 := (bm 8 255)) (by kernel_rfl) ?_
 refine S_store ti_api_Int rfl rfl rfl rfl (g := g2) (o := 0) (rfl) (v := (.agg #[.bool ((!(decide (zv s la < 0))) && !((dg (zv s la).natAbs)).isEmpty), vh3])) (rfl) (vs := [(.bool ((!(decide (zv s la < 0))) && !((dg (zv s la).natAbs)).isEmpty)), vh3]) rfl rfl (one2 (rfl) (h3.r.one_)) b2 (by simp) (cs' := [(.bool ((!(decide (zv s la < 0))) && !((dg (zv s la).natAbs)).isEmpty)), vh3]) rfl ?_
 intro w8 hU8 b2
 have E := Below.stepU E hU8 (by omega)
 have b1 := b1.upd hU8 (by omega)
 have h3 := h3.upd hU8 (by omega) (by omega)
 have hz8 := hU8.size
 refine OPS.nil ?_
 refine D_done (by kernel_rfl) ?_
 change WP _ _ _ _ _ _
 refine W_ret ?_
 change Fin' _ _ _ _ _ _
 refine EndC (n := ⟨12, []⟩) (t := 2) rfl (by decide) (rfl) (LD.blk ti_api_Int b2 (l := [(.bool ((!(decide (zv s la < 0))) && !((dg (zv s la).natAbs)).isEmpty)), vh3]) rfl rfl) ?_
 have h9 := neg_sign (z := zv s la)
 exact ⟨E, vh3, by rw [h9.1], by rw [← h9.2]; exact h3.mono (by omega)⟩

set_option maxHeartbeats 400000 in
theorem ref02Add_c (w0 : World) (s t : Bool) (va vb : Value) (la lb : List Int) {a b a' b' : Nat} (ha : RN a b w0 va la) (hb : RN a' b' w0 vb lb) (hsa : la.length ≤ SZ) (hsb : lb.length ≤ SZ) :
    Ret Tryz.prog 21 [.agg #[.bool s, va], .agg #[.bool t, vb]] w0 (fun r w1 => Below w0.heap.size w0 w1 ∧ ∃ v, r = .agg #[.bool (decide (zv s la + zv t lb < 0)), v] ∧ ON w0.heap.size w1 v (dg (zv s la + zv t lb).natAbs)) := by
 have E := Below.refl w0.heap.size w0
 have hlx := zv_len (s := s) ha.u32
 have hly := zv_len (s := t) hb.u32
 refine Ret_of (n := 56) Tryz.func21 rfl rfl (Nat.le_of_ble_eq_true rfl) ?_
 refine W_seq ?_
 refine W_region rfl ?_
 refine S_box rfl rfl rfl (v := .agg #[.bool s, va]) (rfl) (cs := [(.bool s), va]) rfl ?_
 intro g1 w1 hg1 hs1 hB1 b1
 have hz1 := hB1.size
 have E := Below.step E hB1
 refine S_box rfl rfl rfl (v := .agg #[.bool t, vb]) (rfl) (cs := [(.bool t), vb]) rfl ?_
 intro g2 w2 hg2 hs2 hB2 b2
 have hz2 := hB2.size
 have E := Below.step E hB2
 have hl_b1 := b1.lt
 have b1 := b1.below hB2
 refine S_alloc ti_api_Int rfl rfl (cs := [.bool false, .slice none 0 0]) rfl ?_
 intro g3 w3 hg3 hs3 hB3 b3
 have hz3 := hB3.size
 have E := Below.step E hB3
 have hl_b1 := b1.lt
 have b1 := b1.below hB3
 have hl_b2 := b2.lt
 have b2 := b2.below hB3
 refine OPS.nil ?_
 change WP _ _ _ _ _ _
 refine W_seq ?_
 refine W_region rfl ?_
 refine S_load rfl rfl rfl (rfl) (LD.blk ti_api_Int b1 (l := [(.bool s), va]) rfl rfl) ?_
 refine S_call en_assayerref02_fit rfl rfl rfl (vs := [(.agg #[(.bool s), va])]) (rfl) (ref02Fit_c _ s va la (ha.below E)) ?_
 rintro _ w4 ⟨hB4, vh1, rfl, h1⟩
 have hz4 := hB4.size
 have E := Below.step E hB4
 have hl_b1 := b1.lt
 have b1 := b1.below hB4
 have hl_b2 := b2.lt
 have b2 := b2.below hB4
 have hl_b3 := b3.lt
 have b3 := b3.below hB4
 have h1 := h1 _ _ _ ha
 refine S_store ti_api_Int rfl rfl rfl rfl (g := g1) (o := 0) (rfl) (v := (.agg #[.bool (decide (zv s la < 0)), vh1])) (rfl) (vs := [(.bool (decide (zv s la < 0))), vh1]) rfl rfl (one2 (rfl) ((h1.below E).one_)) b1 (by simp) (cs' := [(.bool (decide (zv s la < 0))), vh1]) rfl ?_
 intro w5 hU5 b1
 have E := Below.stepU E hU5 (by omega)
 have b2 := b2.upd hU5 (by omega)
 have b3 := b3.upd hU5 (by omega)
 have hz5 := hU5.size
 refine OPS.nil ?_
 change WP _ _ _ _ _ _
 refine W_seq ?_
 refine W_region rfl ?_
 refine S_load rfl rfl rfl (rfl) (LD.blk ti_api_Int b2 (l := [(.bool t), vb]) rfl rfl) ?_
 refine S_call en_assayerref02_fit rfl rfl rfl (vs := [(.agg #[(.bool t), vb])]) (rfl) (ref02Fit_c _ t vb lb (hb.below E)) ?_
 rintro _ w6 ⟨hB6, vh2, rfl, h2⟩
 have hz6 := hB6.size
 have E := Below.step E hB6
 have hl_b1 := b1.lt
 have b1 := b1.below hB6
 have hl_b2 := b2.lt
 have b2 := b2.below hB6
 have hl_b3 := b3.lt
 have b3 := b3.below hB6
 have h2 := h2 _ _ _ hb
 refine S_store ti_api_Int rfl rfl rfl rfl (g := g2) (o := 0) (rfl) (v := (.agg #[.bool (decide (zv t lb < 0)), vh2])) (rfl) (vs := [(.bool (decide (zv t lb < 0))), vh2]) rfl rfl (one2 (rfl) ((h2.below E).one_)) b2 (by simp) (cs' := [(.bool (decide (zv t lb < 0))), vh2]) rfl ?_
 intro w7 hU7 b2
 have E := Below.stepU E hU7 (by omega)
 have b1 := b1.upd hU7 (by omega)
 have b3 := b3.upd hU7 (by omega)
 have hz7 := hU7.size
 refine OPS.nil ?_
 change WP _ _ _ _ _ _
 refine W_seq ?_
 refine W_seq ?_
 refine W_region rfl ?_
 refine S_field ft_api_Int_0 rfl rfl rfl (g := g1) (o := 0) (rfl) (o' := 0) rfl ?_
 refine S_load rfl rfl rfl (rfl) (LD.blk1 ti_bool b1 (v := (.bool (decide (zv s la < 0)))) rfl) ?_
 refine S_field ft_api_Int_0 rfl rfl rfl (g := g2) (o := 0) (rfl) (o' := 0) rfl ?_
 refine S_load rfl rfl rfl (rfl) (LD.blk1 ti_bool b2 (v := (.bool (decide (zv t lb < 0)))) rfl) ?_
 refine S_beq Tryz.underlying4 rfl rfl rfl rfl (rfl) (rfl) (c := ((decide (zv s la < 0)) == (decide (zv t lb < 0)))) (rfl) ?_
 refine OPS.nil ?_
 change WP _ _ _ _ _ _
 refine W_cond rfl (rfl) (fun hq17 => ?_) (fun hq17 => ?_)
 ·skip
  have pT := hq17
  skip
  try rw [pT]
  refine W_seq ?_
  refine D_begin_ mixed_ rfl rfl ?_
  intro w8 hB8 hz_8
  have hz8 := hB8.size
  have E := Below.step E hB8
  have hl_b1 := b1.lt
  have b1 := b1.below hB8
  have hl_b2 := b2.lt
  have b2 := b2.below hB8
  have hl_b3 := b3.lt
  have b3 := b3.below hB8
  have hS_ : Below w8.heap.size w8 w8 := Below.refl _ _
  have E_S := E
  have b1_S := b1
  have b2_S := b2
  have b3_S := b3
  refine D_field ft_api_Int_0 (i := 0) (listed2 := (bm 9 1)) (by kernel_rfl) rfl rfl rfl (g := g1) (o := 0) (rfl) (o' := 0) rfl hS_ ?_
  refine D_load (i := 1) (listed2 := (bm 9 3)) (by kernel_rfl) rfl rfl rfl (rfl) (fun _ hS2 => LD.blk1 ti_bool (b1_S.below hS2) (v := (.bool (decide (zv s la < 0)))) rfl) hS_ ?_
  refine D_field ft_api_Int_1 (i := 2) (listed2 := (bm 9 7)) (by kernel_rfl) rfl rfl rfl (g := g1) (o := 0) (rfl) (o' := 1) rfl hS_ ?_
  refine D_load (i := 3) (listed2 := (bm 9 15)) (by kernel_rfl) rfl rfl rfl (rfl) (fun _ hS2 => LD.blk1 ti_api_Nat (b1_S.below hS2) (v := vh1) rfl) hS_ ?_
  refine D_field ft_api_Int_1 (i := 4) (listed2 := (bm 9 31)) (by kernel_rfl) rfl rfl rfl (g := g2) (o := 0) (rfl) (o' := 1) rfl hS_ ?_
  refine D_load (i := 5) (listed2 := (bm 9 63)) (by kernel_rfl) rfl rfl rfl (rfl) (fun _ hS2 => LD.blk1 ti_api_Nat (b2_S.below hS2) (v := vh2) rfl) hS_ ?_
  refine D_only (i := 6) (by kernel_rfl) (listed2 := (bm 9 127)) (by kernel_rfl) ?_
  refine S_call en_assayerref01_Add rfl rfl rfl (vs := [vh1, vh2]) (rfl) (ref01Add_d (h1.below E) (h2.below E) (by omega) (by omega)) ?_
  rintro vh9 w9 ⟨hB9, h9⟩
  have hz9 := hB9.size
  have E := Below.step E hB9
  have hl_b1 := b1.lt
  have b1 := b1.below hB9
  have hl_b2 := b2.lt
  have b2 := b2.below hB9
  have hl_b3 := b3.lt
  have b3 := b3.below hB9
  have hS_ := Below.step hS_ hB9
  refine OPS.nil ⟨hS_, ?_⟩
  refine D_last (i := 7) (f := 9) (by kernel_rfl) (by kernel_rfl) (listed2 := (bm 9 255)) (by kernel_rfl) ?_
  refine S_call en_assayerref02_Signed rfl rfl rfl (vs := [(.bool (decide (zv s la < 0))), vh9]) (rfl) (ref02Signed_c _ (decide (zv s la < 0)) vh9 (dg ((zv s la).natAbs + (zv t lb).natAbs)) h9.r) ?_
  rintro _ w10 ⟨hB10, rfl⟩
  have hz10 := hB10.size
  have E := Below.step E hB10
  have hl_b1 := b1.lt
  have b1 := b1.below hB10
  have hl_b2 := b2.lt
  have b2 := b2.below hB10
  have hl_b3 := b3.lt
  have b3 := b3.below hB10
  have h9 := h9.below hB10
  refine OPS.nil ?_
  refine D_last (i := 8) (f := 9) (by kernel_rfl) (by kernel_rfl) (listed2 := (bm 9 511)) (by kernel_rfl) ?_
  refine S_store ti_api_Int rfl rfl rfl rfl (g := g3) (o := 0) (rfl) (v := (.agg #[.bool ((decide (zv s la < 0)) && !((dg ((zv s la).natAbs + (zv t lb).natAbs))).isEmpty), vh9])) (rfl) (vs := [(.bool ((decide (zv s la < 0)) && !((dg ((zv s la).natAbs + (zv t lb).natAbs))).isEmpty)), vh9]) rfl rfl (one2 (rfl) (h9.r.one_)) b3 (by simp) (cs' := [(.bool ((decide (zv s la < 0)) && !((dg ((zv s la).natAbs + (zv t lb).natAbs))).isEmpty)), vh9]) rfl ?_
  intro w11 hU11 b3
  have E := Below.stepU E hU11 (by omega)
  have b1 := b1.upd hU11 (by omega)
  have b2 := b2.upd hU11 (by omega)
  have h9 := h9.upd hU11 (by omega) (by omega)
  have hz11 := hU11.size
  refine OPS.nil ?_
  refine D_done (by kernel_rfl) ?_
  change WP _ _ _ _ _ _
  refine W_ret ?_
  change Fin' _ _ _ _ _ _
  refine EndC (n := ⟨56, []⟩) (t := 4) rfl (by decide) (rfl) (LD.blk ti_api_Int b3 (l := [(.bool ((decide (zv s la < 0)) && !((dg ((zv s la).natAbs + (zv t lb).natAbs))).isEmpty)), vh9]) rfl rfl) ?_
  have h8 := sum_same (x := zv s la) (y := zv t lb) (eq_of_beq pT)
  exact ⟨E, vh9, by rw [h8.1], by rw [← h8.2]; exact h9.mono (by omega)⟩
 ·skip
  have pF := hq17
  skip
  try rw [pF]
  refine W_skip ?_
  change WP _ _ _ _ _ _
  refine W_seq ?_
  refine W_seq ?_
  refine W_region rfl ?_
  refine S_field ft_api_Int_1 rfl rfl rfl (g := g1) (o := 0) (rfl) (o' := 1) rfl ?_
  refine S_load rfl rfl rfl (rfl) (LD.blk1 ti_api_Nat b1 (v := vh1) rfl) ?_
  refine S_field ft_api_Int_1 rfl rfl rfl (g := g2) (o := 0) (rfl) (o' := 1) rfl ?_
  refine S_load rfl rfl rfl (rfl) (LD.blk1 ti_api_Nat b2 (v := vh2) rfl) ?_
  refine S_call en_assayerref01_Cmp rfl rfl rfl (vs := [vh1, vh2]) (rfl) (ref01Cmp_d (h1.below E) (h2.below E)) ?_
  rintro _ w12 ⟨hB12, rfl⟩
  have hz12 := hB12.size
  have E := Below.step E hB12
  have hl_b1 := b1.lt
  have b1 := b1.below hB12
  have hl_b2 := b2.lt
  have b2 := b2.below hB12
  have hl_b3 := b3.lt
  have b3 := b3.below hB12
  refine S_bin rfl rfl rfl rfl rfl (rfl) (rfl) (v := .bool (decide ((cmpN (zv s la).natAbs (zv t lb).natAbs) < 0))) rfl ?_
  refine OPS.nil ?_
  change WP _ _ _ _ _ _
  refine W_cond rfl (rfl) (fun hq31 => ?_) (fun hq31 => ?_)
  ·skip
   have pFT := hq31
   replace hq31 := of_decide_eq_true hq31
   have qFT := hq31
   have hle : (zv s la).natAbs ≤ (zv t lb).natAbs := Nat.le_of_lt (cmpN_lt0.1 qFT)
   try rw [pFT]
   refine W_seq ?_
   refine W_region rfl ?_
   refine S_field ft_api_Int_1 rfl rfl rfl (g := g2) (o := 0) (rfl) (o' := 1) rfl ?_
   refine S_load rfl rfl rfl (rfl) (LD.blk1 ti_api_Nat b2 (v := vh2) rfl) ?_
   refine S_field ft_api_Int_1 rfl rfl rfl (g := g1) (o := 0) (rfl) (o' := 1) rfl ?_
   refine S_load rfl rfl rfl (rfl) (LD.blk1 ti_api_Nat b1 (v := vh1) rfl) ?_
   refine S_call en_assayerref01_Sub rfl rfl rfl (vs := [vh2, vh1]) (rfl) (ref01Sub_d (h2.below E) (h1.below E) (by omega) hle) ?_
   rintro _ w13 ⟨hB13, vh9, rfl, h9⟩
   have hz13 := hB13.size
   have E := Below.step E hB13
   have hl_b1 := b1.lt
   have b1 := b1.below hB13
   have hl_b2 := b2.lt
   have b2 := b2.below hB13
   have hl_b3 := b3.lt
   have b3 := b3.below hB13
   refine S_move rfl rfl rfl (v := (.tuple #[vh9, .int .i64 0])) (rfl) ?_
   refine S_extract rfl rfl rfl (rfl) rfl ?_
   refine S_extract rfl rfl rfl (rfl) rfl ?_
   refine S_assign rfl rfl rfl (v := vh9) (rfl) ?_
   refine S_assign rfl rfl rfl (v := (.int .i64 0)) (rfl) ?_
   refine OPS.nil ?_
   change WP _ _ _ _ _ _
   refine W_seq ?_
   refine W_region rfl ?_
   refine S_field ft_api_Int_0 rfl rfl rfl (g := g2) (o := 0) (rfl) (o' := 0) rfl ?_
   refine S_load rfl rfl rfl (rfl) (LD.blk1 ti_bool b2 (v := (.bool (decide (zv t lb < 0)))) rfl) ?_
   refine S_move rfl rfl rfl (v := vh9) (rfl) ?_
   refine S_call en_assayerref02_Signed rfl rfl rfl (vs := [(.bool (decide (zv t lb < 0))), vh9]) (rfl) (ref02Signed_c _ (decide (zv t lb < 0)) vh9 (dg ((zv t lb).natAbs - (zv s la).natAbs)) h9.r) ?_
   rintro _ w14 ⟨hB14, rfl⟩
   have hz14 := hB14.size
   have E := Below.step E hB14
   have hl_b1 := b1.lt
   have b1 := b1.below hB14
   have hl_b2 := b2.lt
   have b2 := b2.below hB14
   have hl_b3 := b3.lt
   have b3 := b3.below hB14
   have h9 := h9.below hB14
   refine S_store ti_api_Int rfl rfl rfl rfl (g := g3) (o := 0) (rfl) (v := (.agg #[.bool ((decide (zv t lb < 0)) && !((dg ((zv t lb).natAbs - (zv s la).natAbs))).isEmpty), vh9])) (rfl) (vs := [(.bool ((decide (zv t lb < 0)) && !((dg ((zv t lb).natAbs - (zv s la).natAbs))).isEmpty)), vh9]) rfl rfl (one2 (rfl) (h9.r.one_)) b3 (by simp) (cs' := [(.bool ((decide (zv t lb < 0)) && !((dg ((zv t lb).natAbs - (zv s la).natAbs))).isEmpty)), vh9]) rfl ?_
   intro w15 hU15 b3
   have E := Below.stepU E hU15 (by omega)
   have b1 := b1.upd hU15 (by omega)
   have b2 := b2.upd hU15 (by omega)
   have h9 := h9.upd hU15 (by omega) (by omega)
   have hz15 := hU15.size
   refine OPS.nil ?_
   change WP _ _ _ _ _ _
   refine W_ret ?_
   change Fin' _ _ _ _ _ _
   refine EndC (n := ⟨56, []⟩) (t := 4) rfl (by decide) (rfl) (LD.blk ti_api_Int b3 (l := [(.bool ((decide (zv t lb < 0)) && !((dg ((zv t lb).natAbs - (zv s la).natAbs))).isEmpty)), vh9]) rfl rfl) ?_
   have h8 := sum_diff (x := zv t lb) (y := zv s la) (ne_of_beq_false pF).symm hle
   rw [Int.add_comm (zv s la) (zv t lb)]
   exact ⟨E, vh9, by rw [h8.1], by rw [← h8.2]; exact h9.mono (by omega)⟩
  ·skip
   have pFF := hq31
   replace hq31 := of_decide_eq_false hq31
   have qFF := hq31
   have hle : (zv t lb).natAbs ≤ (zv s la).natAbs := by
     have := mt cmpN_lt0.2 qFF
     omega
   try rw [pFF]
   refine W_skip ?_
   change WP _ _ _ _ _ _
   refine W_seq ?_
   refine W_region rfl ?_
   refine S_field ft_api_Int_1 rfl rfl rfl (g := g1) (o := 0) (rfl) (o' := 1) rfl ?_
   refine S_load rfl rfl rfl (rfl) (LD.blk1 ti_api_Nat b1 (v := vh1) rfl) ?_
   refine S_field ft_api_Int_1 rfl rfl rfl (g := g2) (o := 0) (rfl) (o' := 1) rfl ?_
   refine S_load rfl rfl rfl (rfl) (LD.blk1 ti_api_Nat b2 (v := vh2) rfl) ?_
   refine S_call en_assayerref01_Sub rfl rfl rfl (vs := [vh1, vh2]) (rfl) (ref01Sub_d (h1.below E) (h2.below E) (by omega) hle) ?_
   rintro _ w16 ⟨hB16, vh9, rfl, h9⟩
   have hz16 := hB16.size
   have E := Below.step E hB16
   have hl_b1 := b1.lt
   have b1 := b1.below hB16
   have hl_b2 := b2.lt
   have b2 := b2.below hB16
   have hl_b3 := b3.lt
   have b3 := b3.below hB16
   refine S_move rfl rfl rfl (v := (.tuple #[vh9, .int .i64 0])) (rfl) ?_
   refine S_extract rfl rfl rfl (rfl) rfl ?_
   refine S_extract rfl rfl rfl (rfl) rfl ?_
   refine S_assign rfl rfl rfl (v := vh9) (rfl) ?_
   refine S_assign rfl rfl rfl (v := (.int .i64 0)) (rfl) ?_
   refine OPS.nil ?_
   change WP _ _ _ _ _ _
   refine W_seq ?_
   refine W_region rfl ?_
   refine S_field ft_api_Int_0 rfl rfl rfl (g := g1) (o := 0) (rfl) (o' := 0) rfl ?_
   refine S_load rfl rfl rfl (rfl) (LD.blk1 ti_bool b1 (v := (.bool (decide (zv s la < 0)))) rfl) ?_
   refine S_move rfl rfl rfl (v := vh9) (rfl) ?_
   refine S_call en_assayerref02_Signed rfl rfl rfl (vs := [(.bool (decide (zv s la < 0))), vh9]) (rfl) (ref02Signed_c _ (decide (zv s la < 0)) vh9 (dg ((zv s la).natAbs - (zv t lb).natAbs)) h9.r) ?_
   rintro _ w17 ⟨hB17, rfl⟩
   have hz17 := hB17.size
   have E := Below.step E hB17
   have hl_b1 := b1.lt
   have b1 := b1.below hB17
   have hl_b2 := b2.lt
   have b2 := b2.below hB17
   have hl_b3 := b3.lt
   have b3 := b3.below hB17
   have h9 := h9.below hB17
   refine S_store ti_api_Int rfl rfl rfl rfl (g := g3) (o := 0) (rfl) (v := (.agg #[.bool ((decide (zv s la < 0)) && !((dg ((zv s la).natAbs - (zv t lb).natAbs))).isEmpty), vh9])) (rfl) (vs := [(.bool ((decide (zv s la < 0)) && !((dg ((zv s la).natAbs - (zv t lb).natAbs))).isEmpty)), vh9]) rfl rfl (one2 (rfl) (h9.r.one_)) b3 (by simp) (cs' := [(.bool ((decide (zv s la < 0)) && !((dg ((zv s la).natAbs - (zv t lb).natAbs))).isEmpty)), vh9]) rfl ?_
   intro w18 hU18 b3
   have E := Below.stepU E hU18 (by omega)
   have b1 := b1.upd hU18 (by omega)
   have b2 := b2.upd hU18 (by omega)
   have h9 := h9.upd hU18 (by omega) (by omega)
   have hz18 := hU18.size
   refine OPS.nil ?_
   change WP _ _ _ _ _ _
   refine W_ret ?_
   change Fin' _ _ _ _ _ _
   refine EndC (n := ⟨56, []⟩) (t := 4) rfl (by decide) (rfl) (LD.blk ti_api_Int b3 (l := [(.bool ((decide (zv s la < 0)) && !((dg ((zv s la).natAbs - (zv t lb).natAbs))).isEmpty)), vh9]) rfl rfl) ?_
   have h8 := sum_diff (x := zv s la) (y := zv t lb) (ne_of_beq_false pF) hle
   exact ⟨E, vh9, by rw [h8.1], by rw [← h8.2]; exact h9.mono (by omega)⟩

set_option maxHeartbeats 400000 in
theorem ref02Sub_c (w0 : World) (s t : Bool) (va vb : Value) (la lb : List Int) {a b a' b' : Nat} (ha : RN a b w0 va la) (hb : RN a' b' w0 vb lb) (hsa : la.length ≤ SZ) (hsb : lb.length ≤ SZ) :
    Ret Tryz.prog 22 [.agg #[.bool s, va], .agg #[.bool t, vb]] w0 (fun r w1 => Below w0.heap.size w0 w1 ∧ ∃ v, r = .agg #[.bool (decide (zv s la - zv t lb < 0)), v] ∧ ON w0.heap.size w1 v (dg (zv s la - zv t lb).natAbs)) := by
 have E := Below.refl w0.heap.size w0
 have hlx := zv_len (s := s) ha.u32
 have hly := zv_len (s := t) hb.u32
 refine Ret_of (n := 9) Tryz.func22 rfl rfl (Nat.le_of_ble_eq_true rfl) ?_
 refine W_seq ?_
 refine W_region rfl ?_
 refine S_box rfl rfl rfl (v := .agg #[.bool s, va]) (rfl) (cs := [(.bool s), va]) rfl ?_
 intro g1 w1 hg1 hs1 hB1 b1
 have hz1 := hB1.size
 have E := Below.step E hB1
 refine S_box rfl rfl rfl (v := .agg #[.bool t, vb]) (rfl) (cs := [(.bool t), vb]) rfl ?_
 intro g2 w2 hg2 hs2 hB2 b2
 have hz2 := hB2.size
 have E := Below.step E hB2
 have hl_b1 := b1.lt
 have b1 := b1.below hB2
 refine S_alloc ti_api_Int rfl rfl (cs := [.bool false, .slice none 0 0]) rfl ?_
 intro g3 w3 hg3 hs3 hB3 b3
 have hz3 := hB3.size
 have E := Below.step E hB3
 have hl_b1 := b1.lt
 have b1 := b1.below hB3
 have hl_b2 := b2.lt
 have b2 := b2.below hB3
 refine OPS.nil ?_
 change WP _ _ _ _ _ _
 refine W_seq ?_
 refine D_begin_ mixed_ rfl rfl ?_
 intro w4 hB4 hz_4
 have hz4 := hB4.size
 have E := Below.step E hB4
 have hl_b1 := b1.lt
 have b1 := b1.below hB4
 have hl_b2 := b2.lt
 have b2 := b2.below hB4
 have hl_b3 := b3.lt
 have b3 := b3.below hB4
 have hS_ : Below w4.heap.size w4 w4 := Below.refl _ _
 have E_S := E
 have b1_S := b1
 have b2_S := b2
 have b3_S := b3
 refine D_load (i := 0) (listed2 := (bm 5 1)) (by kernel_rfl) rfl rfl rfl (rfl) (fun _ hS2 => LD.blk ti_api_Int (b1_S.below hS2) (l := [(.bool s), va]) rfl rfl) hS_ ?_
 refine D_load (i := 1) (listed2 := (bm 5 3)) (by kernel_rfl) rfl rfl rfl (rfl) (fun _ hS2 => LD.blk ti_api_Int (b2_S.below hS2) (l := [(.bool t), vb]) rfl rfl) hS_ ?_
 refine D_only (i := 2) (by kernel_rfl) (listed2 := (bm 5 7)) (by kernel_rfl) ?_
 refine S_call en_assayerref02_Neg rfl rfl rfl (vs := [(.agg #[(.bool t), vb])]) (rfl) (ref02Neg_c _ t vb lb (hb.below E) (by omega)) ?_
 rintro _ w5 ⟨hB5, vh2, rfl, h2⟩
 have hz5 := hB5.size
 have E := Below.step E hB5
 have hl_b1 := b1.lt
 have b1 := b1.below hB5
 have hl_b2 := b2.lt
 have b2 := b2.below hB5
 have hl_b3 := b3.lt
 have b3 := b3.below hB5
 have hS_ := Below.step hS_ hB5
 refine OPS.nil ⟨hS_, ?_⟩
 refine D_last (i := 3) (f := 5) (by kernel_rfl) (by kernel_rfl) (listed2 := (bm 5 15)) (by kernel_rfl) ?_
 have hl3 : (dg (-(zv t lb)).natAbs).length ≤ lb.length := by rw [Int.natAbs_neg]; exact hly
 refine S_call en_assayerref02_Add rfl rfl rfl (vs := [(.agg #[(.bool s), va]), (.agg #[.bool (decide (-(zv t lb) < 0)), vh2])]) (rfl) (ref02Add_c _ s (decide (-(zv t lb) < 0)) va vh2 la (dg (-(zv t lb)).natAbs) (ha.below E) h2.r (by omega) (by omega)) ?_
 rintro _ w6 ⟨hB6, vh9, rfl, h9⟩
 have hz6 := hB6.size
 have E := Below.step E hB6
 have hl_b1 := b1.lt
 have b1 := b1.below hB6
 have hl_b2 := b2.lt
 have b2 := b2.below hB6
 have hl_b3 := b3.lt
 have b3 := b3.below hB6
 have h2 := h2.below hB6
 refine OPS.nil ?_
 refine D_last (i := 4) (f := 5) (by kernel_rfl) (by kernel_rfl) (listed2 := (bm 5 31)) (by kernel_rfl) ?_
 refine S_store ti_api_Int rfl rfl rfl rfl (g := g3) (o := 0) (rfl) (v := (.agg #[.bool (decide (zv s la + zv (decide (-(zv t lb) < 0)) (dg (-(zv t lb)).natAbs) < 0)), vh9])) (rfl) (vs := [(.bool (decide (zv s la + zv (decide (-(zv t lb) < 0)) (dg (-(zv t lb)).natAbs) < 0))), vh9]) rfl rfl (one2 (rfl) (h9.r.one_)) b3 (by simp) (cs' := [(.bool (decide (zv s la + zv (decide (-(zv t lb) < 0)) (dg (-(zv t lb)).natAbs) < 0))), vh9]) rfl ?_
 intro w7 hU7 b3
 have E := Below.stepU E hU7 (by omega)
 have b1 := b1.upd hU7 (by omega)
 have b2 := b2.upd hU7 (by omega)
 have h2 := h2.upd hU7 (by omega) (by omega)
 have h9 := h9.upd hU7 (by omega) (by omega)
 have hz7 := hU7.size
 refine OPS.nil ?_
 refine D_done (by kernel_rfl) ?_
 change WP _ _ _ _ _ _
 refine W_ret ?_
 change Fin' _ _ _ _ _ _
 refine EndC (n := ⟨9, []⟩) (t := 4) rfl (by decide) (rfl) (LD.blk ti_api_Int b3 (l := [(.bool (decide (zv s la + zv (decide (-(zv t lb) < 0)) (dg (-(zv t lb)).natAbs) < 0))), vh9]) rfl rfl) ?_
 rw [zv_dg] at h9 ⊢
 exact ⟨E, vh9, rfl, h9.mono (by omega)⟩

set_option maxHeartbeats 400000 in
theorem ref02Mul_c (w0 : World) (s t : Bool) (va vb : Value) (la lb : List Int) {a b a' b' : Nat} (ha : RN a b w0 va la) (hb : RN a' b' w0 vb lb) (hsa : la.length ≤ SZ) (hsb : lb.length ≤ SZ) :
    Ret Tryz.prog 23 [.agg #[.bool s, va], .agg #[.bool t, vb]] w0 (fun r w1 => Below w0.heap.size w0 w1 ∧ ∃ v, r = .agg #[.bool (decide (zv s la * zv t lb < 0)), v] ∧ ON w0.heap.size w1 v (dg (zv s la * zv t lb).natAbs)) := by
 have E := Below.refl w0.heap.size w0
 have hlx := zv_len (s := s) ha.u32
 have hly := zv_len (s := t) hb.u32
 refine Ret_of (n := 20) Tryz.func23 rfl rfl (Nat.le_of_ble_eq_true rfl) ?_
 refine W_seq ?_
 refine W_region rfl ?_
 refine S_box rfl rfl rfl (v := .agg #[.bool s, va]) (rfl) (cs := [(.bool s), va]) rfl ?_
 intro g1 w1 hg1 hs1 hB1 b1
 have hz1 := hB1.size
 have E := Below.step E hB1
 refine S_box rfl rfl rfl (v := .agg #[.bool t, vb]) (rfl) (cs := [(.bool t), vb]) rfl ?_
 intro g2 w2 hg2 hs2 hB2 b2
 have hz2 := hB2.size
 have E := Below.step E hB2
 have hl_b1 := b1.lt
 have b1 := b1.below hB2
 refine S_alloc ti_api_Int rfl rfl (cs := [.bool false, .slice none 0 0]) rfl ?_
 intro g3 w3 hg3 hs3 hB3 b3
 have hz3 := hB3.size
 have E := Below.step E hB3
 have hl_b1 := b1.lt
 have b1 := b1.below hB3
 have hl_b2 := b2.lt
 have b2 := b2.below hB3
 refine OPS.nil ?_
 change WP _ _ _ _ _ _
 refine W_seq ?_
 refine W_region rfl ?_
 refine S_load rfl rfl rfl (rfl) (LD.blk ti_api_Int b1 (l := [(.bool s), va]) rfl rfl) ?_
 refine S_call en_assayerref02_fit rfl rfl rfl (vs := [(.agg #[(.bool s), va])]) (rfl) (ref02Fit_c _ s va la (ha.below E)) ?_
 rintro _ w4 ⟨hB4, vh1, rfl, h1⟩
 have hz4 := hB4.size
 have E := Below.step E hB4
 have hl_b1 := b1.lt
 have b1 := b1.below hB4
 have hl_b2 := b2.lt
 have b2 := b2.below hB4
 have hl_b3 := b3.lt
 have b3 := b3.below hB4
 have h1 := h1 _ _ _ ha
 refine S_store ti_api_Int rfl rfl rfl rfl (g := g1) (o := 0) (rfl) (v := (.agg #[.bool (decide (zv s la < 0)), vh1])) (rfl) (vs := [(.bool (decide (zv s la < 0))), vh1]) rfl rfl (one2 (rfl) ((h1.below E).one_)) b1 (by simp) (cs' := [(.bool (decide (zv s la < 0))), vh1]) rfl ?_
 intro w5 hU5 b1
 have E := Below.stepU E hU5 (by omega)
 have b2 := b2.upd hU5 (by omega)
 have b3 := b3.upd hU5 (by omega)
 have hz5 := hU5.size
 refine OPS.nil ?_
 change WP _ _ _ _ _ _
 refine W_seq ?_
 refine W_region rfl ?_
 refine S_load rfl rfl rfl (rfl) (LD.blk ti_api_Int b2 (l := [(.bool t), vb]) rfl rfl) ?_
 refine S_call en_assayerref02_fit rfl rfl rfl (vs := [(.agg #[(.bool t), vb])]) (rfl) (ref02Fit_c _ t vb lb (hb.below E)) ?_
 rintro _ w6 ⟨hB6, vh2, rfl, h2⟩
 have hz6 := hB6.size
 have E := Below.step E hB6
 have hl_b1 := b1.lt
 have b1 := b1.below hB6
 have hl_b2 := b2.lt
 have b2 := b2.below hB6
 have hl_b3 := b3.lt
 have b3 := b3.below hB6
 have h2 := h2 _ _ _ hb
 refine S_store ti_api_Int rfl rfl rfl rfl (g := g2) (o := 0) (rfl) (v := (.agg #[.bool (decide (zv t lb < 0)), vh2])) (rfl) (vs := [(.bool (decide (zv t lb < 0))), vh2]) rfl rfl (one2 (rfl) ((h2.below E).one_)) b2 (by simp) (cs' := [(.bool (decide (zv t lb < 0))), vh2]) rfl ?_
 intro w7 hU7 b2
 have E := Below.stepU E hU7 (by omega)
 have b1 := b1.upd hU7 (by omega)
 have b3 := b3.upd hU7 (by omega)
 have hz7 := hU7.size
 refine OPS.nil ?_
 change WP _ _ _ _ _ _
 refine W_seq ?_
 refine D_begin_ mixed_ rfl rfl ?_
 intro w8 hB8 hz_8
 have hz8 := hB8.size
 have E := Below.step E hB8
 have hl_b1 := b1.lt
 have b1 := b1.below hB8
 have hl_b2 := b2.lt
 have b2 := b2.below hB8
 have hl_b3 := b3.lt
 have b3 := b3.below hB8
 have hS_ : Below w8.heap.size w8 w8 := Below.refl _ _
 have E_S := E
 have b1_S := b1
 have b2_S := b2
 have b3_S := b3
 refine D_field ft_api_Int_0 (i := 0) (listed2 := (bm 12 1)) (by kernel_rfl) rfl rfl rfl (g := g1) (o := 0) (rfl) (o' := 0) rfl hS_ ?_
 refine D_load (i := 1) (listed2 := (bm 12 3)) (by kernel_rfl) rfl rfl rfl (rfl) (fun _ hS2 => LD.blk1 ti_bool (b1_S.below hS2) (v := (.bool (decide (zv s la < 0)))) rfl) hS_ ?_
 refine D_field ft_api_Int_0 (i := 2) (listed2 := (bm 12 7)) (by kernel_rfl) rfl rfl rfl (g := g2) (o := 0) (rfl) (o' := 0) rfl hS_ ?_
 refine D_load (i := 3) (listed2 := (bm 12 15)) (by kernel_rfl) rfl rfl rfl (rfl) (fun _ hS2 => LD.blk1 ti_bool (b2_S.below hS2) (v := (.bool (decide (zv t lb < 0)))) rfl) hS_ ?_
 refine D_bne Tryz.underlying4 (i := 4) (listed2 := (bm 12 31)) (by kernel_rfl) rfl rfl rfl rfl (rfl) (rfl) (c := (decide (zv s la < 0) != decide (zv t lb < 0))) (rfl) hS_ ?_
 refine D_field ft_api_Int_1 (i := 5) (listed2 := (bm 12 63)) (by kernel_rfl) rfl rfl rfl (g := g1) (o := 0) (rfl) (o' := 1) rfl hS_ ?_
 refine D_load (i := 6) (listed2 := (bm 12 127)) (by kernel_rfl) rfl rfl rfl (rfl) (fun _ hS2 => LD.blk1 ti_api_Nat (b1_S.below hS2) (v := vh1) rfl) hS_ ?_
 refine D_field ft_api_Int_1 (i := 7) (listed2 := (bm 12 255)) (by kernel_rfl) rfl rfl rfl (g := g2) (o := 0) (rfl) (o' := 1) rfl hS_ ?_
 refine D_load (i := 8) (listed2 := (bm 12 511)) (by kernel_rfl) rfl rfl rfl (rfl) (fun _ hS2 => LD.blk1 ti_api_Nat (b2_S.below hS2) (v := vh2) rfl) hS_ ?_
 refine D_only (i := 9) (by kernel_rfl) (listed2 := (bm 12 1023)) (by kernel_rfl) ?_
 refine S_call en_assayerref01_Mul rfl rfl rfl (vs := [vh1, vh2]) (rfl) (ref01Mul_d (h1.below E) (h2.below E) (by omega) (by omega)) ?_
 rintro vh9 w9 ⟨hB9, h9⟩
 have hz9 := hB9.size
 have E := Below.step E hB9
 have hl_b1 := b1.lt
 have b1 := b1.below hB9
 have hl_b2 := b2.lt
 have b2 := b2.below hB9
 have hl_b3 := b3.lt
 have b3 := b3.below hB9
 have hS_ := Below.step hS_ hB9
 refine OPS.nil ⟨hS_, ?_⟩
 refine D_last (i := 10) (f := 12) (by kernel_rfl) (by kernel_rfl) (listed2 := (bm 12 2047)) (by kernel_rfl) ?_
 refine S_call en_assayerref02_Signed rfl rfl rfl (vs := [(.bool (decide (zv s la < 0) != decide (zv t lb < 0))), vh9]) (rfl) (ref02Signed_c _ (decide (zv s la < 0) != decide (zv t lb < 0)) vh9 (dg ((zv s la).natAbs * (zv t lb).natAbs)) h9.r) ?_
 rintro _ w10 ⟨hB10, rfl⟩
 have hz10 := hB10.size
 have E := Below.step E hB10
 have hl_b1 := b1.lt
 have b1 := b1.below hB10
 have hl_b2 := b2.lt
 have b2 := b2.below hB10
 have hl_b3 := b3.lt
 have b3 := b3.below hB10
 have h9 := h9.below hB10
 refine OPS.nil ?_
 refine D_last (i := 11) (f := 12) (by kernel_rfl) (by kernel_rfl) (listed2 := (bm 12 4095)) (by kernel_rfl) ?_
 refine S_store ti_api_Int rfl rfl rfl rfl (g := g3) (o := 0) (rfl) (v := (.agg #[.bool ((decide (zv s la < 0) != decide (zv t lb < 0)) && !((dg ((zv s la).natAbs * (zv t lb).natAbs))).isEmpty), vh9])) (rfl) (vs := [(.bool ((decide (zv s la < 0) != decide (zv t lb < 0)) && !((dg ((zv s la).natAbs * (zv t lb).natAbs))).isEmpty)), vh9]) rfl rfl (one2 (rfl) (h9.r.one_)) b3 (by simp) (cs' := [(.bool ((decide (zv s la < 0) != decide (zv t lb < 0)) && !((dg ((zv s la).natAbs * (zv t lb).natAbs))).isEmpty)), vh9]) rfl ?_
 intro w11 hU11 b3
 have E := Below.stepU E hU11 (by omega)
 have b1 := b1.upd hU11 (by omega)
 have b2 := b2.upd hU11 (by omega)
 have h9 := h9.upd hU11 (by omega) (by omega)
 have hz11 := hU11.size
 refine OPS.nil ?_
 refine D_done (by kernel_rfl) ?_
 change WP _ _ _ _ _ _
 refine W_ret ?_
 change Fin' _ _ _ _ _ _
 refine EndC (n := ⟨20, []⟩) (t := 4) rfl (by decide) (rfl) (LD.blk ti_api_Int b3 (l := [(.bool ((decide (zv s la < 0) != decide (zv t lb < 0)) && !((dg ((zv s la).natAbs * (zv t lb).natAbs))).isEmpty)), vh9]) rfl rfl) ?_
 have h8 := mul_sign (x := zv s la) (y := zv t lb)
 exact ⟨E, vh9, by rw [h8.1], by rw [← h8.2]; exact h9.mono (by omega)⟩

set_option maxHeartbeats 400000 in
theorem ref02Cmp_c (w0 : World) (s t : Bool) (va vb : Value) (la lb : List Int) {a b a' b' : Nat} (ha : RN a b w0 va la) (hb : RN a' b' w0 vb lb) (hsa : la.length ≤ SZ) (hsb : lb.length ≤ SZ) :
    Ret Tryz.prog 17 [.agg #[.bool s, va], .agg #[.bool t, vb]] w0 (fun r w1 => Below w0.heap.size w0 w1 ∧ r = .int .i64 (cmpZ (zv s la) (zv t lb))) := by
 have E := Below.refl w0.heap.size w0
 have hlx := zv_len (s := s) ha.u32
 have hly := zv_len (s := t) hb.u32
 refine Ret_of (n := 9) Tryz.func17 rfl rfl (Nat.le_of_ble_eq_true rfl) ?_
 refine W_seq ?_
 refine W_region rfl ?_
 refine S_box rfl rfl rfl (v := .agg #[.bool s, va]) (rfl) (cs := [(.bool s), va]) rfl ?_
 intro g1 w1 hg1 hs1 hB1 b1
 have hz1 := hB1.size
 have E := Below.step E hB1
 refine S_box rfl rfl rfl (v := .agg #[.bool t, vb]) (rfl) (cs := [(.bool t), vb]) rfl ?_
 intro g2 w2 hg2 hs2 hB2 b2
 have hz2 := hB2.size
 have E := Below.step E hB2
 have hl_b1 := b1.lt
 have b1 := b1.below hB2
 refine S_assign rfl rfl rfl (v := (.int .i64 0)) (rfl) ?_
 refine OPS.nil ?_
 change WP _ _ _ _ _ _
 refine W_seq ?_
 refine W_region rfl ?_
 refine S_load rfl rfl rfl (rfl) (LD.blk ti_api_Int b1 (l := [(.bool s), va]) rfl rfl) ?_
 refine S_load rfl rfl rfl (rfl) (LD.blk ti_api_Int b2 (l := [(.bool t), vb]) rfl rfl) ?_
 refine S_call en_assayerref02_Sub rfl rfl rfl (vs := [(.agg #[(.bool s), va]), (.agg #[(.bool t), vb])]) (rfl) (ref02Sub_c _ s t va vb la lb (ha.below E) (hb.below E) (by omega) (by omega)) ?_
 rintro _ w3 ⟨hB3, vh9, rfl, h9⟩
 have hz3 := hB3.size
 have E := Below.step E hB3
 have hl_b1 := b1.lt
 have b1 := b1.below hB3
 have hl_b2 := b2.lt
 have b2 := b2.below hB3
 refine S_call en_assayerref02_Sign rfl rfl rfl (vs := [(.agg #[.bool (decide (zv s la - zv t lb < 0)), vh9])]) (rfl) (ref02Sign_c _ _ _ _ h9.r) ?_
 rintro _ w4 ⟨hB4, rfl⟩
 have hz4 := hB4.size
 have E := Below.step E hB4
 have hl_b1 := b1.lt
 have b1 := b1.below hB4
 have hl_b2 := b2.lt
 have b2 := b2.below hB4
 have h9 := h9.below hB4
 refine S_assign rfl rfl rfl (v := (.int .i64 (cmpZ (zv (decide (zv s la - zv t lb < 0)) (dg (zv s la - zv t lb).natAbs)) 0))) (rfl) ?_
 refine OPS.nil ?_
 change WP _ _ _ _ _ _
 refine W_ret ?_
 change Fin' _ _ _ _ _ _
 refine End1 (n := ⟨9, []⟩) (t := 4) rfl (by decide) (v := (.int .i64 (cmpZ (zv (decide (zv s la - zv t lb < 0)) (dg (zv s la - zv t lb).natAbs)) 0))) (rfl) ?_
 exact ⟨E, int_eq (by rw [zv_dg, cmpZ_sub])⟩

end Go.Proofs.YtccmicegihlfbaaGreatDoor

/- Are two numbers, two fractions the same: if they read alike, yes. -/
namespace Go.Proofs.YtccmicegihlfbaaGreatDoor
open Go.RowKit

set_option maxHeartbeats 400000 in
theorem sameNat_c (w0 : World) (va vb : Value) (l : List Int) {a b a' b' : Nat} (ha : RN a b w0 va l) (hb : RN a' b' w0 vb l) :
    Ret Tryz.prog 44 [va, vb] w0 (fun r w1 => Below w0.heap.size w0 w1 ∧ r = .bool true) := by
 have E := Below.refl w0.heap.size w0
 have hm := ha.maxl
 refine Ret_of (n := 26) Tryz.func44 rfl rfl (Nat.le_of_ble_eq_true rfl) ?_
 refine W_seq ?_
 refine W_region rfl ?_
 refine S_assign rfl rfl rfl (v := (.bool false)) (rfl) ?_
 refine OPS.nil ?_
 change WP _ _ _ _ _ _
 refine W_seq ?_
 refine W_seq ?_
 refine W_region rfl ?_
 refine S_move rfl rfl rfl (v := va) (rfl) ?_
 refine S_len Tryz.underlying22 rfl rfl rfl (rfl) (m := l.length) (ha.len) ?_
 refine S_move rfl rfl rfl (v := vb) (rfl) ?_
 refine S_len Tryz.underlying22 rfl rfl rfl (rfl) (m := l.length) (hb.len) ?_
 refine S_bin rfl rfl rfl rfl rfl (rfl) (rfl) (v := .bool false) (by simp [binV]) ?_
 refine OPS.nil ?_
 change WP _ _ _ _ _ _
 refine W_cond rfl (b := false) (rfl) (fun h => (by cases h)) (fun _ => ?_)
 refine W_skip ?_
 change WP _ _ _ _ _ _
 refine W_seq ?_
 refine W_seq ?_
 refine W_region rfl ?_
 refine S_assign rfl rfl rfl (v := (.int .i64 0)) (rfl) ?_
 refine OPS.nil ?_
 change WP _ _ _ _ _ _
 refine W_block ?_
 refine W_loop (fun k σ w => ∃ (i : Nat), σ 0 = va ∧ σ 1 = vb ∧ σ 5 = .int .i64 (i : Int) ∧ i + k = l.length ∧ Below w0.heap.size w0 w) (l.length) ⟨0, rfl, rfl, rfl, by omega, E⟩ ?_
 rintro k σ w ⟨i, s0, s1, s5, hik, E⟩
 refine W_seq ?_
 refine W_seq ?_
 refine W_region rfl ?_
 refine S_move rfl rfl rfl (v := (.int .i64 (i : Int))) (s5) ?_
 refine S_move rfl rfl rfl (v := va) (s0) ?_
 refine S_len Tryz.underlying22 rfl rfl rfl (rfl) (m := l.length) (ha.len) ?_
 refine S_bin rfl rfl rfl rfl rfl (rfl) (rfl) (v := .bool (decide ((i : Int) < (l.length : Int)))) rfl ?_
 refine OPS.nil ?_
 change WP _ _ _ _ _ _
 refine W_cond rfl (rfl) (fun hq14 => ?_) (fun hq14 => ?_)
 ·skip
  have pT := hq14
  replace hq14 := of_decide_eq_true hq14
  have qT := hq14
  try rw [pT]
  refine W_skip ?_
  change WP _ _ _ _ _ _
  refine W_seq ?_
  refine W_block ?_
  refine W_seq ?_
  refine D_begin mixed_ rfl rfl (fun w_ => Below w0.heap.size w0 w_) ?_
  intro w1 hB1 hz_1
  have hz1 := hB1.size
  have E := Below.step E hB1
  have hS_ : Below w0.heap.size w0 w1 := E
  have E_S := E
  refine D_move (i := 0) (listed2 := (bm 9 1)) (by kernel_rfl) rfl rfl rfl (v := va) (s0) hS_ ?_
  refine D_move (i := 1) (listed2 := (bm 9 3)) (by kernel_rfl) rfl rfl rfl (v := (.int .i64 (i : Int))) (s5) hS_ ?_
  obtain ⟨ad1, hp3, hc2⟩ := ha.at i (by omega)
  refine D_idx Tryz.underlying22 ti_uint32 (i := 2) (listed2 := (bm 9 7)) (by kernel_rfl) rfl rfl rfl rfl (rfl) (rfl) hp3 (by omega) hS_ ?_
  refine D_load (i := 3) (listed2 := (bm 9 15)) (by kernel_rfl) rfl rfl rfl (rfl) (fun _ hS2 => LD.one ti_uint32 (cell_below hS2 hc2)) hS_ ?_
  refine D_move (i := 4) (listed2 := (bm 9 31)) (by kernel_rfl) rfl rfl rfl (v := vb) (s1) hS_ ?_
  refine D_move (i := 5) (listed2 := (bm 9 63)) (by kernel_rfl) rfl rfl rfl (v := (.int .i64 (i : Int))) (s5) hS_ ?_
  obtain ⟨ad4, hp6, hc5⟩ := hb.at i (by omega)
  refine D_idx Tryz.underlying22 ti_uint32 (i := 6) (listed2 := (bm 9 127)) (by kernel_rfl) rfl rfl rfl rfl (rfl) (rfl) hp6 (by omega) hS_ ?_
  refine D_load (i := 7) (listed2 := (bm 9 255)) (by kernel_rfl) rfl rfl rfl (rfl) (fun _ hS2 => LD.one ti_uint32 (cell_below hS2 hc5)) hS_ ?_
  refine D_bin (i := 8) (listed2 := (bm 9 511)) (by kernel_rfl) rfl rfl rfl rfl rfl (rfl) (rfl) (v := .bool false) (by simp [binV]) hS_ ?_
  refine D_done (by kernel_rfl) ?_
  change WP _ _ _ _ _ _
  refine W_cond rfl (b := false) (rfl) (fun h => (by cases h)) (fun _ => ?_)
  refine W_skip ?_
  change WP _ _ _ _ _ _
  refine W_region rfl ?_
  refine S_move rfl rfl rfl (v := (.int .i64 (i : Int))) (s5) ?_
  refine S_add64 rfl rfl rfl rfl (rfl) (rfl) (by omega) ?_
  refine S_assign rfl rfl rfl (v := (.int .i64 ((i : Int) + 1))) (rfl) ?_
  refine OPS.nil ?_
  exact ⟨k - 1, by omega, i + 1, s0, s1, int_eq (by omega), by omega, E⟩
 ·skip
  have pF := hq14
  replace hq14 := of_decide_eq_false hq14
  have qF := hq14
  try rw [pF]
  refine W_exit ?_
  change WP _ _ _ _ _ _
  refine W_seq ?_
  refine W_region rfl ?_
  refine S_assign rfl rfl rfl (v := (.bool true)) (rfl) ?_
  refine OPS.nil ?_
  change WP _ _ _ _ _ _
  refine W_ret ?_
  change Fin' _ _ _ _ _ _
  refine End1 (n := ⟨26, []⟩) (t := 4) rfl (by decide) (v := (.bool true)) (rfl) ?_
  exact ⟨E, rfl⟩

set_option maxHeartbeats 400000 in
theorem sameInt_c (w0 : World) (g : Bool) (va vb : Value) (l : List Int) {a b a' b' : Nat} (ha : RN a b w0 va l) (hb : RN a' b' w0 vb l) :
    Ret Tryz.prog 20 [.agg #[.bool g, va], .agg #[.bool g, vb]] w0 (fun r w1 => Below w0.heap.size w0 w1 ∧ r = .bool true) := by
 have E := Below.refl w0.heap.size w0
 refine Ret_of (n := 17) Tryz.func20 rfl rfl (Nat.le_of_ble_eq_true rfl) ?_
 refine W_seq ?_
 refine W_region rfl ?_
 refine S_box rfl rfl rfl (v := .agg #[.bool g, va]) (rfl) (cs := [.bool g, va]) rfl ?_
 intro g1 w1 hg1 hs1 hB1 b1
 have hz1 := hB1.size
 have E := Below.step E hB1
 have ha := ha.below hB1
 have hb := hb.below hB1
 refine S_box rfl rfl rfl (v := .agg #[.bool g, vb]) (rfl) (cs := [.bool g, vb]) rfl ?_
 intro g2 w2 hg2 hs2 hB2 b2
 have hz2 := hB2.size
 have E := Below.step E hB2
 have ha := ha.below hB2
 have hb := hb.below hB2
 have hl_b1 := b1.lt
 have b1 := b1.below hB2
 refine S_assign rfl rfl rfl (v := (.bool false)) (rfl) ?_
 refine OPS.nil ?_
 change WP _ _ _ _ _ _
 refine W_seq ?_
 refine W_region rfl ?_
 refine S_field ft_api_Int_0 rfl rfl rfl (g := g1) (o := 0) (rfl) (o' := 0) rfl ?_
 refine S_load rfl rfl rfl (rfl) (LD.blk1 ti_bool b1 (v := .bool g) rfl) ?_
 refine S_field ft_api_Int_0 rfl rfl rfl (g := g2) (o := 0) (rfl) (o' := 0) rfl ?_
 refine S_load rfl rfl rfl (rfl) (LD.blk1 ti_bool b2 (v := .bool g) rfl) ?_
 refine S_beq Tryz.underlying4 rfl rfl rfl rfl (rfl) (rfl) (c := true) (by simp) ?_
 refine S_move rfl rfl rfl (v := (.bool true)) (rfl) ?_
 refine S_field ft_api_Int_1 rfl rfl rfl (g := g1) (o := 0) (rfl) (o' := 1) rfl ?_
 refine S_load rfl rfl rfl (rfl) (LD.blk1 ti_api_Nat b1 (v := va) rfl) ?_
 refine S_field ft_api_Int_1 rfl rfl rfl (g := g2) (o := 0) (rfl) (o' := 1) rfl ?_
 refine S_load rfl rfl rfl (rfl) (LD.blk1 ti_api_Nat b2 (v := vb) rfl) ?_
 refine S_call en_assayerlaw01_SameNat rfl rfl rfl (vs := [va, vb]) (rfl) (sameNat_c _ _ _ l ha hb) ?_
 rintro _ w3 ⟨hB3, rfl⟩
 have hz3 := hB3.size
 have E := Below.step E hB3
 have ha := ha.below hB3
 have hb := hb.below hB3
 have hl_b1 := b1.lt
 have b1 := b1.below hB3
 have hl_b2 := b2.lt
 have b2 := b2.below hB3
 refine S_pick rfl rfl rfl rfl rfl (b := true) (rfl) (v := (.bool true)) (rfl) ?_
 refine S_assign rfl rfl rfl (v := (.bool true)) (rfl) ?_
 refine OPS.nil ?_
 change WP _ _ _ _ _ _
 refine W_ret ?_
 change Fin' _ _ _ _ _ _
 refine End1 (n := ⟨17, []⟩) (t := 4) rfl (by decide) (v := (.bool true)) (rfl) ?_
 exact ⟨E, rfl⟩

set_option maxHeartbeats 400000 in
theorem sameRat_c (w0 : World) (g : Bool) (va vb vc vd : Value) (l m : List Int) {a b a' b' : Nat} (ha : RN a b w0 va l) (hb : RN a' b' w0 vb l) (hc : RN a b w0 vc m) (hd : RN a' b' w0 vd m) :
    Ret Tryz.prog 51 [.agg #[.bool g, va, vc], .agg #[.bool g, vb, vd]] w0 (fun r w1 => Below w0.heap.size w0 w1 ∧ r = .bool true) := by
 have E := Below.refl w0.heap.size w0
 refine Ret_of (n := 17) Tryz.func51 rfl rfl (Nat.le_of_ble_eq_true rfl) ?_
 refine W_seq ?_
 refine W_region rfl ?_
 refine S_box rfl rfl rfl (v := .agg #[.bool g, va, vc]) (rfl) (cs := [.bool g, va, vc]) rfl ?_
 intro g1 w1 hg1 hs1 hB1 b1
 have hz1 := hB1.size
 have E := Below.step E hB1
 have ha := ha.below hB1
 have hb := hb.below hB1
 have hc := hc.below hB1
 have hd := hd.below hB1
 refine S_box rfl rfl rfl (v := .agg #[.bool g, vb, vd]) (rfl) (cs := [.bool g, vb, vd]) rfl ?_
 intro g2 w2 hg2 hs2 hB2 b2
 have hz2 := hB2.size
 have E := Below.step E hB2
 have ha := ha.below hB2
 have hb := hb.below hB2
 have hc := hc.below hB2
 have hd := hd.below hB2
 have hl_b1 := b1.lt
 have b1 := b1.below hB2
 refine S_assign rfl rfl rfl (v := (.bool false)) (rfl) ?_
 refine OPS.nil ?_
 change WP _ _ _ _ _ _
 refine W_seq ?_
 refine W_region rfl ?_
 refine S_field ft_api_Rat_0 rfl rfl rfl (g := g1) (o := 0) (rfl) (o' := 0) rfl ?_
 refine S_load rfl rfl rfl (rfl) (LD.blk ti_api_Int b1 (l := [.bool g, va]) rfl rfl) ?_
 refine S_field ft_api_Rat_0 rfl rfl rfl (g := g2) (o := 0) (rfl) (o' := 0) rfl ?_
 refine S_load rfl rfl rfl (rfl) (LD.blk ti_api_Int b2 (l := [.bool g, vb]) rfl rfl) ?_
 refine S_call en_assayerlaw01_SameInt rfl rfl rfl (vs := [(.agg #[.bool g, va]), (.agg #[.bool g, vb])]) (rfl) (sameInt_c _ g _ _ l ha hb) ?_
 rintro _ w3 ⟨hB3, rfl⟩
 have hz3 := hB3.size
 have E := Below.step E hB3
 have ha := ha.below hB3
 have hb := hb.below hB3
 have hc := hc.below hB3
 have hd := hd.below hB3
 have hl_b1 := b1.lt
 have b1 := b1.below hB3
 have hl_b2 := b2.lt
 have b2 := b2.below hB3
 refine S_move rfl rfl rfl (v := (.bool true)) (rfl) ?_
 refine S_field ft_api_Rat_1 rfl rfl rfl (g := g1) (o := 0) (rfl) (o' := 2) rfl ?_
 refine S_load rfl rfl rfl (rfl) (LD.blk1 ti_api_Nat b1 (v := vc) rfl) ?_
 refine S_field ft_api_Rat_1 rfl rfl rfl (g := g2) (o := 0) (rfl) (o' := 2) rfl ?_
 refine S_load rfl rfl rfl (rfl) (LD.blk1 ti_api_Nat b2 (v := vd) rfl) ?_
 refine S_call en_assayerlaw01_SameNat rfl rfl rfl (vs := [vc, vd]) (rfl) (sameNat_c _ _ _ m hc hd) ?_
 rintro _ w4 ⟨hB4, rfl⟩
 have hz4 := hB4.size
 have E := Below.step E hB4
 have ha := ha.below hB4
 have hb := hb.below hB4
 have hc := hc.below hB4
 have hd := hd.below hB4
 have hl_b1 := b1.lt
 have b1 := b1.below hB4
 have hl_b2 := b2.lt
 have b2 := b2.below hB4
 refine S_pick rfl rfl rfl rfl rfl (b := true) (rfl) (v := (.bool true)) (rfl) ?_
 refine S_assign rfl rfl rfl (v := (.bool true)) (rfl) ?_
 refine OPS.nil ?_
 change WP _ _ _ _ _ _
 refine W_ret ?_
 change Fin' _ _ _ _ _ _
 refine End1 (n := ⟨17, []⟩) (t := 4) rfl (by decide) (v := (.bool true)) (rfl) ?_
 exact ⟨E, rfl⟩


theorem sameRat_e (w0 : World) (x y : RV) (hq : x.q = y.q) {a b a' b' : Nat} (hx : x.R a b w0) (hy : y.R a' b' w0) : Ret Tryz.prog 51 [.agg x.cs.toArray, .agg y.cs.toArray] w0 (fun r w1 => Below w0.heap.size w0 w1 ∧ r = .bool true) := by
  have := sameRat_c w0 x.q.neg x.vn y.vn x.vd y.vd _ _ hx.1 (by rw [hq]; exact hy.1) hx.2 (by rw [hq]; exact hy.2)
  rw [show RV.cs y = [.bool x.q.neg, y.vn, y.vd] by rw [hq]; rfl]
  exact this

set_option maxHeartbeats 400000 in
theorem sameRats_c (w0 : World) (va vb : Value) (es fs : List RV) (hq : qs es = qs fs) {a b a' b' : Nat} (ha : RL a b w0 va es) (hb : RL a' b' w0 vb fs) :
    Ret Tryz.prog 69 [va, vb] w0 (fun r w1 => Below w0.heap.size w0 w1 ∧ r = .bool true) := by
 have E := Below.refl w0.heap.size w0
 have hm := ha.1.le
 have hl : es.length = fs.length := by rw [← qs_len, hq, qs_len]
 refine Ret_of (n := 27) Tryz.func69 rfl rfl (Nat.le_of_ble_eq_true rfl) ?_
 refine W_seq ?_
 refine W_region rfl ?_
 refine S_assign rfl rfl rfl (v := (.bool false)) (rfl) ?_
 refine OPS.nil ?_
 change WP _ _ _ _ _ _
 refine W_seq ?_
 refine W_seq ?_
 refine W_region rfl ?_
 refine S_move rfl rfl rfl (v := va) (rfl) ?_
 refine S_len Tryz.underlying49 rfl rfl rfl (rfl) (m := es.length) ((ha.below E).len) ?_
 refine S_move rfl rfl rfl (v := vb) (rfl) ?_
 refine S_len Tryz.underlying49 rfl rfl rfl (rfl) (m := fs.length) ((hb.below E).len) ?_
 refine S_bin rfl rfl rfl rfl rfl (rfl) (rfl) (v := .bool false) (by simp [binV, hl]) ?_
 refine OPS.nil ?_
 change WP _ _ _ _ _ _
 refine W_cond rfl (b := false) (rfl) (fun h => (by cases h)) (fun _ => ?_)
 refine W_skip ?_
 change WP _ _ _ _ _ _
 refine W_seq ?_
 refine W_seq ?_
 refine W_region rfl ?_
 refine S_assign rfl rfl rfl (v := (.int .i64 0)) (rfl) ?_
 refine OPS.nil ?_
 change WP _ _ _ _ _ _
 refine W_block ?_
 refine W_loop (fun k σ w => ∃ (i : Nat), σ 0 = va ∧ σ 1 = vb ∧ σ 5 = .int .i64 (i : Int) ∧ i + k = es.length ∧ Below w0.heap.size w0 w) (es.length) ⟨0, rfl, rfl, rfl, by omega, E⟩ ?_
 rintro k σ w ⟨i, s0, s1, s5, hik, E⟩
 refine W_seq ?_
 refine W_seq ?_
 refine W_region rfl ?_
 refine S_move rfl rfl rfl (v := (.int .i64 (i : Int))) (s5) ?_
 refine S_move rfl rfl rfl (v := va) (s0) ?_
 refine S_len Tryz.underlying49 rfl rfl rfl (rfl) (m := es.length) ((ha.below E).len) ?_
 refine S_bin rfl rfl rfl rfl rfl (rfl) (rfl) (v := .bool (decide ((i : Int) < (es.length : Int)))) rfl ?_
 refine OPS.nil ?_
 change WP _ _ _ _ _ _
 refine W_cond rfl (rfl) (fun hq14 => ?_) (fun hq14 => ?_)
 ·skip
  have pT := hq14
  replace hq14 := of_decide_eq_true hq14
  have qT := hq14
  try rw [pT]
  refine W_skip ?_
  change WP _ _ _ _ _ _
  refine W_seq ?_
  refine W_block ?_
  refine W_seq ?_
  refine D_begin mixed_ rfl rfl (fun w_ => Below w0.heap.size w0 w_) ?_
  intro w1 hB1 hz_1
  have hz1 := hB1.size
  have E := Below.step E hB1
  have hS_ : Below w0.heap.size w0 w1 := E
  have E_S := E
  refine D_move (i := 0) (listed2 := (bm 10 1)) (by kernel_rfl) rfl rfl rfl (v := va) (s0) hS_ ?_
  refine D_move (i := 1) (listed2 := (bm 10 3)) (by kernel_rfl) rfl rfl rfl (v := (.int .i64 (i : Int))) (s5) hS_ ?_
  obtain ⟨ad1, hp3, hc2⟩ := ha.get i (by omega)
  refine D_idx Tryz.underlying49 ti_api_Rat (i := 2) (listed2 := (bm 10 7)) (by kernel_rfl) rfl rfl rfl rfl (rfl) (rfl) hp3 (by omega) hS_ ?_
  refine D_load (i := 3) (listed2 := (bm 10 15)) (by kernel_rfl) rfl rfl rfl (rfl) (fun _ hS2 => LD.cells ti_api_Rat (CellsAt.below hc2 hS2) rfl) hS_ ?_
  refine D_move (i := 4) (listed2 := (bm 10 31)) (by kernel_rfl) rfl rfl rfl (v := vb) (s1) hS_ ?_
  refine D_move (i := 5) (listed2 := (bm 10 63)) (by kernel_rfl) rfl rfl rfl (v := (.int .i64 (i : Int))) (s5) hS_ ?_
  obtain ⟨ad4, hp6, hc5⟩ := hb.get i (by omega)
  refine D_idx Tryz.underlying49 ti_api_Rat (i := 6) (listed2 := (bm 10 127)) (by kernel_rfl) rfl rfl rfl rfl (rfl) (rfl) hp6 (by omega) hS_ ?_
  refine D_load (i := 7) (listed2 := (bm 10 255)) (by kernel_rfl) rfl rfl rfl (rfl) (fun _ hS2 => LD.cells ti_api_Rat (CellsAt.below hc5 hS2) rfl) hS_ ?_
  refine D_last (i := 8) (f := 10) (by kernel_rfl) (by kernel_rfl) (listed2 := (bm 10 511)) (by kernel_rfl) ?_
  refine S_call en_assayerlaw01_SameRat rfl rfl rfl (vs := [(.agg (RV.cs (es.getD i rv0)).toArray), (.agg (RV.cs (fs.getD i rv0)).toArray)]) (rfl) (sameRat_e _ _ _ (qs_get hq i) ((ha.below E).mem (by omega)) ((hb.below E).mem (by omega))) ?_
  rintro _ w2 ⟨hB2, rfl⟩
  have hz2 := hB2.size
  have E := Below.step E hB2
  refine OPS.nil ?_
  refine D_last (i := 9) (f := 10) (by kernel_rfl) (by kernel_rfl) (listed2 := (bm 10 1023)) (by kernel_rfl) ?_
  refine S_not rfl rfl rfl (rfl) ?_
  change OPS _ _ _ _ _ (upd _ _ (.bool false)) _
  refine OPS.nil ?_
  refine D_done (by kernel_rfl) ?_
  change WP _ _ _ _ _ _
  refine W_cond rfl (b := false) (rfl) (fun h => (by cases h)) (fun _ => ?_)
  refine W_skip ?_
  change WP _ _ _ _ _ _
  refine W_region rfl ?_
  refine S_move rfl rfl rfl (v := (.int .i64 (i : Int))) (s5) ?_
  refine S_add64 rfl rfl rfl rfl (rfl) (rfl) (by omega) ?_
  refine S_assign rfl rfl rfl (v := (.int .i64 ((i : Int) + 1))) (rfl) ?_
  refine OPS.nil ?_
  exact ⟨k - 1, by omega, i + 1, s0, s1, int_eq (by omega), by omega, E⟩
 ·skip
  have pF := hq14
  replace hq14 := of_decide_eq_false hq14
  have qF := hq14
  try rw [pF]
  refine W_exit ?_
  change WP _ _ _ _ _ _
  refine W_seq ?_
  refine W_region rfl ?_
  refine S_assign rfl rfl rfl (v := (.bool true)) (rfl) ?_
  refine OPS.nil ?_
  change WP _ _ _ _ _ _
  refine W_ret ?_
  change Fin' _ _ _ _ _ _
  refine End1 (n := ⟨27, []⟩) (t := 4) rfl (by decide) (v := (.bool true)) (rfl) ?_
  exact ⟨E, rfl⟩

end Go.Proofs.YtccmicegihlfbaaGreatDoor

/- Memory that is held: rows, no two in a common block; what a write, an append, an allocation leave of them. -/
namespace Go.Proofs.YtccmicegihlfbaaGreatDoor
open Go.RowKit

/-- A row: its slice, its elements' type and cells each, how many, and the cells. -/
structure OV where
  v : Value
  e : TypeId
  sz : Nat
  m : Nat
  xs : List Value
def OV.ok (B : Nat) (w : World) (o : OV) : Prop := Row B o.e o.sz w o.v o.m o.xs
def OV.dj (a b : OV) : Prop := Dj a.v b.v
theorem OV.dj_symm {a b : OV} (h : a.dj b) : b.dj a := Dj.symm h
/-- All rows of a list are held, each by itself. -/
structure OWN (B : Nat) (w : World) (L : List OV) : Prop where
  ok : ∀ o ∈ L, o.ok B w
  dj : L.Pairwise OV.dj
section
variable {B : Nat} {w w' : World} {L M : List OV} {o o' : OV}
theorem OWN.nil (B : Nat) (w : World) : OWN B w [] := ⟨fun _ h => (by cases h), List.Pairwise.nil⟩
theorem OWN.perm (h : OWN B w L) (hp : L.Perm M) : OWN B w M := ⟨fun o ho => h.ok o (hp.mem_iff.2 ho), (hp.pairwise_iff (fun h => OV.dj_symm h)).1 h.dj⟩
theorem OWN.below (h : OWN B w L) (hb : Below w.heap.size w w') : OWN B w' L := ⟨fun o ho => (h.ok o ho).below hb, h.dj⟩
theorem OWN.lt (h : OWN B w L) (ho : o ∈ L) : ∀ g, bk o.v = some g → g < w.heap.size := fun g hg => ((h.ok o ho).bkB g hg).2
/-- A block is written that none of them holds. -/
theorem OWN.upd {g : Nat} (h : OWN B w L) (hu : Upd g w w') (hg : ∀ o ∈ L, bk o.v ≠ some g) : OWN B w' L := ⟨fun o ho => (h.ok o ho).upd hu (fun k hk e => hg o ho (by rw [hk, e])), h.dj⟩
/-- The first one is written. -/
theorem OWN.updHead {g : Nat} (h : OWN B w (o :: L)) (hu : Upd g w w') (hg : bk o.v = some g) (hv : o'.v = o.v) (hok : o'.ok B w') : OWN B w' (o' :: L) := by
  have hp := List.pairwise_cons.1 h.dj
  refine ⟨fun p hp' => ?_, List.pairwise_cons.2 ⟨fun a ha => by unfold OV.dj; rw [hv]; exact hp.1 a ha, hp.2⟩⟩
  rcases List.mem_cons.1 hp' with rfl | hm
  · exact hok
  · exact (h.ok p (by simp [hm])).upd hu (fun k hk e => hp.1 p hm g hg (by rw [hk, e]))
/-- The first one is grown: in its own block, or in a new one; then the old one is held still. -/
theorem OWN.grow (h : OWN B w (o :: L)) (hg : w.grownBy w' (bk o.v)) (hok : o'.ok B w') (hb : bk o'.v = bk o.v ∨ ∃ g, bk o'.v = some g ∧ w.heap.size ≤ g ∧ w.grownBy w' none) :
    OWN B w' (o' :: L) ∧ (bk o'.v = bk o.v ∨ OWN B w' (o' :: o :: L)) := by
  have hp := List.pairwise_cons.1 h.dj
  have keep : ∀ p ∈ L, p.ok B w' := fun p hm => (h.ok p (by simp [hm])).grown hg (fun k hk e => hp.1 p hm k e.symm hk)
  rcases hb with hb | ⟨g, hb, hsz, hgn⟩
  · refine ⟨⟨fun p hp' => ?_, List.pairwise_cons.2 ⟨fun a ha k hk => hp.1 a ha k (by rw [← hb]; exact hk), hp.2⟩⟩, .inl hb⟩
    rcases List.mem_cons.1 hp' with rfl | hm
    · exact hok
    · exact keep p hm
  · have hd : ∀ a ∈ o :: L, OV.dj o' a := fun a ha k hk hk2 => by
      rw [hb] at hk
      cases hk
      have := h.lt ha _ hk2
      omega
    have h2 : OWN B w' (o' :: o :: L) := by
      refine ⟨fun p hp' => ?_, List.pairwise_cons.2 ⟨hd, h.dj⟩⟩
      rcases List.mem_cons.1 hp' with rfl | hm
      · exact hok
      · exact (h.ok p hm).grown hgn (fun k _ e => by cases e)
    exact ⟨⟨fun p hp' => h2.ok p (by rcases List.mem_cons.1 hp' with rfl | hm <;> simp [*]), List.pairwise_cons.2 ⟨fun a ha => hd a (by simp [ha]), hp.2⟩⟩, .inr h2⟩
/-- One more, in new memory. -/
theorem OWN.add (h : OWN B w L) (hok : o.ok B w) (hd : ∀ a ∈ L, OV.dj o a) : OWN B w (o :: L) :=
  ⟨fun p hp => by rcases List.mem_cons.1 hp with rfl | hm; exact hok; exact h.ok p hm, List.pairwise_cons.2 ⟨hd, h.dj⟩⟩
theorem OWN.addNew {H : Nat} (h : OWN B w L) (hok : o.ok B w) (hn : ∀ g, bk o.v = some g → H ≤ g) (hl : ∀ a ∈ L, ∀ g, bk a.v = some g → g < H) : OWN B w (o :: L) :=
  h.add hok (fun a ha => (Dj.lt (hl a ha) hn).symm)
theorem OWN.tail (h : OWN B w (o :: L)) : OWN B w L := ⟨fun p hp => h.ok p (by simp [hp]), (List.pairwise_cons.1 h.dj).2⟩
theorem OWN.repl (h : OWN B w (o :: L)) (hv : o'.v = o.v) (hok : o'.ok B w) : OWN B w (o' :: L) :=
  ⟨fun p hp => by rcases List.mem_cons.1 hp with rfl | hm; exact hok; exact h.ok p (by simp [hm]), List.pairwise_cons.2 ⟨fun a ha => by unfold OV.dj; rw [hv]; exact (List.pairwise_cons.1 h.dj).1 a ha, (List.pairwise_cons.1 h.dj).2⟩⟩
end
def ovN (v : Value) (l : List Int) : OV := ⟨v, 106, 1, l.length, nums .u32 l⟩
def ovR (v : Value) (es : List RV) : OV := ⟨v, 70, 3, es.length, es.flatMap RV.cs⟩
theorem ON.ov {B : Nat} {w : World} {v : Value} {l : List Int} (h : ON B w v l) : (ovN v l).ok B w := h.row
def ovsR (v : Value) (es : List RV) : List OV := (es.flatMap fun x => [ovN x.vn x.q.n, ovN x.vd x.q.d]) ++ [ovR v es]
theorem ovs_v (es : List RV) : (es.flatMap fun x => [ovN x.vn x.q.n, ovN x.vd x.q.d]).map OV.v = es.flatMap fun x => [x.vn, x.vd] := by
  induction es with
  | nil => rfl
  | cons x es ih => rw [List.flatMap_cons, List.map_append, ih, List.flatMap_cons]; rfl
theorem OL.own {B : Nat} {w : World} {v : Value} {es : List RV} (h : OL B w v es) : OWN B w (ovsR v es) := by
  have hp := List.pairwise_cons.1 h.2.2
  refine OWN.perm (L := ovR v es :: es.flatMap fun x => [ovN x.vn x.q.n, ovN x.vd x.q.d]) ⟨fun o ho => ?_, ?_⟩ (List.perm_append_singleton _ _).symm
  · rcases List.mem_cons.1 ho with rfl | ho
    · exact h.1
    · obtain ⟨x, hx, ho⟩ := List.mem_flatMap.1 ho
      simp only [List.mem_cons, List.not_mem_nil, or_false] at ho
      rcases ho with rfl | rfl
      · exact (h.2.1 x hx).1.ov
      · exact (h.2.1 x hx).2.ov
  · have := h.2.2
    rw [← ovs_v] at this
    have e : v :: (es.flatMap fun x => [ovN x.vn x.q.n, ovN x.vd x.q.d]).map OV.v = (ovR v es :: es.flatMap fun x => [ovN x.vn x.q.n, ovN x.vd x.q.d]).map OV.v := rfl
    rw [e, List.pairwise_map] at this
    exact this
theorem ON.updN {B g : Nat} {w w' : World} {v : Value} {l : List Int} (h : ON B w v l) (hu : Upd g w w') (hn : ∀ k, bk v = some k → k ≠ g) : ON B w' v l := (h.row.upd hu hn).on h.1.u32
theorem OL.updN {B g : Nat} {w w' : World} {v : Value} {es : List RV} (h : OL B w v es) (hu : Upd g w w') (hn : ∀ o ∈ ovsR v es, ∀ k, bk o.v = some k → k ≠ g) : OL B w' v es := by
  refine ⟨h.1.upd hu (hn (ovR v es) (by simp [ovsR])), fun x hx => ⟨(h.2.1 x hx).1.updN hu (hn (ovN x.vn x.q.n) ?_), (h.2.1 x hx).2.updN hu (hn (ovN x.vd x.q.d) ?_)⟩, h.2.2⟩
  · exact List.mem_append_left _ (List.mem_flatMap.2 ⟨x, hx, by simp⟩)
  · exact List.mem_append_left _ (List.mem_flatMap.2 ⟨x, hx, by simp⟩)
theorem OWN.mono {B B' : Nat} {w : World} {L : List OV} (h : OWN B w L) (hB : B' ≤ B) : OWN B' w L := ⟨fun o ho => (h.ok o ho).mono hB, h.dj⟩
theorem OWN.append {B : Nat} {w : World} {L M : List OV} (h1 : OWN B w L) (h2 : OWN B w M) (hd : ∀ a ∈ L, ∀ b ∈ M, OV.dj a b) : OWN B w (L ++ M) :=
  ⟨fun o ho => (List.mem_append.1 ho).elim (h1.ok o) (h2.ok o), List.pairwise_append.2 ⟨h1.dj, h2.dj, hd⟩⟩
theorem OL.ovs_bk {B : Nat} {w : World} {v : Value} {es : List RV} (h : OL B w v es) : ∀ o ∈ ovsR v es, ∀ g, bk o.v = some g → B ≤ g ∧ g < w.heap.size := by
  intro o ho g hg
  refine h.bks o.v ?_ g hg
  rcases List.mem_append.1 ho with ho | ho
  · rw [← ovs_v]
    exact List.mem_cons_of_mem _ (List.mem_map_of_mem ho)
  · simp at ho; subst ho; simp [ovR]

/-! ### The book -/
/-- An entry: the list, the longer one, the number; and the row that is held for it. -/
structure HE where
  l : Value
  long : Value
  no : Int
  o : OV
def HE.cs (h : HE) : List Value := [h.l, h.long, .int .i64 h.no]
theorem HE.cs_len (h : HE) : h.cs.length = 3 := rfl
def bookCs (no : Int) (vI vR : Value) : List Value :=
  [.int .i64 no, .slice none 0 0, vI, .slice none 0 0, .slice none 0 0, .slice none 0 0, .slice none 0 0, .slice none 0 0, vR, .slice none 0 0, .slice none 0 0, .slice none 0 0, .slice none 0 0]
def ovI (v : Value) (I : List HE) : OV := ⟨v, 158, 3, I.length, I.flatMap HE.cs⟩
def ovH (v : Value) (I : List HE) : OV := ⟨v, 183, 3, I.length, I.flatMap HE.cs⟩
def bookL (vI vR : Value) (I R : List HE) (O : List OV) : List OV := ovI vI I :: ovH vR R :: (I.map HE.o ++ R.map HE.o ++ O)
structure BOOK (B kb : Nat) (w : World) (no : Int) (vI vR : Value) (I R : List HE) (O : List OV) : Prop where
  blk : Blk w kb (bookCs no vI vR) 45
  own : OWN B w (bookL vI vR I R O)
  kb : ∀ o ∈ bookL vI vR I R O, bk o.v ≠ some kb
section
variable {B kb : Nat} {w w' : World} {no : Int} {vI vR : Value} {I R : List HE} {O : List OV}
theorem BOOK.below (h : BOOK B kb w no vI vR I R O) (hb : Below w.heap.size w w') : BOOK B kb w' no vI vR I R O := ⟨h.blk.below hb, h.own.below hb, h.kb⟩
theorem BOOK.rowI (h : BOOK B kb w no vI vR I R O) : Row B 158 3 w vI I.length (I.flatMap HE.cs) := h.own.ok (ovI vI I) (by simp [bookL])
theorem BOOK.rowH (h : BOOK B kb w no vI vR I R O) : Row B 183 3 w vR R.length (R.flatMap HE.cs) := h.own.ok (ovH vR R) (by simp [bookL])
theorem BOOK.kbI (h : BOOK B kb w no vI vR I R O) : bk vI ≠ some kb := h.kb (ovI vI I) (by simp [bookL])
theorem BOOK.kbH (h : BOOK B kb w no vI vR I R O) : bk vR ≠ some kb := h.kb (ovH vR R) (by simp [bookL])
/-- A list of parts is taken into the book: what the append and the two stores leave. -/
theorem BOOK.keepI {o : OV} {v' : Value} (h : BOOK B kb w no vI vR I R (o :: O)) (hr : Row B 158 3 w' v' (I.length + 1) (I.flatMap HE.cs ++ HE.cs ⟨o.v, .slice none 0 0, no, o⟩))
    (hg : w.grownBy w' (bk vI)) (hb : bk v' = bk vI ∨ ∃ g, bk v' = some g ∧ w.heap.size ≤ g ∧ w.grownBy w' none) :
    OWN B w' (bookL v' vR (I ++ [⟨o.v, .slice none 0 0, no, o⟩]) R O) ∧ (∀ o' ∈ bookL v' vR (I ++ [⟨o.v, .slice none 0 0, no, o⟩]) R O, bk o'.v ≠ some kb) ∧ Blk w' kb (bookCs no vI vR) 45 := by
  have e : (ovI v' (I ++ [⟨o.v, .slice none 0 0, no, o⟩])).ok B w' := by
    have : (I ++ [(⟨o.v, .slice none 0 0, no, o⟩ : HE)]).flatMap HE.cs = I.flatMap HE.cs ++ HE.cs ⟨o.v, .slice none 0 0, no, o⟩ := by simp
    unfold OV.ok ovI
    simp only [this, List.length_append, List.length_cons, List.length_nil]
    exact hr
  have h1 := (h.own.grow (o' := ovI v' (I ++ [⟨o.v, .slice none 0 0, no, o⟩])) hg e hb).1
  have hp : (ovI v' (I ++ [⟨o.v, .slice none 0 0, no, o⟩]) :: ovH vR R :: (I.map HE.o ++ R.map HE.o ++ o :: O)).Perm (bookL v' vR (I ++ [⟨o.v, .slice none 0 0, no, o⟩]) R O) := by
    refine List.Perm.cons _ (List.Perm.cons _ ?_)
    simp only [List.map_append, List.map_cons, List.map_nil, List.append_assoc]
    refine List.Perm.append_left _ ?_
    exact List.perm_middle
  refine ⟨h1.perm hp, fun o' ho' => ?_, h.blk.grown hg (fun e => h.kbI e.symm)⟩
  have hm := hp.mem_iff.2 ho'
  rcases List.mem_cons.1 hm with rfl | hm
  · rcases hb with hb | ⟨g, hb, hs, _⟩
    · show bk v' ≠ _
      rw [hb]; exact h.kbI
    · show bk v' ≠ _
      rw [hb]
      intro e
      cases e
      have := h.blk.lt
      omega
  · exact h.kb o' (by simp only [bookL]; exact List.mem_cons_of_mem _ hm)
theorem BOOK.keepH {o : OV} {v' : Value} (h : BOOK B kb w no vI vR I R (o :: O)) (hr : Row B 183 3 w' v' (R.length + 1) (R.flatMap HE.cs ++ HE.cs ⟨o.v, .slice none 0 0, no, o⟩))
    (hg : w.grownBy w' (bk vR)) (hb : bk v' = bk vR ∨ ∃ g, bk v' = some g ∧ w.heap.size ≤ g ∧ w.grownBy w' none) :
    OWN B w' (bookL vI v' I (R ++ [⟨o.v, .slice none 0 0, no, o⟩]) O) ∧ (∀ o' ∈ bookL vI v' I (R ++ [⟨o.v, .slice none 0 0, no, o⟩]) O, bk o'.v ≠ some kb) ∧ Blk w' kb (bookCs no vI vR) 45 := by
  have e : (ovH v' (R ++ [⟨o.v, .slice none 0 0, no, o⟩])).ok B w' := by
    have : (R ++ [(⟨o.v, .slice none 0 0, no, o⟩ : HE)]).flatMap HE.cs = R.flatMap HE.cs ++ HE.cs ⟨o.v, .slice none 0 0, no, o⟩ := by simp
    unfold OV.ok ovH
    simp only [this, List.length_append, List.length_cons, List.length_nil]
    exact hr
  have h0 : OWN B w (ovH vR R :: ovI vI I :: (I.map HE.o ++ R.map HE.o ++ o :: O)) := h.own.perm (List.Perm.swap _ _ _)
  have h1 := (h0.grow (o' := ovH v' (R ++ [⟨o.v, .slice none 0 0, no, o⟩])) hg e hb).1
  have hp : (ovH v' (R ++ [⟨o.v, .slice none 0 0, no, o⟩]) :: ovI vI I :: (I.map HE.o ++ R.map HE.o ++ o :: O)).Perm (bookL vI v' I (R ++ [⟨o.v, .slice none 0 0, no, o⟩]) O) := by
    refine (List.Perm.swap _ _ _).trans (List.Perm.cons _ (List.Perm.cons _ ?_))
    simp only [List.map_append, List.map_cons, List.map_nil, List.append_assoc]
    refine List.Perm.append_left _ (List.Perm.append_left _ ?_)
    exact List.Perm.refl _
  refine ⟨h1.perm hp, fun o' ho' => ?_, h.blk.grown hg (fun e => h.kbH e.symm)⟩
  have hm := hp.mem_iff.2 ho'
  rcases List.mem_cons.1 hm with rfl | hm
  · rcases hb with hb | ⟨g, hb, hs, _⟩
    · show bk v' ≠ _
      rw [hb]; exact h.kbH
    · show bk v' ≠ _
      rw [hb]
      intro e
      cases e
      have := h.blk.lt
      omega
  · refine h.kb o' ?_
    simp only [bookL]
    rcases List.mem_cons.1 hm with rfl | hm
    · simp
    · exact List.mem_cons_of_mem _ (List.mem_cons_of_mem _ hm)
end
end Go.Proofs.YtccmicegihlfbaaGreatDoor
