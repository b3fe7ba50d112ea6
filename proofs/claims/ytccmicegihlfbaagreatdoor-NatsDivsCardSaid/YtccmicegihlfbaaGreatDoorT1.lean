/- Are two numbers, two fractions the same: if they read alike, yes. -/
import Derived.Test.YtccmicegihlfbaaGreatDoorR1
import Derived.Test.YtccmicegihlfbaaGreatDoorTy
set_option linter.unusedVariables false
set_option linter.unusedSimpArgs false
namespace Go.Proofs.YtccmicegihlfbaaGreatDoor
open Go.RowKit

set_option maxHeartbeats 400000 in
theorem sameNat_c (w0 : World) (va vb : Value) (l : List Int) {a b a' b' : Nat} (ha : RN a b w0 va l) (hb : RN a' b' w0 vb l) :
    Ret Tryz.prog 44 [va, vb] w0 (fun r w1 => Below w0.heap.size w0 w1 ∧ r = .bool true) := by
  have E := Below.refl w0.heap.size w0
  have hm := ha.maxl
  refine Ret_of (n := 26) Tryz.func44 rfl rfl (Nat.le_of_ble_eq_true rfl) ?_
  refine W_seq ?_
  refine W_region rfl ?_
  refine S_assign rfl rfl rfl (v := (.bool false)) (rfl) ?_
  refine OPS.nil ?_
  change WP _ _ _ _ _ _
  refine W_seq ?_
  refine W_seq ?_
  refine W_region rfl ?_
  refine S_move rfl rfl rfl (v := va) (rfl) ?_
  refine S_len Tryz.underlying22 rfl rfl rfl (rfl) (m := l.length) (ha.len) ?_
  refine S_move rfl rfl rfl (v := vb) (rfl) ?_
  refine S_len Tryz.underlying22 rfl rfl rfl (rfl) (m := l.length) (hb.len) ?_
  refine S_bin rfl rfl rfl rfl rfl (rfl) (rfl) (v := .bool false) (by simp [binV]) ?_
  refine OPS.nil ?_
  change WP _ _ _ _ _ _
  refine W_cond rfl (b := false) (rfl) (fun h => (by cases h)) (fun _ => ?_)
  refine W_skip ?_
  change WP _ _ _ _ _ _
  refine W_seq ?_
  refine W_seq ?_
  refine W_region rfl ?_
  refine S_assign rfl rfl rfl (v := (.int .i64 0)) (rfl) ?_
  refine OPS.nil ?_
  change WP _ _ _ _ _ _
  refine W_block ?_
  refine W_loop (fun k σ w => ∃ (i : Nat), σ 0 = va ∧ σ 1 = vb ∧ σ 5 = .int .i64 (i : Int) ∧ i + k = l.length ∧ Below w0.heap.size w0 w) (l.length) ⟨0, rfl, rfl, rfl, by omega, E⟩ ?_
  rintro k σ w ⟨i, s0, s1, s5, hik, E⟩
  refine W_seq ?_
  refine W_seq ?_
  refine W_region rfl ?_
  refine S_move rfl rfl rfl (v := (.int .i64 (i : Int))) (s5) ?_
  refine S_move rfl rfl rfl (v := va) (s0) ?_
  refine S_len Tryz.underlying22 rfl rfl rfl (rfl) (m := l.length) (ha.len) ?_
  refine S_bin rfl rfl rfl rfl rfl (rfl) (rfl) rfl ?_
  refine OPS.nil ?_
  change WP _ _ _ _ _ _
  refine W_cond rfl (rfl) (fun hq14 => ?_) (fun hq14 => ?_)
  · skip
    replace hq14 := of_decide_eq_true hq14
    refine W_skip ?_
    change WP _ _ _ _ _ _
    refine W_seq ?_
    refine W_block ?_
    refine W_seq ?_
    refine D_begin mixed_ rfl rfl (fun w_ => Below w0.heap.size w0 w_) ?_
    intro w1 hB1 hz_1
    have hz1 := hB1.size
    have E := Below.step E hB1
    have hS_ : Below w0.heap.size w0 w1 := E
    have E_S := E
    refine D_move (i := 0) (by kernel_rfl) (by kernel_rfl) (by kernel_rfl) (listed2 := #[true, false, false, false, false, false, false, false, false]) (by kernel_rfl) rfl rfl rfl (v := va) (s0) hS_ ?_
    refine D_move (i := 1) (by kernel_rfl) (by kernel_rfl) (by kernel_rfl) (listed2 := #[true, true, false, false, false, false, false, false, false]) (by kernel_rfl) rfl rfl rfl (v := (.int .i64 (i : Int))) (s5) hS_ ?_
    obtain ⟨ad1, hp3, hc2⟩ := ha.at i (by omega)
    refine D_idx Tryz.underlying22 ti_uint32 (i := 2) (by kernel_rfl) (by kernel_rfl) (by kernel_rfl) (listed2 := #[true, true, true, false, false, false, false, false, false]) (by kernel_rfl) rfl rfl rfl rfl (rfl) (rfl) hp3 (by omega) hS_ ?_
    refine D_load (i := 3) (by kernel_rfl) (by kernel_rfl) (by kernel_rfl) (listed2 := #[true, true, true, true, false, false, false, false, false]) (by kernel_rfl) rfl rfl rfl (rfl) (fun _ hS2 => LD.one ti_uint32 (cell_below hS2 hc2)) hS_ ?_
    refine D_move (i := 4) (by kernel_rfl) (by kernel_rfl) (by kernel_rfl) (listed2 := #[true, true, true, true, true, false, false, false, false]) (by kernel_rfl) rfl rfl rfl (v := vb) (s1) hS_ ?_
    refine D_move (i := 5) (by kernel_rfl) (by kernel_rfl) (by kernel_rfl) (listed2 := #[true, true, true, true, true, true, false, false, false]) (by kernel_rfl) rfl rfl rfl (v := (.int .i64 (i : Int))) (s5) hS_ ?_
    obtain ⟨ad4, hp6, hc5⟩ := hb.at i (by omega)
    refine D_idx Tryz.underlying22 ti_uint32 (i := 6) (by kernel_rfl) (by kernel_rfl) (by kernel_rfl) (listed2 := #[true, true, true, true, true, true, true, false, false]) (by kernel_rfl) rfl rfl rfl rfl (rfl) (rfl) hp6 (by omega) hS_ ?_
    refine D_load (i := 7) (by kernel_rfl) (by kernel_rfl) (by kernel_rfl) (listed2 := #[true, true, true, true, true, true, true, true, false]) (by kernel_rfl) rfl rfl rfl (rfl) (fun _ hS2 => LD.one ti_uint32 (cell_below hS2 hc5)) hS_ ?_
    refine D_bin (i := 8) (by kernel_rfl) (by kernel_rfl) (by kernel_rfl) (listed2 := #[true, true, true, true, true, true, true, true, true]) (by kernel_rfl) rfl rfl rfl rfl rfl (rfl) (rfl) (v := .bool false) (by simp [binV]) hS_ ?_
    refine D_done (by kernel_rfl) ?_
    change WP _ _ _ _ _ _
    refine W_cond rfl (b := false) (rfl) (fun h => (by cases h)) (fun _ => ?_)
    refine W_skip ?_
    change WP _ _ _ _ _ _
    refine W_region rfl ?_
    refine S_move rfl rfl rfl (v := (.int .i64 (i : Int))) (s5) ?_
    refine S_add64 rfl rfl rfl rfl (rfl) (rfl) (by omega) ?_
    refine S_assign rfl rfl rfl (v := (.int .i64 ((i : Int) + 1))) (rfl) ?_
    refine OPS.nil ?_
    exact ⟨k - 1, by omega, i + 1, s0, s1, int_eq (by omega), by omega, E⟩
  · skip
    replace hq14 := of_decide_eq_false hq14
    refine W_exit ?_
    change WP _ _ _ _ _ _
    refine W_seq ?_
    refine W_region rfl ?_
    refine S_assign rfl rfl rfl (v := (.bool true)) (rfl) ?_
    refine OPS.nil ?_
    change WP _ _ _ _ _ _
    refine W_ret ?_
    change Fin' _ _ _ _ _ _
    refine End1 (n := ⟨26, []⟩) (t := 4) rfl (by decide) (v := (.bool true)) (rfl) ?_
    exact ⟨E, rfl⟩

set_option maxHeartbeats 400000 in
theorem sameInt_c (w0 : World) (g : Bool) (va vb : Value) (l : List Int) {a b a' b' : Nat} (ha : RN a b w0 va l) (hb : RN a' b' w0 vb l) :
    Ret Tryz.prog 20 [.agg #[.bool g, va], .agg #[.bool g, vb]] w0 (fun r w1 => Below w0.heap.size w0 w1 ∧ r = .bool true) := by
  have E := Below.refl w0.heap.size w0
  refine Ret_of (n := 17) Tryz.func20 rfl rfl (Nat.le_of_ble_eq_true rfl) ?_
  refine W_seq ?_
  refine W_region rfl ?_
  refine S_box rfl rfl rfl (v := .agg #[.bool g, va]) (rfl) (cs := [.bool g, va]) rfl ?_
  intro g1 w1 hg1 hs1 hB1 b1
  have hz1 := hB1.size
  have E := Below.step E hB1
  have ha := ha.below hB1
  have hb := hb.below hB1
  refine S_box rfl rfl rfl (v := .agg #[.bool g, vb]) (rfl) (cs := [.bool g, vb]) rfl ?_
  intro g2 w2 hg2 hs2 hB2 b2
  have hz2 := hB2.size
  have E := Below.step E hB2
  have ha := ha.below hB2
  have hb := hb.below hB2
  have hl_b1 := b1.lt
  have b1 := b1.below hB2
  refine S_assign rfl rfl rfl (v := (.bool false)) (rfl) ?_
  refine OPS.nil ?_
  change WP _ _ _ _ _ _
  refine W_seq ?_
  refine W_region rfl ?_
  refine S_field ft_api_Int_0 rfl rfl rfl (g := g1) (o := 0) (rfl) (o' := 0) rfl ?_
  refine S_load rfl rfl rfl (rfl) (LD.blk1 ti_bool b1 (v := .bool g) rfl) ?_
  refine S_field ft_api_Int_0 rfl rfl rfl (g := g2) (o := 0) (rfl) (o' := 0) rfl ?_
  refine S_load rfl rfl rfl (rfl) (LD.blk1 ti_bool b2 (v := .bool g) rfl) ?_
  refine S_beq Tryz.underlying4 rfl rfl rfl rfl (rfl) (rfl) (c := true) (by simp) ?_
  refine S_move rfl rfl rfl (v := (.bool true)) (rfl) ?_
  refine S_field ft_api_Int_1 rfl rfl rfl (g := g1) (o := 0) (rfl) (o' := 1) rfl ?_
  refine S_load rfl rfl rfl (rfl) (LD.blk1 ti_api_Nat b1 (v := va) rfl) ?_
  refine S_field ft_api_Int_1 rfl rfl rfl (g := g2) (o := 0) (rfl) (o' := 1) rfl ?_
  refine S_load rfl rfl rfl (rfl) (LD.blk1 ti_api_Nat b2 (v := vb) rfl) ?_
  refine S_call en_assayerlaw01_SameNat rfl rfl rfl (vs := [va, vb]) (rfl) (sameNat_c _ _ _ l ha hb) ?_
  rintro _ w3 ⟨hB3, rfl⟩
  have hz3 := hB3.size
  have E := Below.step E hB3
  have ha := ha.below hB3
  have hb := hb.below hB3
  have hl_b1 := b1.lt
  have b1 := b1.below hB3
  have hl_b2 := b2.lt
  have b2 := b2.below hB3
  refine S_pick rfl rfl rfl rfl rfl (b := true) (rfl) (v := (.bool true)) (rfl) ?_
  refine S_assign rfl rfl rfl (v := (.bool true)) (rfl) ?_
  refine OPS.nil ?_
  change WP _ _ _ _ _ _
  refine W_ret ?_
  change Fin' _ _ _ _ _ _
  refine End1 (n := ⟨17, []⟩) (t := 4) rfl (by decide) (v := (.bool true)) (rfl) ?_
  exact ⟨E, rfl⟩

set_option maxHeartbeats 400000 in
theorem sameRat_c (w0 : World) (g : Bool) (va vb vc vd : Value) (l m : List Int) {a b a' b' : Nat} (ha : RN a b w0 va l) (hb : RN a' b' w0 vb l) (hc : RN a b w0 vc m) (hd : RN a' b' w0 vd m) :
    Ret Tryz.prog 51 [.agg #[.bool g, va, vc], .agg #[.bool g, vb, vd]] w0 (fun r w1 => Below w0.heap.size w0 w1 ∧ r = .bool true) := by
  have E := Below.refl w0.heap.size w0
  refine Ret_of (n := 17) Tryz.func51 rfl rfl (Nat.le_of_ble_eq_true rfl) ?_
  refine W_seq ?_
  refine W_region rfl ?_
  refine S_box rfl rfl rfl (v := .agg #[.bool g, va, vc]) (rfl) (cs := [.bool g, va, vc]) rfl ?_
  intro g1 w1 hg1 hs1 hB1 b1
  have hz1 := hB1.size
  have E := Below.step E hB1
  have ha := ha.below hB1
  have hb := hb.below hB1
  have hc := hc.below hB1
  have hd := hd.below hB1
  refine S_box rfl rfl rfl (v := .agg #[.bool g, vb, vd]) (rfl) (cs := [.bool g, vb, vd]) rfl ?_
  intro g2 w2 hg2 hs2 hB2 b2
  have hz2 := hB2.size
  have E := Below.step E hB2
  have ha := ha.below hB2
  have hb := hb.below hB2
  have hc := hc.below hB2
  have hd := hd.below hB2
  have hl_b1 := b1.lt
  have b1 := b1.below hB2
  refine S_assign rfl rfl rfl (v := (.bool false)) (rfl) ?_
  refine OPS.nil ?_
  change WP _ _ _ _ _ _
  refine W_seq ?_
  refine W_region rfl ?_
  refine S_field ft_api_Rat_0 rfl rfl rfl (g := g1) (o := 0) (rfl) (o' := 0) rfl ?_
  refine S_load rfl rfl rfl (rfl) (LD.blk ti_api_Int b1 (l := [.bool g, va]) rfl rfl) ?_
  refine S_field ft_api_Rat_0 rfl rfl rfl (g := g2) (o := 0) (rfl) (o' := 0) rfl ?_
  refine S_load rfl rfl rfl (rfl) (LD.blk ti_api_Int b2 (l := [.bool g, vb]) rfl rfl) ?_
  refine S_call en_assayerlaw01_SameInt rfl rfl rfl (vs := [(.agg #[.bool g, va]), (.agg #[.bool g, vb])]) (rfl) (sameInt_c _ g _ _ l ha hb) ?_
  rintro _ w3 ⟨hB3, rfl⟩
  have hz3 := hB3.size
  have E := Below.step E hB3
  have ha := ha.below hB3
  have hb := hb.below hB3
  have hc := hc.below hB3
  have hd := hd.below hB3
  have hl_b1 := b1.lt
  have b1 := b1.below hB3
  have hl_b2 := b2.lt
  have b2 := b2.below hB3
  refine S_move rfl rfl rfl (v := (.bool true)) (rfl) ?_
  refine S_field ft_api_Rat_1 rfl rfl rfl (g := g1) (o := 0) (rfl) (o' := 2) rfl ?_
  refine S_load rfl rfl rfl (rfl) (LD.blk1 ti_api_Nat b1 (v := vc) rfl) ?_
  refine S_field ft_api_Rat_1 rfl rfl rfl (g := g2) (o := 0) (rfl) (o' := 2) rfl ?_
  refine S_load rfl rfl rfl (rfl) (LD.blk1 ti_api_Nat b2 (v := vd) rfl) ?_
  refine S_call en_assayerlaw01_SameNat rfl rfl rfl (vs := [vc, vd]) (rfl) (sameNat_c _ _ _ m hc hd) ?_
  rintro _ w4 ⟨hB4, rfl⟩
  have hz4 := hB4.size
  have E := Below.step E hB4
  have ha := ha.below hB4
  have hb := hb.below hB4
  have hc := hc.below hB4
  have hd := hd.below hB4
  have hl_b1 := b1.lt
  have b1 := b1.below hB4
  have hl_b2 := b2.lt
  have b2 := b2.below hB4
  refine S_pick rfl rfl rfl rfl rfl (b := true) (rfl) (v := (.bool true)) (rfl) ?_
  refine S_assign rfl rfl rfl (v := (.bool true)) (rfl) ?_
  refine OPS.nil ?_
  change WP _ _ _ _ _ _
  refine W_ret ?_
  change Fin' _ _ _ _ _ _
  refine End1 (n := ⟨17, []⟩) (t := 4) rfl (by decide) (v := (.bool true)) (rfl) ?_
  exact ⟨E, rfl⟩


theorem sameRat_e (w0 : World) (x y : RV) (hq : x.q = y.q) {a b a' b' : Nat} (hx : x.R a b w0) (hy : y.R a' b' w0) : Ret Tryz.prog 51 [.agg x.cs.toArray, .agg y.cs.toArray] w0 (fun r w1 => Below w0.heap.size w0 w1 ∧ r = .bool true) := by
  have := sameRat_c w0 x.q.neg x.vn y.vn x.vd y.vd _ _ hx.1 (by rw [hq]; exact hy.1) hx.2 (by rw [hq]; exact hy.2)
  rw [show RV.cs y = [.bool x.q.neg, y.vn, y.vd] by rw [hq]; rfl]
  exact this

set_option maxHeartbeats 400000 in
theorem sameRats_c (w0 : World) (va vb : Value) (es fs : List RV) (hq : qs es = qs fs) {a b a' b' : Nat} (ha : RL a b w0 va es) (hb : RL a' b' w0 vb fs) :
    Ret Tryz.prog 69 [va, vb] w0 (fun r w1 => Below w0.heap.size w0 w1 ∧ r = .bool true) := by
  have E := Below.refl w0.heap.size w0
  have hm := ha.1.le
  have hl : es.length = fs.length := by rw [← qs_len, hq, qs_len]
  refine Ret_of (n := 27) Tryz.func69 rfl rfl (Nat.le_of_ble_eq_true rfl) ?_
  refine W_seq ?_
  refine W_region rfl ?_
  refine S_assign rfl rfl rfl (v := (.bool false)) (rfl) ?_
  refine OPS.nil ?_
  change WP _ _ _ _ _ _
  refine W_seq ?_
  refine W_seq ?_
  refine W_region rfl ?_
  refine S_move rfl rfl rfl (v := va) (rfl) ?_
  refine S_len Tryz.underlying49 rfl rfl rfl (rfl) (m := es.length) ((ha.below E).len) ?_
  refine S_move rfl rfl rfl (v := vb) (rfl) ?_
  refine S_len Tryz.underlying49 rfl rfl rfl (rfl) (m := fs.length) ((hb.below E).len) ?_
  refine S_bin rfl rfl rfl rfl rfl (rfl) (rfl) (v := .bool false) (by simp [binV, hl]) ?_
  refine OPS.nil ?_
  change WP _ _ _ _ _ _
  refine W_cond rfl (b := false) (rfl) (fun h => (by cases h)) (fun _ => ?_)
  refine W_skip ?_
  change WP _ _ _ _ _ _
  refine W_seq ?_
  refine W_seq ?_
  refine W_region rfl ?_
  refine S_assign rfl rfl rfl (v := (.int .i64 0)) (rfl) ?_
  refine OPS.nil ?_
  change WP _ _ _ _ _ _
  refine W_block ?_
  refine W_loop (fun k σ w => ∃ (i : Nat), σ 0 = va ∧ σ 1 = vb ∧ σ 5 = .int .i64 (i : Int) ∧ i + k = es.length ∧ Below w0.heap.size w0 w) (es.length) ⟨0, rfl, rfl, rfl, by omega, E⟩ ?_
  rintro k σ w ⟨i, s0, s1, s5, hik, E⟩
  refine W_seq ?_
  refine W_seq ?_
  refine W_region rfl ?_
  refine S_move rfl rfl rfl (v := (.int .i64 (i : Int))) (s5) ?_
  refine S_move rfl rfl rfl (v := va) (s0) ?_
  refine S_len Tryz.underlying49 rfl rfl rfl (rfl) (m := es.length) ((ha.below E).len) ?_
  refine S_bin rfl rfl rfl rfl rfl (rfl) (rfl) rfl ?_
  refine OPS.nil ?_
  change WP _ _ _ _ _ _
  refine W_cond rfl (rfl) (fun hq14 => ?_) (fun hq14 => ?_)
  · skip
    replace hq14 := of_decide_eq_true hq14
    refine W_skip ?_
    change WP _ _ _ _ _ _
    refine W_seq ?_
    refine W_block ?_
    refine W_seq ?_
    refine D_begin mixed_ rfl rfl (fun w_ => Below w0.heap.size w0 w_) ?_
    intro w1 hB1 hz_1
    have hz1 := hB1.size
    have E := Below.step E hB1
    have hS_ : Below w0.heap.size w0 w1 := E
    have E_S := E
    refine D_move (i := 0) (by kernel_rfl) (by kernel_rfl) (by kernel_rfl) (listed2 := #[true, false, false, false, false, false, false, false, false, false]) (by kernel_rfl) rfl rfl rfl (v := va) (s0) hS_ ?_
    refine D_move (i := 1) (by kernel_rfl) (by kernel_rfl) (by kernel_rfl) (listed2 := #[true, true, false, false, false, false, false, false, false, false]) (by kernel_rfl) rfl rfl rfl (v := (.int .i64 (i : Int))) (s5) hS_ ?_
    obtain ⟨ad1, hp3, hc2⟩ := ha.get i (by omega)
    refine D_idx Tryz.underlying49 ti_api_Rat (i := 2) (by kernel_rfl) (by kernel_rfl) (by kernel_rfl) (listed2 := #[true, true, true, false, false, false, false, false, false, false]) (by kernel_rfl) rfl rfl rfl rfl (rfl) (rfl) hp3 (by omega) hS_ ?_
    refine D_load (i := 3) (by kernel_rfl) (by kernel_rfl) (by kernel_rfl) (listed2 := #[true, true, true, true, false, false, false, false, false, false]) (by kernel_rfl) rfl rfl rfl (rfl) (fun _ hS2 => LD.cells ti_api_Rat (CellsAt.below hc2 hS2) rfl) hS_ ?_
    refine D_move (i := 4) (by kernel_rfl) (by kernel_rfl) (by kernel_rfl) (listed2 := #[true, true, true, true, true, false, false, false, false, false]) (by kernel_rfl) rfl rfl rfl (v := vb) (s1) hS_ ?_
    refine D_move (i := 5) (by kernel_rfl) (by kernel_rfl) (by kernel_rfl) (listed2 := #[true, true, true, true, true, true, false, false, false, false]) (by kernel_rfl) rfl rfl rfl (v := (.int .i64 (i : Int))) (s5) hS_ ?_
    obtain ⟨ad4, hp6, hc5⟩ := hb.get i (by omega)
    refine D_idx Tryz.underlying49 ti_api_Rat (i := 6) (by kernel_rfl) (by kernel_rfl) (by kernel_rfl) (listed2 := #[true, true, true, true, true, true, true, false, false, false]) (by kernel_rfl) rfl rfl rfl rfl (rfl) (rfl) hp6 (by omega) hS_ ?_
    refine D_load (i := 7) (by kernel_rfl) (by kernel_rfl) (by kernel_rfl) (listed2 := #[true, true, true, true, true, true, true, true, false, false]) (by kernel_rfl) rfl rfl rfl (rfl) (fun _ hS2 => LD.cells ti_api_Rat (CellsAt.below hc5 hS2) rfl) hS_ ?_
    refine D_only (i := 8) (by kernel_rfl) (listed2 := #[true, true, true, true, true, true, true, true, true, false]) (by kernel_rfl) ?_
    refine S_call en_assayerlaw01_SameRat rfl rfl rfl (vs := [(.agg (RV.cs (es.getD i rv0)).toArray), (.agg (RV.cs (fs.getD i rv0)).toArray)]) (rfl) (sameRat_e _ _ _ (qs_get hq i) ((ha.below E).mem (by omega)) ((hb.below E).mem (by omega))) ?_
    rintro _ w2 ⟨hB2, rfl⟩
    have hz2 := hB2.size
    have E := Below.step E hB2
    have hS_ := Below.step hS_ hB2
    refine OPS.nil ⟨hS_, ?_⟩
    refine D_not (i := 9) (by kernel_rfl) (by kernel_rfl) (by kernel_rfl) (listed2 := #[true, true, true, true, true, true, true, true, true, true]) (by kernel_rfl) rfl rfl rfl (rfl) hS_ ?_
    change DRW _ _ _ _ _ _ _ (upd _ _ (.bool false)) _
    refine D_done (by kernel_rfl) ?_
    change WP _ _ _ _ _ _
    refine W_cond rfl (b := false) (rfl) (fun h => (by cases h)) (fun _ => ?_)
    refine W_skip ?_
    change WP _ _ _ _ _ _
    refine W_region rfl ?_
    refine S_move rfl rfl rfl (v := (.int .i64 (i : Int))) (s5) ?_
    refine S_add64 rfl rfl rfl rfl (rfl) (rfl) (by omega) ?_
    refine S_assign rfl rfl rfl (v := (.int .i64 ((i : Int) + 1))) (rfl) ?_
    refine OPS.nil ?_
    exact ⟨k - 1, by omega, i + 1, s0, s1, int_eq (by omega), by omega, E⟩
  · skip
    replace hq14 := of_decide_eq_false hq14
    refine W_exit ?_
    change WP _ _ _ _ _ _
    refine W_seq ?_
    refine W_region rfl ?_
    refine S_assign rfl rfl rfl (v := (.bool true)) (rfl) ?_
    refine OPS.nil ?_
    change WP _ _ _ _ _ _
    refine W_ret ?_
    change Fin' _ _ _ _ _ _
    refine End1 (n := ⟨27, []⟩) (t := 4) rfl (by decide) (v := (.bool true)) (rfl) ?_
    exact ⟨E, rfl⟩

end Go.Proofs.YtccmicegihlfbaaGreatDoor
