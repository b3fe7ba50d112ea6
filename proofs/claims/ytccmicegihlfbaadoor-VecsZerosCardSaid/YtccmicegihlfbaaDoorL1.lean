/- So many of 0: the law. -/
import Derived.Test.YtccmicegihlfbaaDoorK6
import Derived.Test.YtccmicegihlfbaaDoorTy
set_option linter.unusedVariables false
set_option linter.unusedSimpArgs false
namespace Go.Proofs.YtccmicegihlfbaaDoor
open Go.RowKit


theorem zeros_len {es : List RV} {m : Nat} (h : qs es = List.replicate m zq) : es.length = m ∧ ∀ x ∈ es, x.q.n.length ≤ 1000000000 ∧ x.q.d.length ≤ 1000000000 := by
  refine ⟨by rw [← qs_len, h, List.length_replicate], fun x hx => ?_⟩
  have : x.q ∈ qs es := List.mem_map_of_mem hx
  rw [h] at this
  rw [(List.mem_replicate.1 this).2]
  exact ⟨by simp [zq], by simp [zq]⟩

set_option maxHeartbeats 400000 in
theorem vecsZeros_1 (w0 : World) (n : Int) (h0 : 300 < n ∧ n ≤ 65536) :
    Ret Tryd.prog 4 [.int .i64 n] w0 (fun r w1 => Below w0.heap.size w0 w1 ∧ r = .bool true) := by
  have E := Below.refl w0.heap.size w0
  refine Ret_of (n := 33) Tryd.func4 rfl rfl (Nat.le_of_ble_eq_true rfl) ?_
  refine W_seq ?_
  refine W_region rfl ?_
  refine S_assign rfl rfl rfl (v := (.bool false)) (rfl) ?_
  refine OPS.nil ?_
  change WP _ _ _ _ _ _
  refine W_seq ?_
  refine W_seq ?_
  refine W_region rfl ?_
  refine S_move rfl rfl rfl (v := .int .i64 n) (rfl) ?_
  refine S_bin rfl rfl rfl rfl rfl (rfl) (rfl) (v := .bool true) (by simp [binV]; omega) ?_
  refine S_move rfl rfl rfl (v := (.bool true)) (rfl) ?_
  refine S_move rfl rfl rfl (v := .int .i64 n) (rfl) ?_
  refine S_bin rfl rfl rfl rfl rfl (rfl) (rfl) (v := .bool true) (by simp [binV]; omega) ?_
  refine S_pick rfl rfl rfl rfl rfl (b := true) (rfl) (v := (.bool true)) (rfl) ?_
  refine OPS.nil ?_
  change WP _ _ _ _ _ _
  refine W_cond rfl (b := true) (rfl) (fun _ => ?_) (fun h => (by cases h))
  refine W_seq ?_
  refine W_region rfl ?_
  refine S_assign rfl rfl rfl (v := (.bool true)) (rfl) ?_
  refine OPS.nil ?_
  change WP _ _ _ _ _ _
  refine W_ret ?_
  change Fin' _ _ _ _ _ _
  refine End1 (n := ⟨33, []⟩) (t := 2) rfl (by decide) (v := (.bool true)) (rfl) ?_
  exact ⟨E, rfl⟩

set_option maxHeartbeats 400000 in
theorem vecsZeros_2 (w0 : World) (n : Int) (h0 : 65536 < n) :
    Ret Tryd.prog 4 [.int .i64 n] w0 (fun r w1 => Below w0.heap.size w0 w1 ∧ r = .bool true) := by
  have E := Below.refl w0.heap.size w0
  refine Ret_of (n := 33) Tryd.func4 rfl rfl (Nat.le_of_ble_eq_true rfl) ?_
  refine W_seq ?_
  refine W_region rfl ?_
  refine S_assign rfl rfl rfl (v := (.bool false)) (rfl) ?_
  refine OPS.nil ?_
  change WP _ _ _ _ _ _
  refine W_seq ?_
  refine W_seq ?_
  refine W_region rfl ?_
  refine S_move rfl rfl rfl (v := .int .i64 n) (rfl) ?_
  refine S_bin rfl rfl rfl rfl rfl (rfl) (rfl) (v := .bool true) (by simp [binV]; omega) ?_
  refine S_move rfl rfl rfl (v := (.bool true)) (rfl) ?_
  refine S_move rfl rfl rfl (v := .int .i64 n) (rfl) ?_
  refine S_bin rfl rfl rfl rfl rfl (rfl) (rfl) (v := .bool false) (by simp [binV]; omega) ?_
  refine S_pick rfl rfl rfl rfl rfl (b := true) (rfl) (v := (.bool false)) (rfl) ?_
  refine OPS.nil ?_
  change WP _ _ _ _ _ _
  refine W_cond rfl (b := false) (rfl) (fun h => (by cases h)) (fun _ => ?_)
  refine W_skip ?_
  change WP _ _ _ _ _ _
  refine W_seq ?_
  refine W_region rfl ?_
  refine S_move rfl rfl rfl (v := .int .i64 n) (rfl) ?_
  refine S_call en_vecs_Zero rfl rfl rfl (vs := [.int .i64 n]) (rfl) (vecsZero_c _ n) ?_
  rintro va w1 ⟨hB1, es1, he1, O1⟩
  have hz1 := hB1.size
  have E := Below.step E hB1
  have hb1 := O1.ovs_bk
  refine S_assign rfl rfl rfl (v := va) (rfl) ?_
  refine OPS.nil ?_
  change WP _ _ _ _ _ _
  refine W_seq ?_
  refine W_region rfl ?_
  refine S_move rfl rfl rfl (v := .int .i64 n) (rfl) ?_
  refine S_call en_vecs_Zero rfl rfl rfl (vs := [.int .i64 n]) (rfl) (vecsZero_c _ n) ?_
  rintro vb w2 ⟨hB2, es2, he2, O2⟩
  have hz2 := hB2.size
  have E := Below.step E hB2
  have O1 := O1.below hB2
  have hb2 := O2.ovs_bk
  refine S_assign rfl rfl rfl (v := vb) (rfl) ?_
  refine OPS.nil ?_
  change WP _ _ _ _ _ _
  refine W_seq ?_
  refine W_seq ?_
  refine W_region rfl ?_
  refine S_move rfl rfl rfl (v := va) (rfl) ?_
  refine S_move rfl rfl rfl (v := .int .i64 n) (rfl) ?_
  refine S_call en_assayerref04_Zero rfl rfl rfl (vs := [.int .i64 n]) (rfl) (ref04Zero_c _ n) ?_
  rintro vc w3 ⟨hB3, es3, he3, O3⟩
  have hz3 := hB3.size
  have E := Below.step E hB3
  have O1 := O1.below hB3
  have O2 := O2.below hB3
  have hb3 := O3.ovs_bk
  refine S_call en_assayerlaw01_SameRats rfl rfl rfl (vs := [va, vc]) (rfl) (sameRats_c _ _ _ es1 es3 (by rw [he1, he3]) O1.rl O3.rl) ?_
  rintro _ w4 ⟨hB4, rfl⟩
  have hz4 := hB4.size
  have E := Below.step E hB4
  have O1 := O1.below hB4
  have O2 := O2.below hB4
  have O3 := O3.below hB4
  refine S_not rfl rfl rfl (rfl) ?_
  change OPS _ _ _ _ _ (upd _ _ (.bool false)) _
  refine S_move rfl rfl rfl (v := (.bool false)) (rfl) ?_
  refine S_move rfl rfl rfl (v := vb) (rfl) ?_
  refine S_move rfl rfl rfl (v := va) (rfl) ?_
  refine S_call en_assayerlaw01_SameRats rfl rfl rfl (vs := [vb, va]) (rfl) (sameRats_c _ _ _ es2 es1 (by rw [he1, he2]) O2.rl O1.rl) ?_
  rintro _ w5 ⟨hB5, rfl⟩
  have hz5 := hB5.size
  have E := Below.step E hB5
  have O1 := O1.below hB5
  have O2 := O2.below hB5
  have O3 := O3.below hB5
  refine S_not rfl rfl rfl (rfl) ?_
  change OPS _ _ _ _ _ (upd _ _ (.bool false)) _
  refine S_pick rfl rfl rfl rfl rfl (b := false) (rfl) (v := (.bool false)) (rfl) ?_
  refine OPS.nil ?_
  change WP _ _ _ _ _ _
  refine W_cond rfl (b := false) (rfl) (fun h => (by cases h)) (fun _ => ?_)
  refine W_skip ?_
  change WP _ _ _ _ _ _
  refine W_seq ?_
  refine W_region rfl ?_
  refine S_build rfl rfl rfl (cs := [.int .i64 0, .slice none 0 0, .slice none 0 0, .slice none 0 0, .slice none 0 0, .slice none 0 0, .slice none 0 0, .slice none 0 0, .slice none 0 0, .slice none 0 0, .slice none 0 0, .slice none 0 0, .slice none 0 0]) (by kernel_rfl) ?_
  refine S_alloc ti_assayerlaw01_Book rfl rfl (cs := [.int .i64 0, .slice none 0 0, .slice none 0 0, .slice none 0 0, .slice none 0 0, .slice none 0 0, .slice none 0 0, .slice none 0 0, .slice none 0 0, .slice none 0 0, .slice none 0 0, .slice none 0 0, .slice none 0 0]) rfl ?_
  intro g6 w6 hg6 hs6 hB6 b6
  have hz6 := hB6.size
  have E := Below.step E hB6
  have O1 := O1.below hB6
  have O2 := O2.below hB6
  have O3 := O3.below hB6
  refine S_store ti_assayerlaw01_Book rfl rfl rfl rfl (g := g6) (o := 0) (rfl) (v := (.agg #[.int .i64 0, .slice none 0 0, .slice none 0 0, .slice none 0 0, .slice none 0 0, .slice none 0 0, .slice none 0 0, .slice none 0 0, .slice none 0 0, .slice none 0 0, .slice none 0 0, .slice none 0 0, .slice none 0 0])) (rfl) (vs := [.int .i64 0, .slice none 0 0, .slice none 0 0, .slice none 0 0, .slice none 0 0, .slice none 0 0, .slice none 0 0, .slice none 0 0, .slice none 0 0, .slice none 0 0, .slice none 0 0, .slice none 0 0, .slice none 0 0]) rfl rfl (by simp [Value.oneCell']) b6 (by simp) (cs' := [.int .i64 0, .slice none 0 0, .slice none 0 0, .slice none 0 0, .slice none 0 0, .slice none 0 0, .slice none 0 0, .slice none 0 0, .slice none 0 0, .slice none 0 0, .slice none 0 0, .slice none 0 0, .slice none 0 0]) rfl ?_
  intro w7 hU7 b6
  have E := Below.stepU E hU7 (by omega)
  have O1 := O1.updN hU7 (fun o ho k hk => by have := (hb1 o ho k hk).2; omega)
  have O2 := O2.updN hU7 (fun o ho k hk => by have := (hb2 o ho k hk).2; omega)
  have O3 := O3.updN hU7 (fun o ho k hk => by have := (hb3 o ho k hk).2; omega)
  have hz7 := hU7.size
  obtain ⟨hl1, hx1⟩ := zeros_len he1
  obtain ⟨hl2, hx2⟩ := zeros_len he2
  have hle1 : es1.length ≤ 300 := by rw [hl1]; split <;> omega
  have hle2 : es2.length ≤ 300 := by rw [hl2]; split <;> omega
  have HB : BK w0.heap.size g6 w7 0 (ovsR va es1 ++ ovsR vb es2) := BK.start b6 (OWN.append O1.own (O2.own.mono (by omega)) (fun a ha b hb => Dj.lt (fun g hg => (hb1 a ha g hg).2) (fun g hg => (hb2 b hb g hg).1))) (fun o ho e => by
      rcases List.mem_append.1 ho with ho | ho
      · have := (hb1 o ho _ e).2; omega
      · have := (hb2 o ho _ e).2; omega) (by omega)
  refine OPS.nil ?_
  change WP _ _ _ _ _ _
  refine W_seq ?_
  refine W_region rfl ?_
  refine S_move rfl rfl rfl (v := va) (rfl) ?_
  refine S_call en_passayerlaw01_Book_Rats rfl rfl rfl (vs := [(.pointer (some ⟨g6, 0, none⟩)), va]) (rfl) (bookRats_c _ _ 0 va es1 (ovsR vb es2) HB (by omega) hx1) ?_
  rintro _ w8 ⟨hT, HB⟩
  have E := E.trans hT
  refine OPS.nil ?_
  change WP _ _ _ _ _ _
  refine W_seq ?_
  refine W_region rfl ?_
  refine S_move rfl rfl rfl (v := vb) (rfl) ?_
  refine S_call en_passayerlaw01_Book_Rats rfl rfl rfl (vs := [(.pointer (some ⟨g6, 0, none⟩)), vb]) (rfl) (bookRats_c _ _ (0 + 2 * es1.length + 1) vb es2 [] (by rw [List.append_nil]; exact HB) (by omega) hx2) ?_
  rintro _ w9 ⟨hT, HB⟩
  have E := E.trans hT
  refine OPS.nil ?_
  change WP _ _ _ _ _ _
  refine W_seq ?_
  refine W_region rfl ?_
  refine S_call en_passayerlaw01_Book_Apart rfl rfl rfl (vs := [(.pointer (some ⟨g6, 0, none⟩))]) (rfl) (apart_c _ _ _ _ HB) ?_
  rintro _ w10 ⟨hT, rfl⟩
  have E := E.trans hT
  refine S_assign rfl rfl rfl (v := (.bool true)) (rfl) ?_
  refine OPS.nil ?_
  change WP _ _ _ _ _ _
  refine W_ret ?_
  change Fin' _ _ _ _ _ _
  refine End1 (n := ⟨33, []⟩) (t := 2) rfl (by decide) (v := (.bool true)) (rfl) ?_
  exact ⟨E, rfl⟩

set_option maxHeartbeats 400000 in
theorem vecsZeros_3 (w0 : World) (n : Int) (h0 : n ≤ 300) :
    Ret Tryd.prog 4 [.int .i64 n] w0 (fun r w1 => Below w0.heap.size w0 w1 ∧ r = .bool true) := by
  have E := Below.refl w0.heap.size w0
  refine Ret_of (n := 33) Tryd.func4 rfl rfl (Nat.le_of_ble_eq_true rfl) ?_
  refine W_seq ?_
  refine W_region rfl ?_
  refine S_assign rfl rfl rfl (v := (.bool false)) (rfl) ?_
  refine OPS.nil ?_
  change WP _ _ _ _ _ _
  refine W_seq ?_
  refine W_seq ?_
  refine W_region rfl ?_
  refine S_move rfl rfl rfl (v := .int .i64 n) (rfl) ?_
  refine S_bin rfl rfl rfl rfl rfl (rfl) (rfl) (v := .bool false) (by simp [binV]; omega) ?_
  refine S_move rfl rfl rfl (v := (.bool false)) (rfl) ?_
  refine S_skip (d := 9) (op := .move _) (gd := some (2, true)) rfl (wg_off rfl (rfl) rfl) ?_
  refine S_skip (d := 10) (op := .binOp _ _ _ _ _) (gd := some (2, true)) rfl (wg_off rfl (rfl) rfl) ?_
  refine S_pick rfl rfl rfl rfl rfl (b := false) (rfl) (v := (.bool false)) (rfl) ?_
  refine OPS.nil ?_
  change WP _ _ _ _ _ _
  refine W_cond rfl (b := false) (rfl) (fun h => (by cases h)) (fun _ => ?_)
  refine W_skip ?_
  change WP _ _ _ _ _ _
  refine W_seq ?_
  refine W_region rfl ?_
  refine S_move rfl rfl rfl (v := .int .i64 n) (rfl) ?_
  refine S_call en_vecs_Zero rfl rfl rfl (vs := [.int .i64 n]) (rfl) (vecsZero_c _ n) ?_
  rintro va w1 ⟨hB1, es1, he1, O1⟩
  have hz1 := hB1.size
  have E := Below.step E hB1
  have hb1 := O1.ovs_bk
  refine S_assign rfl rfl rfl (v := va) (rfl) ?_
  refine OPS.nil ?_
  change WP _ _ _ _ _ _
  refine W_seq ?_
  refine W_region rfl ?_
  refine S_move rfl rfl rfl (v := .int .i64 n) (rfl) ?_
  refine S_call en_vecs_Zero rfl rfl rfl (vs := [.int .i64 n]) (rfl) (vecsZero_c _ n) ?_
  rintro vb w2 ⟨hB2, es2, he2, O2⟩
  have hz2 := hB2.size
  have E := Below.step E hB2
  have O1 := O1.below hB2
  have hb2 := O2.ovs_bk
  refine S_assign rfl rfl rfl (v := vb) (rfl) ?_
  refine OPS.nil ?_
  change WP _ _ _ _ _ _
  refine W_seq ?_
  refine W_seq ?_
  refine W_region rfl ?_
  refine S_move rfl rfl rfl (v := va) (rfl) ?_
  refine S_move rfl rfl rfl (v := .int .i64 n) (rfl) ?_
  refine S_call en_assayerref04_Zero rfl rfl rfl (vs := [.int .i64 n]) (rfl) (ref04Zero_c _ n) ?_
  rintro vc w3 ⟨hB3, es3, he3, O3⟩
  have hz3 := hB3.size
  have E := Below.step E hB3
  have O1 := O1.below hB3
  have O2 := O2.below hB3
  have hb3 := O3.ovs_bk
  refine S_call en_assayerlaw01_SameRats rfl rfl rfl (vs := [va, vc]) (rfl) (sameRats_c _ _ _ es1 es3 (by rw [he1, he3]) O1.rl O3.rl) ?_
  rintro _ w4 ⟨hB4, rfl⟩
  have hz4 := hB4.size
  have E := Below.step E hB4
  have O1 := O1.below hB4
  have O2 := O2.below hB4
  have O3 := O3.below hB4
  refine S_not rfl rfl rfl (rfl) ?_
  change OPS _ _ _ _ _ (upd _ _ (.bool false)) _
  refine S_move rfl rfl rfl (v := (.bool false)) (rfl) ?_
  refine S_move rfl rfl rfl (v := vb) (rfl) ?_
  refine S_move rfl rfl rfl (v := va) (rfl) ?_
  refine S_call en_assayerlaw01_SameRats rfl rfl rfl (vs := [vb, va]) (rfl) (sameRats_c _ _ _ es2 es1 (by rw [he1, he2]) O2.rl O1.rl) ?_
  rintro _ w5 ⟨hB5, rfl⟩
  have hz5 := hB5.size
  have E := Below.step E hB5
  have O1 := O1.below hB5
  have O2 := O2.below hB5
  have O3 := O3.below hB5
  refine S_not rfl rfl rfl (rfl) ?_
  change OPS _ _ _ _ _ (upd _ _ (.bool false)) _
  refine S_pick rfl rfl rfl rfl rfl (b := false) (rfl) (v := (.bool false)) (rfl) ?_
  refine OPS.nil ?_
  change WP _ _ _ _ _ _
  refine W_cond rfl (b := false) (rfl) (fun h => (by cases h)) (fun _ => ?_)
  refine W_skip ?_
  change WP _ _ _ _ _ _
  refine W_seq ?_
  refine W_region rfl ?_
  refine S_build rfl rfl rfl (cs := [.int .i64 0, .slice none 0 0, .slice none 0 0, .slice none 0 0, .slice none 0 0, .slice none 0 0, .slice none 0 0, .slice none 0 0, .slice none 0 0, .slice none 0 0, .slice none 0 0, .slice none 0 0, .slice none 0 0]) (by kernel_rfl) ?_
  refine S_alloc ti_assayerlaw01_Book rfl rfl (cs := [.int .i64 0, .slice none 0 0, .slice none 0 0, .slice none 0 0, .slice none 0 0, .slice none 0 0, .slice none 0 0, .slice none 0 0, .slice none 0 0, .slice none 0 0, .slice none 0 0, .slice none 0 0, .slice none 0 0]) rfl ?_
  intro g6 w6 hg6 hs6 hB6 b6
  have hz6 := hB6.size
  have E := Below.step E hB6
  have O1 := O1.below hB6
  have O2 := O2.below hB6
  have O3 := O3.below hB6
  refine S_store ti_assayerlaw01_Book rfl rfl rfl rfl (g := g6) (o := 0) (rfl) (v := (.agg #[.int .i64 0, .slice none 0 0, .slice none 0 0, .slice none 0 0, .slice none 0 0, .slice none 0 0, .slice none 0 0, .slice none 0 0, .slice none 0 0, .slice none 0 0, .slice none 0 0, .slice none 0 0, .slice none 0 0])) (rfl) (vs := [.int .i64 0, .slice none 0 0, .slice none 0 0, .slice none 0 0, .slice none 0 0, .slice none 0 0, .slice none 0 0, .slice none 0 0, .slice none 0 0, .slice none 0 0, .slice none 0 0, .slice none 0 0, .slice none 0 0]) rfl rfl (by simp [Value.oneCell']) b6 (by simp) (cs' := [.int .i64 0, .slice none 0 0, .slice none 0 0, .slice none 0 0, .slice none 0 0, .slice none 0 0, .slice none 0 0, .slice none 0 0, .slice none 0 0, .slice none 0 0, .slice none 0 0, .slice none 0 0, .slice none 0 0]) rfl ?_
  intro w7 hU7 b6
  have E := Below.stepU E hU7 (by omega)
  have O1 := O1.updN hU7 (fun o ho k hk => by have := (hb1 o ho k hk).2; omega)
  have O2 := O2.updN hU7 (fun o ho k hk => by have := (hb2 o ho k hk).2; omega)
  have O3 := O3.updN hU7 (fun o ho k hk => by have := (hb3 o ho k hk).2; omega)
  have hz7 := hU7.size
  obtain ⟨hl1, hx1⟩ := zeros_len he1
  obtain ⟨hl2, hx2⟩ := zeros_len he2
  have hle1 : es1.length ≤ 300 := by rw [hl1]; split <;> omega
  have hle2 : es2.length ≤ 300 := by rw [hl2]; split <;> omega
  have HB : BK w0.heap.size g6 w7 0 (ovsR va es1 ++ ovsR vb es2) := BK.start b6 (OWN.append O1.own (O2.own.mono (by omega)) (fun a ha b hb => Dj.lt (fun g hg => (hb1 a ha g hg).2) (fun g hg => (hb2 b hb g hg).1))) (fun o ho e => by
      rcases List.mem_append.1 ho with ho | ho
      · have := (hb1 o ho _ e).2; omega
      · have := (hb2 o ho _ e).2; omega) (by omega)
  refine OPS.nil ?_
  change WP _ _ _ _ _ _
  refine W_seq ?_
  refine W_region rfl ?_
  refine S_move rfl rfl rfl (v := va) (rfl) ?_
  refine S_call en_passayerlaw01_Book_Rats rfl rfl rfl (vs := [(.pointer (some ⟨g6, 0, none⟩)), va]) (rfl) (bookRats_c _ _ 0 va es1 (ovsR vb es2) HB (by omega) hx1) ?_
  rintro _ w8 ⟨hT, HB⟩
  have E := E.trans hT
  refine OPS.nil ?_
  change WP _ _ _ _ _ _
  refine W_seq ?_
  refine W_region rfl ?_
  refine S_move rfl rfl rfl (v := vb) (rfl) ?_
  refine S_call en_passayerlaw01_Book_Rats rfl rfl rfl (vs := [(.pointer (some ⟨g6, 0, none⟩)), vb]) (rfl) (bookRats_c _ _ (0 + 2 * es1.length + 1) vb es2 [] (by rw [List.append_nil]; exact HB) (by omega) hx2) ?_
  rintro _ w9 ⟨hT, HB⟩
  have E := E.trans hT
  refine OPS.nil ?_
  change WP _ _ _ _ _ _
  refine W_seq ?_
  refine W_region rfl ?_
  refine S_call en_passayerlaw01_Book_Apart rfl rfl rfl (vs := [(.pointer (some ⟨g6, 0, none⟩))]) (rfl) (apart_c _ _ _ _ HB) ?_
  rintro _ w10 ⟨hT, rfl⟩
  have E := E.trans hT
  refine S_assign rfl rfl rfl (v := (.bool true)) (rfl) ?_
  refine OPS.nil ?_
  change WP _ _ _ _ _ _
  refine W_ret ?_
  change Fin' _ _ _ _ _ _
  refine End1 (n := ⟨33, []⟩) (t := 2) rfl (by decide) (v := (.bool true)) (rfl) ?_
  exact ⟨E, rfl⟩


theorem vecsZeros_c (w0 : World) (n : Int) : Ret Tryd.prog 4 [.int .i64 n] w0 (fun r w1 => Below w0.heap.size w0 w1 ∧ r = .bool true) := by
  by_cases h1 : n ≤ 300
  · exact vecsZeros_3 w0 n h1
  · by_cases h2 : n ≤ 65536
    · exact vecsZeros_1 w0 n (by omega)
    · exact vecsZeros_2 w0 n (by omega)

end Go.Proofs.YtccmicegihlfbaaDoor
