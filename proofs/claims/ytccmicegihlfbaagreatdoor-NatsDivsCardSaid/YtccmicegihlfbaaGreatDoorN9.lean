/- The order of two numbers from 0 on. -/
import Derived.Test.YtccmicegihlfbaaGreatDoorRange
import Derived.Test.YtccmicegihlfbaaGreatDoorTy
import Derived.Test.YtccmicegihlfbaaGreatDoorPG
import Derived.Test.YtccmicegihlfbaaGreatDoorApp
set_option linter.unusedVariables false
set_option linter.unusedSimpArgs false
namespace Go.Proofs.YtccmicegihlfbaaGreatDoor
open Go.RowKit


theorem cells_of_cell {w : World} {a : Addr} {v : Value} (h : w.cell? a = some v) : ∃ o, w.heap[a.block]? = some o ∧ o.isCells = true := by
  unfold World.cell? at h
  cases hb : w.heap[a.block]? with
  | none => rw [hb] at h; cases h
  | some o => cases o <;> simp only [hb] at h <;> first | exact ⟨_, rfl, rfl⟩ | cases h
theorem cell_kept {w w' : World} {g : Nat → Prop} {a : Addr} {v : Value} (h : w.cell? a = some v) (hk : Keeps g w w') (hg : ¬ g a.block) : w'.cell? a = some v := by
  obtain ⟨o, h1, h2⟩ := cells_of_cell h
  exact (World.cell?_of_block ((hk.2 _ _ hg h1 h2).trans h1.symm)).trans h
theorem RN.kept {G : Nat} {w w' : World} {v : Value} {l : List Int} (h : RN G (G + 1) w v l) (hk : Keeps (fun k => k = G) w w') : RN G (G + 1) w' v l := by
  obtain ⟨hu, A, c, hv, h1, h2, h3⟩ := h
  refine ⟨hu, A, c, hv, h1, h2, fun j hj => ?_⟩
  obtain ⟨ad, hA, hb, hc⟩ := h3 j hj
  exact ⟨ad, hA, hb, cell_kept hc hk (by rw [add_block]; omega)⟩
theorem Blk.kept {G g : Nat} {w w' : World} {cs : List Value} {t : TypeId} (h : Blk w g cs t) (hk : Keeps (fun k => k = G) w w') (hg : g ≠ G) : Blk w' g cs t := ⟨hk.2 _ _ hg h.at_ rfl⟩
theorem grown_of_below {w w' : World} (h : Below w.heap.size w w') : w.grownBy w' none := ⟨h.os, h.tape, h.output, h.size, fun k hk _ => h.block k hk⟩
theorem blk_own {B g : Nat} {W W' : World} {cs : List Value} {t : TypeId} {row : Option Nat} (h : Blk W g cs t) (hg : W.grownBy W' row) (hr : ∀ r, row = some r → B ≤ r ∧ ∃ o : Obj, W.heap[r]? = some o ∧ o.isCells = false) : Blk W' g cs t :=
  h.grown hg (fun e => by
    obtain ⟨_, o, ho, hc⟩ := hr _ e.symm
    have := h.at_
    rw [ho] at this
    cases this
    cases hc)
theorem below_own {B n0 : Nat} {w0 W W' : World} {row : Option Nat} (h : Below n0 w0 W) (hn : n0 ≤ w0.heap.size) (hg : W.grownBy W' row) (hr : ∀ r, row = some r → B ≤ r ∧ ∃ o : Obj, W.heap[r]? = some o ∧ o.isCells = false) (hB : n0 ≤ B) : Below n0 w0 W' :=
  h.grown hg (Nat.le_trans hn h.size) (fun k e => Nat.le_trans hB (hr k e).1)
theorem RN.cells {a b : Nat} {w : World} {v : Value} {l : List Int} (h : RN a b w v l) : v.cells.toList = [v] := by
  obtain ⟨A, c, rfl, _⟩ := h.form
  rfl
/-- The numbers below N, the highest first: so many of them. -/
def upL (N j : Nat) : List Nat := (List.range j).map fun t => N - 1 - t
theorem upL_succ (N j : Nat) : upL N (j + 1) = upL N j ++ [N - 1 - j] := by simp [upL, List.range_succ]
theorem upL_len (N j : Nat) : (upL N j).length = j := by simp [upL]
theorem mem_upL {N j x : Nat} (h : x ∈ upL N j) : x < N ∨ N = 0 := by
  simp only [upL, List.mem_map, List.mem_range] at h
  obtain ⟨t, _, rfl⟩ := h
  omega

set_option maxHeartbeats 400000 in
theorem pairs1_c (w0 : World) {G ga gb l N : Nat} {va vb : Value} {la lb : List Int} (hN : N = max la.length lb.length) (ha : RN G (G + 1) w0 va la) (hb : RN G (G + 1) w0 vb lb) (bA : Blk w0 ga [va] 23) (bB : Blk w0 gb [vb] 23) (hga : ga ≠ G) (hgb : gb ≠ G)
    {J Jx : List Nat → World → Prop} (hJ : AbidesFrom w0.heap.size J)
    (hY : ∀ pre x W1, J pre W1 → pre.length < N → YieldAt Fence.wide 3 Tryz.prog l #[.int .u64 (atN la ((x : Nat) : Int)), .int .u64 (atN lb ((x : Nat) : Int))] W1 fun e W' =>
      (e = .returned (.bool true) ∧ J (pre ++ [x]) W' ∧ Keeps (fun k => k = G) W1 W') ∨ (e = .returned (.bool false) ∧ Jx (pre ++ [x]) W')) (hJ_ : J [] w0) :
    Ret Tryz.prog 250 [.func (.yield l) #[] #[], (.pointer (some ⟨ga, 0, none⟩)), (.pointer (some ⟨gb, 0, none⟩))] w0 (fun r W' => (∃ xs, xs = upL N N ∧ J xs W') ∨ ∃ pre, (∃ j, j < N ∧ pre = upL N (j + 1)) ∧ Jx pre W') := by
  have K : Keeps (fun k => k = G) w0 w0 := Keeps.below (Below.refl _ _)
  have hma := ha.maxl
  have hmb := hb.maxl
  refine Ret_of (n := 24) Tryz.func250 rfl rfl (Nat.le_of_ble_eq_true rfl) ?_
  refine W_seq ?_
  refine W_region rfl ?_
  refine S_load rfl rfl rfl (rfl) (LD.blk1 ti_api_Nat bA (v := va) rfl) ?_
  refine S_len Tryz.underlying23 rfl rfl rfl (rfl) (m := la.length) ((ha.kept K).len) ?_
  refine S_load rfl rfl rfl (rfl) (LD.blk1 ti_api_Nat bB (v := vb) rfl) ?_
  refine S_len Tryz.underlying23 rfl rfl rfl (rfl) (m := lb.length) ((hb.kept K).len) ?_
  refine S_max rfl rfl rfl rfl (rfl) (rfl) (v := (N : Int)) (by rw [hN]; omega) ?_
  refine S_sub64 rfl rfl rfl rfl (rfl) (rfl) (by omega) ?_
  refine S_assign rfl rfl rfl (v := (.int .i64 ((N : Int) - 1))) (rfl) ?_
  refine OPS.nil ?_
  change WP _ _ _ _ _ _
  refine W_block ?_
  refine W_loop (fun k σ w => σ 0 = .func (.yield l) #[] #[] ∧ σ 1 = .pointer (some ⟨ga, 0, none⟩) ∧ σ 2 = .pointer (some ⟨gb, 0, none⟩) ∧ σ 4 = .int .i64 ((k : Int) - 1) ∧ k ≤ N ∧ Keeps (fun k => k = G) w0 w ∧ J (upL N (N - k)) w) (N) ⟨rfl, rfl, rfl, rfl, Nat.le_refl _, K, by rw [Nat.sub_self]; exact hJ_⟩ ?_
  rintro k σ w ⟨s0, s1, s2, s4, hkN, K, hJ_⟩
  have bA := bA.kept K hga
  have bB := bB.kept K hgb
  replace hJ : AbidesFrom w0.heap.size J := hJ
  refine W_seq ?_
  refine W_seq ?_
  refine W_region rfl ?_
  refine S_move rfl rfl rfl (v := (.int .i64 ((k : Int) - 1))) (s4) ?_
  refine S_bin rfl rfl rfl rfl rfl (rfl) (rfl) rfl ?_
  refine OPS.nil ?_
  change WP _ _ _ _ _ _
  refine W_cond rfl (rfl) (fun hq12 => ?_) (fun hq12 => ?_)
  · skip
    have hcd0 := hq12
    replace hq12 := of_decide_eq_true hq12
    have e1 : ((k : Int) - 1) = ((k - 1 : Nat) : Int) := by omega
    refine W_skip ?_
    change WP _ _ _ _ _ _
    refine W_seq ?_
    refine W_block ?_
    refine W_seq ?_
    refine D_begin_ mixed_ rfl rfl ?_
    intro w1 hB1 hz_1
    have hz1 := hB1.size
    have hl_bA := bA.lt
    have bA := bA.below hB1
    have hl_bB := bB.lt
    have bB := bB.below hB1
    have K := K.t (Keeps.below hB1)
    have hJ_ := hJ _ _ _ none hJ_ (grown_of_below hB1) (fun r e => by cases e)
    have hS_ : Below w1.heap.size w1 w1 := Below.refl _ _
    have bA_S := bA
    have bB_S := bB
    have K_S := K
    have hJ__S := hJ_
    refine D_move (i := 0) (by kernel_rfl) (by kernel_rfl) (by kernel_rfl) (listed2 := #[true, false, false, false, false, false, false, false, false]) (by kernel_rfl) rfl rfl rfl (v := (.func (.yield l) #[] #[])) (s0) hS_ ?_
    refine D_load (i := 1) (by kernel_rfl) (by kernel_rfl) (by kernel_rfl) (listed2 := #[true, true, false, false, false, false, false, false, false]) (by kernel_rfl) rfl rfl rfl (s1) (fun _ hS2 => LD.blk1 ti_api_Nat (bA_S.below hS2) (v := va) rfl) hS_ ?_
    refine D_move (i := 2) (by kernel_rfl) (by kernel_rfl) (by kernel_rfl) (listed2 := #[true, true, true, false, false, false, false, false, false]) (by kernel_rfl) rfl rfl rfl (v := (.int .i64 ((k : Int) - 1))) (s4) hS_ ?_
    refine D_load (i := 4) (by kernel_rfl) (by kernel_rfl) (by kernel_rfl) (listed2 := #[true, true, true, false, true, false, false, false, false]) (by kernel_rfl) rfl rfl rfl (s2) (fun _ hS2 => LD.blk1 ti_api_Nat (bB_S.below hS2) (v := vb) rfl) hS_ ?_
    refine D_move (i := 5) (by kernel_rfl) (by kernel_rfl) (by kernel_rfl) (listed2 := #[true, true, true, false, true, true, false, false, false]) (by kernel_rfl) rfl rfl rfl (v := (.int .i64 ((k : Int) - 1))) (s4) hS_ ?_
    refine D_only (i := 3) (by kernel_rfl) (listed2 := #[true, true, true, true, true, true, false, false, false]) (by kernel_rfl) ?_
    refine S_call en_nats_at rfl rfl rfl (vs := [va, (.int .i64 ((k : Int) - 1))]) (rfl) (natsAt_c _ _ la _ (ha.kept K)) ?_
    rintro _ _ ⟨rfl, rfl⟩
    refine OPS.nil ⟨hS_, ?_⟩
    refine D_only (i := 6) (by kernel_rfl) (listed2 := #[true, true, true, true, true, true, true, false, false]) (by kernel_rfl) ?_
    refine S_call en_nats_at rfl rfl rfl (vs := [vb, (.int .i64 ((k : Int) - 1))]) (rfl) (natsAt_c _ _ lb _ (hb.kept K)) ?_
    rintro _ _ ⟨rfl, rfl⟩
    refine OPS.nil ⟨hS_, ?_⟩
    refine D_last (i := 7) (f := 9) (by kernel_rfl) (by kernel_rfl) (listed2 := #[true, true, true, true, true, true, true, true, false]) (by kernel_rfl) ?_
    refine S_yield rfl rfl rfl rfl (rfl) (vs := [(.int .u64 (atN la ((k - 1 : Nat) : Int))), (.int .u64 (atN lb ((k - 1 : Nat) : Int)))]) (args2 (int_eq (congrArg (atN la) e1)) (int_eq (congrArg (atN lb) e1))) (hY _ (k - 1) _ hJ_ (by rw [upL_len]; omega)) ?_
    rintro e w2 (⟨rfl, hJ2, hK2⟩ | ⟨rfl, hJ2⟩)
    · skip
      refine ⟨_, rfl, ?_⟩
      have K := K.t hK2
      refine OPS.nil ?_
      refine D_last (i := 8) (f := 9) (by kernel_rfl) (by kernel_rfl) (listed2 := #[true, true, true, true, true, true, true, true, true]) (by kernel_rfl) ?_
      refine S_not rfl rfl rfl (rfl) ?_
      change OPS _ _ _ _ _ (upd _ _ (.bool false)) _
      refine OPS.nil ?_
      refine D_done (by kernel_rfl) ?_
      change WP _ _ _ _ _ _
      refine W_cond rfl (b := false) (rfl) (fun h => (by cases h)) (fun _ => ?_)
      refine W_skip ?_
      change WP _ _ _ _ _ _
      refine W_region rfl ?_
      refine S_move rfl rfl rfl (v := (.int .i64 ((k : Int) - 1))) (s4) ?_
      refine S_sub64 rfl rfl rfl rfl (rfl) (rfl) (by omega) ?_
      refine S_assign rfl rfl rfl (v := (.int .i64 (((k : Int) - 1) - 1))) (rfl) ?_
      refine OPS.nil ?_
      exact ⟨k - 1, by omega, s0, s1, s2, int_eq (by omega), by omega, K, by rw [show N - (k - 1) = N - k + 1 by omega, upL_succ, show N - 1 - (N - k) = k - 1 by omega]; exact hJ2⟩
    · skip
      refine ⟨_, rfl, ?_⟩
      refine OPS.nil ?_
      refine D_last (i := 8) (f := 9) (by kernel_rfl) (by kernel_rfl) (listed2 := #[true, true, true, true, true, true, true, true, true]) (by kernel_rfl) ?_
      refine S_not rfl rfl rfl (rfl) ?_
      change OPS _ _ _ _ _ (upd _ _ (.bool true)) _
      refine OPS.nil ?_
      refine D_done (by kernel_rfl) ?_
      change WP _ _ _ _ _ _
      refine W_cond rfl (b := true) (rfl) (fun _ => ?_) (fun h => (by cases h))
      refine W_ret ?_
      change Fin' _ _ _ _ _ _
      refine End0 rfl ?_
      exact .inr ⟨upL N (N - k + 1), ⟨_, by omega, rfl⟩, by rw [upL_succ, show N - 1 - (N - k) = k - 1 by omega]; exact hJ2⟩
  · skip
    have hcd1 := hq12
    replace hq12 := of_decide_eq_false hq12
    refine W_exit ?_
    change Fin' _ _ _ _ _ _
    refine End0 rfl ?_
    have hk0 : N - k = N := by omega
    rw [hk0] at hJ_
    exact .inl ⟨_, rfl, hJ_⟩


theorem pairs_stops (w : World) {G ga gb N : Nat} {va vb : Value} {la lb : List Int} (hN : N = max la.length lb.length) (ha : RN G (G + 1) w va la) (hb : RN G (G + 1) w vb lb) (bA : Blk w ga [va] 23) (bB : Blk w gb [vb] 23) (hga : ga ≠ G) (hgb : gb ≠ G) :
    SeqStopsK Fence.wide 3 Tryz.prog 250 [.pointer (some ⟨ga, 0, none⟩), .pointer (some ⟨gb, 0, none⟩)].toArray (fun x : Nat => #[.int .u64 (atN la ((x : Nat) : Int)), .int .u64 (atN lb ((x : Nat) : Int))]) (Keeps (fun k => k = G))
      (fun xs => xs = upL N N) (fun pre => ∃ j, j < N ∧ pre = upL N (j + 1)) N w := fun l J Jx W hB hJ hJx hY h0 => by
  refine callsIn_wide.2 ?_
  have := pairs1_c W hN (ha.below hB) (hb.below hB) (bA.below hB) (bB.below hB) hga hgb hJ (fun pre x W1 h1 h2 => yieldAt_any (hY pre x W1 h1 h2)) h0
  refine Calls.mono this ?_
  rintro e w' ⟨v, rfl, h⟩
  exact ⟨⟨v, rfl⟩, h⟩

set_option maxHeartbeats 400000 in
theorem pairs_c (w0 : World) (va vb : Value) (h1 : va.cells.toList = [va]) (h2 : vb.cells.toList = [vb]) :
    Ret Tryz.prog 206 [va, vb] w0 (fun r w1 => Below w0.heap.size w0 w1 ∧ ∃ ga gb, r = .func (.func 250) #[] [.pointer (some ⟨ga, 0, none⟩), .pointer (some ⟨gb, 0, none⟩)].toArray ∧ w0.heap.size ≤ ga ∧ ga < gb ∧ Blk w1 ga [va] 23 ∧ Blk w1 gb [vb] 23) := by
  have E := Below.refl w0.heap.size w0
  refine Ret_of (n := 6) Tryz.func206 rfl rfl (Nat.le_of_ble_eq_true rfl) ?_
  refine W_seq ?_
  refine W_region rfl ?_
  refine S_box rfl rfl rfl (v := va) (rfl) (cs := [va]) h1 ?_
  intro g1 w1 hg1 hs1 hB1 b1
  have hz1 := hB1.size
  have E := Below.step E hB1
  refine S_box rfl rfl rfl (v := vb) (rfl) (cs := [vb]) h2 ?_
  intro g2 w2 hg2 hs2 hB2 b2
  have hz2 := hB2.size
  have E := Below.step E hB2
  have hl_b1 := b1.lt
  have b1 := b1.below hB2
  refine S_assign rfl rfl rfl (v := _) (rfl) ?_
  refine OPS.nil ?_
  change WP _ _ _ _ _ _
  refine W_seq ?_
  refine W_region rfl ?_
  refine S_makeFunc rfl rfl rfl (vs := [(.pointer (some ⟨g1, 0, none⟩)), (.pointer (some ⟨g2, 0, none⟩))]) (rfl) ?_
  refine S_assign rfl rfl rfl (v := (.func (.func 250) #[] [(.pointer (some ⟨g1, 0, none⟩)), (.pointer (some ⟨g2, 0, none⟩))].toArray)) (rfl) ?_
  refine OPS.nil ?_
  change WP _ _ _ _ _ _
  refine W_ret ?_
  change Fin' _ _ _ _ _ _
  refine End1 (n := ⟨6, []⟩) (t := 4) rfl (by decide) (v := (.func (.func 250) #[] [(.pointer (some ⟨g1, 0, none⟩)), (.pointer (some ⟨g2, 0, none⟩))].toArray)) (rfl) ?_
  exact ⟨E, g1, g2, rfl, by omega, by omega, b1, b2⟩


theorem cmp_all {la lb : List Int} {N : Nat} (hN : N = max la.length lb.length) (h : ∀ y ∈ upL N N, atN la ((y : Nat) : Int) = atN lb ((y : Nat) : Int)) : val la = val lb := by
  have h2 : ∀ k, k ≤ N → val (la.drop (N - k)) = val (lb.drop (N - k)) := by
    intro k
    induction k with
    | zero => intro _; rw [List.drop_of_length_le (by omega), List.drop_of_length_le (by omega)]
    | succ k ih =>
      intro hk
      refine drop_eq_step _ (by rw [show N - (k + 1) + 1 = N - k by omega]; exact ih (by omega)) ?_
      have := h (N - (k + 1)) (by simp only [upL, List.mem_map, List.mem_range]; exact ⟨k, by omega, by omega⟩)
      rwa [atN_nat, atN_nat] at this
  have := h2 N (Nat.le_refl _)
  simpa using this
theorem cmp_part {la lb : List Int} {N j : Nat} (hN : N = max la.length lb.length) (hj : j < N) (h : ∀ y ∈ upL N j, atN la ((y : Nat) : Int) = atN lb ((y : Nat) : Int)) : val (la.drop (N - 1 - j + 1)) = val (lb.drop (N - 1 - j + 1)) := by
  have h2 : ∀ k, k ≤ j → val (la.drop (N - k)) = val (lb.drop (N - k)) := by
    intro k
    induction k with
    | zero => intro _; rw [List.drop_of_length_le (by omega), List.drop_of_length_le (by omega)]
    | succ k ih =>
      intro hk
      refine drop_eq_step _ (by rw [show N - (k + 1) + 1 = N - k by omega]; exact ih (by omega)) ?_
      have := h (N - (k + 1)) (by simp only [upL, List.mem_map, List.mem_range]; exact ⟨k, by omega, by omega⟩)
      rwa [atN_nat, atN_nat] at this
  rw [show N - 1 - j + 1 = N - j by omega]
  exact h2 j (Nat.le_refl _)
theorem cmp_stop {la lb : List Int} {N j : Nat} {pre : List Nat} {x : Nat} (hu : U32 la) (hv : U32 lb) (hN : N = max la.length lb.length) (hj : j < N) (hp : upL N (j + 1) = pre ++ [x]) (h : ∀ y ∈ pre, atN la ((y : Nat) : Int) = atN lb ((y : Nat) : Int))
    (hx : atN la ((x : Nat) : Int) ≠ atN lb ((x : Nat) : Int)) : cmpN (val la) (val lb) = if atN la ((x : Nat) : Int) < atN lb ((x : Nat) : Int) then -1 else 1 := by
  rw [upL_succ] at hp
  obtain ⟨rfl, h1⟩ := List.append_inj' hp rfl
  simp only [List.cons.injEq, and_true] at h1
  subst h1
  have h2 := cmp_part hN hj h
  have ha := hu.getD (N - 1 - j)
  have hb := hv.getD (N - 1 - j)
  rw [atN_nat, atN_nat] at hx ⊢
  split
  · exact cmpN_lt (cmp_lt hu _ h2 (by omega))
  · exact cmpN_gt (cmp_lt hv _ h2.symm (by omega))

set_option maxHeartbeats 400000 in
theorem natsCmp_c (w0 : World) (va vb : Value) (la lb : List Int) {a b a' b' : Nat} (ha : RN a b w0 va la) (hb : RN a' b' w0 vb lb) :
    Ret Tryz.prog 93 [va, vb] w0 (fun r w1 => Below w0.heap.size w0 w1 ∧ r = .int .i64 (cmpN (nv la) (nv lb))) := by
  have E := Below.refl w0.heap.size w0
  obtain ⟨N, hN⟩ : ∃ N, N = max (fineL la).length (fineL lb).length := ⟨_, rfl⟩
  refine Ret_marks (n := 20) Tryz.func93 rfl rfl (Nat.le_of_ble_eq_true rfl) ?_
  refine X_seq ?_
  refine X_region rfl ?_
  refine S_alloc ti_int rfl rfl (cs := [.int .i64 0]) rfl ?_
  intro g1 w1 hg1 hs1 hB1 b1
  have hz1 := hB1.size
  have E := Below.step E hB1
  refine OPS.nil ?_
  change WPR _ _ _ _ _
  refine X_seq ?_
  refine X_seq ?_
  refine X_region rfl ?_
  refine S_move rfl rfl rfl (v := va) (rfl) ?_
  refine S_call en_nats_fine rfl rfl rfl (vs := [va]) (rfl) (natsFine_c _ _ la (ha.below E)) ?_
  rintro _ _ ⟨rfl, rfl⟩
  refine S_move rfl rfl rfl (v := vb) (rfl) ?_
  refine S_call en_nats_fine rfl rfl rfl (vs := [vb]) (rfl) (natsFine_c _ _ lb (hb.below E)) ?_
  rintro _ _ ⟨rfl, rfl⟩
  refine S_call en_nats_pairs rfl rfl rfl (vs := [(if okL la then va else .slice none 0 0), (if okL lb then vb else .slice none 0 0)]) (rfl) (pairs_c _ _ _ (ha.fine.cells) (hb.fine.cells)) ?_
  rintro _ w2 ⟨hB2, ga, gb, rfl, hga, hgb, bA, bB⟩
  have hz2 := hB2.size
  have E := Below.step E hB2
  have hl_b1 := b1.lt
  have b1 := b1.below hB2
  refine OPS.nil ?_
  change WPR _ _ _ _ _
  refine X_block ?_
  have hfa : RN g1 (g1 + 1) w2 (if okL la then va else .slice none 0 0) (fineL la) := (((ha.new (a' := g1) (b' := g1 + 1) (by omega)).below E)).fine
  have hfb : RN g1 (g1 + 1) w2 (if okL lb then vb else .slice none 0 0) (fineL lb) := (((hb.new (a' := g1) (b' := g1 + 1) (by omega)).below E)).fine
  refine X_range rfl (rfl) en_nats_pairs_1 (e1 := fun x => (.int .u64 (atN (fineL la) ((x : Nat) : Int)))) (e2 := fun x => (.int .u64 (atN (fineL lb) ((x : Nat) : Int)))) (pairs_stops (G := g1) _ hN hfa hfb bA bB (by omega) (by omega)) (Below.refl _ _) (fun pre W => Blk W g1 [.int .i64 0] 3 ∧ Below w0.heap.size w0 W ∧ ∀ y ∈ pre, atN (fineL la) ((y : Nat) : Int) = atN (fineL lb) ((y : Nat) : Int)) (fun c pre W => c = .ret ∧ ∃ pre' x, pre = pre' ++ [x] ∧ (∀ y ∈ pre', atN (fineL la) ((y : Nat) : Int) = atN (fineL lb) ((y : Nat) : Int)) ∧ atN (fineL la) ((x : Nat) : Int) ≠ atN (fineL lb) ((x : Nat) : Int) ∧ Blk W g1 [.int .i64 (if atN (fineL la) ((x : Nat) : Int) < atN (fineL lb) ((x : Nat) : Int) then -1 else 1)] 3 ∧ Below w0.heap.size w0 W) ?hI ?hIx ?h0 (fun σ x => upd (upd (upd (upd σ 12 ((.int .u64 (atN (fineL la) ((x : Nat) : Int))))) 13 ((.int .u64 (atN (fineL lb) ((x : Nat) : Int))))) 5 ((.int .u64 (atN (fineL la) ((x : Nat) : Int))))) 6 ((.int .u64 (atN (fineL lb) ((x : Nat) : Int))))) ?assign ?body ?done ?stop
  case hI => exact fun s A B row hs hg hr => ⟨blk_own hs.1 hg hr, below_own hs.2.1 (Nat.le_refl _) hg hr E.size, hs.2.2⟩
  case hIx => exact fun c s A B row ⟨hc, pre', x, h1, h2, h3, h4, h5⟩ hg hr => ⟨hc, pre', x, h1, h2, h3, blk_own h4 hg hr, below_own h5 (Nat.le_refl _) hg hr E.size⟩
  case h0 => exact ⟨b1, E, fun y hy => by cases hy⟩
  case assign =>
    intro l x W K hK
    refine V_seq ?_
    refine V_region (by kernel_rfl) rfl ?_
    refine S_assign rfl rfl rfl (v := (.int .u64 (atN (fineL la) ((x : Nat) : Int)))) (rfl) ?_
    refine OPS.nil ?_
    change WPI _ _ _ _ _ _ _
    refine V_region (by kernel_rfl) rfl ?_
    refine S_assign rfl rfl rfl (v := (.int .u64 (atN (fineL lb) ((x : Nat) : Int)))) (rfl) ?_
    refine OPS.nil ?_
    exact ⟨rfl, hK⟩
  case body =>
    intro l pre x W hI hlen
    have KK := Kept.refl w2.heap.size (fun k => k = g1) W
    obtain ⟨b1, E, _⟩ := id hI
    refine V_block ?_
    refine V_seq ?_
    refine V_region (by kernel_rfl) rfl ?_
    refine S_move rfl rfl rfl (v := (.int .u64 (atN (fineL la) ((x : Nat) : Int)))) (rfl) ?_
    refine S_move rfl rfl rfl (v := (.int .u64 (atN (fineL lb) ((x : Nat) : Int)))) (rfl) ?_
    refine S_bin rfl rfl rfl rfl rfl (rfl) (rfl) rfl ?_
    refine OPS.nil ?_
    change WPI _ _ _ _ _ _ _
    refine V_cond rfl (rfl) (fun hq16 => ?_) (fun hq16 => ?_)
    · skip
      have hcd0 := hq16
      replace hq16 := bne_iff_ne.1 hq16
      refine V_seq ?_
      refine V_seq ?_
      refine V_region (by kernel_rfl) rfl ?_
      refine S_move rfl rfl rfl (v := (.int .u64 (atN (fineL la) ((x : Nat) : Int)))) (rfl) ?_
      refine S_move rfl rfl rfl (v := (.int .u64 (atN (fineL lb) ((x : Nat) : Int)))) (rfl) ?_
      refine S_bin rfl rfl rfl rfl rfl (rfl) (rfl) rfl ?_
      refine OPS.nil ?_
      change WPI _ _ _ _ _ _ _
      refine V_cond rfl (rfl) (fun hq19 => ?_) (fun hq19 => ?_)
      · skip
        have hcd1 := hq19
        replace hq19 := of_decide_eq_true hq19
        refine V_seq ?_
        refine V_region (by kernel_rfl) rfl ?_
        refine S_store ti_int rfl rfl rfl rfl (g := g1) (o := 0) (rfl) (v := (.int .i64 (-1))) (rfl) (vs := [(.int .i64 (-1))]) rfl rfl (by simp [Value.oneCell']) b1 (by simp) (cs' := [(.int .i64 (-1))]) rfl ?_
        intro w3 hU3 b1
        have E := Below.stepU E hU3 (by omega)
        have KK := KK.upd hU3 rfl (by omega)
        have hz3 := hU3.size
        refine OPS.nil ?_
        change WPI _ _ _ _ _ _ _
        refine V_ret ?_
        exact ⟨KK.1, rfl, pre, x, rfl, hI.2.2, hq16, by rw [if_pos hq19]; exact b1, E⟩
      · skip
        have hcd2 := hq19
        replace hq19 := of_decide_eq_false hq19
        refine V_skip ?_
        change WPI _ _ _ _ _ _ _
        refine V_seq ?_
        refine V_region (by kernel_rfl) rfl ?_
        refine S_store ti_int rfl rfl rfl rfl (g := g1) (o := 0) (rfl) (v := (.int .i64 1)) (rfl) (vs := [(.int .i64 1)]) rfl rfl (by simp [Value.oneCell']) b1 (by simp) (cs' := [(.int .i64 1)]) rfl ?_
        intro w4 hU4 b1
        have E := Below.stepU E hU4 (by omega)
        have KK := KK.upd hU4 rfl (by omega)
        have hz4 := hU4.size
        refine OPS.nil ?_
        change WPI _ _ _ _ _ _ _
        refine V_ret ?_
        exact ⟨KK.1, rfl, pre, x, rfl, hI.2.2, hq16, by rw [if_neg hq19]; exact b1, E⟩
    · skip
      have hcd3 := hq16
      replace hq16 := bne_eq_false_iff_eq.1 hq16
      refine V_skip ?_
      have hx : atN (fineL la) ((x : Nat) : Int) = atN (fineL lb) ((x : Nat) : Int) := by omega
      refine ⟨KK.1, KK.2, b1, E, fun y hy => ?_⟩
      rcases List.mem_append.1 hy with hy | hy
      · exact hI.2.2 y hy
      · rw [List.mem_singleton] at hy; subst hy; exact hx
  case done =>
    intro D xs W hD hS hI_ hK
    subst hS
    obtain ⟨b1, E, h9⟩ := hI_
    have e9 : cmpN (nv la) (nv lb) = 0 := cmpN_eq (cmp_all hN h9)
    change WPR _ _ _ _ _
    refine X_seq ?_
    refine X_region rfl ?_
    refine S_store ti_int rfl rfl rfl rfl (g := g1) (o := 0) (rfl) (v := (.int .i64 0)) (rfl) (vs := [(.int .i64 0)]) rfl rfl (by simp [Value.oneCell']) b1 (by simp) (cs' := [(.int .i64 0)]) rfl ?_
    intro w5 hU5 b1
    have E := Below.stepU E hU5 (by omega)
    have hK := (hU5.block _ (by have := b1.lt; omega)).trans hK
    have hz5 := hU5.size
    refine OPS.nil ?_
    change WPR _ _ _ _ _
    refine X_ret ?_
    refine EndM hK ?_
    have b1 := b1.putObj (o' := .deferred none) hK rfl
    refine EndC (n := ⟨20, []⟩) (t := 4) rfl (by decide) (rfl) (LD.blk1 ti_int b1 (v := (.int .i64 0)) rfl) ?_
    exact ⟨below_putObj E (by omega), by rw [e9]⟩
  case stop =>
    intro D c pre W hD hSp hIx_ hK
    obtain ⟨rfl, pre', x, h1, h2, h3, b1, E⟩ := hIx_
    obtain ⟨j, hj, rfl⟩ := hSp
    have e9 := cmp_stop (U32_fine ha.u32) (U32_fine hb.u32) hN hj h1 h2 h3
    rw [show val (fineL la) = nv la from rfl, show val (fineL lb) = nv lb from rfl] at e9
    refine X_ret ?_
    refine EndM hK ?_
    have b1 := b1.putObj (o' := .deferred none) hK rfl
    refine EndC (n := ⟨20, []⟩) (t := 4) rfl (by decide) (rfl) (LD.blk1 ti_int b1 (v := .int .i64 (if atN (fineL la) ((x : Nat) : Int) < atN (fineL lb) ((x : Nat) : Int) then -1 else 1)) rfl) ?_
    exact ⟨below_putObj E (by omega), by rw [e9]⟩

end Go.Proofs.YtccmicegihlfbaaGreatDoor
