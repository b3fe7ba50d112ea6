import Derived.Test.YtccmicegihlfbaaGreatDoorRm4
set_option linter.unusedVariables false
set_option linter.unusedSimpArgs false

/- Copies with marks: numbers, whole numbers. -/
namespace Go.Proofs.YtccmicegihlfbaaGreatDoor
open Go.RowKit


section
variable {P : Program} {n : NF} {ops : Array Oper} {K : (Nat → Value) → World → Prop} {σ : Nat → Value} {w : World} {i : Nat} {rest : List Nat}
variable {d : Nat} {t : TypeId} {p : String} {af : Array Edge} {gd : Option (Nat × Bool)} {x y : Operand}
/-- make([]T, l, m). -/
theorem S_makeC {T e : TypeId} {sz by_ : Nat} {z : Value} {ag : Bool} (hT : P.underlying T = some (.slice e)) (he : TI P e sz by_ z ag)
    (ho : ops[i]? = some { dst := some d, op := .makeSlice T x y, type := t, pos := p, after := af, guard := gd }) (hw : wg n ops σ gd = true) (hx : tok n x = true) (hy : tok n y = true)
    {lz mz : Int} (hl : sv σ x = .int .i64 lz) (hm : sv σ y = .int .i64 mz) {l m : Nat} (hlz : lz = (l : Int)) (hmz : mz = (m : Int)) (hlm : l ≤ m) (hb : m * by_ ≤ 140737488355328) (hm2 : m ≤ 140737488355328)
    (h : ∀ g w1 cs, g = w.heap.size → w1.heap.size = g + 1 → Below w.heap.size w w1 → Blk w1 g cs e → cs.length = m * sz → OPS P n ops K rest (upd σ d (.slice (some ⟨g, 0, none⟩) l m)) w1) : OPS P n ops K (i :: rest) σ w := by
  obtain ⟨i0, hi0, hs, hby, hzz⟩ := he.info
  subst hlz
  subst hmz
  have hbb : (i0.bytes : Int) * (m : Int) ≤ 281474976710656 := by
    have h : ((i0.bytes * m : Nat) : Int) ≤ 281474976710656 := by rw [hby, Nat.mul_comm]; omega
    rwa [Int.natCast_mul] at h
  have hr := run_make (P := P) w T e i0 z hT hi0 hzz .i64 .i64 l m (by omega) (by omega) hbb (by omega)
  simp only [Int.toNat_natCast] at hr
  have hb2 : Blk (w.alloc (.cells (madeCells z.cells (m * i0.size)) e)) w.heap.size (madeCells z.cells (m * i0.size)).toList e := by
    have := alloc_blk w (madeCells z.cells (m * i0.size)).toList e
    rwa [Array.toArray_toList] at this
  refine OPS.step (w' := w.alloc (.cells (madeCells z.cells (m * i0.size)) e)) ho hw rfl ?_ (h _ _ _ rfl (by simp) (alloc_below _ _) hb2 (by rw [Array.length_toList, size_madeCells, hs]))
  simp [execOp, eval_act hx, eval_act hy, hl, hm, hr]
end
/-- A copy, with a mark in the room behind. -/
def TWN (B : Nat) (w : World) (A : Option Addr) (c : Nat) (l : List Int) : Prop := ON B w (.slice A (l.length + 1) c) (l ++ [77])
theorem TWN.on {B : Nat} {w : World} {A : Option Addr} {c : Nat} {l : List Int} (h : TWN B w A c l) : ON B w (.slice A l.length c) l := by
  have h1 : ON B w (.slice A (l ++ [77]).length c) (l ++ [77]) := by rw [List.length_append]; exact h
  have := h1.prefix_ (k := l.length) (by simp)
  rwa [List.take_left] at this
theorem TWN.r {B : Nat} {w : World} {A : Option Addr} {c : Nat} {l : List Int} (h : TWN B w A c l) : RN 0 B w (.slice A l.length c) l := h.on.r
theorem TWN.below {B : Nat} {w w' : World} {A : Option Addr} {c : Nat} {l : List Int} (h : TWN B w A c l) (hb : Below w.heap.size w w') : TWN B w' A c l := ON.below h hb
theorem TWN.cap {B : Nat} {w : World} {A : Option Addr} {c : Nat} {l : List Int} (h : TWN B w A c l) : l.length < c ∧ c ≤ 9223372036854775807 := by
  obtain ⟨A', c', hv, h1, h2⟩ := h.r.form
  obtain ⟨A2, c2, hv2, h3, h4⟩ := RN.form (ON.r h)
  simp only [Value.slice.injEq] at hv2
  obtain ⟨_, _, rfl⟩ := hv2
  rw [List.length_append] at h3
  simp at h3
  omega
theorem TWN.bk {B : Nat} {w : World} {A : Option Addr} {c : Nat} {l : List Int} (h : TWN B w A c l) : ∀ g, Go.Proofs.YtccmicegihlfbaaGreatDoor.bk (.slice A l.length c) = some g → B ≤ g ∧ g < w.heap.size := h.on.bkB
theorem bk_len {A : Option Addr} {m m' c : Nat} : bk (.slice A m c) = bk (.slice A m' c) := by cases A <;> rfl
theorem TWN.updN {B k : Nat} {w w' : World} {A : Option Addr} {c : Nat} {l : List Int} (h : TWN B w A c l) (hu : Upd k w w') (hne : ∀ g, Go.Proofs.YtccmicegihlfbaaGreatDoor.bk (.slice A l.length c) = some g → g ≠ k) : TWN B w' A c l := ON.updN h hu (fun g hg => hne g (by rw [← hg]; exact bk_len))

set_option maxHeartbeats 400000 in
theorem twinNat_c (w0 : World) (v : Value) (l : List Int) {a b : Nat} (h : RN a b w0 v l) (hs : l.length ≤ SZ) :
    Ret Tryz.prog 40 [v] w0 (fun r w1 => Below w0.heap.size w0 w1 ∧ ∃ A c, r = .slice A l.length c ∧ TWN w0.heap.size w1 A c l) := by
 have E := Below.refl w0.heap.size w0
 unfold SZ at hs
 refine Ret_of (n := 28) Tryz.func40 rfl rfl (Nat.le_of_ble_eq_true rfl) ?_
 refine W_seq ?_
 refine W_region rfl ?_
 refine S_assign rfl rfl rfl (v := (.slice none 0 0)) (rfl) ?_
 refine OPS.nil ?_
 change WP _ _ _ _ _ _
 refine W_seq ?_
 refine W_region rfl ?_
 refine S_move rfl rfl rfl (v := v) (rfl) ?_
 refine S_len Tryz.underlying22 rfl rfl rfl (rfl) (m := l.length) (h.len) ?_
 refine S_add64 rfl rfl rfl rfl (rfl) (rfl) (by omega) ?_
 refine S_makeC Tryz.underlying22 ti_uint32 rfl rfl rfl rfl rfl (rfl) (l := 0) (m := l.length + 1) rfl (by omega) (Nat.zero_le _) (by omega) (by omega) ?_
 intro g1 w1 cs1 hg1 hs1 hB1 b1 hcl1
 have hz1 := hB1.size
 have E := Below.step E hB1
 have RW : Row w0.heap.size 106 1 w1 (.slice (some ⟨g1, 0, none⟩) 0 (l.length + 1)) 0 (nums .u32 []) := ⟨rfl, .inr ⟨g1, _, cs1, rfl, by omega, by omega, b1, Nat.zero_le _, by omega, by omega, rfl⟩⟩
 refine S_assign rfl rfl rfl (v := (.slice (some ⟨g1, 0, none⟩) 0 (l.length + 1))) (rfl) ?_
 refine OPS.nil ?_
 change WP _ _ _ _ _ _
 refine W_seq ?_
 refine W_seq ?_
 refine W_region rfl ?_
 refine S_assign rfl rfl rfl (v := (.int .i64 0)) (rfl) ?_
 refine OPS.nil ?_
 change WP _ _ _ _ _ _
 refine W_block ?_
 refine W_loop (fun k σ w => ∃ (i : Nat) (v1 : Value), σ 0 = v ∧ σ 3 = v1 ∧ σ 4 = .int .i64 (i : Int) ∧ i + k = l.length ∧ Row w0.heap.size 106 1 w v1 i (nums .u32 (l.take i)) ∧ Below w0.heap.size w0 w) (l.length) ⟨0, _, rfl, rfl, rfl, by omega, RW, E⟩ ?_
 rintro k σ w ⟨i, v1, s0, s3, s4, hik, RW, E⟩
 have hz0 := E.size
 refine W_seq ?_
 refine W_seq ?_
 refine W_region rfl ?_
 refine S_move rfl rfl rfl (v := (.int .i64 (i : Int))) (s4) ?_
 refine S_move rfl rfl rfl (v := v) (s0) ?_
 refine S_len Tryz.underlying22 rfl rfl rfl (rfl) (m := l.length) (h.len) ?_
 refine S_bin rfl rfl rfl rfl rfl (rfl) (rfl) (v := .bool (decide ((i : Int) < (l.length : Int)))) rfl ?_
 refine OPS.nil ?_
 change WP _ _ _ _ _ _
 refine W_cond rfl (rfl) (fun hq12 => ?_) (fun hq12 => ?_)
 ·skip
  have pT := hq12
  replace hq12 := of_decide_eq_true hq12
  have qT := hq12
  try rw [pT]
  refine W_skip ?_
  change WP _ _ _ _ _ _
  refine W_seq ?_
  refine W_block ?_
  refine W_region rfl ?_
  refine S_move rfl rfl rfl (v := v1) (s3) ?_
  refine S_move rfl rfl rfl (v := v) (s0) ?_
  refine S_move rfl rfl rfl (v := (.int .i64 (i : Int))) (s4) ?_
  obtain ⟨ad1, hp3, hc2⟩ := (h.below E).at i (by omega)
  refine S_idx Tryz.underlying22 ti_uint32 rfl rfl rfl rfl (rfl) (rfl) hp3 (by omega) ?_
  refine S_load rfl rfl rfl (rfl) (LD.one ti_uint32 hc2) ?_
  refine S_lit Tryz.underlying22 ti_uint32 rfl rfl (by decide) (by decide) rfl (vs := [(.int .u32 (l.getD i 0))]) (cs := [(.int .u32 (l.getD i 0))]) rfl rfl (by simp [Value.cells]) rfl ?_
  intro g2 w2 hg2 hs2 hB2 b2
  have hz2 := hB2.size
  have E := Below.step E hB2
  have RW := RW.below hB2
  replace b2 : Blk w2 g2 (nums .u32 [(l.getD i 0)]) 106 := b2
  refine S_appendR Tryz.underlying22 ti_uint32 rfl rfl rfl rfl rfl (v := v1) (rfl) (rfl) RW (by decide) (news := nums .u32 [(l.getD i 0)]) rfl (fun j u hj => by rw [add_plain, b2.cell, Nat.zero_add]; exact hj) (one_nums _ _) (by omega) (by omega) (by omega) ?_
  intro v2 w3 RW2 hgr hbb hrm
  have E := Below.grownE E hgr (by omega) (fun g hg => (RW.bkB g hg).1)
  rw [nums_app] at RW2
  refine S_assign rfl rfl rfl (v := v2) (rfl) ?_
  refine OPS.nil ?_
  change WP _ _ _ _ _ _
  refine W_region rfl ?_
  refine S_move rfl rfl rfl (v := (.int .i64 (i : Int))) (s4) ?_
  refine S_add64 rfl rfl rfl rfl (rfl) (rfl) (by omega) ?_
  refine S_assign rfl rfl rfl (v := (.int .i64 ((i : Int) + 1))) (rfl) ?_
  refine OPS.nil ?_
  exact ⟨k - 1, by omega, i + 1, _, s0, rfl, int_eq (by omega), by omega, by rw [List.take_succ_eq_append_getElem (by omega)]; rw [List.getD_eq_getElem?_getD, List.getElem?_eq_getElem (by omega)] at RW2; exact RW2, E⟩
 ·skip
  have pF := hq12
  replace hq12 := of_decide_eq_false hq12
  have qF := hq12
  try rw [pF]
  refine W_exit ?_
  change WP _ _ _ _ _ _
  refine W_seq ?_
  refine W_region rfl ?_
  have hil : i = l.length := by omega
  subst hil
  rw [List.take_length] at RW
  refine S_move rfl rfl rfl (v := v1) (s3) ?_
  refine S_lit Tryz.underlying22 ti_uint32 rfl rfl (by decide) (by decide) rfl (vs := [(.int .u32 77)]) (cs := [(.int .u32 77)]) rfl rfl (by simp [Value.cells]) rfl ?_
  intro g4 w4 hg4 hs4 hB4 b4
  have hz4 := hB4.size
  have E := Below.step E hB4
  have RW := RW.below hB4
  replace b4 : Blk w4 g4 (nums .u32 [77]) 106 := b4
  refine S_appendR Tryz.underlying22 ti_uint32 rfl rfl rfl rfl rfl (v := v1) (rfl) (rfl) RW (by decide) (news := nums .u32 [77]) rfl (fun j u hj => by rw [add_plain, b4.cell, Nat.zero_add]; exact hj) (one_nums _ _) (by omega) (by omega) (by omega) ?_
  intro v2 w5 RW2 hgr hbb hrm
  have E := Below.grownE E hgr (by omega) (fun g hg => (RW.bkB g hg).1)
  rw [nums_app] at RW2
  have h77 := RW2.on (h.u32.append (U32.mk (by decide) (by decide) U32.nil))
  obtain ⟨A2, c2, hv2, hc2, hm2⟩ := h77.r.form
  rw [List.length_append] at hv2 hc2
  simp only [List.length_cons, List.length_nil, Nat.zero_add] at hv2 hc2
  subst hv2
  refine S_move rfl rfl rfl (v := v) (s0) ?_
  refine S_len Tryz.underlying22 rfl rfl rfl (rfl) (m := l.length) (h.len) ?_
  refine S_sliceHi Tryz.underlying22 ti_uint32 rfl rfl rfl rfl (A := A2) (m := l.length + 1) (c := c2) (rfl) (rfl) (j := l.length) (by omega) (by omega) ?_
  refine S_assign rfl rfl rfl (v := (.slice A2 (l.length) (c2))) (rfl) ?_
  refine OPS.nil ?_
  change WP _ _ _ _ _ _
  refine W_ret ?_
  change Fin' _ _ _ _ _ _
  refine End1 (n := ⟨28, []⟩) (t := 2) rfl (by decide) (v := (.slice A2 (l.length) (c2))) (rfl) ?_
  exact ⟨E, A2, c2, rfl, h77⟩


theorem TWN.at77 {B : Nat} {w : World} {A : Option Addr} {c : Nat} {l : List Int} (h : TWN B w A c l) (j : Nat) (hj : j = l.length) : ∃ ad, SlAt (.slice A (l.length + 1) c) (l.length + 1) 1 j ad ∧ w.cell? ad = some (.int .u32 77) := by
  subst hj
  obtain ⟨ad, h1, h2⟩ := RN.at (ON.r h) l.length (by simp)
  rw [List.length_append] at h1
  refine ⟨ad, h1, ?_⟩
  rw [h2]
  simp

set_option maxHeartbeats 400000 in
theorem leftNat_c (w0 : World) (A : Option Addr) (c : Nat) (v : Value) (l : List Int) {a b B : Nat} (ht : TWN B w0 A c l) (h : RN a b w0 v l) :
    Ret Tryz.prog 46 [(.slice A l.length c), v] w0 (fun r w1 => Below w0.heap.size w0 w1 ∧ r = .bool true) := by
 have E := Below.refl w0.heap.size w0
 have hcap := ht.cap
 refine Ret_of (n := 45) Tryz.func46 rfl rfl (Nat.le_of_ble_eq_true rfl) ?_
 refine W_seq ?_
 refine W_region rfl ?_
 refine S_assign rfl rfl rfl (v := (.bool false)) (rfl) ?_
 refine OPS.nil ?_
 change WP _ _ _ _ _ _
 refine W_seq ?_
 refine W_seq ?_
 refine W_region rfl ?_
 refine S_move rfl rfl rfl (v := (.slice A l.length c)) (rfl) ?_
 refine S_len Tryz.underlying22 rfl rfl rfl (rfl) (m := l.length) (ht.r.len) ?_
 refine S_move rfl rfl rfl (v := v) (rfl) ?_
 refine S_len Tryz.underlying22 rfl rfl rfl (rfl) (m := l.length) (h.len) ?_
 refine S_bin rfl rfl rfl rfl rfl (rfl) (rfl) (v := .bool false) (by simp [binV]) ?_
 refine S_move rfl rfl rfl (v := (.bool false)) (rfl) ?_
 refine S_move rfl rfl rfl (v := (.slice A l.length c)) (rfl) ?_
 refine S_cap Tryz.underlying22 rfl rfl rfl (A := A) (m := l.length) (c := c) (rfl) ?_
 refine S_move rfl rfl rfl (v := v) (rfl) ?_
 refine S_len Tryz.underlying22 rfl rfl rfl (rfl) (m := l.length) (h.len) ?_
 refine S_bin rfl rfl rfl rfl rfl (rfl) (rfl) (v := .bool false) (by simp [binV]; omega) ?_
 refine S_pick rfl rfl rfl rfl rfl (b := false) (rfl) (v := (.bool false)) (rfl) ?_
 refine OPS.nil ?_
 change WP _ _ _ _ _ _
 refine W_cond rfl (b := false) (rfl) (fun h => (by cases h)) (fun _ => ?_)
 refine W_skip ?_
 change WP _ _ _ _ _ _
 refine W_seq ?_
 refine W_seq ?_
 refine W_region rfl ?_
 refine S_assign rfl rfl rfl (v := (.int .i64 0)) (rfl) ?_
 refine OPS.nil ?_
 change WP _ _ _ _ _ _
 refine W_block ?_
 refine W_loop (fun k σ w => ∃ (i : Nat), σ 0 = .slice A l.length c ∧ σ 1 = v ∧ σ 5 = .int .i64 (i : Int) ∧ i + k = l.length ∧ Below w0.heap.size w0 w) (l.length) ⟨0, rfl, rfl, rfl, by omega, E⟩ ?_
 rintro k σ w ⟨i, s0, s1, s5, hik, E⟩
 refine W_seq ?_
 refine W_seq ?_
 refine W_region rfl ?_
 refine S_move rfl rfl rfl (v := (.int .i64 (i : Int))) (s5) ?_
 refine S_move rfl rfl rfl (v := v) (s1) ?_
 refine S_len Tryz.underlying22 rfl rfl rfl (rfl) (m := l.length) (h.len) ?_
 refine S_bin rfl rfl rfl rfl rfl (rfl) (rfl) (v := .bool (decide ((i : Int) < (l.length : Int)))) rfl ?_
 refine OPS.nil ?_
 change WP _ _ _ _ _ _
 refine W_cond rfl (rfl) (fun hq22 => ?_) (fun hq22 => ?_)
 ·skip
  have pT := hq22
  replace hq22 := of_decide_eq_true hq22
  have qT := hq22
  try rw [pT]
  refine W_skip ?_
  change WP _ _ _ _ _ _
  refine W_seq ?_
  refine W_block ?_
  refine W_seq ?_
  refine D_begin mixed_ rfl rfl (fun w_ => Below w0.heap.size w0 w_) ?_
  intro w1 hB1 hz_1
  have hz1 := hB1.size
  have E := Below.step E hB1
  have hS_ : Below w0.heap.size w0 w1 := E
  have E_S := E
  refine D_move (i := 0) (listed2 := (bm 9 1)) (by kernel_rfl) rfl rfl rfl (v := (.slice A l.length c)) (s0) hS_ ?_
  refine D_move (i := 1) (listed2 := (bm 9 3)) (by kernel_rfl) rfl rfl rfl (v := (.int .i64 (i : Int))) (s5) hS_ ?_
  obtain ⟨ad1, hp3, hc2⟩ := ht.r.at i (by omega)
  refine D_idx Tryz.underlying22 ti_uint32 (i := 2) (listed2 := (bm 9 7)) (by kernel_rfl) rfl rfl rfl rfl (rfl) (rfl) hp3 (by omega) hS_ ?_
  refine D_load (i := 3) (listed2 := (bm 9 15)) (by kernel_rfl) rfl rfl rfl (rfl) (fun _ hS2 => LD.one ti_uint32 (cell_below hS2 hc2)) hS_ ?_
  refine D_move (i := 4) (listed2 := (bm 9 31)) (by kernel_rfl) rfl rfl rfl (v := v) (s1) hS_ ?_
  refine D_move (i := 5) (listed2 := (bm 9 63)) (by kernel_rfl) rfl rfl rfl (v := (.int .i64 (i : Int))) (s5) hS_ ?_
  obtain ⟨ad4, hp6, hc5⟩ := h.at i (by omega)
  refine D_idx Tryz.underlying22 ti_uint32 (i := 6) (listed2 := (bm 9 127)) (by kernel_rfl) rfl rfl rfl rfl (rfl) (rfl) hp6 (by omega) hS_ ?_
  refine D_load (i := 7) (listed2 := (bm 9 255)) (by kernel_rfl) rfl rfl rfl (rfl) (fun _ hS2 => LD.one ti_uint32 (cell_below hS2 hc5)) hS_ ?_
  refine D_bin (i := 8) (listed2 := (bm 9 511)) (by kernel_rfl) rfl rfl rfl rfl rfl (rfl) (rfl) (v := .bool false) (by simp [binV]) hS_ ?_
  refine D_done (by kernel_rfl) ?_
  change WP _ _ _ _ _ _
  refine W_cond rfl (b := false) (rfl) (fun h => (by cases h)) (fun _ => ?_)
  refine W_skip ?_
  change WP _ _ _ _ _ _
  refine W_region rfl ?_
  refine S_move rfl rfl rfl (v := (.int .i64 (i : Int))) (s5) ?_
  refine S_add64 rfl rfl rfl rfl (rfl) (rfl) (by omega) ?_
  refine S_assign rfl rfl rfl (v := (.int .i64 ((i : Int) + 1))) (rfl) ?_
  refine OPS.nil ?_
  exact ⟨k - 1, by omega, i + 1, s0, s1, int_eq (by omega), by omega, E⟩
 ·skip
  have pF := hq22
  replace hq22 := of_decide_eq_false hq22
  have qF := hq22
  try rw [pF]
  refine W_exit ?_
  change WP _ _ _ _ _ _
  refine W_seq ?_
  refine W_region rfl ?_
  refine S_move rfl rfl rfl (v := (.slice A l.length c)) (s0) ?_
  refine S_move rfl rfl rfl (v := v) (s1) ?_
  refine S_len Tryz.underlying22 rfl rfl rfl (rfl) (m := l.length) (h.len) ?_
  refine S_add64 rfl rfl rfl rfl (rfl) (rfl) (by omega) ?_
  refine S_sliceHi Tryz.underlying22 ti_uint32 rfl rfl rfl rfl (A := A) (m := l.length) (c := c) (rfl) (rfl) (j := l.length + 1) (by omega) (by omega) ?_
  refine S_move rfl rfl rfl (v := v) (s1) ?_
  refine S_len Tryz.underlying22 rfl rfl rfl (rfl) (m := l.length) (h.len) ?_
  obtain ⟨ad7, hp9, hc8⟩ := (ht.below E).at77 l.length rfl
  refine S_idx Tryz.underlying22 ti_uint32 rfl rfl rfl rfl (rfl) (rfl) hp9 (by omega) ?_
  refine S_load rfl rfl rfl (rfl) (LD.one ti_uint32 hc8) ?_
  refine S_assign rfl rfl rfl (v := (.int .u32 77)) (rfl) ?_
  refine OPS.nil ?_
  change WP _ _ _ _ _ _
  refine W_seq ?_
  refine W_region rfl ?_
  refine S_move rfl rfl rfl (v := (.int .u32 77)) (rfl) ?_
  refine S_bin rfl rfl rfl rfl rfl (rfl) (rfl) (v := .bool true) (by simp [binV]) ?_
  refine S_assign rfl rfl rfl (v := (.bool true)) (rfl) ?_
  refine OPS.nil ?_
  change WP _ _ _ _ _ _
  refine W_ret ?_
  change Fin' _ _ _ _ _ _
  refine End1 (n := ⟨45, []⟩) (t := 4) rfl (by decide) (v := (.bool true)) (rfl) ?_
  exact ⟨E, rfl⟩

set_option maxHeartbeats 400000 in
theorem twinInt_c (w0 : World) (s : Bool) (v : Value) (l : List Int) {a b : Nat} (h : RN a b w0 v l) (hs : l.length ≤ SZ) :
    Ret Tryz.prog 11 [.agg #[.bool s, v]] w0 (fun r w1 => Below w0.heap.size w0 w1 ∧ ∃ A c, r = .agg #[.bool s, .slice A l.length c] ∧ TWN w0.heap.size w1 A c l) := by
 have E := Below.refl w0.heap.size w0
 refine Ret_of (n := 9) Tryz.func11 rfl rfl (Nat.le_of_ble_eq_true rfl) ?_
 refine W_seq ?_
 refine W_region rfl ?_
 refine S_box rfl rfl rfl (v := .agg #[.bool s, v]) (rfl) (cs := [(.bool s), v]) rfl ?_
 intro g1 w1 hg1 hs1 hB1 b1
 have hz1 := hB1.size
 have E := Below.step E hB1
 refine S_alloc ti_api_Int rfl rfl (cs := [.bool false, .slice none 0 0]) rfl ?_
 intro g2 w2 hg2 hs2 hB2 b2
 have hz2 := hB2.size
 have E := Below.step E hB2
 have hl_b1 := b1.lt
 have b1 := b1.below hB2
 refine OPS.nil ?_
 change WP _ _ _ _ _ _
 refine W_seq ?_
 refine D_begin_ mixed_ rfl rfl ?_
 intro w3 hB3 hz_3
 have hz3 := hB3.size
 have E := Below.step E hB3
 have hl_b1 := b1.lt
 have b1 := b1.below hB3
 have hl_b2 := b2.lt
 have b2 := b2.below hB3
 have hS_ : Below w3.heap.size w3 w3 := Below.refl _ _
 have E_S := E
 have b1_S := b1
 have b2_S := b2
 refine D_field ft_api_Int_0 (i := 0) (listed2 := (bm 7 1)) (by kernel_rfl) rfl rfl rfl (g := g1) (o := 0) (rfl) (o' := 0) rfl hS_ ?_
 refine D_load (i := 1) (listed2 := (bm 7 3)) (by kernel_rfl) rfl rfl rfl (rfl) (fun _ hS2 => LD.blk1 ti_bool (b1_S.below hS2) (v := (.bool s)) rfl) hS_ ?_
 refine D_field ft_api_Int_1 (i := 2) (listed2 := (bm 7 7)) (by kernel_rfl) rfl rfl rfl (g := g1) (o := 0) (rfl) (o' := 1) rfl hS_ ?_
 refine D_load (i := 3) (listed2 := (bm 7 15)) (by kernel_rfl) rfl rfl rfl (rfl) (fun _ hS2 => LD.blk1 ti_api_Nat (b1_S.below hS2) (v := v) rfl) hS_ ?_
 refine D_only (i := 4) (by kernel_rfl) (listed2 := (bm 7 31)) (by kernel_rfl) ?_
 refine S_call en_assayerlaw01_TwinNat rfl rfl rfl (vs := [v]) (rfl) (twinNat_c _ _ l (h.below E) hs) ?_
 rintro _ w4 ⟨hB4, At1, ct1, rfl, t1⟩
 have hz4 := hB4.size
 have E := Below.step E hB4
 have hl_b1 := b1.lt
 have b1 := b1.below hB4
 have hl_b2 := b2.lt
 have b2 := b2.below hB4
 have hS_ := Below.step hS_ hB4
 refine OPS.nil ⟨hS_, ?_⟩
 refine D_build (i := 5) (listed2 := (bm 7 63)) (by kernel_rfl) rfl rfl rfl (cs := [(.bool s), (.slice At1 (l).length ct1)]) (by kernel_rfl) hS_ ?_
 refine D_last (i := 6) (f := 7) (by kernel_rfl) (by kernel_rfl) (listed2 := (bm 7 127)) (by kernel_rfl) ?_
 have hk1 := t1.bk
 refine S_store ti_api_Int rfl rfl rfl rfl (g := g2) (o := 0) (rfl) (v := (.agg #[(.bool s), (.slice At1 (l).length ct1)])) (rfl) (vs := [(.bool s), (.slice At1 (l).length ct1)]) rfl rfl (one2 (rfl) (rfl)) b2 (by simp) (cs' := [(.bool s), (.slice At1 (l).length ct1)]) rfl ?_
 intro w5 hU5 b2
 have E := Below.stepU E hU5 (by omega)
 have b1 := b1.upd hU5 (by omega)
 have t1 := t1.updN hU5 (fun g hg => by have := t1.bk g hg; omega)
 have hz5 := hU5.size
 refine OPS.nil ?_
 refine D_done (by kernel_rfl) ?_
 change WP _ _ _ _ _ _
 refine W_ret ?_
 change Fin' _ _ _ _ _ _
 refine EndC (n := ⟨9, []⟩) (t := 2) rfl (by decide) (rfl) (LD.blk ti_api_Int b2 (l := [(.bool s), (.slice At1 (l).length ct1)]) rfl rfl) ?_
 exact ⟨E, At1, ct1, rfl, ON.mono t1 (by omega)⟩

set_option maxHeartbeats 400000 in
theorem leftInt_c (w0 : World) (s : Bool) (A : Option Addr) (c : Nat) (v : Value) (l : List Int) {a b B : Nat} (ht : TWN B w0 A c l) (h : RN a b w0 v l) :
    Ret Tryz.prog 25 [.agg #[.bool s, (.slice A l.length c)], .agg #[.bool s, v]] w0 (fun r w1 => Below w0.heap.size w0 w1 ∧ r = .bool true) := by
 have E := Below.refl w0.heap.size w0
 refine Ret_of (n := 17) Tryz.func25 rfl rfl (Nat.le_of_ble_eq_true rfl) ?_
 refine W_seq ?_
 refine W_region rfl ?_
 refine S_box rfl rfl rfl (v := .agg #[.bool s, (.slice A l.length c)]) (rfl) (cs := [(.bool s), (.slice A l.length c)]) rfl ?_
 intro g1 w1 hg1 hs1 hB1 b1
 have hz1 := hB1.size
 have E := Below.step E hB1
 refine S_box rfl rfl rfl (v := .agg #[.bool s, v]) (rfl) (cs := [(.bool s), v]) rfl ?_
 intro g2 w2 hg2 hs2 hB2 b2
 have hz2 := hB2.size
 have E := Below.step E hB2
 have hl_b1 := b1.lt
 have b1 := b1.below hB2
 refine S_assign rfl rfl rfl (v := (.bool false)) (rfl) ?_
 refine OPS.nil ?_
 change WP _ _ _ _ _ _
 refine W_seq ?_
 refine W_region rfl ?_
 refine S_field ft_api_Int_0 rfl rfl rfl (g := g1) (o := 0) (rfl) (o' := 0) rfl ?_
 refine S_load rfl rfl rfl (rfl) (LD.blk1 ti_bool b1 (v := (.bool s)) rfl) ?_
 refine S_field ft_api_Int_0 rfl rfl rfl (g := g2) (o := 0) (rfl) (o' := 0) rfl ?_
 refine S_load rfl rfl rfl (rfl) (LD.blk1 ti_bool b2 (v := (.bool s)) rfl) ?_
 refine S_beq Tryz.underlying4 rfl rfl rfl rfl (rfl) (rfl) (c := true) (by simp) ?_
 refine S_move rfl rfl rfl (v := (.bool true)) (rfl) ?_
 refine S_field ft_api_Int_1 rfl rfl rfl (g := g1) (o := 0) (rfl) (o' := 1) rfl ?_
 refine S_load rfl rfl rfl (rfl) (LD.blk1 ti_api_Nat b1 (v := (.slice A l.length c)) rfl) ?_
 refine S_field ft_api_Int_1 rfl rfl rfl (g := g2) (o := 0) (rfl) (o' := 1) rfl ?_
 refine S_load rfl rfl rfl (rfl) (LD.blk1 ti_api_Nat b2 (v := v) rfl) ?_
 refine S_call en_assayerlaw01_LeftNat rfl rfl rfl (vs := [(.slice A l.length c), v]) (rfl) (leftNat_c _ A c _ l (ht.below E) (h.below E)) ?_
 rintro _ w3 ⟨hB3, rfl⟩
 have hz3 := hB3.size
 have E := Below.step E hB3
 have hl_b1 := b1.lt
 have b1 := b1.below hB3
 have hl_b2 := b2.lt
 have b2 := b2.below hB3
 refine S_pick rfl rfl rfl rfl rfl (b := true) (rfl) (v := (.bool true)) (rfl) ?_
 refine S_assign rfl rfl rfl (v := (.bool true)) (rfl) ?_
 refine OPS.nil ?_
 change WP _ _ _ _ _ _
 refine W_ret ?_
 change Fin' _ _ _ _ _ _
 refine End1 (n := ⟨17, []⟩) (t := 4) rfl (by decide) (v := (.bool true)) (rfl) ?_
 exact ⟨E, rfl⟩

end Go.Proofs.YtccmicegihlfbaaGreatDoor

/- The document's quotients: parts. -/
namespace Go.Proofs.YtccmicegihlfbaaGreatDoor
open Go.RowKit


theorem Upd.refl (g : Nat) (w : World) : Upd g w w := ⟨rfl, rfl, rfl, rfl, fun _ _ => rfl⟩
theorem Upd.trans {g : Nat} {a b c : World} (h : Upd g a b) (k : Upd g b c) : Upd g a c :=
  ⟨k.os.trans h.os, k.tape.trans h.tape, k.output.trans h.output, k.size.trans h.size, fun j hj => (k.block j hj).trans (h.block j hj)⟩
theorem quo64 {z y : Int} (hz : 0 ≤ z ∧ z < 18446744073709551616) (hy : 0 < y) : IntKind.u64.wrap (z.tdiv y) = z / y := by
  rw [Int.tdiv_eq_ediv_of_nonneg hz.1]
  have h1 := Int.ediv_nonneg hz.1 (show 0 ≤ y by omega)
  have h2 := Int.ediv_le_self y hz.1
  exact wrap_u64 h1 (by omega)
theorem quoN {z y : Nat} {a b : Int} (ha : a = (z : Int)) (hb : b = (y : Int)) (hz : z < 18446744073709551616) (hy : 0 < y) : IntKind.u64.wrap (a.tdiv b) = ((z / y : Nat) : Int) := by
  subst ha hb
  rw [quo64 (by omega) (by omega), Int.natCast_ediv]
theorem remN {z y : Nat} {a b : Int} (ha : a = (z : Int)) (hb : b = (y : Int)) : a.tmod b = ((z % y : Nat) : Int) := by
  subst ha hb
  rw [Int.tmod_eq_emod_of_nonneg (by omega), Int.natCast_emod]
theorem mulN {x y : Nat} (h : x * y < 18446744073709551616) : IntKind.u64.wrap ((x : Int) * (y : Int)) = ((x * y : Nat) : Int) := by
  rw [← Int.natCast_mul]
  generalize x * y = z at *
  exact wrap_u64 (by omega) (by omega)
theorem mask32 {x : Int} (hx : 0 ≤ x ∧ x < 18446744073709551616) : bitV .and .u64 x 4294967295 = x % 4294967296 := by
  show IntKind.u64.wrap (((BitVec.ofInt 64 x &&& BitVec.ofInt 64 4294967295).toNat : Nat) : Int) = _
  have h := Nat.and_two_pow_sub_one_eq_mod x.toNat 32
  have e1 : (BitVec.ofInt 64 x).toNat = x.toNat := by simp [BitVec.toNat_ofInt]; omega
  rw [BitVec.toNat_and, e1, show (BitVec.ofInt 64 4294967295).toNat = 2 ^ 32 - 1 by decide, h]
  rw [wrap_u64 (by omega) (by omega)]
  omega
theorem lo_hi {hi lo : Int} (hh : 0 ≤ hi ∧ hi < 4294967296) (hl : 0 ≤ lo ∧ lo < 4294967296) : bitV .or .u64 lo (hi * 4294967296) = hi * 4294967296 + lo := by
  rw [← hi_lo hh hl]
  show IntKind.u64.wrap (((BitVec.ofInt 64 lo ||| BitVec.ofInt 64 (hi * 4294967296)).toNat : Nat) : Int) = IntKind.u64.wrap (((BitVec.ofInt 64 (hi * 4294967296) ||| BitVec.ofInt 64 lo).toNat : Nat) : Int)
  rw [BitVec.or_comm]
theorem U32.nat {l : List Int} (h : U32 l) (j : Nat) : ∃ x : Nat, l.getD j 0 = (x : Int) ∧ x < 4294967296 := ⟨(l.getD j 0).toNat, by have := h.getD j; omega, by have := h.getD j; omega⟩
theorem shift_step0 {xs la : List Int} {i r : Nat} {x : Int} (hi : i + 1 < xs.length) (hx : 0 ≤ x ∧ x < 4294967296) (hr : r < 32) (ex : la.getD i 0 = x) (ho : 0 ≤ xs.getD i 0) (hz : xs.getD (i + 1) 0 = 0) (h : val xs = val (la.take i) * 2 ^ r) :
    val ((xs.set i (xs.getD i 0 + (x * 2 ^ r) % 4294967296)).set (i + 1) ((x * 2 ^ r) / 4294967296)) = val (la.take (i + 1)) * 2 ^ r ∧ ((x * 2 ^ r) / 4294967296).toNat < 2 ^ r := by
  have := shift_step (s := 0) hi hx hr ex ho hz (by rw [Nat.pow_zero, Nat.one_mul]; exact h)
  rwa [Nat.pow_zero, Nat.one_mul] at this
theorem back_part0 {la : List Int} (hu : U32 la) {i r : Nat} (hr : r < 32) : (val la / 2 ^ r / 4294967296 ^ i) % 4294967296 = (((la.getD (i + 1) 0).toNat * 4294967296 + (la.getD i 0).toNat) / 2 ^ r) % 4294967296 := by
  have := back_part (s := 0) hu (i := i) hr
  rwa [Nat.pow_zero, Nat.div_one] at this
theorem back_end0 {la : List Int} (hu : U32 la) {r : Nat} : (val la / 2 ^ r) % 4294967296 ^ la.length = val la / 2 ^ r :=
  Nat.mod_eq_of_lt (Nat.lt_of_le_of_lt (Nat.div_le_self _ _) (val_lt hu))

set_option maxHeartbeats 400000 in
theorem ref01Small_c (w0 : World) (va : Value) (la : List Int) (y : Int) {a b : Nat} (ha : RN a b w0 va la) (hsa : la.length ≤ SZ) (hy : 0 < y ∧ y < 4294967296) (h0 : 0 < la.length) :
    Ret Tryz.prog 163 [va, .int .u32 y] w0 (fun r w1 => Below w0.heap.size w0 w1 ∧ ∃ v, r = .tuple #[v, .int .u32 ((val la % y.toNat : Nat) : Int)] ∧ ON w0.heap.size w1 v (dg (val la / y.toNat))) := by
 have E := Below.refl w0.heap.size w0
 unfold SZ at hsa
 obtain ⟨m, hmm⟩ : ∃ m, m = la.length := ⟨_, rfl⟩
 refine Ret_of (n := 42) Tryz.func163 rfl rfl (Nat.le_of_ble_eq_true rfl) ?_
 refine W_seq ?_
 refine W_region rfl ?_
 refine S_assign rfl rfl rfl (v := (.slice none 0 0)) (rfl) ?_
 refine S_assign rfl rfl rfl (v := (.int .u32 0)) (rfl) ?_
 refine OPS.nil ?_
 change WP _ _ _ _ _ _
 refine W_seq ?_
 refine W_region rfl ?_
 refine S_move rfl rfl rfl (v := va) (rfl) ?_
 refine S_call en_assayerref01_Twin rfl rfl rfl (vs := [va]) (rfl) (ref01Twin_c _ _ la ha hsa) ?_
 rintro vh1 w1 ⟨hB1, h1⟩
 have hz1 := hB1.size
 have E := Below.step E hB1
 obtain ⟨g, cc, RW⟩ := h1.ow h0
 have hgE := RW.2.1
 refine S_assign rfl rfl rfl (v := vh1) (rfl) ?_
 refine OPS.nil ?_
 change WP _ _ _ _ _ _
 refine W_seq ?_
 refine W_region rfl ?_
 refine S_assign rfl rfl rfl (v := (.int .u64 0)) (rfl) ?_
 refine OPS.nil ?_
 change WP _ _ _ _ _ _
 refine W_seq ?_
 refine W_seq ?_
 refine W_region rfl ?_
 refine S_move rfl rfl rfl (v := vh1) (rfl) ?_
 refine S_len Tryz.underlying23 rfl rfl rfl (rfl) (m := la.length) (h1.r.len) ?_
 refine S_sub64 rfl rfl rfl rfl (rfl) (rfl) (by omega) ?_
 refine S_assign rfl rfl rfl (v := (.int .i64 ((la.length : Int) - 1))) (rfl) ?_
 refine OPS.nil ?_
 change WP _ _ _ _ _ _
 refine W_block ?_
 refine W_loop (fun k σ w => ∃ (r : Int) (xs : List Int), σ 0 = va ∧ σ 1 = .int .u32 y ∧ σ 6 = .slice (some ⟨g, 0, none⟩) m cc ∧ σ 7 = .int .u64 r ∧ σ 8 = .int .i64 ((k : Int) - 1) ∧ k ≤ m ∧ (0 ≤ r ∧ r < y) ∧
      val (la.drop k) = val (xs.drop k) * y.toNat + r.toNat ∧ (∀ j, j < k → xs.getD j 0 = la.getD j 0) ∧ xs.length = m ∧ U32 xs ∧ OW w0.heap.size g cc w (.slice (some ⟨g, 0, none⟩) m cc) xs ∧ Below w0.heap.size w0 w) (m) ⟨0, la, rfl, rfl, by rw [hmm]; exact RW.1, rfl, by rw [hmm]; rfl, Nat.le_refl _, ⟨by omega, by omega⟩, by rw [List.drop_of_length_le (by omega)]; simp [val], fun _ _ => rfl, by omega, ha.u32, by rw [hmm, ← RW.1]; exact RW, E⟩ ?_
 rintro k σ w ⟨r, xs, s0, s1, s6, s7, s8, hk, hr, hval, hold, hxl, hxu, RW, E⟩
 have hua := ha.u32.getD (k - 1)
 obtain ⟨q1, q2, q3, q4⟩ := div_small (lo := la.getD (k - 1) 0) hr hua
 refine W_seq ?_
 refine W_seq ?_
 refine W_region rfl ?_
 refine S_move rfl rfl rfl (v := (.int .i64 ((k : Int) - 1))) (s8) ?_
 refine S_bin rfl rfl rfl rfl rfl (rfl) (rfl) (v := .bool (decide (((k : Int) - 1) ≥ 0))) rfl ?_
 refine OPS.nil ?_
 change WP _ _ _ _ _ _
 refine W_cond rfl (rfl) (fun hq15 => ?_) (fun hq15 => ?_)
 ·skip
  have pT := hq15
  replace hq15 := of_decide_eq_true hq15
  have qT := hq15
  try rw [pT]
  refine W_skip ?_
  change WP _ _ _ _ _ _
  refine W_seq ?_
  refine W_block ?_
  refine W_seq ?_
  refine W_region rfl ?_
  refine S_move rfl rfl rfl (v := (.int .u64 r)) (s7) ?_
  refine S_shl rfl rfl rfl rfl (rfl) (rfl) (by omega) (v := (r * 4294967296)) (S_shl32 ⟨by omega, by omega⟩) ?_
  refine S_move rfl rfl rfl (v := (.slice (some ⟨g, 0, none⟩) m cc)) (s6) ?_
  refine S_move rfl rfl rfl (v := (.int .i64 ((k : Int) - 1))) (s8) ?_
  have hxi := hold (k - 1) (by omega)
  refine S_idx Tryz.underlying23 ti_uint32 rfl rfl rfl rfl (rfl) (rfl) (j := (k - 1)) (ad := ⟨g, (k - 1), none⟩) (SlAt.own1 (by omega)) (by omega) ?_
  refine S_load rfl rfl rfl (rfl) (LD.one ti_uint32 (RW.cell (by omega))) ?_
  refine S_conv Tryz.underlying106 Tryz.underlying124 rfl rfl rfl (rfl) (b := (la.getD (k - 1) 0)) ((wrap_u64 (by omega) (by omega)).trans hxi) ?_
  refine S_bits rfl rfl rfl rfl (by simp) (rfl) (rfl) (v := (r * 4294967296 + la.getD (k - 1) 0)) (hi_lo ⟨by omega, by omega⟩ hua) ?_
  refine S_assign rfl rfl rfl (v := (.int .u64 (r * 4294967296 + la.getD (k - 1) 0))) (rfl) ?_
  refine OPS.nil ?_
  change WP _ _ _ _ _ _
  refine W_seq ?_
  refine W_region rfl ?_
  refine S_move rfl rfl rfl (v := (.slice (some ⟨g, 0, none⟩) m cc)) (s6) ?_
  refine S_move rfl rfl rfl (v := (.int .i64 ((k : Int) - 1))) (s8) ?_
  refine S_move rfl rfl rfl (v := (.int .u64 (r * 4294967296 + la.getD (k - 1) 0))) (rfl) ?_
  refine S_move rfl rfl rfl (v := (.int .u32 y)) (s1) ?_
  refine S_conv Tryz.underlying106 Tryz.underlying124 rfl rfl rfl (rfl) (b := y) (wrap_u64 (by omega) (by omega)) ?_
  refine S_quo rfl rfl rfl rfl (rfl) (rfl) (by omega) (v := ((r * 4294967296 + la.getD (k - 1) 0) / y)) (quo64 ⟨by omega, by omega⟩ hy.1) ?_
  refine S_conv Tryz.underlying124 Tryz.underlying106 rfl rfl rfl (rfl) (b := ((r * 4294967296 + la.getD (k - 1) 0) / y)) (wrap_u32 (by omega) (by omega)) ?_
  refine S_idx Tryz.underlying23 ti_uint32 rfl rfl rfl rfl (rfl) (rfl) (j := (k - 1)) (ad := ⟨g, (k - 1), none⟩) (SlAt.own1 (by omega)) (by omega) ?_
  refine S_storeOW ti_uint32 rfl rfl rfl rfl (g := g) (o := (k - 1)) (rfl) (a := ((r * 4294967296 + la.getD (k - 1) 0) / y)) (rfl) RW (by omega) ?_
  intro w2 hU2 RW
  have E := Below.stepU E hU2 (by omega)
  have hz2 := hU2.size
  refine OPS.nil ?_
  change WP _ _ _ _ _ _
  refine W_region rfl ?_
  refine S_move rfl rfl rfl (v := (.int .u64 (r * 4294967296 + la.getD (k - 1) 0))) (rfl) ?_
  refine S_move rfl rfl rfl (v := (.int .u32 y)) (s1) ?_
  refine S_conv Tryz.underlying106 Tryz.underlying124 rfl rfl rfl (rfl) (b := y) (wrap_u64 (by omega) (by omega)) ?_
  refine S_rem rfl rfl rfl rfl (rfl) (rfl) (by omega) (v := ((r * 4294967296 + la.getD (k - 1) 0) % y)) (Int.tmod_eq_emod_of_nonneg (by omega)) ?_
  refine S_assign rfl rfl rfl (v := (.int .u64 ((r * 4294967296 + la.getD (k - 1) 0) % y))) (rfl) ?_
  refine OPS.nil ?_
  change WP _ _ _ _ _ _
  refine W_region rfl ?_
  refine S_move rfl rfl rfl (v := (.int .i64 ((k : Int) - 1))) (s8) ?_
  refine S_sub64 rfl rfl rfl rfl (rfl) (rfl) (by omega) ?_
  refine S_assign rfl rfl rfl (v := (.int .i64 (((k : Int) - 1) - 1))) (rfl) ?_
  refine OPS.nil ?_
  exact ⟨k - 1, by omega, _, _, s0, s1, s6, rfl, int_eq (by omega), by omega, ⟨q3, q4⟩, short_step (by omega) hy.1 hr.1 hua.1 rfl (by rw [show k - 1 + 1 = k by omega]; exact hval), fun j hj => by rw [getD_set_ne' _ _ _ _ (by omega)]; exact hold j (by omega), by simpa using hxl, hxu.set _ (by omega) (by omega), RW, E⟩
 ·skip
  have pF := hq15
  replace hq15 := of_decide_eq_false hq15
  have qF := hq15
  try rw [pF]
  refine W_exit ?_
  change WP _ _ _ _ _ _
  refine W_seq ?_
  refine W_region rfl ?_
  refine S_move rfl rfl rfl (v := (.slice (some ⟨g, 0, none⟩) m cc)) (s6) ?_
  refine S_call en_assayerref01_trim rfl rfl rfl (vs := [(.slice (some ⟨g, 0, none⟩) m cc)]) (rfl) (ref01Trim_c _ _ xs (RW.on hxu).r) ?_
  rintro r_ _ ⟨⟨A, c', k', hv, hr_, hk', ht⟩, rfl⟩
  refine S_move rfl rfl rfl (v := (.int .u64 r)) (s7) ?_
  refine S_conv Tryz.underlying124 Tryz.underlying106 rfl rfl rfl (rfl) (b := r) (wrap_u32 (by omega) (by omega)) ?_
  refine S_assign rfl rfl rfl (v := r_) (rfl) ?_
  refine S_assign rfl rfl rfl (v := (.int .u32 r)) (rfl) ?_
  refine OPS.nil ?_
  change WP _ _ _ _ _ _
  refine W_ret ?_
  change Fin' _ _ _ _ _ _
  refine End2 (n := ⟨42, []⟩) (t := 4) (u := 5) rfl (by decide) (by decide) (rfl) (rfl) ?_
  have hi : k = 0 := by omega
  subst hi
  simp only [List.drop_zero] at hval
  have h9 := RW.on hxu
  rw [hv] at h9
  subst hr_
  have h8 := h9.prefix_ hk'
  rw [ht] at h8
  have hry : r.toNat < y.toNat := by omega
  have e1 : val la / y.toNat = val xs := by rw [hval, Nat.mul_comm, Nat.mul_add_div (by omega), Nat.div_eq_of_lt hry, Nat.add_zero]
  have e2 : val la % y.toNat = r.toNat := by rw [hval, Nat.mul_comm, Nat.mul_add_mod, Nat.mod_eq_of_lt hry]
  refine ⟨E, _, ?_, by rw [e1]; exact h8⟩
  rw [e2, Int.toNat_of_nonneg hr.1]
  rfl

set_option maxHeartbeats 400000 in
theorem ref01Up_c (w0 : World) (va : Value) (la : List Int) (q : Nat) {a b : Nat} (ha : RN a b w0 va la) (hsa : la.length ≤ SZ) :
    Ret Tryz.prog 165 [va, (.int .u64 ((q % 32 : Nat) : Int))] w0 (fun r w1 => Below w0.heap.size w0 w1 ∧ ∃ (g : Nat) (xs : List Int), r = .slice (some ⟨g, 0, none⟩) (la.length + 1) (la.length + 1) ∧ w0.heap.size ≤ g ∧ xs.length = la.length + 1 ∧ U32 xs ∧ val xs = val la * 2 ^ (q % 32) ∧ Blk w1 g (nums .u32 xs) 106) := by
 have E := Below.refl w0.heap.size w0
 unfold SZ at hsa
 have hr : q % 32 < 32 := Nat.mod_lt _ (by decide)
 refine Ret_of (n := 43) Tryz.func165 rfl rfl (Nat.le_of_ble_eq_true rfl) ?_
 refine W_seq ?_
 refine W_region rfl ?_
 refine S_assign rfl rfl rfl (v := (.slice none 0 0)) (rfl) ?_
 refine OPS.nil ?_
 change WP _ _ _ _ _ _
 refine W_seq ?_
 refine W_region rfl ?_
 refine S_move rfl rfl rfl (v := va) (rfl) ?_
 refine S_len Tryz.underlying23 rfl rfl rfl (rfl) (m := la.length) (ha.len) ?_
 refine S_add64 rfl rfl rfl rfl (rfl) (rfl) (by omega) ?_
 refine S_make Tryz.underlying23 ti_uint32 rfl rfl rfl rfl (rfl) (m := la.length + 1) (by omega) (by omega) (by omega) ?_
 intro g1 w1 hg1 hs1 hB1 b1
 rw [nums_rep] at b1
 have hz1 := hB1.size
 have E := Below.step E hB1
 refine S_assign rfl rfl rfl (v := (.slice (some ⟨g1, 0, none⟩) (la.length + 1) (la.length + 1))) (rfl) ?_
 refine OPS.nil ?_
 change WP _ _ _ _ _ _
 refine W_seq ?_
 refine W_seq ?_
 refine W_region rfl ?_
 obtain ⟨m, hmm⟩ : ∃ m, m = la.length + 1 := ⟨_, rfl⟩
 refine S_assign rfl rfl rfl (v := (.int .i64 0)) (rfl) ?_
 refine OPS.nil ?_
 change WP _ _ _ _ _ _
 refine W_block ?_
 refine W_loop (fun k σ w => ∃ (i : Nat) (xs : List Int), σ 0 = va ∧ σ 1 = .int .u64 ((q % 32 : Nat) : Int) ∧ σ 5 = .slice (some ⟨g1, 0, none⟩) m m ∧ σ 6 = .int .i64 (i : Int) ∧ i + k = la.length ∧
      val xs = val (la.take i) * 2 ^ (q % 32) ∧ (xs.getD i 0).toNat < 2 ^ (q % 32) ∧ (∀ j, i < j → xs.getD j 0 = 0) ∧ xs.length = m ∧ U32 xs ∧ Blk w g1 (nums .u32 xs) 106 ∧ Below w0.heap.size w0 w) (la.length) ⟨0, List.replicate m 0, rfl, rfl, by rw [hmm]; rfl, rfl, by omega, by rw [val_zeros]; simp [val], by rw [rep_getD]; exact Nat.pow_pos (by decide), fun j _ => rep_getD m j, by simp, U32.replicate m, by rw [hmm]; exact b1, E⟩ ?_
 rintro k σ w ⟨i, xs, s0, s1, s5, s6, hik, hval, hlow, hz, hxl, hxu, b1, E⟩
 have hua := ha.u32.getD i
 have huo := hxu.getD i
 obtain ⟨hn1, hn2⟩ := shl_lt hua hr
 obtain ⟨ho1, ho2⟩ := or_low hr huo hlow hua
 refine W_seq ?_
 refine W_seq ?_
 refine W_region rfl ?_
 refine S_move rfl rfl rfl (v := (.int .i64 (i : Int))) (s6) ?_
 refine S_move rfl rfl rfl (v := va) (s0) ?_
 refine S_len Tryz.underlying23 rfl rfl rfl (rfl) (m := la.length) (ha.len) ?_
 refine S_bin rfl rfl rfl rfl rfl (rfl) (rfl) (v := .bool (decide ((i : Int) < (la.length : Int)))) rfl ?_
 refine OPS.nil ?_
 change WP _ _ _ _ _ _
 refine W_cond rfl (rfl) (fun hq15 => ?_) (fun hq15 => ?_)
 ·skip
  have pT := hq15
  replace hq15 := of_decide_eq_true hq15
  have qT := hq15
  try rw [pT]
  refine W_skip ?_
  change WP _ _ _ _ _ _
  refine W_seq ?_
  refine W_block ?_
  refine W_seq ?_
  refine W_region rfl ?_
  have hst := shift_step0 (xs := xs) (by omega) hua hr rfl huo.1 (hz _ (by omega)) hval
  refine S_move rfl rfl rfl (v := va) (s0) ?_
  refine S_move rfl rfl rfl (v := (.int .i64 (i : Int))) (s6) ?_
  obtain ⟨ad1, hp3, hc2⟩ := (ha.below E).at i (by omega)
  refine S_idx Tryz.underlying23 ti_uint32 rfl rfl rfl rfl (rfl) (rfl) hp3 (by omega) ?_
  refine S_load rfl rfl rfl (rfl) (LD.one ti_uint32 hc2) ?_
  refine S_conv Tryz.underlying106 Tryz.underlying124 rfl rfl rfl (rfl) (b := (la.getD i 0)) (wrap_u64 hua.1 (by omega)) ?_
  refine S_move rfl rfl rfl (v := (.int .u64 ((q % 32 : Nat) : Int))) (s1) ?_
  refine S_shl rfl rfl rfl rfl (rfl) (rfl) (by omega) (v := (la.getD i 0 * 2 ^ (q % 32))) (shl_eq hua) ?_
  refine S_assign rfl rfl rfl (v := (.int .u64 (la.getD i 0 * 2 ^ (q % 32)))) (rfl) ?_
  refine OPS.nil ?_
  change WP _ _ _ _ _ _
  refine W_seq ?_
  refine W_region rfl ?_
  refine S_move rfl rfl rfl (v := (.slice (some ⟨g1, 0, none⟩) m m)) (s5) ?_
  refine S_move rfl rfl rfl (v := (.int .i64 (i : Int))) (s6) ?_
  refine S_move rfl rfl rfl (v := (.slice (some ⟨g1, 0, none⟩) m m)) (s5) ?_
  refine S_move rfl rfl rfl (v := (.int .i64 (i : Int))) (s6) ?_
  refine S_idx Tryz.underlying23 ti_uint32 rfl rfl rfl rfl (rfl) (rfl) (j := i) (ad := ⟨g1, i, none⟩) (SlAt.own1 (by omega)) (by omega) ?_
  refine S_load rfl rfl rfl (rfl) (LD.one ti_uint32 (b1.num (by omega))) ?_
  refine S_move rfl rfl rfl (v := (.int .u64 (la.getD i 0 * 2 ^ (q % 32)))) (rfl) ?_
  refine S_conv Tryz.underlying124 Tryz.underlying106 rfl rfl rfl (rfl) (b := ((la.getD i 0 * 2 ^ (q % 32)) % 4294967296)) (wrap_u32' _) ?_
  refine S_bits rfl rfl rfl rfl (by simp) (rfl) (rfl) (v := ((xs.getD i 0) + (la.getD i 0 * 2 ^ (q % 32)) % 4294967296)) (ho1) ?_
  refine S_idx Tryz.underlying23 ti_uint32 rfl rfl rfl rfl (rfl) (rfl) (j := i) (ad := ⟨g1, i, none⟩) (SlAt.own1 (by omega)) (by omega) ?_
  refine S_storeN ti_uint32 rfl rfl rfl rfl (g := g1) (o := i) (rfl) (a := ((xs.getD i 0) + (la.getD i 0 * 2 ^ (q % 32)) % 4294967296)) (rfl) b1 (by omega) ?_
  intro w2 hU2 b1
  have E := Below.stepU E hU2 (by omega)
  have hz2 := hU2.size
  refine OPS.nil ?_
  change WP _ _ _ _ _ _
  refine W_region rfl ?_
  refine S_move rfl rfl rfl (v := (.slice (some ⟨g1, 0, none⟩) m m)) (s5) ?_
  refine S_move rfl rfl rfl (v := (.int .i64 (i : Int))) (s6) ?_
  refine S_add64 rfl rfl rfl rfl (rfl) (rfl) (by omega) ?_
  refine S_move rfl rfl rfl (v := (.int .u64 (la.getD i 0 * 2 ^ (q % 32)))) (rfl) ?_
  refine S_shr rfl rfl rfl rfl (rfl) (rfl) (by omega) (v := ((la.getD i 0 * 2 ^ (q % 32)) / 4294967296)) (shr32 _) ?_
  refine S_conv Tryz.underlying124 Tryz.underlying106 rfl rfl rfl (rfl) (b := ((la.getD i 0 * 2 ^ (q % 32)) / 4294967296)) (wrap_u32 (by omega) (by omega)) ?_
  refine S_idx Tryz.underlying23 ti_uint32 rfl rfl rfl rfl (rfl) (rfl) (j := (i + 1)) (ad := ⟨g1, (i + 1), none⟩) (SlAt.own1 (by omega)) (by omega) ?_
  refine S_storeN ti_uint32 rfl rfl rfl rfl (g := g1) (o := (i + 1)) (rfl) (a := ((la.getD i 0 * 2 ^ (q % 32)) / 4294967296)) (rfl) b1 (by simp; omega) ?_
  intro w3 hU3 b1
  have E := Below.stepU E hU3 (by omega)
  have hz3 := hU3.size
  refine OPS.nil ?_
  change WP _ _ _ _ _ _
  refine W_region rfl ?_
  refine S_move rfl rfl rfl (v := (.int .i64 (i : Int))) (s6) ?_
  refine S_add64 rfl rfl rfl rfl (rfl) (rfl) (by omega) ?_
  refine S_assign rfl rfl rfl (v := (.int .i64 ((i : Int) + 1))) (rfl) ?_
  refine OPS.nil ?_
  exact ⟨k - 1, by omega, i + 1, _, s0, s1, s5, int_eq (by omega), by omega, hst.1, by rw [getD_set_eq' _ _ _ (by simp; omega)]; exact hst.2, fun j hj => by rw [getD_set_ne' _ _ _ _ (by omega), getD_set_ne' _ _ _ _ (by omega)]; exact hz j (by omega), by simpa using hxl, (hxu.set _ (by omega) (by omega)).set _ (by omega) (by omega), b1, E⟩
 ·skip
  have pF := hq15
  replace hq15 := of_decide_eq_false hq15
  have qF := hq15
  try rw [pF]
  refine W_exit ?_
  change WP _ _ _ _ _ _
  refine W_seq ?_
  refine W_region rfl ?_
  refine S_move rfl rfl rfl (v := (.slice (some ⟨g1, 0, none⟩) m m)) (s5) ?_
  refine S_assign rfl rfl rfl (v := (.slice (some ⟨g1, 0, none⟩) m m)) (rfl) ?_
  refine OPS.nil ?_
  change WP _ _ _ _ _ _
  refine W_ret ?_
  change Fin' _ _ _ _ _ _
  refine End1 (n := ⟨43, []⟩) (t := 4) rfl (by decide) (v := (.slice (some ⟨g1, 0, none⟩) m m)) (rfl) ?_
  have hi : i = la.length := by omega
  subst hi
  rw [List.take_length] at hval
  exact ⟨E, g1, xs, by rw [hmm], by omega, by omega, hxu, hval, b1⟩

set_option maxHeartbeats 400000 in
theorem ref01Down_0 (w0 : World) (va : Value) (la : List Int) (q : Nat) {a b : Nat} (ha : RN a b w0 va la) (hsa : la.length ≤ SZ) (h0 : la.length = 0) :
    Ret Tryz.prog 170 [va, (.int .u64 ((q % 32 : Nat) : Int))] w0 (fun r w1 => Below w0.heap.size w0 w1 ∧ ON w0.heap.size w1 r (dg (val la / 2 ^ (q % 32)))) := by
 have E := Below.refl w0.heap.size w0
 refine Ret_of (n := 44) Tryz.func170 rfl rfl (Nat.le_of_ble_eq_true rfl) ?_
 refine W_seq ?_
 refine W_region rfl ?_
 refine S_assign rfl rfl rfl (v := (.slice none 0 0)) (rfl) ?_
 refine OPS.nil ?_
 change WP _ _ _ _ _ _
 refine W_seq ?_
 refine W_region rfl ?_
 refine S_move rfl rfl rfl (v := va) (rfl) ?_
 refine S_call en_assayerref01_Twin rfl rfl rfl (vs := [va]) (rfl) (ref01Twin_c _ _ la ha hsa) ?_
 rintro vh1 w1 ⟨hB1, h1⟩
 have hz1 := hB1.size
 have E := Below.step E hB1
 refine S_assign rfl rfl rfl (v := vh1) (rfl) ?_
 refine OPS.nil ?_
 change WP _ _ _ _ _ _
 refine W_seq ?_
 refine W_seq ?_
 refine W_region rfl ?_
 refine S_assign rfl rfl rfl (v := (.int .i64 0)) (rfl) ?_
 refine OPS.nil ?_
 change WP _ _ _ _ _ _
 refine W_block ?_
 refine W_loop (fun k σ w => ∃ v, σ 5 = v ∧ σ 6 = .int .i64 0 ∧ ON w0.heap.size w v la ∧ Below w0.heap.size w0 w) (0) ⟨_, rfl, rfl, h1, E⟩ ?_
 rintro k σ w ⟨v, s5, s6, h1, E⟩
 refine W_seq ?_
 refine W_seq ?_
 refine W_region rfl ?_
 refine S_move rfl rfl rfl (v := (.int .i64 (0 : Int))) (s6) ?_
 refine S_move rfl rfl rfl (v := v) (s5) ?_
 refine S_len Tryz.underlying23 rfl rfl rfl (rfl) (m := la.length) (h1.r.len) ?_
 refine S_bin rfl rfl rfl rfl rfl (rfl) (rfl) (v := .bool false) (by simp [binV, h0]) ?_
 refine OPS.nil ?_
 change WP _ _ _ _ _ _
 refine W_cond rfl (b := false) (rfl) (fun h => (by cases h)) (fun _ => ?_)
 refine W_exit ?_
 change WP _ _ _ _ _ _
 refine W_seq ?_
 refine W_region rfl ?_
 refine S_move rfl rfl rfl (v := v) (s5) ?_
 refine S_call en_assayerref01_trim rfl rfl rfl (vs := [v]) (rfl) (ref01Trim_c _ _ la h1.r) ?_
 rintro r_ _ ⟨⟨A, c', k', hv, hr, hk', ht⟩, rfl⟩
 refine S_assign rfl rfl rfl (v := r_) (rfl) ?_
 refine OPS.nil ?_
 change WP _ _ _ _ _ _
 refine W_ret ?_
 change Fin' _ _ _ _ _ _
 refine End1 (n := ⟨44, []⟩) (t := 4) rfl (by decide) (v := r_) (rfl) ?_
 subst hv
 subst hr
 have := h1.prefix_ hk'
 rw [ht, List.eq_nil_of_length_eq_zero h0, val_nil] at this
 rw [List.eq_nil_of_length_eq_zero h0, val_nil, Nat.zero_div]
 exact ⟨E, this⟩

set_option maxHeartbeats 400000 in
theorem ref01Down_1 (w0 : World) (va : Value) (la : List Int) (q : Nat) {a b : Nat} (ha : RN a b w0 va la) (hsa : la.length ≤ SZ) (h0 : 0 < la.length) :
    Ret Tryz.prog 170 [va, (.int .u64 ((q % 32 : Nat) : Int))] w0 (fun r w1 => Below w0.heap.size w0 w1 ∧ ON w0.heap.size w1 r (dg (val la / 2 ^ (q % 32)))) := by
 have E := Below.refl w0.heap.size w0
 unfold SZ at hsa
 have hr : q % 32 < 32 := Nat.mod_lt _ (by decide)
 obtain ⟨m, hmm⟩ : ∃ m, m = la.length := ⟨_, rfl⟩
 refine Ret_of (n := 44) Tryz.func170 rfl rfl (Nat.le_of_ble_eq_true rfl) ?_
 refine W_seq ?_
 refine W_region rfl ?_
 refine S_assign rfl rfl rfl (v := (.slice none 0 0)) (rfl) ?_
 refine OPS.nil ?_
 change WP _ _ _ _ _ _
 refine W_seq ?_
 refine W_region rfl ?_
 refine S_move rfl rfl rfl (v := va) (rfl) ?_
 refine S_call en_assayerref01_Twin rfl rfl rfl (vs := [va]) (rfl) (ref01Twin_c _ _ la ha hsa) ?_
 rintro vh1 w1 ⟨hB1, h1⟩
 have hz1 := hB1.size
 have E := Below.step E hB1
 obtain ⟨g, cc, RW⟩ := h1.ow h0
 have hgE := RW.2.1
 refine S_assign rfl rfl rfl (v := vh1) (rfl) ?_
 refine OPS.nil ?_
 change WP _ _ _ _ _ _
 refine W_seq ?_
 refine W_seq ?_
 refine W_region rfl ?_
 refine S_assign rfl rfl rfl (v := (.int .i64 0)) (rfl) ?_
 refine OPS.nil ?_
 change WP _ _ _ _ _ _
 refine W_block ?_
 refine W_loop (fun k σ w => ∃ (i : Nat) (xs : List Int), σ 1 = .int .u64 ((q % 32 : Nat) : Int) ∧ σ 5 = .slice (some ⟨g, 0, none⟩) m cc ∧ σ 6 = .int .i64 (i : Int) ∧ i + k = m ∧
      val (xs.take i) = (val la / 2 ^ (q % 32)) % 4294967296 ^ i ∧ (∀ j, i ≤ j → xs.getD j 0 = la.getD j 0) ∧ xs.length = m ∧ U32 xs ∧ OW w0.heap.size g cc w (.slice (some ⟨g, 0, none⟩) m cc) xs ∧ Below w0.heap.size w0 w) (m) ⟨0, la, rfl, by rw [hmm]; exact RW.1, rfl, by omega, by simp [val, Nat.mod_one], fun _ _ => rfl, by omega, ha.u32, by rw [hmm, ← RW.1]; exact RW, E⟩ ?_
 rintro k σ w ⟨i, xs, s1, s5, s6, hik, hval, hold, hxl, hxu, RW, E⟩
 have hhi := ha.u32.getD (i + 1)
 have hlo := ha.u32.getD i
 have hxi := hold i (by omega)
 have hxj := hold (i + 1) (by omega)
 have hpt := back_part0 ha.u32 (i := i) hr
 have hzl := Nat.div_le_self ((la.getD (i + 1) 0) * 4294967296 + (la.getD i 0)).toNat (2 ^ (q % 32))
 have hzl2 := Nat.div_le_self (la.getD i 0).toNat (2 ^ (q % 32))
 refine W_seq ?_
 refine W_seq ?_
 refine W_region rfl ?_
 refine S_move rfl rfl rfl (v := (.int .i64 (i : Int))) (s6) ?_
 refine S_move rfl rfl rfl (v := (.slice (some ⟨g, 0, none⟩) m cc)) (s5) ?_
 refine S_len Tryz.underlying23 rfl rfl rfl (rfl) (m := m) (⟨_, _, rfl⟩) ?_
 refine S_bin rfl rfl rfl rfl rfl (rfl) (rfl) (v := .bool (decide ((i : Int) < (m : Int)))) rfl ?_
 refine OPS.nil ?_
 change WP _ _ _ _ _ _
 refine W_cond rfl (rfl) (fun hq13 => ?_) (fun hq13 => ?_)
 ·skip
  have pT := hq13
  replace hq13 := of_decide_eq_true hq13
  have qT := hq13
  try rw [pT]
  refine W_skip ?_
  change WP _ _ _ _ _ _
  refine W_seq ?_
  refine W_block ?_
  refine W_seq ?_
  refine W_region rfl ?_
  refine S_move rfl rfl rfl (v := (.slice (some ⟨g, 0, none⟩) m cc)) (s5) ?_
  refine S_move rfl rfl rfl (v := (.int .i64 (i : Int))) (s6) ?_
  refine S_idx Tryz.underlying23 ti_uint32 rfl rfl rfl rfl (rfl) (rfl) (j := i) (ad := ⟨g, i, none⟩) (SlAt.own1 (by omega)) (by omega) ?_
  refine S_load rfl rfl rfl (rfl) (LD.one ti_uint32 (RW.cell (by omega))) ?_
  refine S_conv Tryz.underlying106 Tryz.underlying124 rfl rfl rfl (rfl) (b := (la.getD i 0)) ((wrap_u64 (by omega) (by omega)).trans hxi) ?_
  refine S_assign rfl rfl rfl (v := (.int .u64 (la.getD i 0))) (rfl) ?_
  refine OPS.nil ?_
  change WP _ _ _ _ _ _
  refine W_seq ?_
  refine W_seq ?_
  refine W_region rfl ?_
  refine S_move rfl rfl rfl (v := (.int .i64 (i : Int))) (s6) ?_
  refine S_add64 rfl rfl rfl rfl (rfl) (rfl) (by omega) ?_
  refine S_move rfl rfl rfl (v := (.slice (some ⟨g, 0, none⟩) m cc)) (s5) ?_
  refine S_len Tryz.underlying23 rfl rfl rfl (rfl) (m := m) (⟨_, _, rfl⟩) ?_
  refine S_bin rfl rfl rfl rfl rfl (rfl) (rfl) (v := .bool (decide (((i : Int) + 1) < (m : Int)))) rfl ?_
  refine OPS.nil ?_
  change WP _ _ _ _ _ _
  refine W_cond rfl (rfl) (fun hq25 => ?_) (fun hq25 => ?_)
  ·skip
   have pTT := hq25
   replace hq25 := of_decide_eq_true hq25
   have qTT := hq25
   try rw [pTT]
   refine W_region rfl ?_
   refine S_move rfl rfl rfl (v := (.int .u64 (la.getD i 0))) (rfl) ?_
   refine S_move rfl rfl rfl (v := (.slice (some ⟨g, 0, none⟩) m cc)) (s5) ?_
   refine S_move rfl rfl rfl (v := (.int .i64 (i : Int))) (s6) ?_
   refine S_add64 rfl rfl rfl rfl (rfl) (rfl) (by omega) ?_
   refine S_idx Tryz.underlying23 ti_uint32 rfl rfl rfl rfl (rfl) (rfl) (j := (i + 1)) (ad := ⟨g, (i + 1), none⟩) (SlAt.own1 (by omega)) (by omega) ?_
   refine S_load rfl rfl rfl (rfl) (LD.one ti_uint32 (RW.cell (by omega))) ?_
   refine S_conv Tryz.underlying106 Tryz.underlying124 rfl rfl rfl (rfl) (b := (la.getD (i + 1) 0)) ((wrap_u64 (by omega) (by omega)).trans hxj) ?_
   refine S_shl rfl rfl rfl rfl (rfl) (rfl) (by omega) (v := ((la.getD (i + 1) 0) * 4294967296)) (S_shl32 hhi) ?_
   refine S_bits rfl rfl rfl rfl (by simp) (rfl) (rfl) (v := ((la.getD (i + 1) 0) * 4294967296 + (la.getD i 0))) (lo_hi hhi hlo) ?_
   refine S_assign rfl rfl rfl (v := (.int .u64 ((la.getD (i + 1) 0) * 4294967296 + (la.getD i 0)))) (rfl) ?_
   refine OPS.nil ?_
   change WP _ _ _ _ _ _
   refine W_region rfl ?_
   refine S_move rfl rfl rfl (v := (.slice (some ⟨g, 0, none⟩) m cc)) (s5) ?_
   refine S_move rfl rfl rfl (v := (.int .i64 (i : Int))) (s6) ?_
   refine S_move rfl rfl rfl (v := (.int .u64 ((la.getD (i + 1) 0) * 4294967296 + (la.getD i 0)))) (rfl) ?_
   refine S_move rfl rfl rfl (v := (.int .u64 ((q % 32 : Nat) : Int))) (s1) ?_
   refine S_shr rfl rfl rfl rfl (rfl) (rfl) (by omega) (v := ((((la.getD (i + 1) 0) * 4294967296 + (la.getD i 0)).toNat / 2 ^ (q % 32) : Nat) : Int)) (shr_eq (by omega)) ?_
   refine S_conv Tryz.underlying124 Tryz.underlying106 rfl rfl rfl (rfl) (b := (((((la.getD (i + 1) 0) * 4294967296 + (la.getD i 0)).toNat / 2 ^ (q % 32) : Nat) : Int) % 4294967296)) (wrap_u32' _) ?_
   refine S_idx Tryz.underlying23 ti_uint32 rfl rfl rfl rfl (rfl) (rfl) (j := i) (ad := ⟨g, i, none⟩) (SlAt.own1 (by omega)) (by omega) ?_
   refine S_storeOW ti_uint32 rfl rfl rfl rfl (g := g) (o := i) (rfl) (a := (((((la.getD (i + 1) 0) * 4294967296 + (la.getD i 0)).toNat / 2 ^ (q % 32) : Nat) : Int) % 4294967296)) (rfl) RW (by omega) ?_
   intro w2 hU2 RW
   have E := Below.stepU E hU2 (by omega)
   have hz2 := hU2.size
   refine OPS.nil ?_
   change WP _ _ _ _ _ _
   refine W_region rfl ?_
   refine S_move rfl rfl rfl (v := (.int .i64 (i : Int))) (s6) ?_
   refine S_add64 rfl rfl rfl rfl (rfl) (rfl) (by omega) ?_
   refine S_assign rfl rfl rfl (v := (.int .i64 ((i : Int) + 1))) (rfl) ?_
   refine OPS.nil ?_
   have hzn : ((la.getD (i + 1) 0) * 4294967296 + (la.getD i 0)).toNat = (la.getD (i + 1) 0).toNat * 4294967296 + (la.getD i 0).toNat := by omega
   exact ⟨k - 1, by omega, i + 1, _, s1, s5, int_eq (by omega), by omega, by rw [val_set_take _ _ _ (by omega), mod_step _ _ _ (by decide), hval, hpt, ← hzn]; congr 2, fun j hj => by rw [getD_set_ne' _ _ _ _ (by omega)]; exact hold j (by omega), by simpa using hxl, hxu.set _ (by omega) (by omega), RW, E⟩
  ·skip
   have pTF := hq25
   replace hq25 := of_decide_eq_false hq25
   have qTF := hq25
   try rw [pTF]
   refine W_skip ?_
   change WP _ _ _ _ _ _
   refine W_region rfl ?_
   refine S_move rfl rfl rfl (v := (.slice (some ⟨g, 0, none⟩) m cc)) (s5) ?_
   refine S_move rfl rfl rfl (v := (.int .i64 (i : Int))) (s6) ?_
   refine S_move rfl rfl rfl (v := (.int .u64 (la.getD i 0))) (rfl) ?_
   refine S_move rfl rfl rfl (v := (.int .u64 ((q % 32 : Nat) : Int))) (s1) ?_
   refine S_shr rfl rfl rfl rfl (rfl) (rfl) (by omega) (v := (((la.getD i 0).toNat / 2 ^ (q % 32) : Nat) : Int)) (shr_eq (by omega)) ?_
   refine S_conv Tryz.underlying124 Tryz.underlying106 rfl rfl rfl (rfl) (b := ((((la.getD i 0).toNat / 2 ^ (q % 32) : Nat) : Int) % 4294967296)) (wrap_u32' _) ?_
   refine S_idx Tryz.underlying23 ti_uint32 rfl rfl rfl rfl (rfl) (rfl) (j := i) (ad := ⟨g, i, none⟩) (SlAt.own1 (by omega)) (by omega) ?_
   refine S_storeOW ti_uint32 rfl rfl rfl rfl (g := g) (o := i) (rfl) (a := ((((la.getD i 0).toNat / 2 ^ (q % 32) : Nat) : Int) % 4294967296)) (rfl) RW (by omega) ?_
   intro w3 hU3 RW
   have E := Below.stepU E hU3 (by omega)
   have hz3 := hU3.size
   refine OPS.nil ?_
   change WP _ _ _ _ _ _
   refine W_region rfl ?_
   refine S_move rfl rfl rfl (v := (.int .i64 (i : Int))) (s6) ?_
   refine S_add64 rfl rfl rfl rfl (rfl) (rfl) (by omega) ?_
   refine S_assign rfl rfl rfl (v := (.int .i64 ((i : Int) + 1))) (rfl) ?_
   refine OPS.nil ?_
   have hz0 : la.getD (i + 1) 0 = 0 := getD_out (by omega)
   have hzn : (la.getD i 0).toNat = (la.getD (i + 1) 0).toNat * 4294967296 + (la.getD i 0).toNat := by omega
   exact ⟨k - 1, by omega, i + 1, _, s1, s5, int_eq (by omega), by omega, by rw [val_set_take _ _ _ (by omega), mod_step _ _ _ (by decide), hval, hpt, ← hzn]; congr 2, fun j hj => by rw [getD_set_ne' _ _ _ _ (by omega)]; exact hold j (by omega), by simpa using hxl, hxu.set _ (by omega) (by omega), RW, E⟩
 ·skip
  have pF := hq13
  replace hq13 := of_decide_eq_false hq13
  have qF := hq13
  try rw [pF]
  refine W_exit ?_
  change WP _ _ _ _ _ _
  refine W_seq ?_
  refine W_region rfl ?_
  refine S_move rfl rfl rfl (v := (.slice (some ⟨g, 0, none⟩) m cc)) (s5) ?_
  refine S_call en_assayerref01_trim rfl rfl rfl (vs := [(.slice (some ⟨g, 0, none⟩) m cc)]) (rfl) (ref01Trim_c _ _ xs (RW.on hxu).r) ?_
  rintro r_ _ ⟨⟨A, c', k', hv, hr_, hk', ht⟩, rfl⟩
  refine S_assign rfl rfl rfl (v := r_) (rfl) ?_
  refine OPS.nil ?_
  change WP _ _ _ _ _ _
  refine W_ret ?_
  change Fin' _ _ _ _ _ _
  refine End1 (n := ⟨44, []⟩) (t := 4) rfl (by decide) (v := r_) (rfl) ?_
  have hi : i = xs.length := by omega
  subst hi
  rw [List.take_length] at hval
  have h9 := RW.on hxu
  rw [hv] at h9
  subst hr_
  have h8 := h9.prefix_ hk'
  rw [ht, hval, show xs.length = la.length by omega, back_end0 ha.u32] at h8
  exact ⟨E, h8⟩


theorem ref01Down_c (w0 : World) (va : Value) (la : List Int) (q : Nat) {a b : Nat} (ha : RN a b w0 va la) (hsa : la.length ≤ SZ) : Ret Tryz.prog 170 [va, .int .u64 ((q % 32 : Nat) : Int)] w0 (fun r w1 => Below w0.heap.size w0 w1 ∧ ON w0.heap.size w1 r (dg (val la / 2 ^ (q % 32)))) := by
  rcases Nat.eq_zero_or_pos la.length with h0 | h0
  · exact ref01Down_0 w0 va la q ha hsa h0
  · exact ref01Down_1 w0 va la q ha hsa h0

end Go.Proofs.YtccmicegihlfbaaGreatDoor

/- The document's quotients: guesses, taking and giving back. -/
namespace Go.Proofs.YtccmicegihlfbaaGreatDoor
open Go.RowKit


section
variable {B M v v1 v2 vr u top u2 ur q r : Nat}
theorem guess_dec (hv : v = vr + M * (v2 + B * v1)) (hu : u = ur + M * (u2 + B * top)) (hur : ur < M) (hqr : q * v1 + r = top) (ht : r * B + u2 < q * v2) (hvp : 0 < v) : 1 ≤ q ∧ u / v ≤ q - 1 := by
  have h1 : u2 + B * top < q * (v2 + B * v1) := by
    rw [Nat.mul_add, ← hqr, Nat.mul_add, show q * (B * v1) = B * (q * v1) by rw [← Nat.mul_assoc, Nat.mul_comm q B, Nat.mul_assoc], Nat.mul_comm B r]
    omega
  have h2 := guess_lo hv hu hur h1
  have h3 := (Nat.div_lt_iff_lt_mul hvp).2 h2
  exact ⟨Nat.lt_of_le_of_lt (Nat.zero_le _) h3, Nat.le_sub_one_of_lt h3⟩
theorem guess_big (hub : u < B * v) (hq : B ≤ q) (hvp : 0 < v) (hB : 0 < B) : 1 ≤ q ∧ u / v ≤ q - 1 := by
  have h3 := Nat.lt_of_lt_of_le ((Nat.div_lt_iff_lt_mul hvp).2 hub) hq
  exact ⟨Nat.lt_of_le_of_lt (Nat.zero_le _) h3, Nat.le_sub_one_of_lt h3⟩
theorem guess_end (hv : v = vr + M * (v2 + B * v1)) (hvr : vr < M) (hv2 : v2 < B) (hu : u = ur + M * (u2 + B * top)) (hub : u < B * v) (h1 : 1 ≤ v1) (hB : 0 < B) (hM : 0 < M) (hqr : q * v1 + r = top) (ht : B ≤ r ∨ q < B ∧ q * v2 ≤ r * B + u2) : q < B ∧ q * v < u + v := by
  have hqB : q < B := by
    rcases ht with h | h
    · refine Nat.not_le.1 fun hc => ?_
      have e1 : B * v1 ≤ q * v1 := Nat.mul_le_mul_right _ hc
      have e2 : B * (v1 + 1) ≤ top := by rw [Nat.mul_add]; omega
      have e3 : v2 + B * v1 + 1 ≤ B * (v1 + 1) := by rw [Nat.mul_add]; omega
      have e4 : v < M * (v2 + B * v1 + 1) := by rw [Nat.mul_add M (v2 + B * v1)]; omega
      have e5 : M * (v2 + B * v1 + 1) ≤ M * top := Nat.mul_le_mul_left _ (Nat.le_trans e3 e2)
      have e6 : B * v ≤ B * (M * top) := Nat.mul_le_mul_left _ (by omega)
      have e7 : B * (M * top) = M * (B * top) := by ac_rfl
      rw [Nat.mul_add M u2] at hu
      omega
    · exact h.1
  refine ⟨hqB, guess_hi hv hvr hu hqB ?_ h1⟩
  rw [Nat.mul_add, ← hqr, Nat.mul_add, show q * (B * v1) = B * (q * v1) by rw [← Nat.mul_assoc, Nat.mul_comm q B, Nat.mul_assoc], Nat.mul_comm B r]
  rcases ht with h | h
  · have e1 : q * v2 ≤ B * B := Nat.mul_le_mul (by omega) (by omega)
    have e2 : B * B ≤ r * B := Nat.mul_le_mul_right _ h
    omega
  · omega
end

set_option maxHeartbeats 400000 in
theorem ref01Guess_c (w0 : World) (va vb : Value) (la lb : List Int) (i m : Nat) {a b a2 b2 : Nat} (ha : RN a b w0 va la) (hb : RN a2 b2 w0 vb lb) (hm : lb.length = m + 2) (hin : i + m + 2 < la.length) (h1 : 1 ≤ lb.getD (m + 1) 0) (hub : val ((la.drop i).take (m + 3)) < 4294967296 * val lb) :
    Ret Tryz.prog 167 [va, vb, (.int .i64 (i : Int))] w0 (fun r w1 => Below w0.heap.size w0 w1 ∧ ∃ q : Nat, r = .int .u64 (q : Int) ∧ q < 4294967296 ∧ val ((la.drop i).take (m + 3)) / val lb ≤ q ∧ q * val lb < val ((la.drop i).take (m + 3)) + val lb) := by
 have E := Below.refl w0.heap.size w0
 have hmx := ha.maxl
 obtain ⟨t1, ht1, ht1l⟩ := ha.u32.nat (i + m + 2)
 obtain ⟨t2, ht2, ht2l⟩ := ha.u32.nat (i + m + 1)
 obtain ⟨u2, hu2, hu2l⟩ := ha.u32.nat (i + m)
 obtain ⟨v1, hv1, hv1l⟩ := hb.u32.nat (m + 1)
 obtain ⟨v2, hv2, hv2l⟩ := hb.u32.nat m
 have hv1p : 1 ≤ v1 := by omega
 have hU := top3 la i m
 have hV := top2 lb m hm
 rw [ht1, ht2, hu2, Int.toNat_natCast, Int.toNat_natCast, Int.toNat_natCast] at hU
 rw [hv1, hv2, Int.toNat_natCast, Int.toNat_natCast] at hV
 have hur := val_take_lt (ha.u32.drop i) m
 have hvr := val_take_lt hb.u32 m
 have hMp : 0 < 4294967296 ^ m := Nat.pow_pos (by decide)
 have hvp : 0 < val lb := by
   have h9 : 4294967296 ^ m * 1 ≤ 4294967296 ^ m * (v2 + 4294967296 * v1) := Nat.mul_le_mul_left _ (by omega)
   omega
 have hQ0 := guess_start hV hU hur hu2l hv1p
 obtain ⟨tp, htp⟩ : ∃ tp, tp = t1 * 4294967296 + t2 := ⟨_, rfl⟩
 rw [← htp] at hU hQ0
 have hq0 := Nat.div_le_self tp v1
 have hr0 := Nat.mod_lt tp hv1p
 have hqr0 : tp / v1 * v1 + tp % v1 = tp := by rw [Nat.mul_comm]; exact Nat.div_add_mod tp v1
 refine Ret_of (n := 87) Tryz.func167 rfl rfl (Nat.le_of_ble_eq_true rfl) ?_
 refine W_seq ?_
 refine W_region rfl ?_
 refine S_assign rfl rfl rfl (v := (.int .u64 0)) (rfl) ?_
 refine OPS.nil ?_
 change WP _ _ _ _ _ _
 refine W_seq ?_
 refine W_region rfl ?_
 refine S_move rfl rfl rfl (v := vb) (rfl) ?_
 refine S_len Tryz.underlying23 rfl rfl rfl (rfl) (m := lb.length) (hb.len) ?_
 refine S_assign rfl rfl rfl (v := (.int .i64 (lb.length : Int))) (rfl) ?_
 refine OPS.nil ?_
 change WP _ _ _ _ _ _
 refine W_seq ?_
 refine D_begin mixed_ rfl rfl (fun w_ => Below w0.heap.size w0 w_) ?_
 intro w1 hB1 hz_1
 have hz1 := hB1.size
 have E := Below.step E hB1
 have hS_ : Below w0.heap.size w0 w1 := E
 have E_S := E
 refine D_move (i := 0) (listed2 := (bm 18 1)) (by kernel_rfl) rfl rfl rfl (v := va) (rfl) hS_ ?_
 refine D_move (i := 1) (listed2 := (bm 18 3)) (by kernel_rfl) rfl rfl rfl (v := (.int .i64 (i : Int))) (rfl) hS_ ?_
 refine D_move (i := 2) (listed2 := (bm 18 7)) (by kernel_rfl) rfl rfl rfl (v := (.int .i64 (lb.length : Int))) (rfl) hS_ ?_
 refine D_add64 (i := 3) (listed2 := (bm 18 15)) (by kernel_rfl) rfl rfl rfl rfl (rfl) (rfl) (by omega) hS_ ?_
 obtain ⟨ad1, hp3, hc2⟩ := ha.at (i + m + 2) (by omega)
 refine D_idx Tryz.underlying23 ti_uint32 (i := 4) (listed2 := (bm 18 31)) (by kernel_rfl) rfl rfl rfl rfl (rfl) (rfl) hp3 (by omega) hS_ ?_
 refine D_load (i := 5) (listed2 := (bm 18 63)) (by kernel_rfl) rfl rfl rfl (rfl) (fun _ hS2 => LD.one ti_uint32 (cell_below hS2 hc2)) hS_ ?_
 refine D_conv Tryz.underlying106 Tryz.underlying124 (i := 6) (listed2 := (bm 18 127)) (by kernel_rfl) rfl rfl rfl (rfl) (b := (t1 : Int)) ((wrap_u64 (by omega) (by omega)).trans ht1) hS_ ?_
 refine D_shl (i := 7) (listed2 := (bm 18 255)) (by kernel_rfl) rfl rfl rfl rfl (rfl) (rfl) (by omega) (v := ((t1 : Int) * 4294967296)) (S_shl32 ⟨by omega, by omega⟩) hS_ ?_
 refine D_move (i := 8) (listed2 := (bm 18 511)) (by kernel_rfl) rfl rfl rfl (v := va) (rfl) hS_ ?_
 refine D_move (i := 9) (listed2 := (bm 18 1023)) (by kernel_rfl) rfl rfl rfl (v := (.int .i64 (i : Int))) (rfl) hS_ ?_
 refine D_move (i := 10) (listed2 := (bm 18 2047)) (by kernel_rfl) rfl rfl rfl (v := (.int .i64 (lb.length : Int))) (rfl) hS_ ?_
 refine D_add64 (i := 11) (listed2 := (bm 18 4095)) (by kernel_rfl) rfl rfl rfl rfl (rfl) (rfl) (by omega) hS_ ?_
 refine D_sub64 (i := 12) (listed2 := (bm 18 8191)) (by kernel_rfl) rfl rfl rfl rfl (rfl) (rfl) (by omega) hS_ ?_
 obtain ⟨ad4, hp6, hc5⟩ := ha.at (i + m + 1) (by omega)
 refine D_idx Tryz.underlying23 ti_uint32 (i := 13) (listed2 := (bm 18 16383)) (by kernel_rfl) rfl rfl rfl rfl (rfl) (rfl) hp6 (by omega) hS_ ?_
 refine D_load (i := 14) (listed2 := (bm 18 32767)) (by kernel_rfl) rfl rfl rfl (rfl) (fun _ hS2 => LD.one ti_uint32 (cell_below hS2 hc5)) hS_ ?_
 refine D_conv Tryz.underlying106 Tryz.underlying124 (i := 15) (listed2 := (bm 18 65535)) (by kernel_rfl) rfl rfl rfl (rfl) (b := (t2 : Int)) ((wrap_u64 (by omega) (by omega)).trans ht2) hS_ ?_
 refine D_bits (i := 16) (listed2 := (bm 18 131071)) (by kernel_rfl) rfl rfl rfl rfl (by simp) (rfl) (rfl) (v := (tp : Int)) ((hi_lo ⟨by omega, by omega⟩ ⟨by omega, by omega⟩).trans (by omega)) hS_ ?_
 refine D_assign (i := 17) (listed2 := (bm 18 262143)) (by kernel_rfl) rfl rfl rfl (v := (.int .u64 (tp : Int))) (rfl) hS_ ?_
 refine D_done (by kernel_rfl) ?_
 change WP _ _ _ _ _ _
 refine W_seq ?_
 refine W_region rfl ?_
 refine S_move rfl rfl rfl (v := (.int .u64 (tp : Int))) (rfl) ?_
 refine S_move rfl rfl rfl (v := vb) (rfl) ?_
 refine S_move rfl rfl rfl (v := (.int .i64 (lb.length : Int))) (rfl) ?_
 refine S_sub64 rfl rfl rfl rfl (rfl) (rfl) (by omega) ?_
 obtain ⟨ad7, hp9, hc8⟩ := (hb.below E).at (m + 1) (by omega)
 refine S_idx Tryz.underlying23 ti_uint32 rfl rfl rfl rfl (rfl) (rfl) hp9 (by omega) ?_
 refine S_load rfl rfl rfl (rfl) (LD.one ti_uint32 hc8) ?_
 refine S_conv Tryz.underlying106 Tryz.underlying124 rfl rfl rfl (rfl) (b := (v1 : Int)) ((wrap_u64 (by omega) (by omega)).trans hv1) ?_
 refine S_quo rfl rfl rfl rfl (rfl) (rfl) (by omega) (v := ((tp / v1 : Nat) : Int)) (quoN rfl rfl (by omega) (by omega)) ?_
 refine S_assign rfl rfl rfl (v := (.int .u64 ((tp / v1 : Nat) : Int))) (rfl) ?_
 refine OPS.nil ?_
 change WP _ _ _ _ _ _
 refine W_seq ?_
 refine W_region rfl ?_
 refine S_move rfl rfl rfl (v := (.int .u64 (tp : Int))) (rfl) ?_
 refine S_move rfl rfl rfl (v := vb) (rfl) ?_
 refine S_move rfl rfl rfl (v := (.int .i64 (lb.length : Int))) (rfl) ?_
 refine S_sub64 rfl rfl rfl rfl (rfl) (rfl) (by omega) ?_
 obtain ⟨ad10, hp12, hc11⟩ := (hb.below E).at (m + 1) (by omega)
 refine S_idx Tryz.underlying23 ti_uint32 rfl rfl rfl rfl (rfl) (rfl) hp12 (by omega) ?_
 refine S_load rfl rfl rfl (rfl) (LD.one ti_uint32 hc11) ?_
 refine S_conv Tryz.underlying106 Tryz.underlying124 rfl rfl rfl (rfl) (b := (v1 : Int)) ((wrap_u64 (by omega) (by omega)).trans hv1) ?_
 refine S_rem rfl rfl rfl rfl (rfl) (rfl) (by omega) (v := ((tp % v1 : Nat) : Int)) (remN rfl rfl) ?_
 refine S_assign rfl rfl rfl (v := (.int .u64 ((tp % v1 : Nat) : Int))) (rfl) ?_
 refine OPS.nil ?_
 change WP _ _ _ _ _ _
 refine W_seq ?_
 refine W_block ?_
 refine W_loop (fun k σ w => ∃ (q r : Nat), σ 0 = va ∧ σ 1 = vb ∧ σ 2 = .int .i64 (i : Int) ∧ σ 7 = .int .i64 (lb.length : Int) ∧ σ 9 = .int .u64 (q : Int) ∧ σ 10 = .int .u64 (r : Int) ∧ q * v1 + r = tp ∧ val ((la.drop i).take (m + 3)) / val lb ≤ q ∧ q < 18446744073709551616 ∧ k + r = 8589934592 ∧ Below w0.heap.size w0 w) (8589934592 - tp % v1) ⟨_, _, rfl, rfl, rfl, rfl, rfl, rfl, hqr0, hQ0, by omega, by omega, E⟩ ?_
 rintro k σ w ⟨q, r, s0, s1, s2, s7, s9, s10, hqr, hUq, hq, hkr, E⟩
 refine W_seq ?_
 refine W_seq ?_
 refine D_begin mixed_ rfl rfl (fun w_ => Below w0.heap.size w0 w_) ?_
 intro w2 hB2 hz_2
 have hz2 := hB2.size
 have E := Below.step E hB2
 have hS_ : Below w0.heap.size w0 w2 := E
 have E_S := E
 refine D_move (i := 0) (listed2 := (bm 30 1)) (by kernel_rfl) rfl rfl rfl (v := (.int .u64 (r : Int))) (s10) hS_ ?_
 refine D_shr (i := 1) (listed2 := (bm 30 3)) (by kernel_rfl) rfl rfl rfl rfl (rfl) (rfl) (by omega) (v := ((r : Int) / 4294967296)) (shr32 _) hS_ ?_
 refine D_bin (i := 2) (listed2 := (bm 30 7)) (by kernel_rfl) rfl rfl rfl rfl rfl (rfl) (rfl) (v := .bool ((((r : Int) / 4294967296) == 0))) rfl hS_ ?_
 refine D_move (i := 3) (listed2 := (bm 30 15)) (by kernel_rfl) rfl rfl rfl (v := (.bool ((((r : Int) / 4294967296) == 0)))) (rfl) hS_ ?_
 rcases Bool.eq_false_or_eq_true ((((r : Int) / 4294967296) == 0)) with pT | pF
 ·skip
  rw [pT]
  have qT := eq_of_beq pT
  refine D_move (i := 4) (listed2 := (bm 30 31)) (by kernel_rfl) rfl rfl rfl (v := (.int .u64 (q : Int))) (s9) hS_ ?_
  refine D_shr (i := 5) (listed2 := (bm 30 63)) (by kernel_rfl) rfl rfl rfl rfl (rfl) (rfl) (by omega) (v := ((q : Int) / 4294967296)) (shr32 _) hS_ ?_
  refine D_bin (i := 6) (listed2 := (bm 30 127)) (by kernel_rfl) rfl rfl rfl rfl rfl (rfl) (rfl) (v := .bool (decide (((q : Int) / 4294967296) > 0))) rfl hS_ ?_
  refine D_move (i := 7) (listed2 := (bm 30 255)) (by kernel_rfl) rfl rfl rfl (v := (.bool (decide (((q : Int) / 4294967296) > 0)))) (rfl) hS_ ?_
  rcases Bool.eq_false_or_eq_true (decide (((q : Int) / 4294967296) > 0)) with pTT | pTF
  ·skip
   rw [pTT]
   have qTT := of_decide_eq_true pTT
   have hqd := guess_big (q := q) hub (by omega) hvp (by decide)
   refine D_skip (d := 54) (op := .move _) (gd := some (7, false)) (i := 8) (listed2 := (bm 30 511)) (by kernel_rfl) rfl (wg_off rfl (rfl) rfl) hS_ ?_
   refine D_skip (d := 55) (op := .move _) (gd := some (7, false)) (i := 9) (listed2 := (bm 30 1023)) (by kernel_rfl) rfl (wg_off rfl (rfl) rfl) hS_ ?_
   refine D_skip (d := 56) (op := .move _) (gd := some (7, false)) (i := 10) (listed2 := (bm 30 2047)) (by kernel_rfl) rfl (wg_off rfl (rfl) rfl) hS_ ?_
   refine D_skip (d := 57) (op := .binOp _ _ _ _ _) (gd := some (7, false)) (i := 11) (listed2 := (bm 30 4095)) (by kernel_rfl) rfl (wg_off rfl (rfl) rfl) hS_ ?_
   refine D_skip (d := 58) (op := .indexAddr _ _ _) (gd := some (7, false)) (i := 12) (listed2 := (bm 30 8191)) (by kernel_rfl) rfl (wg_off rfl (rfl) rfl) hS_ ?_
   refine D_skip (d := 59) (op := .load _ _) (gd := some (7, false)) (i := 13) (listed2 := (bm 30 16383)) (by kernel_rfl) rfl (wg_off rfl (rfl) rfl) hS_ ?_
   refine D_skip (d := 60) (op := .convert _ _ _) (gd := some (7, false)) (i := 14) (listed2 := (bm 30 32767)) (by kernel_rfl) rfl (wg_off rfl (rfl) rfl) hS_ ?_
   refine D_skip (d := 61) (op := .binOp _ _ _ _ _) (gd := some (7, false)) (i := 15) (listed2 := (bm 30 65535)) (by kernel_rfl) rfl (wg_off rfl (rfl) rfl) hS_ ?_
   refine D_skip (d := 62) (op := .move _) (gd := some (7, false)) (i := 16) (listed2 := (bm 30 131071)) (by kernel_rfl) rfl (wg_off rfl (rfl) rfl) hS_ ?_
   refine D_skip (d := 63) (op := .binOp _ _ _ _ _) (gd := some (7, false)) (i := 17) (listed2 := (bm 30 262143)) (by kernel_rfl) rfl (wg_off rfl (rfl) rfl) hS_ ?_
   refine D_skip (d := 64) (op := .move _) (gd := some (7, false)) (i := 18) (listed2 := (bm 30 524287)) (by kernel_rfl) rfl (wg_off rfl (rfl) rfl) hS_ ?_
   refine D_skip (d := 65) (op := .move _) (gd := some (7, false)) (i := 19) (listed2 := (bm 30 1048575)) (by kernel_rfl) rfl (wg_off rfl (rfl) rfl) hS_ ?_
   refine D_skip (d := 66) (op := .move _) (gd := some (7, false)) (i := 20) (listed2 := (bm 30 2097151)) (by kernel_rfl) rfl (wg_off rfl (rfl) rfl) hS_ ?_
   refine D_skip (d := 67) (op := .binOp _ _ _ _ _) (gd := some (7, false)) (i := 21) (listed2 := (bm 30 4194303)) (by kernel_rfl) rfl (wg_off rfl (rfl) rfl) hS_ ?_
   refine D_skip (d := 68) (op := .binOp _ _ _ _ _) (gd := some (7, false)) (i := 22) (listed2 := (bm 30 8388607)) (by kernel_rfl) rfl (wg_off rfl (rfl) rfl) hS_ ?_
   refine D_skip (d := 69) (op := .indexAddr _ _ _) (gd := some (7, false)) (i := 23) (listed2 := (bm 30 16777215)) (by kernel_rfl) rfl (wg_off rfl (rfl) rfl) hS_ ?_
   refine D_skip (d := 70) (op := .load _ _) (gd := some (7, false)) (i := 24) (listed2 := (bm 30 33554431)) (by kernel_rfl) rfl (wg_off rfl (rfl) rfl) hS_ ?_
   refine D_skip (d := 71) (op := .convert _ _ _) (gd := some (7, false)) (i := 25) (listed2 := (bm 30 67108863)) (by kernel_rfl) rfl (wg_off rfl (rfl) rfl) hS_ ?_
   refine D_skip (d := 72) (op := .binOp _ _ _ _ _) (gd := some (7, false)) (i := 26) (listed2 := (bm 30 134217727)) (by kernel_rfl) rfl (wg_off rfl (rfl) rfl) hS_ ?_
   refine D_skip (d := 73) (op := .binOp _ _ _ _ _) (gd := some (7, false)) (i := 27) (listed2 := (bm 30 268435455)) (by kernel_rfl) rfl (wg_off rfl (rfl) rfl) hS_ ?_
   refine D_pick (i := 28) (listed2 := (bm 30 536870911)) (by kernel_rfl) rfl rfl rfl rfl rfl (b := true) (rfl) (v := (.bool true)) (rfl) hS_ ?_
   refine D_pick (i := 29) (listed2 := (bm 30 1073741823)) (by kernel_rfl) rfl rfl rfl rfl rfl (b := true) (rfl) (v := (.bool true)) (rfl) hS_ ?_
   refine D_done (by kernel_rfl) ?_
   change WP _ _ _ _ _ _
   refine W_cond rfl (b := true) (rfl) (fun _ => ?_) (fun h => (by cases h))
   refine W_skip ?_
   change WP _ _ _ _ _ _
   refine W_block ?_
   refine W_seq ?_
   refine W_region rfl ?_
   refine S_move rfl rfl rfl (v := (.int .u64 (q : Int))) (s9) ?_
   refine S_bin rfl rfl rfl rfl rfl (rfl) (rfl) (v := .int .u64 ((q - 1 : Nat) : Int)) (congrArg (Value.int .u64) ((wrap_u64 (by omega) (by omega)).trans (by omega))) ?_
   refine S_assign rfl rfl rfl (v := (.int .u64 ((q - 1 : Nat) : Int))) (rfl) ?_
   refine OPS.nil ?_
   change WP _ _ _ _ _ _
   refine W_region rfl ?_
   refine S_move rfl rfl rfl (v := (.int .u64 (r : Int))) (s10) ?_
   refine S_move rfl rfl rfl (v := vb) (s1) ?_
   refine S_move rfl rfl rfl (v := (.int .i64 (lb.length : Int))) (s7) ?_
   refine S_sub64 rfl rfl rfl rfl (rfl) (rfl) (by omega) ?_
   obtain ⟨ad13, hp15, hc14⟩ := (hb.below E).at (m + 1) (by omega)
   refine S_idx Tryz.underlying23 ti_uint32 rfl rfl rfl rfl (rfl) (rfl) hp15 (by omega) ?_
   refine S_load rfl rfl rfl (rfl) (LD.one ti_uint32 hc14) ?_
   refine S_conv Tryz.underlying106 Tryz.underlying124 rfl rfl rfl (rfl) (b := (v1 : Int)) ((wrap_u64 (by omega) (by omega)).trans hv1) ?_
   refine S_bin rfl rfl rfl rfl rfl (rfl) (rfl) (v := .int .u64 ((r + v1 : Nat) : Int)) (congrArg (Value.int .u64) ((wrap_u64 (by omega) (by omega)).trans (by omega))) ?_
   refine S_assign rfl rfl rfl (v := (.int .u64 ((r + v1 : Nat) : Int))) (rfl) ?_
   refine OPS.nil ?_
   exact ⟨k - v1, by omega, q - 1, r + v1, s0, s1, s2, s7, rfl, rfl, by rw [Nat.sub_mul, Nat.one_mul]; have := Nat.mul_le_mul_right v1 hqd.1; omega, hqd.2, by omega, by omega, E⟩
  ·skip
   rw [pTF]
   have qTF := of_decide_eq_false pTF
   have hqv : q * v2 < 18446744073709551616 := by
     have := Nat.mul_le_mul (show q ≤ 4294967295 by omega) (show v2 ≤ 4294967295 by omega)
     omega
   refine D_move (i := 8) (listed2 := (bm 30 511)) (by kernel_rfl) rfl rfl rfl (v := (.int .u64 (q : Int))) (s9) hS_ ?_
   refine D_move (i := 9) (listed2 := (bm 30 1023)) (by kernel_rfl) rfl rfl rfl (v := vb) (s1) hS_ ?_
   refine D_move (i := 10) (listed2 := (bm 30 2047)) (by kernel_rfl) rfl rfl rfl (v := (.int .i64 (lb.length : Int))) (s7) hS_ ?_
   refine D_sub64 (i := 11) (listed2 := (bm 30 4095)) (by kernel_rfl) rfl rfl rfl rfl (rfl) (rfl) (by omega) hS_ ?_
   obtain ⟨ad16, hp18, hc17⟩ := hb.at m (by omega)
   refine D_idx Tryz.underlying23 ti_uint32 (i := 12) (listed2 := (bm 30 8191)) (by kernel_rfl) rfl rfl rfl rfl (rfl) (rfl) hp18 (by omega) hS_ ?_
   refine D_load (i := 13) (listed2 := (bm 30 16383)) (by kernel_rfl) rfl rfl rfl (rfl) (fun _ hS2 => LD.one ti_uint32 (cell_below hS2 hc17)) hS_ ?_
   refine D_conv Tryz.underlying106 Tryz.underlying124 (i := 14) (listed2 := (bm 30 32767)) (by kernel_rfl) rfl rfl rfl (rfl) (b := (v2 : Int)) ((wrap_u64 (by omega) (by omega)).trans hv2) hS_ ?_
   refine D_bin (i := 15) (listed2 := (bm 30 65535)) (by kernel_rfl) rfl rfl rfl rfl rfl (rfl) (rfl) (v := .int .u64 ((q * v2 : Nat) : Int)) (congrArg (Value.int .u64) (mulN hqv)) hS_ ?_
   refine D_move (i := 16) (listed2 := (bm 30 131071)) (by kernel_rfl) rfl rfl rfl (v := (.int .u64 (r : Int))) (s10) hS_ ?_
   refine D_shl (i := 17) (listed2 := (bm 30 262143)) (by kernel_rfl) rfl rfl rfl rfl (rfl) (rfl) (by omega) (v := ((r : Int) * 4294967296)) (S_shl32 ⟨by omega, by omega⟩) hS_ ?_
   refine D_move (i := 18) (listed2 := (bm 30 524287)) (by kernel_rfl) rfl rfl rfl (v := va) (s0) hS_ ?_
   refine D_move (i := 19) (listed2 := (bm 30 1048575)) (by kernel_rfl) rfl rfl rfl (v := (.int .i64 (i : Int))) (s2) hS_ ?_
   refine D_move (i := 20) (listed2 := (bm 30 2097151)) (by kernel_rfl) rfl rfl rfl (v := (.int .i64 (lb.length : Int))) (s7) hS_ ?_
   refine D_add64 (i := 21) (listed2 := (bm 30 4194303)) (by kernel_rfl) rfl rfl rfl rfl (rfl) (rfl) (by omega) hS_ ?_
   refine D_sub64 (i := 22) (listed2 := (bm 30 8388607)) (by kernel_rfl) rfl rfl rfl rfl (rfl) (rfl) (by omega) hS_ ?_
   obtain ⟨ad19, hp21, hc20⟩ := ha.at (i + m) (by omega)
   refine D_idx Tryz.underlying23 ti_uint32 (i := 23) (listed2 := (bm 30 16777215)) (by kernel_rfl) rfl rfl rfl rfl (rfl) (rfl) hp21 (by omega) hS_ ?_
   refine D_load (i := 24) (listed2 := (bm 30 33554431)) (by kernel_rfl) rfl rfl rfl (rfl) (fun _ hS2 => LD.one ti_uint32 (cell_below hS2 hc20)) hS_ ?_
   refine D_conv Tryz.underlying106 Tryz.underlying124 (i := 25) (listed2 := (bm 30 67108863)) (by kernel_rfl) rfl rfl rfl (rfl) (b := (u2 : Int)) ((wrap_u64 (by omega) (by omega)).trans hu2) hS_ ?_
   refine D_bits (i := 26) (listed2 := (bm 30 134217727)) (by kernel_rfl) rfl rfl rfl rfl (by simp) (rfl) (rfl) (v := ((r : Int) * 4294967296 + (u2 : Int))) (hi_lo ⟨by omega, by omega⟩ ⟨by omega, by omega⟩) hS_ ?_
   refine D_bin (i := 27) (listed2 := (bm 30 268435455)) (by kernel_rfl) rfl rfl rfl rfl rfl (rfl) (rfl) (v := .bool (decide (((q * v2 : Nat) : Int) > ((r : Int) * 4294967296 + (u2 : Int))))) rfl hS_ ?_
   refine D_pick (i := 28) (listed2 := (bm 30 536870911)) (by kernel_rfl) rfl rfl rfl rfl rfl (b := false) (rfl) (v := (.bool (decide (((q * v2 : Nat) : Int) > ((r : Int) * 4294967296 + (u2 : Int)))))) (rfl) hS_ ?_
   refine D_pick (i := 29) (listed2 := (bm 30 1073741823)) (by kernel_rfl) rfl rfl rfl rfl rfl (b := true) (rfl) (v := (.bool (decide (((q * v2 : Nat) : Int) > ((r : Int) * 4294967296 + (u2 : Int)))))) (rfl) hS_ ?_
   refine D_done (by kernel_rfl) ?_
   change WP _ _ _ _ _ _
   refine W_cond rfl (rfl) (fun hq75 => ?_) (fun hq75 => ?_)
   ·skip
    have pTFT := hq75
    replace hq75 := of_decide_eq_true hq75
    have qTFT := hq75
    have hqd := guess_dec hV hU hur hqr (show r * 4294967296 + u2 < q * v2 by omega) hvp
    try rw [pTFT]
    refine W_skip ?_
    change WP _ _ _ _ _ _
    refine W_block ?_
    refine W_seq ?_
    refine W_region rfl ?_
    refine S_move rfl rfl rfl (v := (.int .u64 (q : Int))) (s9) ?_
    refine S_bin rfl rfl rfl rfl rfl (rfl) (rfl) (v := .int .u64 ((q - 1 : Nat) : Int)) (congrArg (Value.int .u64) ((wrap_u64 (by omega) (by omega)).trans (by omega))) ?_
    refine S_assign rfl rfl rfl (v := (.int .u64 ((q - 1 : Nat) : Int))) (rfl) ?_
    refine OPS.nil ?_
    change WP _ _ _ _ _ _
    refine W_region rfl ?_
    refine S_move rfl rfl rfl (v := (.int .u64 (r : Int))) (s10) ?_
    refine S_move rfl rfl rfl (v := vb) (s1) ?_
    refine S_move rfl rfl rfl (v := (.int .i64 (lb.length : Int))) (s7) ?_
    refine S_sub64 rfl rfl rfl rfl (rfl) (rfl) (by omega) ?_
    obtain ⟨ad22, hp24, hc23⟩ := (hb.below E).at (m + 1) (by omega)
    refine S_idx Tryz.underlying23 ti_uint32 rfl rfl rfl rfl (rfl) (rfl) hp24 (by omega) ?_
    refine S_load rfl rfl rfl (rfl) (LD.one ti_uint32 hc23) ?_
    refine S_conv Tryz.underlying106 Tryz.underlying124 rfl rfl rfl (rfl) (b := (v1 : Int)) ((wrap_u64 (by omega) (by omega)).trans hv1) ?_
    refine S_bin rfl rfl rfl rfl rfl (rfl) (rfl) (v := .int .u64 ((r + v1 : Nat) : Int)) (congrArg (Value.int .u64) ((wrap_u64 (by omega) (by omega)).trans (by omega))) ?_
    refine S_assign rfl rfl rfl (v := (.int .u64 ((r + v1 : Nat) : Int))) (rfl) ?_
    refine OPS.nil ?_
    exact ⟨k - v1, by omega, q - 1, r + v1, s0, s1, s2, s7, rfl, rfl, by rw [Nat.sub_mul, Nat.one_mul]; have := Nat.mul_le_mul_right v1 hqd.1; omega, hqd.2, by omega, by omega, E⟩
   ·skip
    have pTFF := hq75
    replace hq75 := of_decide_eq_false hq75
    have qTFF := hq75
    try rw [pTFF]
    refine W_exit ?_
    change WP _ _ _ _ _ _
    refine W_seq ?_
    refine W_region rfl ?_
    refine S_move rfl rfl rfl (v := (.int .u64 (q : Int))) (s9) ?_
    refine S_assign rfl rfl rfl (v := (.int .u64 (q : Int))) (rfl) ?_
    refine OPS.nil ?_
    change WP _ _ _ _ _ _
    refine W_ret ?_
    change Fin' _ _ _ _ _ _
    refine End1 (n := ⟨87, []⟩) (t := 6) rfl (by decide) (v := (.int .u64 (q : Int))) (rfl) ?_
    obtain ⟨f1, f2⟩ := guess_end hV hvr hv2l hU hub hv1p (by decide) hMp hqr (.inr ⟨by omega, by omega⟩)
    exact ⟨E, q, rfl, f1, hUq, f2⟩
 ·skip
  rw [pF]
  have qF := ne_of_beq_false pF
  refine D_skip (d := 50) (op := .move _) (gd := some (3, true)) (i := 4) (listed2 := (bm 30 31)) (by kernel_rfl) rfl (wg_off rfl (rfl) rfl) hS_ ?_
  refine D_skip (d := 51) (op := .binOp _ _ _ _ _) (gd := some (3, true)) (i := 5) (listed2 := (bm 30 63)) (by kernel_rfl) rfl (wg_off rfl (rfl) rfl) hS_ ?_
  refine D_skip (d := 52) (op := .binOp _ _ _ _ _) (gd := some (3, true)) (i := 6) (listed2 := (bm 30 127)) (by kernel_rfl) rfl (wg_off rfl (rfl) rfl) hS_ ?_
  refine D_skip (d := 53) (op := .move _) (gd := some (3, true)) (i := 7) (listed2 := (bm 30 255)) (by kernel_rfl) rfl (wg_off rfl (rfl) rfl) hS_ ?_
  refine D_skip (d := 54) (op := .move _) (gd := some (7, false)) (i := 8) (listed2 := (bm 30 511)) (by kernel_rfl) rfl (wg_undef rfl (rfl)) hS_ ?_
  refine D_skip (d := 55) (op := .move _) (gd := some (7, false)) (i := 9) (listed2 := (bm 30 1023)) (by kernel_rfl) rfl (wg_undef rfl (rfl)) hS_ ?_
  refine D_skip (d := 56) (op := .move _) (gd := some (7, false)) (i := 10) (listed2 := (bm 30 2047)) (by kernel_rfl) rfl (wg_undef rfl (rfl)) hS_ ?_
  refine D_skip (d := 57) (op := .binOp _ _ _ _ _) (gd := some (7, false)) (i := 11) (listed2 := (bm 30 4095)) (by kernel_rfl) rfl (wg_undef rfl (rfl)) hS_ ?_
  refine D_skip (d := 58) (op := .indexAddr _ _ _) (gd := some (7, false)) (i := 12) (listed2 := (bm 30 8191)) (by kernel_rfl) rfl (wg_undef rfl (rfl)) hS_ ?_
  refine D_skip (d := 59) (op := .load _ _) (gd := some (7, false)) (i := 13) (listed2 := (bm 30 16383)) (by kernel_rfl) rfl (wg_undef rfl (rfl)) hS_ ?_
  refine D_skip (d := 60) (op := .convert _ _ _) (gd := some (7, false)) (i := 14) (listed2 := (bm 30 32767)) (by kernel_rfl) rfl (wg_undef rfl (rfl)) hS_ ?_
  refine D_skip (d := 61) (op := .binOp _ _ _ _ _) (gd := some (7, false)) (i := 15) (listed2 := (bm 30 65535)) (by kernel_rfl) rfl (wg_undef rfl (rfl)) hS_ ?_
  refine D_skip (d := 62) (op := .move _) (gd := some (7, false)) (i := 16) (listed2 := (bm 30 131071)) (by kernel_rfl) rfl (wg_undef rfl (rfl)) hS_ ?_
  refine D_skip (d := 63) (op := .binOp _ _ _ _ _) (gd := some (7, false)) (i := 17) (listed2 := (bm 30 262143)) (by kernel_rfl) rfl (wg_undef rfl (rfl)) hS_ ?_
  refine D_skip (d := 64) (op := .move _) (gd := some (7, false)) (i := 18) (listed2 := (bm 30 524287)) (by kernel_rfl) rfl (wg_undef rfl (rfl)) hS_ ?_
  refine D_skip (d := 65) (op := .move _) (gd := some (7, false)) (i := 19) (listed2 := (bm 30 1048575)) (by kernel_rfl) rfl (wg_undef rfl (rfl)) hS_ ?_
  refine D_skip (d := 66) (op := .move _) (gd := some (7, false)) (i := 20) (listed2 := (bm 30 2097151)) (by kernel_rfl) rfl (wg_undef rfl (rfl)) hS_ ?_
  refine D_skip (d := 67) (op := .binOp _ _ _ _ _) (gd := some (7, false)) (i := 21) (listed2 := (bm 30 4194303)) (by kernel_rfl) rfl (wg_undef rfl (rfl)) hS_ ?_
  refine D_skip (d := 68) (op := .binOp _ _ _ _ _) (gd := some (7, false)) (i := 22) (listed2 := (bm 30 8388607)) (by kernel_rfl) rfl (wg_undef rfl (rfl)) hS_ ?_
  refine D_skip (d := 69) (op := .indexAddr _ _ _) (gd := some (7, false)) (i := 23) (listed2 := (bm 30 16777215)) (by kernel_rfl) rfl (wg_undef rfl (rfl)) hS_ ?_
  refine D_skip (d := 70) (op := .load _ _) (gd := some (7, false)) (i := 24) (listed2 := (bm 30 33554431)) (by kernel_rfl) rfl (wg_undef rfl (rfl)) hS_ ?_
  refine D_skip (d := 71) (op := .convert _ _ _) (gd := some (7, false)) (i := 25) (listed2 := (bm 30 67108863)) (by kernel_rfl) rfl (wg_undef rfl (rfl)) hS_ ?_
  refine D_skip (d := 72) (op := .binOp _ _ _ _ _) (gd := some (7, false)) (i := 26) (listed2 := (bm 30 134217727)) (by kernel_rfl) rfl (wg_undef rfl (rfl)) hS_ ?_
  refine D_skip (d := 73) (op := .binOp _ _ _ _ _) (gd := some (7, false)) (i := 27) (listed2 := (bm 30 268435455)) (by kernel_rfl) rfl (wg_undef rfl (rfl)) hS_ ?_
  refine D_skip (d := 74) (op := .pick _ _ _) (gd := some (3, true)) (i := 28) (listed2 := (bm 30 536870911)) (by kernel_rfl) rfl (wg_off rfl (rfl) rfl) hS_ ?_
  refine D_pick (i := 29) (listed2 := (bm 30 1073741823)) (by kernel_rfl) rfl rfl rfl rfl rfl (b := false) (rfl) (v := (.bool false)) (rfl) hS_ ?_
  refine D_done (by kernel_rfl) ?_
  change WP _ _ _ _ _ _
  refine W_cond rfl (b := false) (rfl) (fun h => (by cases h)) (fun _ => ?_)
  refine W_exit ?_
  change WP _ _ _ _ _ _
  refine W_seq ?_
  refine W_region rfl ?_
  refine S_move rfl rfl rfl (v := (.int .u64 (q : Int))) (s9) ?_
  refine S_assign rfl rfl rfl (v := (.int .u64 (q : Int))) (rfl) ?_
  refine OPS.nil ?_
  change WP _ _ _ _ _ _
  refine W_ret ?_
  change Fin' _ _ _ _ _ _
  refine End1 (n := ⟨87, []⟩) (t := 6) rfl (by decide) (v := (.int .u64 (q : Int))) (rfl) ?_
  obtain ⟨f1, f2⟩ := guess_end hV hvr hv2l hU hub hv1p (by decide) hMp hqr (.inl (by omega))
  exact ⟨E, q, rfl, f1, hUq, f2⟩

set_option maxHeartbeats 400000 in
theorem ref01Takes_c (w0 : World) (g m i : Nat) (vb : Value) (lb r0 : List Int) (hb : ∀ w, Upd g w0 w → RN 0 0 w vb lb) (b1 : Blk w0 g (nums .u32 r0) 106) (hm : r0.length = m) (hu : U32 r0) (hmx : m ≤ 9223372036854775807) (hin : i + lb.length < m) (q : Int) (hq : 0 ≤ q ∧ q < 4294967296) :
    Ret Tryz.prog 168 [(.slice (some ⟨g, 0, none⟩) m m), vb, (.int .i64 (i : Int)), (.int .u64 q)] w0 (fun r w1 => Upd g w0 w1 ∧ ∃ (xs : List Int) (owed : Int), r = .bool (decide (owed > 0)) ∧ 0 ≤ owed ∧ val ((r0.drop i).take (lb.length + 1)) + 4294967296 ^ (lb.length + 1) * owed.toNat = val ((xs.drop i).take (lb.length + 1)) + q.toNat * val lb ∧ xs.take i = r0.take i ∧ (∀ j, i + (lb.length + 1) ≤ j → xs.getD j 0 = r0.getD j 0) ∧ xs.length = m ∧ U32 xs ∧ Blk w1 g (nums .u32 xs) 106) := by
 have U := Upd.refl g w0
 have hu0 := (hb w0 U).u32
 have hlb := (hb w0 U).maxl
 refine Ret_of (n := 57) Tryz.func168 rfl rfl (Nat.le_of_ble_eq_true rfl) ?_
 refine W_seq ?_
 refine W_region rfl ?_
 refine S_assign rfl rfl rfl (v := (.bool false)) (rfl) ?_
 refine OPS.nil ?_
 change WP _ _ _ _ _ _
 refine W_seq ?_
 refine W_region rfl ?_
 refine S_assign rfl rfl rfl (v := (.int .u64 0)) (rfl) ?_
 refine OPS.nil ?_
 change WP _ _ _ _ _ _
 refine W_seq ?_
 refine W_seq ?_
 refine W_region rfl ?_
 refine S_assign rfl rfl rfl (v := (.int .i64 0)) (rfl) ?_
 refine OPS.nil ?_
 change WP _ _ _ _ _ _
 refine W_block ?_
 refine W_loop (fun p σ w => ∃ (k : Nat) (owed : Int) (xs : List Int), σ 0 = .slice (some ⟨g, 0, none⟩) m m ∧ σ 1 = vb ∧ σ 2 = .int .i64 (i : Int) ∧ σ 3 = .int .u64 q ∧ σ 9 = .int .u64 owed ∧ σ 10 = .int .i64 (k : Int) ∧ k + p = lb.length + 1 ∧ (0 ≤ owed ∧ owed ≤ 4294967296) ∧
      val ((r0.drop i).take k) + 4294967296 ^ k * owed.toNat = val ((xs.drop i).take k) + q.toNat * val (lb.take k) ∧ xs.take i = r0.take i ∧ (∀ j, i + k ≤ j → xs.getD j 0 = r0.getD j 0) ∧ xs.length = m ∧ U32 xs ∧ Blk w g (nums .u32 xs) 106 ∧ Upd g w0 w) (lb.length + 1) ⟨0, 0, r0, rfl, rfl, rfl, rfl, rfl, rfl, by omega, ⟨by decide, by decide⟩, by simp [val], rfl, fun _ _ => rfl, hm, hu, b1, U⟩ ?_
 rintro p σ w ⟨k, owed, xs, s0, s1, s2, s3, s9, s10, hkp, ho, hval, htk, hold, hxl, hxu, b1, U⟩
 have hux := hu.getD (i + k)
 have huy := hu0.getD k
 have hxi := hold (i + k) (by omega)
 have hmu := mul_lt hq huy
 refine W_seq ?_
 refine W_seq ?_
 refine W_region rfl ?_
 refine S_move rfl rfl rfl (v := (.int .i64 (k : Int))) (s10) ?_
 refine S_move rfl rfl rfl (v := vb) (s1) ?_
 refine S_len Tryz.underlying23 rfl rfl rfl (rfl) (m := lb.length) ((hb _ U).len) ?_
 refine S_bin rfl rfl rfl rfl rfl (rfl) (rfl) (v := .bool (decide ((k : Int) ≤ (lb.length : Int)))) rfl ?_
 refine OPS.nil ?_
 change WP _ _ _ _ _ _
 refine W_cond rfl (rfl) (fun hq16 => ?_) (fun hq16 => ?_)
 ·skip
  have pT := hq16
  replace hq16 := of_decide_eq_true hq16
  have qT := hq16
  try rw [pT]
  refine W_skip ?_
  change WP _ _ _ _ _ _
  refine W_seq ?_
  refine W_block ?_
  refine W_seq ?_
  refine W_region rfl ?_
  refine S_move rfl rfl rfl (v := (.int .u64 owed)) (s9) ?_
  refine S_assign rfl rfl rfl (v := (.int .u64 owed)) (rfl) ?_
  refine OPS.nil ?_
  change WP _ _ _ _ _ _
  refine W_seq ?_
  refine W_seq ?_
  refine W_region rfl ?_
  refine S_move rfl rfl rfl (v := (.int .i64 (k : Int))) (s10) ?_
  refine S_move rfl rfl rfl (v := vb) (s1) ?_
  refine S_len Tryz.underlying23 rfl rfl rfl (rfl) (m := lb.length) ((hb _ U).len) ?_
  refine S_bin rfl rfl rfl rfl rfl (rfl) (rfl) (v := .bool (decide ((k : Int) < (lb.length : Int)))) rfl ?_
  refine OPS.nil ?_
  change WP _ _ _ _ _ _
  refine W_cond rfl (rfl) (fun hq23 => ?_) (fun hq23 => ?_)
  ·skip
   have pTT := hq23
   replace hq23 := of_decide_eq_true hq23
   have qTT := hq23
   try rw [pTT]
   refine W_region rfl ?_
   refine S_move rfl rfl rfl (v := (.int .u64 owed)) (rfl) ?_
   refine S_move rfl rfl rfl (v := (.int .u64 q)) (s3) ?_
   refine S_move rfl rfl rfl (v := vb) (s1) ?_
   refine S_move rfl rfl rfl (v := (.int .i64 (k : Int))) (s10) ?_
   obtain ⟨ad1, hp3, hc2⟩ := (hb _ U).at k (by omega)
   refine S_idx Tryz.underlying23 ti_uint32 rfl rfl rfl rfl (rfl) (rfl) hp3 (by omega) ?_
   refine S_load rfl rfl rfl (rfl) (LD.one ti_uint32 hc2) ?_
   refine S_conv Tryz.underlying106 Tryz.underlying124 rfl rfl rfl (rfl) (b := (lb.getD k 0)) (wrap_u64 huy.1 (by omega)) ?_
   refine S_bin rfl rfl rfl rfl rfl (rfl) (rfl) (v := .int .u64 (q * (lb.getD k 0))) (congrArg _ (wrap_u64 (by omega) (by omega))) ?_
   refine S_bin rfl rfl rfl rfl rfl (rfl) (rfl) (v := .int .u64 (owed + (q * (lb.getD k 0)))) (congrArg _ (wrap_u64 (by omega) (by omega))) ?_
   refine S_assign rfl rfl rfl (v := (.int .u64 (owed + (q * (lb.getD k 0))))) (rfl) ?_
   refine OPS.nil ?_
   change WP _ _ _ _ _ _
   refine W_seq ?_
   refine W_region rfl ?_
   refine S_move rfl rfl rfl (v := (.slice (some ⟨g, 0, none⟩) m m)) (s0) ?_
   refine S_move rfl rfl rfl (v := (.int .i64 (i : Int))) (s2) ?_
   refine S_move rfl rfl rfl (v := (.int .i64 (k : Int))) (s10) ?_
   refine S_add64 rfl rfl rfl rfl (rfl) (rfl) (by omega) ?_
   refine S_idx Tryz.underlying23 ti_uint32 rfl rfl rfl rfl (rfl) (rfl) (j := (i + k)) (ad := ⟨g, (i + k), none⟩) (SlAt.own1 (by omega)) (by omega) ?_
   refine S_load rfl rfl rfl (rfl) (LD.one ti_uint32 (b1.num (by omega))) ?_
   refine S_conv Tryz.underlying106 Tryz.underlying124 rfl rfl rfl (rfl) (b := (r0.getD (i + k) 0)) ((wrap_u64 (by omega) (by omega)).trans hxi) ?_
   refine S_move rfl rfl rfl (v := (.int .u64 (owed + (q * (lb.getD k 0))))) (rfl) ?_
   refine S_bits rfl rfl rfl rfl (by simp) (rfl) (rfl) (v := ((owed + q * (lb.getD k 0)) % 4294967296)) (mask32 ⟨by omega, by omega⟩) ?_
   refine S_bin rfl rfl rfl rfl rfl (rfl) (rfl) (v := .int .u64 (((r0.getD (i + k) 0) - (owed + q * (lb.getD k 0)) % 4294967296) % 18446744073709551616)) (congrArg (Value.int .u64) (wrap_u64' _)) ?_
   refine S_assign rfl rfl rfl (v := (.int .u64 (((r0.getD (i + k) 0) - (owed + q * (lb.getD k 0)) % 4294967296) % 18446744073709551616))) (rfl) ?_
   refine OPS.nil ?_
   change WP _ _ _ _ _ _
   refine W_seq ?_
   refine W_region rfl ?_
   refine S_move rfl rfl rfl (v := (.slice (some ⟨g, 0, none⟩) m m)) (s0) ?_
   refine S_move rfl rfl rfl (v := (.int .i64 (i : Int))) (s2) ?_
   refine S_move rfl rfl rfl (v := (.int .i64 (k : Int))) (s10) ?_
   refine S_add64 rfl rfl rfl rfl (rfl) (rfl) (by omega) ?_
   refine S_move rfl rfl rfl (v := (.int .u64 (((r0.getD (i + k) 0) - (owed + q * (lb.getD k 0)) % 4294967296) % 18446744073709551616))) (rfl) ?_
   refine S_conv Tryz.underlying124 Tryz.underlying106 rfl rfl rfl (rfl) (b := ((((r0.getD (i + k) 0) - (owed + q * (lb.getD k 0)) % 4294967296) % 18446744073709551616) % 4294967296)) (wrap_u32' _) ?_
   refine S_idx Tryz.underlying23 ti_uint32 rfl rfl rfl rfl (rfl) (rfl) (j := (i + k)) (ad := ⟨g, (i + k), none⟩) (SlAt.own1 (by omega)) (by omega) ?_
   refine S_storeN ti_uint32 rfl rfl rfl rfl (g := g) (o := (i + k)) (rfl) (a := ((((r0.getD (i + k) 0) - (owed + q * (lb.getD k 0)) % 4294967296) % 18446744073709551616) % 4294967296)) (rfl) b1 (by omega) ?_
   intro w1 hU1 b1
   have U := U.trans hU1
   have hz1 := hU1.size
   refine OPS.nil ?_
   change WP _ _ _ _ _ _
   refine W_region rfl ?_
   refine S_move rfl rfl rfl (v := (.int .u64 (owed + (q * (lb.getD k 0))))) (rfl) ?_
   refine S_shr rfl rfl rfl rfl (rfl) (rfl) (by omega) (v := ((owed + (q * (lb.getD k 0))) / 4294967296)) (shr32 _) ?_
   refine S_move rfl rfl rfl (v := (.int .u64 (((r0.getD (i + k) 0) - (owed + q * (lb.getD k 0)) % 4294967296) % 18446744073709551616))) (rfl) ?_
   refine S_shr rfl rfl rfl rfl (rfl) (rfl) (by omega) (v := ((((r0.getD (i + k) 0) - (owed + q * (lb.getD k 0)) % 4294967296) % 18446744073709551616) / 9223372036854775808)) (shr63) ?_
   refine S_bin rfl rfl rfl rfl rfl (rfl) (rfl) (v := .int .u64 (((owed + (q * (lb.getD k 0))) / 4294967296) + ((((r0.getD (i + k) 0) - (owed + q * (lb.getD k 0)) % 4294967296) % 18446744073709551616) / 9223372036854775808))) (congrArg _ (wrap_u64 (by omega) (by omega))) ?_
   refine S_assign rfl rfl rfl (v := (.int .u64 (((owed + (q * (lb.getD k 0))) / 4294967296) + ((((r0.getD (i + k) 0) - (owed + q * (lb.getD k 0)) % 4294967296) % 18446744073709551616) / 9223372036854775808)))) (rfl) ?_
   refine OPS.nil ?_
   change WP _ _ _ _ _ _
   refine W_region rfl ?_
   refine S_move rfl rfl rfl (v := (.int .i64 (k : Int))) (s10) ?_
   refine S_add64 rfl rfl rfl rfl (rfl) (rfl) (by omega) ?_
   refine S_assign rfl rfl rfl (v := (.int .i64 ((k : Int) + 1))) (rfl) ?_
   refine OPS.nil ?_
   have e1 : (((r0.getD (i + k) 0) - (owed + q * (lb.getD k 0)) % 4294967296) % 18446744073709551616) % 4294967296 = ((r0.getD (i + k) 0) - (owed + q * (lb.getD k 0)) % 4294967296) % 4294967296 := by omega
   have e2 : (((r0.getD (i + k) 0) - (owed + q * (lb.getD k 0)) % 4294967296) % 18446744073709551616) / 9223372036854775808 = if (r0.getD (i + k) 0) < (owed + q * (lb.getD k 0)) % 4294967296 then 1 else 0 := by split <;> omega
   have hd := msub_digit (p := (owed + q * (lb.getD k 0))) hux (by omega)
   rw [← e1, ← e2] at hd
   exact ⟨p - 1, by omega, k + 1, _, _, s0, s1, s2, s3, rfl, int_eq (by omega), by omega, ⟨by omega, by omega⟩, msub_step (x := (r0.getD (i + k) 0)) (y := (lb.getD k 0)) (by omega) rfl rfl hux.1 huy.1 hq.1 ho.1 (by omega) (by omega) (by omega) hval, (set_take_le _ _ _ _ (by omega)).trans htk, fun j hj => by rw [getD_set_ne' _ _ _ _ (by omega)]; exact hold j (by omega), by simpa using hxl, hxu.set _ (by omega) (by omega), b1, U⟩
  ·skip
   have pTF := hq23
   replace hq23 := of_decide_eq_false hq23
   have qTF := hq23
   try rw [pTF]
   refine W_skip ?_
   change WP _ _ _ _ _ _
   refine W_seq ?_
   refine W_region rfl ?_
   refine S_move rfl rfl rfl (v := (.slice (some ⟨g, 0, none⟩) m m)) (s0) ?_
   refine S_move rfl rfl rfl (v := (.int .i64 (i : Int))) (s2) ?_
   refine S_move rfl rfl rfl (v := (.int .i64 (k : Int))) (s10) ?_
   refine S_add64 rfl rfl rfl rfl (rfl) (rfl) (by omega) ?_
   refine S_idx Tryz.underlying23 ti_uint32 rfl rfl rfl rfl (rfl) (rfl) (j := (i + k)) (ad := ⟨g, (i + k), none⟩) (SlAt.own1 (by omega)) (by omega) ?_
   refine S_load rfl rfl rfl (rfl) (LD.one ti_uint32 (b1.num (by omega))) ?_
   refine S_conv Tryz.underlying106 Tryz.underlying124 rfl rfl rfl (rfl) (b := (r0.getD (i + k) 0)) ((wrap_u64 (by omega) (by omega)).trans hxi) ?_
   refine S_move rfl rfl rfl (v := (.int .u64 owed)) (rfl) ?_
   refine S_bits rfl rfl rfl rfl (by simp) (rfl) (rfl) (v := (owed % 4294967296)) (mask32 ⟨by omega, by omega⟩) ?_
   refine S_bin rfl rfl rfl rfl rfl (rfl) (rfl) (v := .int .u64 (((r0.getD (i + k) 0) - owed % 4294967296) % 18446744073709551616)) (congrArg (Value.int .u64) (wrap_u64' _)) ?_
   refine S_assign rfl rfl rfl (v := (.int .u64 (((r0.getD (i + k) 0) - owed % 4294967296) % 18446744073709551616))) (rfl) ?_
   refine OPS.nil ?_
   change WP _ _ _ _ _ _
   refine W_seq ?_
   refine W_region rfl ?_
   refine S_move rfl rfl rfl (v := (.slice (some ⟨g, 0, none⟩) m m)) (s0) ?_
   refine S_move rfl rfl rfl (v := (.int .i64 (i : Int))) (s2) ?_
   refine S_move rfl rfl rfl (v := (.int .i64 (k : Int))) (s10) ?_
   refine S_add64 rfl rfl rfl rfl (rfl) (rfl) (by omega) ?_
   refine S_move rfl rfl rfl (v := (.int .u64 (((r0.getD (i + k) 0) - owed % 4294967296) % 18446744073709551616))) (rfl) ?_
   refine S_conv Tryz.underlying124 Tryz.underlying106 rfl rfl rfl (rfl) (b := ((((r0.getD (i + k) 0) - owed % 4294967296) % 18446744073709551616) % 4294967296)) (wrap_u32' _) ?_
   refine S_idx Tryz.underlying23 ti_uint32 rfl rfl rfl rfl (rfl) (rfl) (j := (i + k)) (ad := ⟨g, (i + k), none⟩) (SlAt.own1 (by omega)) (by omega) ?_
   refine S_storeN ti_uint32 rfl rfl rfl rfl (g := g) (o := (i + k)) (rfl) (a := ((((r0.getD (i + k) 0) - owed % 4294967296) % 18446744073709551616) % 4294967296)) (rfl) b1 (by omega) ?_
   intro w2 hU2 b1
   have U := U.trans hU2
   have hz2 := hU2.size
   refine OPS.nil ?_
   change WP _ _ _ _ _ _
   refine W_region rfl ?_
   refine S_move rfl rfl rfl (v := (.int .u64 owed)) (rfl) ?_
   refine S_shr rfl rfl rfl rfl (rfl) (rfl) (by omega) (v := (owed / 4294967296)) (shr32 _) ?_
   refine S_move rfl rfl rfl (v := (.int .u64 (((r0.getD (i + k) 0) - owed % 4294967296) % 18446744073709551616))) (rfl) ?_
   refine S_shr rfl rfl rfl rfl (rfl) (rfl) (by omega) (v := ((((r0.getD (i + k) 0) - owed % 4294967296) % 18446744073709551616) / 9223372036854775808)) (shr63) ?_
   refine S_bin rfl rfl rfl rfl rfl (rfl) (rfl) (v := .int .u64 ((owed / 4294967296) + ((((r0.getD (i + k) 0) - owed % 4294967296) % 18446744073709551616) / 9223372036854775808))) (congrArg _ (wrap_u64 (by omega) (by omega))) ?_
   refine S_assign rfl rfl rfl (v := (.int .u64 ((owed / 4294967296) + ((((r0.getD (i + k) 0) - owed % 4294967296) % 18446744073709551616) / 9223372036854775808)))) (rfl) ?_
   refine OPS.nil ?_
   change WP _ _ _ _ _ _
   refine W_region rfl ?_
   refine S_move rfl rfl rfl (v := (.int .i64 (k : Int))) (s10) ?_
   refine S_add64 rfl rfl rfl rfl (rfl) (rfl) (by omega) ?_
   refine S_assign rfl rfl rfl (v := (.int .i64 ((k : Int) + 1))) (rfl) ?_
   refine OPS.nil ?_
   have hyl : (lb.getD k 0) = 0 := getD_out (by omega)
   have hp9 : owed = q * (lb.getD k 0) + owed := by rw [hyl]; omega
   have e1 : (((r0.getD (i + k) 0) - owed % 4294967296) % 18446744073709551616) % 4294967296 = ((r0.getD (i + k) 0) - owed % 4294967296) % 4294967296 := by omega
   have e2 : (((r0.getD (i + k) 0) - owed % 4294967296) % 18446744073709551616) / 9223372036854775808 = if (r0.getD (i + k) 0) < owed % 4294967296 then 1 else 0 := by split <;> omega
   have hd := msub_digit (p := owed) hux (by omega)
   rw [← e1, ← e2] at hd
   exact ⟨p - 1, by omega, k + 1, _, _, s0, s1, s2, s3, rfl, int_eq (by omega), by omega, ⟨by omega, by omega⟩, msub_step (x := (r0.getD (i + k) 0)) (y := (lb.getD k 0)) (by omega) rfl rfl hux.1 huy.1 hq.1 ho.1 (by omega) (by omega) (by omega) hval, (set_take_le _ _ _ _ (by omega)).trans htk, fun j hj => by rw [getD_set_ne' _ _ _ _ (by omega)]; exact hold j (by omega), by simpa using hxl, hxu.set _ (by omega) (by omega), b1, U⟩
 ·skip
  have pF := hq16
  replace hq16 := of_decide_eq_false hq16
  have qF := hq16
  try rw [pF]
  refine W_exit ?_
  change WP _ _ _ _ _ _
  refine W_seq ?_
  refine W_region rfl ?_
  refine S_move rfl rfl rfl (v := (.int .u64 owed)) (s9) ?_
  refine S_bin rfl rfl rfl rfl rfl (rfl) (rfl) (v := .bool (decide (owed > 0))) rfl ?_
  refine S_assign rfl rfl rfl (v := (.bool (decide (owed > 0)))) (rfl) ?_
  refine OPS.nil ?_
  change WP _ _ _ _ _ _
  refine W_ret ?_
  change Fin' _ _ _ _ _ _
  refine End1 (n := ⟨57, []⟩) (t := 8) rfl (by decide) (v := (.bool (decide (owed > 0)))) (rfl) ?_
  have hkl : k = lb.length + 1 := by omega
  subst hkl
  have hbt : lb.take (lb.length + 1) = lb := List.take_of_length_le (by omega)
  rw [hbt] at hval
  exact ⟨U, xs, owed, rfl, ho.1, hval, htk, hold, hxl, hxu, b1⟩

set_option maxHeartbeats 400000 in
theorem ref01Gives_c (w0 : World) (g m i : Nat) (vb : Value) (lb r0 : List Int) (hb : ∀ w, Upd g w0 w → RN 0 0 w vb lb) (b1 : Blk w0 g (nums .u32 r0) 106) (hm : r0.length = m) (hu : U32 r0) (hmx : m ≤ 9223372036854775807) (hin : i + lb.length < m) :
    Ret Tryz.prog 169 [(.slice (some ⟨g, 0, none⟩) m m), vb, (.int .i64 (i : Int))] w0 (fun r w1 => Upd g w0 w1 ∧ ∃ (xs : List Int) (c : Int), val ((r0.drop i).take (lb.length + 1)) + val lb = val ((xs.drop i).take (lb.length + 1)) + 4294967296 ^ (lb.length + 1) * c.toNat ∧ xs.take i = r0.take i ∧ (∀ j, i + (lb.length + 1) ≤ j → xs.getD j 0 = r0.getD j 0) ∧ xs.length = m ∧ U32 xs ∧ Blk w1 g (nums .u32 xs) 106) := by
 have U := Upd.refl g w0
 have hu0 := (hb w0 U).u32
 have hlb := (hb w0 U).maxl
 refine Ret_of (n := 43) Tryz.func169 rfl rfl (Nat.le_of_ble_eq_true rfl) ?_
 refine W_seq ?_
 refine W_region rfl ?_
 refine S_assign rfl rfl rfl (v := (.int .u64 0)) (rfl) ?_
 refine OPS.nil ?_
 change WP _ _ _ _ _ _
 refine W_seq ?_
 refine W_region rfl ?_
 refine S_assign rfl rfl rfl (v := (.int .i64 0)) (rfl) ?_
 refine OPS.nil ?_
 change WP _ _ _ _ _ _
 refine W_block ?_
 refine W_loop (fun p σ w => ∃ (k : Nat) (c : Int) (xs : List Int), σ 0 = .slice (some ⟨g, 0, none⟩) m m ∧ σ 1 = vb ∧ σ 2 = .int .i64 (i : Int) ∧ σ 6 = .int .u64 c ∧ σ 7 = .int .i64 (k : Int) ∧ k + p = lb.length + 1 ∧ (0 ≤ c ∧ c ≤ 1) ∧
      val ((r0.drop i).take k) + val (lb.take k) = val ((xs.drop i).take k) + 4294967296 ^ k * c.toNat ∧ xs.take i = r0.take i ∧ (∀ j, i + k ≤ j → xs.getD j 0 = r0.getD j 0) ∧ xs.length = m ∧ U32 xs ∧ Blk w g (nums .u32 xs) 106 ∧ Upd g w0 w) (lb.length + 1) ⟨0, 0, r0, rfl, rfl, rfl, rfl, rfl, by omega, ⟨by decide, by decide⟩, by simp [val], rfl, fun _ _ => rfl, hm, hu, b1, U⟩ ?_
 rintro p σ w ⟨k, c, xs, s0, s1, s2, s6, s7, hkp, ho, hval, htk, hold, hxl, hxu, b1, U⟩
 have hux := hu.getD (i + k)
 have huy := hu0.getD k
 have hxi := hold (i + k) (by omega)
 refine W_seq ?_
 refine W_seq ?_
 refine W_region rfl ?_
 refine S_move rfl rfl rfl (v := (.int .i64 (k : Int))) (s7) ?_
 refine S_move rfl rfl rfl (v := vb) (s1) ?_
 refine S_len Tryz.underlying23 rfl rfl rfl (rfl) (m := lb.length) ((hb _ U).len) ?_
 refine S_bin rfl rfl rfl rfl rfl (rfl) (rfl) (v := .bool (decide ((k : Int) ≤ (lb.length : Int)))) rfl ?_
 refine OPS.nil ?_
 change WP _ _ _ _ _ _
 refine W_cond rfl (rfl) (fun hq11 => ?_) (fun hq11 => ?_)
 ·skip
  have pT := hq11
  replace hq11 := of_decide_eq_true hq11
  have qT := hq11
  try rw [pT]
  refine W_skip ?_
  change WP _ _ _ _ _ _
  refine W_seq ?_
  refine W_block ?_
  refine W_seq ?_
  refine W_region rfl ?_
  refine S_move rfl rfl rfl (v := (.int .u64 c)) (s6) ?_
  refine S_move rfl rfl rfl (v := (.slice (some ⟨g, 0, none⟩) m m)) (s0) ?_
  refine S_move rfl rfl rfl (v := (.int .i64 (i : Int))) (s2) ?_
  refine S_move rfl rfl rfl (v := (.int .i64 (k : Int))) (s7) ?_
  refine S_add64 rfl rfl rfl rfl (rfl) (rfl) (by omega) ?_
  refine S_idx Tryz.underlying23 ti_uint32 rfl rfl rfl rfl (rfl) (rfl) (j := (i + k)) (ad := ⟨g, (i + k), none⟩) (SlAt.own1 (by omega)) (by omega) ?_
  refine S_load rfl rfl rfl (rfl) (LD.one ti_uint32 (b1.num (by omega))) ?_
  refine S_conv Tryz.underlying106 Tryz.underlying124 rfl rfl rfl (rfl) (b := (r0.getD (i + k) 0)) ((wrap_u64 (by omega) (by omega)).trans hxi) ?_
  refine S_bin rfl rfl rfl rfl rfl (rfl) (rfl) (v := .int .u64 (c + (r0.getD (i + k) 0))) (congrArg _ (wrap_u64 (by omega) (by omega))) ?_
  refine S_assign rfl rfl rfl (v := (.int .u64 (c + (r0.getD (i + k) 0)))) (rfl) ?_
  refine OPS.nil ?_
  change WP _ _ _ _ _ _
  refine W_seq ?_
  refine W_seq ?_
  refine W_region rfl ?_
  refine S_move rfl rfl rfl (v := (.int .i64 (k : Int))) (s7) ?_
  refine S_move rfl rfl rfl (v := vb) (s1) ?_
  refine S_len Tryz.underlying23 rfl rfl rfl (rfl) (m := lb.length) ((hb _ U).len) ?_
  refine S_bin rfl rfl rfl rfl rfl (rfl) (rfl) (v := .bool (decide ((k : Int) < (lb.length : Int)))) rfl ?_
  refine OPS.nil ?_
  change WP _ _ _ _ _ _
  refine W_cond rfl (rfl) (fun hq26 => ?_) (fun hq26 => ?_)
  ·skip
   have pTT := hq26
   replace hq26 := of_decide_eq_true hq26
   have qTT := hq26
   try rw [pTT]
   refine W_region rfl ?_
   refine S_move rfl rfl rfl (v := (.int .u64 (c + (r0.getD (i + k) 0)))) (rfl) ?_
   refine S_move rfl rfl rfl (v := vb) (s1) ?_
   refine S_move rfl rfl rfl (v := (.int .i64 (k : Int))) (s7) ?_
   obtain ⟨ad4, hp6, hc5⟩ := (hb _ U).at k (by omega)
   refine S_idx Tryz.underlying23 ti_uint32 rfl rfl rfl rfl (rfl) (rfl) hp6 (by omega) ?_
   refine S_load rfl rfl rfl (rfl) (LD.one ti_uint32 hc5) ?_
   refine S_conv Tryz.underlying106 Tryz.underlying124 rfl rfl rfl (rfl) (b := (lb.getD k 0)) (wrap_u64 huy.1 (by omega)) ?_
   refine S_bin rfl rfl rfl rfl rfl (rfl) (rfl) (v := .int .u64 ((c + (r0.getD (i + k) 0)) + (lb.getD k 0))) (congrArg _ (wrap_u64 (by omega) (by omega))) ?_
   refine S_assign rfl rfl rfl (v := (.int .u64 ((c + (r0.getD (i + k) 0)) + (lb.getD k 0)))) (rfl) ?_
   refine OPS.nil ?_
   change WP _ _ _ _ _ _
   refine W_seq ?_
   refine W_region rfl ?_
   refine S_move rfl rfl rfl (v := (.slice (some ⟨g, 0, none⟩) m m)) (s0) ?_
   refine S_move rfl rfl rfl (v := (.int .i64 (i : Int))) (s2) ?_
   refine S_move rfl rfl rfl (v := (.int .i64 (k : Int))) (s7) ?_
   refine S_add64 rfl rfl rfl rfl (rfl) (rfl) (by omega) ?_
   refine S_move rfl rfl rfl (v := (.int .u64 ((c + (r0.getD (i + k) 0)) + (lb.getD k 0)))) (rfl) ?_
   refine S_conv Tryz.underlying124 Tryz.underlying106 rfl rfl rfl (rfl) (b := (((c + (r0.getD (i + k) 0)) + (lb.getD k 0)) % 4294967296)) (wrap_u32' _) ?_
   refine S_idx Tryz.underlying23 ti_uint32 rfl rfl rfl rfl (rfl) (rfl) (j := (i + k)) (ad := ⟨g, (i + k), none⟩) (SlAt.own1 (by omega)) (by omega) ?_
   refine S_storeN ti_uint32 rfl rfl rfl rfl (g := g) (o := (i + k)) (rfl) (a := (((c + (r0.getD (i + k) 0)) + (lb.getD k 0)) % 4294967296)) (rfl) b1 (by omega) ?_
   intro w1 hU1 b1
   have U := U.trans hU1
   have hz1 := hU1.size
   refine OPS.nil ?_
   change WP _ _ _ _ _ _
   refine W_region rfl ?_
   refine S_move rfl rfl rfl (v := (.int .u64 ((c + (r0.getD (i + k) 0)) + (lb.getD k 0)))) (rfl) ?_
   refine S_shr rfl rfl rfl rfl (rfl) (rfl) (by omega) (v := (((c + (r0.getD (i + k) 0)) + (lb.getD k 0)) / 4294967296)) (shr32 _) ?_
   refine S_assign rfl rfl rfl (v := (.int .u64 (((c + (r0.getD (i + k) 0)) + (lb.getD k 0)) / 4294967296))) (rfl) ?_
   refine OPS.nil ?_
   change WP _ _ _ _ _ _
   refine W_region rfl ?_
   refine S_move rfl rfl rfl (v := (.int .i64 (k : Int))) (s7) ?_
   refine S_add64 rfl rfl rfl rfl (rfl) (rfl) (by omega) ?_
   refine S_assign rfl rfl rfl (v := (.int .i64 ((k : Int) + 1))) (rfl) ?_
   refine OPS.nil ?_
   exact ⟨p - 1, by omega, k + 1, _, _, s0, s1, s2, rfl, int_eq (by omega), by omega, ⟨by omega, by omega⟩, aback_step (x := (r0.getD (i + k) 0)) (y := (lb.getD k 0)) (by omega) rfl rfl hux.1 huy.1 ho.1 (by omega) (by omega) (by omega) hval, (set_take_le _ _ _ _ (by omega)).trans htk, fun j hj => by rw [getD_set_ne' _ _ _ _ (by omega)]; exact hold j (by omega), by simpa using hxl, hxu.set _ (by omega) (by omega), b1, U⟩
  ·skip
   have pTF := hq26
   replace hq26 := of_decide_eq_false hq26
   have qTF := hq26
   try rw [pTF]
   refine W_skip ?_
   change WP _ _ _ _ _ _
   refine W_seq ?_
   refine W_region rfl ?_
   refine S_move rfl rfl rfl (v := (.slice (some ⟨g, 0, none⟩) m m)) (s0) ?_
   refine S_move rfl rfl rfl (v := (.int .i64 (i : Int))) (s2) ?_
   refine S_move rfl rfl rfl (v := (.int .i64 (k : Int))) (s7) ?_
   refine S_add64 rfl rfl rfl rfl (rfl) (rfl) (by omega) ?_
   refine S_move rfl rfl rfl (v := (.int .u64 (c + (r0.getD (i + k) 0)))) (rfl) ?_
   refine S_conv Tryz.underlying124 Tryz.underlying106 rfl rfl rfl (rfl) (b := ((c + (r0.getD (i + k) 0)) % 4294967296)) (wrap_u32' _) ?_
   refine S_idx Tryz.underlying23 ti_uint32 rfl rfl rfl rfl (rfl) (rfl) (j := (i + k)) (ad := ⟨g, (i + k), none⟩) (SlAt.own1 (by omega)) (by omega) ?_
   refine S_storeN ti_uint32 rfl rfl rfl rfl (g := g) (o := (i + k)) (rfl) (a := ((c + (r0.getD (i + k) 0)) % 4294967296)) (rfl) b1 (by omega) ?_
   intro w2 hU2 b1
   have U := U.trans hU2
   have hz2 := hU2.size
   refine OPS.nil ?_
   change WP _ _ _ _ _ _
   refine W_region rfl ?_
   refine S_move rfl rfl rfl (v := (.int .u64 (c + (r0.getD (i + k) 0)))) (rfl) ?_
   refine S_shr rfl rfl rfl rfl (rfl) (rfl) (by omega) (v := ((c + (r0.getD (i + k) 0)) / 4294967296)) (shr32 _) ?_
   refine S_assign rfl rfl rfl (v := (.int .u64 ((c + (r0.getD (i + k) 0)) / 4294967296))) (rfl) ?_
   refine OPS.nil ?_
   change WP _ _ _ _ _ _
   refine W_region rfl ?_
   refine S_move rfl rfl rfl (v := (.int .i64 (k : Int))) (s7) ?_
   refine S_add64 rfl rfl rfl rfl (rfl) (rfl) (by omega) ?_
   refine S_assign rfl rfl rfl (v := (.int .i64 ((k : Int) + 1))) (rfl) ?_
   refine OPS.nil ?_
   have hyl : (lb.getD k 0) = 0 := getD_out (by omega)
   exact ⟨p - 1, by omega, k + 1, _, _, s0, s1, s2, rfl, int_eq (by omega), by omega, ⟨by omega, by omega⟩, aback_step (x := (r0.getD (i + k) 0)) (y := (lb.getD k 0)) (by omega) rfl rfl hux.1 huy.1 ho.1 (by omega) (by omega) (by omega) hval, (set_take_le _ _ _ _ (by omega)).trans htk, fun j hj => by rw [getD_set_ne' _ _ _ _ (by omega)]; exact hold j (by omega), by simpa using hxl, hxu.set _ (by omega) (by omega), b1, U⟩
 ·skip
  have pF := hq11
  replace hq11 := of_decide_eq_false hq11
  have qF := hq11
  try rw [pF]
  refine W_exit ?_
  change Fin' _ _ _ _ _ _
  refine End0 rfl ?_
  have hkl : k = lb.length + 1 := by omega
  subst hkl
  have hbt : lb.take (lb.length + 1) = lb := List.take_of_length_le (by omega)
  rw [hbt] at hval
  exact ⟨U, xs, c, hval, htk, hold, hxl, hxu, b1⟩

end Go.Proofs.YtccmicegihlfbaaGreatDoor

/- The document's quotients. -/
namespace Go.Proofs.YtccmicegihlfbaaGreatDoor
open Go.RowKit


/-- What a division says. -/
def divE (la lb : List Int) : Int := if okL la && okL lb then (if lb.length = 0 then 10 else 0) else 1
theorem ref01TrimN_c (w0 : World) (v : Value) (xs : List Int) {B : Nat} (h : ON B w0 v xs) : Ret Tryz.prog 166 [v] w0 (fun r w1 => ON B w0 r (dg (val xs)) ∧ w0 = w1) := by
  refine (ref01Trim_c w0 v xs h.r).mono ?_
  rintro r w1 ⟨⟨A, c, k, hv, hr, hk, ht⟩, hw⟩
  refine ⟨?_, hw⟩
  subst hv hr
  rw [← ht]
  exact h.prefix_ hk
theorem ref01TrimR_c (w0 : World) (v : Value) (xs : List Int) {a b : Nat} (h : RN a b w0 v xs) : Ret Tryz.prog 166 [v] w0 (fun r w1 => RN a b w0 r (dg (val xs)) ∧ w0 = w1) := by
  refine (ref01Trim_c w0 v xs h).mono ?_
  rintro r w1 ⟨⟨A, c, k, hv, hr, hk, ht⟩, hw⟩
  refine ⟨?_, hw⟩
  subst hv hr
  rw [← ht]
  exact h.prefix_ hk
theorem ON.ofNums {B g m : Nat} {w : World} {xs : List Int} (hb : Blk w g (nums .u32 xs) 106) (hu : U32 xs) (hB : B ≤ g) (hm : xs.length = m) (hmx : m ≤ 9223372036854775807) : ON B w (.slice (some ⟨g, 0, none⟩) m m) xs := by
  subst hm
  have := ON.mkNums hb hu hB (Nat.le_refl _) hmx
  rwa [List.take_length] at this
theorem ref01Up_d (w0 : World) (va : Value) (la : List Int) (q : Nat) {a b : Nat} (ha : RN a b w0 va la) (hsa : la.length ≤ SZ) (hq : q < 32) : Ret Tryz.prog 165 [va, .int .u64 (q : Int)] w0
    (fun r w1 => Below w0.heap.size w0 w1 ∧ ∃ (g : Nat) (xs : List Int), r = .slice (some ⟨g, 0, none⟩) (la.length + 1) (la.length + 1) ∧ w0.heap.size ≤ g ∧ xs.length = la.length + 1 ∧ U32 xs ∧ val xs = val la * 2 ^ q ∧ Blk w1 g (nums .u32 xs) 106) := by
  have := ref01Up_c w0 va la q ha hsa
  rwa [Nat.mod_eq_of_lt hq] at this
theorem ref01Down_d (w0 : World) (va : Value) (la : List Int) (q : Nat) {a b : Nat} (ha : RN a b w0 va la) (hsa : la.length ≤ SZ) (hq : q < 32) : Ret Tryz.prog 170 [va, .int .u64 (q : Int)] w0 (fun r w1 => Below w0.heap.size w0 w1 ∧ ON w0.heap.size w1 r (dg (val la / 2 ^ q))) := by
  have := ref01Down_c w0 va la q ha hsa
  rwa [Nat.mod_eq_of_lt hq] at this
theorem shlN32 {t s : Nat} (h : t * 2 ^ s < 4294967296) (hs : s ≤ 32) : IntKind.u32.wrap ((t : Int) * 2 ^ (min ((s : Int)).toNat IntKind.u32.bits)) = ((t * 2 ^ s : Nat) : Int) := by
  rw [show min ((s : Int)).toNat IntKind.u32.bits = s by show min _ 32 = _; omega]
  have e : ((2 ^ s : Nat) : Int) = (2 : Int) ^ s := by simp
  rw [← e, ← Int.natCast_mul]
  generalize t * 2 ^ s = z at *
  exact wrap_u32 (by omega) (by omega)
theorem shr31 (x : Int) : x.fdiv (2 ^ (min (31 : Int).toNat IntKind.u32.bits)) = x / 2147483648 := by
  rw [Int.fdiv_eq_ediv_of_nonneg _ (by decide)]
  rfl
theorem drop_eqD {l m : List Int} {k : Nat} (hl : l.length = m.length) (h : ∀ j, k ≤ j → l.getD j 0 = m.getD j 0) : l.drop k = m.drop k := by
  apply List.ext_getElem?
  intro j
  rw [List.getElem?_drop, List.getElem?_drop]
  have h2 := h (k + j) (by omega)
  by_cases hj : k + j < l.length
  · rw [List.getD_eq_getElem?_getD, List.getD_eq_getElem?_getD, List.getElem?_eq_getElem hj, List.getElem?_eq_getElem (by omega)] at h2
    rw [List.getElem?_eq_getElem hj, List.getElem?_eq_getElem (by omega)]
    simpa using h2
  · rw [List.getElem?_eq_none (by omega), List.getElem?_eq_none (by omega)]
theorem div_round {ru r0 x1 qs : List Int} {i n b d : Nat} (hI : val ru = val (qs.drop (i + 1)) * 4294967296 ^ (i + 1) * b + val r0) (hu : U32 r0) (h2 : val (r0.drop (i + 1)) < b) (hbn : b < 4294967296 ^ n) (htk : x1.take i = r0.take i)
    (hold : ∀ j, i + (n + 1) ≤ j → x1.getD j 0 = r0.getD j 0) (hl : x1.length = r0.length) (hi : i < qs.length) (hd : d = val ((r0.drop i).take (n + 1)) / b) (hr : val ((x1.drop i).take (n + 1)) = val ((r0.drop i).take (n + 1)) % b) :
    val ru = val ((qs.set i (d : Int)).drop i) * 4294967296 ^ i * b + val x1 ∧ val (x1.drop i) < b := by
  obtain ⟨e1, e2⟩ := step_u hu h2 hbn
  have hb : 0 < b := by omega
  have e3 := val_cut (r0.drop i) (n + 1)
  have e4 := val_cut (x1.drop i) (n + 1)
  rw [List.drop_drop] at e3 e4
  rw [drop_eqD hl hold] at e4
  have e5 : 4294967296 ^ (n + 1) * val (r0.drop (i + (n + 1))) = 0 := by omega
  rw [e5, Nat.add_zero, hr, ← e1] at e4
  rw [← e1] at hd
  refine ⟨outer_step hI htk e4 (by rw [Int.toNat_natCast]; exact hd) hi, ?_⟩
  rw [e4]
  exact Nat.mod_lt _ hb
theorem norm_len {lb : List Int} {n s t : Nat} (hu : U32 lb) (hn : lb.length = n + 1) (ht : lb.getD n 0 = (t : Int)) (h1 : t * 2 ^ s < 4294967296) (h2 : 2147483648 ≤ t * 2 ^ s) (hs : s < 32) :
    (dg (val lb * 2 ^ s)).length = n + 1 ∧ 4294967296 ^ n * 2147483648 ≤ val lb * 2 ^ s := by
  have hp : 0 < 2 ^ s := Nat.pow_pos (by decide)
  have e : (4294967296 : Nat) = 2 ^ (32 - s) * 2 ^ s := by rw [← Nat.pow_add, show 32 - s + s = 32 by omega]
  have ht2 : t + 1 ≤ 2 ^ (32 - s) := by
    rw [e] at h1
    exact Nat.lt_of_mul_lt_mul_right h1
  have hv : val lb = val (lb.take n) + 4294967296 ^ n * t := by
    have h := val_step lb n
    rw [List.take_of_length_le (by omega), ht, Int.toNat_natCast] at h
    exact h
  have hl := val_take_lt hu n
  have k1 : val lb < 4294967296 ^ n * (t + 1) := by rw [Nat.mul_add]; omega
  have k2 : val lb * 2 ^ s < 4294967296 ^ (n + 1) := by
    have a1 : val lb * 2 ^ s < 4294967296 ^ n * (t + 1) * 2 ^ s := Nat.mul_lt_mul_of_pos_right k1 hp
    have a2 : 4294967296 ^ n * (t + 1) * 2 ^ s ≤ 4294967296 ^ n * (2 ^ (32 - s)) * 2 ^ s := Nat.mul_le_mul_right _ (Nat.mul_le_mul_left _ ht2)
    rw [Nat.mul_assoc _ (2 ^ (32 - s)), ← e] at a2
    rw [Nat.pow_succ]
    omega
  have k3 : 4294967296 ^ n * 2147483648 ≤ val lb * 2 ^ s := by
    have a1 : 4294967296 ^ n * t * 2 ^ s ≤ val lb * 2 ^ s := Nat.mul_le_mul_right _ (by omega)
    have a2 : 4294967296 ^ n * 2147483648 ≤ 4294967296 ^ n * (t * 2 ^ s) := Nat.mul_le_mul_left _ h2
    rw [← Nat.mul_assoc] at a2
    omega
  refine ⟨Nat.le_antisymm (dg_length_le k2) ?_, k3⟩
  refine Nat.not_lt.1 fun hc => ?_
  have a1 := lt_dg_length (val lb * 2 ^ s)
  have a2 : 4294967296 ^ (dg (val lb * 2 ^ s)).length ≤ 4294967296 ^ n := Nat.pow_le_pow_right (by decide) (by omega)
  have a3 : 4294967296 ^ n * 1 ≤ 4294967296 ^ n * 2147483648 := Nat.mul_le_mul_left _ (by decide)
  omega
theorem norm_top {ru : List Int} {v s N n i : Nat} (hu : U32 ru) (hr : val ru = v * 2 ^ s) (hv : v < 4294967296 ^ N) (hs : s < 32) (hi : i + n = N) {b : Nat} (hb : 4294967296 ^ n * 2147483648 ≤ b) : val (ru.drop i) < b := by
  rw [← val_split ru i hu, hr]
  refine (Nat.div_lt_iff_lt_mul (Nat.pow_pos (by decide))).2 ?_
  have h1 : v * 2 ^ s < 4294967296 ^ N * 2 ^ s := Nat.mul_lt_mul_of_pos_right hv (Nat.pow_pos (by decide))
  have h2 : 4294967296 ^ N * 2 ^ s ≤ 4294967296 ^ N * 2 ^ 31 := Nat.mul_le_mul_left _ (Nat.pow_le_pow_right (by decide) (by omega))
  have h3 : 4294967296 ^ N * 2147483648 = 4294967296 ^ n * 2147483648 * 4294967296 ^ i := by
    rw [← hi, Nat.pow_add]; ac_rfl
  have h4 := Nat.mul_le_mul_right (4294967296 ^ i) hb
  rw [← h3] at h4
  exact Nat.lt_of_lt_of_le (Nat.lt_of_lt_of_le h1 h2) h4
theorem div_end {ru r0 qs : List Int} {b : Nat} (hI : val ru = val (qs.drop 0) * 4294967296 ^ 0 * b + val r0) (h2 : val (r0.drop 0) < b) : val qs = val ru / b ∧ val r0 = val ru % b := by
  rw [List.drop_zero] at hI h2
  rw [Nat.pow_zero, Nat.mul_one, Nat.mul_comm] at hI
  rw [hI, Nat.mul_add_div (by omega), Nat.div_eq_of_lt h2, Nat.mul_add_mod, Nat.mod_eq_of_lt h2]
  exact ⟨by omega, rfl⟩
theorem shl_div (a b s : Nat) : a * 2 ^ s / (b * 2 ^ s) = a / b := Nat.mul_div_mul_right _ _ (Nat.pow_pos (by decide))
theorem shl_mod (a b s : Nat) : a * 2 ^ s % (b * 2 ^ s) / 2 ^ s = a % b := by
  rw [Nat.mul_mod_mul_right, Nat.mul_div_cancel _ (Nat.pow_pos (by decide))]
theorem ok_last {l : List Int} (hu : U32 l) (hk : okL l = true) {m : Nat} (hm : l.length = m + 1) : 1 ≤ l.getD m 0 := by
  rw [okL_getD (by omega), show l.length - 1 = m by omega] at hk
  have := hu.getD m
  have h0 : l.getD m 0 ≠ 0 := by simpa using hk
  omega


theorem val_one {l : List Int} (h : l.length = 1) : val l = (l.getD 0 0).toNat := by
  obtain ⟨x, rfl⟩ := List.length_eq_one_iff.1 h
  simp [val]


theorem val_len_le {la lb : List Int} (ha : U32 la) (hb : U32 lb) (hk : okL lb = true) (h : val lb ≤ val la) : lb.length ≤ la.length := by
  rcases Nat.lt_or_ge la.length lb.length with h1 | h1
  · exact absurd (val_lt_len ha hb hk h1) (by omega)
  · exact h1

set_option maxHeartbeats 1000000 in
theorem ref01Div_c (w0 : World) (va vb : Value) (la lb : List Int) {a b a2 b2 : Nat} (ha : RN a b w0 va la) (hb : RN a2 b2 w0 vb lb) (hsa : la.length ≤ SZ) (hsb : lb.length ≤ SZ) :
    Ret Tryz.prog 43 [va, vb] w0 (fun r w1 => Below w0.heap.size w0 w1 ∧ ∃ v1 v2, r = .tuple #[v1, v2, .int .i64 (divE la lb)] ∧ ON w0.heap.size w1 v1 (if divE la lb = 0 then dg (val la / val lb) else []) ∧ ON w0.heap.size w1 v2 (if divE la lb = 0 then dg (val la % val lb) else [])) := by
 have E := Below.refl w0.heap.size w0
 have hmb := hb.maxl
 refine Ret_of (n := 105) Tryz.func43 rfl rfl (Nat.le_of_ble_eq_true rfl) ?_
 refine W_seq ?_
 refine W_region rfl ?_
 refine S_assign rfl rfl rfl (v := (.slice none 0 0)) (rfl) ?_
 refine S_assign rfl rfl rfl (v := (.slice none 0 0)) (rfl) ?_
 refine S_assign rfl rfl rfl (v := (.int .i64 0)) (rfl) ?_
 refine OPS.nil ?_
 change WP _ _ _ _ _ _
 refine W_seq ?_
 refine W_seq ?_
 refine W_region rfl ?_
 refine S_move rfl rfl rfl (v := va) (rfl) ?_
 refine S_call en_assayerref01_Check rfl rfl rfl (vs := [va]) (rfl) (ref01Check_c _ _ la ha) ?_
 rintro _ _ ⟨rfl, rfl⟩
 refine S_not rfl rfl rfl (rfl) ?_
 refine S_move rfl rfl rfl (v := (.bool (!(okL la)))) (rfl) ?_
 rcases Bool.eq_false_or_eq_true (!(okL la)) with pT | pF
 ·skip
  rw [pT]
  refine S_skip (d := 19) (op := .move _) (gd := some (3, false)) rfl (wg_off rfl (rfl) rfl) ?_
  refine S_skip (d := 20) (op := .call _) (gd := some (3, false)) rfl (wg_off rfl (rfl) rfl) ?_
  refine S_skip (d := 21) (op := .unOp _ _ _) (gd := some (3, false)) rfl (wg_off rfl (rfl) rfl) ?_
  refine S_pick rfl rfl rfl rfl rfl (b := true) (rfl) (v := (.bool true)) (rfl) ?_
  refine OPS.nil ?_
  change WP _ _ _ _ _ _
  refine W_cond rfl (b := true) (rfl) (fun _ => ?_) (fun h => (by cases h))
  refine W_seq ?_
  refine W_region rfl ?_
  refine S_assign rfl rfl rfl (v := (.slice none 0 0)) (rfl) ?_
  refine S_assign rfl rfl rfl (v := (.slice none 0 0)) (rfl) ?_
  refine S_assign rfl rfl rfl (v := (.int .i64 1)) (rfl) ?_
  refine OPS.nil ?_
  change WP _ _ _ _ _ _
  refine W_ret ?_
  change Fin' _ _ _ _ _ _
  refine End3 (n := ⟨105, []⟩) (t := 4) (u := 5) (s := 6) rfl (by decide) (by decide) (by decide) (rfl) (rfl) (rfl) ?_
  have hs : divE la lb = 1 := by simp_all [divE]
  exact ⟨E, _, _, congrArg (fun z => Value.tuple #[_, _, .int .i64 z]) hs.symm, by rw [hs]; exact ON.nil _ _, by rw [hs]; exact ON.nil _ _⟩
 ·skip
  rw [pF]
  refine S_move rfl rfl rfl (v := vb) (rfl) ?_
  refine S_call en_assayerref01_Check rfl rfl rfl (vs := [vb]) (rfl) (ref01Check_c _ _ lb hb) ?_
  rintro _ _ ⟨rfl, rfl⟩
  refine S_not rfl rfl rfl (rfl) ?_
  refine S_pick rfl rfl rfl rfl rfl (b := false) (rfl) (v := (.bool (!(okL lb)))) (rfl) ?_
  refine OPS.nil ?_
  change WP _ _ _ _ _ _
  refine W_cond rfl (rfl) (fun hq22 => ?_) (fun hq22 => ?_)
  ·skip
   have pFT := hq22
   skip
   try rw [pFT]
   refine W_seq ?_
   refine W_region rfl ?_
   refine S_assign rfl rfl rfl (v := (.slice none 0 0)) (rfl) ?_
   refine S_assign rfl rfl rfl (v := (.slice none 0 0)) (rfl) ?_
   refine S_assign rfl rfl rfl (v := (.int .i64 1)) (rfl) ?_
   refine OPS.nil ?_
   change WP _ _ _ _ _ _
   refine W_ret ?_
   change Fin' _ _ _ _ _ _
   refine End3 (n := ⟨105, []⟩) (t := 4) (u := 5) (s := 6) rfl (by decide) (by decide) (by decide) (rfl) (rfl) (rfl) ?_
   have hs : divE la lb = 1 := by simp_all [divE]
   exact ⟨E, _, _, congrArg (fun z => Value.tuple #[_, _, .int .i64 z]) hs.symm, by rw [hs]; exact ON.nil _ _, by rw [hs]; exact ON.nil _ _⟩
  ·skip
   have pFF := hq22
   skip
   have hka : okL la = true := by simpa using pF
   have hkb : okL lb = true := by simpa using pFF
   try rw [pFF]
   refine W_skip ?_
   change WP _ _ _ _ _ _
   refine W_seq ?_
   refine W_seq ?_
   refine W_region rfl ?_
   refine S_move rfl rfl rfl (v := vb) (rfl) ?_
   refine S_len Tryz.underlying23 rfl rfl rfl (rfl) (m := lb.length) (hb.len) ?_
   refine S_bin rfl rfl rfl rfl rfl (rfl) (rfl) (v := .bool (((lb.length : Int) == 0))) rfl ?_
   refine OPS.nil ?_
   change WP _ _ _ _ _ _
   refine W_cond rfl (rfl) (fun hq25 => ?_) (fun hq25 => ?_)
   ·skip
    have pFFT := hq25
    replace hq25 := eq_of_beq hq25
    have qFFT := hq25
    try rw [pFFT]
    refine W_seq ?_
    refine W_region rfl ?_
    refine S_assign rfl rfl rfl (v := (.slice none 0 0)) (rfl) ?_
    refine S_assign rfl rfl rfl (v := (.slice none 0 0)) (rfl) ?_
    refine S_assign rfl rfl rfl (v := (.int .i64 10)) (rfl) ?_
    refine OPS.nil ?_
    change WP _ _ _ _ _ _
    refine W_ret ?_
    change Fin' _ _ _ _ _ _
    refine End3 (n := ⟨105, []⟩) (t := 4) (u := 5) (s := 6) rfl (by decide) (by decide) (by decide) (rfl) (rfl) (rfl) ?_
    have hs : divE la lb = 10 := by unfold divE; rw [hka, hkb]; exact (if_pos rfl).trans (if_pos (by omega))
    exact ⟨E, _, _, congrArg (fun z => Value.tuple #[_, _, .int .i64 z]) hs.symm, by rw [hs]; exact ON.nil _ _, by rw [hs]; exact ON.nil _ _⟩
   ·skip
    have pFFF := hq25
    replace hq25 := ne_of_beq_false hq25
    have qFFF := hq25
    try rw [pFFF]
    refine W_skip ?_
    change WP _ _ _ _ _ _
    refine W_seq ?_
    refine W_seq ?_
    refine W_region rfl ?_
    refine S_move rfl rfl rfl (v := va) (rfl) ?_
    refine S_move rfl rfl rfl (v := vb) (rfl) ?_
    refine S_call en_assayerref01_Cmp rfl rfl rfl (vs := [va, vb]) (rfl) (ref01Cmp_c _ _ _ la lb (ha.below E) (hb.below E)) ?_
    rintro _ w1 ⟨hB1, rfl⟩
    have hz1 := hB1.size
    have E := Below.step E hB1
    refine S_bin rfl rfl rfl rfl rfl (rfl) (rfl) (v := .bool (decide ((cmpN (nv la) (nv lb)) < 0))) rfl ?_
    refine OPS.nil ?_
    change WP _ _ _ _ _ _
    refine W_cond rfl (rfl) (fun hq29 => ?_) (fun hq29 => ?_)
    ·skip
     have pFFFT := hq29
     replace hq29 := of_decide_eq_true hq29
     have qFFFT := hq29
     try rw [pFFFT]
     refine W_seq ?_
     refine W_region rfl ?_
     refine S_move rfl rfl rfl (v := va) (rfl) ?_
     refine S_call en_assayerref01_Twin rfl rfl rfl (vs := [va]) (rfl) (ref01Twin_c _ _ la (ha.below E) hsa) ?_
     rintro vh1 w2 ⟨hB2, h1⟩
     have hz2 := hB2.size
     have E := Below.step E hB2
     refine S_assign rfl rfl rfl (v := (.slice none 0 0)) (rfl) ?_
     refine S_assign rfl rfl rfl (v := vh1) (rfl) ?_
     refine S_assign rfl rfl rfl (v := (.int .i64 0)) (rfl) ?_
     refine OPS.nil ?_
     change WP _ _ _ _ _ _
     refine W_ret ?_
     change Fin' _ _ _ _ _ _
     refine End3 (n := ⟨105, []⟩) (t := 4) (u := 5) (s := 6) rfl (by decide) (by decide) (by decide) (rfl) (rfl) (rfl) ?_
     have hs : divE la lb = 0 := by unfold divE; rw [hka, hkb]; exact (if_pos rfl).trans (if_neg (by omega))
     have hlt := cmpN_lt0.1 qFFFT
     rw [nv_ok hka, nv_ok hkb] at hlt
     refine ⟨E, _, _, congrArg (fun z => Value.tuple #[_, _, .int .i64 z]) hs.symm, ?_, ?_⟩
     · rw [hs, Nat.div_eq_of_lt hlt, dg_zero]; exact ON.nil _ _
     · rw [hs, Nat.mod_eq_of_lt hlt, dg_val ha.u32 hka]; exact h1.mono (by omega)
    ·skip
     have pFFFF := hq29
     replace hq29 := of_decide_eq_false hq29
     have qFFFF := hq29
     have hle : val lb ≤ val la := by
       have := mt cmpN_lt0.2 qFFFF
       rw [nv_ok hka, nv_ok hkb] at this
       omega
     have hlbp : 0 < lb.length := by have := qFFF; omega
     have hbp := val_pos_of_ok hb.u32 hkb (by intro h; subst h; simp at hlbp)
     have hlap : 0 < la.length := by
       refine Nat.pos_of_ne_zero fun h => ?_
       rw [List.eq_nil_of_length_eq_zero h, val_nil] at hle
       omega
     try rw [pFFFF]
     refine W_skip ?_
     change WP _ _ _ _ _ _
     refine W_seq ?_
     refine W_seq ?_
     refine W_region rfl ?_
     refine S_move rfl rfl rfl (v := vb) (rfl) ?_
     refine S_len Tryz.underlying23 rfl rfl rfl (rfl) (m := lb.length) (hb.len) ?_
     refine S_bin rfl rfl rfl rfl rfl (rfl) (rfl) (v := .bool (((lb.length : Int) == 1))) rfl ?_
     refine OPS.nil ?_
     change WP _ _ _ _ _ _
     refine W_cond rfl (rfl) (fun hq34 => ?_) (fun hq34 => ?_)
     ·skip
      have pFFFFT := hq34
      replace hq34 := eq_of_beq hq34
      have qFFFFT := hq34
      have hl1 : lb.length = 1 := by have := qFFFFT; omega
      have hyp := ok_last hb.u32 hkb (m := 0) hl1
      have hyl := hb.u32.getD 0
      try rw [pFFFFT]
      refine W_seq ?_
      refine W_region rfl ?_
      refine S_move rfl rfl rfl (v := va) (rfl) ?_
      refine S_move rfl rfl rfl (v := vb) (rfl) ?_
      obtain ⟨ad1, hp3, hc2⟩ := (hb.below E).at 0 (by omega)
      refine S_idx Tryz.underlying23 ti_uint32 rfl rfl rfl rfl (rfl) (rfl) hp3 (by omega) ?_
      refine S_load rfl rfl rfl (rfl) (LD.one ti_uint32 hc2) ?_
      refine S_call en_assayerref01_small rfl rfl rfl (vs := [va, (.int .u32 (lb.getD 0 0))]) (rfl) (ref01Small_c _ _ la (lb.getD 0 0) (ha.below E) hsa ⟨by omega, by omega⟩ hlap) ?_
      rintro _ w3 ⟨hB3, v1, rfl, h1⟩
      have hz3 := hB3.size
      have E := Below.step E hB3
      have hml := Nat.mod_lt (val la) (show 0 < (lb.getD 0 0).toNat by omega)
      have hsz1 := E.size
      refine S_move rfl rfl rfl (v := (.tuple #[v1, .int .u32 ((val la % (lb.getD 0 0).toNat : Nat) : Int)])) (rfl) ?_
      refine S_extract rfl rfl rfl (rfl) rfl ?_
      refine S_extract rfl rfl rfl (rfl) rfl ?_
      refine S_assign rfl rfl rfl (v := v1) (rfl) ?_
      refine S_assign rfl rfl rfl (v := (.int .u32 ((val la % (lb.getD 0 0).toNat : Nat) : Int))) (rfl) ?_
      refine OPS.nil ?_
      change WP _ _ _ _ _ _
      refine W_seq ?_
      refine W_region rfl ?_
      refine S_move rfl rfl rfl (v := v1) (rfl) ?_
      refine S_move rfl rfl rfl (v := (.int .u32 ((val la % (lb.getD 0 0).toNat : Nat) : Int))) (rfl) ?_
      refine S_conv Tryz.underlying106 Tryz.underlying124 rfl rfl rfl (rfl) (b := ((val la % (lb.getD 0 0).toNat : Nat) : Int)) (wrap_u64 (by omega) (by omega)) ?_
      refine S_call en_assayerref01_Of rfl rfl rfl (vs := [(.int .u64 ((val la % (lb.getD 0 0).toNat : Nat) : Int))]) (rfl) (ref01Of_c _ ((val la % (lb.getD 0 0).toNat : Nat) : Int) ⟨by omega, by omega⟩) ?_
      rintro vh2 w4 ⟨hB4, h2⟩
      have hz4 := hB4.size
      have E := Below.step E hB4
      have h1 := h1.below hB4
      rw [Int.toNat_natCast] at h2
      refine S_assign rfl rfl rfl (v := v1) (rfl) ?_
      refine S_assign rfl rfl rfl (v := vh2) (rfl) ?_
      refine S_assign rfl rfl rfl (v := (.int .i64 0)) (rfl) ?_
      refine OPS.nil ?_
      change WP _ _ _ _ _ _
      refine W_ret ?_
      change Fin' _ _ _ _ _ _
      refine End3 (n := ⟨105, []⟩) (t := 4) (u := 5) (s := 6) rfl (by decide) (by decide) (by decide) (rfl) (rfl) (rfl) ?_
      have hs : divE la lb = 0 := by unfold divE; rw [hka, hkb]; exact (if_pos rfl).trans (if_neg (by omega))
      have hy : (lb.getD 0 0).toNat = val lb := by
        rw [val_one (l := lb) hl1]
      skip
      refine ⟨E, _, _, congrArg (fun z => Value.tuple #[_, _, .int .i64 z]) hs.symm, ?_, ?_⟩
      · rw [hs, ← hy]; exact h1.mono (by omega)
      · rw [hs, ← hy]; exact h2.mono (by omega)
     ·skip
      have pFFFFF := hq34
      replace hq34 := ne_of_beq_false hq34
      have qFFFFF := hq34
      obtain ⟨n, hn⟩ : ∃ n, lb.length = n + 1 := ⟨lb.length - 1, by omega⟩
      have hn1 : 1 ≤ n := by have := qFFFFF; omega
      obtain ⟨t, ht, htl⟩ := hb.u32.nat n
      have htp := ok_last hb.u32 hkb hn
      have htp : 1 ≤ t := by omega
      have hs0 : divE la lb = 0 := by unfold divE; rw [hka, hkb]; exact (if_pos rfl).trans (if_neg (by omega))
      try rw [pFFFFF]
      refine W_skip ?_
      change WP _ _ _ _ _ _
      refine W_seq ?_
      refine W_region rfl ?_
      refine S_assign rfl rfl rfl (v := (.int .u64 0)) (rfl) ?_
      refine OPS.nil ?_
      change WP _ _ _ _ _ _
      refine W_seq ?_
      refine W_block ?_
      refine W_loop (fun k σ w => ∃ (s : Nat), σ 0 = va ∧ σ 1 = vb ∧ σ 9 = .int .u64 (s : Int) ∧ t * 2 ^ s < 4294967296 ∧ s < 32 ∧ k + s = 32 ∧ Below w0.heap.size w0 w) (32) ⟨0, rfl, rfl, rfl, by omega, by decide, rfl, E⟩ ?_
      rintro k σ w ⟨s, s0, s1, s9, hts, hsl, hks, E⟩
      refine W_seq ?_
      refine W_seq ?_
      refine W_region rfl ?_
      refine S_move rfl rfl rfl (v := vb) (s1) ?_
      refine S_move rfl rfl rfl (v := vb) (s1) ?_
      refine S_len Tryz.underlying23 rfl rfl rfl (rfl) (m := lb.length) (hb.len) ?_
      refine S_sub64 rfl rfl rfl rfl (rfl) (rfl) (by omega) ?_
      obtain ⟨ad4, hp6, hc5⟩ := (hb.below E).at n (by omega)
      refine S_idx Tryz.underlying23 ti_uint32 rfl rfl rfl rfl (rfl) (rfl) hp6 (by omega) ?_
      refine S_load rfl rfl rfl (rfl) (LD.one ti_uint32 hc5) ?_
      refine S_move rfl rfl rfl (v := (.int .u64 (s : Int))) (s9) ?_
      refine S_shl rfl rfl rfl rfl (rfl) (rfl) (by omega) (v := ((t * 2 ^ s : Nat) : Int)) ((by rw [ht]; exact shlN32 hts (by omega))) ?_
      refine S_shr rfl rfl rfl rfl (rfl) (rfl) (by omega) (v := (((t * 2 ^ s : Nat) : Int) / 2147483648)) (shr31 _) ?_
      refine S_bin rfl rfl rfl rfl rfl (rfl) (rfl) (v := .bool (((((t * 2 ^ s : Nat) : Int) / 2147483648) == 0))) rfl ?_
      refine OPS.nil ?_
      change WP _ _ _ _ _ _
      refine W_cond rfl (rfl) (fun hq56 => ?_) (fun hq56 => ?_)
      ·skip
       have pT := hq56
       replace hq56 := eq_of_beq hq56
       have qT := hq56
       try rw [pT]
       refine W_skip ?_
       change WP _ _ _ _ _ _
       refine W_block ?_
       refine W_region rfl ?_
       refine S_move rfl rfl rfl (v := (.int .u64 (s : Int))) (s9) ?_
       refine S_bin rfl rfl rfl rfl rfl (rfl) (rfl) (v := .int .u64 ((s : Int) + 1)) (congrArg (Value.int .u64) (wrap_u64 (by omega) (by omega))) ?_
       refine S_assign rfl rfl rfl (v := (.int .u64 ((s : Int) + 1))) (rfl) ?_
       refine OPS.nil ?_
       have ht2 : t * 2 ^ (s + 1) < 4294967296 := by rw [Nat.pow_succ, ← Nat.mul_assoc]; omega
       have hsl2 : s + 1 < 32 := by
         refine Nat.not_le.1 fun hc => ?_
         have h9 : 1 * 2 ^ 32 ≤ t * 2 ^ (s + 1) := Nat.mul_le_mul htp (Nat.pow_le_pow_right (by decide) (by omega))
         omega
       exact ⟨k - 1, by omega, s + 1, s0, s1, int_eq (by omega), ht2, hsl2, by omega, E⟩
      ·skip
       have pF := hq56
       replace hq56 := ne_of_beq_false hq56
       have qF := hq56
       try rw [pF]
       refine W_exit ?_
       change WP _ _ _ _ _ _
       refine W_seq ?_
       refine W_region rfl ?_
       obtain ⟨hDl, hDb⟩ := norm_len hb.u32 hn ht hts (by omega) hsl
       have hsz0 := E.size
       refine S_move rfl rfl rfl (v := va) (s0) ?_
       refine S_move rfl rfl rfl (v := (.int .u64 (s : Int))) (s9) ?_
       refine S_call en_assayerref01_up rfl rfl rfl (vs := [va, (.int .u64 (s : Int))]) (rfl) (ref01Up_d _ _ la s (ha.below E) hsa hsl) ?_
       rintro _ w5 ⟨hB5, gu, ru, rfl, hgu, hrl, hru, hrv, bu⟩
       have hz5 := hB5.size
       have E := Below.step E hB5
       have hbl := bu.lt
       refine S_assign rfl rfl rfl (v := (.slice (some ⟨gu, 0, none⟩) (la.length + 1) (la.length + 1))) (rfl) ?_
       refine OPS.nil ?_
       change WP _ _ _ _ _ _
       refine W_seq ?_
       refine W_region rfl ?_
       refine S_move rfl rfl rfl (v := vb) (s1) ?_
       refine S_move rfl rfl rfl (v := (.int .u64 (s : Int))) (s9) ?_
       refine S_call en_assayerref01_up rfl rfl rfl (vs := [vb, (.int .u64 (s : Int))]) (rfl) (ref01Up_d _ _ lb s (hb.below E) hsb hsl) ?_
       rintro _ w6 ⟨hB6, gv, rv, rfl, hgv, hvl, hvu, hvv, bv⟩
       have hz6 := hB6.size
       have E := Below.step E hB6
       have hl_bu := bu.lt
       have bu := bu.below hB6
       have hblv := bv.lt
       unfold SZ at hsa hsb
       refine S_call en_assayerref01_trim rfl rfl rfl (vs := [(.slice (some ⟨gv, 0, none⟩) (lb.length + 1) (lb.length + 1))]) (rfl) (ref01TrimN_c _ _ _ (ON.ofNums (B := gv) bv hvu (Nat.le_refl _) hvl (by omega))) ?_
       rintro vD _ ⟨h2, rfl⟩
       rw [hvv] at h2
       obtain ⟨D, hD⟩ : ∃ D, D = dg (val lb * 2 ^ s) := ⟨_, rfl⟩
       rw [← hD] at h2 hDl
       have hDv : val D = val lb * 2 ^ s := by rw [hD, val_dg]
       have hk2 := h2.bkB
       refine S_assign rfl rfl rfl (v := vD) (rfl) ?_
       refine OPS.nil ?_
       change WP _ _ _ _ _ _
       refine W_seq ?_
       refine W_region rfl ?_
       have hll := val_len_le ha.u32 hb.u32 hkb hle
       obtain ⟨mq, hmq⟩ : ∃ mq, mq + D.length = la.length + 1 := ⟨la.length + 1 - D.length, by omega⟩
       refine S_move rfl rfl rfl (v := (.slice (some ⟨gu, 0, none⟩) (la.length + 1) (la.length + 1))) (rfl) ?_
       refine S_len Tryz.underlying23 rfl rfl rfl (rfl) (m := (la.length + 1)) (⟨_, _, rfl⟩) ?_
       refine S_move rfl rfl rfl (v := vD) (rfl) ?_
       refine S_len Tryz.underlying23 rfl rfl rfl (rfl) (m := D.length) (h2.r.len) ?_
       refine S_sub64 rfl rfl rfl rfl (rfl) (rfl) (by omega) ?_
       refine S_make Tryz.underlying23 ti_uint32 rfl rfl rfl rfl (rfl) (m := mq) (by omega) (by omega) (by omega) ?_
       intro g7 w7 hg7 hs7 hB7 b7
       rw [nums_rep] at b7
       have hz7 := hB7.size
       have E := Below.step E hB7
       have hl_bu := bu.lt
       have bu := bu.below hB7
       have hl_bv := bv.lt
       have bv := bv.below hB7
       have h2 := h2.below hB7
       refine S_assign rfl rfl rfl (v := (.slice (some ⟨g7, 0, none⟩) (mq) (mq))) (rfl) ?_
       refine OPS.nil ?_
       change WP _ _ _ _ _ _
       refine W_seq ?_
       refine W_seq ?_
       refine W_region rfl ?_
       have hlt0 : val (ru.drop mq) < val D := norm_top hru hrv (val_lt ha.u32) hsl (n := n) (by omega) (by rw [hDv]; exact hDb)
       have hDlt : val D < 4294967296 ^ D.length := by rw [hD, val_dg]; exact lt_dg_length _
       have hDlt2 : 4294967296 ^ D.length ≤ 4294967296 ^ (D.length + 1) := Nat.pow_le_pow_right (by decide) (by omega)
       obtain ⟨m, hm⟩ : ∃ m, D.length = m + 2 := ⟨D.length - 2, by omega⟩
       have hDk : okL D = true := by rw [hD]; exact okL_dg _
       have hDp : 0 < val D := by rw [hDv]; exact Nat.mul_pos hbp (Nat.pow_pos (by decide))
       have htop := ok_last h2.r.u32 hDk (m := m + 1) hm
       refine S_move rfl rfl rfl (v := (.slice (some ⟨g7, 0, none⟩) (mq) (mq))) (rfl) ?_
       refine S_len Tryz.underlying23 rfl rfl rfl (rfl) (m := (mq)) (⟨_, _, rfl⟩) ?_
       refine S_sub64 rfl rfl rfl rfl (rfl) (rfl) (by omega) ?_
       refine S_assign rfl rfl rfl (v := (.int .i64 (((mq) : Int) - 1))) (rfl) ?_
       refine OPS.nil ?_
       change WP _ _ _ _ _ _
       refine W_block ?_
       refine W_loop (fun k σ w => ∃ (r0 qs : List Int), σ 9 = .int .u64 (s : Int) ∧ σ 10 = .slice (some ⟨gu, 0, none⟩) (la.length + 1) (la.length + 1) ∧ σ 11 = vD ∧ σ 12 = .slice (some ⟨g7, 0, none⟩) mq mq ∧ σ 13 = .int .i64 ((k : Int) - 1) ∧ k ≤ mq ∧ val ru = val (qs.drop k) * 4294967296 ^ k * val D + val r0 ∧ val (r0.drop k) < val D ∧
      r0.length = la.length + 1 ∧ U32 r0 ∧ qs.length = mq ∧ U32 qs ∧ Blk w gu (nums .u32 r0) 106 ∧ Blk w g7 (nums .u32 qs) 106 ∧ ON gv w vD D ∧ Below w0.heap.size w0 w) (mq) ⟨ru, List.replicate mq 0, s9, rfl, rfl, rfl, rfl, Nat.le_refl _, by rw [List.drop_of_length_le (by simp)]; simp [val], hlt0, hrl, hru, by simp, U32.replicate mq, bu, b7, h2, E⟩ ?_
       rintro k σ w ⟨r0, qs, s9, s10, s11, s12, s13, hk, hI, hlt, hrl, hru, hql, hqu, bu, bq, h2, E⟩
       refine W_seq ?_
       refine W_seq ?_
       refine W_region rfl ?_
       refine S_move rfl rfl rfl (v := (.int .i64 ((k : Int) - 1))) (s13) ?_
       refine S_bin rfl rfl rfl rfl rfl (rfl) (rfl) (v := .bool (decide (((k : Int) - 1) ≥ 0))) rfl ?_
       refine OPS.nil ?_
       change WP _ _ _ _ _ _
       refine W_cond rfl (rfl) (fun hq76 => ?_) (fun hq76 => ?_)
       ·skip
        have pT := hq76
        replace hq76 := of_decide_eq_true hq76
        have qT := hq76
        try rw [pT]
        refine W_skip ?_
        change WP _ _ _ _ _ _
        refine W_seq ?_
        refine W_block ?_
        refine W_seq ?_
        refine W_region rfl ?_
        have hm2 : D.length + 1 = m + 3 := by omega
        have hst := step_u (i := k - 1) hru (by rw [show k - 1 + 1 = k by omega]; exact hlt) hDlt
        have hub9 : val ((r0.drop (k - 1)).take (m + 3)) < 4294967296 * val D := by rw [← hm2, ← hst.1]; exact hst.2
        refine S_move rfl rfl rfl (v := (.slice (some ⟨gu, 0, none⟩) (la.length + 1) (la.length + 1))) (s10) ?_
        refine S_move rfl rfl rfl (v := vD) (s11) ?_
        refine S_move rfl rfl rfl (v := (.int .i64 ((k - 1 : Nat) : Int))) ((s13).trans (int_eq (by omega))) ?_
        refine S_call en_assayerref01_guess rfl rfl rfl (vs := [(.slice (some ⟨gu, 0, none⟩) (la.length + 1) (la.length + 1)), vD, (.int .i64 ((k - 1 : Nat) : Int))]) (rfl) (ref01Guess_c _ _ _ r0 D (k - 1) m (RN.ofNums (a := 0) (b := 0) bu hru hrl (by omega)) h2.r hm (by omega) htop hub9) ?_
        rintro _ w8 ⟨hB8, q, rfl, hq1, hq2, hq3⟩
        have hz8 := hB8.size
        have E := Below.step E hB8
        have hl_bu := bu.lt
        have bu := bu.below hB8
        have hl_bq := bq.lt
        have bq := bq.below hB8
        have h2 := h2.below hB8
        rw [← hm2] at hq2 hq3
        refine S_assign rfl rfl rfl (v := (.int .u64 (q : Int))) (rfl) ?_
        refine OPS.nil ?_
        change WP _ _ _ _ _ _
        refine W_seq ?_
        refine W_seq ?_
        refine W_region rfl ?_
        refine S_move rfl rfl rfl (v := (.slice (some ⟨gu, 0, none⟩) (la.length + 1) (la.length + 1))) (s10) ?_
        refine S_move rfl rfl rfl (v := vD) (s11) ?_
        refine S_move rfl rfl rfl (v := (.int .i64 ((k - 1 : Nat) : Int))) ((s13).trans (int_eq (by omega))) ?_
        refine S_move rfl rfl rfl (v := (.int .u64 (q : Int))) (rfl) ?_
        refine S_call en_assayerref01_takes rfl rfl rfl (vs := [(.slice (some ⟨gu, 0, none⟩) (la.length + 1) (la.length + 1)), vD, (.int .i64 ((k - 1 : Nat) : Int)), (.int .u64 (q : Int))]) (rfl) (ref01Takes_c _ gu (la.length + 1) (k - 1) vD D r0 (fun _ hu_ => (h2.updN hu_ (fun g hg => by have := hk2 g hg; omega)).r.any) bu hrl hru (by omega) (by omega) (q : Int) ⟨by omega, by omega⟩) ?_
        rintro _ w9 ⟨hU9, x1, owed, rfl, how, hs1, hx1t, hx1o, hx1l, hx1u, bu⟩
        have E := Below.stepU E hU9 (by omega)
        have bq := bq.upd hU9 (by omega)
        have h2 := h2.updN hU9 (fun g hg => by have := hk2 g hg; omega)
        have hz9 := hU9.size
        rw [Int.toNat_natCast, Nat.mul_comm (4294967296 ^ (D.length + 1)) owed.toNat] at hs1
        refine OPS.nil ?_
        change WP _ _ _ _ _ _
        refine W_cond rfl (rfl) (fun hq87 => ?_) (fun hq87 => ?_)
        ·skip
         have pTT := hq87
         replace hq87 := of_decide_eq_true hq87
         have qTT := hq87
         try rw [pTT]
         refine W_seq ?_
         refine W_region rfl ?_
         refine S_move rfl rfl rfl (v := (.slice (some ⟨gu, 0, none⟩) (la.length + 1) (la.length + 1))) (s10) ?_
         refine S_move rfl rfl rfl (v := vD) (s11) ?_
         refine S_move rfl rfl rfl (v := (.int .i64 ((k - 1 : Nat) : Int))) ((s13).trans (int_eq (by omega))) ?_
         refine S_call en_assayerref01_gives rfl rfl rfl (vs := [(.slice (some ⟨gu, 0, none⟩) (la.length + 1) (la.length + 1)), vD, (.int .i64 ((k - 1 : Nat) : Int))]) (rfl) (ref01Gives_c _ gu (la.length + 1) (k - 1) vD D x1 (fun _ hu_ => (h2.updN hu_ (fun g hg => by have := hk2 g hg; omega)).r.any) bu hx1l hx1u (by omega) (by omega)) ?_
         rintro _ w10 ⟨hU10, x2, cc, hs2, hx2t, hx2o, hx2l, hx2u, bu⟩
         have E := Below.stepU E hU10 (by omega)
         have bq := bq.upd hU10 (by omega)
         have h2 := h2.updN hU10 (fun g hg => by have := hk2 g hg; omega)
         have hz10 := hU10.size
         refine OPS.nil ?_
         change WP _ _ _ _ _ _
         refine W_region rfl ?_
         have hq0 : 1 ≤ q := by
           refine Nat.pos_of_ne_zero fun h => ?_
           subst h
           have h8 := val_take_lt (hru.drop (k - 1)) (D.length + 1)
           have h7 : 4294967296 ^ (D.length + 1) * 1 ≤ owed.toNat * 4294967296 ^ (D.length + 1) := by rw [Nat.mul_comm]; exact Nat.mul_le_mul_right _ (by omega)
           have h6 := val_take_lt (hx1u.drop (k - 1)) (D.length + 1)
           omega
         refine S_move rfl rfl rfl (v := (.int .u64 (q : Int))) (rfl) ?_
         refine S_bin rfl rfl rfl rfl rfl (rfl) (rfl) (v := .int .u64 ((q - 1 : Nat) : Int)) (congrArg (Value.int .u64) ((wrap_u64 (by omega) (by omega)).trans (by omega))) ?_
         refine S_assign rfl rfl rfl (v := (.int .u64 ((q - 1 : Nat) : Int))) (rfl) ?_
         refine OPS.nil ?_
         change WP _ _ _ _ _ _
         refine W_region rfl ?_
         refine S_move rfl rfl rfl (v := (.slice (some ⟨g7, 0, none⟩) mq mq)) (s12) ?_
         refine S_move rfl rfl rfl (v := (.int .i64 ((k : Int) - 1))) (s13) ?_
         refine S_move rfl rfl rfl (v := (.int .u64 ((q - 1 : Nat) : Int))) (rfl) ?_
         refine S_conv Tryz.underlying124 Tryz.underlying106 rfl rfl rfl (rfl) (b := ((q - 1 : Nat) : Int)) (wrap_u32 (by omega) (by omega)) ?_
         refine S_idx Tryz.underlying23 ti_uint32 rfl rfl rfl rfl (rfl) (rfl) (j := (k - 1)) (ad := ⟨g7, (k - 1), none⟩) (SlAt.own1 (by omega)) (by omega) ?_
         refine S_storeN ti_uint32 rfl rfl rfl rfl (g := g7) (o := (k - 1)) (rfl) (a := ((q - 1 : Nat) : Int)) (rfl) bq (by omega) ?_
         intro w11 hU11 bq
         have E := Below.stepU E hU11 (by omega)
         have bu := bu.upd hU11 (by omega)
         have h2 := h2.updN hU11 (fun g hg => by have := hk2 g hg; omega)
         have hz11 := hU11.size
         refine OPS.nil ?_
         change WP _ _ _ _ _ _
         refine W_region rfl ?_
         refine S_move rfl rfl rfl (v := (.int .i64 ((k : Int) - 1))) (s13) ?_
         refine S_sub64 rfl rfl rfl rfl (rfl) (rfl) (by omega) ?_
         refine S_assign rfl rfl rfl (v := (.int .i64 (((k : Int) - 1) - 1))) (rfl) ?_
         refine OPS.nil ?_
         obtain ⟨e1, e2, e3⟩ := fix_yes (u := val ((r0.drop (k - 1)).take (D.length + 1))) (v := val D) (q := q) (h := 0) (owed := owed.toNat) (P := 4294967296 ^ (D.length + 1)) (low := val ((r0.drop (k - 1)).take (D.length + 1))) (by rw [Nat.zero_mul]; rfl) hs1 (by omega) (val_take_lt (hx1u.drop _) _) hq3 (by omega) (by omega) (hs2.trans (by rw [Nat.mul_comm (4294967296 ^ (D.length + 1)), Nat.add_comm])) (val_take_lt (hx2u.drop _) _)
         obtain ⟨f1, f2⟩ := div_round (i := k - 1) (n := D.length) (by rw [show k - 1 + 1 = k by omega]; exact hI) hru (by rw [show k - 1 + 1 = k by omega]; exact hlt) hDlt (hx2t.trans hx1t) (fun j hj => (hx2o j hj).trans (hx1o j hj)) (hx2l.trans hrl.symm) (by omega) e1 e2
         exact ⟨k - 1, by omega, x2, _, s9, s10, s11, s12, int_eq (by omega), by omega, f1, f2, hx2l, hx2u, by simpa using hql, hqu.set _ (by omega) (by omega), bu, bq, h2, E⟩
        ·skip
         have pTF := hq87
         replace hq87 := of_decide_eq_false hq87
         have qTF := hq87
         try rw [pTF]
         refine W_skip ?_
         change WP _ _ _ _ _ _
         refine W_region rfl ?_
         refine S_move rfl rfl rfl (v := (.slice (some ⟨g7, 0, none⟩) mq mq)) (s12) ?_
         refine S_move rfl rfl rfl (v := (.int .i64 ((k : Int) - 1))) (s13) ?_
         refine S_move rfl rfl rfl (v := (.int .u64 (q : Int))) (rfl) ?_
         refine S_conv Tryz.underlying124 Tryz.underlying106 rfl rfl rfl (rfl) (b := (q : Int)) (wrap_u32 (by omega) (by omega)) ?_
         refine S_idx Tryz.underlying23 ti_uint32 rfl rfl rfl rfl (rfl) (rfl) (j := (k - 1)) (ad := ⟨g7, (k - 1), none⟩) (SlAt.own1 (by omega)) (by omega) ?_
         refine S_storeN ti_uint32 rfl rfl rfl rfl (g := g7) (o := (k - 1)) (rfl) (a := (q : Int)) (rfl) bq (by omega) ?_
         intro w12 hU12 bq
         have E := Below.stepU E hU12 (by omega)
         have bu := bu.upd hU12 (by omega)
         have h2 := h2.updN hU12 (fun g hg => by have := hk2 g hg; omega)
         have hz12 := hU12.size
         refine OPS.nil ?_
         change WP _ _ _ _ _ _
         refine W_region rfl ?_
         refine S_move rfl rfl rfl (v := (.int .i64 ((k : Int) - 1))) (s13) ?_
         refine S_sub64 rfl rfl rfl rfl (rfl) (rfl) (by omega) ?_
         refine S_assign rfl rfl rfl (v := (.int .i64 (((k : Int) - 1) - 1))) (rfl) ?_
         refine OPS.nil ?_
         obtain ⟨e1, e2⟩ := fix_no (u := val ((r0.drop (k - 1)).take (D.length + 1))) (v := val D) (q := q) (h := 0) (owed := owed.toNat) (P := 4294967296 ^ (D.length + 1)) (low := val ((r0.drop (k - 1)).take (D.length + 1))) (by rw [Nat.zero_mul]; rfl) hs1 (by omega) hq2 (by omega) (by omega)
         obtain ⟨f1, f2⟩ := div_round (i := k - 1) (n := D.length) (by rw [show k - 1 + 1 = k by omega]; exact hI) hru (by rw [show k - 1 + 1 = k by omega]; exact hlt) hDlt (hx1t) (hx1o) (hx1l.trans hrl.symm) (by omega) e1 e2
         exact ⟨k - 1, by omega, x1, _, s9, s10, s11, s12, int_eq (by omega), by omega, f1, f2, hx1l, hx1u, by simpa using hql, hqu.set _ (by omega) (by omega), bu, bq, h2, E⟩
       ·skip
        have pF := hq76
        replace hq76 := of_decide_eq_false hq76
        have qF := hq76
        try rw [pF]
        refine W_exit ?_
        change WP _ _ _ _ _ _
        refine W_seq ?_
        refine W_region rfl ?_
        have hln : (dg (val r0)).length ≤ SZ := by
          have hk0 : k = 0 := by omega
          subst hk0
          rw [List.drop_zero] at hlt
          have h9 := dg_length_mono (Nat.le_of_lt hlt)
          rw [hDv, ← hD] at h9
          unfold SZ
          omega
        refine S_move rfl rfl rfl (v := (.slice (some ⟨g7, 0, none⟩) mq mq)) (s12) ?_
        refine S_call en_assayerref01_trim rfl rfl rfl (vs := [(.slice (some ⟨g7, 0, none⟩) mq mq)]) (rfl) (ref01TrimN_c _ _ _ (ON.ofNums (B := g7) bq hqu (Nat.le_refl _) hql (by omega))) ?_
        rintro t1v _ ⟨t1, rfl⟩
        refine S_move rfl rfl rfl (v := (.slice (some ⟨gu, 0, none⟩) (la.length + 1) (la.length + 1))) (s10) ?_
        refine S_call en_assayerref01_trim rfl rfl rfl (vs := [(.slice (some ⟨gu, 0, none⟩) (la.length + 1) (la.length + 1))]) (rfl) (ref01TrimN_c _ _ _ (ON.ofNums (B := gu) bu hru (Nat.le_refl _) hrl (by omega))) ?_
        rintro t2v _ ⟨t2, rfl⟩
        refine S_move rfl rfl rfl (v := (.int .u64 (s : Int))) (s9) ?_
        refine S_call en_assayerref01_down rfl rfl rfl (vs := [t2v, (.int .u64 (s : Int))]) (rfl) (ref01Down_d _ _ (dg (val r0)) s t2.r hln hsl) ?_
        rintro vh3 w13 ⟨hB13, h3⟩
        have hz13 := hB13.size
        have E := Below.step E hB13
        have hl_bu := bu.lt
        have bu := bu.below hB13
        have hl_bq := bq.lt
        have bq := bq.below hB13
        have h2 := h2.below hB13
        have t1 := t1.below hB13
        refine S_assign rfl rfl rfl (v := t1v) (rfl) ?_
        refine S_assign rfl rfl rfl (v := vh3) (rfl) ?_
        refine S_assign rfl rfl rfl (v := (.int .i64 0)) (rfl) ?_
        refine OPS.nil ?_
        change WP _ _ _ _ _ _
        refine W_ret ?_
        change Fin' _ _ _ _ _ _
        refine End3 (n := ⟨105, []⟩) (t := 4) (u := 5) (s := 6) rfl (by decide) (by decide) (by decide) (rfl) (rfl) (rfl) ?_
        have hk0 : k = 0 := by omega
        subst hk0
        obtain ⟨d1, d2⟩ := div_end hI hlt
        rw [d1, hrv, hDv, shl_div] at t1
        rw [val_dg, d2, hrv, hDv, shl_mod] at h3
        exact ⟨E, _, _, congrArg (fun z => Value.tuple #[_, _, .int .i64 z]) hs0.symm, by rw [hs0]; exact t1.mono (by omega), by rw [hs0]; exact h3.mono (by omega)⟩

end Go.Proofs.YtccmicegihlfbaaGreatDoor

/- Quotients: the long way. -/
namespace Go.Proofs.YtccmicegihlfbaaGreatDoor
open Go.RowKit


theorem SlAt.own2 {g o m c j p : Nat} (hj : j < m) (hp : p = o + j) : SlAt (.slice (some ⟨g, o, none⟩) m c) m 1 j ⟨g, p, none⟩ := by
  subst hp
  exact ⟨⟨g, o, none⟩, c, rfl, hj, by rw [add_plain, Nat.mul_one]⟩


theorem ON.cap_ {B : Nat} {w : World} {A : Option Addr} {l : List Int} {c k : Nat} (h : ON B w (.slice A k c) l) : ON B w (.slice A k k) l := by
  obtain ⟨⟨hu, A', c', hv, h1, h2, h3⟩, ho⟩ := h
  simp only [Value.slice.injEq] at hv
  obtain ⟨rfl, rfl, rfl⟩ := hv
  refine ⟨⟨hu, _, _, rfl, Nat.le_refl _, by omega, h3⟩, ?_⟩
  rcases ho with ⟨A', hv⟩ | ⟨g, m, c', cs, hv, g2, g3, g4, g5⟩
  · simp only [Value.slice.injEq] at hv
    obtain ⟨rfl, hl, rfl⟩ := hv
    exact .inl ⟨_, by rw [hl]⟩
  · simp only [Value.slice.injEq] at hv
    obtain ⟨rfl, rfl, rfl⟩ := hv
    exact .inr ⟨g, _, _, cs, rfl, g2, g3, Nat.le_refl _, by omega⟩
theorem natsCutN_c (w0 : World) (v : Value) (xs : List Int) {B : Nat} (h : ON B w0 v xs) : Ret Tryz.prog 205 [v] w0 (fun r w1 => ON B w0 r (dg (val xs)) ∧ w0 = w1) := by
  refine (natsCut_c w0 v xs h.r).mono ?_
  rintro r w1 ⟨⟨A, c, k, hv, hr, hk, ht⟩, hw⟩
  refine ⟨?_, hw⟩
  subst hv hr
  rw [← ht]
  exact (h.prefix_ hk).cap_

set_option maxHeartbeats 1000000 in
theorem natsLong_c (w0 : World) (va vb : Value) (la lb : List Int) (m : Nat) {a b a2 b2 : Nat} (ha : RN a b w0 va la) (hb : RN a2 b2 w0 vb lb) (hsa : la.length ≤ SZ) (hm : lb.length = m + 2) (hll : lb.length ≤ la.length) (h1 : 1 ≤ lb.getD (m + 1) 0) (hlt : val (la.drop (la.length + 1 - lb.length)) < val lb) :
    Ret Tryz.prog 156 [va, vb] w0 (fun r w1 => Below w0.heap.size w0 w1 ∧ ∃ v1 v2, r = .tuple #[v1, v2] ∧ ON w0.heap.size w1 v1 (dg (val la / val lb)) ∧ ON w0.heap.size w1 v2 (dg (val la % val lb))) := by
 have E := Below.refl w0.heap.size w0
 have hsa0 := hsa
 unfold SZ at hsa
 obtain ⟨v1, hv1, hv1l⟩ := hb.u32.nat (m + 1)
 obtain ⟨v2, hv2, hv2l⟩ := hb.u32.nat m
 have hv1p : 1 ≤ v1 := by omega
 have hV := top2 lb m hm
 rw [hv1, hv2, Int.toNat_natCast, Int.toNat_natCast] at hV
 have hvr := val_take_lt hb.u32 m
 have hMp : 0 < 4294967296 ^ m := Nat.pow_pos (by decide)
 have hvp : 0 < val lb := by
   have h9 : 4294967296 ^ m * 1 ≤ 4294967296 ^ m * (v2 + 4294967296 * v1) := Nat.mul_le_mul_left _ (by omega)
   omega
 have hbn := val_lt hb.u32
 refine Ret_of (n := 179) Tryz.func156 rfl rfl (Nat.le_of_ble_eq_true rfl) ?_
 refine W_seq ?_
 refine W_region rfl ?_
 refine S_assign rfl rfl rfl (v := (.slice none 0 0)) (rfl) ?_
 refine S_assign rfl rfl rfl (v := (.slice none 0 0)) (rfl) ?_
 refine OPS.nil ?_
 change WP _ _ _ _ _ _
 refine W_seq ?_
 refine W_region rfl ?_
 refine S_move rfl rfl rfl (v := vb) (rfl) ?_
 refine S_len Tryz.underlying23 rfl rfl rfl (rfl) (m := lb.length) (hb.len) ?_
 refine S_assign rfl rfl rfl (v := (.int .i64 (lb.length : Int))) (rfl) ?_
 refine OPS.nil ?_
 change WP _ _ _ _ _ _
 refine W_seq ?_
 refine D_begin mixed_ rfl rfl (fun w_ => Below w0.heap.size w0 w_) ?_
 intro w1 hB1 hz_1
 have hz1 := hB1.size
 have E := Below.step E hB1
 have hS_ : Below w0.heap.size w0 w1 := E
 have E_S := E
 refine D_move (i := 0) (listed2 := (bm 14 1)) (by kernel_rfl) rfl rfl rfl (v := vb) (rfl) hS_ ?_
 refine D_move (i := 1) (listed2 := (bm 14 3)) (by kernel_rfl) rfl rfl rfl (v := (.int .i64 (lb.length : Int))) (rfl) hS_ ?_
 refine D_sub64 (i := 2) (listed2 := (bm 14 7)) (by kernel_rfl) rfl rfl rfl rfl (rfl) (rfl) (by omega) hS_ ?_
 obtain ⟨ad1, hp3, hc2⟩ := hb.at (m + 1) (by omega)
 refine D_idx Tryz.underlying23 ti_uint32 (i := 3) (listed2 := (bm 14 15)) (by kernel_rfl) rfl rfl rfl rfl (rfl) (rfl) hp3 (by omega) hS_ ?_
 refine D_load (i := 4) (listed2 := (bm 14 31)) (by kernel_rfl) rfl rfl rfl (rfl) (fun _ hS2 => LD.one ti_uint32 (cell_below hS2 hc2)) hS_ ?_
 refine D_conv Tryz.underlying106 Tryz.underlying124 (i := 5) (listed2 := (bm 14 63)) (by kernel_rfl) rfl rfl rfl (rfl) (b := (v1 : Int)) ((wrap_u64 (by omega) (by omega)).trans hv1) hS_ ?_
 refine D_move (i := 6) (listed2 := (bm 14 127)) (by kernel_rfl) rfl rfl rfl (v := vb) (rfl) hS_ ?_
 refine D_move (i := 7) (listed2 := (bm 14 255)) (by kernel_rfl) rfl rfl rfl (v := (.int .i64 (lb.length : Int))) (rfl) hS_ ?_
 refine D_sub64 (i := 8) (listed2 := (bm 14 511)) (by kernel_rfl) rfl rfl rfl rfl (rfl) (rfl) (by omega) hS_ ?_
 obtain ⟨ad4, hp6, hc5⟩ := hb.at m (by omega)
 refine D_idx Tryz.underlying23 ti_uint32 (i := 9) (listed2 := (bm 14 1023)) (by kernel_rfl) rfl rfl rfl rfl (rfl) (rfl) hp6 (by omega) hS_ ?_
 refine D_load (i := 10) (listed2 := (bm 14 2047)) (by kernel_rfl) rfl rfl rfl (rfl) (fun _ hS2 => LD.one ti_uint32 (cell_below hS2 hc5)) hS_ ?_
 refine D_conv Tryz.underlying106 Tryz.underlying124 (i := 11) (listed2 := (bm 14 4095)) (by kernel_rfl) rfl rfl rfl (rfl) (b := (v2 : Int)) ((wrap_u64 (by omega) (by omega)).trans hv2) hS_ ?_
 refine D_assign (i := 12) (listed2 := (bm 14 8191)) (by kernel_rfl) rfl rfl rfl (v := (.int .u64 (v1 : Int))) (rfl) hS_ ?_
 refine D_assign (i := 13) (listed2 := (bm 14 16383)) (by kernel_rfl) rfl rfl rfl (v := (.int .u64 (v2 : Int))) (rfl) hS_ ?_
 refine D_done (by kernel_rfl) ?_
 change WP _ _ _ _ _ _
 refine W_seq ?_
 refine W_region rfl ?_
 refine S_move rfl rfl rfl (v := va) (rfl) ?_
 refine S_call en_slices_Clone_api_Nat_uint32 rfl rfl rfl (vs := [va]) (rfl) (natsClone_c _ _ la (ha.below E) hsa0) ?_
 rintro vh1 w2 ⟨hB2, h1⟩
 have hz2 := hB2.size
 have E := Below.step E hB2
 have hsz1 := E.size
 refine S_lit Tryz.underlying23 ti_uint32 rfl rfl (by decide) (by decide) rfl (vs := [(.int .u32 0)]) (cs := [(.int .u32 0)]) rfl rfl (by simp [Value.cells]) rfl ?_
 intro g3 w3 hg3 hs3 hB3 b3
 have hz3 := hB3.size
 have E := Below.step E hB3
 have h1 := h1.below hB3
 replace b3 : Blk w3 g3 (nums .u32 [0]) 106 := b3
 refine S_appendR Tryz.underlying23 ti_uint32 rfl rfl rfl rfl rfl (v := vh1) (rfl) (rfl) h1.row (by decide) (news := nums .u32 [0]) rfl (fun j u hj => by rw [add_plain, b3.cell, Nat.zero_add]; exact hj) (one_nums _ _) (by omega) (by omega) (by omega) ?_
 intro v2 w4 RW2 hgr hbb _
 have E := Below.grownE E hgr (by omega) (fun g hg => by have := (h1.bkB g hg).1; omega)
 rw [nums_app] at RW2
 have hru : U32 (la ++ [0]) := ha.u32.append (U32.mk (by decide) (by decide) U32.nil)
 obtain ⟨g, cc, RW⟩ := (RW2.on hru).ow (by simp)
 obtain ⟨mr, hmr⟩ : ∃ mr, mr = la.length + 1 := ⟨_, rfl⟩
 obtain ⟨ru, hrue⟩ : ∃ ru, ru = la ++ [0] := ⟨_, rfl⟩
 rw [← hrue] at RW hru
 have hrl : ru.length = mr := by rw [hrue, hmr]; simp
 have hrv : val ru = val la := by rw [hrue, val_append]; simp [val]
 obtain rfl : v2 = .slice (some ⟨g, 0, none⟩) mr cc := by rw [← hrl]; exact RW.1
 have hgB := RW.2.1
 have RW : OW w0.heap.size g cc w4 (.slice (some ⟨g, 0, none⟩) mr cc) ru := ⟨RW.1, by omega, RW.2.2⟩
 have hglt : g < w4.heap.size := by obtain ⟨_, _, _, _, rr, hbb, _⟩ := RW; exact hbb.lt
 refine S_assign rfl rfl rfl (v := (.slice (some ⟨g, 0, none⟩) mr cc)) (rfl) ?_
 refine OPS.nil ?_
 change WP _ _ _ _ _ _
 refine W_seq ?_
 refine W_region rfl ?_
 obtain ⟨mq, hmq⟩ : ∃ mq, mq + lb.length = mr := ⟨mr - lb.length, by omega⟩
 refine S_move rfl rfl rfl (v := (.slice (some ⟨g, 0, none⟩) mr cc)) (rfl) ?_
 refine S_len Tryz.underlying23 rfl rfl rfl (rfl) (m := mr) (⟨_, _, rfl⟩) ?_
 refine S_move rfl rfl rfl (v := (.int .i64 (lb.length : Int))) (rfl) ?_
 refine S_sub64 rfl rfl rfl rfl (rfl) (rfl) (by omega) ?_
 refine S_make Tryz.underlying23 ti_uint32 rfl rfl rfl rfl (rfl) (m := mq) (by omega) (by omega) (by omega) ?_
 intro g5 w5 hg5 hs5 hB5 b5
 rw [nums_rep] at b5
 have hz5 := hB5.size
 have E := Below.step E hB5
 have RW := RW.below hB5
 refine S_assign rfl rfl rfl (v := (.slice (some ⟨g5, 0, none⟩) (mq) (mq))) (rfl) ?_
 refine OPS.nil ?_
 change WP _ _ _ _ _ _
 refine W_seq ?_
 refine W_seq ?_
 refine W_region rfl ?_
 have hlt0 : val (ru.drop mq) < val lb := by
   have e9 : ru.drop mq = la.drop (la.length + 1 - lb.length) ++ [0] := by
     rw [hrue, List.drop_append_of_le_length (by omega), show mq = la.length + 1 - lb.length by omega]
   rw [e9, val_append]
   simpa [val] using hlt
 refine S_move rfl rfl rfl (v := (.slice (some ⟨g5, 0, none⟩) (mq) (mq))) (rfl) ?_
 refine S_len Tryz.underlying23 rfl rfl rfl (rfl) (m := (mq)) (⟨_, _, rfl⟩) ?_
 refine S_sub64 rfl rfl rfl rfl (rfl) (rfl) (by omega) ?_
 refine S_assign rfl rfl rfl (v := (.int .i64 (((mq) : Int) - 1))) (rfl) ?_
 refine OPS.nil ?_
 change WP _ _ _ _ _ _
 refine W_block ?_
 refine W_loop (fun k σ w => ∃ (r0 qs : List Int), σ 1 = vb ∧ σ 4 = .slice (some ⟨g5, 0, none⟩) mq mq ∧ σ 6 = .int .i64 (lb.length : Int) ∧ σ 7 = .int .u64 (v1 : Int) ∧ σ 8 = .int .u64 (v2 : Int) ∧ σ 9 = .slice (some ⟨g, 0, none⟩) mr cc ∧ σ 10 = .int .i64 ((k : Int) - 1) ∧ k ≤ mq ∧ val ru = val (qs.drop k) * 4294967296 ^ k * val lb + val r0 ∧ val (r0.drop k) < val lb ∧ qs.length = mq ∧ U32 qs ∧ r0.length = mr ∧ U32 r0 ∧ OW w0.heap.size g cc w (.slice (some ⟨g, 0, none⟩) mr cc) r0 ∧ Blk w g5 (nums .u32 qs) 106 ∧ Below w0.heap.size w0 w) (mq) ⟨ru, List.replicate mq 0, rfl, rfl, rfl, rfl, rfl, rfl, rfl, Nat.le_refl _, by rw [List.drop_of_length_le (by simp)]; simp [val], hlt0, by simp, U32.replicate mq, hrl, hru, RW, b5, E⟩ ?_
 rintro k σ w ⟨r0, qs, s1, s4, s6, s7, s8, s9, s10, hk, hI, hlt, hql, hqu, hrl, hru, RW, bq, E⟩
 refine W_seq ?_
 refine W_seq ?_
 refine W_region rfl ?_
 refine S_move rfl rfl rfl (v := (.int .i64 ((k : Int) - 1))) (s10) ?_
 refine S_bin rfl rfl rfl rfl rfl (rfl) (rfl) (v := .bool (decide (((k : Int) - 1) ≥ 0))) rfl ?_
 refine OPS.nil ?_
 change WP _ _ _ _ _ _
 refine W_cond rfl (rfl) (fun hq49 => ?_) (fun hq49 => ?_)
 ·skip
  have pT := hq49
  replace hq49 := of_decide_eq_true hq49
  have qT := hq49
  try rw [pT]
  refine W_skip ?_
  change WP _ _ _ _ _ _
  refine W_seq ?_
  refine W_block ?_
  refine W_seq ?_
  refine W_region rfl ?_
  refine S_move rfl rfl rfl (v := (.slice (some ⟨g, 0, none⟩) mr cc)) (s9) ?_
  refine S_move rfl rfl rfl (v := (.int .i64 ((k : Int) - 1))) (s10) ?_
  refine S_move rfl rfl rfl (v := (.int .i64 ((k : Int) - 1))) (s10) ?_
  refine S_move rfl rfl rfl (v := (.int .i64 (lb.length : Int))) (s6) ?_
  refine S_add64 rfl rfl rfl rfl (rfl) (rfl) (by omega) ?_
  refine S_add64 rfl rfl rfl rfl (rfl) (rfl) (by omega) ?_
  have hcc := RW.2.2.1
  refine S_sliceLoHi Tryz.underlying23 ti_uint32 rfl rfl rfl rfl rfl (ad := ⟨g, 0, none⟩) (m := mr) (c := cc) (rfl) (rfl) (rfl) (l := k - 1) (q := k - 1 + lb.length + 1) (by omega) (by omega) (by omega) (by omega) ?_
  rw [if_neg (show cc ≠ k - 1 by omega), add_plain, show 0 + (k - 1) * 1 = k - 1 by omega, show k - 1 + lb.length + 1 - (k - 1) = lb.length + 1 by omega]
  refine S_assign rfl rfl rfl (v := (.slice (some ⟨g, k - 1, none⟩) (lb.length + 1) (cc - (k - 1)))) (rfl) ?_
  refine OPS.nil ?_
  change WP _ _ _ _ _ _
  refine W_seq ?_
  refine D_begin_ mixed_ rfl rfl ?_
  intro w6 hB6 hz_6
  have hz6 := hB6.size
  have E := Below.step E hB6
  have RW := RW.below hB6
  have hl_bq := bq.lt
  have bq := bq.below hB6
  have hS_ : Below w6.heap.size w6 w6 := Below.refl _ _
  have E_S := E
  have RW_S := RW
  have bq_S := bq
  obtain ⟨t1, ht1, ht1l⟩ := hru.nat (k - 1 + m + 2)
  obtain ⟨t2, ht2, ht2l⟩ := hru.nat (k - 1 + m + 1)
  obtain ⟨u2, hu2, hu2l⟩ := hru.nat (k - 1 + m)
  have hU := top3 r0 (k - 1) m
  rw [ht1, ht2, hu2, Int.toNat_natCast, Int.toNat_natCast, Int.toNat_natCast, show m + 3 = lb.length + 1 by omega] at hU
  obtain ⟨tp, htp⟩ : ∃ tp, tp = t1 * 4294967296 + t2 := ⟨_, rfl⟩
  rw [← htp] at hU
  have hur := val_take_lt (hru.drop (k - 1)) m
  have hst := step_u (i := k - 1) (n := lb.length) hru (by rw [show k - 1 + 1 = k by omega]; exact hlt) hbn
  have hub9 : val ((r0.drop (k - 1)).take (lb.length + 1)) < 4294967296 * val lb := by rw [← hst.1]; exact hst.2
  have hQ0 := guess_start hV hU hur hu2l hv1p
  have hQ1 := Nat.le_of_lt_succ ((Nat.div_lt_iff_lt_mul hvp).2 hub9)
  obtain ⟨d0, hd0⟩ : ∃ d0, d0 = min (tp / v1) 4294967295 := ⟨_, rfl⟩
  have hd3 : val ((r0.drop (k - 1)).take (lb.length + 1)) / val lb ≤ d0 := by rw [hd0]; exact Nat.le_min.2 ⟨hQ0, hQ1⟩
  have hd1 : d0 ≤ 4294967295 := by rw [hd0]; exact Nat.min_le_right _ _
  have hd2 : d0 * v1 ≤ tp := Nat.le_trans (Nat.mul_le_mul_right _ (by rw [hd0]; exact Nat.min_le_left _ _)) (Nat.div_mul_le_self tp v1)
  obtain ⟨hh, hhe, hhl⟩ := hru.nat (k - 1 + lb.length)
  have hUh : val ((r0.drop (k - 1)).take (lb.length + 1)) = val ((r0.drop (k - 1)).take lb.length) + hh * 4294967296 ^ lb.length := by
    have h9 := val_part r0 (k - 1) lb.length
    rw [hhe, Int.toNat_natCast] at h9
    rw [h9, Nat.mul_comm]
  refine D_move (i := 0) (listed2 := (bm 14 1)) (by kernel_rfl) rfl rfl rfl (v := (.slice (some ⟨g, k - 1, none⟩) (lb.length + 1) (cc - (k - 1)))) (rfl) hS_ ?_
  refine D_move (i := 1) (listed2 := (bm 14 3)) (by kernel_rfl) rfl rfl rfl (v := (.int .i64 (lb.length : Int))) (s6) hS_ ?_
  refine D_idx Tryz.underlying23 ti_uint32 (i := 2) (listed2 := (bm 14 7)) (by kernel_rfl) rfl rfl rfl rfl (rfl) (rfl) (j := (m + 2)) (ad := ⟨g, (k - 1 + m + 2), none⟩) (SlAt.own2 (by omega) (by omega)) (by omega) hS_ ?_
  refine D_load (i := 3) (listed2 := (bm 14 15)) (by kernel_rfl) rfl rfl rfl (rfl) (fun _ hS2 => LD.one ti_uint32 (cell_below hS2 (RW_S.cell (by omega)))) hS_ ?_
  refine D_conv Tryz.underlying106 Tryz.underlying124 (i := 4) (listed2 := (bm 14 31)) (by kernel_rfl) rfl rfl rfl (rfl) (b := (t1 : Int)) ((wrap_u64 (by omega) (by omega)).trans ht1) hS_ ?_
  refine D_shl (i := 5) (listed2 := (bm 14 63)) (by kernel_rfl) rfl rfl rfl rfl (rfl) (rfl) (by omega) (v := ((t1 : Int) * 4294967296)) (S_shl32 ⟨by omega, by omega⟩) hS_ ?_
  refine D_move (i := 6) (listed2 := (bm 14 127)) (by kernel_rfl) rfl rfl rfl (v := (.slice (some ⟨g, k - 1, none⟩) (lb.length + 1) (cc - (k - 1)))) (rfl) hS_ ?_
  refine D_move (i := 7) (listed2 := (bm 14 255)) (by kernel_rfl) rfl rfl rfl (v := (.int .i64 (lb.length : Int))) (s6) hS_ ?_
  refine D_sub64 (i := 8) (listed2 := (bm 14 511)) (by kernel_rfl) rfl rfl rfl rfl (rfl) (rfl) (by omega) hS_ ?_
  refine D_idx Tryz.underlying23 ti_uint32 (i := 9) (listed2 := (bm 14 1023)) (by kernel_rfl) rfl rfl rfl rfl (rfl) (rfl) (j := (m + 1)) (ad := ⟨g, (k - 1 + m + 1), none⟩) (SlAt.own2 (by omega) (by omega)) (by omega) hS_ ?_
  refine D_load (i := 10) (listed2 := (bm 14 2047)) (by kernel_rfl) rfl rfl rfl (rfl) (fun _ hS2 => LD.one ti_uint32 (cell_below hS2 (RW_S.cell (by omega)))) hS_ ?_
  refine D_conv Tryz.underlying106 Tryz.underlying124 (i := 11) (listed2 := (bm 14 4095)) (by kernel_rfl) rfl rfl rfl (rfl) (b := (t2 : Int)) ((wrap_u64 (by omega) (by omega)).trans ht2) hS_ ?_
  refine D_bits (i := 12) (listed2 := (bm 14 8191)) (by kernel_rfl) rfl rfl rfl rfl (by simp) (rfl) (rfl) (v := (tp : Int)) ((hi_lo ⟨by omega, by omega⟩ ⟨by omega, by omega⟩).trans (by omega)) hS_ ?_
  refine D_assign (i := 13) (listed2 := (bm 14 16383)) (by kernel_rfl) rfl rfl rfl (v := (.int .u64 (tp : Int))) (rfl) hS_ ?_
  refine D_done (by kernel_rfl) ?_
  change WP _ _ _ _ _ _
  refine W_seq ?_
  refine W_region rfl ?_
  refine S_move rfl rfl rfl (v := (.int .u64 (tp : Int))) (rfl) ?_
  refine S_move rfl rfl rfl (v := (.int .u64 (v1 : Int))) (s7) ?_
  refine S_quo rfl rfl rfl rfl (rfl) (rfl) (by omega) (v := ((tp / v1 : Nat) : Int)) (quoN rfl rfl (by omega) (by omega)) ?_
  refine S_min rfl rfl rfl rfl (rfl) (rfl) (v := (d0 : Int)) (by rw [hd0]; omega) ?_
  refine S_assign rfl rfl rfl (v := (.int .u64 (d0 : Int))) (rfl) ?_
  refine OPS.nil ?_
  change WP _ _ _ _ _ _
  refine W_seq ?_
  refine W_seq ?_
  refine W_region rfl ?_
  refine S_move rfl rfl rfl (v := (.int .u64 (tp : Int))) (rfl) ?_
  refine S_move rfl rfl rfl (v := (.int .u64 (d0 : Int))) (rfl) ?_
  refine S_move rfl rfl rfl (v := (.int .u64 (v1 : Int))) (s7) ?_
  refine S_bin rfl rfl rfl rfl rfl (rfl) (rfl) (v := .int .u64 ((d0 * v1 : Nat) : Int)) (congrArg (Value.int .u64) (mulN (by omega))) ?_
  refine S_bin rfl rfl rfl rfl rfl (rfl) (rfl) (v := .int .u64 ((tp - d0 * v1 : Nat) : Int)) (congrArg (Value.int .u64) ((wrap_u64 (by omega) (by omega)).trans (by omega))) ?_
  refine S_assign rfl rfl rfl (v := (.int .u64 ((tp - d0 * v1 : Nat) : Int))) (rfl) ?_
  refine OPS.nil ?_
  change WP _ _ _ _ _ _
  refine W_cut (fun σ w => ∃ (p : Nat), σ 1 = vb ∧ σ 4 = .slice (some ⟨g5, 0, none⟩) mq mq ∧ σ 6 = .int .i64 (lb.length : Int) ∧ σ 7 = .int .u64 (v1 : Int) ∧ σ 8 = .int .u64 (v2 : Int) ∧ σ 9 = .slice (some ⟨g, 0, none⟩) mr cc ∧ σ 10 = .int .i64 ((k : Int) - 1) ∧ σ 11 = .slice (some ⟨g, k - 1, none⟩) (lb.length + 1) (cc - (k - 1)) ∧ σ 13 = .int .u64 (p : Int) ∧ val ((r0.drop (k - 1)).take (lb.length + 1)) / val lb ≤ p ∧ p < 4294967296 ∧ p * val lb < val ((r0.drop (k - 1)).take (lb.length + 1)) + val lb ∧ r0.length = mr ∧ U32 r0 ∧ OW w0.heap.size g cc w (.slice (some ⟨g, 0, none⟩) mr cc) r0 ∧ Blk w g5 (nums .u32 qs) 106 ∧ Below w0.heap.size w0 w) ?_ ?_
  ·skip
   refine W_block ?_
   refine W_loop (fun p σ w => ∃ (r : Nat), σ 1 = vb ∧ σ 4 = .slice (some ⟨g5, 0, none⟩) mq mq ∧ σ 6 = .int .i64 (lb.length : Int) ∧ σ 7 = .int .u64 (v1 : Int) ∧ σ 8 = .int .u64 (v2 : Int) ∧ σ 9 = .slice (some ⟨g, 0, none⟩) mr cc ∧ σ 10 = .int .i64 ((k : Int) - 1) ∧ σ 11 = .slice (some ⟨g, k - 1, none⟩) (lb.length + 1) (cc - (k - 1)) ∧ σ 13 = .int .u64 (p : Int) ∧ σ 14 = .int .u64 (r : Int) ∧ p * v1 + r = tp ∧ val ((r0.drop (k - 1)).take (lb.length + 1)) / val lb ≤ p ∧ p ≤ 4294967295 ∧ r < 18446744073709551616 ∧ r0.length = mr ∧ U32 r0 ∧ OW w0.heap.size g cc w (.slice (some ⟨g, 0, none⟩) mr cc) r0 ∧ Blk w g5 (nums .u32 qs) 106 ∧ Below w0.heap.size w0 w) (d0) ⟨tp - d0 * v1, s1, s4, s6, s7, s8, s9, s10, rfl, rfl, rfl, by omega, hd3, by omega, by omega, hrl, hru, RW, bq, E⟩ ?_
   rintro p σ w ⟨r, s1, s4, s6, s7, s8, s9, s10, s11, s13, s14, hqr, hUq, hq, hr64, hrl, hru, RW, bq, E⟩
   refine W_seq ?_
   refine W_seq ?_
   refine W_region rfl ?_
   refine S_move rfl rfl rfl (v := (.int .u64 (r : Int))) (s14) ?_
   refine S_shr rfl rfl rfl rfl (rfl) (rfl) (by omega) (v := ((r : Int) / 4294967296)) (shr32 _) ?_
   refine S_bin rfl rfl rfl rfl rfl (rfl) (rfl) (v := .bool ((((r : Int) / 4294967296) == 0))) rfl ?_
   refine S_move rfl rfl rfl (v := (.bool ((((r : Int) / 4294967296) == 0)))) (rfl) ?_
   rcases Bool.eq_false_or_eq_true ((((r : Int) / 4294967296) == 0)) with pT | pF
   ·skip
    rw [pT]
    have qT := eq_of_beq pT
    have hqv : p * v2 < 18446744073709551616 := by
      have := Nat.mul_le_mul (show p ≤ 4294967295 by omega) (show v2 ≤ 4294967295 by omega)
      omega
    refine S_move rfl rfl rfl (v := (.int .u64 (p : Int))) (s13) ?_
    refine S_move rfl rfl rfl (v := (.int .u64 (v2 : Int))) (s8) ?_
    refine S_bin rfl rfl rfl rfl rfl (rfl) (rfl) (v := .int .u64 ((p * v2 : Nat) : Int)) (congrArg (Value.int .u64) (mulN hqv)) ?_
    refine S_move rfl rfl rfl (v := (.int .u64 (r : Int))) (s14) ?_
    refine S_shl rfl rfl rfl rfl (rfl) (rfl) (by omega) (v := ((r : Int) * 4294967296)) (S_shl32 ⟨by omega, by omega⟩) ?_
    refine S_move rfl rfl rfl (v := (.slice (some ⟨g, k - 1, none⟩) (lb.length + 1) (cc - (k - 1)))) (s11) ?_
    refine S_move rfl rfl rfl (v := (.int .i64 (lb.length : Int))) (s6) ?_
    refine S_sub64 rfl rfl rfl rfl (rfl) (rfl) (by omega) ?_
    refine S_idx Tryz.underlying23 ti_uint32 rfl rfl rfl rfl (rfl) (rfl) (j := m) (ad := ⟨g, (k - 1 + m), none⟩) (SlAt.own2 (by omega) (by omega)) (by omega) ?_
    refine S_load rfl rfl rfl (rfl) (LD.one ti_uint32 (RW.cell (by omega))) ?_
    refine S_conv Tryz.underlying106 Tryz.underlying124 rfl rfl rfl (rfl) (b := (u2 : Int)) ((wrap_u64 (by omega) (by omega)).trans hu2) ?_
    refine S_bits rfl rfl rfl rfl (by simp) (rfl) (rfl) (v := ((r : Int) * 4294967296 + (u2 : Int))) (hi_lo ⟨by omega, by omega⟩ ⟨by omega, by omega⟩) ?_
    refine S_bin rfl rfl rfl rfl rfl (rfl) (rfl) (v := .bool (decide (((p * v2 : Nat) : Int) > ((r : Int) * 4294967296 + (u2 : Int))))) rfl ?_
    refine S_pick rfl rfl rfl rfl rfl (b := true) (rfl) (v := (.bool (decide (((p * v2 : Nat) : Int) > ((r : Int) * 4294967296 + (u2 : Int)))))) (rfl) ?_
    refine OPS.nil ?_
    change WP _ _ _ _ _ _
    refine W_cond rfl (rfl) (fun hq98 => ?_) (fun hq98 => ?_)
    ·skip
     have pTT := hq98
     replace hq98 := of_decide_eq_true hq98
     have qTT := hq98
     try rw [pTT]
     refine W_skip ?_
     change WP _ _ _ _ _ _
     refine W_seq ?_
     refine W_block ?_
     refine W_region rfl ?_
     have hqd := guess_dec hV hU hur hqr (show r * 4294967296 + u2 < p * v2 by omega) hvp
     refine S_move rfl rfl rfl (v := (.int .u64 (p : Int))) (s13) ?_
     refine S_bin rfl rfl rfl rfl rfl (rfl) (rfl) (v := .int .u64 ((p - 1 : Nat) : Int)) (congrArg (Value.int .u64) ((wrap_u64 (by omega) (by omega)).trans (by omega))) ?_
     refine S_assign rfl rfl rfl (v := (.int .u64 ((p - 1 : Nat) : Int))) (rfl) ?_
     refine OPS.nil ?_
     change WP _ _ _ _ _ _
     refine W_region rfl ?_
     refine S_move rfl rfl rfl (v := (.int .u64 (r : Int))) (s14) ?_
     refine S_move rfl rfl rfl (v := (.int .u64 (v1 : Int))) (s7) ?_
     refine S_bin rfl rfl rfl rfl rfl (rfl) (rfl) (v := .int .u64 ((r + v1 : Nat) : Int)) (congrArg (Value.int .u64) ((wrap_u64 (by omega) (by omega)).trans (by omega))) ?_
     refine S_assign rfl rfl rfl (v := (.int .u64 ((r + v1 : Nat) : Int))) (rfl) ?_
     refine OPS.nil ?_
     have h9 := Nat.mul_le_mul_right v1 hqd.1
     exact ⟨p - 1, by omega, r + v1, s1, s4, s6, s7, s8, s9, s10, s11, rfl, rfl, by rw [Nat.sub_mul, Nat.one_mul]; omega, hqd.2, by omega, by omega, hrl, hru, RW, bq, E⟩
    ·skip
     have pTF := hq98
     replace hq98 := of_decide_eq_false hq98
     have qTF := hq98
     try rw [pTF]
     refine W_exit ?_
     obtain ⟨f1, f2⟩ := guess_end hV hvr hv2l hU hub9 hv1p (by decide) hMp hqr (.inr ⟨by omega, by omega⟩)
     exact ⟨rfl, p, s1, s4, s6, s7, s8, s9, s10, s11, s13, hUq, f1, f2, hrl, hru, RW, bq, E⟩
   ·skip
    rw [pF]
    have qF := ne_of_beq_false pF
    refine S_skip (d := 85) (op := .move _) (gd := some (3, true)) rfl (wg_off rfl (rfl) rfl) ?_
    refine S_skip (d := 86) (op := .move _) (gd := some (3, true)) rfl (wg_off rfl (rfl) rfl) ?_
    refine S_skip (d := 87) (op := .binOp _ _ _ _ _) (gd := some (3, true)) rfl (wg_off rfl (rfl) rfl) ?_
    refine S_skip (d := 88) (op := .move _) (gd := some (3, true)) rfl (wg_off rfl (rfl) rfl) ?_
    refine S_skip (d := 89) (op := .binOp _ _ _ _ _) (gd := some (3, true)) rfl (wg_off rfl (rfl) rfl) ?_
    refine S_skip (d := 90) (op := .move _) (gd := some (3, true)) rfl (wg_off rfl (rfl) rfl) ?_
    refine S_skip (d := 91) (op := .move _) (gd := some (3, true)) rfl (wg_off rfl (rfl) rfl) ?_
    refine S_skip (d := 92) (op := .binOp _ _ _ _ _) (gd := some (3, true)) rfl (wg_off rfl (rfl) rfl) ?_
    refine S_skip (d := 93) (op := .indexAddr _ _ _) (gd := some (3, true)) rfl (wg_off rfl (rfl) rfl) ?_
    refine S_skip (d := 94) (op := .load _ _) (gd := some (3, true)) rfl (wg_off rfl (rfl) rfl) ?_
    refine S_skip (d := 95) (op := .convert _ _ _) (gd := some (3, true)) rfl (wg_off rfl (rfl) rfl) ?_
    refine S_skip (d := 96) (op := .binOp _ _ _ _ _) (gd := some (3, true)) rfl (wg_off rfl (rfl) rfl) ?_
    refine S_skip (d := 97) (op := .binOp _ _ _ _ _) (gd := some (3, true)) rfl (wg_off rfl (rfl) rfl) ?_
    refine S_pick rfl rfl rfl rfl rfl (b := false) (rfl) (v := (.bool false)) (rfl) ?_
    refine OPS.nil ?_
    change WP _ _ _ _ _ _
    refine W_cond rfl (b := false) (rfl) (fun h => (by cases h)) (fun _ => ?_)
    refine W_exit ?_
    obtain ⟨f1, f2⟩ := guess_end hV hvr hv2l hU hub9 hv1p (by decide) hMp hqr (.inl (by omega))
    exact ⟨rfl, p, s1, s4, s6, s7, s8, s9, s10, s11, s13, hUq, f1, f2, hrl, hru, RW, bq, E⟩
  ·skip
   rintro σ w ⟨p, s1, s4, s6, s7, s8, s9, s10, s11, s13, hUq, f1, f2, hrl, hru, RW, bq, E⟩
   change WP _ _ _ _ _ _
   refine W_seq ?_
   refine W_region rfl ?_
   refine S_assign rfl rfl rfl (v := (.int .u64 0)) (rfl) ?_
   refine OPS.nil ?_
   change WP _ _ _ _ _ _
   refine W_seq ?_
   refine W_seq ?_
   refine W_region rfl ?_
   refine S_move rfl rfl rfl (v := vb) (s1) ?_
   refine S_len Tryz.underlying23 rfl rfl rfl (rfl) (m := lb.length) (hb.len) ?_
   refine S_move rfl rfl rfl (v := (.int .i64 0)) (rfl) ?_
   refine OPS.nil ?_
   change WP _ _ _ _ _ _
   refine W_block ?_
   refine W_loop (fun z σ w => ∃ (j : Nat) (owed : Int) (x1 : List Int), σ 1 = vb ∧ σ 4 = .slice (some ⟨g5, 0, none⟩) mq mq ∧ σ 6 = .int .i64 (lb.length : Int) ∧ σ 7 = .int .u64 (v1 : Int) ∧ σ 8 = .int .u64 (v2 : Int) ∧ σ 9 = .slice (some ⟨g, 0, none⟩) mr cc ∧ σ 10 = .int .i64 ((k : Int) - 1) ∧ σ 11 = .slice (some ⟨g, k - 1, none⟩) (lb.length + 1) (cc - (k - 1)) ∧ σ 13 = .int .u64 (p : Int) ∧ σ 15 = .int .u64 owed ∧ σ 104 = vb ∧ σ 105 = .int .i64 (lb.length : Int) ∧ σ 106 = .int .i64 (j : Int) ∧ j + z = lb.length ∧ (0 ≤ owed ∧ owed ≤ 4294967296) ∧ val ((r0.drop (k - 1)).take j) + 4294967296 ^ j * owed.toNat = val ((x1.drop (k - 1)).take j) + ((p : Nat) : Int).toNat * val (lb.take j) ∧ x1.take (k - 1) = r0.take (k - 1) ∧ (∀ t, k - 1 + j ≤ t → x1.getD t 0 = r0.getD t 0) ∧ x1.length = mr ∧ U32 x1 ∧ OW w0.heap.size g cc w (.slice (some ⟨g, 0, none⟩) mr cc) x1 ∧ Blk w g5 (nums .u32 qs) 106 ∧ Below w0.heap.size w0 w) (lb.length) ⟨0, 0, r0, s1, s4, s6, s7, s8, s9, s10, s11, s13, rfl, rfl, rfl, rfl, by omega, ⟨by decide, by decide⟩, by simp [val], rfl, fun _ _ => rfl, hrl, hru, RW, bq, E⟩ ?_
   rintro z σ w ⟨j, owed, x1, s1, s4, s6, s7, s8, s9, s10, s11, s13, s15, s104, s105, s106, hjz, ho, hval, hx1t, hx1o, hx1l, hx1u, RW, bq, E⟩
   have hux := hx1u.getD (k - 1 + j)
   have huy := hb.u32.getD j
   have hmu := mul_lt (x := (p : Int)) (y := lb.getD j 0) ⟨by omega, by omega⟩ huy
   refine W_seq ?_
   refine W_region rfl ?_
   refine S_bin rfl rfl rfl rfl rfl (s106) (s105) (v := .bool (decide ((j : Int) < (lb.length : Int)))) rfl ?_
   refine OPS.nil ?_
   change WP _ _ _ _ _ _
   refine W_seq ?_
   refine W_cond rfl (rfl) (fun hq107 => ?_) (fun hq107 => ?_)
   ·skip
    have pT := hq107
    replace hq107 := of_decide_eq_true hq107
    have qT := hq107
    try rw [pT]
    refine W_skip ?_
    change WP _ _ _ _ _ _
    refine W_seq ?_
    refine W_block ?_
    refine W_seq ?_
    refine W_region rfl ?_
    refine S_move rfl rfl rfl (v := (.int .i64 (j : Int))) (s106) ?_
    obtain ⟨ad16, hp18, hc17⟩ := (hb.below E).at j (by omega)
    refine S_idx Tryz.underlying23 ti_uint32 rfl rfl rfl rfl (s104) (s106) hp18 (by omega) ?_
    refine S_load rfl rfl rfl (rfl) (LD.one ti_uint32 hc17) ?_
    refine S_assign rfl rfl rfl (v := (.int .i64 (j : Int))) (rfl) ?_
    refine S_assign rfl rfl rfl (v := (.int .u32 (lb.getD j 0))) (rfl) ?_
    refine OPS.nil ?_
    change WP _ _ _ _ _ _
    refine W_seq ?_
    refine W_region rfl ?_
    refine S_move rfl rfl rfl (v := (.int .u64 (p : Int))) (s13) ?_
    refine S_move rfl rfl rfl (v := (.int .u32 (lb.getD j 0))) (rfl) ?_
    refine S_conv Tryz.underlying106 Tryz.underlying124 rfl rfl rfl (rfl) (b := (lb.getD j 0)) (wrap_u64 huy.1 (by omega)) ?_
    refine S_bin rfl rfl rfl rfl rfl (rfl) (rfl) (v := .int .u64 ((p : Int) * (lb.getD j 0))) (congrArg _ (wrap_u64 (by omega) (by omega))) ?_
    refine S_move rfl rfl rfl (v := (.int .u64 owed)) (s15) ?_
    refine S_bin rfl rfl rfl rfl rfl (rfl) (rfl) (v := .int .u64 (((p : Int) * (lb.getD j 0)) + owed)) (congrArg _ (wrap_u64 (by omega) (by omega))) ?_
    refine S_assign rfl rfl rfl (v := (.int .u64 (((p : Int) * (lb.getD j 0)) + owed))) (rfl) ?_
    refine OPS.nil ?_
    change WP _ _ _ _ _ _
    refine W_seq ?_
    refine W_region rfl ?_
    refine S_move rfl rfl rfl (v := (.int .u64 (((p : Int) * (lb.getD j 0)) + owed))) (rfl) ?_
    refine S_shr rfl rfl rfl rfl (rfl) (rfl) (by omega) (v := ((((p : Int) * (lb.getD j 0)) + owed) / 4294967296)) (shr32 _) ?_
    refine S_assign rfl rfl rfl (v := (.int .u64 ((((p : Int) * (lb.getD j 0)) + owed) / 4294967296))) (rfl) ?_
    refine OPS.nil ?_
    change WP _ _ _ _ _ _
    refine W_seq ?_
    refine W_seq ?_
    refine W_region rfl ?_
    refine S_move rfl rfl rfl (v := (.slice (some ⟨g, k - 1, none⟩) (lb.length + 1) (cc - (k - 1)))) (s11) ?_
    refine S_move rfl rfl rfl (v := (.int .i64 (j : Int))) (rfl) ?_
    refine S_idx Tryz.underlying23 ti_uint32 rfl rfl rfl rfl (rfl) (rfl) (j := j) (ad := ⟨g, (k - 1 + j), none⟩) (SlAt.own2 (by omega) (by omega)) (by omega) ?_
    refine S_load rfl rfl rfl (rfl) (LD.one ti_uint32 (RW.cell (by omega))) ?_
    refine S_move rfl rfl rfl (v := (.int .u64 (((p : Int) * (lb.getD j 0)) + owed))) (rfl) ?_
    refine S_conv Tryz.underlying124 Tryz.underlying106 rfl rfl rfl (rfl) (b := ((((p : Int) * (lb.getD j 0)) + owed) % 4294967296)) (wrap_u32' _) ?_
    refine S_bin rfl rfl rfl rfl rfl (rfl) (rfl) (v := .bool (decide (((x1).getD ((k - 1 + j)) 0) < ((((p : Int) * (lb.getD j 0)) + owed) % 4294967296)))) rfl ?_
    refine OPS.nil ?_
    change WP _ _ _ _ _ _
    refine W_cond rfl (rfl) (fun hq125 => ?_) (fun hq125 => ?_)
    ·skip
     have pTT := hq125
     replace hq125 := of_decide_eq_true hq125
     have qTT := hq125
     try rw [pTT]
     refine W_region rfl ?_
     refine S_move rfl rfl rfl (v := (.int .u64 ((((p : Int) * (lb.getD j 0)) + owed) / 4294967296))) (rfl) ?_
     refine S_bin rfl rfl rfl rfl rfl (rfl) (rfl) (v := .int .u64 (((((p : Int) * (lb.getD j 0)) + owed) / 4294967296) + 1)) (congrArg _ (wrap_u64 (by omega) (by omega))) ?_
     refine S_assign rfl rfl rfl (v := (.int .u64 (((((p : Int) * (lb.getD j 0)) + owed) / 4294967296) + 1))) (rfl) ?_
     refine OPS.nil ?_
     change WP _ _ _ _ _ _
     refine W_region rfl ?_
     refine S_move rfl rfl rfl (v := (.slice (some ⟨g, k - 1, none⟩) (lb.length + 1) (cc - (k - 1)))) (s11) ?_
     refine S_move rfl rfl rfl (v := (.int .i64 (j : Int))) (rfl) ?_
     refine S_idx Tryz.underlying23 ti_uint32 rfl rfl rfl rfl (rfl) (rfl) (j := j) (ad := ⟨g, (k - 1 + j), none⟩) (SlAt.own2 (by omega) (by omega)) (by omega) ?_
     refine S_load rfl rfl rfl (rfl) (LD.one ti_uint32 (RW.cell (by omega))) ?_
     refine S_move rfl rfl rfl (v := (.int .u64 (((p : Int) * (lb.getD j 0)) + owed))) (rfl) ?_
     refine S_conv Tryz.underlying124 Tryz.underlying106 rfl rfl rfl (rfl) (b := ((((p : Int) * (lb.getD j 0)) + owed) % 4294967296)) (wrap_u32' _) ?_
     refine S_bin rfl rfl rfl rfl rfl (rfl) (rfl) (v := .int .u32 (((x1.getD (k - 1 + j) 0) - ((p : Int) * (lb.getD j 0) + owed) % 4294967296) % 4294967296)) (congrArg (Value.int .u32) (wrap_u32' _)) ?_
     refine S_idx Tryz.underlying23 ti_uint32 rfl rfl rfl rfl (rfl) (rfl) (j := j) (ad := ⟨g, (k - 1 + j), none⟩) (SlAt.own2 (by omega) (by omega)) (by omega) ?_
     refine S_storeOW ti_uint32 rfl rfl rfl rfl (g := g) (o := (k - 1 + j)) (rfl) (a := (((x1.getD (k - 1 + j) 0) - ((p : Int) * (lb.getD j 0) + owed) % 4294967296) % 4294967296)) (rfl) RW (by omega) ?_
     intro w7 hU7 RW
     have E := Below.stepU E hU7 (by omega)
     have bq := bq.upd hU7 (by omega)
     have hz7 := hU7.size
     refine OPS.nil ?_
     change WP _ _ _ _ _ _
     refine W_region rfl ?_
     refine S_add64 rfl rfl rfl rfl (s106) (rfl) (by omega) ?_
     refine S_move rfl rfl rfl (v := (.int .i64 ((j : Int) + 1))) (rfl) ?_
     refine OPS.nil ?_
     have hd := msub_digit (x := (x1.getD (k - 1 + j) 0)) (p := ((p : Int) * (lb.getD j 0) + owed)) hux (by omega)
     rw [if_pos (by omega)] at hd
     exact ⟨z - 1, by omega, j + 1, _, _, s1, s4, s6, s7, s8, s9, s10, s11, s13, rfl, s104, s105, int_eq (by omega), by omega, ⟨by omega, by omega⟩, msub_step (x := (x1.getD (k - 1 + j) 0)) (y := (lb.getD j 0)) (g := (p : Int)) (by omega) (hx1o _ (Nat.le_refl _)).symm rfl hux.1 huy.1 (by omega) ho.1 (by omega) (by omega) hd hval, (set_take_le _ _ _ _ (by omega)).trans hx1t, fun t ht => by rw [getD_set_ne' _ _ _ _ (by omega)]; exact hx1o t (by omega), by simpa using hx1l, hx1u.set _ (by omega) (by omega), RW, bq, E⟩
    ·skip
     have pTF := hq125
     replace hq125 := of_decide_eq_false hq125
     have qTF := hq125
     try rw [pTF]
     refine W_skip ?_
     change WP _ _ _ _ _ _
     refine W_region rfl ?_
     refine S_move rfl rfl rfl (v := (.slice (some ⟨g, k - 1, none⟩) (lb.length + 1) (cc - (k - 1)))) (s11) ?_
     refine S_move rfl rfl rfl (v := (.int .i64 (j : Int))) (rfl) ?_
     refine S_idx Tryz.underlying23 ti_uint32 rfl rfl rfl rfl (rfl) (rfl) (j := j) (ad := ⟨g, (k - 1 + j), none⟩) (SlAt.own2 (by omega) (by omega)) (by omega) ?_
     refine S_load rfl rfl rfl (rfl) (LD.one ti_uint32 (RW.cell (by omega))) ?_
     refine S_move rfl rfl rfl (v := (.int .u64 (((p : Int) * (lb.getD j 0)) + owed))) (rfl) ?_
     refine S_conv Tryz.underlying124 Tryz.underlying106 rfl rfl rfl (rfl) (b := ((((p : Int) * (lb.getD j 0)) + owed) % 4294967296)) (wrap_u32' _) ?_
     refine S_bin rfl rfl rfl rfl rfl (rfl) (rfl) (v := .int .u32 (((x1.getD (k - 1 + j) 0) - ((p : Int) * (lb.getD j 0) + owed) % 4294967296) % 4294967296)) (congrArg (Value.int .u32) (wrap_u32' _)) ?_
     refine S_idx Tryz.underlying23 ti_uint32 rfl rfl rfl rfl (rfl) (rfl) (j := j) (ad := ⟨g, (k - 1 + j), none⟩) (SlAt.own2 (by omega) (by omega)) (by omega) ?_
     refine S_storeOW ti_uint32 rfl rfl rfl rfl (g := g) (o := (k - 1 + j)) (rfl) (a := (((x1.getD (k - 1 + j) 0) - ((p : Int) * (lb.getD j 0) + owed) % 4294967296) % 4294967296)) (rfl) RW (by omega) ?_
     intro w8 hU8 RW
     have E := Below.stepU E hU8 (by omega)
     have bq := bq.upd hU8 (by omega)
     have hz8 := hU8.size
     refine OPS.nil ?_
     change WP _ _ _ _ _ _
     refine W_region rfl ?_
     refine S_add64 rfl rfl rfl rfl (s106) (rfl) (by omega) ?_
     refine S_move rfl rfl rfl (v := (.int .i64 ((j : Int) + 1))) (rfl) ?_
     refine OPS.nil ?_
     have hd := msub_digit (x := (x1.getD (k - 1 + j) 0)) (p := ((p : Int) * (lb.getD j 0) + owed)) hux (by omega)
     rw [if_neg (by omega)] at hd
     exact ⟨z - 1, by omega, j + 1, _, _, s1, s4, s6, s7, s8, s9, s10, s11, s13, rfl, s104, s105, int_eq (by omega), by omega, ⟨by omega, by omega⟩, msub_step (x := (x1.getD (k - 1 + j) 0)) (y := (lb.getD j 0)) (g := (p : Int)) (by omega) (hx1o _ (Nat.le_refl _)).symm rfl hux.1 huy.1 (by omega) ho.1 (by omega) (by omega) (by rw [Int.add_zero] at hd; exact hd) hval, (set_take_le _ _ _ _ (by omega)).trans hx1t, fun t ht => by rw [getD_set_ne' _ _ _ _ (by omega)]; exact hx1o t (by omega), by simpa using hx1l, hx1u.set _ (by omega) (by omega), RW, bq, E⟩
   ·skip
    have pF := hq107
    replace hq107 := of_decide_eq_false hq107
    have qF := hq107
    try rw [pF]
    refine W_exit ?_
    change WP _ _ _ _ _ _
    refine W_seq ?_
    refine W_seq ?_
    refine W_region rfl ?_
    have hjl : j = lb.length := by omega
    subst hjl
    rw [List.take_length, Int.toNat_natCast] at hval
    have hhx := (hx1o (k - 1 + lb.length) (Nat.le_refl _)).trans hhe
    refine S_move rfl rfl rfl (v := (.slice (some ⟨g, k - 1, none⟩) (lb.length + 1) (cc - (k - 1)))) (s11) ?_
    refine S_move rfl rfl rfl (v := (.int .i64 (lb.length : Int))) (s6) ?_
    refine S_idx Tryz.underlying23 ti_uint32 rfl rfl rfl rfl (rfl) (rfl) (j := lb.length) (ad := ⟨g, (k - 1 + lb.length), none⟩) (SlAt.own2 (by omega) (by omega)) (by omega) ?_
    refine S_load rfl rfl rfl (rfl) (LD.one ti_uint32 (RW.cell (by omega))) ?_
    refine S_conv Tryz.underlying106 Tryz.underlying124 rfl rfl rfl (rfl) (b := (hh : Int)) ((wrap_u64 (by omega) (by omega)).trans hhx) ?_
    refine S_move rfl rfl rfl (v := (.int .u64 owed)) (s15) ?_
    refine S_bin rfl rfl rfl rfl rfl (rfl) (rfl) (v := .bool (decide ((hh : Int) < owed))) rfl ?_
    refine OPS.nil ?_
    change WP _ _ _ _ _ _
    refine W_cond rfl (rfl) (fun hq143 => ?_) (fun hq143 => ?_)
    ·skip
     have pFT := hq143
     replace hq143 := of_decide_eq_true hq143
     have qFT := hq143
     try rw [pFT]
     refine W_seq ?_
     refine W_region rfl ?_
     have hp1 : 1 ≤ p := by
       refine Nat.pos_of_ne_zero fun h => ?_
       subst h
       have h8 := val_take_lt (hx1u.drop (k - 1)) lb.length
       have h7 : 4294967296 ^ lb.length * 1 ≤ 4294967296 ^ lb.length * owed.toNat := Nat.mul_le_mul_left _ (by omega)
       omega
     refine S_move rfl rfl rfl (v := (.int .u64 (p : Int))) (s13) ?_
     refine S_bin rfl rfl rfl rfl rfl (rfl) (rfl) (v := .int .u64 ((p - 1 : Nat) : Int)) (congrArg (Value.int .u64) ((wrap_u64 (by omega) (by omega)).trans (by omega))) ?_
     refine S_assign rfl rfl rfl (v := (.int .u64 ((p - 1 : Nat) : Int))) (rfl) ?_
     refine OPS.nil ?_
     change WP _ _ _ _ _ _
     refine W_seq ?_
     refine W_region rfl ?_
     refine S_assign rfl rfl rfl (v := (.int .u32 0)) (rfl) ?_
     refine OPS.nil ?_
     change WP _ _ _ _ _ _
     refine W_seq ?_
     refine W_region rfl ?_
     refine S_move rfl rfl rfl (v := vb) (s1) ?_
     refine S_len Tryz.underlying23 rfl rfl rfl (rfl) (m := lb.length) (hb.len) ?_
     refine S_move rfl rfl rfl (v := (.int .i64 0)) (rfl) ?_
     refine OPS.nil ?_
     change WP _ _ _ _ _ _
     refine W_block ?_
     refine W_loop (fun z σ w => ∃ (j : Nat) (c : Int) (x2 : List Int), σ 1 = vb ∧ σ 4 = .slice (some ⟨g5, 0, none⟩) mq mq ∧ σ 6 = .int .i64 (lb.length : Int) ∧ σ 7 = .int .u64 (v1 : Int) ∧ σ 8 = .int .u64 (v2 : Int) ∧ σ 9 = .slice (some ⟨g, 0, none⟩) mr cc ∧ σ 10 = .int .i64 ((k : Int) - 1) ∧ σ 11 = .slice (some ⟨g, k - 1, none⟩) (lb.length + 1) (cc - (k - 1)) ∧ σ 13 = .int .u64 ((p - 1 : Nat) : Int) ∧ σ 19 = .int .u32 c ∧ σ 146 = vb ∧ σ 147 = .int .i64 (lb.length : Int) ∧ σ 148 = .int .i64 (j : Int) ∧ j + z = lb.length ∧ (0 ≤ c ∧ c ≤ 1) ∧ val ((x1.drop (k - 1)).take j) + val (lb.take j) = val ((x2.drop (k - 1)).take j) + 4294967296 ^ j * c.toNat ∧ x2.take (k - 1) = x1.take (k - 1) ∧ (∀ t, k - 1 + j ≤ t → x2.getD t 0 = x1.getD t 0) ∧ x2.length = mr ∧ U32 x2 ∧ OW w0.heap.size g cc w (.slice (some ⟨g, 0, none⟩) mr cc) x2 ∧ Blk w g5 (nums .u32 qs) 106 ∧ Below w0.heap.size w0 w) (lb.length) ⟨0, 0, x1, s1, s4, s6, s7, s8, s9, s10, s11, rfl, rfl, rfl, rfl, rfl, by omega, ⟨by decide, by decide⟩, by simp [val], rfl, fun _ _ => rfl, hx1l, hx1u, RW, bq, E⟩ ?_
     rintro z σ w ⟨j, c, x2, s1, s4, s6, s7, s8, s9, s10, s11, s13, s19, s146, s147, s148, hjz, hc, hval2, hx2t, hx2o, hx2l, hx2u, RW, bq, E⟩
     have hux := hx2u.getD (k - 1 + j)
     have huy := hb.u32.getD j
     refine W_seq ?_
     refine W_region rfl ?_
     refine S_bin rfl rfl rfl rfl rfl (s148) (s147) (v := .bool (decide ((j : Int) < (lb.length : Int)))) rfl ?_
     refine OPS.nil ?_
     change WP _ _ _ _ _ _
     refine W_seq ?_
     refine W_cond rfl (rfl) (fun hq149 => ?_) (fun hq149 => ?_)
     ·skip
      have pT := hq149
      replace hq149 := of_decide_eq_true hq149
      have qT := hq149
      try rw [pT]
      refine W_skip ?_
      change WP _ _ _ _ _ _
      refine W_seq ?_
      refine W_block ?_
      refine W_seq ?_
      refine W_region rfl ?_
      refine S_move rfl rfl rfl (v := (.int .i64 (j : Int))) (s148) ?_
      obtain ⟨ad37, hp39, hc38⟩ := (hb.below E).at j (by omega)
      refine S_idx Tryz.underlying23 ti_uint32 rfl rfl rfl rfl (s146) (s148) hp39 (by omega) ?_
      refine S_load rfl rfl rfl (rfl) (LD.one ti_uint32 hc38) ?_
      refine S_assign rfl rfl rfl (v := (.int .i64 (j : Int))) (rfl) ?_
      refine S_assign rfl rfl rfl (v := (.int .u32 (lb.getD j 0))) (rfl) ?_
      refine OPS.nil ?_
      change WP _ _ _ _ _ _
      refine W_region rfl ?_
      refine S_move rfl rfl rfl (v := (.slice (some ⟨g, k - 1, none⟩) (lb.length + 1) (cc - (k - 1)))) (s11) ?_
      refine S_move rfl rfl rfl (v := (.int .i64 (j : Int))) (rfl) ?_
      refine S_move rfl rfl rfl (v := (.slice (some ⟨g, k - 1, none⟩) (lb.length + 1) (cc - (k - 1)))) (s11) ?_
      refine S_move rfl rfl rfl (v := (.int .i64 (j : Int))) (rfl) ?_
      refine S_idx Tryz.underlying23 ti_uint32 rfl rfl rfl rfl (rfl) (rfl) (j := j) (ad := ⟨g, (k - 1 + j), none⟩) (SlAt.own2 (by omega) (by omega)) (by omega) ?_
      refine S_load rfl rfl rfl (rfl) (LD.one ti_uint32 (RW.cell (by omega))) ?_
      refine S_move rfl rfl rfl (v := (.int .u32 (lb.getD j 0))) (rfl) ?_
      refine S_move rfl rfl rfl (v := (.int .u32 c)) (s19) ?_
      refine S_call en_math_bits_Add32 rfl rfl rfl (vs := [(.int .u32 ((x2).getD ((k - 1 + j)) 0)), (.int .u32 (lb.getD j 0)), (.int .u32 c)]) (rfl) (add32_c _ _ _ _ hux huy hc) ?_
      rintro _ _ ⟨rfl, rfl⟩
      refine S_move rfl rfl rfl (v := (.tuple #[.int .u32 (((x2.getD (k - 1 + j) 0) + (lb.getD j 0) + c) % 4294967296), .int .u32 (((x2.getD (k - 1 + j) 0) + (lb.getD j 0) + c) / 4294967296)])) (rfl) ?_
      refine S_extract rfl rfl rfl (rfl) rfl ?_
      refine S_extract rfl rfl rfl (rfl) rfl ?_
      refine S_idx Tryz.underlying23 ti_uint32 rfl rfl rfl rfl (rfl) (rfl) (j := j) (ad := ⟨g, (k - 1 + j), none⟩) (SlAt.own2 (by omega) (by omega)) (by omega) ?_
      refine S_storeOW ti_uint32 rfl rfl rfl rfl (g := g) (o := (k - 1 + j)) (rfl) (a := (((x2.getD (k - 1 + j) 0) + (lb.getD j 0) + c) % 4294967296)) (rfl) RW (by omega) ?_
      intro w9 hU9 RW
      have E := Below.stepU E hU9 (by omega)
      have bq := bq.upd hU9 (by omega)
      have hz9 := hU9.size
      refine S_assign rfl rfl rfl (v := (.int .u32 (((x2.getD (k - 1 + j) 0) + (lb.getD j 0) + c) / 4294967296))) (rfl) ?_
      refine OPS.nil ?_
      change WP _ _ _ _ _ _
      refine W_region rfl ?_
      refine S_add64 rfl rfl rfl rfl (s148) (rfl) (by omega) ?_
      refine S_move rfl rfl rfl (v := (.int .i64 ((j : Int) + 1))) (rfl) ?_
      refine OPS.nil ?_
      exact ⟨z - 1, by omega, j + 1, _, _, s1, s4, s6, s7, s8, s9, s10, s11, s13, rfl, s146, s147, int_eq (by omega), by omega, ⟨by omega, by omega⟩, aback_step (x := (x2.getD (k - 1 + j) 0)) (y := (lb.getD j 0)) (by omega) (hx2o _ (Nat.le_refl _)).symm rfl hux.1 huy.1 hc.1 (by omega) (by omega) (by omega) hval2, (set_take_le _ _ _ _ (by omega)).trans hx2t, fun t ht => by rw [getD_set_ne' _ _ _ _ (by omega)]; exact hx2o t (by omega), by simpa using hx2l, hx2u.set _ (by omega) (by omega), RW, bq, E⟩
     ·skip
      have pF := hq149
      replace hq149 := of_decide_eq_false hq149
      have qF := hq149
      try rw [pF]
      refine W_exit ?_
      change WP _ _ _ _ _ _
      refine W_seq ?_
      refine W_region rfl ?_
      have hjl : j = lb.length := by omega
      subst hjl
      rw [List.take_length] at hval2
      refine S_move rfl rfl rfl (v := (.slice (some ⟨g, k - 1, none⟩) (lb.length + 1) (cc - (k - 1)))) (s11) ?_
      refine S_move rfl rfl rfl (v := (.int .i64 (lb.length : Int))) (s6) ?_
      refine S_idx Tryz.underlying23 ti_uint32 rfl rfl rfl rfl (rfl) (rfl) (j := lb.length) (ad := ⟨g, (k - 1 + lb.length), none⟩) (SlAt.own2 (by omega) (by omega)) (by omega) ?_
      refine S_storeOW ti_uint32 rfl rfl rfl rfl (g := g) (o := (k - 1 + lb.length)) (rfl) (a := 0) (rfl) RW (by omega) ?_
      intro w10 hU10 RW
      have E := Below.stepU E hU10 (by omega)
      have bq := bq.upd hU10 (by omega)
      have hz10 := hU10.size
      refine OPS.nil ?_
      change WP _ _ _ _ _ _
      refine W_region rfl ?_
      refine S_move rfl rfl rfl (v := (.slice (some ⟨g5, 0, none⟩) mq mq)) (s4) ?_
      refine S_move rfl rfl rfl (v := (.int .i64 ((k : Int) - 1))) (s10) ?_
      refine S_move rfl rfl rfl (v := (.int .u64 ((p - 1 : Nat) : Int))) (s13) ?_
      refine S_conv Tryz.underlying124 Tryz.underlying106 rfl rfl rfl (rfl) (b := ((p - 1 : Nat) : Int)) (wrap_u32 (by omega) (by omega)) ?_
      refine S_idx Tryz.underlying23 ti_uint32 rfl rfl rfl rfl (rfl) (rfl) (j := (k - 1)) (ad := ⟨g5, (k - 1), none⟩) (SlAt.own1 (by omega)) (by omega) ?_
      refine S_storeN ti_uint32 rfl rfl rfl rfl (g := g5) (o := (k - 1)) (rfl) (a := ((p - 1 : Nat) : Int)) (rfl) bq (by omega) ?_
      intro w11 hU11 bq
      have E := Below.stepU E hU11 (by omega)
      have RW := RW.upd hU11 (by omega)
      have hz11 := hU11.size
      refine OPS.nil ?_
      change WP _ _ _ _ _ _
      refine W_region rfl ?_
      refine S_move rfl rfl rfl (v := (.int .i64 ((k : Int) - 1))) (s10) ?_
      refine S_sub64 rfl rfl rfl rfl (rfl) (rfl) (by omega) ?_
      refine S_assign rfl rfl rfl (v := (.int .i64 (((k : Int) - 1) - 1))) (rfl) ?_
      refine OPS.nil ?_
      obtain ⟨e1, e2, e3⟩ := fix_yes (u := val ((r0.drop (k - 1)).take (lb.length + 1))) (v := val lb) (q := p) (h := hh) (owed := owed.toNat) (P := 4294967296 ^ lb.length) (low := val ((r0.drop (k - 1)).take lb.length)) hUh (by rw [Nat.mul_comm owed.toNat]; exact hval) (by omega) (val_take_lt (hx1u.drop _) _) f2 hvp (by omega) (hval2.trans (by rw [Nat.add_comm, Nat.mul_comm])) (val_take_lt (hx2u.drop _) _)
      have er : val (((x2.set (k - 1 + lb.length) 0).drop (k - 1)).take (lb.length + 1)) = val ((r0.drop (k - 1)).take (lb.length + 1)) % val lb := by rw [val_part_set _ _ _ _ (by omega), e2]; rfl
      obtain ⟨y1, y2⟩ := div_round (i := k - 1) (n := lb.length) (x1 := x2.set (k - 1 + lb.length) 0) (by rw [show k - 1 + 1 = k by omega]; exact hI) hru (by rw [show k - 1 + 1 = k by omega]; exact hlt) hbn ((set_take_le _ _ _ _ (by omega)).trans (hx2t.trans hx1t)) (fun j hj => by rw [getD_set_ne' _ _ _ _ (by omega)]; exact (hx2o j (by omega)).trans (hx1o j (by omega))) (by rw [List.length_set]; omega) (by omega) e1 er
      exact ⟨k - 1, by omega, _, _, s1, s4, s6, s7, s8, s9, int_eq (by omega), by omega, y1, y2, by simpa using hql, hqu.set _ (by omega) (by omega), by simpa using hx2l, hx2u.set _ (by decide) (by decide), RW, bq, E⟩
    ·skip
     have pFF := hq143
     replace hq143 := of_decide_eq_false hq143
     have qFF := hq143
     try rw [pFF]
     refine W_skip ?_
     change WP _ _ _ _ _ _
     refine W_seq ?_
     refine W_region rfl ?_
     refine S_move rfl rfl rfl (v := (.slice (some ⟨g, k - 1, none⟩) (lb.length + 1) (cc - (k - 1)))) (s11) ?_
     refine S_move rfl rfl rfl (v := (.int .i64 (lb.length : Int))) (s6) ?_
     refine S_idx Tryz.underlying23 ti_uint32 rfl rfl rfl rfl (rfl) (rfl) (j := lb.length) (ad := ⟨g, (k - 1 + lb.length), none⟩) (SlAt.own2 (by omega) (by omega)) (by omega) ?_
     refine S_storeOW ti_uint32 rfl rfl rfl rfl (g := g) (o := (k - 1 + lb.length)) (rfl) (a := 0) (rfl) RW (by omega) ?_
     intro w12 hU12 RW
     have E := Below.stepU E hU12 (by omega)
     have bq := bq.upd hU12 (by omega)
     have hz12 := hU12.size
     refine OPS.nil ?_
     change WP _ _ _ _ _ _
     refine W_region rfl ?_
     refine S_move rfl rfl rfl (v := (.slice (some ⟨g5, 0, none⟩) mq mq)) (s4) ?_
     refine S_move rfl rfl rfl (v := (.int .i64 ((k : Int) - 1))) (s10) ?_
     refine S_move rfl rfl rfl (v := (.int .u64 (p : Int))) (s13) ?_
     refine S_conv Tryz.underlying124 Tryz.underlying106 rfl rfl rfl (rfl) (b := (p : Int)) (wrap_u32 (by omega) (by omega)) ?_
     refine S_idx Tryz.underlying23 ti_uint32 rfl rfl rfl rfl (rfl) (rfl) (j := (k - 1)) (ad := ⟨g5, (k - 1), none⟩) (SlAt.own1 (by omega)) (by omega) ?_
     refine S_storeN ti_uint32 rfl rfl rfl rfl (g := g5) (o := (k - 1)) (rfl) (a := (p : Int)) (rfl) bq (by omega) ?_
     intro w13 hU13 bq
     have E := Below.stepU E hU13 (by omega)
     have RW := RW.upd hU13 (by omega)
     have hz13 := hU13.size
     refine OPS.nil ?_
     change WP _ _ _ _ _ _
     refine W_region rfl ?_
     refine S_move rfl rfl rfl (v := (.int .i64 ((k : Int) - 1))) (s10) ?_
     refine S_sub64 rfl rfl rfl rfl (rfl) (rfl) (by omega) ?_
     refine S_assign rfl rfl rfl (v := (.int .i64 (((k : Int) - 1) - 1))) (rfl) ?_
     refine OPS.nil ?_
     obtain ⟨e1, e2⟩ := fix_no (u := val ((r0.drop (k - 1)).take (lb.length + 1))) (v := val lb) (q := p) (h := hh) (owed := owed.toNat) (P := 4294967296 ^ lb.length) (low := val ((r0.drop (k - 1)).take lb.length)) hUh (by rw [Nat.mul_comm owed.toNat]; exact hval) (by omega) hUq hvp (by omega)
     have er : val (((x1.set (k - 1 + lb.length) 0).drop (k - 1)).take (lb.length + 1)) = val ((r0.drop (k - 1)).take (lb.length + 1)) % val lb := by rw [val_part_set _ _ _ _ (by omega), e2]; rfl
     obtain ⟨y1, y2⟩ := div_round (i := k - 1) (n := lb.length) (x1 := x1.set (k - 1 + lb.length) 0) (by rw [show k - 1 + 1 = k by omega]; exact hI) hru (by rw [show k - 1 + 1 = k by omega]; exact hlt) hbn ((set_take_le _ _ _ _ (by omega)).trans (hx1t)) (fun j hj => by rw [getD_set_ne' _ _ _ _ (by omega)]; exact hx1o j (by omega)) (by rw [List.length_set]; omega) (by omega) e1 er
     exact ⟨k - 1, by omega, _, _, s1, s4, s6, s7, s8, s9, int_eq (by omega), by omega, y1, y2, by simpa using hql, hqu.set _ (by omega) (by omega), by simpa using hx1l, hx1u.set _ (by decide) (by decide), RW, bq, E⟩
 ·skip
  have pF := hq49
  replace hq49 := of_decide_eq_false hq49
  have qF := hq49
  try rw [pF]
  refine W_exit ?_
  change WP _ _ _ _ _ _
  refine W_seq ?_
  refine W_region rfl ?_
  have hk0 : k = 0 := by omega
  subst hk0
  obtain ⟨d1, d2⟩ := div_end hI hlt
  rw [hrv] at d1 d2
  refine S_move rfl rfl rfl (v := (.slice (some ⟨g5, 0, none⟩) mq mq)) (s4) ?_
  refine S_call en_nats_cut rfl rfl rfl (vs := [(.slice (some ⟨g5, 0, none⟩) mq mq)]) (rfl) (natsCutN_c _ _ _ (ON.ofNums (B := g5) bq hqu (Nat.le_refl _) hql (by omega))) ?_
  rintro t1v _ ⟨t1, rfl⟩
  refine S_move rfl rfl rfl (v := (.slice (some ⟨g, 0, none⟩) mr cc)) (s9) ?_
  refine S_call en_nats_cut rfl rfl rfl (vs := [(.slice (some ⟨g, 0, none⟩) mr cc)]) (rfl) (natsCutN_c _ _ _ (RW.on hru)) ?_
  rintro t2v _ ⟨t2, rfl⟩
  refine S_assign rfl rfl rfl (v := t1v) (rfl) ?_
  refine S_assign rfl rfl rfl (v := t2v) (rfl) ?_
  refine OPS.nil ?_
  change WP _ _ _ _ _ _
  refine W_ret ?_
  change Fin' _ _ _ _ _ _
  refine End2 (n := ⟨179, []⟩) (t := 4) (u := 5) rfl (by decide) (by decide) (rfl) (rfl) ?_
  rw [d1] at t1
  rw [d2] at t2
  exact ⟨E, _, _, rfl, t1.mono (by omega), t2⟩

end Go.Proofs.YtccmicegihlfbaaGreatDoor
