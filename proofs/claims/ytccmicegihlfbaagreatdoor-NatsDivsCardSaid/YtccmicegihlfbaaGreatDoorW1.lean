/- Copies with marks: numbers, whole numbers. -/
import Derived.Test.YtccmicegihlfbaaGreatDoorI3
import Derived.Test.YtccmicegihlfbaaGreatDoorTy
import Derived.Test.YtccmicegihlfbaaGreatDoorT1
set_option linter.unusedVariables false
set_option linter.unusedSimpArgs false
namespace Go.Proofs.YtccmicegihlfbaaGreatDoor
open Go.RowKit


section
variable {P : Program} {n : NF} {ops : Array Oper} {K : (Nat → Value) → World → Prop} {σ : Nat → Value} {w : World} {i : Nat} {rest : List Nat}
variable {d : Nat} {t : TypeId} {p : String} {af : Array Edge} {gd : Option (Nat × Bool)} {x y : Operand}
/-- make([]T, l, m). -/
theorem S_makeC {T e : TypeId} {sz by_ : Nat} {z : Value} {ag : Bool} (hT : P.underlying T = some (.slice e)) (he : TI P e sz by_ z ag)
    (ho : ops[i]? = some { dst := some d, op := .makeSlice T x y, type := t, pos := p, after := af, guard := gd }) (hw : wg n ops σ gd = true) (hx : tok n x = true) (hy : tok n y = true)
    {lz mz : Int} (hl : sv σ x = .int .i64 lz) (hm : sv σ y = .int .i64 mz) {l m : Nat} (hlz : lz = (l : Int)) (hmz : mz = (m : Int)) (hlm : l ≤ m) (hb : m * by_ ≤ 140737488355328) (hm2 : m ≤ 140737488355328)
    (h : ∀ g w1 cs, g = w.heap.size → w1.heap.size = g + 1 → Below w.heap.size w w1 → Blk w1 g cs e → cs.length = m * sz → OPS P n ops K rest (upd σ d (.slice (some ⟨g, 0, none⟩) l m)) w1) : OPS P n ops K (i :: rest) σ w := by
  obtain ⟨i0, hi0, hs, hby, hzz⟩ := he.info
  subst hlz
  subst hmz
  have hbb : (i0.bytes : Int) * (m : Int) ≤ 281474976710656 := by
    have h : ((i0.bytes * m : Nat) : Int) ≤ 281474976710656 := by rw [hby, Nat.mul_comm]; omega
    rwa [Int.natCast_mul] at h
  have hr := run_make (P := P) w T e i0 z hT hi0 hzz .i64 .i64 l m (by omega) (by omega) hbb (by omega)
  simp only [Int.toNat_natCast] at hr
  have hb2 : Blk (w.alloc (.cells (madeCells z.cells (m * i0.size)) e)) w.heap.size (madeCells z.cells (m * i0.size)).toList e := by
    have := alloc_blk w (madeCells z.cells (m * i0.size)).toList e
    rwa [Array.toArray_toList] at this
  refine OPS.step (w' := w.alloc (.cells (madeCells z.cells (m * i0.size)) e)) ho hw rfl ?_ (h _ _ _ rfl (by simp) (alloc_below _ _) hb2 (by rw [Array.length_toList, size_madeCells, hs]))
  simp [execOp, eval_act hx, eval_act hy, hl, hm, hr]
end
/-- A copy, with a mark in the room behind. -/
def TWN (B : Nat) (w : World) (A : Option Addr) (c : Nat) (l : List Int) : Prop := ON B w (.slice A (l.length + 1) c) (l ++ [77])
theorem TWN.on {B : Nat} {w : World} {A : Option Addr} {c : Nat} {l : List Int} (h : TWN B w A c l) : ON B w (.slice A l.length c) l := by
  have h1 : ON B w (.slice A (l ++ [77]).length c) (l ++ [77]) := by rw [List.length_append]; exact h
  have := h1.prefix_ (k := l.length) (by simp)
  rwa [List.take_left] at this
theorem TWN.r {B : Nat} {w : World} {A : Option Addr} {c : Nat} {l : List Int} (h : TWN B w A c l) : RN 0 B w (.slice A l.length c) l := h.on.r
theorem TWN.below {B : Nat} {w w' : World} {A : Option Addr} {c : Nat} {l : List Int} (h : TWN B w A c l) (hb : Below w.heap.size w w') : TWN B w' A c l := ON.below h hb
theorem TWN.cap {B : Nat} {w : World} {A : Option Addr} {c : Nat} {l : List Int} (h : TWN B w A c l) : l.length < c ∧ c ≤ 9223372036854775807 := by
  obtain ⟨A', c', hv, h1, h2⟩ := h.r.form
  obtain ⟨A2, c2, hv2, h3, h4⟩ := RN.form (ON.r h)
  simp only [Value.slice.injEq] at hv2
  obtain ⟨_, _, rfl⟩ := hv2
  rw [List.length_append] at h3
  simp at h3
  omega
theorem ON.updN {B k : Nat} {w w' : World} {v : Value} {l : List Int} (h : ON B w v l) (hu : Upd k w w') (hne : ∀ g, bk v = some g → g ≠ k) : ON B w' v l := Row.on (h.row.upd hu hne) h.1.u32
theorem TWN.bk {B : Nat} {w : World} {A : Option Addr} {c : Nat} {l : List Int} (h : TWN B w A c l) : ∀ g, Go.Proofs.YtccmicegihlfbaaGreatDoor.bk (.slice A l.length c) = some g → B ≤ g ∧ g < w.heap.size := h.on.bkB
theorem bk_len {A : Option Addr} {m m' c : Nat} : bk (.slice A m c) = bk (.slice A m' c) := by cases A <;> rfl
theorem TWN.updN {B k : Nat} {w w' : World} {A : Option Addr} {c : Nat} {l : List Int} (h : TWN B w A c l) (hu : Upd k w w') (hne : ∀ g, Go.Proofs.YtccmicegihlfbaaGreatDoor.bk (.slice A l.length c) = some g → g ≠ k) : TWN B w' A c l := ON.updN h hu (fun g hg => hne g (by rw [← hg]; exact bk_len))

set_option maxHeartbeats 400000 in
theorem twinNat_c (w0 : World) (v : Value) (l : List Int) {a b : Nat} (h : RN a b w0 v l) (hs : l.length ≤ SZ) :
    Ret Tryz.prog 40 [v] w0 (fun r w1 => Below w0.heap.size w0 w1 ∧ ∃ A c, r = .slice A l.length c ∧ TWN w0.heap.size w1 A c l) := by
  have E := Below.refl w0.heap.size w0
  unfold SZ at hs
  refine Ret_of (n := 28) Tryz.func40 rfl rfl (Nat.le_of_ble_eq_true rfl) ?_
  refine W_seq ?_
  refine W_region rfl ?_
  refine S_assign rfl rfl rfl (v := (.slice none 0 0)) (rfl) ?_
  refine OPS.nil ?_
  change WP _ _ _ _ _ _
  refine W_seq ?_
  refine W_region rfl ?_
  refine S_move rfl rfl rfl (v := v) (rfl) ?_
  refine S_len Tryz.underlying22 rfl rfl rfl (rfl) (m := l.length) (h.len) ?_
  refine S_add64 rfl rfl rfl rfl (rfl) (rfl) (by omega) ?_
  refine S_makeC Tryz.underlying22 ti_uint32 rfl rfl rfl rfl rfl (rfl) (l := 0) (m := l.length + 1) rfl (by omega) (Nat.zero_le _) (by omega) (by omega) ?_
  intro g1 w1 cs1 hg1 hs1 hB1 b1 hcl1
  have hz1 := hB1.size
  have E := Below.step E hB1
  have RW : Row w0.heap.size 106 1 w1 (.slice (some ⟨g1, 0, none⟩) 0 (l.length + 1)) 0 (nums .u32 []) := ⟨rfl, .inr ⟨g1, _, cs1, rfl, by omega, by omega, b1, Nat.zero_le _, by omega, by omega, rfl⟩⟩
  refine S_assign rfl rfl rfl (v := (.slice (some ⟨g1, 0, none⟩) 0 (l.length + 1))) (rfl) ?_
  refine OPS.nil ?_
  change WP _ _ _ _ _ _
  refine W_seq ?_
  refine W_seq ?_
  refine W_region rfl ?_
  refine S_assign rfl rfl rfl (v := (.int .i64 0)) (rfl) ?_
  refine OPS.nil ?_
  change WP _ _ _ _ _ _
  refine W_block ?_
  refine W_loop (fun k σ w => ∃ (i : Nat) (v1 : Value), σ 0 = v ∧ σ 3 = v1 ∧ σ 4 = .int .i64 (i : Int) ∧ i + k = l.length ∧ Row w0.heap.size 106 1 w v1 i (nums .u32 (l.take i)) ∧ Below w0.heap.size w0 w) (l.length) ⟨0, _, rfl, rfl, rfl, by omega, RW, E⟩ ?_
  rintro k σ w ⟨i, v1, s0, s3, s4, hik, RW, E⟩
  have hz0 := E.size
  refine W_seq ?_
  refine W_seq ?_
  refine W_region rfl ?_
  refine S_move rfl rfl rfl (v := (.int .i64 (i : Int))) (s4) ?_
  refine S_move rfl rfl rfl (v := v) (s0) ?_
  refine S_len Tryz.underlying22 rfl rfl rfl (rfl) (m := l.length) (h.len) ?_
  refine S_bin rfl rfl rfl rfl rfl (rfl) (rfl) (v := .bool (decide ((i : Int) < (l.length : Int)))) rfl ?_
  refine OPS.nil ?_
  change WP _ _ _ _ _ _
  refine W_cond rfl (rfl) (fun hq12 => ?_) (fun hq12 => ?_)
  · skip
    have pT := hq12
    replace hq12 := of_decide_eq_true hq12
    have qT := hq12
    try rw [pT]
    refine W_skip ?_
    change WP _ _ _ _ _ _
    refine W_seq ?_
    refine W_block ?_
    refine W_region rfl ?_
    refine S_move rfl rfl rfl (v := v1) (s3) ?_
    refine S_move rfl rfl rfl (v := v) (s0) ?_
    refine S_move rfl rfl rfl (v := (.int .i64 (i : Int))) (s4) ?_
    obtain ⟨ad1, hp3, hc2⟩ := (h.below E).at i (by omega)
    refine S_idx Tryz.underlying22 ti_uint32 rfl rfl rfl rfl (rfl) (rfl) hp3 (by omega) ?_
    refine S_load rfl rfl rfl (rfl) (LD.one ti_uint32 hc2) ?_
    refine S_lit Tryz.underlying22 ti_uint32 rfl rfl (by decide) (by decide) rfl (vs := [(.int .u32 (l.getD i 0))]) (cs := [(.int .u32 (l.getD i 0))]) rfl rfl (by simp [Value.cells]) rfl ?_
    intro g2 w2 hg2 hs2 hB2 b2
    have hz2 := hB2.size
    have E := Below.step E hB2
    have RW := RW.below hB2
    replace b2 : Blk w2 g2 (nums .u32 [(l.getD i 0)]) 106 := b2
    refine S_appendR Tryz.underlying22 ti_uint32 rfl rfl rfl rfl rfl (v := v1) (rfl) (rfl) RW (by decide) (news := nums .u32 [(l.getD i 0)]) rfl (fun j u hj => by rw [add_plain, b2.cell, Nat.zero_add]; exact hj) (one_nums _ _) (by omega) (by omega) (by omega) ?_
    intro v2 w3 RW2 hgr hbb hrm
    have E := Below.grownE E hgr (by omega) (fun g hg => (RW.bkB g hg).1)
    rw [nums_app] at RW2
    refine S_assign rfl rfl rfl (v := v2) (rfl) ?_
    refine OPS.nil ?_
    change WP _ _ _ _ _ _
    refine W_region rfl ?_
    refine S_move rfl rfl rfl (v := (.int .i64 (i : Int))) (s4) ?_
    refine S_add64 rfl rfl rfl rfl (rfl) (rfl) (by omega) ?_
    refine S_assign rfl rfl rfl (v := (.int .i64 ((i : Int) + 1))) (rfl) ?_
    refine OPS.nil ?_
    exact ⟨k - 1, by omega, i + 1, _, s0, rfl, int_eq (by omega), by omega, by rw [List.take_succ_eq_append_getElem (by omega)]; rw [List.getD_eq_getElem?_getD, List.getElem?_eq_getElem (by omega)] at RW2; exact RW2, E⟩
  · skip
    have pF := hq12
    replace hq12 := of_decide_eq_false hq12
    have qF := hq12
    try rw [pF]
    refine W_exit ?_
    change WP _ _ _ _ _ _
    refine W_seq ?_
    refine W_region rfl ?_
    have hil : i = l.length := by omega
    subst hil
    rw [List.take_length] at RW
    refine S_move rfl rfl rfl (v := v1) (s3) ?_
    refine S_lit Tryz.underlying22 ti_uint32 rfl rfl (by decide) (by decide) rfl (vs := [(.int .u32 77)]) (cs := [(.int .u32 77)]) rfl rfl (by simp [Value.cells]) rfl ?_
    intro g4 w4 hg4 hs4 hB4 b4
    have hz4 := hB4.size
    have E := Below.step E hB4
    have RW := RW.below hB4
    replace b4 : Blk w4 g4 (nums .u32 [77]) 106 := b4
    refine S_appendR Tryz.underlying22 ti_uint32 rfl rfl rfl rfl rfl (v := v1) (rfl) (rfl) RW (by decide) (news := nums .u32 [77]) rfl (fun j u hj => by rw [add_plain, b4.cell, Nat.zero_add]; exact hj) (one_nums _ _) (by omega) (by omega) (by omega) ?_
    intro v2 w5 RW2 hgr hbb hrm
    have E := Below.grownE E hgr (by omega) (fun g hg => (RW.bkB g hg).1)
    rw [nums_app] at RW2
    have h77 := RW2.on (h.u32.append (U32.mk (by decide) (by decide) U32.nil))
    obtain ⟨A2, c2, hv2, hc2, hm2⟩ := h77.r.form
    rw [List.length_append] at hv2 hc2
    simp only [List.length_cons, List.length_nil, Nat.zero_add] at hv2 hc2
    subst hv2
    refine S_move rfl rfl rfl (v := v) (s0) ?_
    refine S_len Tryz.underlying22 rfl rfl rfl (rfl) (m := l.length) (h.len) ?_
    refine S_sliceHi Tryz.underlying22 ti_uint32 rfl rfl rfl rfl (A := A2) (m := l.length + 1) (c := c2) (rfl) (rfl) (j := l.length) (by omega) (by omega) ?_
    refine S_assign rfl rfl rfl (v := (.slice A2 (l.length) (c2))) (rfl) ?_
    refine OPS.nil ?_
    change WP _ _ _ _ _ _
    refine W_ret ?_
    change Fin' _ _ _ _ _ _
    refine End1 (n := ⟨28, []⟩) (t := 2) rfl (by decide) (v := (.slice A2 (l.length) (c2))) (rfl) ?_
    exact ⟨E, A2, c2, rfl, h77⟩


theorem TWN.at77 {B : Nat} {w : World} {A : Option Addr} {c : Nat} {l : List Int} (h : TWN B w A c l) (j : Nat) (hj : j = l.length) : ∃ ad, SlAt (.slice A (l.length + 1) c) (l.length + 1) 1 j ad ∧ w.cell? ad = some (.int .u32 77) := by
  subst hj
  obtain ⟨ad, h1, h2⟩ := RN.at (ON.r h) l.length (by simp)
  rw [List.length_append] at h1
  refine ⟨ad, h1, ?_⟩
  rw [h2]
  simp

set_option maxHeartbeats 400000 in
theorem leftNat_c (w0 : World) (A : Option Addr) (c : Nat) (v : Value) (l : List Int) {a b B : Nat} (ht : TWN B w0 A c l) (h : RN a b w0 v l) :
    Ret Tryz.prog 46 [(.slice A l.length c), v] w0 (fun r w1 => Below w0.heap.size w0 w1 ∧ r = .bool true) := by
  have E := Below.refl w0.heap.size w0
  have hcap := ht.cap
  refine Ret_of (n := 45) Tryz.func46 rfl rfl (Nat.le_of_ble_eq_true rfl) ?_
  refine W_seq ?_
  refine W_region rfl ?_
  refine S_assign rfl rfl rfl (v := (.bool false)) (rfl) ?_
  refine OPS.nil ?_
  change WP _ _ _ _ _ _
  refine W_seq ?_
  refine W_seq ?_
  refine W_region rfl ?_
  refine S_move rfl rfl rfl (v := (.slice A l.length c)) (rfl) ?_
  refine S_len Tryz.underlying22 rfl rfl rfl (rfl) (m := l.length) (ht.r.len) ?_
  refine S_move rfl rfl rfl (v := v) (rfl) ?_
  refine S_len Tryz.underlying22 rfl rfl rfl (rfl) (m := l.length) (h.len) ?_
  refine S_bin rfl rfl rfl rfl rfl (rfl) (rfl) (v := .bool false) (by simp [binV]) ?_
  refine S_move rfl rfl rfl (v := (.bool false)) (rfl) ?_
  refine S_move rfl rfl rfl (v := (.slice A l.length c)) (rfl) ?_
  refine S_cap Tryz.underlying22 rfl rfl rfl (A := A) (m := l.length) (c := c) (rfl) ?_
  refine S_move rfl rfl rfl (v := v) (rfl) ?_
  refine S_len Tryz.underlying22 rfl rfl rfl (rfl) (m := l.length) (h.len) ?_
  refine S_bin rfl rfl rfl rfl rfl (rfl) (rfl) (v := .bool false) (by simp [binV]; omega) ?_
  refine S_pick rfl rfl rfl rfl rfl (b := false) (rfl) (v := (.bool false)) (rfl) ?_
  refine OPS.nil ?_
  change WP _ _ _ _ _ _
  refine W_cond rfl (b := false) (rfl) (fun h => (by cases h)) (fun _ => ?_)
  refine W_skip ?_
  change WP _ _ _ _ _ _
  refine W_seq ?_
  refine W_seq ?_
  refine W_region rfl ?_
  refine S_assign rfl rfl rfl (v := (.int .i64 0)) (rfl) ?_
  refine OPS.nil ?_
  change WP _ _ _ _ _ _
  refine W_block ?_
  refine W_loop (fun k σ w => ∃ (i : Nat), σ 0 = .slice A l.length c ∧ σ 1 = v ∧ σ 5 = .int .i64 (i : Int) ∧ i + k = l.length ∧ Below w0.heap.size w0 w) (l.length) ⟨0, rfl, rfl, rfl, by omega, E⟩ ?_
  rintro k σ w ⟨i, s0, s1, s5, hik, E⟩
  refine W_seq ?_
  refine W_seq ?_
  refine W_region rfl ?_
  refine S_move rfl rfl rfl (v := (.int .i64 (i : Int))) (s5) ?_
  refine S_move rfl rfl rfl (v := v) (s1) ?_
  refine S_len Tryz.underlying22 rfl rfl rfl (rfl) (m := l.length) (h.len) ?_
  refine S_bin rfl rfl rfl rfl rfl (rfl) (rfl) (v := .bool (decide ((i : Int) < (l.length : Int)))) rfl ?_
  refine OPS.nil ?_
  change WP _ _ _ _ _ _
  refine W_cond rfl (rfl) (fun hq22 => ?_) (fun hq22 => ?_)
  · skip
    have pT := hq22
    replace hq22 := of_decide_eq_true hq22
    have qT := hq22
    try rw [pT]
    refine W_skip ?_
    change WP _ _ _ _ _ _
    refine W_seq ?_
    refine W_block ?_
    refine W_seq ?_
    refine D_begin mixed_ rfl rfl (fun w_ => Below w0.heap.size w0 w_) ?_
    intro w1 hB1 hz_1
    have hz1 := hB1.size
    have E := Below.step E hB1
    have hS_ : Below w0.heap.size w0 w1 := E
    have E_S := E
    refine D_move (i := 0) (by kernel_rfl) (by kernel_rfl) (by kernel_rfl) (listed2 := #[true, false, false, false, false, false, false, false, false]) (by kernel_rfl) rfl rfl rfl (v := (.slice A l.length c)) (s0) hS_ ?_
    refine D_move (i := 1) (by kernel_rfl) (by kernel_rfl) (by kernel_rfl) (listed2 := #[true, true, false, false, false, false, false, false, false]) (by kernel_rfl) rfl rfl rfl (v := (.int .i64 (i : Int))) (s5) hS_ ?_
    obtain ⟨ad1, hp3, hc2⟩ := ht.r.at i (by omega)
    refine D_idx Tryz.underlying22 ti_uint32 (i := 2) (by kernel_rfl) (by kernel_rfl) (by kernel_rfl) (listed2 := #[true, true, true, false, false, false, false, false, false]) (by kernel_rfl) rfl rfl rfl rfl (rfl) (rfl) hp3 (by omega) hS_ ?_
    refine D_load (i := 3) (by kernel_rfl) (by kernel_rfl) (by kernel_rfl) (listed2 := #[true, true, true, true, false, false, false, false, false]) (by kernel_rfl) rfl rfl rfl (rfl) (fun _ hS2 => LD.one ti_uint32 (cell_below hS2 hc2)) hS_ ?_
    refine D_move (i := 4) (by kernel_rfl) (by kernel_rfl) (by kernel_rfl) (listed2 := #[true, true, true, true, true, false, false, false, false]) (by kernel_rfl) rfl rfl rfl (v := v) (s1) hS_ ?_
    refine D_move (i := 5) (by kernel_rfl) (by kernel_rfl) (by kernel_rfl) (listed2 := #[true, true, true, true, true, true, false, false, false]) (by kernel_rfl) rfl rfl rfl (v := (.int .i64 (i : Int))) (s5) hS_ ?_
    obtain ⟨ad4, hp6, hc5⟩ := h.at i (by omega)
    refine D_idx Tryz.underlying22 ti_uint32 (i := 6) (by kernel_rfl) (by kernel_rfl) (by kernel_rfl) (listed2 := #[true, true, true, true, true, true, true, false, false]) (by kernel_rfl) rfl rfl rfl rfl (rfl) (rfl) hp6 (by omega) hS_ ?_
    refine D_load (i := 7) (by kernel_rfl) (by kernel_rfl) (by kernel_rfl) (listed2 := #[true, true, true, true, true, true, true, true, false]) (by kernel_rfl) rfl rfl rfl (rfl) (fun _ hS2 => LD.one ti_uint32 (cell_below hS2 hc5)) hS_ ?_
    refine D_bin (i := 8) (by kernel_rfl) (by kernel_rfl) (by kernel_rfl) (listed2 := #[true, true, true, true, true, true, true, true, true]) (by kernel_rfl) rfl rfl rfl rfl rfl (rfl) (rfl) (v := .bool false) (by simp [binV]) hS_ ?_
    refine D_done (by kernel_rfl) ?_
    change WP _ _ _ _ _ _
    refine W_cond rfl (b := false) (rfl) (fun h => (by cases h)) (fun _ => ?_)
    refine W_skip ?_
    change WP _ _ _ _ _ _
    refine W_region rfl ?_
    refine S_move rfl rfl rfl (v := (.int .i64 (i : Int))) (s5) ?_
    refine S_add64 rfl rfl rfl rfl (rfl) (rfl) (by omega) ?_
    refine S_assign rfl rfl rfl (v := (.int .i64 ((i : Int) + 1))) (rfl) ?_
    refine OPS.nil ?_
    exact ⟨k - 1, by omega, i + 1, s0, s1, int_eq (by omega), by omega, E⟩
  · skip
    have pF := hq22
    replace hq22 := of_decide_eq_false hq22
    have qF := hq22
    try rw [pF]
    refine W_exit ?_
    change WP _ _ _ _ _ _
    refine W_seq ?_
    refine W_region rfl ?_
    refine S_move rfl rfl rfl (v := (.slice A l.length c)) (s0) ?_
    refine S_move rfl rfl rfl (v := v) (s1) ?_
    refine S_len Tryz.underlying22 rfl rfl rfl (rfl) (m := l.length) (h.len) ?_
    refine S_add64 rfl rfl rfl rfl (rfl) (rfl) (by omega) ?_
    refine S_sliceHi Tryz.underlying22 ti_uint32 rfl rfl rfl rfl (A := A) (m := l.length) (c := c) (rfl) (rfl) (j := l.length + 1) (by omega) (by omega) ?_
    refine S_move rfl rfl rfl (v := v) (s1) ?_
    refine S_len Tryz.underlying22 rfl rfl rfl (rfl) (m := l.length) (h.len) ?_
    obtain ⟨ad7, hp9, hc8⟩ := (ht.below E).at77 l.length rfl
    refine S_idx Tryz.underlying22 ti_uint32 rfl rfl rfl rfl (rfl) (rfl) hp9 (by omega) ?_
    refine S_load rfl rfl rfl (rfl) (LD.one ti_uint32 hc8) ?_
    refine S_assign rfl rfl rfl (v := (.int .u32 77)) (rfl) ?_
    refine OPS.nil ?_
    change WP _ _ _ _ _ _
    refine W_seq ?_
    refine W_region rfl ?_
    refine S_move rfl rfl rfl (v := (.int .u32 77)) (rfl) ?_
    refine S_bin rfl rfl rfl rfl rfl (rfl) (rfl) (v := .bool true) (by simp [binV]) ?_
    refine S_assign rfl rfl rfl (v := (.bool true)) (rfl) ?_
    refine OPS.nil ?_
    change WP _ _ _ _ _ _
    refine W_ret ?_
    change Fin' _ _ _ _ _ _
    refine End1 (n := ⟨45, []⟩) (t := 4) rfl (by decide) (v := (.bool true)) (rfl) ?_
    exact ⟨E, rfl⟩

set_option maxHeartbeats 400000 in
theorem twinInt_c (w0 : World) (s : Bool) (v : Value) (l : List Int) {a b : Nat} (h : RN a b w0 v l) (hs : l.length ≤ SZ) :
    Ret Tryz.prog 11 [.agg #[.bool s, v]] w0 (fun r w1 => Below w0.heap.size w0 w1 ∧ ∃ A c, r = .agg #[.bool s, .slice A l.length c] ∧ TWN w0.heap.size w1 A c l) := by
  have E := Below.refl w0.heap.size w0
  refine Ret_of (n := 9) Tryz.func11 rfl rfl (Nat.le_of_ble_eq_true rfl) ?_
  refine W_seq ?_
  refine W_region rfl ?_
  refine S_box rfl rfl rfl (v := .agg #[.bool s, v]) (rfl) (cs := [(.bool s), v]) rfl ?_
  intro g1 w1 hg1 hs1 hB1 b1
  have hz1 := hB1.size
  have E := Below.step E hB1
  refine S_alloc ti_api_Int rfl rfl (cs := [.bool false, .slice none 0 0]) rfl ?_
  intro g2 w2 hg2 hs2 hB2 b2
  have hz2 := hB2.size
  have E := Below.step E hB2
  have hl_b1 := b1.lt
  have b1 := b1.below hB2
  refine OPS.nil ?_
  change WP _ _ _ _ _ _
  refine W_seq ?_
  refine D_begin_ mixed_ rfl rfl ?_
  intro w3 hB3 hz_3
  have hz3 := hB3.size
  have E := Below.step E hB3
  have hl_b1 := b1.lt
  have b1 := b1.below hB3
  have hl_b2 := b2.lt
  have b2 := b2.below hB3
  have hS_ : Below w3.heap.size w3 w3 := Below.refl _ _
  have E_S := E
  have b1_S := b1
  have b2_S := b2
  refine D_field ft_api_Int_0 (i := 0) (by kernel_rfl) (by kernel_rfl) (by kernel_rfl) (listed2 := #[true, false, false, false, false, false, false]) (by kernel_rfl) rfl rfl rfl (g := g1) (o := 0) (rfl) (o' := 0) rfl hS_ ?_
  refine D_load (i := 1) (by kernel_rfl) (by kernel_rfl) (by kernel_rfl) (listed2 := #[true, true, false, false, false, false, false]) (by kernel_rfl) rfl rfl rfl (rfl) (fun _ hS2 => LD.blk1 ti_bool (b1_S.below hS2) (v := (.bool s)) rfl) hS_ ?_
  refine D_field ft_api_Int_1 (i := 2) (by kernel_rfl) (by kernel_rfl) (by kernel_rfl) (listed2 := #[true, true, true, false, false, false, false]) (by kernel_rfl) rfl rfl rfl (g := g1) (o := 0) (rfl) (o' := 1) rfl hS_ ?_
  refine D_load (i := 3) (by kernel_rfl) (by kernel_rfl) (by kernel_rfl) (listed2 := #[true, true, true, true, false, false, false]) (by kernel_rfl) rfl rfl rfl (rfl) (fun _ hS2 => LD.blk1 ti_api_Nat (b1_S.below hS2) (v := v) rfl) hS_ ?_
  refine D_only (i := 4) (by kernel_rfl) (listed2 := #[true, true, true, true, true, false, false]) (by kernel_rfl) ?_
  refine S_call en_assayerlaw01_TwinNat rfl rfl rfl (vs := [v]) (rfl) (twinNat_c _ _ l (h.below E) hs) ?_
  rintro _ w4 ⟨hB4, At1, ct1, rfl, t1⟩
  have hz4 := hB4.size
  have E := Below.step E hB4
  have hl_b1 := b1.lt
  have b1 := b1.below hB4
  have hl_b2 := b2.lt
  have b2 := b2.below hB4
  have hS_ := Below.step hS_ hB4
  refine OPS.nil ⟨hS_, ?_⟩
  refine D_build (i := 5) (by kernel_rfl) (by kernel_rfl) (by kernel_rfl) (listed2 := #[true, true, true, true, true, true, false]) (by kernel_rfl) rfl rfl rfl (cs := [(.bool s), (.slice At1 (l).length ct1)]) (by kernel_rfl) hS_ ?_
  refine D_last (i := 6) (f := 7) (by kernel_rfl) (by kernel_rfl) (listed2 := #[true, true, true, true, true, true, true]) (by kernel_rfl) ?_
  have hk1 := t1.bk
  refine S_store ti_api_Int rfl rfl rfl rfl (g := g2) (o := 0) (rfl) (v := (.agg #[(.bool s), (.slice At1 (l).length ct1)])) (rfl) (vs := [(.bool s), (.slice At1 (l).length ct1)]) rfl rfl (one2 (rfl) (rfl)) b2 (by simp) (cs' := [(.bool s), (.slice At1 (l).length ct1)]) rfl ?_
  intro w5 hU5 b2
  have E := Below.stepU E hU5 (by omega)
  have b1 := b1.upd hU5 (by omega)
  have t1 := t1.updN hU5 (fun g hg => by have := t1.bk g hg; omega)
  have hz5 := hU5.size
  refine OPS.nil ?_
  refine D_done (by kernel_rfl) ?_
  change WP _ _ _ _ _ _
  refine W_ret ?_
  change Fin' _ _ _ _ _ _
  refine EndC (n := ⟨9, []⟩) (t := 2) rfl (by decide) (rfl) (LD.blk ti_api_Int b2 (l := [(.bool s), (.slice At1 (l).length ct1)]) rfl rfl) ?_
  exact ⟨E, At1, ct1, rfl, ON.mono t1 (by omega)⟩

set_option maxHeartbeats 400000 in
theorem leftInt_c (w0 : World) (s : Bool) (A : Option Addr) (c : Nat) (v : Value) (l : List Int) {a b B : Nat} (ht : TWN B w0 A c l) (h : RN a b w0 v l) :
    Ret Tryz.prog 25 [.agg #[.bool s, (.slice A l.length c)], .agg #[.bool s, v]] w0 (fun r w1 => Below w0.heap.size w0 w1 ∧ r = .bool true) := by
  have E := Below.refl w0.heap.size w0
  refine Ret_of (n := 17) Tryz.func25 rfl rfl (Nat.le_of_ble_eq_true rfl) ?_
  refine W_seq ?_
  refine W_region rfl ?_
  refine S_box rfl rfl rfl (v := .agg #[.bool s, (.slice A l.length c)]) (rfl) (cs := [(.bool s), (.slice A l.length c)]) rfl ?_
  intro g1 w1 hg1 hs1 hB1 b1
  have hz1 := hB1.size
  have E := Below.step E hB1
  refine S_box rfl rfl rfl (v := .agg #[.bool s, v]) (rfl) (cs := [(.bool s), v]) rfl ?_
  intro g2 w2 hg2 hs2 hB2 b2
  have hz2 := hB2.size
  have E := Below.step E hB2
  have hl_b1 := b1.lt
  have b1 := b1.below hB2
  refine S_assign rfl rfl rfl (v := (.bool false)) (rfl) ?_
  refine OPS.nil ?_
  change WP _ _ _ _ _ _
  refine W_seq ?_
  refine W_region rfl ?_
  refine S_field ft_api_Int_0 rfl rfl rfl (g := g1) (o := 0) (rfl) (o' := 0) rfl ?_
  refine S_load rfl rfl rfl (rfl) (LD.blk1 ti_bool b1 (v := (.bool s)) rfl) ?_
  refine S_field ft_api_Int_0 rfl rfl rfl (g := g2) (o := 0) (rfl) (o' := 0) rfl ?_
  refine S_load rfl rfl rfl (rfl) (LD.blk1 ti_bool b2 (v := (.bool s)) rfl) ?_
  refine S_beq Tryz.underlying4 rfl rfl rfl rfl (rfl) (rfl) (c := true) (by simp) ?_
  refine S_move rfl rfl rfl (v := (.bool true)) (rfl) ?_
  refine S_field ft_api_Int_1 rfl rfl rfl (g := g1) (o := 0) (rfl) (o' := 1) rfl ?_
  refine S_load rfl rfl rfl (rfl) (LD.blk1 ti_api_Nat b1 (v := (.slice A l.length c)) rfl) ?_
  refine S_field ft_api_Int_1 rfl rfl rfl (g := g2) (o := 0) (rfl) (o' := 1) rfl ?_
  refine S_load rfl rfl rfl (rfl) (LD.blk1 ti_api_Nat b2 (v := v) rfl) ?_
  refine S_call en_assayerlaw01_LeftNat rfl rfl rfl (vs := [(.slice A l.length c), v]) (rfl) (leftNat_c _ A c _ l (ht.below E) (h.below E)) ?_
  rintro _ w3 ⟨hB3, rfl⟩
  have hz3 := hB3.size
  have E := Below.step E hB3
  have hl_b1 := b1.lt
  have b1 := b1.below hB3
  have hl_b2 := b2.lt
  have b2 := b2.below hB3
  refine S_pick rfl rfl rfl rfl rfl (b := true) (rfl) (v := (.bool true)) (rfl) ?_
  refine S_assign rfl rfl rfl (v := (.bool true)) (rfl) ?_
  refine OPS.nil ?_
  change WP _ _ _ _ _ _
  refine W_ret ?_
  change Fin' _ _ _ _ _ _
  refine End1 (n := ⟨17, []⟩) (t := 4) rfl (by decide) (v := (.bool true)) (rfl) ?_
  exact ⟨E, rfl⟩

end Go.Proofs.YtccmicegihlfbaaGreatDoor
