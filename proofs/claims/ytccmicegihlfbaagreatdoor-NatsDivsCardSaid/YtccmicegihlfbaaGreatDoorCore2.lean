/- The walk by single steps: memory, calls, code. -/
import Derived.Test.YtccmicegihlfbaaGreatDoorCore
set_option linter.unusedVariables false
set_option linter.unusedSimpArgs false
namespace Go.Proofs.YtccmicegihlfbaaGreatDoor
open Go.RowKit

/-! ### 1. Types and blocks -/
structure TI (P : Program) (t : TypeId) (sz : Nat) (by_ : Nat) (z : Value) (ag : Bool) : Prop where
  info : ∃ i, P.info? t = some i ∧ i.size = sz ∧ i.bytes = by_ ∧ i.zero = some z
  und : ∃ d, P.underlying t = some d ∧ (match d with | .struct _ | .array _ _ => true | _ => false) = ag
theorem TI.mk' {P : Program} {t : TypeId} {sz by_ : Nat} {z : Value} {ag : Bool}
    (h1 : (P.info? t).map (fun i => (i.size, i.bytes, i.zero)) = some (sz, by_, some z))
    (h2 : (P.underlying t).map (fun d => match d with | .struct _ | .array _ _ => true | _ => false) = some ag) : TI P t sz by_ z ag := by
  constructor
  · obtain ⟨i, hi, h⟩ := Option.map_eq_some_iff.1 h1
    simp only [Prod.mk.injEq] at h
    exact ⟨i, hi, h.1, h.2.1, h.2.2⟩
  · obtain ⟨d, hd, h⟩ := Option.map_eq_some_iff.1 h2
    exact ⟨d, hd, h⟩
/-- Block g holds cs, and may be written. -/
structure Blk (w : World) (g : Nat) (cs : List Value) (t : TypeId) : Prop where
  at_ : w.heap[g]? = some (.cells cs.toArray t (0, 0))
/-- Block g alone has been written. -/
structure Upd (g : Nat) (w w' : World) : Prop where
  os : w'.os = w.os
  tape : w'.tape = w.tape
  output : w'.output = w.output
  size : w'.heap.size = w.heap.size
  block : ∀ k, k ≠ g → w'.heap[k]? = w.heap[k]?

theorem Blk.lt {w : World} {g : Nat} {cs : List Value} {t : TypeId} (h : Blk w g cs t) : g < w.heap.size := (Array.getElem?_eq_some_iff.1 h.at_).1
theorem Blk.below {w w' : World} {g : Nat} {cs : List Value} {t : TypeId} (h : Blk w g cs t) (hb : Below w.heap.size w w') : Blk w' g cs t := ⟨(hb.block g h.lt).trans h.at_⟩
theorem Blk.upd {w w' : World} {g g' : Nat} {cs : List Value} {t : TypeId} (h : Blk w g cs t) (hu : Upd g' w w') (hne : g ≠ g') : Blk w' g cs t := ⟨(hu.block g hne).trans h.at_⟩
theorem Blk.cell {w : World} {g : Nat} {cs : List Value} {t : TypeId} (h : Blk w g cs t) (o : Nat) : w.cell? ⟨g, o, none⟩ = cs[o]? := by
  simp [World.cell?, h.at_]
theorem Blk.frozen {w : World} {g : Nat} {cs : List Value} {t : TypeId} (h : Blk w g cs t) (o : Nat) : w.frozen? ⟨g, o, none⟩ = false := by
  simp [World.frozen?, h.at_]
theorem Upd.below {g B : Nat} {w w' : World} (h : Upd g w w') (hB : B ≤ g) : Below B w w' :=
  ⟨h.os, h.tape, h.output, Nat.le_of_eq h.size.symm, fun k hk => h.block k (by omega)⟩
/-- As it was below B, B no greater than the old size: two calls, one behind the other. -/
theorem Below.then {B : Nat} {a b c : World} (h : Below B a b) (k : Below b.heap.size b c) (hB : B ≤ a.heap.size) : Below B a c :=
  h.trans (k.mono (Nat.le_trans hB h.size))
theorem Below.step {B : Nat} {a b c : World} (h : Below B a b) (k : Below b.heap.size b c) (hB : B ≤ a.heap.size := by exact Nat.le_refl _) : Below B a c := Below.then h k hB
theorem Below.stepU {B g : Nat} {a b c : World} (h : Below B a b) (k : Upd g b c) (hB : B ≤ g) : Below B a c := h.trans (k.below hB)
theorem add_plain (g o k : Nat) : (⟨g, o, none⟩ : Addr).add k = ⟨g, o + k, none⟩ := by unfold Addr.add; split <;> simp_all
theorem Addr.add_add' (a : Addr) (i j : Nat) : (a.add i).add j = a.add (i + j) := by
  unfold Addr.add
  by_cases h1 : i = 0 <;> by_cases h2 : j = 0 <;> simp_all <;> omega

/-! ### 2. What a load gives -/
def LD (P : Program) (w : World) (t : TypeId) (ad : Addr) (v : Value) : Prop := (loadVar t ad).run P w = .ok v w
section
variable {P : Program} {w : World} {t : TypeId} {sz by_ : Nat} {z : Value}
theorem run_load_cell {a : Addr} {v : Value} (h : w.cell? a = some v) : (load a).run P w = .ok v w := by
  simp [load, Sem.run, h]
theorem LD.one (T : TI P t sz by_ z false) {ad : Addr} {v : Value} (h : w.cell? ad = some v) : LD P w t ad v := by
  obtain ⟨d, hd, ha⟩ := T.und
  unfold LD
  simp only [loadVar, isAgg]
  cases d <;> simp_all [underlying, load, Sem.run]
theorem run_loadCellsFrom (ad : Addr) (cs : List Value) : ∀ (m i : Nat) (acc : Array Value), (∀ j, j < m → w.cell? (ad.add (i + j)) = cs[j]?) → cs.length = m →
    (loadCellsFrom ad i m acc).run P w = .ok (acc ++ cs.toArray) w := by
  induction cs with
  | nil => intro m i acc _ hl; simp at hl; subst hl; simp [loadCellsFrom]
  | cons c cs ih =>
    intro m i acc h hl
    cases m with
    | zero => simp at hl
    | succ m =>
      have h0 := h 0 (by omega)
      simp only [Nat.add_zero, List.getElem?_cons_zero] at h0
      simp only [loadCellsFrom, Sem.run_bind, run_load_cell h0, Result.andThen]
      rw [ih m (i + 1) (acc.push c) (fun j hj => by have := h (j + 1) (by omega); rw [show i + 1 + j = i + (j + 1) by omega, this]; simp) (by simpa using hl)]
      simp
theorem LD.agg (T : TI P t sz by_ z true) {ad : Addr} {cs : List Value} (h : ∀ j, j < sz → w.cell? (ad.add j) = cs[j]?) (hl : cs.length = sz) : LD P w t ad (.agg cs.toArray) := by
  obtain ⟨d, hd, ha⟩ := T.und
  obtain ⟨i, hi, hs, _⟩ := T.info
  unfold LD
  have hr := run_loadCellsFrom (P := P) (w := w) ad cs sz 0 #[] (fun j hj => by rw [Nat.zero_add]; exact h j hj) hl
  simp only [loadVar, isAgg]
  cases d <;> simp_all [underlying, sizeOf, typeInfo, loadCells]
theorem LD.blk1 (T : TI P t sz by_ z false) {g o : Nat} {cs : List Value} {t' : TypeId} (hb : Blk w g cs t') {v : Value} (h : cs[o]? = some v) : LD P w t ⟨g, o, none⟩ v :=
  LD.one T ((hb.cell o).trans h)
theorem LD.blk (T : TI P t sz by_ z true) {g o : Nat} {cs : List Value} {t' : TypeId} (hb : Blk w g cs t') {l : List Value} (h : (cs.drop o).take sz = l) (hl : l.length = sz) : LD P w t ⟨g, o, none⟩ (.agg l.toArray) :=
  LD.agg T (fun j hj => by rw [add_plain, hb.cell, ← h, List.getElem?_take_of_lt hj, List.getElem?_drop]) hl
end

/-! ### 3. Operations on memory -/
section
variable {P : Program} {n : NF} {ops : Array Oper} {K : (Nat → Value) → World → Prop} {σ : Nat → Value} {w : World} {i : Nat} {rest : List Nat}
variable {d : Nat} {t : TypeId} {p : String} {af : Array Edge} {gd : Option (Nat × Bool)} {x y : Operand}

theorem alloc_below (w : World) (o : Obj) : Below w.heap.size w (w.alloc o) := (Below.refl _ w).alloc (Nat.le_refl _) o
theorem alloc_blk (w : World) (cs : List Value) (T : TypeId) : Blk (w.alloc (.cells cs.toArray T)) w.heap.size cs T := ⟨heap_alloc_new w _⟩

theorem S_box {T : TypeId} (ho : ops[i]? = some { dst := some d, op := .box T x, type := t, pos := p, after := af, guard := gd }) (hw : wg n ops σ gd = true) (hx : tok n x = true)
    {v : Value} (hv : sv σ x = v) {cs : List Value} (hc : v.cells.toList = cs)
    (h : ∀ g w1, g = w.heap.size → w1.heap.size = g + 1 → Below w.heap.size w w1 → Blk w1 g cs T → OPS P n ops K rest (upd σ d (.pointer (some ⟨g, 0, none⟩))) w1) : OPS P n ops K (i :: rest) σ w := by
  have hcs : v.cells = cs.toArray := by rw [← hc]
  refine OPS.step (w' := w.alloc (.cells cs.toArray T)) ho hw rfl ?_ (h _ _ rfl (by simp) (alloc_below _ _) (alloc_blk _ _ _))
  simp [execOp, eval_act hx, hv, Instr.box, newVar, newRow, newObj, Sem.run, hcs]
theorem S_alloc {T : TypeId} {sz by_ : Nat} {z : Value} {ag : Bool} (hT : TI P T sz by_ z ag)
    (ho : ops[i]? = some { dst := some d, op := .alloc T, type := t, pos := p, after := af, guard := gd }) (hw : wg n ops σ gd = true)
    {cs : List Value} (hc : z.cells.toList = cs)
    (h : ∀ g w1, g = w.heap.size → w1.heap.size = g + 1 → Below w.heap.size w w1 → Blk w1 g cs T → OPS P n ops K rest (upd σ d (.pointer (some ⟨g, 0, none⟩))) w1) : OPS P n ops K (i :: rest) σ w := by
  have hcs : z.cells = cs.toArray := by rw [← hc]
  obtain ⟨i0, hi, _, _, hz⟩ := hT.info
  refine OPS.step (w' := w.alloc (.cells cs.toArray T)) ho hw rfl ?_ (h _ _ rfl (by simp) (alloc_below _ _) (alloc_blk _ _ _))
  simp [execOp, Instr.alloc, zeroValue, typeInfo, hi, hz, newVar, newRow, newObj, Sem.run, hcs]
theorem S_load {T : TypeId} (ho : ops[i]? = some { dst := some d, op := .load T x, type := t, pos := p, after := af, guard := gd }) (hw : wg n ops σ gd = true) (hx : tok n x = true)
    {ad : Addr} (ha : sv σ x = .pointer (some ad)) {v : Value} (hl : LD P w T ad v) (h : OPS P n ops K rest (upd σ d v) w) : OPS P n ops K (i :: rest) σ w := by
  refine OPS.step ho hw rfl ?_ h
  unfold LD at hl
  simp [execOp, eval_act hx, ha, Instr.loadAt, Instr.sureAddr, hl]
theorem S_nil (ho : ops[i]? = some { dst := some d, op := .nilCheck x, type := t, pos := p, after := af, guard := gd }) (hw : wg n ops σ gd = true) (hx : tok n x = true)
    {ad : Addr} (ha : sv σ x = .pointer (some ad)) (h : OPS P n ops K rest (upd σ d (.pointer (some ad))) w) : OPS P n ops K (i :: rest) σ w :=
  OPS.step ho hw rfl (by simp [execOp, eval_act hx, ha]) h

theorem setRow_upd {w : World} {g : Nat} {cs : List Value} {T : TypeId} (hb : Blk w g cs T) (cs' : List Value) : Upd g w (w.setRow g cs'.toArray) ∧ Blk (w.setRow g cs'.toArray) g cs' T :=
  ⟨⟨rfl, rfl, rfl, by simp [World.setRow], fun k hk => by simp [World.setRow, Array.getElem?_modify, Ne.symm hk]⟩, ⟨setRow_heap w g cs.toArray _ T _ hb.at_⟩⟩
def putAt (cs : List Value) (o : Nat) (vs : List Value) : List Value := cs.take o ++ vs ++ cs.drop (o + vs.length)
theorem run_storeVar {T : TypeId} {sz by_ : Nat} {z : Value} {ag : Bool} (hT : TI P T sz by_ z ag) {g o : Nat} {cs vs : List Value} {t' : TypeId} (hb : Blk w g cs t') {v : Value}
    (hvs : v.cells.toList = vs) (hn : vs.length = sz) (h1 : ∀ u ∈ vs, u.oneCell' = true) (hfit : o + vs.length ≤ cs.length) :
    (storeVar T ⟨g, o, none⟩ v).run P w = .ok () (w.setRow g (putAt cs o vs).toArray) := by
  obtain ⟨i0, hi, hsz, _⟩ := hT.info
  have hv : v.cells.size = vs.length := by rw [← hvs]; simp
  have hst := run_storeCells_at P g o t' vs 0 cs.toArray w hb.at_ (by simpa using hfit) h1
  simp only [Nat.add_zero] at hst
  simp only [storeVar, sizeOf, typeInfo]
  simp [hi, hsz, hv, hn, hvs]
  simpa [putAt] using hst
theorem S_store {T : TypeId} {sz by_ : Nat} {z : Value} {ag : Bool} (hT : TI P T sz by_ z ag)
    (ho : ops[i]? = some { dst := none, op := .store T x y, type := t, pos := p, after := af, guard := gd }) (hw : wg n ops σ gd = true) (hx : tok n x = true) (hy : tok n y = true)
    {g o : Nat} (ha : sv σ x = .pointer (some ⟨g, o, none⟩)) {v : Value} (hv : sv σ y = v) {vs : List Value} (hvs : v.cells.toList = vs) (hn : vs.length = sz) (h1 : ∀ u ∈ vs, u.oneCell' = true)
    {cs : List Value} {t' : TypeId} (hb : Blk w g cs t') (hfit : o + vs.length ≤ cs.length) {cs' : List Value} (hcs : putAt cs o vs = cs')
    (h : ∀ w1, Upd g w w1 → Blk w1 g cs' t' → OPS P n ops K rest σ w1) : OPS P n ops K (i :: rest) σ w := by
  subst hcs
  obtain ⟨h2, h3⟩ := setRow_upd hb (putAt cs o vs)
  refine OPS.step0 ho hw rfl ?_ (h _ h2 h3)
  have := run_storeVar (P := P) hT hb hvs hn h1 hfit
  simp [execOp, eval_act hx, eval_act hy, ha, hv, Instr.storeAt, Instr.sureAddr, this]

structure FieldT (P : Program) (s : TypeId) (j : Nat) (off : Nat) : Prop where
  mk' :: (out : ∃ fs f i, P.underlying s = some (.struct fs) ∧ fs[j]? = some f ∧ f.offset = off ∧ P.info? f.type = some i ∧ i.size ≠ 0)
theorem FieldT.mk {s : TypeId} {j off : Nat}
    (h : (match P.underlying s with | some (.struct fs) => (match fs[j]? with | some f => decide (f.offset = off) && (match P.info? f.type with | some i => i.size != 0 | none => false) | none => false) | _ => false) = true) : FieldT P s j off := by
  revert h
  cases h1 : P.underlying s with
  | none => simp
  | some d =>
    cases d <;> simp
    rename_i fs
    cases h2 : fs[j]? with
    | none => simp
    | some f =>
      simp
      intro h3
      cases h4 : P.info? f.type with
      | none => simp
      | some i => simp; intro h5; exact ⟨⟨fs, f, i, h1, h2, h3, h4, h5⟩⟩
theorem S_field {s : TypeId} {j off : Nat} (hT : FieldT P s j off) (ho : ops[i]? = some { dst := some d, op := .fieldAddr s x j, type := t, pos := p, after := af, guard := gd }) (hw : wg n ops σ gd = true) (hx : tok n x = true)
    {g o : Nat} (ha : sv σ x = .pointer (some ⟨g, o, none⟩)) {o' : Nat} (ho' : o + off = o') (h : OPS P n ops K rest (upd σ d (.pointer (some ⟨g, o', none⟩))) w) : OPS P n ops K (i :: rest) σ w := by
  obtain ⟨fs, f, i0, h1, h2, h3, h4, h5⟩ := hT.out
  subst ho'
  refine OPS.step ho hw rfl ?_ h
  simp [execOp, eval_act hx, ha, Instr.fieldAt, underlying, h1, h2, Instr.sureAddr, fieldPlace, sizeOf, typeInfo, h4, h5, h3, add_plain]

/-! ### 4. Slices -/
def SlLen (v : Value) (m : Nat) : Prop := ∃ A c, v = .slice A m c
/-- v has m elements, each sz cells; the j-th begins at ad. -/
def SlAt (v : Value) (m sz j : Nat) (ad : Addr) : Prop := ∃ ad0 c, v = .slice (some ad0) m c ∧ j < m ∧ ad = ad0.add (j * sz)
theorem S_len {T : TypeId} {e : TypeId} (hT : P.underlying T = some (.slice e)) (ho : ops[i]? = some { dst := some d, op := .call { callee := .builtin .len, args := #[x], argTypes := #[T] }, type := t, pos := p, after := af, guard := gd })
    (hw : wg n ops σ gd = true) (hx : tok n x = true) {v : Value} (hv : sv σ x = v) {m : Nat} (hl : SlLen v m) (h : OPS P n ops K rest (upd σ d (.int .i64 m)) w) : OPS P n ops K (i :: rest) σ w := by
  obtain ⟨A, c, rfl⟩ := hl
  refine OPS.step ho hw rfl ?_ h
  simp [execOp, resolve, invoke, builtin, Builtin.len_, eval_act hx, hv, underlying, hT, goInt]
theorem S_cap {T : TypeId} {e : TypeId} (hT : P.underlying T = some (.slice e)) (ho : ops[i]? = some { dst := some d, op := .call { callee := .builtin .cap, args := #[x], argTypes := #[T] }, type := t, pos := p, after := af, guard := gd })
    (hw : wg n ops σ gd = true) (hx : tok n x = true) {A : Option Addr} {m c : Nat} (hv : sv σ x = .slice A m c) (h : OPS P n ops K rest (upd σ d (.int .i64 c)) w) : OPS P n ops K (i :: rest) σ w := by
  refine OPS.step ho hw rfl ?_ h
  simp [execOp, resolve, invoke, builtin, Builtin.cap_, eval_act hx, hv, underlying, hT, goInt]
theorem S_idx {T e : TypeId} {sz by_ : Nat} {z : Value} {ag : Bool} (hT : P.underlying T = some (.slice e)) (he : TI P e sz by_ z ag)
    (ho : ops[i]? = some { dst := some d, op := .indexAddr T x y, type := t, pos := p, after := af, guard := gd }) (hw : wg n ops σ gd = true) (hx : tok n x = true) (hy : tok n y = true)
    {v : Value} (hv : sv σ x = v) {k : IntKind} {iz : Int} (hi : sv σ y = .int k iz) {m j : Nat} {ad : Addr} (hp : SlAt v m sz j ad) (hj : iz = (j : Int))
    (h : OPS P n ops K rest (upd σ d (.pointer (some ad))) w) : OPS P n ops K (i :: rest) σ w := by
  obtain ⟨ad0, c, rfl, hlt, rfl⟩ := hp
  obtain ⟨i0, hi0, hs, _⟩ := he.info
  subst hj
  refine OPS.step ho hw rfl ?_ h
  simp [execOp, eval_act hx, eval_act hy, hv, hi, Instr.indexAt, asIntOf, underlying, hT, hlt, sizeOf, typeInfo, hi0, hs]

theorem SlAt.own1 {g m c j : Nat} (hj : j < m) : SlAt (.slice (some ⟨g, 0, none⟩) m c) m 1 j ⟨g, j, none⟩ := ⟨⟨g, 0, none⟩, c, rfl, hj, by rw [add_plain]; simp⟩
theorem S_add64 {T T' : TypeId} (ho : ops[i]? = some { dst := some d, op := .binOp .add T x y T', type := t, pos := p, after := af, guard := gd }) (hw : wg n ops σ gd = true)
    (hx : tok n x = true) (hy : tok n y = true) {a b : Int} (ha : sv σ x = .int .i64 a) (hb : sv σ y = .int .i64 b)
    (hr : -9223372036854775808 ≤ a + b ∧ a + b ≤ 9223372036854775807) (h : OPS P n ops K rest (upd σ d (.int .i64 (a + b))) w) : OPS P n ops K (i :: rest) σ w :=
  S_bin ho hw hx hy rfl ha hb (by simp only [binV]; congr 1; simp [IntKind.wrap, IntKind.bits, IntKind.signed]; omega) h
theorem S_sub64 {T T' : TypeId} (ho : ops[i]? = some { dst := some d, op := .binOp .sub T x y T', type := t, pos := p, after := af, guard := gd }) (hw : wg n ops σ gd = true)
    (hx : tok n x = true) (hy : tok n y = true) {a b : Int} (ha : sv σ x = .int .i64 a) (hb : sv σ y = .int .i64 b)
    (hr : -9223372036854775808 ≤ a - b ∧ a - b ≤ 9223372036854775807) (h : OPS P n ops K rest (upd σ d (.int .i64 (a - b))) w) : OPS P n ops K (i :: rest) σ w :=
  S_bin ho hw hx hy rfl ha hb (by simp only [binV]; congr 1; simp [IntKind.wrap, IntKind.bits, IntKind.signed]; omega) h
theorem S_mul64 {T T' : TypeId} (ho : ops[i]? = some { dst := some d, op := .binOp .mul T x y T', type := t, pos := p, after := af, guard := gd }) (hw : wg n ops σ gd = true)
    (hx : tok n x = true) (hy : tok n y = true) {a b : Int} (ha : sv σ x = .int .i64 a) (hb : sv σ y = .int .i64 b)
    (hr : -9223372036854775808 ≤ a * b ∧ a * b ≤ 9223372036854775807) (h : OPS P n ops K rest (upd σ d (.int .i64 (a * b))) w) : OPS P n ops K (i :: rest) σ w :=
  S_bin ho hw hx hy rfl ha hb (by simp only [binV]; congr 1; simp [IntKind.wrap, IntKind.bits, IntKind.signed]; omega) h
theorem args1 {a v : Value} (h : a = v) : [a] = [v] := by rw [h]
theorem args2 {a b v u : Value} (h : a = v) (h2 : b = u) : [a, b] = [v, u] := by rw [h, h2]
theorem args3 {a b c v u s : Value} (h : a = v) (h2 : b = u) (h3 : c = s) : [a, b, c] = [v, u, s] := by rw [h, h2, h3]
theorem args4 {a b c e v u s q : Value} (h : a = v) (h2 : b = u) (h3 : c = s) (h4 : e = q) : [a, b, c, e] = [v, u, s, q] := by rw [h, h2, h3, h4]

/-! ### 5. Numbers of another kind; tuples; calls -/
theorem S_conv {Sr T : TypeId} {k k' : IntKind} {dS : TypeDesc} (hSr : P.underlying Sr = some dS) (hT : P.underlying T = some (.int k')) (ho : ops[i]? = some { dst := some d, op := .convert Sr T x, type := t, pos := p, after := af, guard := gd })
    (hw : wg n ops σ gd = true) (hx : tok n x = true) {a : Int} (hv : sv σ x = .int k a) {b : Int} (hb : k'.wrap a = b) (h : OPS P n ops K rest (upd σ d (.int k' b)) w) : OPS P n ops K (i :: rest) σ w := by
  subst hb
  refine OPS.step ho hw rfl ?_ h
  simp only [execOp, eval_act hx, hv, convert]
  cases dS <;> simp [underlying, hSr, hT, Conv.intToInt]
theorem S_extract {j : Nat} (ho : ops[i]? = some { dst := some d, op := .extract x j, type := t, pos := p, after := af, guard := gd })
    (hw : wg n ops σ gd = true) (hx : tok n x = true) {vs : Array Value} (hv : sv σ x = .tuple vs) {v : Value} (hj : vs[j]? = some v) (h : OPS P n ops K rest (upd σ d v) w) : OPS P n ops K (i :: rest) σ w :=
  OPS.step ho hw rfl (by simp [execOp, eval_act hx, hv, Instr.extract, hj]) h

/-- A function that is entered where it is called. -/
def En (P : Program) (f : FuncId) : Prop := ∃ fn, P.funcs[f]? = some fn ∧ (fn.name == "runtime.NumGoroutine") = false ∧ fn.body.isNone = false
/-- The call comes back with a value. -/
def Ret (P : Program) (f : FuncId) (args : List Value) (w : World) (R : Value → World → Prop) : Prop :=
  Calls P f args.toArray w fun e w' => ∃ v, e = .returned v ∧ R v w'
theorem Ret.mono {f : FuncId} {args : List Value} {R R' : Value → World → Prop} (h : Ret P f args w R) (hr : ∀ v w', R v w' → R' v w') : Ret P f args w R' :=
  Calls.mono h fun e w' ⟨v, he, hv⟩ => ⟨v, he, hr v w' hv⟩
theorem run_call {f : FuncId} (hf : En P f) (vs : Array Value) : (callFunc f vs).run P w = .ok (.enter f vs) w := by
  obtain ⟨fn, h1, h2, h3⟩ := hf
  have h2' : ¬ fn.name = "runtime.NumGoroutine" := by simpa using h2
  have h3' : ¬ fn.body = none := fun hb => by simp [hb] at h3
  simp [callFunc, program, Sem.run, h1, h2', h3']
theorem args_eval {ars : Array Operand} (hx : ars.toList.all (tok n) = true) : ars.map (act n σ).eval = (ars.toList.map (sv σ)).toArray := by
  apply Array.ext'
  simp only [Array.toList_map]
  refine List.map_congr_left fun x hxm => eval_act (List.all_eq_true.1 hx x hxm)
theorem S_call {f : FuncId} {ars : Array Operand} {ats : Array TypeId} (hf : En P f)
    (ho : ops[i]? = some { dst := some d, op := .call { callee := .value (.func f), args := ars, argTypes := ats }, type := t, pos := p, after := af, guard := gd })
    (hw : wg n ops σ gd = true) (hx : ars.toList.all (tok n) = true) {vs : List Value} (hvs : ars.toList.map (sv σ) = vs) {R : Value → World → Prop} (hc : Ret P f vs w R)
    (h : ∀ v w', R v w' → OPS P n ops K rest (upd σ d v) w') : OPS P n ops K (i :: rest) σ w := by
  have hr : (execOp (act n σ).eval { dst := some d, op := .call { callee := .value (.func f), args := ars, argTypes := ats }, type := t, pos := p, after := af, guard := gd }).run P w = .ok (.enter f vs.toArray) w := by
    have := run_call (w := w) hf vs.toArray
    simp [execOp, resolve, args_eval hx, hvs, Act.eval, Deferred.ofValue, invoke, this]
  unfold OPS at *
  intro m
  simp only [wpOpsIn, ho, wanted_wg, hw, if_true]
  refine ⟨fun f _ => trivial, ?_⟩
  rw [show Fence.wide.round = none from rfl, Oper.semAt_none, hr, Oper.uponIn_enter]
  refine ⟨fun h => by simp [Fence.wide] at h, CallsIn.mono (callsIn_wide.2 hc) ?_⟩
  rintro e w' ⟨v, rfl, hv⟩
  simp only [put_act]
  exact h v w' hv m
theorem S_call0 {f : FuncId} {ars : Array Operand} {ats : Array TypeId} (hf : En P f)
    (ho : ops[i]? = some { dst := none, op := .call { callee := .value (.func f), args := ars, argTypes := ats }, type := t, pos := p, after := af, guard := gd })
    (hw : wg n ops σ gd = true) (hx : ars.toList.all (tok n) = true) {vs : List Value} (hvs : ars.toList.map (sv σ) = vs) {R : Value → World → Prop} (hc : Ret P f vs w R)
    (h : ∀ v w', R v w' → OPS P n ops K rest σ w') : OPS P n ops K (i :: rest) σ w := by
  have hr : (execOp (act n σ).eval { dst := none, op := .call { callee := .value (.func f), args := ars, argTypes := ats }, type := t, pos := p, after := af, guard := gd }).run P w = .ok (.enter f vs.toArray) w := by
    have := run_call (w := w) hf vs.toArray
    simp [execOp, resolve, args_eval hx, hvs, Act.eval, Deferred.ofValue, invoke, this]
  unfold OPS at *
  intro m
  simp only [wpOpsIn, ho, wanted_wg, hw, if_true]
  refine ⟨fun f _ => trivial, ?_⟩
  rw [show Fence.wide.round = none from rfl, Oper.semAt_none, hr, Oper.uponIn_enter]
  refine ⟨fun h => by simp [Fence.wide] at h, CallsIn.mono (callsIn_wide.2 hc) ?_⟩
  rintro e w' ⟨v, rfl, hv⟩
  simp only [put_act_none]
  exact h v w' hv m
/-- A call of a function value that stands in a slot. -/
theorem S_callv {f : FuncId} {lb : Array Value} {ars : Array Operand} {ats : Array TypeId} (hf : En P f)
    (ho : ops[i]? = some { dst := some d, op := .call { callee := .value x, args := ars, argTypes := ats }, type := t, pos := p, after := af, guard := gd })
    (hw : wg n ops σ gd = true) (hx0 : tok n x = true) (hx : ars.toList.all (tok n) = true) (hv : sv σ x = .func (.func f) #[] lb) {vs : List Value} (hvs : ars.toList.map (sv σ) ++ lb.toList = vs) {R : Value → World → Prop} (hc : Ret P f vs w R)
    (h : ∀ v w', R v w' → OPS P n ops K rest (upd σ d v) w') : OPS P n ops K (i :: rest) σ w := by
  have hr : (execOp (act n σ).eval { dst := some d, op := .call { callee := .value x, args := ars, argTypes := ats }, type := t, pos := p, after := af, guard := gd }).run P w = .ok (.enter f vs.toArray) w := by
    have := run_call (P := P) (w := w) hf (ars.toList.map (sv σ) ++ lb.toList).toArray
    subst hvs
    have e : (ars.toList.map (sv σ)).toArray ++ lb = (ars.toList.map (sv σ) ++ lb.toList).toArray := by simp
    rw [← e] at this ⊢
    simp [execOp, resolve, args_eval hx, eval_act hx0, hv, Deferred.ofValue, invoke, this]
  unfold OPS at *
  intro m
  simp only [wpOpsIn, ho, wanted_wg, hw, if_true]
  refine ⟨fun f _ => trivial, ?_⟩
  rw [show Fence.wide.round = none from rfl, Oper.semAt_none, hr, Oper.uponIn_enter]
  refine ⟨fun h => by simp [Fence.wide] at h, CallsIn.mono (callsIn_wide.2 hc) ?_⟩
  rintro e w' ⟨v, rfl, hv⟩
  simp only [put_act]
  exact h v w' hv m
end
end Go.Proofs.YtccmicegihlfbaaGreatDoor
