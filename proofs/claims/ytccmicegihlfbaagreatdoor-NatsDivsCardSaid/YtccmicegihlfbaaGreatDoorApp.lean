/- Single steps: literals, what is appended, structs that are built, slices held against nil. -/
import Derived.Test.YtccmicegihlfbaaGreatDoorBase
import Derived.Laws.OwnMore
import Derived.Lib.SliceRun
import Derived.Great.BuildSlice
import Derived.Great.FillDense
import Derived.Laws.Tables
set_option linter.unusedVariables false
set_option linter.unusedSimpArgs false
namespace Go.Proofs.YtccmicegihlfbaaGreatDoor
open Go.RowKit

section
variable {P : Program} {n : NF} {ops : Array Oper} {K : (Nat → Value) → World → Prop} {σ : Nat → Value} {w : World} {i : Nat} {rest : List Nat}
variable {d : Nat} {t : TypeId} {p : String} {af : Array Edge} {gd : Option (Nat × Bool)} {x y : Operand}

theorem S_eqNil {T e : TypeId} (hT : P.underlying T = some (.slice e)) (ho : ops[i]? = some { dst := some d, op := .binOp .eql T x (.const (.slice none 0 0)) T, type := t, pos := p, after := af, guard := gd }) (hw : wg n ops σ gd = true)
    (hx : tok n x = true) {A : Option Addr} {m c : Nat} (hv : sv σ x = .slice A m c) (h : OPS P n ops K rest (upd σ d (.bool A.isNone)) w) : OPS P n ops K (i :: rest) σ w := by
  refine OPS.step ho hw rfl ?_ h
  have h1 := Lib.run_eql_slice_nil (P := P) w T e A m c 0 0 hT
  have h2 : (eqGuard .eql T x (.const (.slice none 0 0)) (.slice A m c) (.slice none 0 0)).run P w = .ok () w := by simp [eqGuard]
  simp only [execOp, eval_act hx, hv]
  show Sem.run P (Next.value <$> (do eqGuard .eql T x (.const (.slice none 0 0)) (.slice A m c) (.slice none 0 0); binOp .eql T (.slice A m c) (.slice none 0 0))) w = _
  simp [h1, h2]

theorem S_lit {T e : TypeId} {sz by_ : Nat} {z : Value} {ag : Bool} {len : Nat} {parts : Array (Nat × Operand)} (hT : P.underlying T = some (.slice e)) (he : TI P e sz by_ z ag)
    (ho : ops[i]? = some { dst := some d, op := .buildSlice T len parts, type := t, pos := p, after := af, guard := gd }) (hw : wg n ops σ gd = true) (hl : len * sz ≤ 16777216) (hl0 : 0 < len * sz)
    (hx : parts.toList.all (fun q => tok n q.2) = true) {vs cs : List Value} (hvs : parts.toList.map (fun q => (q.1, sv σ q.2)) = (vs.zipIdx 0).map fun x => (x.2, x.1)) (hlen : vs.length = len)
    (h1 : ∀ v ∈ vs, v.cells.size = sz) (hcs : (vs.flatMap fun v => v.cells.toList) = cs)
    (h : ∀ g w1, g = w.heap.size → w1.heap.size = g + 1 → Below w.heap.size w w1 → Blk w1 g cs e → OPS P n ops K rest (upd σ d (.slice (some ⟨g, 0, none⟩) len len)) w1) : OPS P n ops K (i :: rest) σ w := by
  obtain ⟨i0, hi0, hs, hby, hzz⟩ := he.info
  have hp : (parts.map fun q => (q.1, (act n σ).eval q.2)).toList = parts.toList.map fun q => (q.1, sv σ q.2) := by
    rw [Array.toList_map]
    exact List.map_congr_left fun q hq => by rw [eval_act (List.all_eq_true.1 hx q hq)]
  have hf : Instr.fill (fun i => some (i * sz, sz)) ((Array.range (len * sz)).map (z.cells[· % z.cells.size]!)) (parts.toList.map fun q => (q.1, sv σ q.2)) = some cs.toArray := by
    rw [hvs, ← hcs]
    exact Great.fill_whole (Nat.pos_of_mul_pos_left hl0) vs _ h1 (by simp [hlen])
  have hr := run_buildSlice (P := P) w T e len (parts.map fun q => (q.1, (act n σ).eval q.2)) cs.toArray i0 z hT hi0 hzz (by rw [hs]; omega) (by rw [hs]; omega) (by rw [hs, hp]; exact hf)
  refine OPS.step (w' := w.alloc (.cells cs.toArray e)) ho hw rfl ?_ (h _ _ rfl (by simp) (alloc_below _ _) (alloc_blk _ _ _))
  simp only [execOp]
  show Sem.run P (Next.value <$> Instr.buildSlice T len (parts.map fun q => (q.1, (act n σ).eval q.2))) w = _
  simp [hr]
theorem S_lit0 {T e : TypeId} {sz by_ : Nat} {z : Value} {ag : Bool} (hT : P.underlying T = some (.slice e)) (he : TI P e sz by_ z ag)
    (ho : ops[i]? = some { dst := some d, op := .buildSlice T 0 #[], type := t, pos := p, after := af, guard := gd }) (hw : wg n ops σ gd = true)
    (h : ∀ g w1, g = w.heap.size → w1.heap.size = g + 1 → Below w.heap.size w w1 → Blk w1 g [] e → OPS P n ops K rest (upd σ d (.slice (some ⟨g, 0, none⟩) 0 0)) w1) : OPS P n ops K (i :: rest) σ w := by
  obtain ⟨i0, hi0, hs, hby, hzz⟩ := he.info
  refine OPS.step (w' := w.alloc (.cells #[] e)) ho hw rfl ?_ (h _ _ rfl (by simp) (alloc_below _ _) (alloc_blk _ _ _))
  simp [execOp, Instr.buildSlice, run_underlying hT, sizeOf, typeInfo, hi0, Instr.fill, newRow]
  have e0 : Array.range 0 = #[] := rfl
  rw [e0, Array.map_empty]
theorem S_build {T : TypeId} {parts : Array (Nat × Operand)} (ho : ops[i]? = some { dst := some d, op := .build T parts, type := t, pos := p, after := af, guard := gd }) (hw : wg n ops σ gd = true)
    (hx : parts.toList.all (fun q => tok n q.2) = true) {cs : List Value} (hf : P.built T (parts.toList.map fun q => (q.1, sv σ q.2)) = some cs.toArray)
    (h : OPS P n ops K rest (upd σ d (.agg cs.toArray)) w) : OPS P n ops K (i :: rest) σ w := by
  have hp : (parts.map fun q => (q.1, (act n σ).eval q.2)).toList = parts.toList.map fun q => (q.1, sv σ q.2) := by
    rw [Array.toList_map]
    exact List.map_congr_left fun q hq => by rw [eval_act (List.all_eq_true.1 hx q hq)]
  have hr := run_build (P := P) w T (parts.map fun q => (q.1, (act n σ).eval q.2)) cs.toArray (by rw [hp]; exact hf)
  refine OPS.step ho hw rfl ?_ h
  simp only [execOp]
  show Sem.run P (Next.value <$> Instr.build T (parts.map fun q => (q.1, (act n σ).eval q.2))) w = _
  simp [hr]
theorem S_makeFunc {fn : Fn} {cap : Array Operand} (ho : ops[i]? = some { dst := some d, op := .makeFunc fn #[] cap, type := t, pos := p, after := af, guard := gd }) (hw : wg n ops σ gd = true)
    (hx : cap.toList.all (tok n) = true) {vs : List Value} (hvs : cap.toList.map (sv σ) = vs) (h : OPS P n ops K rest (upd σ d (.func fn #[] vs.toArray)) w) : OPS P n ops K (i :: rest) σ w := by
  refine OPS.step ho hw rfl ?_ h
  simp [execOp, Instr.makeFunc, args_eval hx, hvs]

/-- append(s, x...): s a row of the call's own, or nil. -/
theorem S_append {T e : TypeId} {sz by_ : Nat} {z : Value} {ag : Bool} (hT : P.underlying T = some (.slice e)) (he : TI P e sz by_ z ag) (hz : z.cells.size = sz) (hsz : 0 < sz)
    (ho : ops[i]? = some { dst := some d, op := .call { callee := .builtin .append, args := #[x, y], argTypes := #[T, T] }, type := t, pos := p, after := af, guard := gd }) (hw : wg n ops σ gd = true) (hx : tok n x = true) (hy : tok n y = true)
    {base m k c : Nat} {v : Value} {xs news : List Value} {a : Addr} (hv : sv σ x = v) (hs : sv σ y = .slice (some a) k c) (hown : w.ownsRow base e sz v m xs) (hl : news.length = k * sz)
    (hnews : ∀ j u, news[j]? = some u → w.cell? (a.add j) = some u) (h1 : ∀ u ∈ news, u.oneCell' = true) (hm : m + k ≤ 140737488355328) (hb : (m + k) * by_ ≤ 140737488355328) (hbase : base ≤ w.heap.size)
    (h : ∀ v' w1, w1.ownsRow base e sz v' (m + k) (xs ++ news) → w.grownBy w1 v.ownBlock → OPS P n ops K rest (upd σ d v') w1) : OPS P n ops K (i :: rest) σ w := by
  obtain ⟨i0, hi0, hs0, hby, hzz⟩ := he.info
  obtain ⟨v', w1, hr, h2, h3, _⟩ := run_append_own (P := P) w base T t e i0 z sz by_ hT hi0 hzz hs0 hby hz hsz v m xs hown a k c news hl hnews h1 (by simp only [maxLen]; omega) hb hbase
  refine OPS.step ho hw rfl ?_ (h v' w1 h2 h3)
  simp [execOp, resolve, invoke, builtin, eval_act hx, eval_act hy, hv, hs, hr]
end

theorem own_ge {B g m c : Nat} (h : B ≤ g) : ∀ k, (Value.slice (some ⟨g, 0, none⟩) m c).ownBlock = some k → B ≤ k := by
  intro k hk
  cases hk
  exact h
theorem own_btw {a b g m c : Nat} (h : a ≤ g) (h2 : g < b) : ∀ k, (Value.slice (some ⟨g, 0, none⟩) m c).ownBlock = some k → a ≤ k ∧ k < b := by
  intro k hk
  cases hk
  exact ⟨h, h2⟩
/-! ### What an append leaves -/
section
variable {w w' : World} {row : Option Nat}
theorem Blk.grown {g : Nat} {cs : List Value} {t : TypeId} (h : Blk w g cs t) (hg : w.grownBy w' row) (hne : some g ≠ row) : Blk w' g cs t := ⟨(hg.block g h.lt hne).trans h.at_⟩
theorem RN.grown {a b : Nat} {v : Value} {l : List Int} (h : RN a b w v l) (hg : w.grownBy w' row) (hr : ∀ g, row = some g → a ≤ g ∧ g < b) : RN a b w' v l := by
  obtain ⟨hu, A, c, hv, h1, h2, h3⟩ := h
  refine ⟨hu, A, c, hv, h1, h2, fun j hj => ?_⟩
  obtain ⟨ad, hA, hbl, hc⟩ := h3 j hj
  refine ⟨ad, hA, hbl, hg.cell hc fun e => ?_⟩
  have := hr _ e.symm
  rw [add_block] at this
  omega
theorem Below.grownE {B : Nat} {w0 : World} (h : Below B w0 w) (hg : w.grownBy w' row) (hB : B ≤ w.heap.size) (hr : ∀ g, row = some g → B ≤ g) : Below B w0 w' := h.grown hg hB hr
end
/-- A row of the call's own reads as its first cells. -/
theorem ownsRow_cases {w : World} {base : Nat} {e : TypeId} {sz m : Nat} {v : Value} {xs : List Value} (h : w.ownsRow base e sz v m xs) :
    (v = .slice none 0 0 ∧ m = 0 ∧ xs = []) ∨ ∃ g c cs, v = .slice (some ⟨g, 0, none⟩) m c ∧ base ≤ g ∧ Blk w g cs e ∧ m ≤ c ∧ c ≤ 9223372036854775807 ∧ cs.length = c * sz ∧ cs.take (m * sz) = xs := by
  rcases h.2 with ⟨h1, h2⟩ | ⟨g, cap, cur, h1, h2, h3, h4, h5, h6, h7⟩
  · refine .inl ⟨h1, h2, List.eq_nil_of_length_eq_zero (by have := h.1; rw [h2] at this; simpa using this)⟩
  · exact .inr ⟨g, cap, cur.toList, h1, h2, ⟨by simpa using h3⟩, h4, by simp only [maxLen] at h5; omega, by simpa using h6, h7⟩
theorem ON.ofOwns {w : World} {base m : Nat} {v : Value} {l : List Int} (h : w.ownsRow base 106 1 v m (nums .u32 l)) (hu : U32 l) : ON base w v l := by
  have hl : l.length = m := by have := h.1; rw [nums_len] at this; omega
  rcases ownsRow_cases h with ⟨rfl, _, h3⟩ | ⟨g, c, cs, rfl, h2, h3, h4, h5, h6, h7⟩
  · have : l = [] := by cases l with | nil => rfl | cons a l => simp [nums] at h3
    subst this
    exact ON.nil _ _
  · refine ON.mk h3 hu h2 hl h4 (by omega) h5 (fun j hj => ?_)
    have := nums_get .u32 l j (by omega)
    rw [← h7, List.getElem?_take_of_lt (by omega)] at this
    exact this
end Go.Proofs.YtccmicegihlfbaaGreatDoor
