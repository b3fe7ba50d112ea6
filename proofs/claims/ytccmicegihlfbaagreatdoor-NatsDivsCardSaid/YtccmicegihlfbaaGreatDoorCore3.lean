/- The walk by single steps: code, loops, functions; slices that are cut, made, appended to; structs that are built. -/
import Derived.Test.YtccmicegihlfbaaGreatDoorCore2
import Derived.Deep.OwnRows
set_option linter.unusedVariables false
set_option linter.unusedSimpArgs false
namespace Go.Proofs.YtccmicegihlfbaaGreatDoor
open Go.RowKit

/-! ### 1. Code -/
abbrev SPost := Exit → (Nat → Value) → World → Prop
def WP (P : Program) (n : NF) (c : Code) (Q : SPost) (σ : Nat → Value) (w : World) : Prop :=
  c.wp P (fun e a w => ∃ σ', a = act n σ' ∧ Q e σ' w) (act n σ) w
def thenK (K : (Nat → Value) → World → Prop) (Q : SPost) : SPost
  | .normal, σ, w => K σ w
  | e, σ, w => Q e σ w
def blockQ (id : Nat) (Q : SPost) : SPost
  | .exit j, σ, w => if j = id then Q .normal σ w else Q (.exit j) σ w
  | e, σ, w => Q e σ w
section
variable {P : Program} {n : NF} {Q : SPost} {σ : Nat → Value} {w : World}
theorem W_seq {x y : Code} (h : WP P n x (thenK (fun σ w => WP P n y Q σ w) Q) σ w) : WP P n (.seq x y) Q σ w := by
  refine wp_seq (wp_mono h ?_)
  rintro e a w' ⟨σ', rfl, hq⟩
  cases e with
  | normal => exact hq
  | _ => exact ⟨σ', rfl, hq⟩
theorem W_skip (h : Q .normal σ w) : WP P n .skip Q σ w := wp_skip ⟨σ, rfl, h⟩
theorem W_label {l : Nat} (h : Q .normal σ w) : WP P n (.label l) Q σ w := wp_label ⟨σ, rfl, h⟩
theorem W_exit {id : Nat} (h : Q (.exit id) σ w) : WP P n (.exit id) Q σ w := wp_exit ⟨σ, rfl, h⟩
theorem W_ret (h : Q .ret σ w) : WP P n .ret Q σ w := wp_ret ⟨σ, rfl, h⟩
theorem W_cond {c : Operand} {x y : Code} (ht : tok n c = true) {b : Bool} (hc : sv σ c = .bool b) (h1 : b = true → WP P n x Q σ w) (h2 : b = false → WP P n y Q σ w) : WP P n (.cond c x y) Q σ w :=
  wp_cond_split (t := b) (by rw [eval_act ht, hc]) h1 h2
theorem W_block {id : Nat} {c : Code} (h : WP P n c (blockQ id Q) σ w) : WP P n (.block id c) Q σ w := by
  refine wp_block (wp_mono h ?_)
  rintro e a w' ⟨σ', rfl, hq⟩
  cases e with
  | exit j =>
    simp only [blockQ] at hq
    simp only [Exit.inBlock]
    split
    · rename_i h; rw [if_pos h] at hq; exact ⟨σ', rfl, hq⟩
    · rename_i h; rw [if_neg h] at hq; exact ⟨σ', rfl, hq⟩
  | _ => exact ⟨σ', rfl, hq⟩
theorem W_loop {c : Code} (I : Nat → (Nat → Value) → World → Prop) (k₀ : Nat) (h₀ : I k₀ σ w)
    (round : ∀ k σ w, I k σ w → WP P n c (thenK (fun σ w => ∃ k', k' < k ∧ I k' σ w) Q) σ w) : WP P n (.loop c) Q σ w := by
  refine wp_loop_ghost (fun k a w => ∃ σ, a = act n σ ∧ I k σ w) k₀ ⟨σ, rfl, h₀⟩ ?_
  rintro k a w ⟨σ, rfl, hI⟩
  refine wp_mono (round k σ w hI) ?_
  rintro e a w' ⟨σ', rfl, hq⟩
  cases e with
  | normal => obtain ⟨k', h1, h2⟩ := hq; exact ⟨k', h1, σ', rfl, h2⟩
  | _ => exact ⟨σ', rfl, hq⟩
theorem W_region {id : Nat} {ops : Array Oper} {l : List Nat} (hl : List.range ops.size = l) (h : OPS P n ops (fun σ w => Q .normal σ w) l σ w) : WP P n (.region id ops false) Q σ w := by
  subst hl
  unfold OPS at h
  refine wp_mono (wpIn_wide.1 (wpIn_region (h 0))) ?_
  rintro e a w' ⟨rfl, σ', rfl, hq⟩
  exact ⟨σ', rfl, hq⟩

/-- Where a function ends. -/
def Fin' (P : Program) (n : NF) (fn : Func) (R : Value → World → Prop) (σ : Nat → Value) (w : World) : Prop := ∃ v, (results fn (act n σ).tmps).run P w = .ok v w ∧ R v w
def bodyQ (P : Program) (n : NF) (fn : Func) (R : Value → World → Prop) : SPost
  | .normal, σ, w | .ret, σ, w => Fin' P n fn R σ w
  | _, _, _ => False
theorem act_init (n : Nat) (vs : List Value) (h : vs.length ≤ n) : ({ tmps := vs.toArray ++ Array.replicate (n - vs.toArray.size) undef, defers := [] } : Act) = act ⟨n, []⟩ (initS vs) := by
  simp only [act]
  congr 1
  apply Array.ext'
  simp
  apply List.ext_getElem
  · simp; omega
  · intro i h1 h2
    simp at h1 h2
    by_cases hi : i < vs.length
    · simp [List.getElem_append_left hi, initS, hi]
    · rw [List.getElem_append_right (by omega)]; simp [initS, hi]
theorem Ret_of {n : Nat} {f : FuncId} {fn : Func} {c : Code} {vs : List Value} {R : Value → World → Prop} (hf : P.funcs[f]? = some fn) (hb : fn.body = some c) (hn : fn.ntmps = n) (hl : vs.length ≤ n)
    (h : WP P ⟨n, []⟩ c (bodyQ P ⟨n, []⟩ fn R) (initS vs) w) : Ret P f vs w R := by
  refine calls_of_wp hf hb ?_
  rw [hn, act_init n vs hl]
  refine wp_mono h ?_
  rintro e a w' ⟨σ', rfl, hq⟩
  cases e with
  | normal => obtain ⟨v, h1, h2⟩ := hq; exact ⟨rfl, v, h1, v, rfl, h2⟩
  | ret => obtain ⟨v, h1, h2⟩ := hq; exact ⟨rfl, v, h1, v, rfl, h2⟩
  | _ => exact hq.elim
theorem tmps_getD {t : Nat} (h : t < n.n) : (act n σ).tmps.getD t undef = σ t := by
  rw [Array.getD_eq_getD_getElem?, act_get h]; rfl
theorem End1 {fn : Func} {t : Nat} {R : Value → World → Prop} (hr : fn.results = #[.tmp t]) (ht : t < n.n) {v : Value} (hv : σ t = v) (h : R v w) :
    Fin' P n fn R σ w :=
  ⟨v, by rw [results_tmp hr, tmps_getD ht, hv], h⟩
theorem End0 {fn : Func} {R : Value → World → Prop} (hr : fn.results = #[]) (h : R (.tuple #[]) w) :
    Fin' P n fn R σ w := ⟨_, results_none hr _ _ _, h⟩
theorem End2 {fn : Func} {t u : Nat} {R : Value → World → Prop} (hr : fn.results = #[.tmp t, .tmp u]) (ht : t < n.n) (hu : u < n.n) {v v' : Value} (hv : σ t = v) (hv' : σ u = v') (h : R (.tuple #[v, v']) w) :
    Fin' P n fn R σ w := by
  refine ⟨.tuple #[v, v'], ?_, h⟩
  simp [results, hr]
  rw [← hv, ← hv']
  have h1 := tmps_getD (σ := σ) ht
  have h2 := tmps_getD (σ := σ) hu
  simp at h1 h2
  rw [h1, h2]
  exact ⟨rfl, rfl⟩
theorem End3 {fn : Func} {t u s : Nat} {R : Value → World → Prop} (hr : fn.results = #[.tmp t, .tmp u, .tmp s]) (ht : t < n.n) (hu : u < n.n) (hs : s < n.n) {v v' v'' : Value} (hv : σ t = v) (hv' : σ u = v') (hv'' : σ s = v'') (h : R (.tuple #[v, v', v'']) w) :
    Fin' P n fn R σ w := by
  refine ⟨.tuple #[v, v', v''], ?_, h⟩
  rw [results_tmp3 hr, tmps_getD ht, tmps_getD hu, tmps_getD hs, hv, hv', hv'']
/-- The result lies in memory. -/
theorem EndC {fn : Func} {t : Nat} {T : TypeId} {R : Value → World → Prop} (hr : fn.results = #[.cell t T]) (ht : t < n.n) {ad : Addr} (hv : σ t = .pointer (some ad)) {v : Value} (hl : LD P w T ad v) (h : R v w) :
    Fin' P n fn R σ w := by
  refine ⟨v, ?_, h⟩
  have h1 := tmps_getD (σ := σ) ht
  unfold LD at hl
  simp at h1
  simp [results, hr, h1, hv, asAddr, hl]
theorem EndC1 {fn : Func} {t u : Nat} {T : TypeId} {R : Value → World → Prop} (hr : fn.results = #[.cell t T, .tmp u]) (ht : t < n.n) (hu : u < n.n) {ad : Addr} (hv : σ t = .pointer (some ad)) {v v' : Value} (hl : LD P w T ad v) (hv' : σ u = v') (h : R (.tuple #[v, v']) w) :
    Fin' P n fn R σ w := by
  refine ⟨.tuple #[v, v'], ?_, h⟩
  have h1 := tmps_getD (σ := σ) ht
  have h2 := tmps_getD (σ := σ) hu
  unfold LD at hl
  simp at h1 h2
  simp [results, hr, h1, h2, hv, asAddr, hl, hv']
end

attribute [irreducible] WP Fin'

/-! ### 2. Slices that are cut, made; structs -/
section
variable {P : Program} {n : NF} {ops : Array Oper} {K : (Nat → Value) → World → Prop} {σ : Nat → Value} {w : World} {i : Nat} {rest : List Nat}
variable {d : Nat} {t : TypeId} {p : String} {af : Array Edge} {gd : Option (Nat × Bool)} {x y : Operand}
theorem run_sliceBound {k : IntKind} {a : Nat} {m : Nat} (c : BoundsCode) (h : a ≤ m) : (Instr.sliceBound (.int k (a : Int)) m c).run P w = .ok a w := by
  simp [Instr.sliceBound, asIntOf, h]
/-- x[:hi] -/
theorem S_sliceHi {T e : TypeId} {sz by_ : Nat} {z : Value} {ag : Bool} (hT : P.underlying T = some (.slice e)) (he : TI P e sz by_ z ag)
    (ho : ops[i]? = some { dst := some d, op := .slice T x none (some y) none, type := t, pos := p, after := af, guard := gd }) (hw : wg n ops σ gd = true) (hx : tok n x = true) (hy : tok n y = true)
    {A : Option Addr} {m c : Nat} (hv : sv σ x = .slice A m c) {k : IntKind} {iz : Int} (hi : sv σ y = .int k iz) {j : Nat} (hj : iz = (j : Int)) (hjc : j ≤ c)
    (h : OPS P n ops K rest (upd σ d (.slice A j c)) w) : OPS P n ops K (i :: rest) σ w := by
  obtain ⟨i0, hi0, hs, _⟩ := he.info
  subst hj
  refine OPS.step ho hw rfl ?_ h
  simp [execOp, eval_act hx, eval_act hy, hv, hi, Instr.sliceAt, Instr.slice, Instr.sliceBounds, run_sliceBound _ hjc, underlying, hT, sizeOf, typeInfo, hi0, hs]
  intro _
  cases A <;> simp [Addr.add]
/-- x[:hi:mx] -/
theorem S_sliceHiMx {T e : TypeId} {sz by_ : Nat} {z : Value} {ag : Bool} {u : Operand} (hT : P.underlying T = some (.slice e)) (he : TI P e sz by_ z ag)
    (ho : ops[i]? = some { dst := some d, op := .slice T x none (some y) (some u), type := t, pos := p, after := af, guard := gd }) (hw : wg n ops σ gd = true) (hx : tok n x = true) (hy : tok n y = true) (hu : tok n u = true)
    {A : Option Addr} {m c : Nat} (hv : sv σ x = .slice A m c) {k k' : IntKind} {iz mz : Int} (hi : sv σ y = .int k iz) (hm : sv σ u = .int k' mz) {j q : Nat} (hj : iz = (j : Int)) (hq : mz = (q : Int)) (hjq : j ≤ q) (hqc : q ≤ c)
    (h : OPS P n ops K rest (upd σ d (.slice A j q)) w) : OPS P n ops K (i :: rest) σ w := by
  obtain ⟨i0, hi0, hs, _⟩ := he.info
  subst hj
  subst hq
  refine OPS.step ho hw rfl ?_ h
  simp [execOp, eval_act hx, eval_act hy, eval_act hu, hv, hi, hm, Instr.sliceAt, Instr.slice, Instr.sliceBounds, run_sliceBound _ hjq, run_sliceBound _ hqc, underlying, hT, sizeOf, typeInfo, hi0, hs]
  intro _
  cases A <;> simp [Addr.add]
/-- x[lo:hi] -/
theorem S_sliceLoHi {T e : TypeId} {sz by_ : Nat} {z : Value} {ag : Bool} {u : Operand} (hT : P.underlying T = some (.slice e)) (he : TI P e sz by_ z ag)
    (ho : ops[i]? = some { dst := some d, op := .slice T x (some y) (some u) none, type := t, pos := p, after := af, guard := gd }) (hw : wg n ops σ gd = true) (hx : tok n x = true) (hy : tok n y = true) (hu : tok n u = true)
    {ad : Addr} {m c : Nat} (hv : sv σ x = .slice (some ad) m c) {k k' : IntKind} {lz hz : Int} (hl : sv σ y = .int k lz) (hh : sv σ u = .int k' hz) {l q : Nat} (hj : lz = (l : Int)) (hq : hz = (q : Int)) (hlq : l ≤ q) (hqc : q ≤ c)
    (h : OPS P n ops K rest (upd σ d (.slice (some (if c = l then ad else ad.add (l * sz))) (q - l) (c - l))) w) : OPS P n ops K (i :: rest) σ w := by
  obtain ⟨i0, hi0, hs, _⟩ := he.info
  subst hj
  subst hq
  refine OPS.step ho hw rfl ?_ h
  simp [execOp, eval_act hx, eval_act hy, eval_act hu, hv, hl, hh, Instr.sliceAt, Instr.slice, Instr.sliceBounds, run_sliceBound _ hlq, run_sliceBound _ hqc, underlying, hT, sizeOf, typeInfo, hi0, hs]
  split <;> rfl
/-- x[lo:] -/
theorem S_sliceLo {T e : TypeId} {sz by_ : Nat} {z : Value} {ag : Bool} (hT : P.underlying T = some (.slice e)) (he : TI P e sz by_ z ag)
    (ho : ops[i]? = some { dst := some d, op := .slice T x (some y) none none, type := t, pos := p, after := af, guard := gd }) (hw : wg n ops σ gd = true) (hx : tok n x = true) (hy : tok n y = true)
    {A : Option Addr} {m c : Nat} (hv : sv σ x = .slice A m c) {k : IntKind} {lz : Int} (hl : sv σ y = .int k lz) {l : Nat} (hj : lz = (l : Int)) (hlq : l ≤ m)
    (h : OPS P n ops K rest (upd σ d (.slice (if c = l then A else A.map (·.add (l * sz))) (m - l) (c - l))) w) : OPS P n ops K (i :: rest) σ w := by
  obtain ⟨i0, hi0, hs, _⟩ := he.info
  subst hj
  refine OPS.step ho hw rfl ?_ h
  simp [execOp, eval_act hx, eval_act hy, hv, hl, Instr.sliceAt, Instr.slice, Instr.sliceBounds, run_sliceBound _ hlq, underlying, hT, sizeOf, typeInfo, hi0, hs]

/-- make([]T, n), one cell an element. -/
theorem S_make {T e : TypeId} {by_ : Nat} {z : Value} {ag : Bool} (hT : P.underlying T = some (.slice e)) (he : TI P e 1 by_ z ag) (hz : z.cells = #[z])
    (ho : ops[i]? = some { dst := some d, op := .makeSlice T x x, type := t, pos := p, after := af, guard := gd }) (hw : wg n ops σ gd = true) (hx : tok n x = true)
    {mz : Int} (hm : sv σ x = .int .i64 mz) {m : Nat} (hmz : mz = (m : Int)) (hb : m * by_ ≤ 140737488355328) (hm2 : m ≤ 140737488355328)
    (h : ∀ g w1, g = w.heap.size → w1.heap.size = g + 1 → Below w.heap.size w w1 → Blk w1 g (List.replicate m z) e → OPS P n ops K rest (upd σ d (.slice (some ⟨g, 0, none⟩) m m)) w1) : OPS P n ops K (i :: rest) σ w := by
  obtain ⟨i0, hi0, hs, hby, hzz⟩ := he.info
  subst hmz
  have e1 : (madeCells #[z] m).toList = List.replicate m z := toList_madeCells_one z m
  have hr := run_make_row' (P := P) T e z by_ hT (by rw [hi0]; simp [hs, hby, hzz]) (by rw [hz]) .i64 .i64 m (by rw [Nat.mul_comm]; omega) (by omega) w
  have hb2 : Blk (w.alloc (.cells (madeCells #[z] m) e)) w.heap.size (List.replicate m z) e := by
    have := alloc_blk w (madeCells #[z] m).toList e
    rw [Array.toArray_toList] at this
    rw [← e1]
    exact this
  refine OPS.step (w' := w.alloc (.cells (madeCells #[z] m) e)) ho hw rfl ?_ (h _ _ rfl (by simp) (alloc_below _ _) hb2)
  simp [execOp, eval_act hx, hm, hr]
end
end Go.Proofs.YtccmicegihlfbaaGreatDoor
