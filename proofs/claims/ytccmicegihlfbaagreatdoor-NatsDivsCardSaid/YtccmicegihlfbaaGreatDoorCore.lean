/- A walk by single steps: the slots of a frame as a function, one lemma an operation. -/
import Derived.Test.YtccmicegihlfbaaGreatDoorProg
import Derived.WalkKit
import Derived.OrdersIn
import Derived.RangeFuncFrom
import Derived.RangeFuncWrites
import Derived.RangeFuncLeaves
import Derived.RangeFuncCalls
import Derived.RangeFuncBound
import Derived.Sort.LoopGhostIn
import Derived.Deep.LoopGhost
import Derived.Orders
import Derived.Laws.Rows
set_option linter.unusedVariables false
set_option linter.unusedSimpArgs false
namespace Go.Proofs.YtccmicegihlfbaaGreatDoor
open Go.RowKit

/-! ### 1. Frames -/
def upd (σ : Nat → Value) (d : Nat) (v : Value) : Nat → Value := fun t => if t = d then v else σ t
/-- A frame: how many slots; what is deferred. -/
structure NF where
  n : Nat
  ds : List Deferred
def act (n : NF) (σ : Nat → Value) : Act := { tmps := ((List.range n.n).map σ).toArray, defers := n.ds }
def sv (σ : Nat → Value) : Operand → Value
  | .tmp t => σ t
  | .const v => v
  | .global g => .pointer (some ⟨g, 0, none⟩)
  | .func f => .func (.func f) #[] #[]
def tok (n : NF) : Operand → Bool
  | .tmp t => decide (t < n.n)
  | _ => true
def initS (l : List Value) : Nat → Value := fun i => l.getD i undef

theorem act_get {n : NF} {σ : Nat → Value} {t : Nat} (h : t < n.n) : (act n σ).tmps[t]? = some (σ t) := by
  simp [act, h]
theorem eval_act {n : NF} {σ : Nat → Value} {x : Operand} (h : tok n x = true) : (act n σ).eval x = sv σ x := by
  cases x with
  | tmp t =>
    have ht : t < n.n := by simpa [tok] using h
    simp [Act.eval, sv, act, ht]
  | const v => rfl
  | global g => rfl
  | func f => rfl
theorem put_act (n : NF) (σ : Nat → Value) (d : Nat) (v : Value) : (act n σ).put (some d) v = act n (upd σ d v) := by
  simp only [Act.put, act]
  congr 1
  apply Array.ext
  · simp
  · intro i h1 h2
    simp at h1
    simp [Array.getElem_setIfInBounds, upd]
    by_cases e : d = i
    · subst e; simp
    · simp [e, Ne.symm e]
theorem put_act_none (n : NF) (σ : Nat → Value) (v : Value) : (act n σ).put none v = act n σ := rfl
def wg (n : NF) (ops : Array Oper) (σ : Nat → Value) : Option (Nat × Bool) → Bool
  | none => true
  | some (j, want) => match (ops[j]?).bind (·.dst) with
    | some d => decide (d < n.n) && (match σ d with | .bool b => b == want | _ => false)
    | none => false
theorem wanted_wg {n : NF} {ops : Array Oper} {σ : Nat → Value} (o : Oper) : Region.wanted o (yielded ops (act n σ).tmps) = wg n ops σ o.guard := by
  unfold Region.wanted wg
  split <;> rename_i h
  · rw [h]
  · rename_i j want
    rw [h]
    simp only [yielded]
    cases hd : (ops[j]?).bind (·.dst) with
    | none => simp
    | some d =>
      simp only [Option.bind_some]
      by_cases hlt : d < n.n
      · rw [act_get hlt]
        simp only [hlt, decide_true, Bool.true_and]
        cases σ d <;> simp
      · have : (act n σ).tmps[d]? = none := by simp [act, hlt]
        rw [this]
        simp [hlt]

/-! ### 2. Operations -/
def OPS (P : Program) (n : NF) (ops : Array Oper) (K : (Nat → Value) → World → Prop) (l : List Nat) (σ : Nat → Value) (w : World) : Prop :=
  ∀ m, wpOpsIn Fence.wide m P ops (fun e a w => e = .normal ∧ ∃ σ', a = act n σ' ∧ K σ' w) l (act n σ) w

section
variable {P : Program} {n : NF} {ops : Array Oper} {K : (Nat → Value) → World → Prop} {σ : Nat → Value} {w : World} {i : Nat} {rest : List Nat}

theorem OPS.nil (h : K σ w) : OPS P n ops K [] σ w := fun m => ⟨rfl, σ, rfl, h⟩
theorem OPS.step {o : Oper} {d : Nat} {v : Value} {w' : World} (ho : ops[i]? = some o) (hw : wg n ops σ o.guard = true) (hd : o.dst = some d)
    (hr : (execOp (act n σ).eval o).run P w = .ok (.value v) w') (h : OPS P n ops K rest (upd σ d v) w') : OPS P n ops K (i :: rest) σ w := fun m => by
  simp only [wpOpsIn, ho, wanted_wg, hw, if_true]
  refine ⟨fun f _ => trivial, ?_⟩
  have e : (o.semAt Fence.wide.round (act n σ).eval).run P w = .ok (.value v) w' := by rw [show Fence.wide.round = none from rfl, Oper.semAt_none]; exact hr
  rw [e, Oper.uponIn_value, hd, put_act]
  exact h m
theorem OPS.step0 {o : Oper} {w' : World} (ho : ops[i]? = some o) (hw : wg n ops σ o.guard = true) (hd : o.dst = none)
    (hr : (execOp (act n σ).eval o).run P w = .ok .skip w') (h : OPS P n ops K rest σ w') : OPS P n ops K (i :: rest) σ w := fun m => by
  simp only [wpOpsIn, ho, wanted_wg, hw, if_true]
  refine ⟨fun f _ => trivial, ?_⟩
  have e : (o.semAt Fence.wide.round (act n σ).eval).run P w = .ok .skip w' := by rw [show Fence.wide.round = none from rfl, Oper.semAt_none]; exact hr
  rw [e, Oper.uponIn_skip, hd, put_act_none]
  exact h m
/-- An operation whose guard says no. -/
theorem S_skip {d : Nat} {op : Op} {t : TypeId} {p : String} {af : Array Edge} {gd : Option (Nat × Bool)} (ho : ops[i]? = some { dst := some d, op := op, type := t, pos := p, after := af, guard := gd }) (hw : wg n ops σ gd = false)
    (h : OPS P n ops K rest (upd σ d undef) w) : OPS P n ops K (i :: rest) σ w := fun m => by
  simp only [wpOpsIn, ho, wanted_wg, hw, Bool.false_eq_true, if_false, put_act]
  exact ⟨fun f _ => trivial, h m⟩
theorem wg_off {j s : Nat} {want b : Bool} (hd : (ops[j]?).bind (·.dst) = some s) (hv : σ s = .bool b) (hb : b = !want) : wg n ops σ (some (j, want)) = false := by
  subst hb
  simp only [wg, hd, hv]
  cases want <;> simp
theorem S_skip0 {op : Op} {t : TypeId} {p : String} {af : Array Edge} {gd : Option (Nat × Bool)} (ho : ops[i]? = some { dst := none, op := op, type := t, pos := p, after := af, guard := gd }) (hw : wg n ops σ gd = false)
    (h : OPS P n ops K rest σ w) : OPS P n ops K (i :: rest) σ w := by
  intro m
  simp only [wpOpsIn, ho, wanted_wg, hw, Bool.false_eq_true, if_false, put_act_none]
  exact ⟨fun f _ => trivial, h m⟩

variable {d : Nat} {t : TypeId} {p : String} {af : Array Edge} {gd : Option (Nat × Bool)} {x y : Operand}

theorem S_move (ho : ops[i]? = some { dst := some d, op := .move x, type := t, pos := p, after := af, guard := gd }) (hw : wg n ops σ gd = true) (hx : tok n x = true)
    {v : Value} (hv : sv σ x = v) (h : OPS P n ops K rest (upd σ d v) w) : OPS P n ops K (i :: rest) σ w :=
  OPS.step ho hw rfl (by simp [execOp, eval_act hx, hv]) h
theorem S_assign (ho : ops[i]? = some { dst := some d, op := .assign x, type := t, pos := p, after := af, guard := gd }) (hw : wg n ops σ gd = true) (hx : tok n x = true)
    {v : Value} (hv : sv σ x = v) (h : OPS P n ops K rest (upd σ d v) w) : OPS P n ops K (i :: rest) σ w :=
  OPS.step ho hw rfl (by simp [execOp, eval_act hx, hv]) h
theorem S_pick {z : Operand} (ho : ops[i]? = some { dst := some d, op := .pick x y z, type := t, pos := p, after := af, guard := gd }) (hw : wg n ops σ gd = true)
    (hx : tok n x = true) (hy : tok n y = true) (hz : tok n z = true)
    {b : Bool} {v : Value} (hb : sv σ x = .bool b) (hv : (if b then sv σ y else sv σ z) = v) (h : OPS P n ops K rest (upd σ d v) w) : OPS P n ops K (i :: rest) σ w :=
  OPS.step ho hw rfl (by simp [execOp, eval_act hx, eval_act hy, eval_act hz, hb, asBool, hv]) h
theorem S_not (ho : ops[i]? = some { dst := some d, op := .unOp .not t x, type := t, pos := p, after := af, guard := gd }) (hw : wg n ops σ gd = true) (hx : tok n x = true)
    {b : Bool} (hb : sv σ x = .bool b) (h : OPS P n ops K rest (upd σ d (.bool (!b))) w) : OPS P n ops K (i :: rest) σ w :=
  OPS.step ho hw rfl (by simp [execOp, eval_act hx, hb, Op.unary]) h

/-- What an operation on two whole numbers of one kind gives. -/
def binV : BinOp → IntKind → Int → Int → Value
  | .add, k, a, b => .int k (k.wrap (a + b))
  | .sub, k, a, b => .int k (k.wrap (a - b))
  | .mul, k, a, b => .int k (k.wrap (a * b))
  | .lss, _, a, b => .bool (decide (a < b))
  | .leq, _, a, b => .bool (decide (a ≤ b))
  | .gtr, _, a, b => .bool (decide (a > b))
  | .geq, _, a, b => .bool (decide (a ≥ b))
  | .eql, _, a, b => .bool (a == b)
  | .neq, _, a, b => .bool (a != b)
  | _, _, _, _ => undef
def binOk : BinOp → Bool
  | .add | .sub | .mul | .lss | .leq | .gtr | .geq | .eql | .neq => true
  | _ => false
theorem run_bin {op : BinOp} (hop : binOk op = true) {k : IntKind} {a b : Int} (T : TypeId) :
    (do eqGuard op T x y (.int k a) (.int k b); binOp op T (.int k a) (.int k b) : Sem Value).run P w = .ok (binV op k a b) w := by
  cases op <;> simp_all [binOk, eqGuard, binOp, binV, Op.intArith, Op.intCmp]
theorem S_bin {op : BinOp} {T T' : TypeId} (ho : ops[i]? = some { dst := some d, op := .binOp op T x y T', type := t, pos := p, after := af, guard := gd }) (hw : wg n ops σ gd = true)
    (hx : tok n x = true) (hy : tok n y = true) (hop : binOk op = true) {k : IntKind} {a b : Int} (ha : sv σ x = .int k a) (hb : sv σ y = .int k b)
    {v : Value} (hv : binV op k a b = v) (h : OPS P n ops K rest (upd σ d v) w) : OPS P n ops K (i :: rest) σ w := by
  refine OPS.step ho hw rfl ?_ h
  have := run_bin (P := P) (w := w) (x := x) (y := y) hop (k := k) (a := a) (b := b) T
  subst hv
  simp only [execOp, eval_act hx, eval_act hy, ha, hb]
  rw [Sem.run_bind, this]
  rfl
end
attribute [irreducible] OPS
end Go.Proofs.YtccmicegihlfbaaGreatDoor
