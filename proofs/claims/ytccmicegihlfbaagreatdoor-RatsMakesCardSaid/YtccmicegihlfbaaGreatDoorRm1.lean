import Derived.Test.YtccmicegihlfbaaGreatDoorProg
import Derived.WalkKit
import Derived.OrdersIn
import Derived.RangeFuncFrom
import Derived.RangeFuncWrites
import Derived.RangeFuncLeaves
import Derived.RangeFuncCalls
import Derived.RangeFuncBound
import Derived.Sort.LoopGhostIn
import Derived.Deep.LoopGhost
import Derived.Orders
import Derived.Laws.Rows
import Derived.Deep.OwnRows
import Derived.KernelRfl
import Derived.OrdersHeld
import Derived.Lib.TrailingZeros
set_option linter.unusedVariables false
set_option linter.unusedSimpArgs false

/- Plain facts on numbers as lists of parts of 32 bits; no program in sight. -/
namespace Go.Proofs.YtccmicegihlfbaaGreatDoor

/-- Every part is one of 32 bits. -/
def U32 (l : List Int) : Prop := ∀ x ∈ l, 0 ≤ x ∧ x < 4294967296

def val : List Int → Nat
  | [] => 0
  | x :: xs => x.toNat + 4294967296 * val xs

/-- A number may be. -/
def okL (l : List Int) : Bool := l.isEmpty || l.getLastD 1 != 0

def dg (n : Nat) : List Int :=
  if h : n = 0 then [] else ((n % 4294967296 : Nat) : Int) :: dg (n / 4294967296)
termination_by n
decreasing_by omega

/-- A number, or 0. -/
def fineL (l : List Int) : List Int := if okL l then l else []
def nv (l : List Int) : Nat := val (fineL l)

theorem U32.nil : U32 [] := fun _ h => by cases h
theorem U32.cons {x : Int} {l : List Int} (h : U32 (x :: l)) : (0 ≤ x ∧ x < 4294967296) ∧ U32 l :=
  ⟨h x (by simp), fun y hy => h y (by simp [hy])⟩
theorem U32.mk {x : Int} {l : List Int} (h0 : 0 ≤ x) (h1 : x < 4294967296) (h : U32 l) : U32 (x :: l) := by
  intro y hy
  rcases List.mem_cons.1 hy with rfl | hy
  · exact ⟨h0, h1⟩
  · exact h y hy
theorem U32.getD {l : List Int} (h : U32 l) (i : Nat) : 0 ≤ l.getD i 0 ∧ l.getD i 0 < 4294967296 := by
  rw [List.getD_eq_getElem?_getD]
  by_cases hi : i < l.length
  · rw [List.getElem?_eq_getElem hi]; exact h _ (List.getElem_mem hi)
  · rw [List.getElem?_eq_none (by omega)]; simp
theorem U32.take {l : List Int} (h : U32 l) (n : Nat) : U32 (l.take n) := fun x hx => h x (List.mem_of_mem_take hx)
theorem U32.drop {l : List Int} (h : U32 l) (n : Nat) : U32 (l.drop n) := fun x hx => h x (List.mem_of_mem_drop hx)
theorem U32.append {l m : List Int} (h : U32 l) (k : U32 m) : U32 (l ++ m) := fun x hx => (List.mem_append.1 hx).elim (h x) (k x)
theorem U32.set {l : List Int} (h : U32 l) (i : Nat) {x : Int} (h0 : 0 ≤ x) (h1 : x < 4294967296) : U32 (l.set i x) := fun y hy => by
  rcases List.mem_or_eq_of_mem_set hy with hy | rfl
  · exact h y hy
  · exact ⟨h0, h1⟩
theorem U32.replicate (n : Nat) : U32 (List.replicate n 0) := fun x hx => by
  rw [(List.mem_replicate.1 hx).2]; exact ⟨by decide, by decide⟩

theorem val_nil : val [] = 0 := rfl
theorem val_cons (x : Int) (l : List Int) : val (x :: l) = x.toNat + 4294967296 * val l := rfl
theorem val_append (l m : List Int) : val (l ++ m) = val l + 4294967296 ^ l.length * val m := by
  induction l with
  | nil => simp [val]
  | cons x l ih =>
    simp only [List.cons_append, val_cons, ih, List.length_cons, Nat.pow_succ]
    rw [Nat.mul_add, ← Nat.mul_assoc, Nat.mul_comm 4294967296 (4294967296 ^ l.length)]
    omega
theorem val_zeros (n : Nat) : val (List.replicate n 0) = 0 := by
  induction n with
  | zero => rfl
  | succ n ih => rw [List.replicate_succ, val_cons, ih]; rfl
theorem val_lt {l : List Int} (h : U32 l) : val l < 4294967296 ^ l.length := by
  induction l with
  | nil => simp [val]
  | cons x l ih =>
    obtain ⟨hx, hl⟩ := h.cons
    have := ih hl
    rw [val_cons, List.length_cons, Nat.pow_succ]
    have hx' : x.toNat < 4294967296 := by omega
    have h2 : val l + 1 ≤ 4294967296 ^ l.length := this
    have h3 := Nat.mul_le_mul_left 4294967296 h2
    rw [Nat.mul_comm (4294967296 ^ l.length)]
    omega
theorem val_take_succ (l : List Int) (i : Nat) (hi : i < l.length) : val (l.take (i + 1)) = val (l.take i) + 4294967296 ^ i * (l.getD i 0).toNat := by
  rw [List.take_succ_eq_append_getElem hi, val_append, List.length_take, Nat.min_eq_left (by omega), List.getD_eq_getElem?_getD, List.getElem?_eq_getElem hi]
  simp [val]

theorem dg_zero : dg 0 = [] := by rw [dg]; simp
theorem dg_pos {n : Nat} (h : n ≠ 0) : dg n = ((n % 4294967296 : Nat) : Int) :: dg (n / 4294967296) := by rw [dg]; simp [h]
theorem val_dg (n : Nat) : val (dg n) = n := by
  induction n using Nat.strongRecOn with
  | _ n ih =>
    by_cases h : n = 0
    · subst h; rw [dg_zero]; rfl
    · rw [dg_pos h, val_cons, ih _ (by omega), Int.toNat_natCast]; omega
theorem U32_dg (n : Nat) : U32 (dg n) := by
  induction n using Nat.strongRecOn with
  | _ n ih =>
    by_cases h : n = 0
    · subst h; rw [dg_zero]; exact U32.nil
    · rw [dg_pos h]; exact U32.mk (by omega) (by omega) (ih _ (by omega))
theorem dg_eq_nil {n : Nat} : dg n = [] ↔ n = 0 := by
  constructor
  · intro h
    by_cases h0 : n = 0
    · exact h0
    · rw [dg_pos h0] at h; cases h
  · rintro rfl; exact dg_zero
theorem okL_nil : okL [] = true := rfl
theorem okL_cons_cons (x y : Int) (l : List Int) : okL (x :: y :: l) = okL (y :: l) := by simp [okL, List.getLastD]
theorem okL_one (x : Int) : okL [x] = (x != 0) := by simp [okL, List.getLastD]
theorem okL_dg (n : Nat) : okL (dg n) = true := by
  induction n using Nat.strongRecOn with
  | _ n ih =>
    by_cases h : n = 0
    · subst h; rw [dg_zero]; rfl
    · have h1 := ih (n / 4294967296) (by omega)
      rw [dg_pos h]
      by_cases h2 : n / 4294967296 = 0
      · rw [h2, dg_zero, okL_one]; simp; omega
      · rw [dg_pos h2] at h1 ⊢; rw [okL_cons_cons]; exact h1
theorem val_pos_of_ok {l : List Int} (h : U32 l) (hk : okL l = true) (hn : l ≠ []) : 0 < val l := by
  induction l with
  | nil => exact absurd rfl hn
  | cons x l ih =>
    obtain ⟨hx, hl⟩ := h.cons
    cases l with
    | nil => rw [okL_one] at hk; simp at hk; rw [val_cons]; omega
    | cons y l => rw [okL_cons_cons] at hk; have := ih hl hk (by simp); rw [val_cons]; omega
theorem dg_val {l : List Int} (h : U32 l) (hk : okL l = true) : dg (val l) = l := by
  induction l with
  | nil => rw [val_nil, dg_zero]
  | cons x l ih =>
    obtain ⟨hx, hl⟩ := h.cons
    have hp := val_pos_of_ok h hk (by simp)
    rw [dg_pos (by omega), val_cons]
    have hkl : okL l = true := by
      cases l with
      | nil => rfl
      | cons y l => rw [okL_cons_cons] at hk; exact hk
    rw [show (x.toNat + 4294967296 * val l) / 4294967296 = val l by omega, ih hl hkl]
    congr 1
    omega
theorem fineL_of_ok {l : List Int} (h : okL l = true) : fineL l = l := by simp [fineL, h]
theorem fineL_of_not {l : List Int} (h : okL l = false) : fineL l = [] := by simp [fineL, h]
theorem U32_fine {l : List Int} (h : U32 l) : U32 (fineL l) := by unfold fineL; split; exact h; exact U32.nil
theorem okL_fine (l : List Int) : okL (fineL l) = true := by unfold fineL; split; assumption; rfl
theorem dg_nv {l : List Int} (h : U32 l) : dg (nv l) = fineL l := dg_val (U32_fine h) (okL_fine l)
theorem nv_ok {l : List Int} (h : okL l = true) : nv l = val l := by rw [nv, fineL_of_ok h]
theorem nv_dg (n : Nat) : nv (dg n) = n := by rw [nv_ok (okL_dg n), val_dg]
theorem fineL_length (l : List Int) : (fineL l).length ≤ l.length := by unfold fineL; split <;> simp
/-- Two lists that may be are one, if their numbers are. -/
theorem ok_ext {l m : List Int} (hl : U32 l) (hm : U32 m) (kl : okL l = true) (km : okL m = true) (h : val l = val m) : l = m := by
  rw [← dg_val hl kl, ← dg_val hm km, h]
theorem dg_length_le {n k : Nat} (h : n < 4294967296 ^ k) : (dg n).length ≤ k := by
  induction k generalizing n with
  | zero => have : n = 0 := by simpa using h
            subst this; rw [dg_zero]; simp
  | succ k ih =>
    by_cases h0 : n = 0
    · subst h0; rw [dg_zero]; simp
    · rw [dg_pos h0, List.length_cons]
      have : n / 4294967296 < 4294967296 ^ k := by rw [Nat.pow_succ] at h; exact Nat.div_lt_of_lt_mul (by rw [Nat.mul_comm]; exact h)
      have := ih this
      omega
theorem lt_dg_length (n : Nat) : n < 4294967296 ^ (dg n).length := by
  have := val_lt (U32_dg n); rwa [val_dg] at this
theorem dg_length_mono {m n : Nat} (h : m ≤ n) : (dg m).length ≤ (dg n).length := dg_length_le (Nat.lt_of_le_of_lt h (lt_dg_length n))
theorem dg_length_mul (m n : Nat) : (dg (m * n)).length ≤ (dg m).length + (dg n).length := by
  apply dg_length_le
  rw [Nat.pow_add]
  exact Nat.mul_lt_mul'' (lt_dg_length m) (lt_dg_length n)
theorem dg_length_add (m n : Nat) : (dg (m + n)).length ≤ max (dg m).length (dg n).length + 1 := by
  apply dg_length_le
  have h1 := Nat.lt_of_lt_of_le (lt_dg_length m) (Nat.pow_le_pow_right (by decide : 4294967296 > 0) (Nat.le_max_left (dg m).length (dg n).length))
  have h2 := Nat.lt_of_lt_of_le (lt_dg_length n) (Nat.pow_le_pow_right (by decide : 4294967296 > 0) (Nat.le_max_right (dg m).length (dg n).length))
  rw [Nat.pow_succ]; omega
theorem dg_length_nv {l : List Int} (h : U32 l) : (dg (nv l)).length ≤ l.length := by rw [dg_nv h]; exact fineL_length l
theorem okL_snoc (l : List Int) (x : Int) : okL (l ++ [x]) = (x != 0) := by
  induction l with
  | nil => exact okL_one x
  | cons y l ih => cases l with
    | nil => rw [List.cons_append, List.nil_append, okL_cons_cons, okL_one]
    | cons z l => rw [List.cons_append, List.cons_append, okL_cons_cons]; exact ih
theorem okL_take {l : List Int} {n : Nat} (hn : n < l.length) : okL (l.take (n + 1)) = (l.getD n 0 != 0) := by
  rw [List.take_succ_eq_append_getElem hn, okL_snoc, List.getD_eq_getElem?_getD, List.getElem?_eq_getElem hn]; rfl
theorem okL_getD {l : List Int} (hn : 0 < l.length) : okL l = (l.getD (l.length - 1) 0 != 0) := by
  have := okL_take (l := l) (n := l.length - 1) (by omega)
  rwa [show l.length - 1 + 1 = l.length by omega, List.take_length] at this
end Go.Proofs.YtccmicegihlfbaaGreatDoor

/- A walk by single steps: the slots of a frame as a function, one lemma an operation. -/
namespace Go.Proofs.YtccmicegihlfbaaGreatDoor
open Go.RowKit

/-! ### 1. Frames -/
def upd (σ : Nat → Value) (d : Nat) (v : Value) : Nat → Value := fun t => if t = d then v else σ t
/-- A frame: how many slots; what is deferred. -/
structure NF where
  n : Nat
  ds : List Deferred
def act (n : NF) (σ : Nat → Value) : Act := { tmps := ((List.range n.n).map σ).toArray, defers := n.ds }
def sv (σ : Nat → Value) : Operand → Value
  | .tmp t => σ t
  | .const v => v
  | .global g => .pointer (some ⟨g, 0, none⟩)
  | .func f => .func (.func f) #[] #[]
def tok (n : NF) : Operand → Bool
  | .tmp t => decide (t < n.n)
  | _ => true
def initS (l : List Value) : Nat → Value := fun i => l.getD i undef

theorem act_get {n : NF} {σ : Nat → Value} {t : Nat} (h : t < n.n) : (act n σ).tmps[t]? = some (σ t) := by
  simp [act, h]
theorem eval_act {n : NF} {σ : Nat → Value} {x : Operand} (h : tok n x = true) : (act n σ).eval x = sv σ x := by
  cases x with
  | tmp t =>
    have ht : t < n.n := by simpa [tok] using h
    simp [Act.eval, sv, act, ht]
  | const v => rfl
  | global g => rfl
  | func f => rfl
theorem put_act (n : NF) (σ : Nat → Value) (d : Nat) (v : Value) : (act n σ).put (some d) v = act n (upd σ d v) := by
  simp only [Act.put, act]
  congr 1
  apply Array.ext
  · simp
  · intro i h1 h2
    simp at h1
    simp [Array.getElem_setIfInBounds, upd]
    by_cases e : d = i
    · subst e; simp
    · simp [e, Ne.symm e]
theorem put_act_none (n : NF) (σ : Nat → Value) (v : Value) : (act n σ).put none v = act n σ := rfl
def wg (n : NF) (ops : Array Oper) (σ : Nat → Value) : Option (Nat × Bool) → Bool
  | none => true
  | some (j, want) => match (ops[j]?).bind (·.dst) with
    | some d => decide (d < n.n) && (match σ d with | .bool b => b == want | _ => false)
    | none => false
theorem wanted_wg {n : NF} {ops : Array Oper} {σ : Nat → Value} (o : Oper) : Region.wanted o (yielded ops (act n σ).tmps) = wg n ops σ o.guard := by
  unfold Region.wanted wg
  split <;> rename_i h
  · rw [h]
  · rename_i j want
    rw [h]
    simp only [yielded]
    cases hd : (ops[j]?).bind (·.dst) with
    | none => simp
    | some d =>
      simp only [Option.bind_some]
      by_cases hlt : d < n.n
      · rw [act_get hlt]
        simp only [hlt, decide_true, Bool.true_and]
        cases σ d <;> simp
      · have : (act n σ).tmps[d]? = none := by simp [act, hlt]
        rw [this]
        simp [hlt]

/-! ### 2. Operations -/
def OPS (P : Program) (n : NF) (ops : Array Oper) (K : (Nat → Value) → World → Prop) (l : List Nat) (σ : Nat → Value) (w : World) : Prop :=
  ∀ m, wpOpsIn Fence.wide m P ops (fun e a w => e = .normal ∧ ∃ σ', a = act n σ' ∧ K σ' w) l (act n σ) w

section
variable {P : Program} {n : NF} {ops : Array Oper} {K : (Nat → Value) → World → Prop} {σ : Nat → Value} {w : World} {i : Nat} {rest : List Nat}

theorem OPS.nil (h : K σ w) : OPS P n ops K [] σ w := fun m => ⟨rfl, σ, rfl, h⟩
theorem OPS.step {o : Oper} {d : Nat} {v : Value} {w' : World} (ho : ops[i]? = some o) (hw : wg n ops σ o.guard = true) (hd : o.dst = some d)
    (hr : (execOp (act n σ).eval o).run P w = .ok (.value v) w') (h : OPS P n ops K rest (upd σ d v) w') : OPS P n ops K (i :: rest) σ w := fun m => by
  simp only [wpOpsIn, ho, wanted_wg, hw, if_true]
  refine ⟨fun f _ => trivial, ?_⟩
  have e : (o.semAt Fence.wide.round (act n σ).eval).run P w = .ok (.value v) w' := by rw [show Fence.wide.round = none from rfl, Oper.semAt_none]; exact hr
  rw [e, Oper.uponIn_value, hd, put_act]
  exact h m
theorem OPS.step0 {o : Oper} {w' : World} (ho : ops[i]? = some o) (hw : wg n ops σ o.guard = true) (hd : o.dst = none)
    (hr : (execOp (act n σ).eval o).run P w = .ok .skip w') (h : OPS P n ops K rest σ w') : OPS P n ops K (i :: rest) σ w := fun m => by
  simp only [wpOpsIn, ho, wanted_wg, hw, if_true]
  refine ⟨fun f _ => trivial, ?_⟩
  have e : (o.semAt Fence.wide.round (act n σ).eval).run P w = .ok .skip w' := by rw [show Fence.wide.round = none from rfl, Oper.semAt_none]; exact hr
  rw [e, Oper.uponIn_skip, hd, put_act_none]
  exact h m
/-- An operation whose guard says no. -/
theorem S_skip {d : Nat} {op : Op} {t : TypeId} {p : String} {af : Array Edge} {gd : Option (Nat × Bool)} (ho : ops[i]? = some { dst := some d, op := op, type := t, pos := p, after := af, guard := gd }) (hw : wg n ops σ gd = false)
    (h : OPS P n ops K rest (upd σ d undef) w) : OPS P n ops K (i :: rest) σ w := fun m => by
  simp only [wpOpsIn, ho, wanted_wg, hw, Bool.false_eq_true, if_false, put_act]
  exact ⟨fun f _ => trivial, h m⟩
theorem wg_off {j s : Nat} {want b : Bool} (hd : (ops[j]?).bind (·.dst) = some s) (hv : σ s = .bool b) (hb : b = !want) : wg n ops σ (some (j, want)) = false := by
  subst hb
  simp only [wg, hd, hv]
  cases want <;> simp
theorem S_skip0 {op : Op} {t : TypeId} {p : String} {af : Array Edge} {gd : Option (Nat × Bool)} (ho : ops[i]? = some { dst := none, op := op, type := t, pos := p, after := af, guard := gd }) (hw : wg n ops σ gd = false)
    (h : OPS P n ops K rest σ w) : OPS P n ops K (i :: rest) σ w := by
  intro m
  simp only [wpOpsIn, ho, wanted_wg, hw, Bool.false_eq_true, if_false, put_act_none]
  exact ⟨fun f _ => trivial, h m⟩

variable {d : Nat} {t : TypeId} {p : String} {af : Array Edge} {gd : Option (Nat × Bool)} {x y : Operand}

theorem S_move (ho : ops[i]? = some { dst := some d, op := .move x, type := t, pos := p, after := af, guard := gd }) (hw : wg n ops σ gd = true) (hx : tok n x = true)
    {v : Value} (hv : sv σ x = v) (h : OPS P n ops K rest (upd σ d v) w) : OPS P n ops K (i :: rest) σ w :=
  OPS.step ho hw rfl (by simp [execOp, eval_act hx, hv]) h
theorem S_assign (ho : ops[i]? = some { dst := some d, op := .assign x, type := t, pos := p, after := af, guard := gd }) (hw : wg n ops σ gd = true) (hx : tok n x = true)
    {v : Value} (hv : sv σ x = v) (h : OPS P n ops K rest (upd σ d v) w) : OPS P n ops K (i :: rest) σ w :=
  OPS.step ho hw rfl (by simp [execOp, eval_act hx, hv]) h
theorem S_pick {z : Operand} (ho : ops[i]? = some { dst := some d, op := .pick x y z, type := t, pos := p, after := af, guard := gd }) (hw : wg n ops σ gd = true)
    (hx : tok n x = true) (hy : tok n y = true) (hz : tok n z = true)
    {b : Bool} {v : Value} (hb : sv σ x = .bool b) (hv : (if b then sv σ y else sv σ z) = v) (h : OPS P n ops K rest (upd σ d v) w) : OPS P n ops K (i :: rest) σ w :=
  OPS.step ho hw rfl (by simp [execOp, eval_act hx, eval_act hy, eval_act hz, hb, asBool, hv]) h
theorem S_not (ho : ops[i]? = some { dst := some d, op := .unOp .not t x, type := t, pos := p, after := af, guard := gd }) (hw : wg n ops σ gd = true) (hx : tok n x = true)
    {b : Bool} (hb : sv σ x = .bool b) (h : OPS P n ops K rest (upd σ d (.bool (!b))) w) : OPS P n ops K (i :: rest) σ w :=
  OPS.step ho hw rfl (by simp [execOp, eval_act hx, hb, Op.unary]) h

/-- What an operation on two whole numbers of one kind gives. -/
def binV : BinOp → IntKind → Int → Int → Value
  | .add, k, a, b => .int k (k.wrap (a + b))
  | .sub, k, a, b => .int k (k.wrap (a - b))
  | .mul, k, a, b => .int k (k.wrap (a * b))
  | .lss, _, a, b => .bool (decide (a < b))
  | .leq, _, a, b => .bool (decide (a ≤ b))
  | .gtr, _, a, b => .bool (decide (a > b))
  | .geq, _, a, b => .bool (decide (a ≥ b))
  | .eql, _, a, b => .bool (a == b)
  | .neq, _, a, b => .bool (a != b)
  | _, _, _, _ => undef
def binOk : BinOp → Bool
  | .add | .sub | .mul | .lss | .leq | .gtr | .geq | .eql | .neq => true
  | _ => false
theorem run_bin {op : BinOp} (hop : binOk op = true) {k : IntKind} {a b : Int} (T : TypeId) :
    (do eqGuard op T x y (.int k a) (.int k b); binOp op T (.int k a) (.int k b) : Sem Value).run P w = .ok (binV op k a b) w := by
  cases op <;> simp_all [binOk, eqGuard, binOp, binV, Op.intArith, Op.intCmp]
theorem S_bin {op : BinOp} {T T' : TypeId} (ho : ops[i]? = some { dst := some d, op := .binOp op T x y T', type := t, pos := p, after := af, guard := gd }) (hw : wg n ops σ gd = true)
    (hx : tok n x = true) (hy : tok n y = true) (hop : binOk op = true) {k : IntKind} {a b : Int} (ha : sv σ x = .int k a) (hb : sv σ y = .int k b)
    {v : Value} (hv : binV op k a b = v) (h : OPS P n ops K rest (upd σ d v) w) : OPS P n ops K (i :: rest) σ w := by
  refine OPS.step ho hw rfl ?_ h
  have := run_bin (P := P) (w := w) (x := x) (y := y) hop (k := k) (a := a) (b := b) T
  subst hv
  simp only [execOp, eval_act hx, eval_act hy, ha, hb]
  rw [Sem.run_bind, this]
  rfl
end
attribute [irreducible] OPS
end Go.Proofs.YtccmicegihlfbaaGreatDoor

/- The walk by single steps: memory, calls, code. -/
namespace Go.Proofs.YtccmicegihlfbaaGreatDoor
open Go.RowKit

/-! ### 1. Types and blocks -/
structure TI (P : Program) (t : TypeId) (sz : Nat) (by_ : Nat) (z : Value) (ag : Bool) : Prop where
  info : ∃ i, P.info? t = some i ∧ i.size = sz ∧ i.bytes = by_ ∧ i.zero = some z
  und : ∃ d, P.underlying t = some d ∧ (match d with | .struct _ | .array _ _ => true | _ => false) = ag
theorem TI.mk' {P : Program} {t : TypeId} {sz by_ : Nat} {z : Value} {ag : Bool}
    (h1 : (P.info? t).map (fun i => (i.size, i.bytes, i.zero)) = some (sz, by_, some z))
    (h2 : (P.underlying t).map (fun d => match d with | .struct _ | .array _ _ => true | _ => false) = some ag) : TI P t sz by_ z ag := by
  constructor
  · obtain ⟨i, hi, h⟩ := Option.map_eq_some_iff.1 h1
    simp only [Prod.mk.injEq] at h
    exact ⟨i, hi, h.1, h.2.1, h.2.2⟩
  · obtain ⟨d, hd, h⟩ := Option.map_eq_some_iff.1 h2
    exact ⟨d, hd, h⟩
/-- Block g holds cs, and may be written. -/
structure Blk (w : World) (g : Nat) (cs : List Value) (t : TypeId) : Prop where
  at_ : w.heap[g]? = some (.cells cs.toArray t (0, 0))
/-- Block g alone has been written. -/
structure Upd (g : Nat) (w w' : World) : Prop where
  os : w'.os = w.os
  tape : w'.tape = w.tape
  output : w'.output = w.output
  size : w'.heap.size = w.heap.size
  block : ∀ k, k ≠ g → w'.heap[k]? = w.heap[k]?

theorem Blk.lt {w : World} {g : Nat} {cs : List Value} {t : TypeId} (h : Blk w g cs t) : g < w.heap.size := (Array.getElem?_eq_some_iff.1 h.at_).1
theorem Blk.below {w w' : World} {g : Nat} {cs : List Value} {t : TypeId} (h : Blk w g cs t) (hb : Below w.heap.size w w') : Blk w' g cs t := ⟨(hb.block g h.lt).trans h.at_⟩
theorem Blk.upd {w w' : World} {g g' : Nat} {cs : List Value} {t : TypeId} (h : Blk w g cs t) (hu : Upd g' w w') (hne : g ≠ g') : Blk w' g cs t := ⟨(hu.block g hne).trans h.at_⟩
theorem Blk.cell {w : World} {g : Nat} {cs : List Value} {t : TypeId} (h : Blk w g cs t) (o : Nat) : w.cell? ⟨g, o, none⟩ = cs[o]? := by
  simp [World.cell?, h.at_]
theorem Blk.frozen {w : World} {g : Nat} {cs : List Value} {t : TypeId} (h : Blk w g cs t) (o : Nat) : w.frozen? ⟨g, o, none⟩ = false := by
  simp [World.frozen?, h.at_]
theorem Upd.below {g B : Nat} {w w' : World} (h : Upd g w w') (hB : B ≤ g) : Below B w w' :=
  ⟨h.os, h.tape, h.output, Nat.le_of_eq h.size.symm, fun k hk => h.block k (by omega)⟩
/-- As it was below B, B no greater than the old size: two calls, one behind the other. -/
theorem Below.then {B : Nat} {a b c : World} (h : Below B a b) (k : Below b.heap.size b c) (hB : B ≤ a.heap.size) : Below B a c :=
  h.trans (k.mono (Nat.le_trans hB h.size))
theorem Below.step {B : Nat} {a b c : World} (h : Below B a b) (k : Below b.heap.size b c) (hB : B ≤ a.heap.size := by exact Nat.le_refl _) : Below B a c := Below.then h k hB
theorem Below.stepU {B g : Nat} {a b c : World} (h : Below B a b) (k : Upd g b c) (hB : B ≤ g) : Below B a c := h.trans (k.below hB)
theorem add_plain (g o k : Nat) : (⟨g, o, none⟩ : Addr).add k = ⟨g, o + k, none⟩ := by unfold Addr.add; split <;> simp_all
theorem Addr.add_add' (a : Addr) (i j : Nat) : (a.add i).add j = a.add (i + j) := by
  unfold Addr.add
  by_cases h1 : i = 0 <;> by_cases h2 : j = 0 <;> simp_all <;> omega

/-! ### 2. What a load gives -/
def LD (P : Program) (w : World) (t : TypeId) (ad : Addr) (v : Value) : Prop := (loadVar t ad).run P w = .ok v w
section
variable {P : Program} {w : World} {t : TypeId} {sz by_ : Nat} {z : Value}
theorem run_load_cell {a : Addr} {v : Value} (h : w.cell? a = some v) : (load a).run P w = .ok v w := by
  simp [load, Sem.run, h]
theorem LD.one (T : TI P t sz by_ z false) {ad : Addr} {v : Value} (h : w.cell? ad = some v) : LD P w t ad v := by
  obtain ⟨d, hd, ha⟩ := T.und
  unfold LD
  simp only [loadVar, isAgg]
  cases d <;> simp_all [underlying, load, Sem.run]
theorem run_loadCellsFrom (ad : Addr) (cs : List Value) : ∀ (m i : Nat) (acc : Array Value), (∀ j, j < m → w.cell? (ad.add (i + j)) = cs[j]?) → cs.length = m →
    (loadCellsFrom ad i m acc).run P w = .ok (acc ++ cs.toArray) w := by
  induction cs with
  | nil => intro m i acc _ hl; simp at hl; subst hl; simp [loadCellsFrom]
  | cons c cs ih =>
    intro m i acc h hl
    cases m with
    | zero => simp at hl
    | succ m =>
      have h0 := h 0 (by omega)
      simp only [Nat.add_zero, List.getElem?_cons_zero] at h0
      simp only [loadCellsFrom, Sem.run_bind, run_load_cell h0, Result.andThen]
      rw [ih m (i + 1) (acc.push c) (fun j hj => by have := h (j + 1) (by omega); rw [show i + 1 + j = i + (j + 1) by omega, this]; simp) (by simpa using hl)]
      simp
theorem LD.agg (T : TI P t sz by_ z true) {ad : Addr} {cs : List Value} (h : ∀ j, j < sz → w.cell? (ad.add j) = cs[j]?) (hl : cs.length = sz) : LD P w t ad (.agg cs.toArray) := by
  obtain ⟨d, hd, ha⟩ := T.und
  obtain ⟨i, hi, hs, _⟩ := T.info
  unfold LD
  have hr := run_loadCellsFrom (P := P) (w := w) ad cs sz 0 #[] (fun j hj => by rw [Nat.zero_add]; exact h j hj) hl
  simp only [loadVar, isAgg]
  cases d <;> simp_all [underlying, sizeOf, typeInfo, loadCells]
theorem LD.blk1 (T : TI P t sz by_ z false) {g o : Nat} {cs : List Value} {t' : TypeId} (hb : Blk w g cs t') {v : Value} (h : cs[o]? = some v) : LD P w t ⟨g, o, none⟩ v :=
  LD.one T ((hb.cell o).trans h)
theorem LD.blk (T : TI P t sz by_ z true) {g o : Nat} {cs : List Value} {t' : TypeId} (hb : Blk w g cs t') {l : List Value} (h : (cs.drop o).take sz = l) (hl : l.length = sz) : LD P w t ⟨g, o, none⟩ (.agg l.toArray) :=
  LD.agg T (fun j hj => by rw [add_plain, hb.cell, ← h, List.getElem?_take_of_lt hj, List.getElem?_drop]) hl
end

/-! ### 3. Operations on memory -/
section
variable {P : Program} {n : NF} {ops : Array Oper} {K : (Nat → Value) → World → Prop} {σ : Nat → Value} {w : World} {i : Nat} {rest : List Nat}
variable {d : Nat} {t : TypeId} {p : String} {af : Array Edge} {gd : Option (Nat × Bool)} {x y : Operand}

theorem alloc_below (w : World) (o : Obj) : Below w.heap.size w (w.alloc o) := (Below.refl _ w).alloc (Nat.le_refl _) o
theorem alloc_blk (w : World) (cs : List Value) (T : TypeId) : Blk (w.alloc (.cells cs.toArray T)) w.heap.size cs T := ⟨heap_alloc_new w _⟩

theorem S_box {T : TypeId} (ho : ops[i]? = some { dst := some d, op := .box T x, type := t, pos := p, after := af, guard := gd }) (hw : wg n ops σ gd = true) (hx : tok n x = true)
    {v : Value} (hv : sv σ x = v) {cs : List Value} (hc : v.cells.toList = cs)
    (h : ∀ g w1, g = w.heap.size → w1.heap.size = g + 1 → Below w.heap.size w w1 → Blk w1 g cs T → OPS P n ops K rest (upd σ d (.pointer (some ⟨g, 0, none⟩))) w1) : OPS P n ops K (i :: rest) σ w := by
  have hcs : v.cells = cs.toArray := by rw [← hc]
  refine OPS.step (w' := w.alloc (.cells cs.toArray T)) ho hw rfl ?_ (h _ _ rfl (by simp) (alloc_below _ _) (alloc_blk _ _ _))
  simp [execOp, eval_act hx, hv, Instr.box, newVar, newRow, newObj, Sem.run, hcs]
theorem S_alloc {T : TypeId} {sz by_ : Nat} {z : Value} {ag : Bool} (hT : TI P T sz by_ z ag)
    (ho : ops[i]? = some { dst := some d, op := .alloc T, type := t, pos := p, after := af, guard := gd }) (hw : wg n ops σ gd = true)
    {cs : List Value} (hc : z.cells.toList = cs)
    (h : ∀ g w1, g = w.heap.size → w1.heap.size = g + 1 → Below w.heap.size w w1 → Blk w1 g cs T → OPS P n ops K rest (upd σ d (.pointer (some ⟨g, 0, none⟩))) w1) : OPS P n ops K (i :: rest) σ w := by
  have hcs : z.cells = cs.toArray := by rw [← hc]
  obtain ⟨i0, hi, _, _, hz⟩ := hT.info
  refine OPS.step (w' := w.alloc (.cells cs.toArray T)) ho hw rfl ?_ (h _ _ rfl (by simp) (alloc_below _ _) (alloc_blk _ _ _))
  simp [execOp, Instr.alloc, zeroValue, typeInfo, hi, hz, newVar, newRow, newObj, Sem.run, hcs]
theorem S_load {T : TypeId} (ho : ops[i]? = some { dst := some d, op := .load T x, type := t, pos := p, after := af, guard := gd }) (hw : wg n ops σ gd = true) (hx : tok n x = true)
    {ad : Addr} (ha : sv σ x = .pointer (some ad)) {v : Value} (hl : LD P w T ad v) (h : OPS P n ops K rest (upd σ d v) w) : OPS P n ops K (i :: rest) σ w := by
  refine OPS.step ho hw rfl ?_ h
  unfold LD at hl
  simp [execOp, eval_act hx, ha, Instr.loadAt, Instr.sureAddr, hl]
theorem S_nil (ho : ops[i]? = some { dst := some d, op := .nilCheck x, type := t, pos := p, after := af, guard := gd }) (hw : wg n ops σ gd = true) (hx : tok n x = true)
    {ad : Addr} (ha : sv σ x = .pointer (some ad)) (h : OPS P n ops K rest (upd σ d (.pointer (some ad))) w) : OPS P n ops K (i :: rest) σ w :=
  OPS.step ho hw rfl (by simp [execOp, eval_act hx, ha]) h

theorem setRow_upd {w : World} {g : Nat} {cs : List Value} {T : TypeId} (hb : Blk w g cs T) (cs' : List Value) : Upd g w (w.setRow g cs'.toArray) ∧ Blk (w.setRow g cs'.toArray) g cs' T :=
  ⟨⟨rfl, rfl, rfl, by simp [World.setRow], fun k hk => by simp [World.setRow, Array.getElem?_modify, Ne.symm hk]⟩, ⟨setRow_heap w g cs.toArray _ T _ hb.at_⟩⟩
def putAt (cs : List Value) (o : Nat) (vs : List Value) : List Value := cs.take o ++ vs ++ cs.drop (o + vs.length)
theorem run_storeVar {T : TypeId} {sz by_ : Nat} {z : Value} {ag : Bool} (hT : TI P T sz by_ z ag) {g o : Nat} {cs vs : List Value} {t' : TypeId} (hb : Blk w g cs t') {v : Value}
    (hvs : v.cells.toList = vs) (hn : vs.length = sz) (h1 : ∀ u ∈ vs, u.oneCell' = true) (hfit : o + vs.length ≤ cs.length) :
    (storeVar T ⟨g, o, none⟩ v).run P w = .ok () (w.setRow g (putAt cs o vs).toArray) := by
  obtain ⟨i0, hi, hsz, _⟩ := hT.info
  have hv : v.cells.size = vs.length := by rw [← hvs]; simp
  have hst := run_storeCells_at P g o t' vs 0 cs.toArray w hb.at_ (by simpa using hfit) h1
  simp only [Nat.add_zero] at hst
  simp only [storeVar, sizeOf, typeInfo]
  simp [hi, hsz, hv, hn, hvs]
  simpa [putAt] using hst
theorem S_store {T : TypeId} {sz by_ : Nat} {z : Value} {ag : Bool} (hT : TI P T sz by_ z ag)
    (ho : ops[i]? = some { dst := none, op := .store T x y, type := t, pos := p, after := af, guard := gd }) (hw : wg n ops σ gd = true) (hx : tok n x = true) (hy : tok n y = true)
    {g o : Nat} (ha : sv σ x = .pointer (some ⟨g, o, none⟩)) {v : Value} (hv : sv σ y = v) {vs : List Value} (hvs : v.cells.toList = vs) (hn : vs.length = sz) (h1 : ∀ u ∈ vs, u.oneCell' = true)
    {cs : List Value} {t' : TypeId} (hb : Blk w g cs t') (hfit : o + vs.length ≤ cs.length) {cs' : List Value} (hcs : putAt cs o vs = cs')
    (h : ∀ w1, Upd g w w1 → Blk w1 g cs' t' → OPS P n ops K rest σ w1) : OPS P n ops K (i :: rest) σ w := by
  subst hcs
  obtain ⟨h2, h3⟩ := setRow_upd hb (putAt cs o vs)
  refine OPS.step0 ho hw rfl ?_ (h _ h2 h3)
  have := run_storeVar (P := P) hT hb hvs hn h1 hfit
  simp [execOp, eval_act hx, eval_act hy, ha, hv, Instr.storeAt, Instr.sureAddr, this]

structure FieldT (P : Program) (s : TypeId) (j : Nat) (off : Nat) : Prop where
  mk' :: (out : ∃ fs f i, P.underlying s = some (.struct fs) ∧ fs[j]? = some f ∧ f.offset = off ∧ P.info? f.type = some i ∧ i.size ≠ 0)
theorem FieldT.mk {s : TypeId} {j off : Nat}
    (h : (match P.underlying s with | some (.struct fs) => (match fs[j]? with | some f => decide (f.offset = off) && (match P.info? f.type with | some i => i.size != 0 | none => false) | none => false) | _ => false) = true) : FieldT P s j off := by
  revert h
  cases h1 : P.underlying s with
  | none => simp
  | some d =>
    cases d <;> simp
    rename_i fs
    cases h2 : fs[j]? with
    | none => simp
    | some f =>
      simp
      intro h3
      cases h4 : P.info? f.type with
      | none => simp
      | some i => simp; intro h5; exact ⟨⟨fs, f, i, h1, h2, h3, h4, h5⟩⟩
theorem S_field {s : TypeId} {j off : Nat} (hT : FieldT P s j off) (ho : ops[i]? = some { dst := some d, op := .fieldAddr s x j, type := t, pos := p, after := af, guard := gd }) (hw : wg n ops σ gd = true) (hx : tok n x = true)
    {g o : Nat} (ha : sv σ x = .pointer (some ⟨g, o, none⟩)) {o' : Nat} (ho' : o + off = o') (h : OPS P n ops K rest (upd σ d (.pointer (some ⟨g, o', none⟩))) w) : OPS P n ops K (i :: rest) σ w := by
  obtain ⟨fs, f, i0, h1, h2, h3, h4, h5⟩ := hT.out
  subst ho'
  refine OPS.step ho hw rfl ?_ h
  simp [execOp, eval_act hx, ha, Instr.fieldAt, underlying, h1, h2, Instr.sureAddr, fieldPlace, sizeOf, typeInfo, h4, h5, h3, add_plain]

/-! ### 4. Slices -/
def SlLen (v : Value) (m : Nat) : Prop := ∃ A c, v = .slice A m c
/-- v has m elements, each sz cells; the j-th begins at ad. -/
def SlAt (v : Value) (m sz j : Nat) (ad : Addr) : Prop := ∃ ad0 c, v = .slice (some ad0) m c ∧ j < m ∧ ad = ad0.add (j * sz)
theorem S_len {T : TypeId} {e : TypeId} (hT : P.underlying T = some (.slice e)) (ho : ops[i]? = some { dst := some d, op := .call { callee := .builtin .len, args := #[x], argTypes := #[T] }, type := t, pos := p, after := af, guard := gd })
    (hw : wg n ops σ gd = true) (hx : tok n x = true) {v : Value} (hv : sv σ x = v) {m : Nat} (hl : SlLen v m) (h : OPS P n ops K rest (upd σ d (.int .i64 m)) w) : OPS P n ops K (i :: rest) σ w := by
  obtain ⟨A, c, rfl⟩ := hl
  refine OPS.step ho hw rfl ?_ h
  simp [execOp, resolve, invoke, builtin, Builtin.len_, eval_act hx, hv, underlying, hT, goInt]
theorem S_cap {T : TypeId} {e : TypeId} (hT : P.underlying T = some (.slice e)) (ho : ops[i]? = some { dst := some d, op := .call { callee := .builtin .cap, args := #[x], argTypes := #[T] }, type := t, pos := p, after := af, guard := gd })
    (hw : wg n ops σ gd = true) (hx : tok n x = true) {A : Option Addr} {m c : Nat} (hv : sv σ x = .slice A m c) (h : OPS P n ops K rest (upd σ d (.int .i64 c)) w) : OPS P n ops K (i :: rest) σ w := by
  refine OPS.step ho hw rfl ?_ h
  simp [execOp, resolve, invoke, builtin, Builtin.cap_, eval_act hx, hv, underlying, hT, goInt]
theorem S_idx {T e : TypeId} {sz by_ : Nat} {z : Value} {ag : Bool} (hT : P.underlying T = some (.slice e)) (he : TI P e sz by_ z ag)
    (ho : ops[i]? = some { dst := some d, op := .indexAddr T x y, type := t, pos := p, after := af, guard := gd }) (hw : wg n ops σ gd = true) (hx : tok n x = true) (hy : tok n y = true)
    {v : Value} (hv : sv σ x = v) {k : IntKind} {iz : Int} (hi : sv σ y = .int k iz) {m j : Nat} {ad : Addr} (hp : SlAt v m sz j ad) (hj : iz = (j : Int))
    (h : OPS P n ops K rest (upd σ d (.pointer (some ad))) w) : OPS P n ops K (i :: rest) σ w := by
  obtain ⟨ad0, c, rfl, hlt, rfl⟩ := hp
  obtain ⟨i0, hi0, hs, _⟩ := he.info
  subst hj
  refine OPS.step ho hw rfl ?_ h
  simp [execOp, eval_act hx, eval_act hy, hv, hi, Instr.indexAt, asIntOf, underlying, hT, hlt, sizeOf, typeInfo, hi0, hs]

theorem SlAt.own1 {g m c j : Nat} (hj : j < m) : SlAt (.slice (some ⟨g, 0, none⟩) m c) m 1 j ⟨g, j, none⟩ := ⟨⟨g, 0, none⟩, c, rfl, hj, by rw [add_plain]; simp⟩
theorem S_add64 {T T' : TypeId} (ho : ops[i]? = some { dst := some d, op := .binOp .add T x y T', type := t, pos := p, after := af, guard := gd }) (hw : wg n ops σ gd = true)
    (hx : tok n x = true) (hy : tok n y = true) {a b : Int} (ha : sv σ x = .int .i64 a) (hb : sv σ y = .int .i64 b)
    (hr : -9223372036854775808 ≤ a + b ∧ a + b ≤ 9223372036854775807) (h : OPS P n ops K rest (upd σ d (.int .i64 (a + b))) w) : OPS P n ops K (i :: rest) σ w :=
  S_bin ho hw hx hy rfl ha hb (by simp only [binV]; congr 1; simp [IntKind.wrap, IntKind.bits, IntKind.signed]; omega) h
theorem S_sub64 {T T' : TypeId} (ho : ops[i]? = some { dst := some d, op := .binOp .sub T x y T', type := t, pos := p, after := af, guard := gd }) (hw : wg n ops σ gd = true)
    (hx : tok n x = true) (hy : tok n y = true) {a b : Int} (ha : sv σ x = .int .i64 a) (hb : sv σ y = .int .i64 b)
    (hr : -9223372036854775808 ≤ a - b ∧ a - b ≤ 9223372036854775807) (h : OPS P n ops K rest (upd σ d (.int .i64 (a - b))) w) : OPS P n ops K (i :: rest) σ w :=
  S_bin ho hw hx hy rfl ha hb (by simp only [binV]; congr 1; simp [IntKind.wrap, IntKind.bits, IntKind.signed]; omega) h
theorem S_mul64 {T T' : TypeId} (ho : ops[i]? = some { dst := some d, op := .binOp .mul T x y T', type := t, pos := p, after := af, guard := gd }) (hw : wg n ops σ gd = true)
    (hx : tok n x = true) (hy : tok n y = true) {a b : Int} (ha : sv σ x = .int .i64 a) (hb : sv σ y = .int .i64 b)
    (hr : -9223372036854775808 ≤ a * b ∧ a * b ≤ 9223372036854775807) (h : OPS P n ops K rest (upd σ d (.int .i64 (a * b))) w) : OPS P n ops K (i :: rest) σ w :=
  S_bin ho hw hx hy rfl ha hb (by simp only [binV]; congr 1; simp [IntKind.wrap, IntKind.bits, IntKind.signed]; omega) h
theorem args1 {a v : Value} (h : a = v) : [a] = [v] := by rw [h]
theorem args2 {a b v u : Value} (h : a = v) (h2 : b = u) : [a, b] = [v, u] := by rw [h, h2]
theorem args3 {a b c v u s : Value} (h : a = v) (h2 : b = u) (h3 : c = s) : [a, b, c] = [v, u, s] := by rw [h, h2, h3]
theorem args4 {a b c e v u s q : Value} (h : a = v) (h2 : b = u) (h3 : c = s) (h4 : e = q) : [a, b, c, e] = [v, u, s, q] := by rw [h, h2, h3, h4]

/-! ### 5. Numbers of another kind; tuples; calls -/
theorem S_conv {Sr T : TypeId} {k k' : IntKind} {dS : TypeDesc} (hSr : P.underlying Sr = some dS) (hT : P.underlying T = some (.int k')) (ho : ops[i]? = some { dst := some d, op := .convert Sr T x, type := t, pos := p, after := af, guard := gd })
    (hw : wg n ops σ gd = true) (hx : tok n x = true) {a : Int} (hv : sv σ x = .int k a) {b : Int} (hb : k'.wrap a = b) (h : OPS P n ops K rest (upd σ d (.int k' b)) w) : OPS P n ops K (i :: rest) σ w := by
  subst hb
  refine OPS.step ho hw rfl ?_ h
  simp only [execOp, eval_act hx, hv, convert]
  cases dS <;> simp [underlying, hSr, hT, Conv.intToInt]
theorem S_extract {j : Nat} (ho : ops[i]? = some { dst := some d, op := .extract x j, type := t, pos := p, after := af, guard := gd })
    (hw : wg n ops σ gd = true) (hx : tok n x = true) {vs : Array Value} (hv : sv σ x = .tuple vs) {v : Value} (hj : vs[j]? = some v) (h : OPS P n ops K rest (upd σ d v) w) : OPS P n ops K (i :: rest) σ w :=
  OPS.step ho hw rfl (by simp [execOp, eval_act hx, hv, Instr.extract, hj]) h

/-- A function that is entered where it is called. -/
def En (P : Program) (f : FuncId) : Prop := ∃ fn, P.funcs[f]? = some fn ∧ (fn.name == "runtime.NumGoroutine") = false ∧ fn.body.isNone = false
/-- The call comes back with a value. -/
def Ret (P : Program) (f : FuncId) (args : List Value) (w : World) (R : Value → World → Prop) : Prop :=
  Calls P f args.toArray w fun e w' => ∃ v, e = .returned v ∧ R v w'
theorem Ret.mono {f : FuncId} {args : List Value} {R R' : Value → World → Prop} (h : Ret P f args w R) (hr : ∀ v w', R v w' → R' v w') : Ret P f args w R' :=
  Calls.mono h fun e w' ⟨v, he, hv⟩ => ⟨v, he, hr v w' hv⟩
theorem run_call {f : FuncId} (hf : En P f) (vs : Array Value) : (callFunc f vs).run P w = .ok (.enter f vs) w := by
  obtain ⟨fn, h1, h2, h3⟩ := hf
  have h2' : ¬ fn.name = "runtime.NumGoroutine" := by simpa using h2
  have h3' : ¬ fn.body = none := fun hb => by simp [hb] at h3
  simp [callFunc, program, Sem.run, h1, h2', h3']
theorem args_eval {ars : Array Operand} (hx : ars.toList.all (tok n) = true) : ars.map (act n σ).eval = (ars.toList.map (sv σ)).toArray := by
  apply Array.ext'
  simp only [Array.toList_map]
  refine List.map_congr_left fun x hxm => eval_act (List.all_eq_true.1 hx x hxm)
theorem S_call {f : FuncId} {ars : Array Operand} {ats : Array TypeId} (hf : En P f)
    (ho : ops[i]? = some { dst := some d, op := .call { callee := .value (.func f), args := ars, argTypes := ats }, type := t, pos := p, after := af, guard := gd })
    (hw : wg n ops σ gd = true) (hx : ars.toList.all (tok n) = true) {vs : List Value} (hvs : ars.toList.map (sv σ) = vs) {R : Value → World → Prop} (hc : Ret P f vs w R)
    (h : ∀ v w', R v w' → OPS P n ops K rest (upd σ d v) w') : OPS P n ops K (i :: rest) σ w := by
  have hr : (execOp (act n σ).eval { dst := some d, op := .call { callee := .value (.func f), args := ars, argTypes := ats }, type := t, pos := p, after := af, guard := gd }).run P w = .ok (.enter f vs.toArray) w := by
    have := run_call (w := w) hf vs.toArray
    simp [execOp, resolve, args_eval hx, hvs, Act.eval, Deferred.ofValue, invoke, this]
  unfold OPS at *
  intro m
  simp only [wpOpsIn, ho, wanted_wg, hw, if_true]
  refine ⟨fun f _ => trivial, ?_⟩
  rw [show Fence.wide.round = none from rfl, Oper.semAt_none, hr, Oper.uponIn_enter]
  refine ⟨fun h => by simp [Fence.wide] at h, CallsIn.mono (callsIn_wide.2 hc) ?_⟩
  rintro e w' ⟨v, rfl, hv⟩
  simp only [put_act]
  exact h v w' hv m
theorem S_call0 {f : FuncId} {ars : Array Operand} {ats : Array TypeId} (hf : En P f)
    (ho : ops[i]? = some { dst := none, op := .call { callee := .value (.func f), args := ars, argTypes := ats }, type := t, pos := p, after := af, guard := gd })
    (hw : wg n ops σ gd = true) (hx : ars.toList.all (tok n) = true) {vs : List Value} (hvs : ars.toList.map (sv σ) = vs) {R : Value → World → Prop} (hc : Ret P f vs w R)
    (h : ∀ v w', R v w' → OPS P n ops K rest σ w') : OPS P n ops K (i :: rest) σ w := by
  have hr : (execOp (act n σ).eval { dst := none, op := .call { callee := .value (.func f), args := ars, argTypes := ats }, type := t, pos := p, after := af, guard := gd }).run P w = .ok (.enter f vs.toArray) w := by
    have := run_call (w := w) hf vs.toArray
    simp [execOp, resolve, args_eval hx, hvs, Act.eval, Deferred.ofValue, invoke, this]
  unfold OPS at *
  intro m
  simp only [wpOpsIn, ho, wanted_wg, hw, if_true]
  refine ⟨fun f _ => trivial, ?_⟩
  rw [show Fence.wide.round = none from rfl, Oper.semAt_none, hr, Oper.uponIn_enter]
  refine ⟨fun h => by simp [Fence.wide] at h, CallsIn.mono (callsIn_wide.2 hc) ?_⟩
  rintro e w' ⟨v, rfl, hv⟩
  simp only [put_act_none]
  exact h v w' hv m
/-- A call of a function value that stands in a slot. -/
theorem S_callv {f : FuncId} {lb : Array Value} {ars : Array Operand} {ats : Array TypeId} (hf : En P f)
    (ho : ops[i]? = some { dst := some d, op := .call { callee := .value x, args := ars, argTypes := ats }, type := t, pos := p, after := af, guard := gd })
    (hw : wg n ops σ gd = true) (hx0 : tok n x = true) (hx : ars.toList.all (tok n) = true) (hv : sv σ x = .func (.func f) #[] lb) {vs : List Value} (hvs : ars.toList.map (sv σ) ++ lb.toList = vs) {R : Value → World → Prop} (hc : Ret P f vs w R)
    (h : ∀ v w', R v w' → OPS P n ops K rest (upd σ d v) w') : OPS P n ops K (i :: rest) σ w := by
  have hr : (execOp (act n σ).eval { dst := some d, op := .call { callee := .value x, args := ars, argTypes := ats }, type := t, pos := p, after := af, guard := gd }).run P w = .ok (.enter f vs.toArray) w := by
    have := run_call (P := P) (w := w) hf (ars.toList.map (sv σ) ++ lb.toList).toArray
    subst hvs
    have e : (ars.toList.map (sv σ)).toArray ++ lb = (ars.toList.map (sv σ) ++ lb.toList).toArray := by simp
    rw [← e] at this ⊢
    simp [execOp, resolve, args_eval hx, eval_act hx0, hv, Deferred.ofValue, invoke, this]
  unfold OPS at *
  intro m
  simp only [wpOpsIn, ho, wanted_wg, hw, if_true]
  refine ⟨fun f _ => trivial, ?_⟩
  rw [show Fence.wide.round = none from rfl, Oper.semAt_none, hr, Oper.uponIn_enter]
  refine ⟨fun h => by simp [Fence.wide] at h, CallsIn.mono (callsIn_wide.2 hc) ?_⟩
  rintro e w' ⟨v, rfl, hv⟩
  simp only [put_act]
  exact h v w' hv m
end
end Go.Proofs.YtccmicegihlfbaaGreatDoor

/- The walk by single steps: code, loops, functions; slices that are cut, made, appended to; structs that are built. -/
namespace Go.Proofs.YtccmicegihlfbaaGreatDoor
open Go.RowKit

/-! ### 1. Code -/
abbrev SPost := Exit → (Nat → Value) → World → Prop
def WP (P : Program) (n : NF) (c : Code) (Q : SPost) (σ : Nat → Value) (w : World) : Prop :=
  c.wp P (fun e a w => ∃ σ', a = act n σ' ∧ Q e σ' w) (act n σ) w
def thenK (K : (Nat → Value) → World → Prop) (Q : SPost) : SPost
  | .normal, σ, w => K σ w
  | e, σ, w => Q e σ w
def blockQ (id : Nat) (Q : SPost) : SPost
  | .exit j, σ, w => if j = id then Q .normal σ w else Q (.exit j) σ w
  | e, σ, w => Q e σ w
section
variable {P : Program} {n : NF} {Q : SPost} {σ : Nat → Value} {w : World}
theorem W_seq {x y : Code} (h : WP P n x (thenK (fun σ w => WP P n y Q σ w) Q) σ w) : WP P n (.seq x y) Q σ w := by
  refine wp_seq (wp_mono h ?_)
  rintro e a w' ⟨σ', rfl, hq⟩
  cases e with
  | normal => exact hq
  | _ => exact ⟨σ', rfl, hq⟩
theorem W_skip (h : Q .normal σ w) : WP P n .skip Q σ w := wp_skip ⟨σ, rfl, h⟩
theorem W_label {l : Nat} (h : Q .normal σ w) : WP P n (.label l) Q σ w := wp_label ⟨σ, rfl, h⟩
theorem W_exit {id : Nat} (h : Q (.exit id) σ w) : WP P n (.exit id) Q σ w := wp_exit ⟨σ, rfl, h⟩
theorem W_ret (h : Q .ret σ w) : WP P n .ret Q σ w := wp_ret ⟨σ, rfl, h⟩
theorem W_cond {c : Operand} {x y : Code} (ht : tok n c = true) {b : Bool} (hc : sv σ c = .bool b) (h1 : b = true → WP P n x Q σ w) (h2 : b = false → WP P n y Q σ w) : WP P n (.cond c x y) Q σ w :=
  wp_cond_split (t := b) (by rw [eval_act ht, hc]) h1 h2
theorem W_block {id : Nat} {c : Code} (h : WP P n c (blockQ id Q) σ w) : WP P n (.block id c) Q σ w := by
  refine wp_block (wp_mono h ?_)
  rintro e a w' ⟨σ', rfl, hq⟩
  cases e with
  | exit j =>
    simp only [blockQ] at hq
    simp only [Exit.inBlock]
    split
    · rename_i h; rw [if_pos h] at hq; exact ⟨σ', rfl, hq⟩
    · rename_i h; rw [if_neg h] at hq; exact ⟨σ', rfl, hq⟩
  | _ => exact ⟨σ', rfl, hq⟩
theorem W_loop {c : Code} (I : Nat → (Nat → Value) → World → Prop) (k₀ : Nat) (h₀ : I k₀ σ w)
    (round : ∀ k σ w, I k σ w → WP P n c (thenK (fun σ w => ∃ k', k' < k ∧ I k' σ w) Q) σ w) : WP P n (.loop c) Q σ w := by
  refine wp_loop_ghost (fun k a w => ∃ σ, a = act n σ ∧ I k σ w) k₀ ⟨σ, rfl, h₀⟩ ?_
  rintro k a w ⟨σ, rfl, hI⟩
  refine wp_mono (round k σ w hI) ?_
  rintro e a w' ⟨σ', rfl, hq⟩
  cases e with
  | normal => obtain ⟨k', h1, h2⟩ := hq; exact ⟨k', h1, σ', rfl, h2⟩
  | _ => exact ⟨σ', rfl, hq⟩
theorem W_region {id : Nat} {ops : Array Oper} {l : List Nat} (hl : List.range ops.size = l) (h : OPS P n ops (fun σ w => Q .normal σ w) l σ w) : WP P n (.region id ops false) Q σ w := by
  subst hl
  unfold OPS at h
  refine wp_mono (wpIn_wide.1 (wpIn_region (h 0))) ?_
  rintro e a w' ⟨rfl, σ', rfl, hq⟩
  exact ⟨σ', rfl, hq⟩

/-- Where a function ends. -/
def Fin' (P : Program) (n : NF) (fn : Func) (R : Value → World → Prop) (σ : Nat → Value) (w : World) : Prop := ∃ v, (results fn (act n σ).tmps).run P w = .ok v w ∧ R v w
def bodyQ (P : Program) (n : NF) (fn : Func) (R : Value → World → Prop) : SPost
  | .normal, σ, w | .ret, σ, w => Fin' P n fn R σ w
  | _, _, _ => False
theorem act_init (n : Nat) (vs : List Value) (h : vs.length ≤ n) : ({ tmps := vs.toArray ++ Array.replicate (n - vs.toArray.size) undef, defers := [] } : Act) = act ⟨n, []⟩ (initS vs) := by
  simp only [act]
  congr 1
  apply Array.ext'
  simp
  apply List.ext_getElem
  · simp; omega
  · intro i h1 h2
    simp at h1 h2
    by_cases hi : i < vs.length
    · simp [List.getElem_append_left hi, initS, hi]
    · rw [List.getElem_append_right (by omega)]; simp [initS, hi]
theorem Ret_of {n : Nat} {f : FuncId} {fn : Func} {c : Code} {vs : List Value} {R : Value → World → Prop} (hf : P.funcs[f]? = some fn) (hb : fn.body = some c) (hn : fn.ntmps = n) (hl : vs.length ≤ n)
    (h : WP P ⟨n, []⟩ c (bodyQ P ⟨n, []⟩ fn R) (initS vs) w) : Ret P f vs w R := by
  refine calls_of_wp hf hb ?_
  rw [hn, act_init n vs hl]
  refine wp_mono h ?_
  rintro e a w' ⟨σ', rfl, hq⟩
  cases e with
  | normal => obtain ⟨v, h1, h2⟩ := hq; exact ⟨rfl, v, h1, v, rfl, h2⟩
  | ret => obtain ⟨v, h1, h2⟩ := hq; exact ⟨rfl, v, h1, v, rfl, h2⟩
  | _ => exact hq.elim
theorem tmps_getD {t : Nat} (h : t < n.n) : (act n σ).tmps.getD t undef = σ t := by
  rw [Array.getD_eq_getD_getElem?, act_get h]; rfl
theorem End1 {fn : Func} {t : Nat} {R : Value → World → Prop} (hr : fn.results = #[.tmp t]) (ht : t < n.n) {v : Value} (hv : σ t = v) (h : R v w) :
    Fin' P n fn R σ w :=
  ⟨v, by rw [results_tmp hr, tmps_getD ht, hv], h⟩
theorem End0 {fn : Func} {R : Value → World → Prop} (hr : fn.results = #[]) (h : R (.tuple #[]) w) :
    Fin' P n fn R σ w := ⟨_, results_none hr _ _ _, h⟩
theorem End2 {fn : Func} {t u : Nat} {R : Value → World → Prop} (hr : fn.results = #[.tmp t, .tmp u]) (ht : t < n.n) (hu : u < n.n) {v v' : Value} (hv : σ t = v) (hv' : σ u = v') (h : R (.tuple #[v, v']) w) :
    Fin' P n fn R σ w := by
  refine ⟨.tuple #[v, v'], ?_, h⟩
  simp [results, hr]
  rw [← hv, ← hv']
  have h1 := tmps_getD (σ := σ) ht
  have h2 := tmps_getD (σ := σ) hu
  simp at h1 h2
  rw [h1, h2]
  exact ⟨rfl, rfl⟩
theorem End3 {fn : Func} {t u s : Nat} {R : Value → World → Prop} (hr : fn.results = #[.tmp t, .tmp u, .tmp s]) (ht : t < n.n) (hu : u < n.n) (hs : s < n.n) {v v' v'' : Value} (hv : σ t = v) (hv' : σ u = v') (hv'' : σ s = v'') (h : R (.tuple #[v, v', v'']) w) :
    Fin' P n fn R σ w := by
  refine ⟨.tuple #[v, v', v''], ?_, h⟩
  rw [results_tmp3 hr, tmps_getD ht, tmps_getD hu, tmps_getD hs, hv, hv', hv'']
/-- The result lies in memory. -/
theorem EndC {fn : Func} {t : Nat} {T : TypeId} {R : Value → World → Prop} (hr : fn.results = #[.cell t T]) (ht : t < n.n) {ad : Addr} (hv : σ t = .pointer (some ad)) {v : Value} (hl : LD P w T ad v) (h : R v w) :
    Fin' P n fn R σ w := by
  refine ⟨v, ?_, h⟩
  have h1 := tmps_getD (σ := σ) ht
  unfold LD at hl
  simp at h1
  simp [results, hr, h1, hv, asAddr, hl]
theorem EndC1 {fn : Func} {t u : Nat} {T : TypeId} {R : Value → World → Prop} (hr : fn.results = #[.cell t T, .tmp u]) (ht : t < n.n) (hu : u < n.n) {ad : Addr} (hv : σ t = .pointer (some ad)) {v v' : Value} (hl : LD P w T ad v) (hv' : σ u = v') (h : R (.tuple #[v, v']) w) :
    Fin' P n fn R σ w := by
  refine ⟨.tuple #[v, v'], ?_, h⟩
  have h1 := tmps_getD (σ := σ) ht
  have h2 := tmps_getD (σ := σ) hu
  unfold LD at hl
  simp at h1 h2
  simp [results, hr, h1, h2, hv, asAddr, hl, hv']
end

attribute [irreducible] WP Fin'

/-! ### 2. Slices that are cut, made; structs -/
section
variable {P : Program} {n : NF} {ops : Array Oper} {K : (Nat → Value) → World → Prop} {σ : Nat → Value} {w : World} {i : Nat} {rest : List Nat}
variable {d : Nat} {t : TypeId} {p : String} {af : Array Edge} {gd : Option (Nat × Bool)} {x y : Operand}
theorem run_sliceBound {k : IntKind} {a : Nat} {m : Nat} (c : BoundsCode) (h : a ≤ m) : (Instr.sliceBound (.int k (a : Int)) m c).run P w = .ok a w := by
  simp [Instr.sliceBound, asIntOf, h]
/-- x[:hi] -/
theorem S_sliceHi {T e : TypeId} {sz by_ : Nat} {z : Value} {ag : Bool} (hT : P.underlying T = some (.slice e)) (he : TI P e sz by_ z ag)
    (ho : ops[i]? = some { dst := some d, op := .slice T x none (some y) none, type := t, pos := p, after := af, guard := gd }) (hw : wg n ops σ gd = true) (hx : tok n x = true) (hy : tok n y = true)
    {A : Option Addr} {m c : Nat} (hv : sv σ x = .slice A m c) {k : IntKind} {iz : Int} (hi : sv σ y = .int k iz) {j : Nat} (hj : iz = (j : Int)) (hjc : j ≤ c)
    (h : OPS P n ops K rest (upd σ d (.slice A j c)) w) : OPS P n ops K (i :: rest) σ w := by
  obtain ⟨i0, hi0, hs, _⟩ := he.info
  subst hj
  refine OPS.step ho hw rfl ?_ h
  simp [execOp, eval_act hx, eval_act hy, hv, hi, Instr.sliceAt, Instr.slice, Instr.sliceBounds, run_sliceBound _ hjc, underlying, hT, sizeOf, typeInfo, hi0, hs]
  intro _
  cases A <;> simp [Addr.add]
/-- x[:hi:mx] -/
theorem S_sliceHiMx {T e : TypeId} {sz by_ : Nat} {z : Value} {ag : Bool} {u : Operand} (hT : P.underlying T = some (.slice e)) (he : TI P e sz by_ z ag)
    (ho : ops[i]? = some { dst := some d, op := .slice T x none (some y) (some u), type := t, pos := p, after := af, guard := gd }) (hw : wg n ops σ gd = true) (hx : tok n x = true) (hy : tok n y = true) (hu : tok n u = true)
    {A : Option Addr} {m c : Nat} (hv : sv σ x = .slice A m c) {k k' : IntKind} {iz mz : Int} (hi : sv σ y = .int k iz) (hm : sv σ u = .int k' mz) {j q : Nat} (hj : iz = (j : Int)) (hq : mz = (q : Int)) (hjq : j ≤ q) (hqc : q ≤ c)
    (h : OPS P n ops K rest (upd σ d (.slice A j q)) w) : OPS P n ops K (i :: rest) σ w := by
  obtain ⟨i0, hi0, hs, _⟩ := he.info
  subst hj
  subst hq
  refine OPS.step ho hw rfl ?_ h
  simp [execOp, eval_act hx, eval_act hy, eval_act hu, hv, hi, hm, Instr.sliceAt, Instr.slice, Instr.sliceBounds, run_sliceBound _ hjq, run_sliceBound _ hqc, underlying, hT, sizeOf, typeInfo, hi0, hs]
  intro _
  cases A <;> simp [Addr.add]
/-- x[lo:hi] -/
theorem S_sliceLoHi {T e : TypeId} {sz by_ : Nat} {z : Value} {ag : Bool} {u : Operand} (hT : P.underlying T = some (.slice e)) (he : TI P e sz by_ z ag)
    (ho : ops[i]? = some { dst := some d, op := .slice T x (some y) (some u) none, type := t, pos := p, after := af, guard := gd }) (hw : wg n ops σ gd = true) (hx : tok n x = true) (hy : tok n y = true) (hu : tok n u = true)
    {ad : Addr} {m c : Nat} (hv : sv σ x = .slice (some ad) m c) {k k' : IntKind} {lz hz : Int} (hl : sv σ y = .int k lz) (hh : sv σ u = .int k' hz) {l q : Nat} (hj : lz = (l : Int)) (hq : hz = (q : Int)) (hlq : l ≤ q) (hqc : q ≤ c)
    (h : OPS P n ops K rest (upd σ d (.slice (some (if c = l then ad else ad.add (l * sz))) (q - l) (c - l))) w) : OPS P n ops K (i :: rest) σ w := by
  obtain ⟨i0, hi0, hs, _⟩ := he.info
  subst hj
  subst hq
  refine OPS.step ho hw rfl ?_ h
  simp [execOp, eval_act hx, eval_act hy, eval_act hu, hv, hl, hh, Instr.sliceAt, Instr.slice, Instr.sliceBounds, run_sliceBound _ hlq, run_sliceBound _ hqc, underlying, hT, sizeOf, typeInfo, hi0, hs]
  split <;> rfl
/-- x[lo:] -/
theorem S_sliceLo {T e : TypeId} {sz by_ : Nat} {z : Value} {ag : Bool} (hT : P.underlying T = some (.slice e)) (he : TI P e sz by_ z ag)
    (ho : ops[i]? = some { dst := some d, op := .slice T x (some y) none none, type := t, pos := p, after := af, guard := gd }) (hw : wg n ops σ gd = true) (hx : tok n x = true) (hy : tok n y = true)
    {A : Option Addr} {m c : Nat} (hv : sv σ x = .slice A m c) {k : IntKind} {lz : Int} (hl : sv σ y = .int k lz) {l : Nat} (hj : lz = (l : Int)) (hlq : l ≤ m)
    (h : OPS P n ops K rest (upd σ d (.slice (if c = l then A else A.map (·.add (l * sz))) (m - l) (c - l))) w) : OPS P n ops K (i :: rest) σ w := by
  obtain ⟨i0, hi0, hs, _⟩ := he.info
  subst hj
  refine OPS.step ho hw rfl ?_ h
  simp [execOp, eval_act hx, eval_act hy, hv, hl, Instr.sliceAt, Instr.slice, Instr.sliceBounds, run_sliceBound _ hlq, underlying, hT, sizeOf, typeInfo, hi0, hs]

/-- make([]T, n), one cell an element. -/
theorem S_make {T e : TypeId} {by_ : Nat} {z : Value} {ag : Bool} (hT : P.underlying T = some (.slice e)) (he : TI P e 1 by_ z ag) (hz : z.cells = #[z])
    (ho : ops[i]? = some { dst := some d, op := .makeSlice T x x, type := t, pos := p, after := af, guard := gd }) (hw : wg n ops σ gd = true) (hx : tok n x = true)
    {mz : Int} (hm : sv σ x = .int .i64 mz) {m : Nat} (hmz : mz = (m : Int)) (hb : m * by_ ≤ 140737488355328) (hm2 : m ≤ 140737488355328)
    (h : ∀ g w1, g = w.heap.size → w1.heap.size = g + 1 → Below w.heap.size w w1 → Blk w1 g (List.replicate m z) e → OPS P n ops K rest (upd σ d (.slice (some ⟨g, 0, none⟩) m m)) w1) : OPS P n ops K (i :: rest) σ w := by
  obtain ⟨i0, hi0, hs, hby, hzz⟩ := he.info
  subst hmz
  have e1 : (madeCells #[z] m).toList = List.replicate m z := toList_madeCells_one z m
  have hr := run_make_row' (P := P) T e z by_ hT (by rw [hi0]; simp [hs, hby, hzz]) (by rw [hz]) .i64 .i64 m (by rw [Nat.mul_comm]; omega) (by omega) w
  have hb2 : Blk (w.alloc (.cells (madeCells #[z] m) e)) w.heap.size (List.replicate m z) e := by
    have := alloc_blk w (madeCells #[z] m).toList e
    rw [Array.toArray_toList] at this
    rw [← e1]
    exact this
  refine OPS.step (w' := w.alloc (.cells (madeCells #[z] m) e)) ho hw rfl ?_ (h _ _ rfl (by simp) (alloc_below _ _) hb2)
  simp [execOp, eval_act hx, hm, hr]
end
end Go.Proofs.YtccmicegihlfbaaGreatDoor

/- Slices of parts, whole numbers, fractions, lists of them, in the world; what a call makes. -/
namespace Go.Proofs.YtccmicegihlfbaaGreatDoor
open Go.RowKit

/-- A slice of parts reads as l; its memory lies in no block from a on, ahead of b. -/
def RN (a b : Nat) (w : World) (v : Value) (l : List Int) : Prop :=
  U32 l ∧ ∃ A c, v = .slice A l.length c ∧ l.length ≤ c ∧ c ≤ 9223372036854775807 ∧
    ∀ j, j < l.length → ∃ ad, A = some ad ∧ (ad.block < a ∨ b ≤ ad.block) ∧ w.cell? (ad.add j) = some (.int .u32 (l.getD j 0))
section
variable {a b a' b' g : Nat} {w w' : World} {v : Value} {l : List Int}
theorem add_block (ad : Addr) (j : Nat) : (ad.add j).block = ad.block := by unfold Addr.add; split <;> rfl
theorem RN.u32 (h : RN a b w v l) : U32 l := h.1
theorem RN.below (h : RN a b w v l) (hb : Below w.heap.size w w') : RN a b w' v l := by
  obtain ⟨hu, A, c, hv, h1, h2, h3⟩ := h
  refine ⟨hu, A, c, hv, h1, h2, fun j hj => ?_⟩
  obtain ⟨ad, hA, hbl, hc⟩ := h3 j hj
  exact ⟨ad, hA, hbl, (hb.cell (World.block_lt_of_cell? w _ hc)).trans hc⟩
theorem RN.upd (h : RN a b w v l) (hu : Upd g w w') (ha : a ≤ g) (hg : g < b) : RN a b w' v l := by
  obtain ⟨hu', A, c, hv, h1, h2, h3⟩ := h
  refine ⟨hu', A, c, hv, h1, h2, fun j hj => ?_⟩
  obtain ⟨ad, hA, hbl, hc⟩ := h3 j hj
  refine ⟨ad, hA, hbl, ?_⟩
  rw [World.cell?_of_block (hu.block _ (by rw [add_block]; omega)), hc]
theorem RN.weak (h : RN a b w v l) (ha : a ≤ a') (hb : b' ≤ b) : RN a' b' w v l := by
  obtain ⟨hu, A, c, hv, h1, h2, h3⟩ := h
  refine ⟨hu, A, c, hv, h1, h2, fun j hj => ?_⟩
  obtain ⟨ad, hA, hbl, hc⟩ := h3 j hj
  exact ⟨ad, hA, by omega, hc⟩
theorem RN.any (h : RN a b w v l) : RN 0 0 w v l := by
  obtain ⟨hu, A, c, hv, h1, h2, h3⟩ := h
  refine ⟨hu, A, c, hv, h1, h2, fun j hj => ?_⟩
  obtain ⟨ad, hA, hbl, hc⟩ := h3 j hj
  exact ⟨ad, hA, by omega, hc⟩
theorem RN.new (h : RN a b w v l) (hs : w.heap.size ≤ a') : RN a' b' w v l := by
  obtain ⟨hu, A, c, hv, h1, h2, h3⟩ := h
  refine ⟨hu, A, c, hv, h1, h2, fun j hj => ?_⟩
  obtain ⟨ad, hA, hbl, hc⟩ := h3 j hj
  have := World.block_lt_of_cell? w _ hc
  rw [add_block] at this
  exact ⟨ad, hA, by omega, hc⟩
theorem RN.nil (a b : Nat) (w : World) : RN a b w (.slice none 0 0) [] := ⟨U32.nil, none, 0, rfl, Nat.le_refl _, by omega, fun j hj => absurd hj (by simp)⟩
theorem RN.nilA (a b : Nat) (w : World) (A : Option Addr) : RN a b w (.slice A 0 0) [] := ⟨U32.nil, A, 0, rfl, Nat.le_refl _, by omega, fun j hj => absurd hj (by simp)⟩
theorem RN.len (h : RN a b w v l) : SlLen v l.length := by
  obtain ⟨hu, A, c, hv, _⟩ := h
  exact ⟨A, c, hv⟩
theorem RN.at (h : RN a b w v l) (j : Nat) (hj : j < l.length) : ∃ ad, SlAt v l.length 1 j ad ∧ w.cell? ad = some (.int .u32 (l.getD j 0)) := by
  obtain ⟨hu, A, c, hv, h1, h2, h3⟩ := h
  obtain ⟨ad, rfl, hbl, hc⟩ := h3 j hj
  exact ⟨ad.add j, ⟨ad, c, hv, hj, by simp⟩, hc⟩
theorem RN.maxl (h : RN a b w v l) : l.length ≤ 9223372036854775807 := by
  obtain ⟨hu, A, c, hv, h1, h2, h3⟩ := h
  omega
theorem RN.form (h : RN a b w v l) : ∃ A c, v = .slice A l.length c ∧ l.length ≤ c ∧ c ≤ 9223372036854775807 := by
  obtain ⟨hu, A, c, hv, h1, h2, h3⟩ := h
  exact ⟨A, c, hv, h1, h2⟩
theorem RN.fine (h : RN a b w v l) : RN a b w (if okL l then v else .slice none 0 0) (fineL l) := by
  unfold fineL
  split
  · exact h
  · exact RN.nil _ _ _
end
theorem int_eq {k : IntKind} {a b : Int} (h : a = b) : Value.int k a = Value.int k b := by rw [h]
theorem wrap_u64 {x : Int} (h0 : 0 ≤ x) (h1 : x < 18446744073709551616) : IntKind.u64.wrap x = x := by
  simp [IntKind.wrap, IntKind.bits, IntKind.signed]; omega
theorem wrap_u32 {x : Int} (h0 : 0 ≤ x) (h1 : x < 4294967296) : IntKind.u32.wrap x = x := by
  simp [IntKind.wrap, IntKind.bits, IntKind.signed]; omega
theorem wrap_u32' (x : Int) : IntKind.u32.wrap x = x % 4294967296 := by
  simp [IntKind.wrap, IntKind.bits, IntKind.signed]
theorem wrap_u64' (x : Int) : IntKind.u64.wrap x = x % 18446744073709551616 := by
  simp [IntKind.wrap, IntKind.bits, IntKind.signed]

/-- A slice whose whole block is the call's own: it lies from block B on; or it has no room. -/
def Own (B sz : Nat) (e : TypeId) (w : World) (v : Value) : Prop :=
  (∃ A, v = .slice A 0 0) ∨ ∃ g m c cs, v = .slice (some ⟨g, 0, none⟩) m c ∧ B ≤ g ∧ Blk w g cs e ∧ m ≤ c ∧ c * sz ≤ cs.length ∧ c ≤ 9223372036854775807
theorem Own.below {B sz : Nat} {e : TypeId} {w w' : World} {v : Value} (h : Own B sz e w v) (hb : Below w.heap.size w w') : Own B sz e w' v := by
  rcases h with h | ⟨g, m, c, cs, h1, h2, h3, h4⟩
  · exact .inl h
  · exact .inr ⟨g, m, c, cs, h1, h2, h3.below hb, h4⟩
theorem Own.upd {B sz g : Nat} {e : TypeId} {w w' : World} {v : Value} (h : Own B sz e w v) (hu : Upd g w w') (hg : g < B) : Own B sz e w' v := by
  rcases h with h | ⟨g, m, c, cs, h1, h2, h3, h4⟩
  · exact .inl h
  · exact .inr ⟨g, m, c, cs, h1, h2, h3.upd hu (by omega), h4⟩
theorem Own.mono {B B' sz : Nat} {e : TypeId} {w : World} {v : Value} (h : Own B sz e w v) (hB : B' ≤ B) : Own B' sz e w v := by
  rcases h with h | ⟨g, m, c, cs, h1, h2, h3, h4⟩
  · exact .inl h
  · exact .inr ⟨g, m, c, cs, h1, by omega, h3, h4⟩

def nums (k : IntKind) (l : List Int) : List Value := l.map (Value.int k)
theorem nums_len (k : IntKind) (l : List Int) : (nums k l).length = l.length := by simp [nums]
theorem nums_get (k : IntKind) (l : List Int) (j : Nat) (hj : j < l.length) : (nums k l)[j]? = some (.int k (l.getD j 0)) := by
  simp [nums, hj]
theorem nums_set (k : IntKind) (l : List Int) (j : Nat) (x : Int) : (nums k l).set j (.int k x) = nums k (l.set j x) := by
  simp [nums]
theorem nums_rep (k : IntKind) (m : Nat) (x : Int) : List.replicate m (.int k x) = nums k (List.replicate m x) := by simp [nums]

theorem Blk.num {w : World} {g : Nat} {k : IntKind} {l : List Int} {t : TypeId} (hb : Blk w g (nums k l) t) {j : Nat} (hj : j < l.length) : w.cell? ⟨g, j, none⟩ = some (.int k (l.getD j 0)) :=
  (hb.cell j).trans (nums_get k l j hj)
section
variable {P : Program} {n : NF} {ops : Array Oper} {K : (Nat → Value) → World → Prop} {σ : Nat → Value} {w : World} {i : Nat} {rest : List Nat}
variable {d : Nat} {t : TypeId} {p : String} {af : Array Edge} {gd : Option (Nat × Bool)} {x y : Operand}
/-- One number stored into a row of the call's own. -/
theorem S_storeN {T : TypeId} {by_ : Nat} {z : Value} (hT : TI P T 1 by_ z false)
    (ho : ops[i]? = some { dst := none, op := .store T x y, type := t, pos := p, after := af, guard := gd }) (hw : wg n ops σ gd = true) (hx : tok n x = true) (hy : tok n y = true)
    {g o : Nat} (ha : sv σ x = .pointer (some ⟨g, o, none⟩)) {k : IntKind} {a : Int} (hv : sv σ y = .int k a) {l : List Int} {t' : TypeId} (hb : Blk w g (nums k l) t') (hfit : o < l.length)
    (h : ∀ w1, Upd g w w1 → Blk w1 g (nums k (l.set o a)) t' → OPS P n ops K rest σ w1) : OPS P n ops K (i :: rest) σ w := by
  refine S_store hT ho hw hx hy ha hv (vs := [.int k a]) rfl rfl (by simp [Value.oneCell']) hb (by rw [nums_len]; simp; omega) rfl ?_
  intro w1 h1 h2
  refine h w1 h1 ?_
  have e : putAt (nums k l) o [.int k a] = nums k (l.set o a) := by
    rw [← nums_set, List.set_eq_take_append_cons_drop, if_pos (by rw [nums_len]; exact hfit)]
    simp [putAt]
  rwa [e] at h2
theorem S_shr {T T' : TypeId} (ho : ops[i]? = some { dst := some d, op := .binOp .shr T x y T', type := t, pos := p, after := af, guard := gd }) (hw : wg n ops σ gd = true)
    (hx : tok n x = true) (hy : tok n y = true) {k yk : IntKind} {a b : Int} (ha : sv σ x = .int k a) (hb : sv σ y = .int yk b) (h0 : 0 ≤ b) {v : Int} (hv : a.fdiv (2 ^ (min b.toNat k.bits)) = v)
    (h : OPS P n ops K rest (upd σ d (.int k v)) w) : OPS P n ops K (i :: rest) σ w := by
  subst hv
  refine OPS.step ho hw rfl ?_ h
  have h0' : ¬ b < 0 := by omega
  simp [execOp, eval_act hx, eval_act hy, ha, hb, eqGuard, binOp, Op.shift, h0']
theorem S_shl {T T' : TypeId} (ho : ops[i]? = some { dst := some d, op := .binOp .shl T x y T', type := t, pos := p, after := af, guard := gd }) (hw : wg n ops σ gd = true)
    (hx : tok n x = true) (hy : tok n y = true) {k yk : IntKind} {a b : Int} (ha : sv σ x = .int k a) (hb : sv σ y = .int yk b) (h0 : 0 ≤ b) {v : Int} (hv : k.wrap (a * 2 ^ (min b.toNat k.bits)) = v)
    (h : OPS P n ops K rest (upd σ d (.int k v)) w) : OPS P n ops K (i :: rest) σ w := by
  subst hv
  refine OPS.step ho hw rfl ?_ h
  have h0' : ¬ b < 0 := by omega
  simp [execOp, eval_act hx, eval_act hy, ha, hb, eqGuard, binOp, Op.shift, h0']
theorem S_quo {T T' : TypeId} (ho : ops[i]? = some { dst := some d, op := .binOp .quo T x y T', type := t, pos := p, after := af, guard := gd }) (hw : wg n ops σ gd = true)
    (hx : tok n x = true) (hy : tok n y = true) {k : IntKind} {a b : Int} (ha : sv σ x = .int k a) (hb : sv σ y = .int k b) (h0 : b ≠ 0) {v : Int} (hv : k.wrap (a.tdiv b) = v)
    (h : OPS P n ops K rest (upd σ d (.int k v)) w) : OPS P n ops K (i :: rest) σ w := by
  subst hv
  refine OPS.step ho hw rfl ?_ h
  simp [execOp, eval_act hx, eval_act hy, ha, hb, eqGuard, binOp, Op.intDiv, h0]
theorem S_rem {T T' : TypeId} (ho : ops[i]? = some { dst := some d, op := .binOp .rem T x y T', type := t, pos := p, after := af, guard := gd }) (hw : wg n ops σ gd = true)
    (hx : tok n x = true) (hy : tok n y = true) {k : IntKind} {a b : Int} (ha : sv σ x = .int k a) (hb : sv σ y = .int k b) (h0 : b ≠ 0) {v : Int} (hv : a.tmod b = v)
    (h : OPS P n ops K rest (upd σ d (.int k v)) w) : OPS P n ops K (i :: rest) σ w := by
  subst hv
  refine OPS.step ho hw rfl ?_ h
  simp [execOp, eval_act hx, eval_act hy, ha, hb, eqGuard, binOp, Op.intDiv, h0]
/-- Bits of two numbers. -/
def bitV : BinOp → IntKind → Int → Int → Int
  | .and, k, a, b => k.wrap (BitVec.ofInt k.bits a &&& BitVec.ofInt k.bits b).toNat
  | .or, k, a, b => k.wrap (BitVec.ofInt k.bits a ||| BitVec.ofInt k.bits b).toNat
  | .xor, k, a, b => k.wrap (BitVec.ofInt k.bits a ^^^ BitVec.ofInt k.bits b).toNat
  | _, _, _, _ => 0
theorem S_bits {T T' : TypeId} {op : BinOp} (ho : ops[i]? = some { dst := some d, op := .binOp op T x y T', type := t, pos := p, after := af, guard := gd }) (hw : wg n ops σ gd = true)
    (hx : tok n x = true) (hy : tok n y = true) (hop : op = .and ∨ op = .or ∨ op = .xor) {k : IntKind} {a b : Int} (ha : sv σ x = .int k a) (hb : sv σ y = .int k b) {v : Int} (hv : bitV op k a b = v)
    (h : OPS P n ops K rest (upd σ d (.int k v)) w) : OPS P n ops K (i :: rest) σ w := by
  subst hv
  refine OPS.step ho hw rfl ?_ h
  rcases hop with rfl | rfl | rfl <;> simp [execOp, eval_act hx, eval_act hy, ha, hb, eqGuard, binOp, Op.intBits, bitV]
theorem S_xor {T : TypeId} (ho : ops[i]? = some { dst := some d, op := .unOp .xor T x, type := t, pos := p, after := af, guard := gd }) (hw : wg n ops σ gd = true)
    (hx : tok n x = true) {k : IntKind} {a : Int} (ha : sv σ x = .int k a) {v : Int} (hv : bitV .xor k (if k.signed then -1 else k.max) a = v)
    (h : OPS P n ops K rest (upd σ d (.int k v)) w) : OPS P n ops K (i :: rest) σ w := by
  subst hv
  refine OPS.step ho hw rfl ?_ h
  simp [execOp, eval_act hx, ha, Op.unary, Op.intBits, bitV]
theorem S_max {ats : Array TypeId} (ho : ops[i]? = some { dst := some d, op := .call { callee := .builtin .max, args := #[x, y], argTypes := ats }, type := t, pos := p, after := af, guard := gd })
    (hw : wg n ops σ gd = true) (hx : tok n x = true) (hy : tok n y = true) {k : IntKind} {a b : Int} (ha : sv σ x = .int k a) (hb : sv σ y = .int k b) {v : Int} (hv : max a b = v) (h : OPS P n ops K rest (upd σ d (.int k v)) w) : OPS P n ops K (i :: rest) σ w := by
  subst hv
  refine OPS.step ho hw rfl ?_ h
  simp [execOp, resolve, invoke, builtin, Builtin.max_, Builtin.max2, eval_act hx, eval_act hy, ha, hb]
  omega
theorem S_min {ats : Array TypeId} (ho : ops[i]? = some { dst := some d, op := .call { callee := .builtin .min, args := #[x, y], argTypes := ats }, type := t, pos := p, after := af, guard := gd })
    (hw : wg n ops σ gd = true) (hx : tok n x = true) (hy : tok n y = true) {k : IntKind} {a b : Int} (ha : sv σ x = .int k a) (hb : sv σ y = .int k b) {v : Int} (hv : min a b = v) (h : OPS P n ops K rest (upd σ d (.int k v)) w) : OPS P n ops K (i :: rest) σ w := by
  subst hv
  refine OPS.step ho hw rfl ?_ h
  simp [execOp, resolve, invoke, builtin, Builtin.min_, Builtin.min2, eval_act hx, eval_act hy, ha, hb]
  omega
end

/-- A slice of parts of the call's own. -/
def ON (B : Nat) (w : World) (v : Value) (l : List Int) : Prop := RN 0 B w v l ∧ Own B 1 106 w v
theorem ON.below {B : Nat} {w w' : World} {v : Value} {l : List Int} (h : ON B w v l) (hb : Below w.heap.size w w') : ON B w' v l := ⟨h.1.below hb, h.2.below hb⟩
theorem ON.upd {B g : Nat} {w w' : World} {v : Value} {l : List Int} (h : ON B w v l) (hu : Upd g w w') (_ : 0 ≤ g) (hg : g < B) : ON B w' v l := ⟨h.1.upd hu (Nat.zero_le _) hg, h.2.upd hu hg⟩
theorem ON.mono {B B' : Nat} {w : World} {v : Value} {l : List Int} (h : ON B w v l) (hB : B' ≤ B) : ON B' w v l := ⟨h.1.weak (Nat.le_refl _) hB, h.2.mono hB⟩
theorem ON.r {B : Nat} {w : World} {v : Value} {l : List Int} (h : ON B w v l) : RN 0 B w v l := h.1
theorem ON.nil (B : Nat) (w : World) : ON B w (.slice none 0 0) [] := ⟨RN.nil _ _ _, .inl ⟨none, rfl⟩⟩
/-- The first k of a row of the call's own. -/
theorem ON.mk {B g k c : Nat} {w : World} {l : List Int} {cs : List Value} (hb : Blk w g cs 106) (hl : U32 l) (hB : B ≤ g) (hk : l.length = k) (hkc : k ≤ c) (hc : c ≤ cs.length) (hm : c ≤ 9223372036854775807)
    (hcs : ∀ j, j < k → cs[j]? = some (.int .u32 (l.getD j 0))) : ON B w (.slice (some ⟨g, 0, none⟩) k c) l := by
  subst hk
  refine ⟨⟨hl, _, c, rfl, hkc, hm, fun j hj => ⟨⟨g, 0, none⟩, rfl, .inr hB, ?_⟩⟩, .inr ⟨g, _, c, cs, rfl, hB, hb, hkc, by omega, hm⟩⟩
  rw [add_plain, hb.cell, Nat.zero_add, hcs j hj]
theorem ON.mkNums {B g k : Nat} {w : World} {l : List Int} (hb : Blk w g (nums .u32 l) 106) (hl : U32 l) (hB : B ≤ g) (hk : k ≤ l.length) (hm : l.length ≤ 9223372036854775807) : ON B w (.slice (some ⟨g, 0, none⟩) k k) (l.take k) := by
  refine ON.mk hb (hl.take k) hB (by simp; omega) (Nat.le_refl _) (by rw [nums_len]; exact hk) (by omega) (fun j hj => ?_)
  rw [nums_get _ _ _ (by omega)]
  simp [List.getD_eq_getElem?_getD, List.getElem?_take_of_lt hj]
end Go.Proofs.YtccmicegihlfbaaGreatDoor

/- Facts on types, fields, and functions that are entered. Printed by types.py. -/
namespace Go.Proofs.YtccmicegihlfbaaGreatDoor
open Go.RowKit
theorem mixed_ : Tryz.prog.follows .mixedOrders = true := by kernel_rfl
theorem ti_bool : TI Tryz.prog 4 1 1 (.bool false) false := TI.mk' (by kernel_rfl) (by kernel_rfl)
theorem ti_int : TI Tryz.prog 3 1 8 (.int .i64 0) false := TI.mk' (by kernel_rfl) (by kernel_rfl)
theorem ti_int64 : TI Tryz.prog 2 1 8 (.int .i64 0) false := TI.mk' (by kernel_rfl) (by kernel_rfl)
theorem ti_uint32 : TI Tryz.prog 106 1 4 (.int .u32 0) false := TI.mk' (by kernel_rfl) (by kernel_rfl)
theorem ti_uint64 : TI Tryz.prog 124 1 8 (.int .u64 0) false := TI.mk' (by kernel_rfl) (by kernel_rfl)
theorem ti_uint8 : TI Tryz.prog 5 1 1 (.int .u8 0) false := TI.mk' (by kernel_rfl) (by kernel_rfl)
theorem ti_uint : TI Tryz.prog 125 1 8 (.int .u64 0) false := TI.mk' (by kernel_rfl) (by kernel_rfl)
theorem ti_Luint32 : TI Tryz.prog 22 1 24 (.slice none 0 0) false := TI.mk' (by kernel_rfl) (by kernel_rfl)
theorem ti_api_Nat : TI Tryz.prog 23 1 24 (.slice none 0 0) false := TI.mk' (by kernel_rfl) (by kernel_rfl)
theorem ti_api_Int : TI Tryz.prog 25 2 32 (.agg #[.bool false, .slice none 0 0]) true := TI.mk' (by kernel_rfl) (by kernel_rfl)
theorem ti_ints_whole : TI Tryz.prog 100 2 32 (.agg #[.bool false, .slice none 0 0]) true := TI.mk' (by kernel_rfl) (by kernel_rfl)
theorem ti_api_Rat : TI Tryz.prog 70 3 56 (.agg #[.bool false, .slice none 0 0, .slice none 0 0]) true := TI.mk' (by kernel_rfl) (by kernel_rfl)
theorem ti_Lapi_Rat : TI Tryz.prog 49 1 24 (.slice none 0 0) false := TI.mk' (by kernel_rfl) (by kernel_rfl)
theorem ti_LLapi_Rat : TI Tryz.prog 48 1 24 (.slice none 0 0) false := TI.mk' (by kernel_rfl) (by kernel_rfl)
theorem ti_api_Errno : TI Tryz.prog 62 1 8 (.int .i64 0) false := TI.mk' (by kernel_rfl) (by kernel_rfl)
theorem ti_Lbool : TI Tryz.prog 50 1 24 (.slice none 0 0) false := TI.mk' (by kernel_rfl) (by kernel_rfl)
theorem ti_Lint : TI Tryz.prog 77 1 24 (.slice none 0 0) false := TI.mk' (by kernel_rfl) (by kernel_rfl)
theorem ti_string : TI Tryz.prog 9 1 16 (.string ByteArray.empty) false := TI.mk' (by kernel_rfl) (by kernel_rfl)
theorem ti_2_api_Int : TI Tryz.prog 147 4 64 (.agg #[.bool false, .slice none 0 0, .bool false, .slice none 0 0]) true := TI.mk' (by kernel_rfl) (by kernel_rfl)
theorem ti_Lassayerlaw01_heldByte : TI Tryz.prog 32 1 24 (.slice none 0 0) false := TI.mk' (by kernel_rfl) (by kernel_rfl)
theorem ti_Lassayerlaw01_heldInt32 : TI Tryz.prog 33 1 24 (.slice none 0 0) false := TI.mk' (by kernel_rfl) (by kernel_rfl)
theorem ti_Lassayerlaw01_heldNum : TI Tryz.prog 34 1 24 (.slice none 0 0) false := TI.mk' (by kernel_rfl) (by kernel_rfl)
theorem ti_Lassayerlaw01_heldBool : TI Tryz.prog 35 1 24 (.slice none 0 0) false := TI.mk' (by kernel_rfl) (by kernel_rfl)
theorem ti_Lassayerlaw01_heldText : TI Tryz.prog 36 1 24 (.slice none 0 0) false := TI.mk' (by kernel_rfl) (by kernel_rfl)
theorem ti_Lassayerlaw01_heldToken : TI Tryz.prog 37 1 24 (.slice none 0 0) false := TI.mk' (by kernel_rfl) (by kernel_rfl)
theorem ti_Lassayerlaw01_heldTenant : TI Tryz.prog 38 1 24 (.slice none 0 0) false := TI.mk' (by kernel_rfl) (by kernel_rfl)
theorem ti_Lassayerlaw01_heldRat : TI Tryz.prog 39 1 24 (.slice none 0 0) false := TI.mk' (by kernel_rfl) (by kernel_rfl)
theorem ti_Lassayerlaw01_heldVar : TI Tryz.prog 40 1 24 (.slice none 0 0) false := TI.mk' (by kernel_rfl) (by kernel_rfl)
theorem ti_Lassayerlaw01_heldRow : TI Tryz.prog 41 1 24 (.slice none 0 0) false := TI.mk' (by kernel_rfl) (by kernel_rfl)
theorem ti_Lassayerlaw01_heldNode : TI Tryz.prog 42 1 24 (.slice none 0 0) false := TI.mk' (by kernel_rfl) (by kernel_rfl)
theorem ti_Lassayerlaw01_heldJob : TI Tryz.prog 43 1 24 (.slice none 0 0) false := TI.mk' (by kernel_rfl) (by kernel_rfl)
theorem ti_assayerlaw01_heldInt32 : TI Tryz.prog 158 3 56 (.agg #[.slice none 0 0, .slice none 0 0, .int .i64 0]) true := TI.mk' (by kernel_rfl) (by kernel_rfl)
theorem ti_assayerlaw01_heldRat : TI Tryz.prog 183 3 56 (.agg #[.slice none 0 0, .slice none 0 0, .int .i64 0]) true := TI.mk' (by kernel_rfl) (by kernel_rfl)
theorem ti_assayerlaw01_Book : TI Tryz.prog 45 13 296 (.agg #[.int .i64 0, .slice none 0 0, .slice none 0 0, .slice none 0 0, .slice none 0 0, .slice none 0 0, .slice none 0 0, .slice none 0 0, .slice none 0 0, .slice none 0 0, .slice none 0 0, .slice none 0 0, .slice none 0 0]) true := TI.mk' (by kernel_rfl) (by kernel_rfl)
theorem ft_api_Int_0 : FieldT Tryz.prog 25 0 0 := FieldT.mk (by kernel_rfl)
theorem ft_api_Int_1 : FieldT Tryz.prog 25 1 1 := FieldT.mk (by kernel_rfl)
theorem ft_ints_whole_0 : FieldT Tryz.prog 100 0 0 := FieldT.mk (by kernel_rfl)
theorem ft_ints_whole_1 : FieldT Tryz.prog 100 1 1 := FieldT.mk (by kernel_rfl)
theorem ft_api_Rat_0 : FieldT Tryz.prog 70 0 0 := FieldT.mk (by kernel_rfl)
theorem ft_api_Rat_1 : FieldT Tryz.prog 70 1 2 := FieldT.mk (by kernel_rfl)
theorem ft_assayerlaw01_Book_0 : FieldT Tryz.prog 45 0 0 := FieldT.mk (by kernel_rfl)
theorem ft_assayerlaw01_Book_1 : FieldT Tryz.prog 45 1 1 := FieldT.mk (by kernel_rfl)
theorem ft_assayerlaw01_Book_2 : FieldT Tryz.prog 45 2 2 := FieldT.mk (by kernel_rfl)
theorem ft_assayerlaw01_Book_3 : FieldT Tryz.prog 45 3 3 := FieldT.mk (by kernel_rfl)
theorem ft_assayerlaw01_Book_4 : FieldT Tryz.prog 45 4 4 := FieldT.mk (by kernel_rfl)
theorem ft_assayerlaw01_Book_5 : FieldT Tryz.prog 45 5 5 := FieldT.mk (by kernel_rfl)
theorem ft_assayerlaw01_Book_6 : FieldT Tryz.prog 45 6 6 := FieldT.mk (by kernel_rfl)
theorem ft_assayerlaw01_Book_7 : FieldT Tryz.prog 45 7 7 := FieldT.mk (by kernel_rfl)
theorem ft_assayerlaw01_Book_8 : FieldT Tryz.prog 45 8 8 := FieldT.mk (by kernel_rfl)
theorem ft_assayerlaw01_Book_9 : FieldT Tryz.prog 45 9 9 := FieldT.mk (by kernel_rfl)
theorem ft_assayerlaw01_Book_10 : FieldT Tryz.prog 45 10 10 := FieldT.mk (by kernel_rfl)
theorem ft_assayerlaw01_Book_11 : FieldT Tryz.prog 45 11 11 := FieldT.mk (by kernel_rfl)
theorem ft_assayerlaw01_Book_12 : FieldT Tryz.prog 45 12 12 := FieldT.mk (by kernel_rfl)
theorem ft_assayerlaw01_heldInt32_0 : FieldT Tryz.prog 158 0 0 := FieldT.mk (by kernel_rfl)
theorem ft_assayerlaw01_heldInt32_1 : FieldT Tryz.prog 158 1 1 := FieldT.mk (by kernel_rfl)
theorem ft_assayerlaw01_heldInt32_2 : FieldT Tryz.prog 158 2 2 := FieldT.mk (by kernel_rfl)
theorem ft_assayerlaw01_heldRat_0 : FieldT Tryz.prog 183 0 0 := FieldT.mk (by kernel_rfl)
theorem ft_assayerlaw01_heldRat_1 : FieldT Tryz.prog 183 1 1 := FieldT.mk (by kernel_rfl)
theorem ft_assayerlaw01_heldRat_2 : FieldT Tryz.prog 183 2 2 := FieldT.mk (by kernel_rfl)
theorem en_assayerlaw01_TwinRat : En Tryz.prog 65 := ⟨_, Tryz.func65, by kernel_rfl, rfl⟩
theorem en_assayerlaw01_LeftRat : En Tryz.prog 71 := ⟨_, Tryz.func71, by kernel_rfl, rfl⟩
theorem en_assayerlaw01_SameRats : En Tryz.prog 69 := ⟨_, Tryz.func69, by kernel_rfl, rfl⟩
theorem en_passayerlaw01_Book_Rats : En Tryz.prog 72 := ⟨_, Tryz.func72, by kernel_rfl, rfl⟩
theorem en_passayerlaw01_Book_Apart : En Tryz.prog 27 := ⟨_, Tryz.func27, by kernel_rfl, rfl⟩
theorem en_grids_Check : En Tryz.prog 245 := ⟨_, Tryz.func245, by kernel_rfl, rfl⟩
theorem en_assayerlaw01_SameGrid : En Tryz.prog 181 := ⟨_, Tryz.func181, by kernel_rfl, rfl⟩
theorem en_assayerlaw01_RatsSize : En Tryz.prog 29 := ⟨_, Tryz.func29, by kernel_rfl, rfl⟩
theorem en_vecs_Check : En Tryz.prog 141 := ⟨_, Tryz.func141, by kernel_rfl, rfl⟩
theorem en_assayerlaw01_RatSize : En Tryz.prog 139 := ⟨_, Tryz.func139, by kernel_rfl, rfl⟩
theorem en_vecs_Add : En Tryz.prog 67 := ⟨_, Tryz.func67, by kernel_rfl, rfl⟩
theorem en_vecs_Dot : En Tryz.prog 146 := ⟨_, Tryz.func146, by kernel_rfl, rfl⟩
theorem en_assayerlaw01_SameRat : En Tryz.prog 51 := ⟨_, Tryz.func51, by kernel_rfl, rfl⟩
theorem en_rats_Check : En Tryz.prog 190 := ⟨_, Tryz.func190, by kernel_rfl, rfl⟩
theorem en_assayerlaw01_TwinRats : En Tryz.prog 31 := ⟨_, Tryz.func31, by kernel_rfl, rfl⟩
theorem en_assayerlaw01_TwinInt : En Tryz.prog 11 := ⟨_, Tryz.func11, by kernel_rfl, rfl⟩
theorem en_assayerlaw01_TwinNat : En Tryz.prog 40 := ⟨_, Tryz.func40, by kernel_rfl, rfl⟩
theorem en_rats_Cmp : En Tryz.prog 79 := ⟨_, Tryz.func79, by kernel_rfl, rfl⟩
theorem en_assayerref03_Cmp : En Tryz.prog 80 := ⟨_, Tryz.func80, by kernel_rfl, rfl⟩
theorem en_assayerlaw01_LeftRats : En Tryz.prog 39 := ⟨_, Tryz.func39, by kernel_rfl, rfl⟩
theorem en_assayerlaw01_LeftInt : En Tryz.prog 25 := ⟨_, Tryz.func25, by kernel_rfl, rfl⟩
theorem en_assayerlaw01_LeftNat : En Tryz.prog 46 := ⟨_, Tryz.func46, by kernel_rfl, rfl⟩
theorem en_rats_Of : En Tryz.prog 50 := ⟨_, Tryz.func50, by kernel_rfl, rfl⟩
theorem en_assayerref03_Of : En Tryz.prog 52 := ⟨_, Tryz.func52, by kernel_rfl, rfl⟩
theorem en_passayerlaw01_Book_Rat : En Tryz.prog 53 := ⟨_, Tryz.func53, by kernel_rfl, rfl⟩
theorem en_passayerlaw01_Book_keepRat : En Tryz.prog 193 := ⟨_, Tryz.func193, by kernel_rfl, rfl⟩
theorem en_passayerlaw01_Book_fillByte : En Tryz.prog 101 := ⟨_, Tryz.func101, by kernel_rfl, rfl⟩
theorem en_passayerlaw01_Book_fillInt32 : En Tryz.prog 102 := ⟨_, Tryz.func102, by kernel_rfl, rfl⟩
theorem en_passayerlaw01_Book_fillNum : En Tryz.prog 103 := ⟨_, Tryz.func103, by kernel_rfl, rfl⟩
theorem en_passayerlaw01_Book_fillBool : En Tryz.prog 104 := ⟨_, Tryz.func104, by kernel_rfl, rfl⟩
theorem en_passayerlaw01_Book_fillText : En Tryz.prog 105 := ⟨_, Tryz.func105, by kernel_rfl, rfl⟩
theorem en_passayerlaw01_Book_fillToken : En Tryz.prog 106 := ⟨_, Tryz.func106, by kernel_rfl, rfl⟩
theorem en_passayerlaw01_Book_fillTenant : En Tryz.prog 107 := ⟨_, Tryz.func107, by kernel_rfl, rfl⟩
theorem en_passayerlaw01_Book_fillRat : En Tryz.prog 108 := ⟨_, Tryz.func108, by kernel_rfl, rfl⟩
theorem en_passayerlaw01_Book_fillVar : En Tryz.prog 109 := ⟨_, Tryz.func109, by kernel_rfl, rfl⟩
theorem en_passayerlaw01_Book_fillRow : En Tryz.prog 110 := ⟨_, Tryz.func110, by kernel_rfl, rfl⟩
theorem en_passayerlaw01_Book_fillNode : En Tryz.prog 111 := ⟨_, Tryz.func111, by kernel_rfl, rfl⟩
theorem en_passayerlaw01_Book_fillJob : En Tryz.prog 112 := ⟨_, Tryz.func112, by kernel_rfl, rfl⟩
theorem en_passayerlaw01_Book_growByte : En Tryz.prog 113 := ⟨_, Tryz.func113, by kernel_rfl, rfl⟩
theorem en_passayerlaw01_Book_growInt32 : En Tryz.prog 114 := ⟨_, Tryz.func114, by kernel_rfl, rfl⟩
theorem en_passayerlaw01_Book_growNum : En Tryz.prog 115 := ⟨_, Tryz.func115, by kernel_rfl, rfl⟩
theorem en_passayerlaw01_Book_growBool : En Tryz.prog 116 := ⟨_, Tryz.func116, by kernel_rfl, rfl⟩
theorem en_passayerlaw01_Book_growText : En Tryz.prog 117 := ⟨_, Tryz.func117, by kernel_rfl, rfl⟩
theorem en_passayerlaw01_Book_growToken : En Tryz.prog 118 := ⟨_, Tryz.func118, by kernel_rfl, rfl⟩
theorem en_passayerlaw01_Book_growTenant : En Tryz.prog 119 := ⟨_, Tryz.func119, by kernel_rfl, rfl⟩
theorem en_passayerlaw01_Book_growRat : En Tryz.prog 120 := ⟨_, Tryz.func120, by kernel_rfl, rfl⟩
theorem en_passayerlaw01_Book_growVar : En Tryz.prog 121 := ⟨_, Tryz.func121, by kernel_rfl, rfl⟩
theorem en_passayerlaw01_Book_growRow : En Tryz.prog 122 := ⟨_, Tryz.func122, by kernel_rfl, rfl⟩
theorem en_passayerlaw01_Book_growNode : En Tryz.prog 123 := ⟨_, Tryz.func123, by kernel_rfl, rfl⟩
theorem en_passayerlaw01_Book_growJob : En Tryz.prog 124 := ⟨_, Tryz.func124, by kernel_rfl, rfl⟩
theorem en_passayerlaw01_Book_lookByte : En Tryz.prog 125 := ⟨_, Tryz.func125, by kernel_rfl, rfl⟩
theorem en_passayerlaw01_Book_lookInt32 : En Tryz.prog 126 := ⟨_, Tryz.func126, by kernel_rfl, rfl⟩
theorem en_passayerlaw01_Book_lookNum : En Tryz.prog 127 := ⟨_, Tryz.func127, by kernel_rfl, rfl⟩
theorem en_passayerlaw01_Book_lookBool : En Tryz.prog 128 := ⟨_, Tryz.func128, by kernel_rfl, rfl⟩
theorem en_passayerlaw01_Book_lookText : En Tryz.prog 129 := ⟨_, Tryz.func129, by kernel_rfl, rfl⟩
theorem en_passayerlaw01_Book_lookToken : En Tryz.prog 130 := ⟨_, Tryz.func130, by kernel_rfl, rfl⟩
theorem en_passayerlaw01_Book_lookTenant : En Tryz.prog 131 := ⟨_, Tryz.func131, by kernel_rfl, rfl⟩
theorem en_passayerlaw01_Book_lookRat : En Tryz.prog 132 := ⟨_, Tryz.func132, by kernel_rfl, rfl⟩
theorem en_passayerlaw01_Book_lookVar : En Tryz.prog 133 := ⟨_, Tryz.func133, by kernel_rfl, rfl⟩
theorem en_passayerlaw01_Book_lookRow : En Tryz.prog 134 := ⟨_, Tryz.func134, by kernel_rfl, rfl⟩
theorem en_passayerlaw01_Book_lookNode : En Tryz.prog 135 := ⟨_, Tryz.func135, by kernel_rfl, rfl⟩
theorem en_passayerlaw01_Book_lookJob : En Tryz.prog 136 := ⟨_, Tryz.func136, by kernel_rfl, rfl⟩
theorem en_assayerlaw01_GridSize : En Tryz.prog 137 := ⟨_, Tryz.func137, by kernel_rfl, rfl⟩
theorem en_slices_ContainsFunc_LLapi_Rat_Lapi_Rat : En Tryz.prog 142 := ⟨_, Tryz.func142, by kernel_rfl, rfl⟩
theorem en_grids_Check_1 : En Tryz.prog 253 := ⟨_, Tryz.func253, by kernel_rfl, rfl⟩
theorem en_vecs_Scale : En Tryz.prog 66 := ⟨_, Tryz.func66, by kernel_rfl, rfl⟩
theorem en_slices_ContainsFunc_Lapi_Rat_api_Rat : En Tryz.prog 234 := ⟨_, Tryz.func234, by kernel_rfl, rfl⟩
theorem en_vecs_Check_1 : En Tryz.prog 235 := ⟨_, Tryz.func235, by kernel_rfl, rfl⟩
theorem en_rats_Div : En Tryz.prog 77 := ⟨_, Tryz.func77, by kernel_rfl, rfl⟩
theorem en_vecs_fit : En Tryz.prog 189 := ⟨_, Tryz.func189, by kernel_rfl, rfl⟩
theorem en_vecs_both_api_Rat_api_Rat : En Tryz.prog 191 := ⟨_, Tryz.func191, by kernel_rfl, rfl⟩
theorem en_assayerlaw01_IntSize : En Tryz.prog 232 := ⟨_, Tryz.func232, by kernel_rfl, rfl⟩
theorem en_assayerlaw01_NatSize : En Tryz.prog 233 := ⟨_, Tryz.func233, by kernel_rfl, rfl⟩
theorem en_rats_Add : En Tryz.prog 74 := ⟨_, Tryz.func74, by kernel_rfl, rfl⟩
theorem en_rats_Mul : En Tryz.prog 76 := ⟨_, Tryz.func76, by kernel_rfl, rfl⟩
theorem en_assayerlaw01_SameInt : En Tryz.prog 20 := ⟨_, Tryz.func20, by kernel_rfl, rfl⟩
theorem en_assayerlaw01_SameNat : En Tryz.prog 44 := ⟨_, Tryz.func44, by kernel_rfl, rfl⟩
theorem en_ints_Check : En Tryz.prog 173 := ⟨_, Tryz.func173, by kernel_rfl, rfl⟩
theorem en_nats_Check : En Tryz.prog 152 := ⟨_, Tryz.func152, by kernel_rfl, rfl⟩
theorem en_rats_is1 : En Tryz.prog 237 := ⟨_, Tryz.func237, by kernel_rfl, rfl⟩
theorem en_nats_Gcd : En Tryz.prog 42 := ⟨_, Tryz.func42, by kernel_rfl, rfl⟩
theorem en_rats_cross : En Tryz.prog 199 := ⟨_, Tryz.func199, by kernel_rfl, rfl⟩
theorem en_ints_Cmp : En Tryz.prog 16 := ⟨_, Tryz.func16, by kernel_rfl, rfl⟩
theorem en_assayerref03_Fit : En Tryz.prog 201 := ⟨_, Tryz.func201, by kernel_rfl, rfl⟩
theorem en_assayerref02_Cmp : En Tryz.prog 17 := ⟨_, Tryz.func17, by kernel_rfl, rfl⟩
theorem en_assayerref03_times : En Tryz.prog 200 := ⟨_, Tryz.func200, by kernel_rfl, rfl⟩
theorem en_ints_Of : En Tryz.prog 177 := ⟨_, Tryz.func177, by kernel_rfl, rfl⟩
theorem en_assayerref02_Of : En Tryz.prog 178 := ⟨_, Tryz.func178, by kernel_rfl, rfl⟩
theorem en_passayerlaw01_Book_Int : En Tryz.prog 26 := ⟨_, Tryz.func26, by kernel_rfl, rfl⟩
theorem en_passayerlaw01_Book_Nat : En Tryz.prog 47 := ⟨_, Tryz.func47, by kernel_rfl, rfl⟩
theorem en_assayerlaw01_markByte : En Tryz.prog 208 := ⟨_, Tryz.func208, by kernel_rfl, rfl⟩
theorem en_assayerlaw01_markInt32 : En Tryz.prog 209 := ⟨_, Tryz.func209, by kernel_rfl, rfl⟩
theorem en_assayerlaw01_markNum : En Tryz.prog 210 := ⟨_, Tryz.func210, by kernel_rfl, rfl⟩
theorem en_assayerlaw01_markBool : En Tryz.prog 211 := ⟨_, Tryz.func211, by kernel_rfl, rfl⟩
theorem en_assayerlaw01_markText : En Tryz.prog 212 := ⟨_, Tryz.func212, by kernel_rfl, rfl⟩
theorem en_assayerlaw01_markToken : En Tryz.prog 213 := ⟨_, Tryz.func213, by kernel_rfl, rfl⟩
theorem en_assayerlaw01_markTenant : En Tryz.prog 214 := ⟨_, Tryz.func214, by kernel_rfl, rfl⟩
theorem en_assayerlaw01_markRat : En Tryz.prog 215 := ⟨_, Tryz.func215, by kernel_rfl, rfl⟩
theorem en_assayerlaw01_markVar : En Tryz.prog 216 := ⟨_, Tryz.func216, by kernel_rfl, rfl⟩
theorem en_assayerlaw01_markRow : En Tryz.prog 217 := ⟨_, Tryz.func217, by kernel_rfl, rfl⟩
theorem en_assayerlaw01_markNode : En Tryz.prog 218 := ⟨_, Tryz.func218, by kernel_rfl, rfl⟩
theorem en_assayerlaw01_markJob : En Tryz.prog 219 := ⟨_, Tryz.func219, by kernel_rfl, rfl⟩
theorem en_assayerlaw01_isByte : En Tryz.prog 220 := ⟨_, Tryz.func220, by kernel_rfl, rfl⟩
theorem en_assayerlaw01_isInt32 : En Tryz.prog 221 := ⟨_, Tryz.func221, by kernel_rfl, rfl⟩
theorem en_assayerlaw01_isNum : En Tryz.prog 222 := ⟨_, Tryz.func222, by kernel_rfl, rfl⟩
theorem en_assayerlaw01_isBool : En Tryz.prog 223 := ⟨_, Tryz.func223, by kernel_rfl, rfl⟩
theorem en_assayerlaw01_isText : En Tryz.prog 224 := ⟨_, Tryz.func224, by kernel_rfl, rfl⟩
theorem en_assayerlaw01_isToken : En Tryz.prog 225 := ⟨_, Tryz.func225, by kernel_rfl, rfl⟩
theorem en_assayerlaw01_isTenant : En Tryz.prog 226 := ⟨_, Tryz.func226, by kernel_rfl, rfl⟩
theorem en_assayerlaw01_isRat : En Tryz.prog 227 := ⟨_, Tryz.func227, by kernel_rfl, rfl⟩
theorem en_assayerlaw01_isVar : En Tryz.prog 228 := ⟨_, Tryz.func228, by kernel_rfl, rfl⟩
theorem en_assayerlaw01_isRow : En Tryz.prog 229 := ⟨_, Tryz.func229, by kernel_rfl, rfl⟩
theorem en_assayerlaw01_isNode : En Tryz.prog 230 := ⟨_, Tryz.func230, by kernel_rfl, rfl⟩
theorem en_assayerlaw01_isJob : En Tryz.prog 231 := ⟨_, Tryz.func231, by kernel_rfl, rfl⟩
theorem en_slices_IndexFunc_LLapi_Rat_Lapi_Rat : En Tryz.prog 236 := ⟨_, Tryz.func236, by kernel_rfl, rfl⟩
theorem en_rats_Sign : En Tryz.prog 81 := ⟨_, Tryz.func81, by kernel_rfl, rfl⟩
theorem en_rats_Sub : En Tryz.prog 75 := ⟨_, Tryz.func75, by kernel_rfl, rfl⟩
theorem en_slices_IndexFunc_Lapi_Rat_api_Rat : En Tryz.prog 252 := ⟨_, Tryz.func252, by kernel_rfl, rfl⟩
theorem en_rats_Make : En Tryz.prog 48 := ⟨_, Tryz.func48, by kernel_rfl, rfl⟩
theorem en_vecs_both_api_Rat_api_Rat_1 : En Tryz.prog 248 := ⟨_, Tryz.func248, by kernel_rfl, rfl⟩
theorem en_rats_with : En Tryz.prog 194 := ⟨_, Tryz.func194, by kernel_rfl, rfl⟩
theorem en_rats_Add_1 : En Tryz.prog 195 := ⟨_, Tryz.func195, by kernel_rfl, rfl⟩
theorem en_ints_Add : En Tryz.prog 12 := ⟨_, Tryz.func12, by kernel_rfl, rfl⟩
theorem en_rats_of : En Tryz.prog 197 := ⟨_, Tryz.func197, by kernel_rfl, rfl⟩
theorem en_rats_Mul_1 : En Tryz.prog 198 := ⟨_, Tryz.func198, by kernel_rfl, rfl⟩
theorem en_ints_Mul : En Tryz.prog 14 := ⟨_, Tryz.func14, by kernel_rfl, rfl⟩
theorem en_slices_Clone_api_Nat_uint32 : En Tryz.prog 91 := ⟨_, Tryz.func91, by kernel_rfl, rfl⟩
theorem en_nats_fine : En Tryz.prog 159 := ⟨_, Tryz.func159, by kernel_rfl, rfl⟩
theorem en_nats_noughts : En Tryz.prog 160 := ⟨_, Tryz.func160, by kernel_rfl, rfl⟩
theorem en_nats_back : En Tryz.prog 158 := ⟨_, Tryz.func158, by kernel_rfl, rfl⟩
theorem en_nats_Cmp : En Tryz.prog 93 := ⟨_, Tryz.func93, by kernel_rfl, rfl⟩
theorem en_nats_shift : En Tryz.prog 157 := ⟨_, Tryz.func157, by kernel_rfl, rfl⟩
theorem en_nats_minus : En Tryz.prog 161 := ⟨_, Tryz.func161, by kernel_rfl, rfl⟩
theorem en_nats_Mul : En Tryz.prog 90 := ⟨_, Tryz.func90, by kernel_rfl, rfl⟩
theorem en_ints_of : En Tryz.prog 86 := ⟨_, Tryz.func86, by kernel_rfl, rfl⟩
theorem en_ints_whole_sign : En Tryz.prog 92 := ⟨_, Tryz.func92, by kernel_rfl, rfl⟩
theorem en_assayerref03_Check : En Tryz.prog 192 := ⟨_, Tryz.func192, by kernel_rfl, rfl⟩
theorem en_assayerref02_Sign : En Tryz.prog 19 := ⟨_, Tryz.func19, by kernel_rfl, rfl⟩
theorem en_assayerref02_Sub : En Tryz.prog 22 := ⟨_, Tryz.func22, by kernel_rfl, rfl⟩
theorem en_assayerref02_Mul : En Tryz.prog 23 := ⟨_, Tryz.func23, by kernel_rfl, rfl⟩
theorem en_ints_signed : En Tryz.prog 89 := ⟨_, Tryz.func89, by kernel_rfl, rfl⟩
theorem en_nats_Of : En Tryz.prog 154 := ⟨_, Tryz.func154, by kernel_rfl, rfl⟩
theorem en_assayerref02_Signed : En Tryz.prog 95 := ⟨_, Tryz.func95, by kernel_rfl, rfl⟩
theorem en_assayerref01_Of : En Tryz.prog 164 := ⟨_, Tryz.func164, by kernel_rfl, rfl⟩
theorem en_passayerlaw01_Book_keepInt32 : En Tryz.prog 172 := ⟨_, Tryz.func172, by kernel_rfl, rfl⟩
theorem en_assayerlaw01_word : En Tryz.prog 251 := ⟨_, Tryz.func251, by kernel_rfl, rfl⟩
theorem en_ints_Sign : En Tryz.prog 18 := ⟨_, Tryz.func18, by kernel_rfl, rfl⟩
theorem en_rats_Sub_1 : En Tryz.prog 196 := ⟨_, Tryz.func196, by kernel_rfl, rfl⟩
theorem en_ints_Sub : En Tryz.prog 13 := ⟨_, Tryz.func13, by kernel_rfl, rfl⟩
theorem en_ints_Neg : En Tryz.prog 15 := ⟨_, Tryz.func15, by kernel_rfl, rfl⟩
theorem en_rats_lowest : En Tryz.prog 174 := ⟨_, Tryz.func174, by kernel_rfl, rfl⟩
theorem en_ints_whole_plus : En Tryz.prog 87 := ⟨_, Tryz.func87, by kernel_rfl, rfl⟩
theorem en_math_bits_TrailingZeros32 : En Tryz.prog 242 := ⟨_, Tryz.func242, by kernel_rfl, rfl⟩
theorem en_nats_at : En Tryz.prog 241 := ⟨_, Tryz.func241, by kernel_rfl, rfl⟩
theorem en_nats_cut : En Tryz.prog 205 := ⟨_, Tryz.func205, by kernel_rfl, rfl⟩
theorem en_nats_pairs : En Tryz.prog 206 := ⟨_, Tryz.func206, by kernel_rfl, rfl⟩
theorem en_math_bits_Sub32 : En Tryz.prog 243 := ⟨_, Tryz.func243, by kernel_rfl, rfl⟩
theorem en_assayerref02_Check : En Tryz.prog 175 := ⟨_, Tryz.func175, by kernel_rfl, rfl⟩
theorem en_assayerref01_Check : En Tryz.prog 162 := ⟨_, Tryz.func162, by kernel_rfl, rfl⟩
theorem en_assayerref01_Gcd : En Tryz.prog 45 := ⟨_, Tryz.func45, by kernel_rfl, rfl⟩
theorem en_assayerref02_fit : En Tryz.prog 94 := ⟨_, Tryz.func94, by kernel_rfl, rfl⟩
theorem en_assayerref02_Add : En Tryz.prog 21 := ⟨_, Tryz.func21, by kernel_rfl, rfl⟩
theorem en_assayerref02_Neg : En Tryz.prog 24 := ⟨_, Tryz.func24, by kernel_rfl, rfl⟩
theorem en_assayerref01_Mul : En Tryz.prog 99 := ⟨_, Tryz.func99, by kernel_rfl, rfl⟩
theorem en_assayerref01_trim : En Tryz.prog 166 := ⟨_, Tryz.func166, by kernel_rfl, rfl⟩
theorem en_strconv_Itoa : En Tryz.prog 254 := ⟨_, Tryz.func254, by kernel_rfl, rfl⟩
theorem en_ints_whole_turned : En Tryz.prog 88 := ⟨_, Tryz.func88, by kernel_rfl, rfl⟩
theorem en_nats_Div : En Tryz.prog 41 := ⟨_, Tryz.func41, by kernel_rfl, rfl⟩
theorem en_nats_Add : En Tryz.prog 203 := ⟨_, Tryz.func203, by kernel_rfl, rfl⟩
theorem en_nats_Sub : En Tryz.prog 204 := ⟨_, Tryz.func204, by kernel_rfl, rfl⟩
theorem en_slices_Clip_api_Nat_uint32 : En Tryz.prog 249 := ⟨_, Tryz.func249, by kernel_rfl, rfl⟩
theorem en_nats_pairs_1 : En Tryz.prog 250 := ⟨_, Tryz.func250, by kernel_rfl, rfl⟩
theorem en_assayerref01_Twin : En Tryz.prog 100 := ⟨_, Tryz.func100, by kernel_rfl, rfl⟩
theorem en_assayerref01_fit : En Tryz.prog 171 := ⟨_, Tryz.func171, by kernel_rfl, rfl⟩
theorem en_assayerref01_Div : En Tryz.prog 43 := ⟨_, Tryz.func43, by kernel_rfl, rfl⟩
theorem en_assayerref01_Add : En Tryz.prog 96 := ⟨_, Tryz.func96, by kernel_rfl, rfl⟩
theorem en_assayerref01_Cmp : En Tryz.prog 97 := ⟨_, Tryz.func97, by kernel_rfl, rfl⟩
theorem en_assayerref01_Sub : En Tryz.prog 98 := ⟨_, Tryz.func98, by kernel_rfl, rfl⟩
theorem en_internal_strconv_Itoa : En Tryz.prog 255 := ⟨_, Tryz.func255, by kernel_rfl, rfl⟩
theorem en_nats_short : En Tryz.prog 153 := ⟨_, Tryz.func153, by kernel_rfl, rfl⟩
theorem en_math_bits_LeadingZeros32 : En Tryz.prog 155 := ⟨_, Tryz.func155, by kernel_rfl, rfl⟩
theorem en_nats_long : En Tryz.prog 156 := ⟨_, Tryz.func156, by kernel_rfl, rfl⟩
theorem en_math_bits_Add32 : En Tryz.prog 240 := ⟨_, Tryz.func240, by kernel_rfl, rfl⟩
theorem en_assayerref01_small : En Tryz.prog 163 := ⟨_, Tryz.func163, by kernel_rfl, rfl⟩
theorem en_assayerref01_up : En Tryz.prog 165 := ⟨_, Tryz.func165, by kernel_rfl, rfl⟩
theorem en_assayerref01_guess : En Tryz.prog 167 := ⟨_, Tryz.func167, by kernel_rfl, rfl⟩
theorem en_assayerref01_takes : En Tryz.prog 168 := ⟨_, Tryz.func168, by kernel_rfl, rfl⟩
theorem en_assayerref01_gives : En Tryz.prog 169 := ⟨_, Tryz.func169, by kernel_rfl, rfl⟩
theorem en_assayerref01_down : En Tryz.prog 170 := ⟨_, Tryz.func170, by kernel_rfl, rfl⟩
theorem en_assayerref01_less : En Tryz.prog 207 := ⟨_, Tryz.func207, by kernel_rfl, rfl⟩
theorem en_internal_strconv_FormatInt : En Tryz.prog 256 := ⟨_, Tryz.func256, by kernel_rfl, rfl⟩
theorem en_math_bits_Div32 : En Tryz.prog 238 := ⟨_, Tryz.func238, by kernel_rfl, rfl⟩
theorem en_math_bits_Len32 : En Tryz.prog 239 := ⟨_, Tryz.func239, by kernel_rfl, rfl⟩
theorem en_internal_strconv_small : En Tryz.prog 257 := ⟨_, Tryz.func257, by kernel_rfl, rfl⟩
theorem en_internal_strconv_numDigits : En Tryz.prog 258 := ⟨_, Tryz.func258, by kernel_rfl, rfl⟩
theorem en_internal_strconv_formatBase10 : En Tryz.prog 259 := ⟨_, Tryz.func259, by kernel_rfl, rfl⟩
theorem en_internal_strconv_formatBits : En Tryz.prog 260 := ⟨_, Tryz.func260, by kernel_rfl, rfl⟩
theorem en_internal_strconv_log10Pow2 : En Tryz.prog 261 := ⟨_, Tryz.func261, by kernel_rfl, rfl⟩
theorem en_math_bits_Len64 : En Tryz.prog 262 := ⟨_, Tryz.func262, by kernel_rfl, rfl⟩
theorem en_internal_strconv_bool2_int : En Tryz.prog 263 := ⟨_, Tryz.func263, by kernel_rfl, rfl⟩
theorem en_internal_strconv_isPowerOfTwo : En Tryz.prog 264 := ⟨_, Tryz.func264, by kernel_rfl, rfl⟩
theorem en_math_bits_TrailingZeros : En Tryz.prog 265 := ⟨_, Tryz.func265, by kernel_rfl, rfl⟩
theorem en_math_bits_TrailingZeros64 : En Tryz.prog 266 := ⟨_, Tryz.func266, by kernel_rfl, rfl⟩
theorem en_assayerlaw02_IntsPairs : En Tryz.prog 3 := ⟨_, Tryz.func3, by kernel_rfl, rfl⟩
theorem en_assayerlaw09_NormsFits : En Tryz.prog 4 := ⟨_, Tryz.func4, by kernel_rfl, rfl⟩
theorem en_assayerlaw01_NatsDivs : En Tryz.prog 5 := ⟨_, Tryz.func5, by kernel_rfl, rfl⟩
theorem en_assayerlaw03_RatsMakes : En Tryz.prog 6 := ⟨_, Tryz.func6, by kernel_rfl, rfl⟩
theorem en_assayerlaw16_PivotsFind : En Tryz.prog 7 := ⟨_, Tryz.func7, by kernel_rfl, rfl⟩
theorem en_assayerlaw04_VecsAdds : En Tryz.prog 8 := ⟨_, Tryz.func8, by kernel_rfl, rfl⟩
theorem en_assayerlaw03_RatsPairs : En Tryz.prog 9 := ⟨_, Tryz.func9, by kernel_rfl, rfl⟩
theorem en_assayerlaw02_great : En Tryz.prog 10 := ⟨_, Tryz.func10, by kernel_rfl, rfl⟩
theorem en_assayerlaw01_NormSize : En Tryz.prog 28 := ⟨_, Tryz.func28, by kernel_rfl, rfl⟩
theorem en_assayerlaw01_TwinNorm : En Tryz.prog 30 := ⟨_, Tryz.func30, by kernel_rfl, rfl⟩
theorem en_norms_Check : En Tryz.prog 32 := ⟨_, Tryz.func32, by kernel_rfl, rfl⟩
theorem en_assayerref09_Check : En Tryz.prog 33 := ⟨_, Tryz.func33, by kernel_rfl, rfl⟩
theorem en_norms_Fits : En Tryz.prog 34 := ⟨_, Tryz.func34, by kernel_rfl, rfl⟩
theorem en_assayerref09_Fits : En Tryz.prog 35 := ⟨_, Tryz.func35, by kernel_rfl, rfl⟩
theorem en_norms_Whole : En Tryz.prog 36 := ⟨_, Tryz.func36, by kernel_rfl, rfl⟩
theorem en_assayerref09_Whole : En Tryz.prog 37 := ⟨_, Tryz.func37, by kernel_rfl, rfl⟩
theorem en_assayerlaw01_LeftNorm : En Tryz.prog 38 := ⟨_, Tryz.func38, by kernel_rfl, rfl⟩
theorem en_assayerref03_Make : En Tryz.prog 49 := ⟨_, Tryz.func49, by kernel_rfl, rfl⟩
theorem en_assayerlaw16_great : En Tryz.prog 54 := ⟨_, Tryz.func54, by kernel_rfl, rfl⟩
theorem en_assayerlaw16_lives : En Tryz.prog 55 := ⟨_, Tryz.func55, by kernel_rfl, rfl⟩
theorem en_assayerlaw01_TwinGrid : En Tryz.prog 56 := ⟨_, Tryz.func56, by kernel_rfl, rfl⟩
theorem en_assayerlaw01_TwinInts : En Tryz.prog 57 := ⟨_, Tryz.func57, by kernel_rfl, rfl⟩
theorem en_pivots_Least : En Tryz.prog 58 := ⟨_, Tryz.func58, by kernel_rfl, rfl⟩
theorem en_assayerref16_Least : En Tryz.prog 59 := ⟨_, Tryz.func59, by kernel_rfl, rfl⟩
theorem en_pivots_First : En Tryz.prog 60 := ⟨_, Tryz.func60, by kernel_rfl, rfl⟩
theorem en_assayerref16_First : En Tryz.prog 61 := ⟨_, Tryz.func61, by kernel_rfl, rfl⟩
theorem en_assayerlaw01_LeftGrid : En Tryz.prog 62 := ⟨_, Tryz.func62, by kernel_rfl, rfl⟩
theorem en_assayerlaw01_LeftInts : En Tryz.prog 63 := ⟨_, Tryz.func63, by kernel_rfl, rfl⟩
theorem en_assayerlaw04_great : En Tryz.prog 64 := ⟨_, Tryz.func64, by kernel_rfl, rfl⟩
theorem en_assayerref04_Add : En Tryz.prog 68 := ⟨_, Tryz.func68, by kernel_rfl, rfl⟩
theorem en_assayerref04_Scale : En Tryz.prog 70 := ⟨_, Tryz.func70, by kernel_rfl, rfl⟩
theorem en_assayerlaw03_great : En Tryz.prog 73 := ⟨_, Tryz.func73, by kernel_rfl, rfl⟩
theorem en_assayerref03_Div : En Tryz.prog 78 := ⟨_, Tryz.func78, by kernel_rfl, rfl⟩
theorem en_assayerref03_Sign : En Tryz.prog 82 := ⟨_, Tryz.func82, by kernel_rfl, rfl⟩
theorem en_assayerref03_Add : En Tryz.prog 83 := ⟨_, Tryz.func83, by kernel_rfl, rfl⟩
theorem en_assayerref03_Sub : En Tryz.prog 84 := ⟨_, Tryz.func84, by kernel_rfl, rfl⟩
theorem en_assayerref03_Mul : En Tryz.prog 85 := ⟨_, Tryz.func85, by kernel_rfl, rfl⟩
theorem en_assayerlaw01_BoolsSize : En Tryz.prog 138 := ⟨_, Tryz.func138, by kernel_rfl, rfl⟩
theorem en_assayerlaw01_TwinBools : En Tryz.prog 140 := ⟨_, Tryz.func140, by kernel_rfl, rfl⟩
theorem en_norms_Check_1 : En Tryz.prog 143 := ⟨_, Tryz.func143, by kernel_rfl, rfl⟩
theorem en_assayerref04_Check : En Tryz.prog 144 := ⟨_, Tryz.func144, by kernel_rfl, rfl⟩
theorem en_norms_may : En Tryz.prog 145 := ⟨_, Tryz.func145, by kernel_rfl, rfl⟩
theorem en_assayerref09_may : En Tryz.prog 147 := ⟨_, Tryz.func147, by kernel_rfl, rfl⟩
theorem en_assayerref04_Dot : En Tryz.prog 148 := ⟨_, Tryz.func148, by kernel_rfl, rfl⟩
theorem en_rats_Whole : En Tryz.prog 149 := ⟨_, Tryz.func149, by kernel_rfl, rfl⟩
theorem en_assayerref03_Whole : En Tryz.prog 150 := ⟨_, Tryz.func150, by kernel_rfl, rfl⟩
theorem en_assayerlaw01_LeftBools : En Tryz.prog 151 := ⟨_, Tryz.func151, by kernel_rfl, rfl⟩
theorem en_assayerref03_lowest : En Tryz.prog 176 := ⟨_, Tryz.func176, by kernel_rfl, rfl⟩
theorem en_pivots_Pivot : En Tryz.prog 179 := ⟨_, Tryz.func179, by kernel_rfl, rfl⟩
theorem en_assayerlaw14_Of : En Tryz.prog 180 := ⟨_, Tryz.func180, by kernel_rfl, rfl⟩
theorem en_pivots_grid : En Tryz.prog 182 := ⟨_, Tryz.func182, by kernel_rfl, rfl⟩
theorem en_pivots_Least_1 : En Tryz.prog 183 := ⟨_, Tryz.func183, by kernel_rfl, rfl⟩
theorem en_slices_MinFunc_Lint_int : En Tryz.prog 184 := ⟨_, Tryz.func184, by kernel_rfl, rfl⟩
theorem en_pivots_Least_2 : En Tryz.prog 185 := ⟨_, Tryz.func185, by kernel_rfl, rfl⟩
theorem en_cmp_Or_int : En Tryz.prog 186 := ⟨_, Tryz.func186, by kernel_rfl, rfl⟩
theorem en_cmp_Compare_int : En Tryz.prog 187 := ⟨_, Tryz.func187, by kernel_rfl, rfl⟩
theorem en_assayerref16_grid : En Tryz.prog 188 := ⟨_, Tryz.func188, by kernel_rfl, rfl⟩
theorem en_assayerref03_Neg : En Tryz.prog 202 := ⟨_, Tryz.func202, by kernel_rfl, rfl⟩
theorem en_assayerlaw14_of : En Tryz.prog 244 := ⟨_, Tryz.func244, by kernel_rfl, rfl⟩
theorem en_cmp_isNaN_int : En Tryz.prog 246 := ⟨_, Tryz.func246, by kernel_rfl, rfl⟩
theorem en_assayerref05_Check : En Tryz.prog 247 := ⟨_, Tryz.func247, by kernel_rfl, rfl⟩
end Go.Proofs.YtccmicegihlfbaaGreatDoor

/- Regions that draw their order: what only reads is taken first; the rest comes up one by one. Printed by mkdraw.py out of the single steps. -/
namespace Go.Proofs.YtccmicegihlfbaaGreatDoor
open Go.RowKit

/-! ### Regions that draw, held by a condition that need not outlive the last operation -/
section
variable {m : Nat} {P : Program} {ops : Array Oper} {Q : Exit → Act → World → Prop} {md : Region.Mode} {S : World → Prop}
theorem sem_wide (o : Oper) (ρ : Operand → Value) : o.semAt Fence.wide.round ρ = execOp ρ o := rfl
theorem YieldsIf.opIn {i : Nat} {o : Oper} {v : Value} {a : Act} (hi : ops[i]? = some o) (hy : YieldsIf P ops S o v a)
    {K : Act → World → Prop} {w : World} (hS : S w) (h : K (a.put o.dst v) w) : wpOpIn Fence.wide m P ops Q i K a w := by
  unfold Go.wpOpIn
  simp only [hi]
  rcases hy with ⟨hw, hv⟩ | ⟨hw, rfl⟩
  · simp only [hw, if_true, Oper.wpIn, sem_wide, hv w hS, Oper.uponIn]; exact ⟨fun _ _ => trivial, h⟩
  · simp only [hw, Bool.false_eq_true, if_false]; exact ⟨fun _ _ => trivial, h⟩
theorem wpOpIn_putIf {j : Nat} {oi oj : Oper} {v : Value} (hj : ops[j]? = some oj) (hap : oi.apart ops oj = true)
    (hsi : ∀ cs b, oi.op ≠ .select cs b) (hsj : ∀ cs b, oj.op ≠ .select cs b)
    (hQ : ∀ c a w, Q (.panic c) (a.put oi.dst v) w → Q (.panic c) a w) {K : Act → World → Prop} {a : Act} {w : World}
    (hy : YieldsIf P ops S oi v a) (h : wpOpIn Fence.wide m P ops Q j K (a.put oi.dst v) w) :
    wpOpIn Fence.wide m P ops Q j (fun a' w' => YieldsIf P ops S oi v a' ∧ K (a'.put oi.dst v) w') a w := by
  obtain ⟨h1, h2, h3⟩ := Oper.apart_spec hap
  have keep : ∀ (a : Act), YieldsIf P ops S oi v a → ∀ u, YieldsIf P ops S oi v (a.put oj.dst u) := fun a hy u =>
    hy.of_same (execOp_put oi hsi a oj.dst u h3) (wanted_put oi a oj.dst u h3)
  have keepD : ∀ d, YieldsIf P ops S oi v { a with defers := d :: a.defers } := fun d => hy.of_same rfl rfl
  unfold wpOpIn at *
  simp only [hj] at *
  rw [wanted_put oj a oi.dst v h1] at h
  split
  · rename_i hw
    simp only [hw, if_true] at h
    unfold Oper.wpIn at *
    refine ⟨fun _ _ => trivial, ?_⟩
    have h := h.2
    rw [sem_wide, execOp_put oj hsj a oi.dst v h1] at h
    rw [sem_wide]
    generalize (execOp a.eval oj).run P w = r at *
    cases r with
    | ok x w' =>
      cases x <;> simp only [Oper.uponIn] at h ⊢
      case value u => exact ⟨keep a hy u, by rw [← Act.put_comm a v u h2]; exact h⟩
      case skip => exact ⟨keep a hy _, by rw [← Act.put_comm a v undef h2]; exact h⟩
      case defer d =>
        refine ⟨keep _ (keepD d) _, ?_⟩
        rw [← Act.put_comm _ v undef h2, ← Act.put_defers]
        exact h
      case enter f args =>
        refine ⟨h.1, CallsIn.mono h.2 fun e w'' he => ?_⟩
        cases e with
        | returned u => exact ⟨keep a hy u, by rw [← Act.put_comm a v u h2]; exact he⟩
        | panicked c => exact hQ _ _ _ he
        | outgrown => exact he
      case row row args => exact ⟨h.1, RowsIn.mono h.2 fun u w'' he => ⟨keep a hy u, by rw [← Act.put_comm a v u h2]; exact he⟩⟩
      case round l f tmps assign body =>
        refine ⟨h.1, RoundIn.mono h.2 fun e w'' he => ?_⟩
        cases e with
        | returned u => exact ⟨keep a hy u, by rw [← Act.put_comm a v u h2]; exact he⟩
        | panicked c => exact hQ _ _ _ he
        | outgrown => exact he
    | halt x w' =>
      cases x <;> simp only [Oper.uponIn] at h ⊢
      case panic u => exact hQ _ _ _ h
  · rename_i hw
    simp only [hw] at h
    exact ⟨fun _ _ => trivial, keep a hy _, by rw [← Act.put_comm a v undef h2]; exact h.2⟩

/-- i comes ahead of j. -/
def ahead (md : Region.Mode) (ops : Array Oper) : Nat → Nat → Nat → Bool
  | 0, _, _ => false
  | f + 1, i, j => match ops[j]? with | some o => o.after.any fun e => Region.binds md e && (e.on == i || ahead md ops f i e.on) | none => false
/-- An operation that each other one comes ahead of, or waits for. -/
def lastOp (md : Region.Mode) (ops : Array Oper) (f i : Nat) : Bool := (List.range ops.size).all fun j => j == i || (ahead md ops f j i || match ops[j]? with | some o => o.after.any fun e => Region.binds md e && e.on == i | none => false)
/-- What is listed, what it waits for is. -/
def closedL (md : Region.Mode) (ops : Array Oper) (listed : Array Bool) : Prop := ∀ x o, ops[x]? = some o → listed.getD x false = true → ∀ e ∈ o.after, Region.binds md e = true → listed.getD e.on false = true
theorem closedL.start (n : Nat) : closedL md ops (Array.replicate n false) := fun x o _ h => by
  rw [Array.getD_eq_getD_getElem?] at h
  by_cases hx : x < n
  · simp [hx] at h
  · simp [hx] at h
theorem closedL.add {listed : Array Bool} {i : Nat} (h : closedL md ops listed) (hi : i ∈ Region.ready md ops listed) : closedL md ops (listed.setIfInBounds i true) := by
  obtain ⟨h0, oi, hoi, hall⟩ := mem_ready.1 hi
  have mono : ∀ y, listed.getD y false = true → (listed.setIfInBounds i true).getD y false = true := fun y hy => by
    by_cases e : i = y
    · subst e
      have hlt : i < listed.size := by
        rcases Nat.lt_or_ge i listed.size with h | h
        · exact h
        · rw [Array.getD_eq_getD_getElem?] at hy; simp [Array.getElem?_eq_none h] at hy
      rw [Array.getD_eq_getD_getElem?]
      simp [hlt]
    · rw [getD_set_ne false e]; exact hy
  intro x o ho hx e he hb
  by_cases hxi : i = x
  · subst hxi
    rw [hoi] at ho
    cases ho
    exact mono _ (hall e he hb)
  · rw [getD_set_ne false hxi] at hx
    exact mono _ (h x o ho hx e he hb)
theorem ahead_listed {listed : Array Bool} (h : closedL md ops listed) {f i j : Nat} {o : Oper} (ho : ops[j]? = some o) (hp : ∀ e ∈ o.after, Region.binds md e = true → listed.getD e.on false = true) (ha : ahead md ops f i j = true) : listed.getD i false = true := by
  induction f generalizing j o with
  | zero => cases ha
  | succ f ih =>
    simp only [ahead, ho, Array.any_eq_true, Bool.and_eq_true, Bool.or_eq_true, beq_iff_eq] at ha
    obtain ⟨k, hk, hb, he⟩ := ha
    have h1 := hp _ (Array.getElem_mem hk) hb
    rcases he with he | he
    · rw [← he]; exact h1
    · cases hx : ops[(o.after[k]).on]? with
      | none => 
        cases f with
        | zero => cases he
        | succ f => simp [ahead, hx] at he
      | some ox => exact ih hx (fun e he' hb' => h _ _ hx h1 e he' hb') he
/-- Whatever order is picked from here on; S holds behind every operation that is carried out, but for the last. -/
def wpAnyL (m : Nat) (P : Program) (md : Region.Mode) (ops : Array Oper) (Q : Exit → Act → World → Prop) (S : World → Prop) : Nat → Array Bool → Act → World → Prop
  | 0, listed, a, w => Region.ready md ops listed = [] ∧ Q .normal a w
  | fuel + 1, listed, a, w =>
    (Region.ready md ops listed = [] → Q .normal a w) ∧
    ∀ i ∈ Region.ready md ops listed, wpOpIn Fence.wide m P ops Q i (fun a' w' => ((∃ f, lastOp md ops f i = true) ∨ S w') ∧ wpAnyL m P md ops Q S fuel (listed.setIfInBounds i true) a' w') a w
theorem wpAnyIn_of_L : ∀ (fuel : Nat) (listed : Array Bool) (a : Act) (w : World), wpAnyL m P md ops Q S fuel listed a w → wpAnyIn Fence.wide m P md ops Q fuel listed a w
  | 0, _, _, _, h => h
  | fuel + 1, _, _, _, h => ⟨h.1, fun i hi => wpOpIn_mono (fun a' w' h' => wpAnyIn_of_L fuel _ a' w' h'.2) (h.2 i hi)⟩
theorem wpAnyL_first {i : Nat} {oi : Oper} {v : Value} (hi : ops[i]? = some oi) (hsel : ∀ (j : Nat) (o : Oper) cs b, ops[j]? = some o → o.op ≠ .select cs b)
    (hQ : ∀ c a w, Q (.panic c) (a.put oi.dst v) w → Q (.panic c) a w) :
    ∀ (fuel : Nat) (listed : Array Bool) (a : Act) (w : World),
      (∀ j oj, ops[j]? = some oj → j ≠ i → listed.getD j true = false → (∀ e ∈ oj.after, Region.binds md e = true → e.on ≠ i) → oi.apart ops oj = true) →
      i ∈ Region.ready md ops listed → closedL md ops listed → YieldsIf P ops S oi v a → S w →
      wpAnyL m P md ops Q S fuel (listed.setIfInBounds i true) (a.put oi.dst v) w → wpAnyL m P md ops Q S (fuel + 1) listed a w := by
  intro fuel
  induction fuel with
  | zero =>
    intro listed a w _ hr hcl hy hS H
    refine ⟨fun h => (by rw [h] at hr; cases hr), fun j hj => ?_⟩
    by_cases hji : j = i
    · subst hji; exact YieldsIf.opIn hi hy hS ⟨.inr hS, H⟩
    · have := ready_mono hj hji
      rw [H.1] at this
      cases this
  | succ fuel ih =>
    intro listed a w hfree hr hcl hy hS H
    refine ⟨fun h => (by rw [h] at hr; cases hr), fun j hj => ?_⟩
    by_cases hji : j = i
    · subst hji; exact YieldsIf.opIn hi hy hS ⟨.inr hS, H⟩
    · have h1 := H.2 j (ready_mono hj hji)
      obtain ⟨hjun, oj, hoj, hall⟩ := mem_ready.1 hj
      have hnot : ∀ e ∈ oj.after, Region.binds md e = true → e.on ≠ i := fun e he hb heq => by
        have h1 := hall e he hb
        have h0 := (mem_ready.1 hr).1
        rw [heq] at h1
        rcases Nat.lt_or_ge i listed.size with h' | h'
        · simp [h'] at h0 h1; rw [h0] at h1; cases h1
        · simp [Array.getElem?_eq_none h'] at h1
      have hnl : ∀ f, lastOp md ops f j = true → False := fun f hl => by
        have hlt : i < ops.size := (Array.getElem?_eq_some_iff.1 hi).1
        have := List.all_eq_true.1 hl i (List.mem_range.2 hlt)
        rw [hi] at this
        simp only [Bool.or_eq_true, beq_iff_eq, Array.any_eq_true, Bool.and_eq_true] at this
        obtain ⟨hiun, oi', hoi', halli⟩ := mem_ready.1 hr
        have fin : ∀ y, listed.getD y true = false → listed.getD y false = true → False := fun y h1 h2 => by
          rcases Nat.lt_or_ge y listed.size with h' | h'
          · simp [h'] at h1 h2; rw [h1] at h2; cases h2
          · simp [Array.getElem?_eq_none h'] at h1
        rcases this with h | h | ⟨k, hk, hb, he⟩
        · exact hji h.symm
        · exact fin i hiun (ahead_listed hcl hoj hall h)
        · rw [hi] at hoi'
          cases hoi'
          exact fin j hjun (he ▸ halli _ (Array.getElem_mem hk) hb)
      have h2 := wpOpIn_putIf hoj (hfree j oj hoj hji hjun hnot) (fun cs b => hsel i oi cs b hi) (fun cs b => hsel j oj cs b hoj) hQ hy h1
      have hfree' : ∀ k ok, ops[k]? = some ok → k ≠ i → (listed.setIfInBounds j true).getD k true = false →
          (∀ e ∈ ok.after, Region.binds md e = true → e.on ≠ i) → oi.apart ops ok = true := fun k ok hk hki hun hno => by
        refine hfree k ok hk hki ?_ hno
        by_cases hjk : j = k
        · subst hjk; exact hjun
        · rw [getD_set_ne true hjk] at hun; exact hun
      refine wpOpIn_mono (fun a' w' h3 => ?_) h2
      have hS' : S w' := by
        rcases h3.2.1 with ⟨f, h⟩ | h
        · exact (hnl f h).elim
        · exact h
      refine ⟨.inr hS', ih (listed.setIfInBounds j true) a' w' hfree' (ready_mono hr (Ne.symm hji)) (hcl.add hj) h3.1 hS' ?_⟩
      rw [Array.setIfInBounds_comm _ _ hji]
      exact h3.2.2
theorem wpAnyL_take {i : Nat} {oi : Oper} {v : Value} {fuel : Nat} {listed : Array Bool} {a : Act} {w : World} (hi : ops[i]? = some oi)
    (hs : Region.noSelect ops = true) (hf : Region.free md ops listed i = true) (hr : (Region.ready md ops listed).contains i = true)
    (hQ : ∀ c a w, Q (.panic c) (a.put oi.dst v) w → Q (.panic c) a w) (hcl : closedL md ops listed) (hy : YieldsIf P ops S oi v a) (hS : S w)
    (h : wpAnyL m P md ops Q S fuel (listed.setIfInBounds i true) (a.put oi.dst v) w) : wpAnyL m P md ops Q S (fuel + 1) listed a w :=
  wpAnyL_first hi (Region.noSelect_spec hs) hQ fuel listed a w (Region.free_spec hi hf) (by simpa using hr) hcl hy hS h
theorem wpAnyL_all {rs : List Nat} {fuel : Nat} {listed : Array Bool} {a : Act} {w : World} (hr : Region.ready md ops listed = rs) (hne : rs ≠ [])
    (h : ∀ i ∈ rs, wpOpIn Fence.wide m P ops Q i (fun a' w' => ((∃ f, lastOp md ops f i = true) ∨ S w') ∧ wpAnyL m P md ops Q S fuel (listed.setIfInBounds i true) a' w') a w) : wpAnyL m P md ops Q S (fuel + 1) listed a w :=
  ⟨fun h0 => absurd (hr ▸ h0) hne, hr ▸ h⟩
theorem wpAnyL_done {listed : Array Bool} {a : Act} {w : World} (hr : Region.ready md ops listed = []) (h : Q .normal a w) :
    ∀ fuel, wpAnyL m P md ops Q S fuel listed a w
  | 0 => ⟨hr, h⟩
  | _ + 1 => ⟨fun _ => h, by rw [hr]; simp⟩
end

def DRW (P : Program) (n : NF) (ops : Array Oper) (K : (Nat → Value) → World → Prop) (S : World → Prop) (fuel : Nat) (listed : Array Bool) (σ : Nat → Value) (w : World) : Prop :=
  closedL .any ops listed → ∀ m, wpAnyL m P .any ops (fun e a w => e = .normal ∧ ∃ σ', a = act n σ' ∧ K σ' w) S fuel listed (act n σ) w
section
variable {P : Program} {n : NF} {ops : Array Oper} {K : (Nat → Value) → World → Prop} {S : World → Prop} {σ : Nat → Value} {w : World} {i fuel : Nat} {listed listed2 : Array Bool}
theorem D_begin {id : Nat} {Q : SPost} (hm : P.follows .mixedOrders = true) {m : Nat} (hsz : ops.size = m) {l0 : Array Bool} (hl0 : Array.replicate m false = l0) (S : World → Prop)
    (h : ∀ w1, Below w.heap.size w w1 → w1.heap.size = w.heap.size → DRW P n ops (fun σ w => Q .normal σ w) S m l0 σ w1) : WP P n (.region id ops true) Q σ w := by
  unfold WP
  subst hsz
  subst hl0
  have := h { w with drawn := w.drawn + 1 } ⟨rfl, rfl, rfl, Nat.le_refl _, fun _ _ => rfl⟩ rfl
  unfold DRW at this
  refine wp_mono (wpIn_wide.1 (wpIn_region_any hm (wpAnyIn_of_L (m := 0) _ _ _ _ (this (closedL.start _) 0)))) ?_
  rintro e a w' ⟨rfl, σ', rfl, hq⟩
  exact ⟨σ', rfl, hq⟩
theorem D_begin_ {id : Nat} {Q : SPost} (hm : P.follows .mixedOrders = true) {m : Nat} (hsz : ops.size = m) {l0 : Array Bool} (hl0 : Array.replicate m false = l0)
    (h : ∀ w1, Below w.heap.size w w1 → w1.heap.size = w.heap.size → DRW P n ops (fun σ w => Q .normal σ w) (fun w_ => Below w1.heap.size w1 w_) m l0 σ w1) : WP P n (.region id ops true) Q σ w := by
  unfold WP
  subst hsz
  subst hl0
  have := h { w with drawn := w.drawn + 1 } ⟨rfl, rfl, rfl, Nat.le_refl _, fun _ _ => rfl⟩ rfl
  unfold DRW at this
  refine wp_mono (wpIn_wide.1 (wpIn_region_any hm (wpAnyIn_of_L (m := 0) _ _ _ _ (this (closedL.start _) 0)))) ?_
  rintro e a w' ⟨rfl, σ', rfl, hq⟩
  exact ⟨σ', rfl, hq⟩
/-- Which operations are done: a number's bits. -/
def bm (n k : Nat) : Array Bool := ((List.range n).map k.testBit).toArray
/-- What is asked of a quiet operation's turn. -/
def drq (ops : Array Oper) (listed : Array Bool) (i : Nat) (listed2 : Array Bool) : Bool := Region.noSelect ops && Region.free .any ops listed i && (Region.ready .any ops listed).contains i && decide (listed.setIfInBounds i true = listed2)
theorem drq_get {ops : Array Oper} {listed listed2 : Array Bool} {i : Nat} (h : drq ops listed i listed2 = true) : Region.noSelect ops = true ∧ Region.free .any ops listed i = true ∧ (Region.ready .any ops listed).contains i = true ∧ listed.setIfInBounds i true = listed2 := by
  unfold drq at h
  rw [Bool.and_eq_true, Bool.and_eq_true, Bool.and_eq_true, decide_eq_true_eq] at h
  exact ⟨h.1.1.1, h.1.1.2, h.1.2, h.2⟩
theorem D_take {o : Oper} {d : Nat} {v : Value} (hq : drq ops listed i listed2 = true)
    (ho : ops[i]? = some o) (hw : wg n ops σ o.guard = true) (hd : o.dst = some d) (hy : ∀ w, S w → (execOp (act n σ).eval o).run P w = .ok (.value v) w) (hS : S w)
    (h : DRW P n ops K S fuel listed2 (upd σ d v) w) : DRW P n ops K S (fuel + 1) listed σ w := by
  obtain ⟨hs, hf, hr, hl2⟩ := drq_get hq
  unfold DRW at *
  subst hl2
  intro hcl m
  have h := h (hcl.add (by simpa using hr))
  refine wpAnyL_take ho hs hf hr (fun c a w h => by cases h.1) hcl (v := v) (.inl ⟨by rw [wanted_wg, hw], hy⟩) hS ?_
  rw [hd, put_act]
  exact h m
theorem D_off {o : Oper} {d : Nat} (hq : drq ops listed i listed2 = true)
    (ho : ops[i]? = some o) (hw : wg n ops σ o.guard = false) (hd : o.dst = some d) (hS : S w)
    (h : DRW P n ops K S fuel listed2 (upd σ d undef) w) : DRW P n ops K S (fuel + 1) listed σ w := by
  obtain ⟨hs, hf, hr, hl2⟩ := drq_get hq
  unfold DRW at *
  subst hl2
  intro hcl m
  have h := h (hcl.add (by simpa using hr))
  refine wpAnyL_take ho hs hf hr (fun c a w h => by cases h.1) hcl (v := undef) (.inr ⟨by rw [wanted_wg, hw], rfl⟩) hS ?_
  rw [hd, put_act]
  exact h m
theorem D_skip {d : Nat} {op : Op} {t : TypeId} {p : String} {af : Array Edge} {gd : Option (Nat × Bool)} (hq : drq ops listed i listed2 = true)
    (ho : ops[i]? = some { dst := some d, op := op, type := t, pos := p, after := af, guard := gd }) (hw : wg n ops σ gd = false) (hS : S w)
    (h : DRW P n ops K S fuel listed2 (upd σ d undef) w) : DRW P n ops K S (fuel + 1) listed σ w := D_off hq ho hw rfl hS h
theorem wpOpIn_monoQ {m : Nat} {Q Q' : Exit → Act → World → Prop} {K' : Act → World → Prop} {a : Act} (hp : ∀ c a w, Q (.panic c) a w → Q' (.panic c) a w) (ho : LetsOut Q → LetsOut Q')
    (h : wpOpIn Fence.wide m P ops Q i K' a w) : wpOpIn Fence.wide m P ops Q' i K' a w := by
  unfold wpOpIn at *
  cases hi : ops[i]? with
  | none => simp only [hi] at h ⊢; exact h
  | some o =>
    simp only [hi] at h ⊢
    split at h
    · rename_i hw
      rw [if_pos hw]
      unfold Oper.wpIn at *
      refine ⟨h.1, ?_⟩
      have h := h.2
      generalize (o.semAt Fence.wide.round a.eval).run P w = r at h ⊢
      cases r with
      | ok x w' =>
        cases x <;> simp only [Oper.uponIn] at h ⊢ <;> try exact h
        · refine ⟨h.1, CallsIn.mono h.2 ?_⟩
          intro e w'' he
          cases e with
          | returned v => exact he
          | panicked c => exact hp _ _ _ he
          | outgrown => exact ho he
        · refine ⟨h.1, RoundIn.mono h.2 ?_⟩
          intro e w'' he
          cases e with
          | returned v => exact he
          | panicked c => exact hp _ _ _ he
          | outgrown => exact ho he
      | halt x w' =>
        cases x <;> simp only [Oper.uponIn] at h ⊢ <;> try exact h
        exact hp _ _ _ h
    · rename_i hw
      rw [if_neg hw]
      exact h
/-- One alone may come up. -/
theorem D_only (hr : Region.ready .any ops listed = [i]) (hl2 : listed.setIfInBounds i true = listed2)
    (h : OPS P n ops (fun σ' w' => S w' ∧ DRW P n ops K S fuel listed2 σ' w') [i] σ w) : DRW P n ops K S (fuel + 1) listed σ w := by
  subst hl2
  unfold DRW at *
  intro hcl m
  refine wpAnyL_all hr (by simp) ?_
  intro j hj
  rw [List.mem_singleton] at hj
  subst hj
  unfold OPS at h
  have h := h m
  rw [wpOpsIn_cons] at h
  refine wpOpIn_monoQ ?_ ?_ (wpOpIn_mono ?_ h)
  · rintro c a w ⟨h, _⟩; cases h
  · rintro ⟨a, w, h, _⟩; cases h
  · rintro a w' ⟨_, σ', rfl, h1, h2⟩
    exact ⟨.inr h1, h2 (hcl.add (by rw [hr]; simp)) m⟩
/-- One alone may come up, and it waits for all others: S need not outlive it. -/
theorem D_last (hr : Region.ready .any ops listed = [i]) {f : Nat} (hll : lastOp .any ops f i = true) (hl2 : listed.setIfInBounds i true = listed2)
    (h : OPS P n ops (fun σ' w' => DRW P n ops K S fuel listed2 σ' w') [i] σ w) : DRW P n ops K S (fuel + 1) listed σ w := by
  subst hl2
  unfold DRW at *
  intro hcl m
  refine wpAnyL_all hr (by simp) ?_
  intro j hj
  rw [List.mem_singleton] at hj
  subst hj
  unfold OPS at h
  have h := h m
  rw [wpOpsIn_cons] at h
  refine wpOpIn_monoQ ?_ ?_ (wpOpIn_mono ?_ h)
  · rintro c a w ⟨h, _⟩; cases h
  · rintro ⟨a, w, h, _⟩; cases h
  · rintro a w' ⟨_, σ', rfl, h2⟩
    exact ⟨.inl ⟨f, hll⟩, h2 (hcl.add (by rw [hr]; simp)) m⟩
/-- Two may come up. -/
theorem D_two {j : Nat} {listed3 : Array Bool} (hr : Region.ready .any ops listed = [i, j]) (hl2 : listed.setIfInBounds i true = listed2) (hl3 : listed.setIfInBounds j true = listed3)
    (h : OPS P n ops (fun σ' w' => S w' ∧ DRW P n ops K S fuel listed2 σ' w') [i] σ w) (h2 : OPS P n ops (fun σ' w' => S w' ∧ DRW P n ops K S fuel listed3 σ' w') [j] σ w) : DRW P n ops K S (fuel + 1) listed σ w := by
  subst hl2
  subst hl3
  unfold DRW at *
  intro hcl m
  refine wpAnyL_all hr (by simp) ?_
  intro k hk
  simp only [List.mem_cons, List.not_mem_nil, or_false] at hk
  unfold OPS at h h2
  have h := h m
  have h2 := h2 m
  rw [wpOpsIn_cons] at h h2
  rcases hk with rfl | rfl
  · refine wpOpIn_monoQ ?_ ?_ (wpOpIn_mono ?_ h)
    · rintro c a w ⟨h, _⟩; cases h
    · rintro ⟨a, w, h, _⟩; cases h
    · rintro a w' ⟨_, σ', rfl, h1, h2⟩
      exact ⟨.inr h1, h2 (hcl.add (by rw [hr]; simp)) m⟩
  · refine wpOpIn_monoQ ?_ ?_ (wpOpIn_mono ?_ h2)
    · rintro c a w ⟨h, _⟩; cases h
    · rintro ⟨a, w, h, _⟩; cases h
    · rintro a w' ⟨_, σ', rfl, h1, h2⟩
      exact ⟨.inr h1, h2 (hcl.add (by rw [hr]; simp)) m⟩
/-- Three may come up. -/
theorem D_three {j k : Nat} {listed3 listed4 : Array Bool} (hr : Region.ready .any ops listed = [i, j, k]) (hl2 : listed.setIfInBounds i true = listed2) (hl3 : listed.setIfInBounds j true = listed3) (hl4 : listed.setIfInBounds k true = listed4)
    (h : OPS P n ops (fun σ' w' => S w' ∧ DRW P n ops K S fuel listed2 σ' w') [i] σ w) (h2 : OPS P n ops (fun σ' w' => S w' ∧ DRW P n ops K S fuel listed3 σ' w') [j] σ w) (h3 : OPS P n ops (fun σ' w' => S w' ∧ DRW P n ops K S fuel listed4 σ' w') [k] σ w) : DRW P n ops K S (fuel + 1) listed σ w := by
  subst hl2
  subst hl3
  subst hl4
  unfold DRW at *
  intro hcl m
  refine wpAnyL_all hr (by simp) ?_
  intro q hq
  unfold OPS at h h2 h3
  have h := h m
  have h2 := h2 m
  have h3 := h3 m
  rw [wpOpsIn_cons] at h h2 h3
  simp only [List.mem_cons, List.not_mem_nil, or_false] at hq
  rcases hq with rfl | rfl | rfl
  · refine wpOpIn_monoQ ?_ ?_ (wpOpIn_mono ?_ h)
    · rintro c a w ⟨h, _⟩; cases h
    · rintro ⟨a, w, h, _⟩; cases h
    · rintro a w' ⟨_, σ', rfl, h1, h2⟩
      exact ⟨.inr h1, h2 (hcl.add (by rw [hr]; simp)) m⟩
  · refine wpOpIn_monoQ ?_ ?_ (wpOpIn_mono ?_ h2)
    · rintro c a w ⟨h, _⟩; cases h
    · rintro ⟨a, w, h, _⟩; cases h
    · rintro a w' ⟨_, σ', rfl, h1, h2⟩
      exact ⟨.inr h1, h2 (hcl.add (by rw [hr]; simp)) m⟩
  · refine wpOpIn_monoQ ?_ ?_ (wpOpIn_mono ?_ h3)
    · rintro c a w ⟨h, _⟩; cases h
    · rintro ⟨a, w, h, _⟩; cases h
    · rintro a w' ⟨_, σ', rfl, h1, h2⟩
      exact ⟨.inr h1, h2 (hcl.add (by rw [hr]; simp)) m⟩
/-- A region's end, told once for whatever order. -/
theorem W_cut {c : Code} {Q : SPost} (I : (Nat → Value) → World → Prop) (h : WP P n c (fun e σ w => e = .normal ∧ I σ w) σ w) (hI : ∀ σ w, I σ w → Q .normal σ w) : WP P n c Q σ w := by
  unfold WP at *
  refine wp_mono h ?_
  rintro e a w' ⟨σ', rfl, rfl, hi⟩
  exact ⟨σ', rfl, hI _ _ hi⟩
theorem D_done (hr : Region.ready .any ops listed = []) (h : K σ w) : DRW P n ops K S fuel listed σ w := by
  unfold DRW
  intro hcl m
  exact wpAnyL_done hr ⟨rfl, σ, rfl, h⟩ fuel
attribute [irreducible] DRW
theorem cell_below {w w' : World} (hS : Below w.heap.size w w') {ad : Addr} {v : Value} (hc : w.cell? ad = some v) : w'.cell? ad = some v :=
  (hS.cell (World.block_lt_of_cell? w _ hc)).trans hc

variable {d : Nat} {t : TypeId} {p : String} {af : Array Edge} {gd : Option (Nat × Bool)} {x y : Operand}

theorem D_move (hq : drq ops listed i listed2 = true)
    (ho : ops[i]? = some { dst := some d, op := .move x, type := t, pos := p, after := af, guard := gd }) (hw : wg n ops σ gd = true) (hx : tok n x = true)
    {v : Value} (hv : sv σ x = v) (hS : S w) (h : DRW P n ops K S fuel listed2 (upd σ d v) w) : DRW P n ops K S (fuel + 1) listed σ w :=
  D_take hq ho hw rfl (fun w' _ => by simp [execOp, eval_act hx, hv]) hS h
theorem D_assign (hq : drq ops listed i listed2 = true)
    (ho : ops[i]? = some { dst := some d, op := .assign x, type := t, pos := p, after := af, guard := gd }) (hw : wg n ops σ gd = true) (hx : tok n x = true)
    {v : Value} (hv : sv σ x = v) (hS : S w) (h : DRW P n ops K S fuel listed2 (upd σ d v) w) : DRW P n ops K S (fuel + 1) listed σ w :=
  D_take hq ho hw rfl (fun w' _ => by simp [execOp, eval_act hx, hv]) hS h
theorem D_pick {z : Operand} (hq : drq ops listed i listed2 = true)
    (ho : ops[i]? = some { dst := some d, op := .pick x y z, type := t, pos := p, after := af, guard := gd }) (hw : wg n ops σ gd = true)
    (hx : tok n x = true) (hy : tok n y = true) (hz : tok n z = true)
    {b : Bool} {v : Value} (hb : sv σ x = .bool b) (hv : (if b then sv σ y else sv σ z) = v) (hS : S w) (h : DRW P n ops K S fuel listed2 (upd σ d v) w) : DRW P n ops K S (fuel + 1) listed σ w :=
  D_take hq ho hw rfl (fun w' _ => by simp [execOp, eval_act hx, eval_act hy, eval_act hz, hb, asBool, hv]) hS h
theorem D_not (hq : drq ops listed i listed2 = true)
    (ho : ops[i]? = some { dst := some d, op := .unOp .not t x, type := t, pos := p, after := af, guard := gd }) (hw : wg n ops σ gd = true) (hx : tok n x = true)
    {b : Bool} (hb : sv σ x = .bool b) (hS : S w) (h : DRW P n ops K S fuel listed2 (upd σ d (.bool (!b))) w) : DRW P n ops K S (fuel + 1) listed σ w :=
  D_take hq ho hw rfl (fun w' _ => by simp [execOp, eval_act hx, hb, Op.unary]) hS h

theorem D_bin {op : BinOp} {T T' : TypeId} (hq : drq ops listed i listed2 = true)
    (ho : ops[i]? = some { dst := some d, op := .binOp op T x y T', type := t, pos := p, after := af, guard := gd }) (hw : wg n ops σ gd = true)
    (hx : tok n x = true) (hy : tok n y = true) (hop : binOk op = true) {k : IntKind} {a b : Int} (ha : sv σ x = .int k a) (hb : sv σ y = .int k b)
    {v : Value} (hv : binV op k a b = v) (hS : S w) (h : DRW P n ops K S fuel listed2 (upd σ d v) w) : DRW P n ops K S (fuel + 1) listed σ w := by
  refine D_take hq ho hw rfl (fun w' _ => ?_) hS h
  have := run_bin (P := P) (w := w') (x := x) (y := y) hop (k := k) (a := a) (b := b) T
  subst hv
  simp only [execOp, eval_act hx, eval_act hy, ha, hb]
  rw [Sem.run_bind, this]
  rfl
theorem D_conv {Sr T : TypeId} {k k' : IntKind} {dS : TypeDesc} (hSr : P.underlying Sr = some dS) (hT : P.underlying T = some (.int k')) (hq : drq ops listed i listed2 = true)
    (ho : ops[i]? = some { dst := some d, op := .convert Sr T x, type := t, pos := p, after := af, guard := gd })
    (hw : wg n ops σ gd = true) (hx : tok n x = true) {a : Int} (hv : sv σ x = .int k a) {b : Int} (hb : k'.wrap a = b) (hS : S w) (h : DRW P n ops K S fuel listed2 (upd σ d (.int k' b)) w) : DRW P n ops K S (fuel + 1) listed σ w := by
  subst hb
  refine D_take hq ho hw rfl (fun w' _ => ?_) hS h
  simp only [execOp, eval_act hx, hv, convert]
  cases dS <;> simp [underlying, hSr, hT, Conv.intToInt]
theorem D_extract {j : Nat} (hq : drq ops listed i listed2 = true)
    (ho : ops[i]? = some { dst := some d, op := .extract x j, type := t, pos := p, after := af, guard := gd })
    (hw : wg n ops σ gd = true) (hx : tok n x = true) {vs : Array Value} (hv : sv σ x = .tuple vs) {v : Value} (hj : vs[j]? = some v) (hS : S w) (h : DRW P n ops K S fuel listed2 (upd σ d v) w) : DRW P n ops K S (fuel + 1) listed σ w :=
  D_take hq ho hw rfl (fun w' _ => by simp [execOp, eval_act hx, hv, Instr.extract, hj]) hS h

theorem D_len {T : TypeId} {e : TypeId} (hT : P.underlying T = some (.slice e)) (hq : drq ops listed i listed2 = true)
    (ho : ops[i]? = some { dst := some d, op := .call { callee := .builtin .len, args := #[x], argTypes := #[T] }, type := t, pos := p, after := af, guard := gd })
    (hw : wg n ops σ gd = true) (hx : tok n x = true) {v : Value} (hv : sv σ x = v) {m : Nat} (hl : SlLen v m) (hS : S w) (h : DRW P n ops K S fuel listed2 (upd σ d (.int .i64 m)) w) : DRW P n ops K S (fuel + 1) listed σ w := by
  obtain ⟨A, c, rfl⟩ := hl
  refine D_take hq ho hw rfl (fun w' _ => ?_) hS h
  simp [execOp, resolve, invoke, builtin, Builtin.len_, eval_act hx, hv, underlying, hT, goInt]
theorem D_cap {T : TypeId} {e : TypeId} (hT : P.underlying T = some (.slice e)) (hq : drq ops listed i listed2 = true)
    (ho : ops[i]? = some { dst := some d, op := .call { callee := .builtin .cap, args := #[x], argTypes := #[T] }, type := t, pos := p, after := af, guard := gd })
    (hw : wg n ops σ gd = true) (hx : tok n x = true) {A : Option Addr} {m c : Nat} (hv : sv σ x = .slice A m c) (hS : S w) (h : DRW P n ops K S fuel listed2 (upd σ d (.int .i64 c)) w) : DRW P n ops K S (fuel + 1) listed σ w := by
  refine D_take hq ho hw rfl (fun w' _ => ?_) hS h
  simp [execOp, resolve, invoke, builtin, Builtin.cap_, eval_act hx, hv, underlying, hT, goInt]
theorem D_load {T : TypeId} (hq : drq ops listed i listed2 = true)
    (ho : ops[i]? = some { dst := some d, op := .load T x, type := t, pos := p, after := af, guard := gd }) (hw : wg n ops σ gd = true) (hx : tok n x = true)
    {ad : Addr} (ha : sv σ x = .pointer (some ad)) {v : Value} (hl : ∀ w, S w → LD P w T ad v) (hS : S w) (h : DRW P n ops K S fuel listed2 (upd σ d v) w) : DRW P n ops K S (fuel + 1) listed σ w := by
  refine D_take hq ho hw rfl (fun w' hS' => ?_) hS h
  have hl := hl w' hS'
  unfold LD at hl
  simp [execOp, eval_act hx, ha, Instr.loadAt, Instr.sureAddr, hl]
theorem D_nil (hq : drq ops listed i listed2 = true)
    (ho : ops[i]? = some { dst := some d, op := .nilCheck x, type := t, pos := p, after := af, guard := gd }) (hw : wg n ops σ gd = true) (hx : tok n x = true)
    {ad : Addr} (ha : sv σ x = .pointer (some ad)) (hS : S w) (h : DRW P n ops K S fuel listed2 (upd σ d (.pointer (some ad))) w) : DRW P n ops K S (fuel + 1) listed σ w :=
  D_take hq ho hw rfl (fun w' _ => by simp [execOp, eval_act hx, ha]) hS h

theorem D_field {s : TypeId} {j off : Nat} (hT : FieldT P s j off) (hq : drq ops listed i listed2 = true)
    (ho : ops[i]? = some { dst := some d, op := .fieldAddr s x j, type := t, pos := p, after := af, guard := gd }) (hw : wg n ops σ gd = true) (hx : tok n x = true)
    {g o : Nat} (ha : sv σ x = .pointer (some ⟨g, o, none⟩)) {o' : Nat} (ho' : o + off = o') (hS : S w) (h : DRW P n ops K S fuel listed2 (upd σ d (.pointer (some ⟨g, o', none⟩))) w) : DRW P n ops K S (fuel + 1) listed σ w := by
  obtain ⟨fs, f, i0, h1, h2, h3, h4, h5⟩ := hT.out
  subst ho'
  refine D_take hq ho hw rfl (fun w' _ => ?_) hS h
  simp [execOp, eval_act hx, ha, Instr.fieldAt, underlying, h1, h2, Instr.sureAddr, fieldPlace, sizeOf, typeInfo, h4, h5, h3, add_plain]

/-! ### 4. Slices -/
theorem D_idx {T e : TypeId} {sz by_ : Nat} {z : Value} {ag : Bool} (hT : P.underlying T = some (.slice e)) (he : TI P e sz by_ z ag)
    (hq : drq ops listed i listed2 = true)
    (ho : ops[i]? = some { dst := some d, op := .indexAddr T x y, type := t, pos := p, after := af, guard := gd }) (hw : wg n ops σ gd = true) (hx : tok n x = true) (hy : tok n y = true)
    {v : Value} (hv : sv σ x = v) {k : IntKind} {iz : Int} (hi : sv σ y = .int k iz) {m j : Nat} {ad : Addr} (hp : SlAt v m sz j ad) (hj : iz = (j : Int))
    (hS : S w) (h : DRW P n ops K S fuel listed2 (upd σ d (.pointer (some ad))) w) : DRW P n ops K S (fuel + 1) listed σ w := by
  obtain ⟨ad0, c, rfl, hlt, rfl⟩ := hp
  obtain ⟨i0, hi0, hs, _⟩ := he.info
  subst hj
  refine D_take hq ho hw rfl (fun w' _ => ?_) hS h
  simp [execOp, eval_act hx, eval_act hy, hv, hi, Instr.indexAt, asIntOf, underlying, hT, hlt, sizeOf, typeInfo, hi0, hs]

theorem D_sliceHi {T e : TypeId} {sz by_ : Nat} {z : Value} {ag : Bool} (hT : P.underlying T = some (.slice e)) (he : TI P e sz by_ z ag)
    (hq : drq ops listed i listed2 = true)
    (ho : ops[i]? = some { dst := some d, op := .slice T x none (some y) none, type := t, pos := p, after := af, guard := gd }) (hw : wg n ops σ gd = true) (hx : tok n x = true) (hy : tok n y = true)
    {A : Option Addr} {m c : Nat} (hv : sv σ x = .slice A m c) {k : IntKind} {iz : Int} (hi : sv σ y = .int k iz) {j : Nat} (hj : iz = (j : Int)) (hjc : j ≤ c)
    (hS : S w) (h : DRW P n ops K S fuel listed2 (upd σ d (.slice A j c)) w) : DRW P n ops K S (fuel + 1) listed σ w := by
  obtain ⟨i0, hi0, hs, _⟩ := he.info
  subst hj
  refine D_take hq ho hw rfl (fun w' _ => ?_) hS h
  simp [execOp, eval_act hx, eval_act hy, hv, hi, Instr.sliceAt, Instr.slice, Instr.sliceBounds, run_sliceBound _ hjc, underlying, hT, sizeOf, typeInfo, hi0, hs]
  intro _
  cases A <;> simp [Addr.add]
theorem D_sliceHiMx {T e : TypeId} {sz by_ : Nat} {z : Value} {ag : Bool} {u : Operand} (hT : P.underlying T = some (.slice e)) (he : TI P e sz by_ z ag)
    (hq : drq ops listed i listed2 = true)
    (ho : ops[i]? = some { dst := some d, op := .slice T x none (some y) (some u), type := t, pos := p, after := af, guard := gd }) (hw : wg n ops σ gd = true) (hx : tok n x = true) (hy : tok n y = true) (hu : tok n u = true)
    {A : Option Addr} {m c : Nat} (hv : sv σ x = .slice A m c) {k k' : IntKind} {iz mz : Int} (hi : sv σ y = .int k iz) (hm : sv σ u = .int k' mz) {j q : Nat} (hj : iz = (j : Int)) (hq : mz = (q : Int)) (hjq : j ≤ q) (hqc : q ≤ c)
    (hS : S w) (h : DRW P n ops K S fuel listed2 (upd σ d (.slice A j q)) w) : DRW P n ops K S (fuel + 1) listed σ w := by
  obtain ⟨i0, hi0, hs, _⟩ := he.info
  subst hj
  subst hq
  refine D_take hq ho hw rfl (fun w' _ => ?_) hS h
  simp [execOp, eval_act hx, eval_act hy, eval_act hu, hv, hi, hm, Instr.sliceAt, Instr.slice, Instr.sliceBounds, run_sliceBound _ hjq, run_sliceBound _ hqc, underlying, hT, sizeOf, typeInfo, hi0, hs]
  intro _
  cases A <;> simp [Addr.add]
theorem D_sliceLoHi {T e : TypeId} {sz by_ : Nat} {z : Value} {ag : Bool} {u : Operand} (hT : P.underlying T = some (.slice e)) (he : TI P e sz by_ z ag)
    (hq : drq ops listed i listed2 = true)
    (ho : ops[i]? = some { dst := some d, op := .slice T x (some y) (some u) none, type := t, pos := p, after := af, guard := gd }) (hw : wg n ops σ gd = true) (hx : tok n x = true) (hy : tok n y = true) (hu : tok n u = true)
    {ad : Addr} {m c : Nat} (hv : sv σ x = .slice (some ad) m c) {k k' : IntKind} {lz hz : Int} (hl : sv σ y = .int k lz) (hh : sv σ u = .int k' hz) {l q : Nat} (hj : lz = (l : Int)) (hq : hz = (q : Int)) (hlq : l ≤ q) (hqc : q ≤ c)
    (hS : S w) (h : DRW P n ops K S fuel listed2 (upd σ d (.slice (some (if c = l then ad else ad.add (l * sz))) (q - l) (c - l))) w) : DRW P n ops K S (fuel + 1) listed σ w := by
  obtain ⟨i0, hi0, hs, _⟩ := he.info
  subst hj
  subst hq
  refine D_take hq ho hw rfl (fun w' _ => ?_) hS h
  simp [execOp, eval_act hx, eval_act hy, eval_act hu, hv, hl, hh, Instr.sliceAt, Instr.slice, Instr.sliceBounds, run_sliceBound _ hlq, run_sliceBound _ hqc, underlying, hT, sizeOf, typeInfo, hi0, hs]
  split <;> rfl
theorem D_sliceLo {T e : TypeId} {sz by_ : Nat} {z : Value} {ag : Bool} (hT : P.underlying T = some (.slice e)) (he : TI P e sz by_ z ag)
    (hq : drq ops listed i listed2 = true)
    (ho : ops[i]? = some { dst := some d, op := .slice T x (some y) none none, type := t, pos := p, after := af, guard := gd }) (hw : wg n ops σ gd = true) (hx : tok n x = true) (hy : tok n y = true)
    {A : Option Addr} {m c : Nat} (hv : sv σ x = .slice A m c) {k : IntKind} {lz : Int} (hl : sv σ y = .int k lz) {l : Nat} (hj : lz = (l : Int)) (hlq : l ≤ m)
    (hS : S w) (h : DRW P n ops K S fuel listed2 (upd σ d (.slice (if c = l then A else A.map (·.add (l * sz))) (m - l) (c - l))) w) : DRW P n ops K S (fuel + 1) listed σ w := by
  obtain ⟨i0, hi0, hs, _⟩ := he.info
  subst hj
  refine D_take hq ho hw rfl (fun w' _ => ?_) hS h
  simp [execOp, eval_act hx, eval_act hy, hv, hl, Instr.sliceAt, Instr.slice, Instr.sliceBounds, run_sliceBound _ hlq, underlying, hT, sizeOf, typeInfo, hi0, hs]

theorem D_shr {T T' : TypeId} (hq : drq ops listed i listed2 = true)
    (ho : ops[i]? = some { dst := some d, op := .binOp .shr T x y T', type := t, pos := p, after := af, guard := gd }) (hw : wg n ops σ gd = true)
    (hx : tok n x = true) (hy : tok n y = true) {k yk : IntKind} {a b : Int} (ha : sv σ x = .int k a) (hb : sv σ y = .int yk b) (h0 : 0 ≤ b) {v : Int} (hv : a.fdiv (2 ^ (min b.toNat k.bits)) = v)
    (hS : S w) (h : DRW P n ops K S fuel listed2 (upd σ d (.int k v)) w) : DRW P n ops K S (fuel + 1) listed σ w := by
  subst hv
  refine D_take hq ho hw rfl (fun w' _ => ?_) hS h
  have h0' : ¬ b < 0 := by omega
  simp [execOp, eval_act hx, eval_act hy, ha, hb, eqGuard, binOp, Op.shift, h0']
theorem D_shl {T T' : TypeId} (hq : drq ops listed i listed2 = true)
    (ho : ops[i]? = some { dst := some d, op := .binOp .shl T x y T', type := t, pos := p, after := af, guard := gd }) (hw : wg n ops σ gd = true)
    (hx : tok n x = true) (hy : tok n y = true) {k yk : IntKind} {a b : Int} (ha : sv σ x = .int k a) (hb : sv σ y = .int yk b) (h0 : 0 ≤ b) {v : Int} (hv : k.wrap (a * 2 ^ (min b.toNat k.bits)) = v)
    (hS : S w) (h : DRW P n ops K S fuel listed2 (upd σ d (.int k v)) w) : DRW P n ops K S (fuel + 1) listed σ w := by
  subst hv
  refine D_take hq ho hw rfl (fun w' _ => ?_) hS h
  have h0' : ¬ b < 0 := by omega
  simp [execOp, eval_act hx, eval_act hy, ha, hb, eqGuard, binOp, Op.shift, h0']
theorem D_quo {T T' : TypeId} (hq : drq ops listed i listed2 = true)
    (ho : ops[i]? = some { dst := some d, op := .binOp .quo T x y T', type := t, pos := p, after := af, guard := gd }) (hw : wg n ops σ gd = true)
    (hx : tok n x = true) (hy : tok n y = true) {k : IntKind} {a b : Int} (ha : sv σ x = .int k a) (hb : sv σ y = .int k b) (h0 : b ≠ 0) {v : Int} (hv : k.wrap (a.tdiv b) = v)
    (hS : S w) (h : DRW P n ops K S fuel listed2 (upd σ d (.int k v)) w) : DRW P n ops K S (fuel + 1) listed σ w := by
  subst hv
  refine D_take hq ho hw rfl (fun w' _ => ?_) hS h
  simp [execOp, eval_act hx, eval_act hy, ha, hb, eqGuard, binOp, Op.intDiv, h0]
theorem D_rem {T T' : TypeId} (hq : drq ops listed i listed2 = true)
    (ho : ops[i]? = some { dst := some d, op := .binOp .rem T x y T', type := t, pos := p, after := af, guard := gd }) (hw : wg n ops σ gd = true)
    (hx : tok n x = true) (hy : tok n y = true) {k : IntKind} {a b : Int} (ha : sv σ x = .int k a) (hb : sv σ y = .int k b) (h0 : b ≠ 0) {v : Int} (hv : a.tmod b = v)
    (hS : S w) (h : DRW P n ops K S fuel listed2 (upd σ d (.int k v)) w) : DRW P n ops K S (fuel + 1) listed σ w := by
  subst hv
  refine D_take hq ho hw rfl (fun w' _ => ?_) hS h
  simp [execOp, eval_act hx, eval_act hy, ha, hb, eqGuard, binOp, Op.intDiv, h0]
theorem D_bits {T T' : TypeId} {op : BinOp} (hq : drq ops listed i listed2 = true)
    (ho : ops[i]? = some { dst := some d, op := .binOp op T x y T', type := t, pos := p, after := af, guard := gd }) (hw : wg n ops σ gd = true)
    (hx : tok n x = true) (hy : tok n y = true) (hop : op = .and ∨ op = .or ∨ op = .xor) {k : IntKind} {a b : Int} (ha : sv σ x = .int k a) (hb : sv σ y = .int k b) {v : Int} (hv : bitV op k a b = v)
    (hS : S w) (h : DRW P n ops K S fuel listed2 (upd σ d (.int k v)) w) : DRW P n ops K S (fuel + 1) listed σ w := by
  subst hv
  refine D_take hq ho hw rfl (fun w' _ => ?_) hS h
  rcases hop with rfl | rfl | rfl <;> simp [execOp, eval_act hx, eval_act hy, ha, hb, eqGuard, binOp, Op.intBits, bitV]
theorem D_xor {T : TypeId} (hq : drq ops listed i listed2 = true)
    (ho : ops[i]? = some { dst := some d, op := .unOp .xor T x, type := t, pos := p, after := af, guard := gd }) (hw : wg n ops σ gd = true)
    (hx : tok n x = true) {k : IntKind} {a : Int} (ha : sv σ x = .int k a) {v : Int} (hv : bitV .xor k (if k.signed then -1 else k.max) a = v)
    (hS : S w) (h : DRW P n ops K S fuel listed2 (upd σ d (.int k v)) w) : DRW P n ops K S (fuel + 1) listed σ w := by
  subst hv
  refine D_take hq ho hw rfl (fun w' _ => ?_) hS h
  simp [execOp, eval_act hx, ha, Op.unary, Op.intBits, bitV]
theorem D_max {ats : Array TypeId} (hq : drq ops listed i listed2 = true)
    (ho : ops[i]? = some { dst := some d, op := .call { callee := .builtin .max, args := #[x, y], argTypes := ats }, type := t, pos := p, after := af, guard := gd })
    (hw : wg n ops σ gd = true) (hx : tok n x = true) (hy : tok n y = true) {k : IntKind} {a b : Int} (ha : sv σ x = .int k a) (hb : sv σ y = .int k b) {v : Int} (hv : max a b = v) (hS : S w) (h : DRW P n ops K S fuel listed2 (upd σ d (.int k v)) w) : DRW P n ops K S (fuel + 1) listed σ w := by
  subst hv
  refine D_take hq ho hw rfl (fun w' _ => ?_) hS h
  simp [execOp, resolve, invoke, builtin, Builtin.max_, Builtin.max2, eval_act hx, eval_act hy, ha, hb]
  omega
theorem D_min {ats : Array TypeId} (hq : drq ops listed i listed2 = true)
    (ho : ops[i]? = some { dst := some d, op := .call { callee := .builtin .min, args := #[x, y], argTypes := ats }, type := t, pos := p, after := af, guard := gd })
    (hw : wg n ops σ gd = true) (hx : tok n x = true) (hy : tok n y = true) {k : IntKind} {a b : Int} (ha : sv σ x = .int k a) (hb : sv σ y = .int k b) {v : Int} (hv : min a b = v) (hS : S w) (h : DRW P n ops K S fuel listed2 (upd σ d (.int k v)) w) : DRW P n ops K S (fuel + 1) listed σ w := by
  subst hv
  refine D_take hq ho hw rfl (fun w' _ => ?_) hS h
  simp [execOp, resolve, invoke, builtin, Builtin.min_, Builtin.min2, eval_act hx, eval_act hy, ha, hb]
  omega
theorem D_add64 {T T' : TypeId} (hq : drq ops listed i listed2 = true)
    (ho : ops[i]? = some { dst := some d, op := .binOp .add T x y T', type := t, pos := p, after := af, guard := gd }) (hw : wg n ops σ gd = true)
    (hx : tok n x = true) (hy : tok n y = true) {a b : Int} (ha : sv σ x = .int .i64 a) (hb : sv σ y = .int .i64 b)
    (hr : -9223372036854775808 ≤ a + b ∧ a + b ≤ 9223372036854775807) (hS : S w) (h : DRW P n ops K S fuel listed2 (upd σ d (.int .i64 (a + b))) w) : DRW P n ops K S (fuel + 1) listed σ w :=
  D_bin hq ho hw hx hy rfl ha hb (by simp only [binV]; congr 1; simp [IntKind.wrap, IntKind.bits, IntKind.signed]; omega) hS h
theorem D_sub64 {T T' : TypeId} (hq : drq ops listed i listed2 = true)
    (ho : ops[i]? = some { dst := some d, op := .binOp .sub T x y T', type := t, pos := p, after := af, guard := gd }) (hw : wg n ops σ gd = true)
    (hx : tok n x = true) (hy : tok n y = true) {a b : Int} (ha : sv σ x = .int .i64 a) (hb : sv σ y = .int .i64 b)
    (hr : -9223372036854775808 ≤ a - b ∧ a - b ≤ 9223372036854775807) (hS : S w) (h : DRW P n ops K S fuel listed2 (upd σ d (.int .i64 (a - b))) w) : DRW P n ops K S (fuel + 1) listed σ w :=
  D_bin hq ho hw hx hy rfl ha hb (by simp only [binV]; congr 1; simp [IntKind.wrap, IntKind.bits, IntKind.signed]; omega) hS h
theorem D_mul64 {T T' : TypeId} (hq : drq ops listed i listed2 = true)
    (ho : ops[i]? = some { dst := some d, op := .binOp .mul T x y T', type := t, pos := p, after := af, guard := gd }) (hw : wg n ops σ gd = true)
    (hx : tok n x = true) (hy : tok n y = true) {a b : Int} (ha : sv σ x = .int .i64 a) (hb : sv σ y = .int .i64 b)
    (hr : -9223372036854775808 ≤ a * b ∧ a * b ≤ 9223372036854775807) (hS : S w) (h : DRW P n ops K S fuel listed2 (upd σ d (.int .i64 (a * b))) w) : DRW P n ops K S (fuel + 1) listed σ w :=
  D_bin hq ho hw hx hy rfl ha hb (by simp only [binV]; congr 1; simp [IntKind.wrap, IntKind.bits, IntKind.signed]; omega) hS h
end
end Go.Proofs.YtccmicegihlfbaaGreatDoor

/- Regions and code in whatever frame: in a function's own, or in a round of a range over a function; regions that draw, held by a condition that need not outlive the last operation. -/
namespace Go.Proofs.YtccmicegihlfbaaGreatDoor
open Go.RowKit

/-- No bound, in a function's own frame or in a round. -/
def FW (ro : Option Nat) : Fence := { fn := fun _ => True, depth := none, alive := false, round := ro }
theorem FW_wide : FW none = Fence.wide := rfl
theorem FW_round (l : Nat) : FW (some l) = Fence.wide.inRound l := rfl
def noDefer (ops : Array Oper) : Bool := ops.toList.all fun o => match o.op with | .defer _ => false | _ => true
theorem noDefer_spec {ops : Array Oper} (h : noDefer ops = true) {i : Nat} {o : Oper} (ho : ops[i]? = some o) : ∀ c, o.op ≠ .defer c := by
  intro c hc
  have hm : o ∈ ops.toList := by
    obtain ⟨hi, rfl⟩ := Array.getElem?_eq_some_iff.1 ho
    simp
  have := List.all_eq_true.1 h o hm
  rw [hc] at this
  simp at this
section
variable {ro : Option Nat} {m : Nat} {P : Program} {ops : Array Oper} {Q Q0 : Exit → Act → World → Prop}
theorem wpOpIn_of {i : Nat} {K : Act → World → Prop} {a : Act} {w : World} (hd : noDefer ops = true) (hQ : ∀ e a w, Q0 e a w → e = .normal) (h : wpOpIn Fence.wide m P ops Q0 i K a w) : wpOpIn (FW ro) m P ops Q i K a w := by
  unfold wpOpIn at *
  cases hi : ops[i]? with
  | none => simp only [hi] at h ⊢; exact h
  | some o =>
    simp only [hi] at h ⊢
    split at h
    · rename_i hw
      rw [if_pos hw]
      refine ⟨fun f _ => trivial, ?_⟩
      have h := h.2
      rw [Oper.semAt_eq _ _ _ (noDefer_spec hd hi)] at h ⊢
      generalize (execOp a.eval o).run P w = r at h ⊢
      cases r with
      | ok x w' =>
        cases x <;> simp only [Oper.uponIn] at h ⊢ <;> try exact h
        · refine ⟨fun h => by simp [FW] at h, CallsIn.mono (R := _) (show CallsIn (FW ro) (m - 1) P _ _ _ _ from h.2) ?_⟩
          intro e w'' he
          cases e with
          | returned v => exact he
          | panicked c => exact absurd (hQ _ _ _ he) (by simp)
          | outgrown => obtain ⟨a, w, he⟩ := he; exact absurd (hQ _ _ _ he) (by simp)
        · refine ⟨fun h => by simp [FW] at h, RoundIn.mono (R := _) (show RoundIn (FW ro) (m - 1) P _ _ _ _ _ _ _ from h.2) ?_⟩
          intro e w'' he
          cases e with
          | returned v => exact he
          | panicked c => exact absurd (hQ _ _ _ he) (by simp)
          | outgrown => obtain ⟨a, w, he⟩ := he; exact absurd (hQ _ _ _ he) (by simp)
      | halt x w' =>
        cases x <;> simp only [Oper.uponIn] at h ⊢ <;> first | exact h | exact absurd (hQ _ _ _ h) (by simp)
    · rename_i hw
      rw [if_neg hw]
      exact ⟨fun f _ => trivial, h.2⟩
theorem wpOpsIn_of {l : List Nat} {a : Act} {w : World} (hd : noDefer ops = true) (hQ : ∀ e a w, Q e a w → e = .normal) (h : wpOpsIn Fence.wide m P ops Q l a w) : wpOpsIn (FW ro) m P ops Q l a w := by
  induction l generalizing a w with
  | nil => exact h
  | cons i l ih =>
    rw [wpOpsIn_cons] at h ⊢
    exact wpOpIn_of hd hQ (wpOpIn_mono (fun a w h => ih h) h)
end

/-! ### Code in a function's own frame (ro = none) or in a round (some l) -/
def WPI (ro : Option Nat) (P : Program) (n : NF) (c : Code) (Q : SPost) (σ : Nat → Value) (w : World) : Prop :=
  ∀ m, c.wpIn (FW ro) m P (fun e a w => ∃ σ', a = act n σ' ∧ Q e σ' w) (act n σ) w
section
variable {ro : Option Nat} {P : Program} {n : NF} {Q : SPost} {σ : Nat → Value} {w : World}
theorem V_mono {c : Code} {Q' : SPost} (h : WPI ro P n c Q σ w) (hq : ∀ e σ w, Q e σ w → Q' e σ w) : WPI ro P n c Q' σ w := fun m =>
  wpIn_mono (h m) (fun e a w ⟨σ', h1, h2⟩ => ⟨σ', h1, hq _ _ _ h2⟩)
theorem V_seq {x y : Code} (h : WPI ro P n x (thenK (fun σ w => WPI ro P n y Q σ w) Q) σ w) : WPI ro P n (.seq x y) Q σ w := fun m => by
  refine wpIn_seq (wpIn_mono (h m) ?_)
  rintro e a w' ⟨σ', rfl, hq⟩
  cases e with
  | normal => exact hq m
  | _ => exact ⟨σ', rfl, hq⟩
theorem V_skip (h : Q .normal σ w) : WPI ro P n .skip Q σ w := fun m => wpIn_skip ⟨σ, rfl, h⟩
theorem V_label {l : Nat} (h : Q .normal σ w) : WPI ro P n (.label l) Q σ w := fun m => wpIn_label ⟨σ, rfl, h⟩
theorem V_exit {id : Nat} (h : Q (.exit id) σ w) : WPI ro P n (.exit id) Q σ w := fun m => wpIn_exit ⟨σ, rfl, h⟩
theorem V_ret (h : Q .ret σ w) : WPI ro P n .ret Q σ w := fun m => wpIn_ret ⟨σ, rfl, h⟩
theorem V_cond {c : Operand} {x y : Code} (ht : tok n c = true) {b : Bool} (hc : sv σ c = .bool b) (h1 : b = true → WPI ro P n x Q σ w) (h2 : b = false → WPI ro P n y Q σ w) : WPI ro P n (.cond c x y) Q σ w := fun m =>
  wpIn_cond_split (t := b) (by rw [eval_act ht, hc]) (fun h => h1 h m) (fun h => h2 h m)
theorem V_block {id : Nat} {c : Code} (h : WPI ro P n c (blockQ id Q) σ w) : WPI ro P n (.block id c) Q σ w := fun m => by
  refine wpIn_block (wpIn_mono (h m) ?_)
  rintro e a w' ⟨σ', rfl, hq⟩
  cases e with
  | exit j =>
    simp only [blockQ] at hq
    simp only [Exit.inBlock]
    split
    · rename_i h; rw [if_pos h] at hq; exact ⟨σ', rfl, hq⟩
    · rename_i h; rw [if_neg h] at hq; exact ⟨σ', rfl, hq⟩
  | _ => exact ⟨σ', rfl, hq⟩
theorem V_loop {c : Code} (I : Nat → (Nat → Value) → World → Prop) (k₀ : Nat) (h₀ : I k₀ σ w)
    (round : ∀ k σ w, I k σ w → WPI ro P n c (thenK (fun σ w => ∃ k', k' < k ∧ I k' σ w) Q) σ w) : WPI ro P n (.loop c) Q σ w := fun m => by
  refine wpIn_loop_ghost (fun k a w => ∃ σ, a = act n σ ∧ I k σ w) k₀ ⟨σ, rfl, h₀⟩ ?_
  rintro k a w ⟨σ, rfl, hI⟩
  refine wpIn_mono (round k σ w hI m) ?_
  rintro e a w' ⟨σ', rfl, hq⟩
  cases e with
  | normal => obtain ⟨k', h1, h2⟩ := hq; exact ⟨k', h1, σ', rfl, h2⟩
  | _ => exact ⟨σ', rfl, hq⟩
theorem V_region {id : Nat} {ops : Array Oper} {l : List Nat} (hd : noDefer ops = true) (hl : List.range ops.size = l) (h : OPS P n ops (fun σ w => Q .normal σ w) l σ w) : WPI ro P n (.region id ops false) Q σ w := fun m => by
  subst hl
  unfold OPS at h
  refine wpIn_mono (wpIn_region (wpOpsIn_of hd (fun e a w h => h.1) (h m))) ?_
  rintro e a w' ⟨rfl, σ', rfl, hq⟩
  exact ⟨σ', rfl, hq⟩
theorem V_begin {id : Nat} {ops : Array Oper} (hd : noDefer ops = true) (hm : P.follows .mixedOrders = true) {m : Nat} (hsz : ops.size = m) {l0 : Array Bool} (hl0 : Array.replicate m false = l0) (S : World → Prop)
    (h : ∀ w1, Below w.heap.size w w1 → w1.heap.size = w.heap.size → DRW P n ops (fun σ w => Q .normal σ w) S m l0 σ w1) : WPI ro P n (.region id ops true) Q σ w := fun mm => by
  subst hsz
  subst hl0
  have := h { w with drawn := w.drawn + 1 } ⟨rfl, rfl, rfl, Nat.le_refl _, fun _ _ => rfl⟩ rfl
  unfold DRW at this
  refine wpIn_mono (wpIn_region_draw fun t => wpOpsIn_of hd (Q := fun e a w => e = .normal ∧ ∃ σ', a = act n σ' ∧ Q .normal σ' w) (fun e a w h => h.1) ?_) ?_
  · simp only [Region.schedule, hm, Bool.true_or, if_true]
    exact wpAnyIn_sound ops.size t _ _ _ (wpAnyIn_of_L _ _ _ _ (this (closedL.start _) mm))
  · rintro e a w' ⟨rfl, σ', rfl, hq⟩
    exact ⟨σ', rfl, hq⟩
theorem V_begin_ {id : Nat} {ops : Array Oper} (hd : noDefer ops = true) (hm : P.follows .mixedOrders = true) {m : Nat} (hsz : ops.size = m) {l0 : Array Bool} (hl0 : Array.replicate m false = l0)
    (h : ∀ w1, Below w.heap.size w w1 → w1.heap.size = w.heap.size → DRW P n ops (fun σ w => Q .normal σ w) (fun w_ => Below w1.heap.size w1 w_) m l0 σ w1) : WPI ro P n (.region id ops true) Q σ w := fun mm => by
  subst hsz
  subst hl0
  have := h { w with drawn := w.drawn + 1 } ⟨rfl, rfl, rfl, Nat.le_refl _, fun _ _ => rfl⟩ rfl
  unfold DRW at this
  refine wpIn_mono (wpIn_region_draw fun t => wpOpsIn_of hd (Q := fun e a w => e = .normal ∧ ∃ σ', a = act n σ' ∧ Q .normal σ' w) (fun e a w h => h.1) ?_) ?_
  · simp only [Region.schedule, hm, Bool.true_or, if_true]
    exact wpAnyIn_sound ops.size t _ _ _ (wpAnyIn_of_L _ _ _ _ (this (closedL.start _) mm))
  · rintro e a w' ⟨rfl, σ', rfl, hq⟩
    exact ⟨σ', rfl, hq⟩
end
attribute [irreducible] WPI

theorem wg_undef {n : NF} {ops : Array Oper} {σ : Nat → Value} {j s : Nat} {want : Bool} (hd : (ops[j]?).bind (·.dst) = some s) (hv : σ s = undef) : wg n ops σ (some (j, want)) = false := by
  simp [wg, hd, hv, undef]
/-! ### A range over a function -/
/-- What a round keeps: whatever is cells, but for block g. -/
def Keeps (g : Nat → Prop) (W W' : World) : Prop := W.heap.size ≤ W'.heap.size ∧ ∀ k o, ¬ g k → W.heap[k]? = some o → o.isCells = true → W'.heap[k]? = some o
theorem Keeps.t {g : Nat → Prop} {A B C : World} (h : Keeps g A B) (k : Keeps g B C) : Keeps g A C :=
  ⟨Nat.le_trans h.1 k.1, fun i o hg ho hc => k.2 i o hg (h.2 i o hg ho hc) hc⟩
theorem Keeps.b {g : Nat → Prop} (W : World) (l : Nat) (o o' : Obj) (h : W.heap[l]? = some o) (hc : o.isCells = false) : Keeps g W (W.putObj l o') :=
  ⟨by simp [World.putObj], fun k u _ hu hcu => by
    by_cases e : k = l
    · subst e; rw [h] at hu; cases hu; rw [hc] at hcu; cases hcu
    · exact (World.putObj_heap_other e).trans hu⟩
theorem Keeps.below {g : Nat → Prop} {W W' : World} (h : Below W.heap.size W W') : Keeps g W W' :=
  ⟨h.size, fun k o _ ho _ => (h.block k (Array.getElem?_eq_some_iff.1 ho).1).trans ho⟩
theorem Keeps.upd {g : Nat → Prop} {k : Nat} {W W' : World} (h : Upd k W W') (hk : g k) : Keeps g W W' :=
  ⟨by rw [h.size]; exact Nat.le_refl _, fun i o hg ho _ => (h.block i (fun e => hg (e ▸ hk))).trans ho⟩
end Go.Proofs.YtccmicegihlfbaaGreatDoor

/- A range over a function: the call of yield; the loop; the function's end. -/
namespace Go.Proofs.YtccmicegihlfbaaGreatDoor
open Go.RowKit

theorem roundIn_any {m m' : Nat} {P : Program} {l : Nat} {f : FuncId} {tmps : Array Value} {assign body : Code} {w : World} {R : Ending → World → Prop} (h : RoundIn Fence.wide m P l f tmps assign body w R) : RoundIn Fence.wide m' P l f tmps assign body w R :=
  ⟨h.1, fun c cs _ => h.2 c cs (fun _ h => by simp [Fence.wide] at h)⟩
theorem yieldAt_any {m m' : Nat} {P : Program} {l : Nat} {args : Array Value} {W : World} {R : Ending → World → Prop} (h : YieldAt Fence.wide m P l args W R) : YieldAt Fence.wide m' P l args W R := by
  obtain ⟨fn, tmps, assign, body, hy, hR⟩ := h
  exact ⟨fn, tmps, assign, body, hy, roundIn_any hR⟩
theorem seqStops_any {α : Type} {m m' : Nat} {P : Program} {g : Nat} {lb : Array Value} {encs : α → Array Value} {Kp : World → World → Prop} {S Sp : List α → Prop} {N : Nat} {w : World}
    (h : SeqStopsK Fence.wide m P g lb encs Kp S Sp N w) : SeqStopsK Fence.wide m' P g lb encs Kp S Sp N w := fun l J Jx W hB hJ hJx hY h0 =>
  callsIn_wide.2 (callsIn_wide.1 (h l J Jx W hB hJ hJx (fun pre x W1 hj hl => yieldAt_any (hY pre x W1 hj hl)) h0))
section
variable {P : Program} {n : NF} {ops : Array Oper} {K : (Nat → Value) → World → Prop} {σ : Nat → Value} {w : World} {i : Nat} {rest : List Nat}
variable {d : Nat} {t : TypeId} {p : String} {af : Array Edge} {gd : Option (Nat × Bool)} {x y : Operand}
/-- The call of yield. -/
theorem S_yield {l : Nat} {ars : Array Operand} {ats : Array TypeId}
    (ho : ops[i]? = some { dst := some d, op := .call { callee := .value x, args := ars, argTypes := ats }, type := t, pos := p, after := af, guard := gd })
    (hw : wg n ops σ gd = true) (hx0 : tok n x = true) (hx : ars.toList.all (tok n) = true) (hv : sv σ x = .func (.yield l) #[] #[]) {vs : List Value} (hvs : ars.toList.map (sv σ) = vs) {R : Ending → World → Prop} {m0 : Nat} (hc : YieldAt Fence.wide m0 P l vs.toArray w R)
    (h : ∀ e w', R e w' → ∃ v, e = .returned v ∧ OPS P n ops K rest (upd σ d v) w') : OPS P n ops K (i :: rest) σ w := by
  obtain ⟨fn, tmps, assign, body, hy, hR⟩ := hc
  have hr : (execOp (act n σ).eval { dst := some d, op := .call { callee := .value x, args := ars, argTypes := ats }, type := t, pos := p, after := af, guard := gd }).run P w = .ok (.round l fn tmps assign body) w := by
    subst hvs
    simp [execOp, resolve, args_eval hx, eval_act hx0, hv, Deferred.ofValue, invoke, hy]
  unfold OPS at *
  intro m
  simp only [wpOpsIn, ho, wanted_wg, hw, if_true]
  refine ⟨fun f _ => trivial, ?_⟩
  rw [show Fence.wide.round = none from rfl, Oper.semAt_none, hr, Oper.uponIn_round]
  refine ⟨fun h => by simp [Fence.wide] at h, RoundIn.mono (roundIn_any hR) ?_⟩
  intro e w' he
  obtain ⟨v, rfl, hk⟩ := h e w' he
  simp only [put_act]
  exact hk m
end

/-! ### Code whose end may lie in another frame's tail -/
def WPR (P : Program) (c : Code) (Q : Exit → Act → World → Prop) (a : Act) (w : World) : Prop := c.wpIn Fence.wide 4 P Q a w
section
variable {P : Program} {n : NF} {Q : Exit → Act → World → Prop} {σ : Nat → Value} {a : Act} {w : World}
theorem X_seq {x y : Code} (h : WPR P x (Exit.then (WPR P y Q) Q) a w) : WPR P (.seq x y) Q a w := wpIn_seq h
theorem X_skip (h : Q .normal a w) : WPR P .skip Q a w := wpIn_skip h
theorem X_exit {id : Nat} (h : Q (.exit id) a w) : WPR P (.exit id) Q a w := wpIn_exit h
theorem X_ret (h : Q .ret a w) : WPR P .ret Q a w := wpIn_ret h
theorem X_block {id : Nat} {c : Code} (h : WPR P c (Exit.inBlock id Q) a w) : WPR P (.block id c) Q a w := wpIn_block h
theorem X_cond {c : Operand} {x y : Code} (ht : tok n c = true) {b : Bool} (hc : sv σ c = .bool b) (h1 : b = true → WPR P x Q (act n σ) w) (h2 : b = false → WPR P y Q (act n σ) w) : WPR P (.cond c x y) Q (act n σ) w :=
  wpIn_cond_split (t := b) (by rw [eval_act ht, hc]) h1 h2
theorem X_region {id : Nat} {ops : Array Oper} {l : List Nat} (hl : List.range ops.size = l) (h : OPS P n ops (fun σ w => Q .normal (act n σ) w) l σ w) : WPR P (.region id ops false) Q (act n σ) w := by
  subst hl
  unfold OPS at h
  refine wpIn_mono (wpIn_region (h 4)) ?_
  rintro e a w' ⟨rfl, σ', rfl, hq⟩
  exact hq
theorem X_begin {id : Nat} {ops : Array Oper} (hm : P.follows .mixedOrders = true) {m : Nat} (hsz : ops.size = m) {l0 : Array Bool} (hl0 : Array.replicate m false = l0) (S : World → Prop)
    (h : ∀ w1, Below w.heap.size w w1 → w1.heap.size = w.heap.size → DRW P n ops (fun σ w => Q .normal (act n σ) w) S m l0 σ w1) : WPR P (.region id ops true) Q (act n σ) w := by
  subst hsz
  subst hl0
  have := h { w with drawn := w.drawn + 1 } ⟨rfl, rfl, rfl, Nat.le_refl _, fun _ _ => rfl⟩ rfl
  unfold DRW at this
  refine wpIn_mono (wpIn_region_any hm (wpAnyIn_of_L _ _ _ _ (this (closedL.start _) 4))) ?_
  rintro e a w' ⟨rfl, σ', rfl, hq⟩
  exact hq
theorem X_begin_ {id : Nat} {ops : Array Oper} (hm : P.follows .mixedOrders = true) {m : Nat} (hsz : ops.size = m) {l0 : Array Bool} (hl0 : Array.replicate m false = l0)
    (h : ∀ w1, Below w.heap.size w w1 → w1.heap.size = w.heap.size → DRW P n ops (fun σ w => Q .normal (act n σ) w) (fun w_ => Below w1.heap.size w1 w_) m l0 σ w1) : WPR P (.region id ops true) Q (act n σ) w := by
  subst hsz
  subst hl0
  have := h { w with drawn := w.drawn + 1 } ⟨rfl, rfl, rfl, Nat.le_refl _, fun _ _ => rfl⟩ rfl
  unfold DRW at this
  refine wpIn_mono (wpIn_region_any hm (wpAnyIn_of_L _ _ _ _ (this (closedL.start _) 4))) ?_
  rintro e a w' ⟨rfl, σ', rfl, hq⟩
  exact hq
def markD (D : Nat) : Deferred := { target := .collected D, args := #[] }
/-- What a round's body leaves. -/
def roundQ {α : Type} (B : Nat) (g : Nat → Prop) (I : List α → World → Prop) (Ix : Code → List α → World → Prop) (xs : List α) (W : World) : SPost
  | .normal, _, W' => KeepsFrom B W W' ∧ Keeps g W W' ∧ I xs W'
  | .ret, _, W' => KeepsFrom B W W' ∧ Ix .ret xs W'
  | .exit id, _, W' => KeepsFrom B W W' ∧ Ix (.exit id) xs W'
  | .goto t, _, W' => KeepsFrom B W W' ∧ Ix (.goto t) xs W'
  | .panic _, _, _ => False
  | .outgrown, _, _ => False
theorem put_tmps (n : NF) (σ : Nat → Value) (p : Nat) (v : Value) : (act n σ).tmps.setIfInBounds p v = (act n (upd σ p v)).tmps := by
  have := put_act n σ p v
  simp only [Act.put] at this
  exact congrArg Act.tmps this
theorem X_range {α : Type} {g : Operand} {p1 p2 : Nat} {assign body : Code} (hg : tok n g = true) {gf : Nat} {lb : Array Value} (hv : sv σ g = .func (.func gf) #[] lb) (eg : En P gf)
    {e1 e2 : α → Value} {gs : Nat → Prop} {S Sp : List α → Prop} {N : Nat} {w0 : World} (hseq : SeqStopsK Fence.wide 3 P gf lb (fun x => #[e1 x, e2 x]) (Keeps gs) S Sp N w0) (hb0 : Below w0.heap.size w0 w)
    (I : List α → World → Prop) (Ix : Code → List α → World → Prop) (hI : OwnFrom w.heap.size I) (hIx : ∀ c, OwnFrom w.heap.size (Ix c)) (h0 : I [] w) (f1 : (Nat → Value) → α → Nat → Value)
    (hassign : ∀ (l : Nat) (x : α) (W : World) (K : (Nat → Value) → World → Prop), K (f1 σ x) W → WPI (some l) P ⟨n.n, []⟩ assign (fun e σ' W' => e = .normal ∧ K σ' W') (upd (upd σ p1 (e1 x)) p2 (e2 x)) W)
    (hbody : ∀ (l : Nat) (pre : List α) (x : α) (W : World), I pre W → pre.length < N → WPI (some l) P ⟨n.n, []⟩ body (roundQ w.heap.size gs I Ix (pre ++ [x]) W) (f1 σ x) W)
    (hdone : ∀ (D : Nat) (xs : List α) (W : World), w.heap.size ≤ D → S xs → I xs W → W.heap[D]? = some (.deferred (some [])) → Q .normal (act ⟨n.n, markD D :: n.ds⟩ σ) W)
    (hstop : ∀ (D : Nat) (c : Code) (pre : List α) (W : World), w.heap.size ≤ D → Sp pre → Ix c pre W → W.heap[D]? = some (.deferred (some [])) → WPR P c Q (act ⟨n.n, markD D :: n.ds⟩ σ) W) :
    WPR P (.rangeFunc g #[p1, p2] assign body) Q (act n σ) w := by
  refine wpIn_rangeFunc_ownG (F := Fence.wide) rfl (by omega) (gf := gf) (lb := lb) (by rw [eval_act hg, hv]) trivial (fun args w => run_call eg args) (hseq) (fun h k => h.t k) (fun W l o o' _ h1 h2 _ => Keeps.b W l o o' h1 h2) hb0 (fun _ => rfl)
    I Ix hI hIx h0 (fun x => act ⟨n.n, []⟩ (f1 σ x)) ?_ ?_ hdone hstop
  · intro l x W K hK
    have := hassign l x W (fun σ' W' => K (act ⟨n.n, []⟩ σ') W') hK
    unfold WPI at this
    have := this (4 - 1 - 1)
    have e : ({ tmps := ((#[p1, p2] : Array Tmp).zip #[e1 x, e2 x]).foldl (fun t (p, v) => t.setIfInBounds p v) (act n σ).tmps, defers := [] } : Act) = act ⟨n.n, []⟩ (upd (upd σ p1 (e1 x)) p2 (e2 x)) := by
      simp [put_tmps]
      rfl
    rw [e]
    refine wpIn_mono this ?_
    rintro e a w' ⟨σ', rfl, rfl, h⟩
    exact h
  · intro l pre x W hi hl
    have := hbody l pre x W hi hl
    unfold WPI at this
    refine wpIn_mono (this (4 - 1 - 1)) ?_
    rintro e a w' ⟨σ', rfl, h⟩
    cases e <;> exact h
end
theorem Ret_marks {P : Program} {n : Nat} {f : FuncId} {fn : Func} {c : Code} {vs : List Value} {w : World} {R : Value → World → Prop} (hf : P.funcs[f]? = some fn) (hb : fn.body = some c) (hn : fn.ntmps = n) (hl : vs.length ≤ n)
    (h : WPR P c (bodyPostM Fence.wide 4 P fn (fun e w' => ∃ v, e = .returned v ∧ R v w')) (act ⟨n, []⟩ (initS vs)) w) : Ret P f vs w R := by
  refine callsIn_wide.1 (callsIn_of_wp_marks (n := 4) hf hb trivial ?_)
  rw [hn, act_init n vs hl]
  exact h
theorem EndM {P : Program} {n : Nat} {fn : Func} {D : Nat} {σ : Nat → Value} {w : World} {R : Value → World → Prop} (hK : w.heap[D]? = some (.deferred (some []))) (h : Fin' P ⟨n, []⟩ fn R σ (w.putObj D (.deferred none))) :
    bodyPostM Fence.wide 4 P fn (fun e w' => ∃ v, e = .returned v ∧ R v w') .ret (act ⟨n, [markD D]⟩ σ) w := by
  unfold Fin' at h
  obtain ⟨v, h1, h2⟩ := h
  exact ⟨by simp, .inl ⟨_, _, rfl, run_takeDeferred hK, v, h1, v, rfl, h2⟩⟩
theorem EndM0 {P : Program} {n : Nat} {fn : Func} {σ : Nat → Value} {w : World} {R : Value → World → Prop} (h : Fin' P ⟨n, []⟩ fn R σ w) :
    bodyPostM Fence.wide 4 P fn (fun e w' => ∃ v, e = .returned v ∧ R v w') .ret (act ⟨n, []⟩ σ) w := by
  unfold Fin' at h
  obtain ⟨v, h1, h2⟩ := h
  exact ⟨v, h1, v, rfl, h2⟩
theorem Blk.putObj {w : World} {g D : Nat} {cs : List Value} {t : TypeId} {o o' : Obj} (hb : Blk w g cs t) (hK : w.heap[D]? = some o) (ho : o.isCells = false) : Blk (w.putObj D o') g cs t := by
  refine ⟨?_⟩
  rw [World.putObj_heap_other]
  · exact hb.at_
  · intro e
    subst e
    have := hb.at_
    rw [hK] at this
    cases this
    cases ho
theorem below_putObj {B D : Nat} {w0 w : World} {o' : Obj} (h : Below B w0 w) (hD : B ≤ D) : Below B w0 (w.putObj D o') :=
  ⟨h.os, h.tape, h.output, by simpa [World.putObj] using h.size, fun k hk => (World.putObj_heap_other (by omega)).trans (h.block k hk)⟩
/-- What a round has kept so far. -/
def Kept (B : Nat) (g : Nat → Prop) (W W' : World) : Prop := KeepsFrom B W W' ∧ Keeps g W W'
theorem Kept.refl (B : Nat) (g : Nat → Prop) (W : World) : Kept B g W W := ⟨KeepsFrom.refl B W, Keeps.below (Below.refl _ _)⟩
theorem Kept.step {B : Nat} {g : Nat → Prop} {W A C : World} (h : Kept B g W A) (hb : Below A.heap.size A C) : Kept B g W C :=
  ⟨h.1.trans ⟨hb.size, fun k o _ ho _ => (hb.block k (Array.getElem?_eq_some_iff.1 ho).1).trans ho⟩, h.2.t (Keeps.below hb)⟩
theorem Kept.upd {B k : Nat} {g : Nat → Prop} {W A C : World} (h : Kept B g W A) (hu : Upd k A C) (hg : g k) (hk : k < B) : Kept B g W C :=
  ⟨h.1.trans ⟨by rw [hu.size]; exact Nat.le_refl _, fun i o hi ho _ => (hu.block i (by omega)).trans ho⟩, h.2.t (Keeps.upd hu hg)⟩
end Go.Proofs.YtccmicegihlfbaaGreatDoor

/- Bits of numbers of 32. -/
namespace Go.Proofs.YtccmicegihlfbaaGreatDoor
open Go.RowKit


section
variable {P : Program} {n : NF} {ops : Array Oper} {K : (Nat → Value) → World → Prop} {σ : Nat → Value} {w : World} {i : Nat} {rest : List Nat}
variable {d : Nat} {t : TypeId} {p : String} {af : Array Edge} {gd : Option (Nat × Bool)} {x y : Operand}
theorem S_neg {T : TypeId} (ho : ops[i]? = some { dst := some d, op := .unOp .neg T x, type := t, pos := p, after := af, guard := gd }) (hw : wg n ops σ gd = true)
    (hx : tok n x = true) {k : IntKind} {a : Int} (ha : sv σ x = .int k a) {v : Int} (hv : k.wrap (0 - a) = v)
    (h : OPS P n ops K rest (upd σ d (.int k v)) w) : OPS P n ops K (i :: rest) σ w := by
  subst hv
  refine OPS.step ho hw rfl ?_ h
  simp [execOp, eval_act hx, ha, Op.unary, Op.intArith]
/-- The place of a number in an array variable. -/
theorem S_idxArr {T e : TypeId} {m sz by_ : Nat} {z : Value} {ag : Bool} (hT : P.underlying T = some (.array m e)) (he : TI P e sz by_ z ag)
    (ho : ops[i]? = some { dst := some d, op := .indexAddr T x y, type := t, pos := p, after := af, guard := gd }) (hw : wg n ops σ gd = true) (hx : tok n x = true) (hy : tok n y = true)
    {g o : Nat} (ha : sv σ x = .pointer (some ⟨g, o, none⟩)) {k : IntKind} {iz : Int} (hi : sv σ y = .int k iz) {j : Nat} (hj : iz = (j : Int)) (hlt : j < m)
    (h : OPS P n ops K rest (upd σ d (.pointer (some ⟨g, o + j * sz, none⟩))) w) : OPS P n ops K (i :: rest) σ w := by
  obtain ⟨i0, hi0, hs, _⟩ := he.info
  subst hj
  refine OPS.step ho hw rfl ?_ h
  simp [execOp, eval_act hx, eval_act hy, ha, hi, Instr.indexAt, asIntOf, underlying, hT, hlt, sizeOf, typeInfo, hi0, hs, Instr.sureAddr, add_plain]
theorem S_strIdx {T : TypeId} (hT : P.underlying T = some .string)
    (ho : ops[i]? = some { dst := some d, op := .index T x y, type := t, pos := p, after := af, guard := gd }) (hw : wg n ops σ gd = true) (hx : tok n x = true) (hy : tok n y = true)
    {s : ByteArray} (ha : sv σ x = .string s) {k : IntKind} {j : Nat} (hi : sv σ y = .int k (j : Int)) {b : Nat → Nat} (hall : ∀ j, j < 256 → (s[j]?).map (·.toNat) = some (b j)) (hj : j < 256)
    (h : OPS P n ops K rest (upd σ d (.int .u8 (b j : Int))) w) : OPS P n ops K (i :: rest) σ w := by
  obtain ⟨c, hc, hcb⟩ := Option.map_eq_some_iff.1 (hall j hj)
  rw [← hcb] at h
  refine OPS.step ho hw rfl ?_ h
  simp [execOp, eval_act hx, eval_act hy, ha, hi, Instr.index, asIntOf, underlying, hT, hc]
end

/-! ### Bits of two numbers of 32 -/
theorem wrap_nat {z : Nat} (h : z < 4294967296) : IntKind.u32.wrap (z : Int) = (z : Int) := wrap_u32 (by omega) (by omega)
theorem toNat_ofInt32 {x : Int} (h0 : 0 ≤ x) (h1 : x < 4294967296) : (BitVec.ofInt 32 x).toNat = x.toNat := by
  simp [BitVec.toNat_ofInt]; omega
theorem bit_and {x y : Int} (hx : 0 ≤ x ∧ x < 4294967296) (hy : 0 ≤ y ∧ y < 4294967296) : bitV .and .u32 x y = ((x.toNat &&& y.toNat : Nat) : Int) := by
  have := Nat.and_le_left (n := x.toNat) (m := y.toNat)
  show IntKind.u32.wrap (((BitVec.ofInt 32 x &&& BitVec.ofInt 32 y).toNat : Nat) : Int) = _
  rw [BitVec.toNat_and, toNat_ofInt32 hx.1 hx.2, toNat_ofInt32 hy.1 hy.2]
  exact wrap_nat (by omega)
theorem wrap_i64 {x : Int} (h0 : 0 ≤ x) (h1 : x < 9223372036854775808) : IntKind.i64.wrap x = x := by
  simp [IntKind.wrap, IntKind.bits, IntKind.signed]; omega
theorem lt32 {x : Int} (hx : 0 ≤ x ∧ x < 4294967296) : x.toNat < 2 ^ 32 := by omega
theorem bit_or {x y : Int} (hx : 0 ≤ x ∧ x < 4294967296) (hy : 0 ≤ y ∧ y < 4294967296) : bitV .or .u32 x y = ((x.toNat ||| y.toNat : Nat) : Int) := by
  have := Nat.or_lt_two_pow (lt32 hx) (lt32 hy)
  show IntKind.u32.wrap (((BitVec.ofInt 32 x ||| BitVec.ofInt 32 y).toNat : Nat) : Int) = _
  rw [BitVec.toNat_or, toNat_ofInt32 hx.1 hx.2, toNat_ofInt32 hy.1 hy.2]
  exact wrap_nat (by omega)
theorem bit_xor {x y : Int} (hx : 0 ≤ x ∧ x < 4294967296) (hy : 0 ≤ y ∧ y < 4294967296) : bitV .xor .u32 x y = ((x.toNat ^^^ y.toNat : Nat) : Int) := by
  have := Nat.xor_lt_two_pow (lt32 hx) (lt32 hy)
  show IntKind.u32.wrap (((BitVec.ofInt 32 x ^^^ BitVec.ofInt 32 y).toNat : Nat) : Int) = _
  rw [BitVec.toNat_xor, toNat_ofInt32 hx.1 hx.2, toNat_ofInt32 hy.1 hy.2]
  exact wrap_nat (by omega)
theorem bit_not {x : Int} (hx : 0 ≤ x ∧ x < 4294967296) : bitV .xor .u32 (if IntKind.u32.signed then -1 else IntKind.u32.max) x = ((4294967295 ^^^ x.toNat : Nat) : Int) := by
  rw [show (if IntKind.u32.signed then -1 else IntKind.u32.max) = (4294967295 : Int) from rfl]
  exact bit_xor (by decide) hx
theorem top_bit {z : Nat} (h : z < 2 ^ 32) : z / 2147483648 = if z.testBit 31 then 1 else 0 := by
  rw [Nat.testBit_eq_decide_div_mod_eq]
  simp only [decide_eq_true_eq]
  split <;> omega
theorem borrow (x y c : Nat) (hx : x < 4294967296) (hy : y < 4294967296) (hc : c ≤ 1) (d : Nat) (hd : (d : Int) = ((x : Int) - y - c) % 4294967296) :
    ((((4294967295 ^^^ x) &&& y) ||| ((4294967295 ^^^ (x ^^^ y)) &&& d)) / 2147483648) = if x < y + c then 1 else 0 := by
  have hdl : d < 4294967296 := by omega
  have h1 : (4294967295 ^^^ x) &&& y < 2 ^ 32 := Nat.lt_of_le_of_lt Nat.and_le_right (by omega)
  have h2 : (4294967295 ^^^ (x ^^^ y)) &&& d < 2 ^ 32 := Nat.lt_of_le_of_lt Nat.and_le_right (by omega)
  rw [top_bit (Nat.or_lt_two_pow h1 h2)]
  simp only [Nat.testBit_or, Nat.testBit_and, Nat.testBit_xor]
  rw [show Nat.testBit 4294967295 31 = true by decide]
  simp only [Nat.testBit_eq_decide_div_mod_eq]
  by_cases a : x / 2 ^ 31 % 2 = 1 <;> by_cases b : y / 2 ^ 31 % 2 = 1 <;> by_cases e : d / 2 ^ 31 % 2 = 1 <;> simp [a, b, e] <;> omega


theorem rng {z : Nat} (h : z < 2 ^ 32) : 0 ≤ (z : Int) ∧ (z : Int) < 4294967296 := by omega
theorem sub32_bits {x y c : Int} (hx : 0 ≤ x ∧ x < 4294967296) (hy : 0 ≤ y ∧ y < 4294967296) (hc : 0 ≤ c ∧ c ≤ 1) :
    bitV .and .u32 ((4294967295 ^^^ x.toNat : Nat) : Int) y = (((4294967295 ^^^ x.toNat) &&& y.toNat : Nat) : Int) ∧ bitV .xor .u32 x y = ((x.toNat ^^^ y.toNat : Nat) : Int) ∧ bitV .xor .u32 (if IntKind.u32.signed then -1 else IntKind.u32.max) ((x.toNat ^^^ y.toNat : Nat) : Int) = ((4294967295 ^^^ (x.toNat ^^^ y.toNat) : Nat) : Int) ∧ bitV .and .u32 ((4294967295 ^^^ (x.toNat ^^^ y.toNat) : Nat) : Int) ((x - y - c) % 4294967296) = (((4294967295 ^^^ (x.toNat ^^^ y.toNat)) &&& ((x - y - c) % 4294967296).toNat : Nat) : Int) ∧ bitV .or .u32 (((4294967295 ^^^ x.toNat) &&& y.toNat : Nat) : Int) (((4294967295 ^^^ (x.toNat ^^^ y.toNat)) &&& ((x - y - c) % 4294967296).toNat : Nat) : Int) = ((((4294967295 ^^^ x.toNat) &&& y.toNat) ||| ((4294967295 ^^^ (x.toNat ^^^ y.toNat)) &&& ((x - y - c) % 4294967296).toNat) : Nat) : Int) ∧
      ((((4294967295 ^^^ x.toNat) &&& y.toNat) ||| ((4294967295 ^^^ (x.toNat ^^^ y.toNat)) &&& ((x - y - c) % 4294967296).toNat) : Nat) : Int).fdiv (2 ^ (min (31 : Int).toNat IntKind.u32.bits)) = (if x < y + c then 1 else 0) := by
  have h1 : 4294967295 ^^^ x.toNat < 2 ^ 32 := Nat.xor_lt_two_pow (by decide) (lt32 hx)
  have h2 : x.toNat ^^^ y.toNat < 2 ^ 32 := Nat.xor_lt_two_pow (lt32 hx) (lt32 hy)
  have h3 : 4294967295 ^^^ (x.toNat ^^^ y.toNat) < 2 ^ 32 := Nat.xor_lt_two_pow (by decide) h2
  have h4 : (4294967295 ^^^ x.toNat) &&& y.toNat < 2 ^ 32 := Nat.lt_of_le_of_lt Nat.and_le_right (lt32 hy)
  have hd : 0 ≤ (x - y - c) % 4294967296 ∧ (x - y - c) % 4294967296 < 4294967296 := by omega
  have h5 : (4294967295 ^^^ (x.toNat ^^^ y.toNat)) &&& ((x - y - c) % 4294967296).toNat < 2 ^ 32 := Nat.lt_of_le_of_lt Nat.and_le_right (lt32 hd)
  refine ⟨?_, ?_, ?_, ?_, ?_, ?_⟩
  · rw [bit_and (rng h1) hy]; rfl
  · rw [bit_xor hx hy]
  · rw [bit_not (rng h2)]; rfl
  · rw [bit_and (rng h3) hd]; rfl
  · rw [bit_or (rng h4) (rng h5)]; rfl
  · have := borrow x.toNat y.toNat c.toNat (by omega) (by omega) (by omega) ((x - y - c) % 4294967296).toNat (by omega)
    rw [Int.fdiv_eq_ediv_of_nonneg _ (by decide)]
    show _ / (2147483648 : Int) = _
    have e : (2147483648 : Int) = ((2147483648 : Nat) : Int) := rfl
    rw [e, ← Int.natCast_ediv, this]
    by_cases h : x < y + c
    · rw [if_pos h, if_pos (by omega)]; rfl
    · rw [if_neg h, if_neg (by omega)]; rfl

set_option maxHeartbeats 400000 in
theorem sub32_c (w0 : World) (x y c : Int) (hx : 0 ≤ x ∧ x < 4294967296) (hy : 0 ≤ y ∧ y < 4294967296) (hc : 0 ≤ c ∧ c ≤ 1) :
    Ret Tryz.prog 243 [.int .u32 x, .int .u32 y, .int .u32 c] w0 (fun r w1 => r = .tuple #[.int .u32 ((x - y - c) % 4294967296), .int .u32 (if x < y + c then 1 else 0)] ∧ w0 = w1) := by
  obtain ⟨e1, e2, e3, e4, e5, e6⟩ := sub32_bits hx hy hc
  refine Ret_of (n := 25) Tryz.func243 rfl rfl (Nat.le_of_ble_eq_true rfl) ?_
  refine W_seq ?_
  refine W_region rfl ?_
  refine S_assign rfl rfl rfl (v := (.int .u32 0)) (rfl) ?_
  refine S_assign rfl rfl rfl (v := (.int .u32 0)) (rfl) ?_
  refine OPS.nil ?_
  change WP _ _ _ _ _ _
  refine W_seq ?_
  refine W_region rfl ?_
  refine S_move rfl rfl rfl (v := .int .u32 x) (rfl) ?_
  refine S_move rfl rfl rfl (v := .int .u32 y) (rfl) ?_
  refine S_bin rfl rfl rfl rfl rfl (rfl) (rfl) rfl ?_
  refine S_move rfl rfl rfl (v := .int .u32 c) (rfl) ?_
  refine S_bin rfl rfl rfl rfl rfl (rfl) (rfl) (v := .int .u32 ((x - y - c) % 4294967296)) (by simp only [binV]; congr 1; rw [wrap_u32', wrap_u32']; omega) ?_
  refine S_assign rfl rfl rfl (v := (.int .u32 ((x - y - c) % 4294967296))) (rfl) ?_
  refine OPS.nil ?_
  change WP _ _ _ _ _ _
  refine W_seq ?_
  refine W_region rfl ?_
  refine S_move rfl rfl rfl (v := .int .u32 x) (rfl) ?_
  refine S_xor rfl rfl rfl (rfl) (v := ((4294967295 ^^^ x.toNat : Nat) : Int)) (bit_not hx) ?_
  refine S_move rfl rfl rfl (v := .int .u32 y) (rfl) ?_
  refine S_bits rfl rfl rfl rfl (by simp) (rfl) (rfl) (v := (((4294967295 ^^^ x.toNat) &&& y.toNat : Nat) : Int)) (e1) ?_
  refine S_move rfl rfl rfl (v := .int .u32 x) (rfl) ?_
  refine S_move rfl rfl rfl (v := .int .u32 y) (rfl) ?_
  refine S_bits rfl rfl rfl rfl (by simp) (rfl) (rfl) (v := ((x.toNat ^^^ y.toNat : Nat) : Int)) (e2) ?_
  refine S_xor rfl rfl rfl (rfl) (v := ((4294967295 ^^^ (x.toNat ^^^ y.toNat) : Nat) : Int)) (e3) ?_
  refine S_move rfl rfl rfl (v := (.int .u32 ((x - y - c) % 4294967296))) (rfl) ?_
  refine S_bits rfl rfl rfl rfl (by simp) (rfl) (rfl) (v := (((4294967295 ^^^ (x.toNat ^^^ y.toNat)) &&& ((x - y - c) % 4294967296).toNat : Nat) : Int)) (e4) ?_
  refine S_bits rfl rfl rfl rfl (by simp) (rfl) (rfl) (v := ((((4294967295 ^^^ x.toNat) &&& y.toNat) ||| ((4294967295 ^^^ (x.toNat ^^^ y.toNat)) &&& ((x - y - c) % 4294967296).toNat) : Nat) : Int)) (e5) ?_
  refine S_shr rfl rfl rfl rfl (rfl) (rfl) (by omega) (v := (if x < y + c then 1 else 0)) (e6) ?_
  refine S_assign rfl rfl rfl (v := (.int .u32 (if x < y + c then 1 else 0))) (rfl) ?_
  refine OPS.nil ?_
  change WP _ _ _ _ _ _
  refine W_ret ?_
  change Fin' _ _ _ _ _ _
  refine End2 (n := ⟨25, []⟩) (t := 6) (u := 7) rfl (by decide) (by decide) (rfl) (rfl) ?_
  exact ⟨rfl, rfl⟩


def len32 (x : Nat) : Nat := if x = 0 then 0 else Nat.log2 x + 1
theorem len32_spec {x : Nat} (h : x ≠ 0) : 2 ^ (len32 x - 1) ≤ x ∧ x < 2 ^ len32 x ∧ 0 < len32 x := by
  simp only [len32, if_neg h, Nat.add_sub_cancel]
  exact ⟨Nat.log2_self_le h, Nat.lt_log2_self, by omega⟩
theorem len32_div {x k : Nat} (h : 2 ^ k ≤ x) : len32 x = len32 (x / 2 ^ k) + k := by
  have hp : 0 < 2 ^ k := Nat.pow_pos (by decide)
  have h1 : x / 2 ^ k ≠ 0 := by have := Nat.div_pos h hp; omega
  have hx : x ≠ 0 := by omega
  obtain ⟨a1, a2, a3⟩ := len32_spec h1
  have b1 : 2 ^ (len32 (x / 2 ^ k) - 1 + k) ≤ x := by rw [Nat.pow_add]; exact Nat.le_trans (Nat.mul_le_mul_right _ a1) (Nat.div_mul_le_self _ _)
  have b2 : x < 2 ^ (len32 (x / 2 ^ k) + k) := by rw [Nat.pow_add]; exact (Nat.div_lt_iff_lt_mul hp).1 a2
  have : Nat.log2 x = len32 (x / 2 ^ k) - 1 + k := by
    refine (Nat.log2_eq_iff hx).2 ⟨b1, ?_⟩
    rwa [show len32 (x / 2 ^ k) - 1 + k + 1 = len32 (x / 2 ^ k) + k by omega]
  rw [show len32 x = Nat.log2 x + 1 by simp [len32, hx], this]
  omega
theorem len32_le {x : Nat} (h : x < 2 ^ 32) : len32 x ≤ 32 := by
  by_cases h0 : x = 0
  · simp [len32, h0]
  · have := (Nat.log2_lt h0).2 h
    simp [len32, h0]; omega

set_option maxHeartbeats 400000 in
theorem len32_c0 (w0 : World) (x : Int) (hx : 0 ≤ x ∧ x < 4294967296) (h1 : 65536 ≤ x) (h2 : 256 ≤ x / 65536) :
    Ret Tryz.prog 239 [.int .u32 x] w0 (fun r w1 => r = .int .i64 (len32 x.toNat : Nat) ∧ w0 = w1) := by
  refine Ret_of (n := 19) Tryz.func239 rfl rfl (Nat.le_of_ble_eq_true rfl) ?_
  refine W_seq ?_
  refine W_region rfl ?_
  refine S_assign rfl rfl rfl (v := (.int .i64 0)) (rfl) ?_
  refine OPS.nil ?_
  change WP _ _ _ _ _ _
  refine W_seq ?_
  refine W_seq ?_
  refine W_region rfl ?_
  refine S_move rfl rfl rfl (v := .int .u32 x) (rfl) ?_
  refine S_bin rfl rfl rfl rfl rfl (rfl) (rfl) (v := .bool true) (by simp [binV]; omega) ?_
  refine OPS.nil ?_
  change WP _ _ _ _ _ _
  refine W_cond rfl (b := true) (rfl) (fun _ => ?_) (fun h => (by cases h))
  refine W_seq ?_
  refine W_region rfl ?_
  refine S_move rfl rfl rfl (v := .int .u32 x) (rfl) ?_
  refine S_shr rfl rfl rfl rfl (rfl) (rfl) (by omega) (v := (x / 65536)) (by rw [Int.fdiv_eq_ediv_of_nonneg _ (by decide)]; rfl) ?_
  refine S_assign rfl rfl rfl (v := (.int .u32 (x / 65536))) (rfl) ?_
  refine OPS.nil ?_
  change WP _ _ _ _ _ _
  refine W_region rfl ?_
  refine S_assign rfl rfl rfl (v := (.int .i64 16)) (rfl) ?_
  refine OPS.nil ?_
  change WP _ _ _ _ _ _
  refine W_seq ?_
  refine W_seq ?_
  refine W_region rfl ?_
  refine S_move rfl rfl rfl (v := (.int .u32 (x / 65536))) (rfl) ?_
  refine S_bin rfl rfl rfl rfl rfl (rfl) (rfl) (v := .bool true) (by simp [binV]; omega) ?_
  refine OPS.nil ?_
  change WP _ _ _ _ _ _
  refine W_cond rfl (b := true) (rfl) (fun _ => ?_) (fun h => (by cases h))
  refine W_seq ?_
  refine W_region rfl ?_
  refine S_move rfl rfl rfl (v := (.int .u32 (x / 65536))) (rfl) ?_
  refine S_shr rfl rfl rfl rfl (rfl) (rfl) (by omega) (v := (x / 65536 / 256)) (by rw [Int.fdiv_eq_ediv_of_nonneg _ (by decide)]; rfl) ?_
  refine S_assign rfl rfl rfl (v := (.int .u32 (x / 65536 / 256))) (rfl) ?_
  refine OPS.nil ?_
  change WP _ _ _ _ _ _
  refine W_region rfl ?_
  refine S_move rfl rfl rfl (v := (.int .i64 16)) (rfl) ?_
  refine S_add64 rfl rfl rfl rfl (rfl) (rfl) (by omega) ?_
  refine S_assign rfl rfl rfl (v := (.int .i64 (16 + 8))) (rfl) ?_
  refine OPS.nil ?_
  change WP _ _ _ _ _ _
  refine W_seq ?_
  refine W_region rfl ?_
  have hl := len32_le (x := (x.toNat / 2 ^ 16 / 2 ^ 8)) (by omega)
  refine S_move rfl rfl rfl (v := (.int .i64 (16 + 8))) (rfl) ?_
  refine S_move rfl rfl rfl (v := (.int .u32 (x / 65536 / 256))) (rfl) ?_
  refine S_conv Tryz.underlying106 Tryz.underlying5 rfl rfl rfl (rfl) (b := (x / 65536 / 256)) (by simp [IntKind.wrap, IntKind.bits, IntKind.signed]; omega) ?_
  refine S_strIdx Tryz.underlying9 rfl rfl rfl rfl rfl (k := .u8) (j := (x.toNat / 2 ^ 16 / 2 ^ 8)) (int_eq (by omega)) (b := len32) (by decide +kernel) (by omega) ?_
  refine S_conv Tryz.underlying5 Tryz.underlying3 rfl rfl rfl (rfl) (b := ((len32 (x.toNat / 2 ^ 16 / 2 ^ 8) : Nat) : Int)) (wrap_i64 (by omega) (by omega)) ?_
  refine S_add64 rfl rfl rfl rfl (rfl) (rfl) (by omega) ?_
  refine S_assign rfl rfl rfl (v := (.int .i64 ((16 + 8) + ((len32 (x.toNat / 2 ^ 16 / 2 ^ 8) : Nat) : Int)))) (rfl) ?_
  refine OPS.nil ?_
  change WP _ _ _ _ _ _
  refine W_ret ?_
  change Fin' _ _ _ _ _ _
  refine End1 (n := ⟨19, []⟩) (t := 2) rfl (by decide) (v := (.int .i64 ((16 + 8) + ((len32 (x.toNat / 2 ^ 16 / 2 ^ 8) : Nat) : Int)))) (rfl) ?_
  exact ⟨int_eq (by rw [len32_div (x := x.toNat) (k := 16) (by omega), len32_div (x := x.toNat / 2 ^ 16) (k := 8) (by omega)]; omega), rfl⟩

set_option maxHeartbeats 400000 in
theorem len32_c1 (w0 : World) (x : Int) (hx : 0 ≤ x ∧ x < 4294967296) (h1 : 65536 ≤ x) (h2 : ¬ 256 ≤ x / 65536) :
    Ret Tryz.prog 239 [.int .u32 x] w0 (fun r w1 => r = .int .i64 (len32 x.toNat : Nat) ∧ w0 = w1) := by
  refine Ret_of (n := 19) Tryz.func239 rfl rfl (Nat.le_of_ble_eq_true rfl) ?_
  refine W_seq ?_
  refine W_region rfl ?_
  refine S_assign rfl rfl rfl (v := (.int .i64 0)) (rfl) ?_
  refine OPS.nil ?_
  change WP _ _ _ _ _ _
  refine W_seq ?_
  refine W_seq ?_
  refine W_region rfl ?_
  refine S_move rfl rfl rfl (v := .int .u32 x) (rfl) ?_
  refine S_bin rfl rfl rfl rfl rfl (rfl) (rfl) (v := .bool true) (by simp [binV]; omega) ?_
  refine OPS.nil ?_
  change WP _ _ _ _ _ _
  refine W_cond rfl (b := true) (rfl) (fun _ => ?_) (fun h => (by cases h))
  refine W_seq ?_
  refine W_region rfl ?_
  refine S_move rfl rfl rfl (v := .int .u32 x) (rfl) ?_
  refine S_shr rfl rfl rfl rfl (rfl) (rfl) (by omega) (v := (x / 65536)) (by rw [Int.fdiv_eq_ediv_of_nonneg _ (by decide)]; rfl) ?_
  refine S_assign rfl rfl rfl (v := (.int .u32 (x / 65536))) (rfl) ?_
  refine OPS.nil ?_
  change WP _ _ _ _ _ _
  refine W_region rfl ?_
  refine S_assign rfl rfl rfl (v := (.int .i64 16)) (rfl) ?_
  refine OPS.nil ?_
  change WP _ _ _ _ _ _
  refine W_seq ?_
  refine W_seq ?_
  refine W_region rfl ?_
  refine S_move rfl rfl rfl (v := (.int .u32 (x / 65536))) (rfl) ?_
  refine S_bin rfl rfl rfl rfl rfl (rfl) (rfl) (v := .bool false) (by simp [binV]; omega) ?_
  refine OPS.nil ?_
  change WP _ _ _ _ _ _
  refine W_cond rfl (b := false) (rfl) (fun h => (by cases h)) (fun _ => ?_)
  refine W_skip ?_
  change WP _ _ _ _ _ _
  refine W_seq ?_
  refine W_region rfl ?_
  have hl := len32_le (x := (x.toNat / 2 ^ 16)) (by omega)
  refine S_move rfl rfl rfl (v := (.int .i64 16)) (rfl) ?_
  refine S_move rfl rfl rfl (v := (.int .u32 (x / 65536))) (rfl) ?_
  refine S_conv Tryz.underlying106 Tryz.underlying5 rfl rfl rfl (rfl) (b := (x / 65536)) (by simp [IntKind.wrap, IntKind.bits, IntKind.signed]; omega) ?_
  refine S_strIdx Tryz.underlying9 rfl rfl rfl rfl rfl (k := .u8) (j := (x.toNat / 2 ^ 16)) (int_eq (by omega)) (b := len32) (by decide +kernel) (by omega) ?_
  refine S_conv Tryz.underlying5 Tryz.underlying3 rfl rfl rfl (rfl) (b := ((len32 (x.toNat / 2 ^ 16) : Nat) : Int)) (wrap_i64 (by omega) (by omega)) ?_
  refine S_add64 rfl rfl rfl rfl (rfl) (rfl) (by omega) ?_
  refine S_assign rfl rfl rfl (v := (.int .i64 (16 + ((len32 (x.toNat / 2 ^ 16) : Nat) : Int)))) (rfl) ?_
  refine OPS.nil ?_
  change WP _ _ _ _ _ _
  refine W_ret ?_
  change Fin' _ _ _ _ _ _
  refine End1 (n := ⟨19, []⟩) (t := 2) rfl (by decide) (v := (.int .i64 (16 + ((len32 (x.toNat / 2 ^ 16) : Nat) : Int)))) (rfl) ?_
  exact ⟨int_eq (by rw [len32_div (x := x.toNat) (k := 16) (by omega)]; omega), rfl⟩

set_option maxHeartbeats 400000 in
theorem len32_c2 (w0 : World) (x : Int) (hx : 0 ≤ x ∧ x < 4294967296) (h1 : ¬ 65536 ≤ x) (h2 : 256 ≤ x) :
    Ret Tryz.prog 239 [.int .u32 x] w0 (fun r w1 => r = .int .i64 (len32 x.toNat : Nat) ∧ w0 = w1) := by
  refine Ret_of (n := 19) Tryz.func239 rfl rfl (Nat.le_of_ble_eq_true rfl) ?_
  refine W_seq ?_
  refine W_region rfl ?_
  refine S_assign rfl rfl rfl (v := (.int .i64 0)) (rfl) ?_
  refine OPS.nil ?_
  change WP _ _ _ _ _ _
  refine W_seq ?_
  refine W_seq ?_
  refine W_region rfl ?_
  refine S_move rfl rfl rfl (v := .int .u32 x) (rfl) ?_
  refine S_bin rfl rfl rfl rfl rfl (rfl) (rfl) (v := .bool false) (by simp [binV]; omega) ?_
  refine OPS.nil ?_
  change WP _ _ _ _ _ _
  refine W_cond rfl (b := false) (rfl) (fun h => (by cases h)) (fun _ => ?_)
  refine W_skip ?_
  change WP _ _ _ _ _ _
  refine W_seq ?_
  refine W_seq ?_
  refine W_region rfl ?_
  refine S_move rfl rfl rfl (v := .int .u32 x) (rfl) ?_
  refine S_bin rfl rfl rfl rfl rfl (rfl) (rfl) (v := .bool true) (by simp [binV]; omega) ?_
  refine OPS.nil ?_
  change WP _ _ _ _ _ _
  refine W_cond rfl (b := true) (rfl) (fun _ => ?_) (fun h => (by cases h))
  refine W_seq ?_
  refine W_region rfl ?_
  refine S_move rfl rfl rfl (v := .int .u32 x) (rfl) ?_
  refine S_shr rfl rfl rfl rfl (rfl) (rfl) (by omega) (v := (x / 256)) (by rw [Int.fdiv_eq_ediv_of_nonneg _ (by decide)]; rfl) ?_
  refine S_assign rfl rfl rfl (v := (.int .u32 (x / 256))) (rfl) ?_
  refine OPS.nil ?_
  change WP _ _ _ _ _ _
  refine W_region rfl ?_
  refine S_move rfl rfl rfl (v := (.int .i64 0)) (rfl) ?_
  refine S_add64 rfl rfl rfl rfl (rfl) (rfl) (by omega) ?_
  refine S_assign rfl rfl rfl (v := (.int .i64 (0 + 8))) (rfl) ?_
  refine OPS.nil ?_
  change WP _ _ _ _ _ _
  refine W_seq ?_
  refine W_region rfl ?_
  have hl := len32_le (x := (x.toNat / 2 ^ 8)) (by omega)
  refine S_move rfl rfl rfl (v := (.int .i64 (0 + 8))) (rfl) ?_
  refine S_move rfl rfl rfl (v := (.int .u32 (x / 256))) (rfl) ?_
  refine S_conv Tryz.underlying106 Tryz.underlying5 rfl rfl rfl (rfl) (b := (x / 256)) (by simp [IntKind.wrap, IntKind.bits, IntKind.signed]; omega) ?_
  refine S_strIdx Tryz.underlying9 rfl rfl rfl rfl rfl (k := .u8) (j := (x.toNat / 2 ^ 8)) (int_eq (by omega)) (b := len32) (by decide +kernel) (by omega) ?_
  refine S_conv Tryz.underlying5 Tryz.underlying3 rfl rfl rfl (rfl) (b := ((len32 (x.toNat / 2 ^ 8) : Nat) : Int)) (wrap_i64 (by omega) (by omega)) ?_
  refine S_add64 rfl rfl rfl rfl (rfl) (rfl) (by omega) ?_
  refine S_assign rfl rfl rfl (v := (.int .i64 ((0 + 8) + ((len32 (x.toNat / 2 ^ 8) : Nat) : Int)))) (rfl) ?_
  refine OPS.nil ?_
  change WP _ _ _ _ _ _
  refine W_ret ?_
  change Fin' _ _ _ _ _ _
  refine End1 (n := ⟨19, []⟩) (t := 2) rfl (by decide) (v := (.int .i64 ((0 + 8) + ((len32 (x.toNat / 2 ^ 8) : Nat) : Int)))) (rfl) ?_
  exact ⟨int_eq (by rw [len32_div (x := x.toNat) (k := 8) (by omega)]; omega), rfl⟩

set_option maxHeartbeats 400000 in
theorem len32_c3 (w0 : World) (x : Int) (hx : 0 ≤ x ∧ x < 4294967296) (h1 : ¬ 65536 ≤ x) (h2 : ¬ 256 ≤ x) :
    Ret Tryz.prog 239 [.int .u32 x] w0 (fun r w1 => r = .int .i64 (len32 x.toNat : Nat) ∧ w0 = w1) := by
  refine Ret_of (n := 19) Tryz.func239 rfl rfl (Nat.le_of_ble_eq_true rfl) ?_
  refine W_seq ?_
  refine W_region rfl ?_
  refine S_assign rfl rfl rfl (v := (.int .i64 0)) (rfl) ?_
  refine OPS.nil ?_
  change WP _ _ _ _ _ _
  refine W_seq ?_
  refine W_seq ?_
  refine W_region rfl ?_
  refine S_move rfl rfl rfl (v := .int .u32 x) (rfl) ?_
  refine S_bin rfl rfl rfl rfl rfl (rfl) (rfl) (v := .bool false) (by simp [binV]; omega) ?_
  refine OPS.nil ?_
  change WP _ _ _ _ _ _
  refine W_cond rfl (b := false) (rfl) (fun h => (by cases h)) (fun _ => ?_)
  refine W_skip ?_
  change WP _ _ _ _ _ _
  refine W_seq ?_
  refine W_seq ?_
  refine W_region rfl ?_
  refine S_move rfl rfl rfl (v := .int .u32 x) (rfl) ?_
  refine S_bin rfl rfl rfl rfl rfl (rfl) (rfl) (v := .bool false) (by simp [binV]; omega) ?_
  refine OPS.nil ?_
  change WP _ _ _ _ _ _
  refine W_cond rfl (b := false) (rfl) (fun h => (by cases h)) (fun _ => ?_)
  refine W_skip ?_
  change WP _ _ _ _ _ _
  refine W_seq ?_
  refine W_region rfl ?_
  have hl := len32_le (x := x.toNat) (by omega)
  refine S_move rfl rfl rfl (v := (.int .i64 0)) (rfl) ?_
  refine S_move rfl rfl rfl (v := .int .u32 x) (rfl) ?_
  refine S_conv Tryz.underlying106 Tryz.underlying5 rfl rfl rfl (rfl) (b := x) (by simp [IntKind.wrap, IntKind.bits, IntKind.signed]; omega) ?_
  refine S_strIdx Tryz.underlying9 rfl rfl rfl rfl rfl (k := .u8) (j := x.toNat) (int_eq (by omega)) (b := len32) (by decide +kernel) (by omega) ?_
  refine S_conv Tryz.underlying5 Tryz.underlying3 rfl rfl rfl (rfl) (b := ((len32 x.toNat : Nat) : Int)) (wrap_i64 (by omega) (by omega)) ?_
  refine S_add64 rfl rfl rfl rfl (rfl) (rfl) (by omega) ?_
  refine S_assign rfl rfl rfl (v := (.int .i64 (0 + ((len32 x.toNat : Nat) : Int)))) (rfl) ?_
  refine OPS.nil ?_
  change WP _ _ _ _ _ _
  refine W_ret ?_
  change Fin' _ _ _ _ _ _
  refine End1 (n := ⟨19, []⟩) (t := 2) rfl (by decide) (v := (.int .i64 (0 + ((len32 x.toNat : Nat) : Int)))) (rfl) ?_
  exact ⟨int_eq (by omega), rfl⟩


theorem len32_c (w0 : World) (x : Int) (hx : 0 ≤ x ∧ x < 4294967296) : Ret Tryz.prog 239 [.int .u32 x] w0 (fun r w1 => r = .int .i64 (len32 x.toNat : Nat) ∧ w0 = w1) := by
  by_cases h1 : 65536 ≤ x
  · by_cases h2 : 256 ≤ x / 65536
    · exact len32_c0 w0 x hx h1 h2
    · exact len32_c1 w0 x hx h1 h2
  · by_cases h2 : 256 ≤ x
    · exact len32_c2 w0 x hx h1 h2
    · exact len32_c3 w0 x hx h1 h2

set_option maxHeartbeats 400000 in
theorem lz32_c (w0 : World) (x : Int) (hx : 0 ≤ x ∧ x < 4294967296) :
    Ret Tryz.prog 155 [.int .u32 x] w0 (fun r w1 => r = .int .i64 (32 - (len32 x.toNat : Nat) : Int) ∧ w0 = w1) := by
  have hl := len32_le (x := x.toNat) (by omega)
  refine Ret_of (n := 6) Tryz.func155 rfl rfl (Nat.le_of_ble_eq_true rfl) ?_
  refine W_seq ?_
  refine W_region rfl ?_
  refine S_assign rfl rfl rfl (v := (.int .i64 0)) (rfl) ?_
  refine OPS.nil ?_
  change WP _ _ _ _ _ _
  refine W_seq ?_
  refine W_region rfl ?_
  refine S_move rfl rfl rfl (v := .int .u32 x) (rfl) ?_
  refine S_call en_math_bits_Len32 rfl rfl rfl (vs := [.int .u32 x]) (rfl) (len32_c w0 x hx) ?_
  rintro _ _ ⟨rfl, rfl⟩
  refine S_sub64 rfl rfl rfl rfl (rfl) (rfl) (by omega) ?_
  refine S_assign rfl rfl rfl (v := (.int .i64 (32 - ((len32 x.toNat : Nat) : Int)))) (rfl) ?_
  refine OPS.nil ?_
  change WP _ _ _ _ _ _
  refine W_ret ?_
  change Fin' _ _ _ _ _ _
  refine End1 (n := ⟨6, []⟩) (t := 2) rfl (by decide) (v := (.int .i64 (32 - ((len32 x.toNat : Nat) : Int)))) (rfl) ?_
  exact ⟨rfl, rfl⟩

end Go.Proofs.YtccmicegihlfbaaGreatDoor

/- Bits: how many noughts; division of numbers of 32. -/
namespace Go.Proofs.YtccmicegihlfbaaGreatDoor
open Go.RowKit


def tab32 : List Nat := [0, 1, 28, 2, 29, 14, 24, 3, 30, 22, 20, 15, 25, 17, 4, 8, 31, 27, 13, 23, 21, 19, 16, 7, 26, 12, 18, 6, 11, 5, 10, 9]
/-- The library's table reads as its text lays it. -/
def Tab (w : World) : Prop := ∀ j, j < 32 → w.cell? ⟨1, j, none⟩ = some (.int .u8 ((tab32.getD j 0 : Nat) : Int))
theorem Tab.below {w w' : World} (h : Tab w) (hb : Below w.heap.size w w') : Tab w' := fun j hj => by
  have hc := h j hj
  rw [hb.cell (World.block_lt_of_cell? w _ hc)]
  exact hc
theorem Tab.lt {w : World} (h : Tab w) : 1 < w.heap.size := World.block_lt_of_cell? w _ (h 0 (by decide))
theorem tab32_ctz : ∀ c, c < 32 → tab32.getD ((2 ^ c * 125613361) % 4294967296 / 134217728) 0 = c ∧ (2 ^ c * 125613361) % 4294967296 / 134217728 < 32 := by decide +kernel
def ctz32 (x : Int) : Nat := Lib.ctz 32 x.toNat
theorem low_bit {x : Int} (hx : 0 < x ∧ x < 4294967296) : bitV .and .u32 x (4294967296 - x) = ((2 ^ ctz32 x : Nat) : Int) ∧ ctz32 x < 32 := by
  obtain ⟨h1, h2⟩ := Lib.lowest_bit 32 x.toNat (by omega) (by omega)
  refine ⟨?_, h2⟩
  rw [bit_and (by omega) (by omega), show (4294967296 - x).toNat = 2 ^ 32 - x.toNat by omega, h1]
  rfl
theorem ctz32_spec {x : Int} (hx : 0 < x ∧ x < 4294967296) : ∃ m, x.toNat = 2 ^ ctz32 x * (2 * m + 1) := by
  obtain ⟨m, hm, _⟩ := Lib.ctzFrom_spec 32 x.toNat (by omega) (by omega)
  refine ⟨m, ?_⟩
  have : ctz32 x = Lib.ctzFrom 32 x.toNat := by simp [ctz32, Lib.ctz]; omega
  rw [this]; exact hm

set_option maxHeartbeats 400000 in
theorem tz32_c (w0 : World) (x : Int) (hx : 0 < x ∧ x < 4294967296) (ht : Tab w0) :
    Ret Tryz.prog 242 [.int .u32 x] w0 (fun r w1 => r = .int .i64 (ctz32 x : Nat) ∧ w0 = w1) := by
  obtain ⟨e1, e2⟩ := low_bit hx
  obtain ⟨e3, hj⟩ := tab32_ctz _ e2
  refine Ret_of (n := 14) Tryz.func242 rfl rfl (Nat.le_of_ble_eq_true rfl) ?_
  refine W_seq ?_
  refine W_region rfl ?_
  refine S_assign rfl rfl rfl (v := (.int .i64 0)) (rfl) ?_
  refine OPS.nil ?_
  change WP _ _ _ _ _ _
  refine W_seq ?_
  refine W_seq ?_
  refine W_region rfl ?_
  refine S_move rfl rfl rfl (v := .int .u32 x) (rfl) ?_
  refine S_bin rfl rfl rfl rfl rfl (rfl) (rfl) (v := .bool false) (by simp [binV]; omega) ?_
  refine OPS.nil ?_
  change WP _ _ _ _ _ _
  refine W_cond rfl (b := false) (rfl) (fun h => (by cases h)) (fun _ => ?_)
  refine W_skip ?_
  change WP _ _ _ _ _ _
  refine W_seq ?_
  refine W_region rfl ?_
  refine S_move rfl rfl rfl (v := .int .u32 x) (rfl) ?_
  refine S_move rfl rfl rfl (v := .int .u32 x) (rfl) ?_
  refine S_neg rfl rfl rfl (rfl) (v := (4294967296 - x)) (by rw [wrap_u32']; omega) ?_
  refine S_bits rfl rfl rfl rfl (by simp) (rfl) (rfl) (v := ((2 ^ ctz32 x : Nat) : Int)) (e1) ?_
  refine S_bin rfl rfl rfl rfl rfl (rfl) (rfl) (v := .int .u32 (((2 ^ ctz32 x * 125613361) % 4294967296 : Nat) : Int)) (by simp only [binV]; congr 1; first | done | exact wrap_u32' _) ?_
  refine S_shr rfl rfl rfl rfl (rfl) (rfl) (by omega) (v := ((((2 ^ ctz32 x * 125613361) % 4294967296 / 134217728) : Nat) : Int)) (by rw [Int.fdiv_eq_ediv_of_nonneg _ (by decide)]; rfl) ?_
  refine S_idxArr Tryz.underlying235 ti_uint8 rfl rfl rfl rfl rfl rfl (j := ((2 ^ ctz32 x * 125613361) % 4294967296 / 134217728)) rfl hj ?_
  refine S_load rfl rfl rfl (rfl) (LD.one ti_uint8 (show w0.cell? _ = some (.int .u8 ((tab32.getD ((2 ^ ctz32 x * 125613361) % 4294967296 / 134217728) 0 : Nat) : Int)) by rw [Nat.zero_add, Nat.mul_one]; exact ht _ hj)) ?_
  refine S_conv Tryz.underlying5 Tryz.underlying3 rfl rfl rfl (rfl) (b := ((ctz32 x : Nat) : Int)) (by rw [e3]; exact wrap_i64 (by omega) (by omega)) ?_
  refine S_assign rfl rfl rfl (v := (.int .i64 ((ctz32 x : Nat) : Int))) (rfl) ?_
  refine OPS.nil ?_
  change WP _ _ _ _ _ _
  refine W_ret ?_
  change Fin' _ _ _ _ _ _
  refine End1 (n := ⟨14, []⟩) (t := 2) rfl (by decide) (v := (.int .i64 ((ctz32 x : Nat) : Int))) (rfl) ?_
  exact ⟨rfl, rfl⟩


theorem hi_lo {hi lo : Int} (hh : 0 ≤ hi ∧ hi < 4294967296) (hl : 0 ≤ lo ∧ lo < 4294967296) : bitV .or .u64 (hi * 4294967296) lo = hi * 4294967296 + lo := by
  have e : ((hi.toNat * 4294967296) ||| lo.toNat) = hi.toNat * 4294967296 + lo.toNat := by
    have := Nat.shiftLeft_add_eq_or_of_lt (a := hi.toNat) (b := lo.toNat) (i := 32) (by omega)
    rw [Nat.shiftLeft_eq] at this
    exact this.symm
  show IntKind.u64.wrap (((BitVec.ofInt 64 (hi * 4294967296) ||| BitVec.ofInt 64 lo).toNat : Nat) : Int) = _
  rw [BitVec.toNat_or]
  have e1 : (BitVec.ofInt 64 (hi * 4294967296)).toNat = hi.toNat * 4294967296 := by simp [BitVec.toNat_ofInt]; omega
  have e2 : (BitVec.ofInt 64 lo).toNat = lo.toNat := by simp [BitVec.toNat_ofInt]; omega
  rw [e1, e2, e, wrap_u64 (by omega) (by omega)]
  omega
theorem S_shl32 {x : Int} (hx : 0 ≤ x ∧ x < 4294967296) : IntKind.u64.wrap (x * 2 ^ (min (32 : Int).toNat IntKind.u64.bits)) = x * 4294967296 := by
  show IntKind.u64.wrap (x * 4294967296) = _
  exact wrap_u64 (by omega) (by omega)
theorem shr32 (x : Int) : x.fdiv (2 ^ (min (32 : Int).toNat IntKind.u64.bits)) = x / 4294967296 := by
  rw [Int.fdiv_eq_ediv_of_nonneg _ (by decide)]
  rfl
theorem div_small {hi lo y : Int} (hh : 0 ≤ hi ∧ hi < y) (hl : 0 ≤ lo ∧ lo < 4294967296) : 0 ≤ (hi * 4294967296 + lo) / y ∧ (hi * 4294967296 + lo) / y < 4294967296 ∧ 0 ≤ (hi * 4294967296 + lo) % y ∧ (hi * 4294967296 + lo) % y < y := by
  refine ⟨Int.ediv_nonneg (by omega) (by omega), ?_, Int.emod_nonneg _ (by omega), Int.emod_lt_of_pos _ (by omega)⟩
  refine Int.ediv_lt_of_lt_mul (by omega) ?_
  have : (hi + 1) * 4294967296 ≤ y * 4294967296 := Int.mul_le_mul_of_nonneg_right (by omega) (by decide)
  omega

set_option maxHeartbeats 400000 in
theorem div32_c (w0 : World) (hi lo y : Int) (hh : 0 ≤ hi ∧ hi < y) (hl : 0 ≤ lo ∧ lo < 4294967296) (hy : y < 4294967296) :
    Ret Tryz.prog 238 [.int .u32 hi, .int .u32 lo, .int .u32 y] w0 (fun r w1 => Below w0.heap.size w0 w1 ∧ r = .tuple #[.int .u32 ((hi * 4294967296 + lo) / y), .int .u32 ((hi * 4294967296 + lo) % y)]) := by
  obtain ⟨q1, q2, q3, q4⟩ := div_small hh hl
  have E := Below.refl w0.heap.size w0
  refine Ret_of (n := 33) Tryz.func238 rfl rfl (Nat.le_of_ble_eq_true rfl) ?_
  refine W_seq ?_
  refine W_region rfl ?_
  refine S_assign rfl rfl rfl (v := (.int .u32 0)) (rfl) ?_
  refine S_assign rfl rfl rfl (v := (.int .u32 0)) (rfl) ?_
  refine OPS.nil ?_
  change WP _ _ _ _ _ _
  refine W_seq ?_
  refine W_seq ?_
  refine W_region rfl ?_
  refine S_move rfl rfl rfl (v := .int .u32 y) (rfl) ?_
  refine S_bin rfl rfl rfl rfl rfl (rfl) (rfl) (v := .bool true) (by simp [binV]; omega) ?_
  refine S_move rfl rfl rfl (v := (.bool true)) (rfl) ?_
  refine S_move rfl rfl rfl (v := .int .u32 y) (rfl) ?_
  refine S_move rfl rfl rfl (v := .int .u32 hi) (rfl) ?_
  refine S_bin rfl rfl rfl rfl rfl (rfl) (rfl) (v := .bool false) (by simp [binV]; omega) ?_
  refine S_pick rfl rfl rfl rfl rfl (b := true) (rfl) (v := (.bool false)) (rfl) ?_
  refine OPS.nil ?_
  change WP _ _ _ _ _ _
  refine W_cond rfl (b := false) (rfl) (fun h => (by cases h)) (fun _ => ?_)
  refine W_skip ?_
  change WP _ _ _ _ _ _
  refine W_seq ?_
  refine W_region rfl ?_
  refine S_move rfl rfl rfl (v := .int .u32 hi) (rfl) ?_
  refine S_conv Tryz.underlying106 Tryz.underlying124 rfl rfl rfl (rfl) (b := hi) (wrap_u64 hh.1 (by omega)) ?_
  refine S_shl rfl rfl rfl rfl (rfl) (rfl) (by omega) (v := (hi * 4294967296)) (S_shl32 (by omega)) ?_
  refine S_move rfl rfl rfl (v := .int .u32 lo) (rfl) ?_
  refine S_conv Tryz.underlying106 Tryz.underlying124 rfl rfl rfl (rfl) (b := lo) (wrap_u64 hl.1 (by omega)) ?_
  refine S_bits rfl rfl rfl rfl (by simp) (rfl) (rfl) (v := (hi * 4294967296 + lo)) (hi_lo (by omega) hl) ?_
  refine S_assign rfl rfl rfl (v := (.int .u64 (hi * 4294967296 + lo))) (rfl) ?_
  refine OPS.nil ?_
  change WP _ _ _ _ _ _
  refine W_seq ?_
  refine D_begin_ mixed_ rfl rfl ?_
  intro w1 hB1 hz_1
  have hz1 := hB1.size
  have E := Below.step E hB1
  have hS_ : Below w1.heap.size w1 w1 := Below.refl _ _
  have E_S := E
  refine D_move (i := 0) (listed2 := (bm 12 1)) (by kernel_rfl) rfl rfl rfl (v := (.int .u64 (hi * 4294967296 + lo))) (rfl) hS_ ?_
  refine D_move (i := 1) (listed2 := (bm 12 3)) (by kernel_rfl) rfl rfl rfl (v := .int .u32 y) (rfl) hS_ ?_
  refine D_conv Tryz.underlying106 Tryz.underlying124 (i := 2) (listed2 := (bm 12 7)) (by kernel_rfl) rfl rfl rfl (rfl) (b := y) (wrap_u64 (by omega) (by omega)) hS_ ?_
  refine D_quo (i := 3) (listed2 := (bm 12 15)) (by kernel_rfl) rfl rfl rfl rfl (rfl) (rfl) (by omega) (v := ((hi * 4294967296 + lo) / y)) (by rw [Int.tdiv_eq_ediv_of_nonneg (by omega)]; exact wrap_u64 (by omega) (by omega)) hS_ ?_
  refine D_conv Tryz.underlying124 Tryz.underlying106 (i := 4) (listed2 := (bm 12 31)) (by kernel_rfl) rfl rfl rfl (rfl) (b := ((hi * 4294967296 + lo) / y)) (wrap_u32 (by omega) (by omega)) hS_ ?_
  refine D_move (i := 5) (listed2 := (bm 12 63)) (by kernel_rfl) rfl rfl rfl (v := (.int .u64 (hi * 4294967296 + lo))) (rfl) hS_ ?_
  refine D_move (i := 6) (listed2 := (bm 12 127)) (by kernel_rfl) rfl rfl rfl (v := .int .u32 y) (rfl) hS_ ?_
  refine D_conv Tryz.underlying106 Tryz.underlying124 (i := 7) (listed2 := (bm 12 255)) (by kernel_rfl) rfl rfl rfl (rfl) (b := y) (wrap_u64 (by omega) (by omega)) hS_ ?_
  refine D_rem (i := 8) (listed2 := (bm 12 511)) (by kernel_rfl) rfl rfl rfl rfl (rfl) (rfl) (by omega) (v := ((hi * 4294967296 + lo) % y)) (Int.tmod_eq_emod_of_nonneg (by omega)) hS_ ?_
  refine D_conv Tryz.underlying124 Tryz.underlying106 (i := 9) (listed2 := (bm 12 1023)) (by kernel_rfl) rfl rfl rfl (rfl) (b := ((hi * 4294967296 + lo) % y)) (wrap_u32 (by omega) (by omega)) hS_ ?_
  refine D_assign (i := 10) (listed2 := (bm 12 2047)) (by kernel_rfl) rfl rfl rfl (v := (.int .u32 ((hi * 4294967296 + lo) / y))) (rfl) hS_ ?_
  refine D_assign (i := 11) (listed2 := (bm 12 4095)) (by kernel_rfl) rfl rfl rfl (v := (.int .u32 ((hi * 4294967296 + lo) % y))) (rfl) hS_ ?_
  refine D_done (by kernel_rfl) ?_
  change WP _ _ _ _ _ _
  refine W_ret ?_
  change Fin' _ _ _ _ _ _
  refine End2 (n := ⟨33, []⟩) (t := 6) (u := 7) rfl (by decide) (by decide) (rfl) (rfl) ?_
  exact ⟨E, rfl⟩

end Go.Proofs.YtccmicegihlfbaaGreatDoor
