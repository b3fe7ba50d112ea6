/- A range over a function: the call of yield; the loop; the function's end. -/
import Derived.Test.YtccmicegihlfbaaGreatDoorFence
set_option linter.unusedVariables false
set_option linter.unusedSimpArgs false
namespace Go.Proofs.YtccmicegihlfbaaGreatDoor
open Go.RowKit

theorem roundIn_any {m m' : Nat} {P : Program} {l : Nat} {f : FuncId} {tmps : Array Value} {assign body : Code} {w : World} {R : Ending → World → Prop} (h : RoundIn Fence.wide m P l f tmps assign body w R) : RoundIn Fence.wide m' P l f tmps assign body w R :=
  ⟨h.1, fun c cs _ => h.2 c cs (fun _ h => by simp [Fence.wide] at h)⟩
theorem yieldAt_any {m m' : Nat} {P : Program} {l : Nat} {args : Array Value} {W : World} {R : Ending → World → Prop} (h : YieldAt Fence.wide m P l args W R) : YieldAt Fence.wide m' P l args W R := by
  obtain ⟨fn, tmps, assign, body, hy, hR⟩ := h
  exact ⟨fn, tmps, assign, body, hy, roundIn_any hR⟩
theorem seqStops_any {α : Type} {m m' : Nat} {P : Program} {g : Nat} {lb : Array Value} {encs : α → Array Value} {Kp : World → World → Prop} {S Sp : List α → Prop} {N : Nat} {w : World}
    (h : SeqStopsK Fence.wide m P g lb encs Kp S Sp N w) : SeqStopsK Fence.wide m' P g lb encs Kp S Sp N w := fun l J Jx W hB hJ hJx hY h0 =>
  callsIn_wide.2 (callsIn_wide.1 (h l J Jx W hB hJ hJx (fun pre x W1 hj hl => yieldAt_any (hY pre x W1 hj hl)) h0))
section
variable {P : Program} {n : NF} {ops : Array Oper} {K : (Nat → Value) → World → Prop} {σ : Nat → Value} {w : World} {i : Nat} {rest : List Nat}
variable {d : Nat} {t : TypeId} {p : String} {af : Array Edge} {gd : Option (Nat × Bool)} {x y : Operand}
/-- The call of yield. -/
theorem S_yield {l : Nat} {ars : Array Operand} {ats : Array TypeId}
    (ho : ops[i]? = some { dst := some d, op := .call { callee := .value x, args := ars, argTypes := ats }, type := t, pos := p, after := af, guard := gd })
    (hw : wg n ops σ gd = true) (hx0 : tok n x = true) (hx : ars.toList.all (tok n) = true) (hv : sv σ x = .func (.yield l) #[] #[]) {vs : List Value} (hvs : ars.toList.map (sv σ) = vs) {R : Ending → World → Prop} {m0 : Nat} (hc : YieldAt Fence.wide m0 P l vs.toArray w R)
    (h : ∀ e w', R e w' → ∃ v, e = .returned v ∧ OPS P n ops K rest (upd σ d v) w') : OPS P n ops K (i :: rest) σ w := by
  obtain ⟨fn, tmps, assign, body, hy, hR⟩ := hc
  have hr : (execOp (act n σ).eval { dst := some d, op := .call { callee := .value x, args := ars, argTypes := ats }, type := t, pos := p, after := af, guard := gd }).run P w = .ok (.round l fn tmps assign body) w := by
    subst hvs
    simp [execOp, resolve, args_eval hx, eval_act hx0, hv, Deferred.ofValue, invoke, hy]
  unfold OPS at *
  intro m
  simp only [wpOpsIn, ho, wanted_wg, hw, if_true]
  refine ⟨fun f _ => trivial, ?_⟩
  rw [show Fence.wide.round = none from rfl, Oper.semAt_none, hr, Oper.uponIn_round]
  refine ⟨fun h => by simp [Fence.wide] at h, RoundIn.mono (roundIn_any hR) ?_⟩
  intro e w' he
  obtain ⟨v, rfl, hk⟩ := h e w' he
  simp only [put_act]
  exact hk m
end

/-! ### Code whose end may lie in another frame's tail -/
def WPR (P : Program) (c : Code) (Q : Exit → Act → World → Prop) (a : Act) (w : World) : Prop := c.wpIn Fence.wide 4 P Q a w
section
variable {P : Program} {n : NF} {Q : Exit → Act → World → Prop} {σ : Nat → Value} {a : Act} {w : World}
theorem X_seq {x y : Code} (h : WPR P x (Exit.then (WPR P y Q) Q) a w) : WPR P (.seq x y) Q a w := wpIn_seq h
theorem X_skip (h : Q .normal a w) : WPR P .skip Q a w := wpIn_skip h
theorem X_exit {id : Nat} (h : Q (.exit id) a w) : WPR P (.exit id) Q a w := wpIn_exit h
theorem X_ret (h : Q .ret a w) : WPR P .ret Q a w := wpIn_ret h
theorem X_block {id : Nat} {c : Code} (h : WPR P c (Exit.inBlock id Q) a w) : WPR P (.block id c) Q a w := wpIn_block h
theorem X_cond {c : Operand} {x y : Code} (ht : tok n c = true) {b : Bool} (hc : sv σ c = .bool b) (h1 : b = true → WPR P x Q (act n σ) w) (h2 : b = false → WPR P y Q (act n σ) w) : WPR P (.cond c x y) Q (act n σ) w :=
  wpIn_cond_split (t := b) (by rw [eval_act ht, hc]) h1 h2
theorem X_region {id : Nat} {ops : Array Oper} {l : List Nat} (hl : List.range ops.size = l) (h : OPS P n ops (fun σ w => Q .normal (act n σ) w) l σ w) : WPR P (.region id ops false) Q (act n σ) w := by
  subst hl
  unfold OPS at h
  refine wpIn_mono (wpIn_region (h 4)) ?_
  rintro e a w' ⟨rfl, σ', rfl, hq⟩
  exact hq
theorem X_begin {id : Nat} {ops : Array Oper} (hm : P.follows .mixedOrders = true) {m : Nat} (hsz : ops.size = m) {l0 : Array Bool} (hl0 : Array.replicate m false = l0) (S : World → Prop)
    (h : ∀ w1, Below w.heap.size w w1 → w1.heap.size = w.heap.size → DRW P n ops (fun σ w => Q .normal (act n σ) w) S m l0 σ w1) : WPR P (.region id ops true) Q (act n σ) w := by
  subst hsz
  subst hl0
  have := h { w with drawn := w.drawn + 1 } ⟨rfl, rfl, rfl, Nat.le_refl _, fun _ _ => rfl⟩ rfl
  unfold DRW at this
  refine wpIn_mono (wpIn_region_any hm (wpAnyIn_of_L _ _ _ _ (this (closedL.start _) 4))) ?_
  rintro e a w' ⟨rfl, σ', rfl, hq⟩
  exact hq
theorem X_begin_ {id : Nat} {ops : Array Oper} (hm : P.follows .mixedOrders = true) {m : Nat} (hsz : ops.size = m) {l0 : Array Bool} (hl0 : Array.replicate m false = l0)
    (h : ∀ w1, Below w.heap.size w w1 → w1.heap.size = w.heap.size → DRW P n ops (fun σ w => Q .normal (act n σ) w) (fun w_ => Below w1.heap.size w1 w_) m l0 σ w1) : WPR P (.region id ops true) Q (act n σ) w := by
  subst hsz
  subst hl0
  have := h { w with drawn := w.drawn + 1 } ⟨rfl, rfl, rfl, Nat.le_refl _, fun _ _ => rfl⟩ rfl
  unfold DRW at this
  refine wpIn_mono (wpIn_region_any hm (wpAnyIn_of_L _ _ _ _ (this (closedL.start _) 4))) ?_
  rintro e a w' ⟨rfl, σ', rfl, hq⟩
  exact hq
def markD (D : Nat) : Deferred := { target := .collected D, args := #[] }
/-- What a round's body leaves. -/
def roundQ {α : Type} (B : Nat) (g : Nat → Prop) (I : List α → World → Prop) (Ix : Code → List α → World → Prop) (xs : List α) (W : World) : SPost
  | .normal, _, W' => KeepsFrom B W W' ∧ Keeps g W W' ∧ I xs W'
  | .ret, _, W' => KeepsFrom B W W' ∧ Ix .ret xs W'
  | .exit id, _, W' => KeepsFrom B W W' ∧ Ix (.exit id) xs W'
  | .goto t, _, W' => KeepsFrom B W W' ∧ Ix (.goto t) xs W'
  | .panic _, _, _ => False
  | .outgrown, _, _ => False
theorem put_tmps (n : NF) (σ : Nat → Value) (p : Nat) (v : Value) : (act n σ).tmps.setIfInBounds p v = (act n (upd σ p v)).tmps := by
  have := put_act n σ p v
  simp only [Act.put] at this
  exact congrArg Act.tmps this
theorem X_range {α : Type} {g : Operand} {p1 p2 : Nat} {assign body : Code} (hg : tok n g = true) {gf : Nat} {lb : Array Value} (hv : sv σ g = .func (.func gf) #[] lb) (eg : En P gf)
    {e1 e2 : α → Value} {gs : Nat → Prop} {S Sp : List α → Prop} {N : Nat} {w0 : World} (hseq : SeqStopsK Fence.wide 3 P gf lb (fun x => #[e1 x, e2 x]) (Keeps gs) S Sp N w0) (hb0 : Below w0.heap.size w0 w)
    (I : List α → World → Prop) (Ix : Code → List α → World → Prop) (hI : OwnFrom w.heap.size I) (hIx : ∀ c, OwnFrom w.heap.size (Ix c)) (h0 : I [] w) (f1 : (Nat → Value) → α → Nat → Value)
    (hassign : ∀ (l : Nat) (x : α) (W : World) (K : (Nat → Value) → World → Prop), K (f1 σ x) W → WPI (some l) P ⟨n.n, []⟩ assign (fun e σ' W' => e = .normal ∧ K σ' W') (upd (upd σ p1 (e1 x)) p2 (e2 x)) W)
    (hbody : ∀ (l : Nat) (pre : List α) (x : α) (W : World), I pre W → pre.length < N → WPI (some l) P ⟨n.n, []⟩ body (roundQ w.heap.size gs I Ix (pre ++ [x]) W) (f1 σ x) W)
    (hdone : ∀ (D : Nat) (xs : List α) (W : World), w.heap.size ≤ D → S xs → I xs W → W.heap[D]? = some (.deferred (some [])) → Q .normal (act ⟨n.n, markD D :: n.ds⟩ σ) W)
    (hstop : ∀ (D : Nat) (c : Code) (pre : List α) (W : World), w.heap.size ≤ D → Sp pre → Ix c pre W → W.heap[D]? = some (.deferred (some [])) → WPR P c Q (act ⟨n.n, markD D :: n.ds⟩ σ) W) :
    WPR P (.rangeFunc g #[p1, p2] assign body) Q (act n σ) w := by
  refine wpIn_rangeFunc_ownG (F := Fence.wide) rfl (by omega) (gf := gf) (lb := lb) (by rw [eval_act hg, hv]) trivial (fun args w => run_call eg args) (hseq) (fun h k => h.t k) (fun W l o o' _ h1 h2 _ => Keeps.b W l o o' h1 h2) hb0 (fun _ => rfl)
    I Ix hI hIx h0 (fun x => act ⟨n.n, []⟩ (f1 σ x)) ?_ ?_ hdone hstop
  · intro l x W K hK
    have := hassign l x W (fun σ' W' => K (act ⟨n.n, []⟩ σ') W') hK
    unfold WPI at this
    have := this (4 - 1 - 1)
    have e : ({ tmps := ((#[p1, p2] : Array Tmp).zip #[e1 x, e2 x]).foldl (fun t (p, v) => t.setIfInBounds p v) (act n σ).tmps, defers := [] } : Act) = act ⟨n.n, []⟩ (upd (upd σ p1 (e1 x)) p2 (e2 x)) := by
      simp [put_tmps]
      rfl
    rw [e]
    refine wpIn_mono this ?_
    rintro e a w' ⟨σ', rfl, rfl, h⟩
    exact h
  · intro l pre x W hi hl
    have := hbody l pre x W hi hl
    unfold WPI at this
    refine wpIn_mono (this (4 - 1 - 1)) ?_
    rintro e a w' ⟨σ', rfl, h⟩
    cases e <;> exact h
end
theorem Ret_marks {P : Program} {n : Nat} {f : FuncId} {fn : Func} {c : Code} {vs : List Value} {w : World} {R : Value → World → Prop} (hf : P.funcs[f]? = some fn) (hb : fn.body = some c) (hn : fn.ntmps = n) (hl : vs.length ≤ n)
    (h : WPR P c (bodyPostM Fence.wide 4 P fn (fun e w' => ∃ v, e = .returned v ∧ R v w')) (act ⟨n, []⟩ (initS vs)) w) : Ret P f vs w R := by
  refine callsIn_wide.1 (callsIn_of_wp_marks (n := 4) hf hb trivial ?_)
  rw [hn, act_init n vs hl]
  exact h
theorem EndM {P : Program} {n : Nat} {fn : Func} {D : Nat} {σ : Nat → Value} {w : World} {R : Value → World → Prop} (hK : w.heap[D]? = some (.deferred (some []))) (h : Fin' P ⟨n, []⟩ fn R σ (w.putObj D (.deferred none))) :
    bodyPostM Fence.wide 4 P fn (fun e w' => ∃ v, e = .returned v ∧ R v w') .ret (act ⟨n, [markD D]⟩ σ) w := by
  unfold Fin' at h
  obtain ⟨v, h1, h2⟩ := h
  exact ⟨by simp, .inl ⟨_, _, rfl, run_takeDeferred hK, v, h1, v, rfl, h2⟩⟩
theorem EndM0 {P : Program} {n : Nat} {fn : Func} {σ : Nat → Value} {w : World} {R : Value → World → Prop} (h : Fin' P ⟨n, []⟩ fn R σ w) :
    bodyPostM Fence.wide 4 P fn (fun e w' => ∃ v, e = .returned v ∧ R v w') .ret (act ⟨n, []⟩ σ) w := by
  unfold Fin' at h
  obtain ⟨v, h1, h2⟩ := h
  exact ⟨v, h1, v, rfl, h2⟩
theorem Blk.putObj {w : World} {g D : Nat} {cs : List Value} {t : TypeId} {o o' : Obj} (hb : Blk w g cs t) (hK : w.heap[D]? = some o) (ho : o.isCells = false) : Blk (w.putObj D o') g cs t := by
  refine ⟨?_⟩
  rw [World.putObj_heap_other]
  · exact hb.at_
  · intro e
    subst e
    have := hb.at_
    rw [hK] at this
    cases this
    cases ho
theorem below_putObj {B D : Nat} {w0 w : World} {o' : Obj} (h : Below B w0 w) (hD : B ≤ D) : Below B w0 (w.putObj D o') :=
  ⟨h.os, h.tape, h.output, by simpa [World.putObj] using h.size, fun k hk => (World.putObj_heap_other (by omega)).trans (h.block k hk)⟩
/-- What a round has kept so far. -/
def Kept (B : Nat) (g : Nat → Prop) (W W' : World) : Prop := KeepsFrom B W W' ∧ Keeps g W W'
theorem Kept.refl (B : Nat) (g : Nat → Prop) (W : World) : Kept B g W W := ⟨KeepsFrom.refl B W, Keeps.below (Below.refl _ _)⟩
theorem Kept.step {B : Nat} {g : Nat → Prop} {W A C : World} (h : Kept B g W A) (hb : Below A.heap.size A C) : Kept B g W C :=
  ⟨h.1.trans ⟨hb.size, fun k o _ ho _ => (hb.block k (Array.getElem?_eq_some_iff.1 ho).1).trans ho⟩, h.2.t (Keeps.below hb)⟩
theorem Kept.upd {B k : Nat} {g : Nat → Prop} {W A C : World} (h : Kept B g W A) (hu : Upd k A C) (hg : g k) (hk : k < B) : Kept B g W C :=
  ⟨h.1.trans ⟨by rw [hu.size]; exact Nat.le_refl _, fun i o hi ho _ => (hu.block i (by omega)).trans ho⟩, h.2.t (Keeps.upd hu hg)⟩
end Go.Proofs.YtccmicegihlfbaaGreatDoor
