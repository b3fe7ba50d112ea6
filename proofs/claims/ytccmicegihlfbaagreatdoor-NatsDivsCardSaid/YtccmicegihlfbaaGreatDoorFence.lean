/- Regions and code in whatever frame: in a function's own, or in a round of a range over a function; regions that draw, held by a condition that need not outlive the last operation. -/
import Derived.Test.YtccmicegihlfbaaGreatDoorDraw
import Derived.OrdersIn
import Derived.RangeFuncFrom
import Derived.RangeFuncLeaves
import Derived.RangeFuncCalls
import Derived.Sort.LoopGhostIn
set_option linter.unusedVariables false
set_option linter.unusedSimpArgs false
namespace Go.Proofs.YtccmicegihlfbaaGreatDoor
open Go.RowKit

/-- No bound, in a function's own frame or in a round. -/
def FW (ro : Option Nat) : Fence := { fn := fun _ => True, depth := none, alive := false, round := ro }
theorem FW_wide : FW none = Fence.wide := rfl
theorem FW_round (l : Nat) : FW (some l) = Fence.wide.inRound l := rfl
def noDefer (ops : Array Oper) : Bool := ops.toList.all fun o => match o.op with | .defer _ => false | _ => true
theorem noDefer_spec {ops : Array Oper} (h : noDefer ops = true) {i : Nat} {o : Oper} (ho : ops[i]? = some o) : ∀ c, o.op ≠ .defer c := by
  intro c hc
  have hm : o ∈ ops.toList := by
    obtain ⟨hi, rfl⟩ := Array.getElem?_eq_some_iff.1 ho
    simp
  have := List.all_eq_true.1 h o hm
  rw [hc] at this
  simp at this
section
variable {ro : Option Nat} {m : Nat} {P : Program} {ops : Array Oper} {Q Q0 : Exit → Act → World → Prop}
theorem wpOpIn_of {i : Nat} {K : Act → World → Prop} {a : Act} {w : World} (hd : noDefer ops = true) (hQ : ∀ e a w, Q0 e a w → e = .normal) (h : wpOpIn Fence.wide m P ops Q0 i K a w) : wpOpIn (FW ro) m P ops Q i K a w := by
  unfold wpOpIn at *
  cases hi : ops[i]? with
  | none => simp only [hi] at h ⊢; exact h
  | some o =>
    simp only [hi] at h ⊢
    split at h
    · rename_i hw
      rw [if_pos hw]
      refine ⟨fun f _ => trivial, ?_⟩
      have h := h.2
      rw [Oper.semAt_eq _ _ _ (noDefer_spec hd hi)] at h ⊢
      generalize (execOp a.eval o).run P w = r at h ⊢
      cases r with
      | ok x w' =>
        cases x <;> simp only [Oper.uponIn] at h ⊢ <;> try exact h
        · refine ⟨fun h => by simp [FW] at h, CallsIn.mono (R := _) (show CallsIn (FW ro) (m - 1) P _ _ _ _ from h.2) ?_⟩
          intro e w'' he
          cases e with
          | returned v => exact he
          | panicked c => exact absurd (hQ _ _ _ he) (by simp)
          | outgrown => obtain ⟨a, w, he⟩ := he; exact absurd (hQ _ _ _ he) (by simp)
        · refine ⟨fun h => by simp [FW] at h, RoundIn.mono (R := _) (show RoundIn (FW ro) (m - 1) P _ _ _ _ _ _ _ from h.2) ?_⟩
          intro e w'' he
          cases e with
          | returned v => exact he
          | panicked c => exact absurd (hQ _ _ _ he) (by simp)
          | outgrown => obtain ⟨a, w, he⟩ := he; exact absurd (hQ _ _ _ he) (by simp)
      | halt x w' =>
        cases x <;> simp only [Oper.uponIn] at h ⊢ <;> first | exact h | exact absurd (hQ _ _ _ h) (by simp)
    · rename_i hw
      rw [if_neg hw]
      exact ⟨fun f _ => trivial, h.2⟩
theorem wpOpsIn_of {l : List Nat} {a : Act} {w : World} (hd : noDefer ops = true) (hQ : ∀ e a w, Q e a w → e = .normal) (h : wpOpsIn Fence.wide m P ops Q l a w) : wpOpsIn (FW ro) m P ops Q l a w := by
  induction l generalizing a w with
  | nil => exact h
  | cons i l ih =>
    rw [wpOpsIn_cons] at h ⊢
    exact wpOpIn_of hd hQ (wpOpIn_mono (fun a w h => ih h) h)
end

/-! ### Code in a function's own frame (ro = none) or in a round (some l) -/
def WPI (ro : Option Nat) (P : Program) (n : NF) (c : Code) (Q : SPost) (σ : Nat → Value) (w : World) : Prop :=
  ∀ m, c.wpIn (FW ro) m P (fun e a w => ∃ σ', a = act n σ' ∧ Q e σ' w) (act n σ) w
section
variable {ro : Option Nat} {P : Program} {n : NF} {Q : SPost} {σ : Nat → Value} {w : World}
theorem V_mono {c : Code} {Q' : SPost} (h : WPI ro P n c Q σ w) (hq : ∀ e σ w, Q e σ w → Q' e σ w) : WPI ro P n c Q' σ w := fun m =>
  wpIn_mono (h m) (fun e a w ⟨σ', h1, h2⟩ => ⟨σ', h1, hq _ _ _ h2⟩)
theorem V_seq {x y : Code} (h : WPI ro P n x (thenK (fun σ w => WPI ro P n y Q σ w) Q) σ w) : WPI ro P n (.seq x y) Q σ w := fun m => by
  refine wpIn_seq (wpIn_mono (h m) ?_)
  rintro e a w' ⟨σ', rfl, hq⟩
  cases e with
  | normal => exact hq m
  | _ => exact ⟨σ', rfl, hq⟩
theorem V_skip (h : Q .normal σ w) : WPI ro P n .skip Q σ w := fun m => wpIn_skip ⟨σ, rfl, h⟩
theorem V_label {l : Nat} (h : Q .normal σ w) : WPI ro P n (.label l) Q σ w := fun m => wpIn_label ⟨σ, rfl, h⟩
theorem V_exit {id : Nat} (h : Q (.exit id) σ w) : WPI ro P n (.exit id) Q σ w := fun m => wpIn_exit ⟨σ, rfl, h⟩
theorem V_ret (h : Q .ret σ w) : WPI ro P n .ret Q σ w := fun m => wpIn_ret ⟨σ, rfl, h⟩
theorem V_cond {c : Operand} {x y : Code} (ht : tok n c = true) {b : Bool} (hc : sv σ c = .bool b) (h1 : b = true → WPI ro P n x Q σ w) (h2 : b = false → WPI ro P n y Q σ w) : WPI ro P n (.cond c x y) Q σ w := fun m =>
  wpIn_cond_split (t := b) (by rw [eval_act ht, hc]) (fun h => h1 h m) (fun h => h2 h m)
theorem V_block {id : Nat} {c : Code} (h : WPI ro P n c (blockQ id Q) σ w) : WPI ro P n (.block id c) Q σ w := fun m => by
  refine wpIn_block (wpIn_mono (h m) ?_)
  rintro e a w' ⟨σ', rfl, hq⟩
  cases e with
  | exit j =>
    simp only [blockQ] at hq
    simp only [Exit.inBlock]
    split
    · rename_i h; rw [if_pos h] at hq; exact ⟨σ', rfl, hq⟩
    · rename_i h; rw [if_neg h] at hq; exact ⟨σ', rfl, hq⟩
  | _ => exact ⟨σ', rfl, hq⟩
theorem V_loop {c : Code} (I : Nat → (Nat → Value) → World → Prop) (k₀ : Nat) (h₀ : I k₀ σ w)
    (round : ∀ k σ w, I k σ w → WPI ro P n c (thenK (fun σ w => ∃ k', k' < k ∧ I k' σ w) Q) σ w) : WPI ro P n (.loop c) Q σ w := fun m => by
  refine wpIn_loop_ghost (fun k a w => ∃ σ, a = act n σ ∧ I k σ w) k₀ ⟨σ, rfl, h₀⟩ ?_
  rintro k a w ⟨σ, rfl, hI⟩
  refine wpIn_mono (round k σ w hI m) ?_
  rintro e a w' ⟨σ', rfl, hq⟩
  cases e with
  | normal => obtain ⟨k', h1, h2⟩ := hq; exact ⟨k', h1, σ', rfl, h2⟩
  | _ => exact ⟨σ', rfl, hq⟩
theorem V_region {id : Nat} {ops : Array Oper} {l : List Nat} (hd : noDefer ops = true) (hl : List.range ops.size = l) (h : OPS P n ops (fun σ w => Q .normal σ w) l σ w) : WPI ro P n (.region id ops false) Q σ w := fun m => by
  subst hl
  unfold OPS at h
  refine wpIn_mono (wpIn_region (wpOpsIn_of hd (fun e a w h => h.1) (h m))) ?_
  rintro e a w' ⟨rfl, σ', rfl, hq⟩
  exact ⟨σ', rfl, hq⟩
theorem V_begin {id : Nat} {ops : Array Oper} (hd : noDefer ops = true) (hm : P.follows .mixedOrders = true) {m : Nat} (hsz : ops.size = m) {l0 : Array Bool} (hl0 : Array.replicate m false = l0) (S : World → Prop)
    (h : ∀ w1, Below w.heap.size w w1 → w1.heap.size = w.heap.size → DRW P n ops (fun σ w => Q .normal σ w) S m l0 σ w1) : WPI ro P n (.region id ops true) Q σ w := fun mm => by
  subst hsz
  subst hl0
  have := h { w with drawn := w.drawn + 1 } ⟨rfl, rfl, rfl, Nat.le_refl _, fun _ _ => rfl⟩ rfl
  unfold DRW at this
  refine wpIn_mono (wpIn_region_draw fun t => wpOpsIn_of hd (Q := fun e a w => e = .normal ∧ ∃ σ', a = act n σ' ∧ Q .normal σ' w) (fun e a w h => h.1) ?_) ?_
  · simp only [Region.schedule, hm, Bool.true_or, if_true]
    exact wpAnyIn_sound ops.size t _ _ _ (wpAnyIn_of_L _ _ _ _ (this (closedL.start _) mm))
  · rintro e a w' ⟨rfl, σ', rfl, hq⟩
    exact ⟨σ', rfl, hq⟩
theorem V_begin_ {id : Nat} {ops : Array Oper} (hd : noDefer ops = true) (hm : P.follows .mixedOrders = true) {m : Nat} (hsz : ops.size = m) {l0 : Array Bool} (hl0 : Array.replicate m false = l0)
    (h : ∀ w1, Below w.heap.size w w1 → w1.heap.size = w.heap.size → DRW P n ops (fun σ w => Q .normal σ w) (fun w_ => Below w1.heap.size w1 w_) m l0 σ w1) : WPI ro P n (.region id ops true) Q σ w := fun mm => by
  subst hsz
  subst hl0
  have := h { w with drawn := w.drawn + 1 } ⟨rfl, rfl, rfl, Nat.le_refl _, fun _ _ => rfl⟩ rfl
  unfold DRW at this
  refine wpIn_mono (wpIn_region_draw fun t => wpOpsIn_of hd (Q := fun e a w => e = .normal ∧ ∃ σ', a = act n σ' ∧ Q .normal σ' w) (fun e a w h => h.1) ?_) ?_
  · simp only [Region.schedule, hm, Bool.true_or, if_true]
    exact wpAnyIn_sound ops.size t _ _ _ (wpAnyIn_of_L _ _ _ _ (this (closedL.start _) mm))
  · rintro e a w' ⟨rfl, σ', rfl, hq⟩
    exact ⟨σ', rfl, hq⟩
end
attribute [irreducible] WPI

theorem wg_undef {n : NF} {ops : Array Oper} {σ : Nat → Value} {j s : Nat} {want : Bool} (hd : (ops[j]?).bind (·.dst) = some s) (hv : σ s = undef) : wg n ops σ (some (j, want)) = false := by
  simp [wg, hd, hv, undef]
/-! ### A range over a function -/
/-- What a round keeps: whatever is cells, but for block g. -/
def Keeps (g : Nat → Prop) (W W' : World) : Prop := W.heap.size ≤ W'.heap.size ∧ ∀ k o, ¬ g k → W.heap[k]? = some o → o.isCells = true → W'.heap[k]? = some o
theorem Keeps.t {g : Nat → Prop} {A B C : World} (h : Keeps g A B) (k : Keeps g B C) : Keeps g A C :=
  ⟨Nat.le_trans h.1 k.1, fun i o hg ho hc => k.2 i o hg (h.2 i o hg ho hc) hc⟩
theorem Keeps.b {g : Nat → Prop} (W : World) (l : Nat) (o o' : Obj) (h : W.heap[l]? = some o) (hc : o.isCells = false) : Keeps g W (W.putObj l o') :=
  ⟨by simp [World.putObj], fun k u _ hu hcu => by
    by_cases e : k = l
    · subst e; rw [h] at hu; cases hu; rw [hc] at hcu; cases hcu
    · exact (World.putObj_heap_other e).trans hu⟩
theorem Keeps.below {g : Nat → Prop} {W W' : World} (h : Below W.heap.size W W') : Keeps g W W' :=
  ⟨h.size, fun k o _ ho _ => (h.block k (Array.getElem?_eq_some_iff.1 ho).1).trans ho⟩
theorem Keeps.upd {g : Nat → Prop} {k : Nat} {W W' : World} (h : Upd k W W') (hk : g k) : Keeps g W W' :=
  ⟨by rw [h.size]; exact Nat.le_refl _, fun i o hg ho _ => (h.block i (fun e => hg (e ▸ hk))).trans ho⟩
end Go.Proofs.YtccmicegihlfbaaGreatDoor
