/- Regions that draw their order: what only reads is taken first; the rest comes up one by one. Printed by mkdraw.py out of the single steps. -/
import Derived.Test.YtccmicegihlfbaaGreatDoorBase
import Derived.OrdersHeld
set_option linter.unusedVariables false
set_option linter.unusedSimpArgs false
namespace Go.Proofs.YtccmicegihlfbaaGreatDoor
open Go.RowKit

/-! ### Regions that draw, held by a condition that need not outlive the last operation -/
section
variable {m : Nat} {P : Program} {ops : Array Oper} {Q : Exit → Act → World → Prop} {md : Region.Mode} {S : World → Prop}
theorem sem_wide (o : Oper) (ρ : Operand → Value) : o.semAt Fence.wide.round ρ = execOp ρ o := rfl
theorem YieldsIf.opIn {i : Nat} {o : Oper} {v : Value} {a : Act} (hi : ops[i]? = some o) (hy : YieldsIf P ops S o v a)
    {K : Act → World → Prop} {w : World} (hS : S w) (h : K (a.put o.dst v) w) : wpOpIn Fence.wide m P ops Q i K a w := by
  unfold Go.wpOpIn
  simp only [hi]
  rcases hy with ⟨hw, hv⟩ | ⟨hw, rfl⟩
  · simp only [hw, if_true, Oper.wpIn, sem_wide, hv w hS, Oper.uponIn]; exact ⟨fun _ _ => trivial, h⟩
  · simp only [hw, Bool.false_eq_true, if_false]; exact ⟨fun _ _ => trivial, h⟩
theorem wpOpIn_putIf {j : Nat} {oi oj : Oper} {v : Value} (hj : ops[j]? = some oj) (hap : oi.apart ops oj = true)
    (hsi : ∀ cs b, oi.op ≠ .select cs b) (hsj : ∀ cs b, oj.op ≠ .select cs b)
    (hQ : ∀ c a w, Q (.panic c) (a.put oi.dst v) w → Q (.panic c) a w) {K : Act → World → Prop} {a : Act} {w : World}
    (hy : YieldsIf P ops S oi v a) (h : wpOpIn Fence.wide m P ops Q j K (a.put oi.dst v) w) :
    wpOpIn Fence.wide m P ops Q j (fun a' w' => YieldsIf P ops S oi v a' ∧ K (a'.put oi.dst v) w') a w := by
  obtain ⟨h1, h2, h3⟩ := Oper.apart_spec hap
  have keep : ∀ (a : Act), YieldsIf P ops S oi v a → ∀ u, YieldsIf P ops S oi v (a.put oj.dst u) := fun a hy u =>
    hy.of_same (execOp_put oi hsi a oj.dst u h3) (wanted_put oi a oj.dst u h3)
  have keepD : ∀ d, YieldsIf P ops S oi v { a with defers := d :: a.defers } := fun d => hy.of_same rfl rfl
  unfold wpOpIn at *
  simp only [hj] at *
  rw [wanted_put oj a oi.dst v h1] at h
  split
  · rename_i hw
    simp only [hw, if_true] at h
    unfold Oper.wpIn at *
    refine ⟨fun _ _ => trivial, ?_⟩
    have h := h.2
    rw [sem_wide, execOp_put oj hsj a oi.dst v h1] at h
    rw [sem_wide]
    generalize (execOp a.eval oj).run P w = r at *
    cases r with
    | ok x w' =>
      cases x <;> simp only [Oper.uponIn] at h ⊢
      case value u => exact ⟨keep a hy u, by rw [← Act.put_comm a v u h2]; exact h⟩
      case skip => exact ⟨keep a hy _, by rw [← Act.put_comm a v undef h2]; exact h⟩
      case defer d =>
        refine ⟨keep _ (keepD d) _, ?_⟩
        rw [← Act.put_comm _ v undef h2, ← Act.put_defers]
        exact h
      case enter f args =>
        refine ⟨h.1, CallsIn.mono h.2 fun e w'' he => ?_⟩
        cases e with
        | returned u => exact ⟨keep a hy u, by rw [← Act.put_comm a v u h2]; exact he⟩
        | panicked c => exact hQ _ _ _ he
        | outgrown => exact he
      case row row args => exact ⟨h.1, RowsIn.mono h.2 fun u w'' he => ⟨keep a hy u, by rw [← Act.put_comm a v u h2]; exact he⟩⟩
      case round l f tmps assign body =>
        refine ⟨h.1, RoundIn.mono h.2 fun e w'' he => ?_⟩
        cases e with
        | returned u => exact ⟨keep a hy u, by rw [← Act.put_comm a v u h2]; exact he⟩
        | panicked c => exact hQ _ _ _ he
        | outgrown => exact he
    | halt x w' =>
      cases x <;> simp only [Oper.uponIn] at h ⊢
      case panic u => exact hQ _ _ _ h
  · rename_i hw
    simp only [hw] at h
    exact ⟨fun _ _ => trivial, keep a hy _, by rw [← Act.put_comm a v undef h2]; exact h.2⟩

/-- i comes ahead of j. -/
def ahead (md : Region.Mode) (ops : Array Oper) : Nat → Nat → Nat → Bool
  | 0, _, _ => false
  | f + 1, i, j => match ops[j]? with | some o => o.after.any fun e => Region.binds md e && (e.on == i || ahead md ops f i e.on) | none => false
/-- An operation that each other one comes ahead of, or waits for. -/
def lastOp (md : Region.Mode) (ops : Array Oper) (f i : Nat) : Bool := (List.range ops.size).all fun j => j == i || (ahead md ops f j i || match ops[j]? with | some o => o.after.any fun e => Region.binds md e && e.on == i | none => false)
/-- What is listed, what it waits for is. -/
def closedL (md : Region.Mode) (ops : Array Oper) (listed : Array Bool) : Prop := ∀ x o, ops[x]? = some o → listed.getD x false = true → ∀ e ∈ o.after, Region.binds md e = true → listed.getD e.on false = true
theorem closedL.start (n : Nat) : closedL md ops (Array.replicate n false) := fun x o _ h => by
  rw [Array.getD_eq_getD_getElem?] at h
  by_cases hx : x < n
  · simp [hx] at h
  · simp [hx] at h
theorem closedL.add {listed : Array Bool} {i : Nat} (h : closedL md ops listed) (hi : i ∈ Region.ready md ops listed) : closedL md ops (listed.setIfInBounds i true) := by
  obtain ⟨h0, oi, hoi, hall⟩ := mem_ready.1 hi
  have mono : ∀ y, listed.getD y false = true → (listed.setIfInBounds i true).getD y false = true := fun y hy => by
    by_cases e : i = y
    · subst e
      have hlt : i < listed.size := by
        rcases Nat.lt_or_ge i listed.size with h | h
        · exact h
        · rw [Array.getD_eq_getD_getElem?] at hy; simp [Array.getElem?_eq_none h] at hy
      rw [Array.getD_eq_getD_getElem?]
      simp [hlt]
    · rw [getD_set_ne false e]; exact hy
  intro x o ho hx e he hb
  by_cases hxi : i = x
  · subst hxi
    rw [hoi] at ho
    cases ho
    exact mono _ (hall e he hb)
  · rw [getD_set_ne false hxi] at hx
    exact mono _ (h x o ho hx e he hb)
theorem ahead_listed {listed : Array Bool} (h : closedL md ops listed) {f i j : Nat} {o : Oper} (ho : ops[j]? = some o) (hp : ∀ e ∈ o.after, Region.binds md e = true → listed.getD e.on false = true) (ha : ahead md ops f i j = true) : listed.getD i false = true := by
  induction f generalizing j o with
  | zero => cases ha
  | succ f ih =>
    simp only [ahead, ho, Array.any_eq_true, Bool.and_eq_true, Bool.or_eq_true, beq_iff_eq] at ha
    obtain ⟨k, hk, hb, he⟩ := ha
    have h1 := hp _ (Array.getElem_mem hk) hb
    rcases he with he | he
    · rw [← he]; exact h1
    · cases hx : ops[(o.after[k]).on]? with
      | none => 
        cases f with
        | zero => cases he
        | succ f => simp [ahead, hx] at he
      | some ox => exact ih hx (fun e he' hb' => h _ _ hx h1 e he' hb') he
/-- Whatever order is picked from here on; S holds behind every operation that is carried out, but for the last. -/
def wpAnyL (m : Nat) (P : Program) (md : Region.Mode) (ops : Array Oper) (Q : Exit → Act → World → Prop) (S : World → Prop) : Nat → Array Bool → Act → World → Prop
  | 0, listed, a, w => Region.ready md ops listed = [] ∧ Q .normal a w
  | fuel + 1, listed, a, w =>
    (Region.ready md ops listed = [] → Q .normal a w) ∧
    ∀ i ∈ Region.ready md ops listed, wpOpIn Fence.wide m P ops Q i (fun a' w' => ((∃ f, lastOp md ops f i = true) ∨ S w') ∧ wpAnyL m P md ops Q S fuel (listed.setIfInBounds i true) a' w') a w
theorem wpAnyIn_of_L : ∀ (fuel : Nat) (listed : Array Bool) (a : Act) (w : World), wpAnyL m P md ops Q S fuel listed a w → wpAnyIn Fence.wide m P md ops Q fuel listed a w
  | 0, _, _, _, h => h
  | fuel + 1, _, _, _, h => ⟨h.1, fun i hi => wpOpIn_mono (fun a' w' h' => wpAnyIn_of_L fuel _ a' w' h'.2) (h.2 i hi)⟩
theorem wpAnyL_first {i : Nat} {oi : Oper} {v : Value} (hi : ops[i]? = some oi) (hsel : ∀ (j : Nat) (o : Oper) cs b, ops[j]? = some o → o.op ≠ .select cs b)
    (hQ : ∀ c a w, Q (.panic c) (a.put oi.dst v) w → Q (.panic c) a w) :
    ∀ (fuel : Nat) (listed : Array Bool) (a : Act) (w : World),
      (∀ j oj, ops[j]? = some oj → j ≠ i → listed.getD j true = false → (∀ e ∈ oj.after, Region.binds md e = true → e.on ≠ i) → oi.apart ops oj = true) →
      i ∈ Region.ready md ops listed → closedL md ops listed → YieldsIf P ops S oi v a → S w →
      wpAnyL m P md ops Q S fuel (listed.setIfInBounds i true) (a.put oi.dst v) w → wpAnyL m P md ops Q S (fuel + 1) listed a w := by
  intro fuel
  induction fuel with
  | zero =>
    intro listed a w _ hr hcl hy hS H
    refine ⟨fun h => (by rw [h] at hr; cases hr), fun j hj => ?_⟩
    by_cases hji : j = i
    · subst hji; exact YieldsIf.opIn hi hy hS ⟨.inr hS, H⟩
    · have := ready_mono hj hji
      rw [H.1] at this
      cases this
  | succ fuel ih =>
    intro listed a w hfree hr hcl hy hS H
    refine ⟨fun h => (by rw [h] at hr; cases hr), fun j hj => ?_⟩
    by_cases hji : j = i
    · subst hji; exact YieldsIf.opIn hi hy hS ⟨.inr hS, H⟩
    · have h1 := H.2 j (ready_mono hj hji)
      obtain ⟨hjun, oj, hoj, hall⟩ := mem_ready.1 hj
      have hnot : ∀ e ∈ oj.after, Region.binds md e = true → e.on ≠ i := fun e he hb heq => by
        have h1 := hall e he hb
        have h0 := (mem_ready.1 hr).1
        rw [heq] at h1
        rcases Nat.lt_or_ge i listed.size with h' | h'
        · simp [h'] at h0 h1; rw [h0] at h1; cases h1
        · simp [Array.getElem?_eq_none h'] at h1
      have hnl : ∀ f, lastOp md ops f j = true → False := fun f hl => by
        have hlt : i < ops.size := (Array.getElem?_eq_some_iff.1 hi).1
        have := List.all_eq_true.1 hl i (List.mem_range.2 hlt)
        rw [hi] at this
        simp only [Bool.or_eq_true, beq_iff_eq, Array.any_eq_true, Bool.and_eq_true] at this
        obtain ⟨hiun, oi', hoi', halli⟩ := mem_ready.1 hr
        have fin : ∀ y, listed.getD y true = false → listed.getD y false = true → False := fun y h1 h2 => by
          rcases Nat.lt_or_ge y listed.size with h' | h'
          · simp [h'] at h1 h2; rw [h1] at h2; cases h2
          · simp [Array.getElem?_eq_none h'] at h1
        rcases this with h | h | ⟨k, hk, hb, he⟩
        · exact hji h.symm
        · exact fin i hiun (ahead_listed hcl hoj hall h)
        · rw [hi] at hoi'
          cases hoi'
          exact fin j hjun (he ▸ halli _ (Array.getElem_mem hk) hb)
      have h2 := wpOpIn_putIf hoj (hfree j oj hoj hji hjun hnot) (fun cs b => hsel i oi cs b hi) (fun cs b => hsel j oj cs b hoj) hQ hy h1
      have hfree' : ∀ k ok, ops[k]? = some ok → k ≠ i → (listed.setIfInBounds j true).getD k true = false →
          (∀ e ∈ ok.after, Region.binds md e = true → e.on ≠ i) → oi.apart ops ok = true := fun k ok hk hki hun hno => by
        refine hfree k ok hk hki ?_ hno
        by_cases hjk : j = k
        · subst hjk; exact hjun
        · rw [getD_set_ne true hjk] at hun; exact hun
      refine wpOpIn_mono (fun a' w' h3 => ?_) h2
      have hS' : S w' := by
        rcases h3.2.1 with ⟨f, h⟩ | h
        · exact (hnl f h).elim
        · exact h
      refine ⟨.inr hS', ih (listed.setIfInBounds j true) a' w' hfree' (ready_mono hr (Ne.symm hji)) (hcl.add hj) h3.1 hS' ?_⟩
      rw [Array.setIfInBounds_comm _ _ hji]
      exact h3.2.2
theorem wpAnyL_take {i : Nat} {oi : Oper} {v : Value} {fuel : Nat} {listed : Array Bool} {a : Act} {w : World} (hi : ops[i]? = some oi)
    (hs : Region.noSelect ops = true) (hf : Region.free md ops listed i = true) (hr : (Region.ready md ops listed).contains i = true)
    (hQ : ∀ c a w, Q (.panic c) (a.put oi.dst v) w → Q (.panic c) a w) (hcl : closedL md ops listed) (hy : YieldsIf P ops S oi v a) (hS : S w)
    (h : wpAnyL m P md ops Q S fuel (listed.setIfInBounds i true) (a.put oi.dst v) w) : wpAnyL m P md ops Q S (fuel + 1) listed a w :=
  wpAnyL_first hi (Region.noSelect_spec hs) hQ fuel listed a w (Region.free_spec hi hf) (by simpa using hr) hcl hy hS h
theorem wpAnyL_all {rs : List Nat} {fuel : Nat} {listed : Array Bool} {a : Act} {w : World} (hr : Region.ready md ops listed = rs) (hne : rs ≠ [])
    (h : ∀ i ∈ rs, wpOpIn Fence.wide m P ops Q i (fun a' w' => ((∃ f, lastOp md ops f i = true) ∨ S w') ∧ wpAnyL m P md ops Q S fuel (listed.setIfInBounds i true) a' w') a w) : wpAnyL m P md ops Q S (fuel + 1) listed a w :=
  ⟨fun h0 => absurd (hr ▸ h0) hne, hr ▸ h⟩
theorem wpAnyL_done {listed : Array Bool} {a : Act} {w : World} (hr : Region.ready md ops listed = []) (h : Q .normal a w) :
    ∀ fuel, wpAnyL m P md ops Q S fuel listed a w
  | 0 => ⟨hr, h⟩
  | _ + 1 => ⟨fun _ => h, by rw [hr]; simp⟩
end

def DRW (P : Program) (n : NF) (ops : Array Oper) (K : (Nat → Value) → World → Prop) (S : World → Prop) (fuel : Nat) (listed : Array Bool) (σ : Nat → Value) (w : World) : Prop :=
  closedL .any ops listed → ∀ m, wpAnyL m P .any ops (fun e a w => e = .normal ∧ ∃ σ', a = act n σ' ∧ K σ' w) S fuel listed (act n σ) w
section
variable {P : Program} {n : NF} {ops : Array Oper} {K : (Nat → Value) → World → Prop} {S : World → Prop} {σ : Nat → Value} {w : World} {i fuel : Nat} {listed listed2 : Array Bool}
theorem D_begin {id : Nat} {Q : SPost} (hm : P.follows .mixedOrders = true) {m : Nat} (hsz : ops.size = m) {l0 : Array Bool} (hl0 : Array.replicate m false = l0) (S : World → Prop)
    (h : ∀ w1, Below w.heap.size w w1 → w1.heap.size = w.heap.size → DRW P n ops (fun σ w => Q .normal σ w) S m l0 σ w1) : WP P n (.region id ops true) Q σ w := by
  unfold WP
  subst hsz
  subst hl0
  have := h { w with drawn := w.drawn + 1 } ⟨rfl, rfl, rfl, Nat.le_refl _, fun _ _ => rfl⟩ rfl
  unfold DRW at this
  refine wp_mono (wpIn_wide.1 (wpIn_region_any hm (wpAnyIn_of_L (m := 0) _ _ _ _ (this (closedL.start _) 0)))) ?_
  rintro e a w' ⟨rfl, σ', rfl, hq⟩
  exact ⟨σ', rfl, hq⟩
theorem D_begin_ {id : Nat} {Q : SPost} (hm : P.follows .mixedOrders = true) {m : Nat} (hsz : ops.size = m) {l0 : Array Bool} (hl0 : Array.replicate m false = l0)
    (h : ∀ w1, Below w.heap.size w w1 → w1.heap.size = w.heap.size → DRW P n ops (fun σ w => Q .normal σ w) (fun w_ => Below w1.heap.size w1 w_) m l0 σ w1) : WP P n (.region id ops true) Q σ w := by
  unfold WP
  subst hsz
  subst hl0
  have := h { w with drawn := w.drawn + 1 } ⟨rfl, rfl, rfl, Nat.le_refl _, fun _ _ => rfl⟩ rfl
  unfold DRW at this
  refine wp_mono (wpIn_wide.1 (wpIn_region_any hm (wpAnyIn_of_L (m := 0) _ _ _ _ (this (closedL.start _) 0)))) ?_
  rintro e a w' ⟨rfl, σ', rfl, hq⟩
  exact ⟨σ', rfl, hq⟩
theorem D_take {o : Oper} {d : Nat} {v : Value} (hs : Region.noSelect ops = true) (hf : Region.free .any ops listed i = true) (hr : (Region.ready .any ops listed).contains i = true) (hl2 : listed.setIfInBounds i true = listed2)
    (ho : ops[i]? = some o) (hw : wg n ops σ o.guard = true) (hd : o.dst = some d) (hy : ∀ w, S w → (execOp (act n σ).eval o).run P w = .ok (.value v) w) (hS : S w)
    (h : DRW P n ops K S fuel listed2 (upd σ d v) w) : DRW P n ops K S (fuel + 1) listed σ w := by
  unfold DRW at *
  subst hl2
  intro hcl m
  have h := h (hcl.add (by simpa using hr))
  refine wpAnyL_take ho hs hf hr (fun c a w h => by cases h.1) hcl (v := v) (.inl ⟨by rw [wanted_wg, hw], hy⟩) hS ?_
  rw [hd, put_act]
  exact h m
theorem D_off {o : Oper} {d : Nat} (hs : Region.noSelect ops = true) (hf : Region.free .any ops listed i = true) (hr : (Region.ready .any ops listed).contains i = true) (hl2 : listed.setIfInBounds i true = listed2)
    (ho : ops[i]? = some o) (hw : wg n ops σ o.guard = false) (hd : o.dst = some d) (hS : S w)
    (h : DRW P n ops K S fuel listed2 (upd σ d undef) w) : DRW P n ops K S (fuel + 1) listed σ w := by
  unfold DRW at *
  subst hl2
  intro hcl m
  have h := h (hcl.add (by simpa using hr))
  refine wpAnyL_take ho hs hf hr (fun c a w h => by cases h.1) hcl (v := undef) (.inr ⟨by rw [wanted_wg, hw], rfl⟩) hS ?_
  rw [hd, put_act]
  exact h m
theorem D_skip {d : Nat} {op : Op} {t : TypeId} {p : String} {af : Array Edge} {gd : Option (Nat × Bool)} (hs : Region.noSelect ops = true) (hf : Region.free .any ops listed i = true) (hr : (Region.ready .any ops listed).contains i = true) (hl2 : listed.setIfInBounds i true = listed2)
    (ho : ops[i]? = some { dst := some d, op := op, type := t, pos := p, after := af, guard := gd }) (hw : wg n ops σ gd = false) (hS : S w)
    (h : DRW P n ops K S fuel listed2 (upd σ d undef) w) : DRW P n ops K S (fuel + 1) listed σ w := D_off hs hf hr hl2 ho hw rfl hS h
theorem wpOpIn_monoQ {m : Nat} {Q Q' : Exit → Act → World → Prop} {K' : Act → World → Prop} {a : Act} (hp : ∀ c a w, Q (.panic c) a w → Q' (.panic c) a w) (ho : LetsOut Q → LetsOut Q')
    (h : wpOpIn Fence.wide m P ops Q i K' a w) : wpOpIn Fence.wide m P ops Q' i K' a w := by
  unfold wpOpIn at *
  cases hi : ops[i]? with
  | none => simp only [hi] at h ⊢; exact h
  | some o =>
    simp only [hi] at h ⊢
    split at h
    · rename_i hw
      rw [if_pos hw]
      unfold Oper.wpIn at *
      refine ⟨h.1, ?_⟩
      have h := h.2
      generalize (o.semAt Fence.wide.round a.eval).run P w = r at h ⊢
      cases r with
      | ok x w' =>
        cases x <;> simp only [Oper.uponIn] at h ⊢ <;> try exact h
        · refine ⟨h.1, CallsIn.mono h.2 ?_⟩
          intro e w'' he
          cases e with
          | returned v => exact he
          | panicked c => exact hp _ _ _ he
          | outgrown => exact ho he
        · refine ⟨h.1, RoundIn.mono h.2 ?_⟩
          intro e w'' he
          cases e with
          | returned v => exact he
          | panicked c => exact hp _ _ _ he
          | outgrown => exact ho he
      | halt x w' =>
        cases x <;> simp only [Oper.uponIn] at h ⊢ <;> try exact h
        exact hp _ _ _ h
    · rename_i hw
      rw [if_neg hw]
      exact h
/-- One alone may come up. -/
theorem D_only (hr : Region.ready .any ops listed = [i]) (hl2 : listed.setIfInBounds i true = listed2)
    (h : OPS P n ops (fun σ' w' => S w' ∧ DRW P n ops K S fuel listed2 σ' w') [i] σ w) : DRW P n ops K S (fuel + 1) listed σ w := by
  subst hl2
  unfold DRW at *
  intro hcl m
  refine wpAnyL_all hr (by simp) ?_
  intro j hj
  rw [List.mem_singleton] at hj
  subst hj
  unfold OPS at h
  have h := h m
  rw [wpOpsIn_cons] at h
  refine wpOpIn_monoQ ?_ ?_ (wpOpIn_mono ?_ h)
  · rintro c a w ⟨h, _⟩; cases h
  · rintro ⟨a, w, h, _⟩; cases h
  · rintro a w' ⟨_, σ', rfl, h1, h2⟩
    exact ⟨.inr h1, h2 (hcl.add (by rw [hr]; simp)) m⟩
/-- One alone may come up, and it waits for all others: S need not outlive it. -/
theorem D_last (hr : Region.ready .any ops listed = [i]) {f : Nat} (hll : lastOp .any ops f i = true) (hl2 : listed.setIfInBounds i true = listed2)
    (h : OPS P n ops (fun σ' w' => DRW P n ops K S fuel listed2 σ' w') [i] σ w) : DRW P n ops K S (fuel + 1) listed σ w := by
  subst hl2
  unfold DRW at *
  intro hcl m
  refine wpAnyL_all hr (by simp) ?_
  intro j hj
  rw [List.mem_singleton] at hj
  subst hj
  unfold OPS at h
  have h := h m
  rw [wpOpsIn_cons] at h
  refine wpOpIn_monoQ ?_ ?_ (wpOpIn_mono ?_ h)
  · rintro c a w ⟨h, _⟩; cases h
  · rintro ⟨a, w, h, _⟩; cases h
  · rintro a w' ⟨_, σ', rfl, h2⟩
    exact ⟨.inl ⟨f, hll⟩, h2 (hcl.add (by rw [hr]; simp)) m⟩
/-- Two may come up. -/
theorem D_two {j : Nat} {listed3 : Array Bool} (hr : Region.ready .any ops listed = [i, j]) (hl2 : listed.setIfInBounds i true = listed2) (hl3 : listed.setIfInBounds j true = listed3)
    (h : OPS P n ops (fun σ' w' => S w' ∧ DRW P n ops K S fuel listed2 σ' w') [i] σ w) (h2 : OPS P n ops (fun σ' w' => S w' ∧ DRW P n ops K S fuel listed3 σ' w') [j] σ w) : DRW P n ops K S (fuel + 1) listed σ w := by
  subst hl2
  subst hl3
  unfold DRW at *
  intro hcl m
  refine wpAnyL_all hr (by simp) ?_
  intro k hk
  simp only [List.mem_cons, List.not_mem_nil, or_false] at hk
  unfold OPS at h h2
  have h := h m
  have h2 := h2 m
  rw [wpOpsIn_cons] at h h2
  rcases hk with rfl | rfl
  · refine wpOpIn_monoQ ?_ ?_ (wpOpIn_mono ?_ h)
    · rintro c a w ⟨h, _⟩; cases h
    · rintro ⟨a, w, h, _⟩; cases h
    · rintro a w' ⟨_, σ', rfl, h1, h2⟩
      exact ⟨.inr h1, h2 (hcl.add (by rw [hr]; simp)) m⟩
  · refine wpOpIn_monoQ ?_ ?_ (wpOpIn_mono ?_ h2)
    · rintro c a w ⟨h, _⟩; cases h
    · rintro ⟨a, w, h, _⟩; cases h
    · rintro a w' ⟨_, σ', rfl, h1, h2⟩
      exact ⟨.inr h1, h2 (hcl.add (by rw [hr]; simp)) m⟩
/-- Three may come up. -/
theorem D_three {j k : Nat} {listed3 listed4 : Array Bool} (hr : Region.ready .any ops listed = [i, j, k]) (hl2 : listed.setIfInBounds i true = listed2) (hl3 : listed.setIfInBounds j true = listed3) (hl4 : listed.setIfInBounds k true = listed4)
    (h : OPS P n ops (fun σ' w' => S w' ∧ DRW P n ops K S fuel listed2 σ' w') [i] σ w) (h2 : OPS P n ops (fun σ' w' => S w' ∧ DRW P n ops K S fuel listed3 σ' w') [j] σ w) (h3 : OPS P n ops (fun σ' w' => S w' ∧ DRW P n ops K S fuel listed4 σ' w') [k] σ w) : DRW P n ops K S (fuel + 1) listed σ w := by
  subst hl2
  subst hl3
  subst hl4
  unfold DRW at *
  intro hcl m
  refine wpAnyL_all hr (by simp) ?_
  intro q hq
  unfold OPS at h h2 h3
  have h := h m
  have h2 := h2 m
  have h3 := h3 m
  rw [wpOpsIn_cons] at h h2 h3
  simp only [List.mem_cons, List.not_mem_nil, or_false] at hq
  rcases hq with rfl | rfl | rfl
  · refine wpOpIn_monoQ ?_ ?_ (wpOpIn_mono ?_ h)
    · rintro c a w ⟨h, _⟩; cases h
    · rintro ⟨a, w, h, _⟩; cases h
    · rintro a w' ⟨_, σ', rfl, h1, h2⟩
      exact ⟨.inr h1, h2 (hcl.add (by rw [hr]; simp)) m⟩
  · refine wpOpIn_monoQ ?_ ?_ (wpOpIn_mono ?_ h2)
    · rintro c a w ⟨h, _⟩; cases h
    · rintro ⟨a, w, h, _⟩; cases h
    · rintro a w' ⟨_, σ', rfl, h1, h2⟩
      exact ⟨.inr h1, h2 (hcl.add (by rw [hr]; simp)) m⟩
  · refine wpOpIn_monoQ ?_ ?_ (wpOpIn_mono ?_ h3)
    · rintro c a w ⟨h, _⟩; cases h
    · rintro ⟨a, w, h, _⟩; cases h
    · rintro a w' ⟨_, σ', rfl, h1, h2⟩
      exact ⟨.inr h1, h2 (hcl.add (by rw [hr]; simp)) m⟩
/-- A region's end, told once for whatever order. -/
theorem W_cut {c : Code} {Q : SPost} (I : (Nat → Value) → World → Prop) (h : WP P n c (fun e σ w => e = .normal ∧ I σ w) σ w) (hI : ∀ σ w, I σ w → Q .normal σ w) : WP P n c Q σ w := by
  unfold WP at *
  refine wp_mono h ?_
  rintro e a w' ⟨σ', rfl, rfl, hi⟩
  exact ⟨σ', rfl, hI _ _ hi⟩
theorem D_done (hr : Region.ready .any ops listed = []) (h : K σ w) : DRW P n ops K S fuel listed σ w := by
  unfold DRW
  intro hcl m
  exact wpAnyL_done hr ⟨rfl, σ, rfl, h⟩ fuel
attribute [irreducible] DRW
theorem cell_below {w w' : World} (hS : Below w.heap.size w w') {ad : Addr} {v : Value} (hc : w.cell? ad = some v) : w'.cell? ad = some v :=
  (hS.cell (World.block_lt_of_cell? w _ hc)).trans hc

variable {d : Nat} {t : TypeId} {p : String} {af : Array Edge} {gd : Option (Nat × Bool)} {x y : Operand}

theorem D_move (hsel : Region.noSelect ops = true) (hf : Region.free .any ops listed i = true) (hrdy : (Region.ready .any ops listed).contains i = true) (hl2 : listed.setIfInBounds i true = listed2)
    (ho : ops[i]? = some { dst := some d, op := .move x, type := t, pos := p, after := af, guard := gd }) (hw : wg n ops σ gd = true) (hx : tok n x = true)
    {v : Value} (hv : sv σ x = v) (hS : S w) (h : DRW P n ops K S fuel listed2 (upd σ d v) w) : DRW P n ops K S (fuel + 1) listed σ w :=
  D_take hsel hf hrdy hl2 ho hw rfl (fun w' _ => by simp [execOp, eval_act hx, hv]) hS h
theorem D_assign (hsel : Region.noSelect ops = true) (hf : Region.free .any ops listed i = true) (hrdy : (Region.ready .any ops listed).contains i = true) (hl2 : listed.setIfInBounds i true = listed2)
    (ho : ops[i]? = some { dst := some d, op := .assign x, type := t, pos := p, after := af, guard := gd }) (hw : wg n ops σ gd = true) (hx : tok n x = true)
    {v : Value} (hv : sv σ x = v) (hS : S w) (h : DRW P n ops K S fuel listed2 (upd σ d v) w) : DRW P n ops K S (fuel + 1) listed σ w :=
  D_take hsel hf hrdy hl2 ho hw rfl (fun w' _ => by simp [execOp, eval_act hx, hv]) hS h
theorem D_pick {z : Operand} (hsel : Region.noSelect ops = true) (hf : Region.free .any ops listed i = true) (hrdy : (Region.ready .any ops listed).contains i = true) (hl2 : listed.setIfInBounds i true = listed2)
    (ho : ops[i]? = some { dst := some d, op := .pick x y z, type := t, pos := p, after := af, guard := gd }) (hw : wg n ops σ gd = true)
    (hx : tok n x = true) (hy : tok n y = true) (hz : tok n z = true)
    {b : Bool} {v : Value} (hb : sv σ x = .bool b) (hv : (if b then sv σ y else sv σ z) = v) (hS : S w) (h : DRW P n ops K S fuel listed2 (upd σ d v) w) : DRW P n ops K S (fuel + 1) listed σ w :=
  D_take hsel hf hrdy hl2 ho hw rfl (fun w' _ => by simp [execOp, eval_act hx, eval_act hy, eval_act hz, hb, asBool, hv]) hS h
theorem D_not (hsel : Region.noSelect ops = true) (hf : Region.free .any ops listed i = true) (hrdy : (Region.ready .any ops listed).contains i = true) (hl2 : listed.setIfInBounds i true = listed2)
    (ho : ops[i]? = some { dst := some d, op := .unOp .not t x, type := t, pos := p, after := af, guard := gd }) (hw : wg n ops σ gd = true) (hx : tok n x = true)
    {b : Bool} (hb : sv σ x = .bool b) (hS : S w) (h : DRW P n ops K S fuel listed2 (upd σ d (.bool (!b))) w) : DRW P n ops K S (fuel + 1) listed σ w :=
  D_take hsel hf hrdy hl2 ho hw rfl (fun w' _ => by simp [execOp, eval_act hx, hb, Op.unary]) hS h

theorem D_bin {op : BinOp} {T T' : TypeId} (hsel : Region.noSelect ops = true) (hf : Region.free .any ops listed i = true) (hrdy : (Region.ready .any ops listed).contains i = true) (hl2 : listed.setIfInBounds i true = listed2)
    (ho : ops[i]? = some { dst := some d, op := .binOp op T x y T', type := t, pos := p, after := af, guard := gd }) (hw : wg n ops σ gd = true)
    (hx : tok n x = true) (hy : tok n y = true) (hop : binOk op = true) {k : IntKind} {a b : Int} (ha : sv σ x = .int k a) (hb : sv σ y = .int k b)
    {v : Value} (hv : binV op k a b = v) (hS : S w) (h : DRW P n ops K S fuel listed2 (upd σ d v) w) : DRW P n ops K S (fuel + 1) listed σ w := by
  refine D_take hsel hf hrdy hl2 ho hw rfl (fun w' _ => ?_) hS h
  have := run_bin (P := P) (w := w') (x := x) (y := y) hop (k := k) (a := a) (b := b) T
  subst hv
  simp only [execOp, eval_act hx, eval_act hy, ha, hb]
  rw [Sem.run_bind, this]
  rfl
theorem D_conv {Sr T : TypeId} {k k' : IntKind} {dS : TypeDesc} (hSr : P.underlying Sr = some dS) (hT : P.underlying T = some (.int k')) (hsel : Region.noSelect ops = true) (hf : Region.free .any ops listed i = true) (hrdy : (Region.ready .any ops listed).contains i = true) (hl2 : listed.setIfInBounds i true = listed2)
    (ho : ops[i]? = some { dst := some d, op := .convert Sr T x, type := t, pos := p, after := af, guard := gd })
    (hw : wg n ops σ gd = true) (hx : tok n x = true) {a : Int} (hv : sv σ x = .int k a) {b : Int} (hb : k'.wrap a = b) (hS : S w) (h : DRW P n ops K S fuel listed2 (upd σ d (.int k' b)) w) : DRW P n ops K S (fuel + 1) listed σ w := by
  subst hb
  refine D_take hsel hf hrdy hl2 ho hw rfl (fun w' _ => ?_) hS h
  simp only [execOp, eval_act hx, hv, convert]
  cases dS <;> simp [underlying, hSr, hT, Conv.intToInt]
theorem D_extract {j : Nat} (hsel : Region.noSelect ops = true) (hf : Region.free .any ops listed i = true) (hrdy : (Region.ready .any ops listed).contains i = true) (hl2 : listed.setIfInBounds i true = listed2)
    (ho : ops[i]? = some { dst := some d, op := .extract x j, type := t, pos := p, after := af, guard := gd })
    (hw : wg n ops σ gd = true) (hx : tok n x = true) {vs : Array Value} (hv : sv σ x = .tuple vs) {v : Value} (hj : vs[j]? = some v) (hS : S w) (h : DRW P n ops K S fuel listed2 (upd σ d v) w) : DRW P n ops K S (fuel + 1) listed σ w :=
  D_take hsel hf hrdy hl2 ho hw rfl (fun w' _ => by simp [execOp, eval_act hx, hv, Instr.extract, hj]) hS h

theorem D_len {T : TypeId} {e : TypeId} (hT : P.underlying T = some (.slice e)) (hsel : Region.noSelect ops = true) (hf : Region.free .any ops listed i = true) (hrdy : (Region.ready .any ops listed).contains i = true) (hl2 : listed.setIfInBounds i true = listed2)
    (ho : ops[i]? = some { dst := some d, op := .call { callee := .builtin .len, args := #[x], argTypes := #[T] }, type := t, pos := p, after := af, guard := gd })
    (hw : wg n ops σ gd = true) (hx : tok n x = true) {v : Value} (hv : sv σ x = v) {m : Nat} (hl : SlLen v m) (hS : S w) (h : DRW P n ops K S fuel listed2 (upd σ d (.int .i64 m)) w) : DRW P n ops K S (fuel + 1) listed σ w := by
  obtain ⟨A, c, rfl⟩ := hl
  refine D_take hsel hf hrdy hl2 ho hw rfl (fun w' _ => ?_) hS h
  simp [execOp, resolve, invoke, builtin, Builtin.len_, eval_act hx, hv, underlying, hT, goInt]
theorem D_cap {T : TypeId} {e : TypeId} (hT : P.underlying T = some (.slice e)) (hsel : Region.noSelect ops = true) (hf : Region.free .any ops listed i = true) (hrdy : (Region.ready .any ops listed).contains i = true) (hl2 : listed.setIfInBounds i true = listed2)
    (ho : ops[i]? = some { dst := some d, op := .call { callee := .builtin .cap, args := #[x], argTypes := #[T] }, type := t, pos := p, after := af, guard := gd })
    (hw : wg n ops σ gd = true) (hx : tok n x = true) {A : Option Addr} {m c : Nat} (hv : sv σ x = .slice A m c) (hS : S w) (h : DRW P n ops K S fuel listed2 (upd σ d (.int .i64 c)) w) : DRW P n ops K S (fuel + 1) listed σ w := by
  refine D_take hsel hf hrdy hl2 ho hw rfl (fun w' _ => ?_) hS h
  simp [execOp, resolve, invoke, builtin, Builtin.cap_, eval_act hx, hv, underlying, hT, goInt]
theorem D_load {T : TypeId} (hsel : Region.noSelect ops = true) (hf : Region.free .any ops listed i = true) (hrdy : (Region.ready .any ops listed).contains i = true) (hl2 : listed.setIfInBounds i true = listed2)
    (ho : ops[i]? = some { dst := some d, op := .load T x, type := t, pos := p, after := af, guard := gd }) (hw : wg n ops σ gd = true) (hx : tok n x = true)
    {ad : Addr} (ha : sv σ x = .pointer (some ad)) {v : Value} (hl : ∀ w, S w → LD P w T ad v) (hS : S w) (h : DRW P n ops K S fuel listed2 (upd σ d v) w) : DRW P n ops K S (fuel + 1) listed σ w := by
  refine D_take hsel hf hrdy hl2 ho hw rfl (fun w' hS' => ?_) hS h
  have hl := hl w' hS'
  unfold LD at hl
  simp [execOp, eval_act hx, ha, Instr.loadAt, Instr.sureAddr, hl]
theorem D_nil (hsel : Region.noSelect ops = true) (hf : Region.free .any ops listed i = true) (hrdy : (Region.ready .any ops listed).contains i = true) (hl2 : listed.setIfInBounds i true = listed2)
    (ho : ops[i]? = some { dst := some d, op := .nilCheck x, type := t, pos := p, after := af, guard := gd }) (hw : wg n ops σ gd = true) (hx : tok n x = true)
    {ad : Addr} (ha : sv σ x = .pointer (some ad)) (hS : S w) (h : DRW P n ops K S fuel listed2 (upd σ d (.pointer (some ad))) w) : DRW P n ops K S (fuel + 1) listed σ w :=
  D_take hsel hf hrdy hl2 ho hw rfl (fun w' _ => by simp [execOp, eval_act hx, ha]) hS h

theorem D_field {s : TypeId} {j off : Nat} (hT : FieldT P s j off) (hsel : Region.noSelect ops = true) (hf : Region.free .any ops listed i = true) (hrdy : (Region.ready .any ops listed).contains i = true) (hl2 : listed.setIfInBounds i true = listed2)
    (ho : ops[i]? = some { dst := some d, op := .fieldAddr s x j, type := t, pos := p, after := af, guard := gd }) (hw : wg n ops σ gd = true) (hx : tok n x = true)
    {g o : Nat} (ha : sv σ x = .pointer (some ⟨g, o, none⟩)) {o' : Nat} (ho' : o + off = o') (hS : S w) (h : DRW P n ops K S fuel listed2 (upd σ d (.pointer (some ⟨g, o', none⟩))) w) : DRW P n ops K S (fuel + 1) listed σ w := by
  obtain ⟨fs, f, i0, h1, h2, h3, h4, h5⟩ := hT.out
  subst ho'
  refine D_take hsel hf hrdy hl2 ho hw rfl (fun w' _ => ?_) hS h
  simp [execOp, eval_act hx, ha, Instr.fieldAt, underlying, h1, h2, Instr.sureAddr, fieldPlace, sizeOf, typeInfo, h4, h5, h3, add_plain]

/-! ### 4. Slices -/
theorem D_idx {T e : TypeId} {sz by_ : Nat} {z : Value} {ag : Bool} (hT : P.underlying T = some (.slice e)) (he : TI P e sz by_ z ag)
    (hsel : Region.noSelect ops = true) (hf : Region.free .any ops listed i = true) (hrdy : (Region.ready .any ops listed).contains i = true) (hl2 : listed.setIfInBounds i true = listed2)
    (ho : ops[i]? = some { dst := some d, op := .indexAddr T x y, type := t, pos := p, after := af, guard := gd }) (hw : wg n ops σ gd = true) (hx : tok n x = true) (hy : tok n y = true)
    {v : Value} (hv : sv σ x = v) {k : IntKind} {iz : Int} (hi : sv σ y = .int k iz) {m j : Nat} {ad : Addr} (hp : SlAt v m sz j ad) (hj : iz = (j : Int))
    (hS : S w) (h : DRW P n ops K S fuel listed2 (upd σ d (.pointer (some ad))) w) : DRW P n ops K S (fuel + 1) listed σ w := by
  obtain ⟨ad0, c, rfl, hlt, rfl⟩ := hp
  obtain ⟨i0, hi0, hs, _⟩ := he.info
  subst hj
  refine D_take hsel hf hrdy hl2 ho hw rfl (fun w' _ => ?_) hS h
  simp [execOp, eval_act hx, eval_act hy, hv, hi, Instr.indexAt, asIntOf, underlying, hT, hlt, sizeOf, typeInfo, hi0, hs]

theorem D_sliceHi {T e : TypeId} {sz by_ : Nat} {z : Value} {ag : Bool} (hT : P.underlying T = some (.slice e)) (he : TI P e sz by_ z ag)
    (hsel : Region.noSelect ops = true) (hf : Region.free .any ops listed i = true) (hrdy : (Region.ready .any ops listed).contains i = true) (hl2 : listed.setIfInBounds i true = listed2)
    (ho : ops[i]? = some { dst := some d, op := .slice T x none (some y) none, type := t, pos := p, after := af, guard := gd }) (hw : wg n ops σ gd = true) (hx : tok n x = true) (hy : tok n y = true)
    {A : Option Addr} {m c : Nat} (hv : sv σ x = .slice A m c) {k : IntKind} {iz : Int} (hi : sv σ y = .int k iz) {j : Nat} (hj : iz = (j : Int)) (hjc : j ≤ c)
    (hS : S w) (h : DRW P n ops K S fuel listed2 (upd σ d (.slice A j c)) w) : DRW P n ops K S (fuel + 1) listed σ w := by
  obtain ⟨i0, hi0, hs, _⟩ := he.info
  subst hj
  refine D_take hsel hf hrdy hl2 ho hw rfl (fun w' _ => ?_) hS h
  simp [execOp, eval_act hx, eval_act hy, hv, hi, Instr.sliceAt, Instr.slice, Instr.sliceBounds, run_sliceBound _ hjc, underlying, hT, sizeOf, typeInfo, hi0, hs]
  intro _
  cases A <;> simp [Addr.add]
theorem D_sliceHiMx {T e : TypeId} {sz by_ : Nat} {z : Value} {ag : Bool} {u : Operand} (hT : P.underlying T = some (.slice e)) (he : TI P e sz by_ z ag)
    (hsel : Region.noSelect ops = true) (hf : Region.free .any ops listed i = true) (hrdy : (Region.ready .any ops listed).contains i = true) (hl2 : listed.setIfInBounds i true = listed2)
    (ho : ops[i]? = some { dst := some d, op := .slice T x none (some y) (some u), type := t, pos := p, after := af, guard := gd }) (hw : wg n ops σ gd = true) (hx : tok n x = true) (hy : tok n y = true) (hu : tok n u = true)
    {A : Option Addr} {m c : Nat} (hv : sv σ x = .slice A m c) {k k' : IntKind} {iz mz : Int} (hi : sv σ y = .int k iz) (hm : sv σ u = .int k' mz) {j q : Nat} (hj : iz = (j : Int)) (hq : mz = (q : Int)) (hjq : j ≤ q) (hqc : q ≤ c)
    (hS : S w) (h : DRW P n ops K S fuel listed2 (upd σ d (.slice A j q)) w) : DRW P n ops K S (fuel + 1) listed σ w := by
  obtain ⟨i0, hi0, hs, _⟩ := he.info
  subst hj
  subst hq
  refine D_take hsel hf hrdy hl2 ho hw rfl (fun w' _ => ?_) hS h
  simp [execOp, eval_act hx, eval_act hy, eval_act hu, hv, hi, hm, Instr.sliceAt, Instr.slice, Instr.sliceBounds, run_sliceBound _ hjq, run_sliceBound _ hqc, underlying, hT, sizeOf, typeInfo, hi0, hs]
  intro _
  cases A <;> simp [Addr.add]
theorem D_sliceLoHi {T e : TypeId} {sz by_ : Nat} {z : Value} {ag : Bool} {u : Operand} (hT : P.underlying T = some (.slice e)) (he : TI P e sz by_ z ag)
    (hsel : Region.noSelect ops = true) (hf : Region.free .any ops listed i = true) (hrdy : (Region.ready .any ops listed).contains i = true) (hl2 : listed.setIfInBounds i true = listed2)
    (ho : ops[i]? = some { dst := some d, op := .slice T x (some y) (some u) none, type := t, pos := p, after := af, guard := gd }) (hw : wg n ops σ gd = true) (hx : tok n x = true) (hy : tok n y = true) (hu : tok n u = true)
    {ad : Addr} {m c : Nat} (hv : sv σ x = .slice (some ad) m c) {k k' : IntKind} {lz hz : Int} (hl : sv σ y = .int k lz) (hh : sv σ u = .int k' hz) {l q : Nat} (hj : lz = (l : Int)) (hq : hz = (q : Int)) (hlq : l ≤ q) (hqc : q ≤ c)
    (hS : S w) (h : DRW P n ops K S fuel listed2 (upd σ d (.slice (some (if c = l then ad else ad.add (l * sz))) (q - l) (c - l))) w) : DRW P n ops K S (fuel + 1) listed σ w := by
  obtain ⟨i0, hi0, hs, _⟩ := he.info
  subst hj
  subst hq
  refine D_take hsel hf hrdy hl2 ho hw rfl (fun w' _ => ?_) hS h
  simp [execOp, eval_act hx, eval_act hy, eval_act hu, hv, hl, hh, Instr.sliceAt, Instr.slice, Instr.sliceBounds, run_sliceBound _ hlq, run_sliceBound _ hqc, underlying, hT, sizeOf, typeInfo, hi0, hs]
  split <;> rfl
theorem D_sliceLo {T e : TypeId} {sz by_ : Nat} {z : Value} {ag : Bool} (hT : P.underlying T = some (.slice e)) (he : TI P e sz by_ z ag)
    (hsel : Region.noSelect ops = true) (hf : Region.free .any ops listed i = true) (hrdy : (Region.ready .any ops listed).contains i = true) (hl2 : listed.setIfInBounds i true = listed2)
    (ho : ops[i]? = some { dst := some d, op := .slice T x (some y) none none, type := t, pos := p, after := af, guard := gd }) (hw : wg n ops σ gd = true) (hx : tok n x = true) (hy : tok n y = true)
    {A : Option Addr} {m c : Nat} (hv : sv σ x = .slice A m c) {k : IntKind} {lz : Int} (hl : sv σ y = .int k lz) {l : Nat} (hj : lz = (l : Int)) (hlq : l ≤ m)
    (hS : S w) (h : DRW P n ops K S fuel listed2 (upd σ d (.slice (if c = l then A else A.map (·.add (l * sz))) (m - l) (c - l))) w) : DRW P n ops K S (fuel + 1) listed σ w := by
  obtain ⟨i0, hi0, hs, _⟩ := he.info
  subst hj
  refine D_take hsel hf hrdy hl2 ho hw rfl (fun w' _ => ?_) hS h
  simp [execOp, eval_act hx, eval_act hy, hv, hl, Instr.sliceAt, Instr.slice, Instr.sliceBounds, run_sliceBound _ hlq, underlying, hT, sizeOf, typeInfo, hi0, hs]

theorem D_shr {T T' : TypeId} (hsel : Region.noSelect ops = true) (hf : Region.free .any ops listed i = true) (hrdy : (Region.ready .any ops listed).contains i = true) (hl2 : listed.setIfInBounds i true = listed2)
    (ho : ops[i]? = some { dst := some d, op := .binOp .shr T x y T', type := t, pos := p, after := af, guard := gd }) (hw : wg n ops σ gd = true)
    (hx : tok n x = true) (hy : tok n y = true) {k yk : IntKind} {a b : Int} (ha : sv σ x = .int k a) (hb : sv σ y = .int yk b) (h0 : 0 ≤ b) {v : Int} (hv : a.fdiv (2 ^ (min b.toNat k.bits)) = v)
    (hS : S w) (h : DRW P n ops K S fuel listed2 (upd σ d (.int k v)) w) : DRW P n ops K S (fuel + 1) listed σ w := by
  subst hv
  refine D_take hsel hf hrdy hl2 ho hw rfl (fun w' _ => ?_) hS h
  have h0' : ¬ b < 0 := by omega
  simp [execOp, eval_act hx, eval_act hy, ha, hb, eqGuard, binOp, Op.shift, h0']
theorem D_shl {T T' : TypeId} (hsel : Region.noSelect ops = true) (hf : Region.free .any ops listed i = true) (hrdy : (Region.ready .any ops listed).contains i = true) (hl2 : listed.setIfInBounds i true = listed2)
    (ho : ops[i]? = some { dst := some d, op := .binOp .shl T x y T', type := t, pos := p, after := af, guard := gd }) (hw : wg n ops σ gd = true)
    (hx : tok n x = true) (hy : tok n y = true) {k yk : IntKind} {a b : Int} (ha : sv σ x = .int k a) (hb : sv σ y = .int yk b) (h0 : 0 ≤ b) {v : Int} (hv : k.wrap (a * 2 ^ (min b.toNat k.bits)) = v)
    (hS : S w) (h : DRW P n ops K S fuel listed2 (upd σ d (.int k v)) w) : DRW P n ops K S (fuel + 1) listed σ w := by
  subst hv
  refine D_take hsel hf hrdy hl2 ho hw rfl (fun w' _ => ?_) hS h
  have h0' : ¬ b < 0 := by omega
  simp [execOp, eval_act hx, eval_act hy, ha, hb, eqGuard, binOp, Op.shift, h0']
theorem D_quo {T T' : TypeId} (hsel : Region.noSelect ops = true) (hf : Region.free .any ops listed i = true) (hrdy : (Region.ready .any ops listed).contains i = true) (hl2 : listed.setIfInBounds i true = listed2)
    (ho : ops[i]? = some { dst := some d, op := .binOp .quo T x y T', type := t, pos := p, after := af, guard := gd }) (hw : wg n ops σ gd = true)
    (hx : tok n x = true) (hy : tok n y = true) {k : IntKind} {a b : Int} (ha : sv σ x = .int k a) (hb : sv σ y = .int k b) (h0 : b ≠ 0) {v : Int} (hv : k.wrap (a.tdiv b) = v)
    (hS : S w) (h : DRW P n ops K S fuel listed2 (upd σ d (.int k v)) w) : DRW P n ops K S (fuel + 1) listed σ w := by
  subst hv
  refine D_take hsel hf hrdy hl2 ho hw rfl (fun w' _ => ?_) hS h
  simp [execOp, eval_act hx, eval_act hy, ha, hb, eqGuard, binOp, Op.intDiv, h0]
theorem D_rem {T T' : TypeId} (hsel : Region.noSelect ops = true) (hf : Region.free .any ops listed i = true) (hrdy : (Region.ready .any ops listed).contains i = true) (hl2 : listed.setIfInBounds i true = listed2)
    (ho : ops[i]? = some { dst := some d, op := .binOp .rem T x y T', type := t, pos := p, after := af, guard := gd }) (hw : wg n ops σ gd = true)
    (hx : tok n x = true) (hy : tok n y = true) {k : IntKind} {a b : Int} (ha : sv σ x = .int k a) (hb : sv σ y = .int k b) (h0 : b ≠ 0) {v : Int} (hv : a.tmod b = v)
    (hS : S w) (h : DRW P n ops K S fuel listed2 (upd σ d (.int k v)) w) : DRW P n ops K S (fuel + 1) listed σ w := by
  subst hv
  refine D_take hsel hf hrdy hl2 ho hw rfl (fun w' _ => ?_) hS h
  simp [execOp, eval_act hx, eval_act hy, ha, hb, eqGuard, binOp, Op.intDiv, h0]
theorem D_bits {T T' : TypeId} {op : BinOp} (hsel : Region.noSelect ops = true) (hf : Region.free .any ops listed i = true) (hrdy : (Region.ready .any ops listed).contains i = true) (hl2 : listed.setIfInBounds i true = listed2)
    (ho : ops[i]? = some { dst := some d, op := .binOp op T x y T', type := t, pos := p, after := af, guard := gd }) (hw : wg n ops σ gd = true)
    (hx : tok n x = true) (hy : tok n y = true) (hop : op = .and ∨ op = .or ∨ op = .xor) {k : IntKind} {a b : Int} (ha : sv σ x = .int k a) (hb : sv σ y = .int k b) {v : Int} (hv : bitV op k a b = v)
    (hS : S w) (h : DRW P n ops K S fuel listed2 (upd σ d (.int k v)) w) : DRW P n ops K S (fuel + 1) listed σ w := by
  subst hv
  refine D_take hsel hf hrdy hl2 ho hw rfl (fun w' _ => ?_) hS h
  rcases hop with rfl | rfl | rfl <;> simp [execOp, eval_act hx, eval_act hy, ha, hb, eqGuard, binOp, Op.intBits, bitV]
theorem D_xor {T : TypeId} (hsel : Region.noSelect ops = true) (hf : Region.free .any ops listed i = true) (hrdy : (Region.ready .any ops listed).contains i = true) (hl2 : listed.setIfInBounds i true = listed2)
    (ho : ops[i]? = some { dst := some d, op := .unOp .xor T x, type := t, pos := p, after := af, guard := gd }) (hw : wg n ops σ gd = true)
    (hx : tok n x = true) {k : IntKind} {a : Int} (ha : sv σ x = .int k a) {v : Int} (hv : bitV .xor k (if k.signed then -1 else k.max) a = v)
    (hS : S w) (h : DRW P n ops K S fuel listed2 (upd σ d (.int k v)) w) : DRW P n ops K S (fuel + 1) listed σ w := by
  subst hv
  refine D_take hsel hf hrdy hl2 ho hw rfl (fun w' _ => ?_) hS h
  simp [execOp, eval_act hx, ha, Op.unary, Op.intBits, bitV]
theorem D_max {ats : Array TypeId} (hsel : Region.noSelect ops = true) (hf : Region.free .any ops listed i = true) (hrdy : (Region.ready .any ops listed).contains i = true) (hl2 : listed.setIfInBounds i true = listed2)
    (ho : ops[i]? = some { dst := some d, op := .call { callee := .builtin .max, args := #[x, y], argTypes := ats }, type := t, pos := p, after := af, guard := gd })
    (hw : wg n ops σ gd = true) (hx : tok n x = true) (hy : tok n y = true) {k : IntKind} {a b : Int} (ha : sv σ x = .int k a) (hb : sv σ y = .int k b) {v : Int} (hv : max a b = v) (hS : S w) (h : DRW P n ops K S fuel listed2 (upd σ d (.int k v)) w) : DRW P n ops K S (fuel + 1) listed σ w := by
  subst hv
  refine D_take hsel hf hrdy hl2 ho hw rfl (fun w' _ => ?_) hS h
  simp [execOp, resolve, invoke, builtin, Builtin.max_, Builtin.max2, eval_act hx, eval_act hy, ha, hb]
  omega
theorem D_min {ats : Array TypeId} (hsel : Region.noSelect ops = true) (hf : Region.free .any ops listed i = true) (hrdy : (Region.ready .any ops listed).contains i = true) (hl2 : listed.setIfInBounds i true = listed2)
    (ho : ops[i]? = some { dst := some d, op := .call { callee := .builtin .min, args := #[x, y], argTypes := ats }, type := t, pos := p, after := af, guard := gd })
    (hw : wg n ops σ gd = true) (hx : tok n x = true) (hy : tok n y = true) {k : IntKind} {a b : Int} (ha : sv σ x = .int k a) (hb : sv σ y = .int k b) {v : Int} (hv : min a b = v) (hS : S w) (h : DRW P n ops K S fuel listed2 (upd σ d (.int k v)) w) : DRW P n ops K S (fuel + 1) listed σ w := by
  subst hv
  refine D_take hsel hf hrdy hl2 ho hw rfl (fun w' _ => ?_) hS h
  simp [execOp, resolve, invoke, builtin, Builtin.min_, Builtin.min2, eval_act hx, eval_act hy, ha, hb]
  omega
theorem D_add64 {T T' : TypeId} (hsel : Region.noSelect ops = true) (hf : Region.free .any ops listed i = true) (hrdy : (Region.ready .any ops listed).contains i = true) (hl2 : listed.setIfInBounds i true = listed2)
    (ho : ops[i]? = some { dst := some d, op := .binOp .add T x y T', type := t, pos := p, after := af, guard := gd }) (hw : wg n ops σ gd = true)
    (hx : tok n x = true) (hy : tok n y = true) {a b : Int} (ha : sv σ x = .int .i64 a) (hb : sv σ y = .int .i64 b)
    (hr : -9223372036854775808 ≤ a + b ∧ a + b ≤ 9223372036854775807) (hS : S w) (h : DRW P n ops K S fuel listed2 (upd σ d (.int .i64 (a + b))) w) : DRW P n ops K S (fuel + 1) listed σ w :=
  D_bin hsel hf hrdy hl2 ho hw hx hy rfl ha hb (by simp only [binV]; congr 1; simp [IntKind.wrap, IntKind.bits, IntKind.signed]; omega) hS h
theorem D_sub64 {T T' : TypeId} (hsel : Region.noSelect ops = true) (hf : Region.free .any ops listed i = true) (hrdy : (Region.ready .any ops listed).contains i = true) (hl2 : listed.setIfInBounds i true = listed2)
    (ho : ops[i]? = some { dst := some d, op := .binOp .sub T x y T', type := t, pos := p, after := af, guard := gd }) (hw : wg n ops σ gd = true)
    (hx : tok n x = true) (hy : tok n y = true) {a b : Int} (ha : sv σ x = .int .i64 a) (hb : sv σ y = .int .i64 b)
    (hr : -9223372036854775808 ≤ a - b ∧ a - b ≤ 9223372036854775807) (hS : S w) (h : DRW P n ops K S fuel listed2 (upd σ d (.int .i64 (a - b))) w) : DRW P n ops K S (fuel + 1) listed σ w :=
  D_bin hsel hf hrdy hl2 ho hw hx hy rfl ha hb (by simp only [binV]; congr 1; simp [IntKind.wrap, IntKind.bits, IntKind.signed]; omega) hS h
theorem D_mul64 {T T' : TypeId} (hsel : Region.noSelect ops = true) (hf : Region.free .any ops listed i = true) (hrdy : (Region.ready .any ops listed).contains i = true) (hl2 : listed.setIfInBounds i true = listed2)
    (ho : ops[i]? = some { dst := some d, op := .binOp .mul T x y T', type := t, pos := p, after := af, guard := gd }) (hw : wg n ops σ gd = true)
    (hx : tok n x = true) (hy : tok n y = true) {a b : Int} (ha : sv σ x = .int .i64 a) (hb : sv σ y = .int .i64 b)
    (hr : -9223372036854775808 ≤ a * b ∧ a * b ≤ 9223372036854775807) (hS : S w) (h : DRW P n ops K S fuel listed2 (upd σ d (.int .i64 (a * b))) w) : DRW P n ops K S (fuel + 1) listed σ w :=
  D_bin hsel hf hrdy hl2 ho hw hx hy rfl ha hb (by simp only [binV]; congr 1; simp [IntKind.wrap, IntKind.bits, IntKind.signed]; omega) hS h
end
end Go.Proofs.YtccmicegihlfbaaGreatDoor
