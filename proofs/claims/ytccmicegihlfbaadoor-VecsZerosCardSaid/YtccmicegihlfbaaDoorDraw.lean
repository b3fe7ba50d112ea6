/- Regions that draw their order: what only reads is taken first; the rest comes up one by one. Printed by mkdraw.py out of the single steps. -/
import Derived.Test.YtccmicegihlfbaaDoorBase
import Derived.OrdersHeld
set_option linter.unusedVariables false
set_option linter.unusedSimpArgs false
namespace Go.Proofs.YtccmicegihlfbaaDoor
open Go.RowKit

def DRW (P : Program) (n : NF) (ops : Array Oper) (K : (Nat → Value) → World → Prop) (S : World → Prop) (fuel : Nat) (listed : Array Bool) (σ : Nat → Value) (w : World) : Prop :=
  wpAnyH P .any ops (fun e a w => e = .normal ∧ ∃ σ', a = act n σ' ∧ K σ' w) S fuel listed (act n σ) w
section
variable {P : Program} {n : NF} {ops : Array Oper} {K : (Nat → Value) → World → Prop} {S : World → Prop} {σ : Nat → Value} {w : World} {i fuel : Nat} {listed listed2 : Array Bool}
theorem D_begin {id : Nat} {Q : SPost} (hm : P.follows .mixedOrders = true) {m : Nat} (hsz : ops.size = m) {l0 : Array Bool} (hl0 : Array.replicate m false = l0) (S : World → Prop)
    (h : ∀ w1, Below w.heap.size w w1 → w1.heap.size = w.heap.size → DRW P n ops (fun σ w => Q .normal σ w) S m l0 σ w1) : WP P n (.region id ops true) Q σ w := by
  unfold WP
  subst hsz
  subst hl0
  have := h { w with drawn := w.drawn + 1 } ⟨rfl, rfl, rfl, Nat.le_refl _, fun _ _ => rfl⟩ rfl
  unfold DRW at this
  refine wp_mono (wp_region_held hm this) ?_
  rintro e a w' ⟨rfl, σ', rfl, hq⟩
  exact ⟨σ', rfl, hq⟩
theorem D_begin_ {id : Nat} {Q : SPost} (hm : P.follows .mixedOrders = true) {m : Nat} (hsz : ops.size = m) {l0 : Array Bool} (hl0 : Array.replicate m false = l0)
    (h : ∀ w1, Below w.heap.size w w1 → w1.heap.size = w.heap.size → DRW P n ops (fun σ w => Q .normal σ w) (fun w_ => Below w1.heap.size w1 w_) m l0 σ w1) : WP P n (.region id ops true) Q σ w := by
  unfold WP
  subst hsz
  subst hl0
  have := h { w with drawn := w.drawn + 1 } ⟨rfl, rfl, rfl, Nat.le_refl _, fun _ _ => rfl⟩ rfl
  unfold DRW at this
  refine wp_mono (wp_region_held hm this) ?_
  rintro e a w' ⟨rfl, σ', rfl, hq⟩
  exact ⟨σ', rfl, hq⟩
theorem D_take {o : Oper} {d : Nat} {v : Value} (hs : Region.noSelect ops = true) (hf : Region.free .any ops listed i = true) (hr : (Region.ready .any ops listed).contains i = true) (hl2 : listed.setIfInBounds i true = listed2)
    (ho : ops[i]? = some o) (hw : wg n ops σ o.guard = true) (hd : o.dst = some d) (hy : ∀ w, S w → (execOp (act n σ).eval o).run P w = .ok (.value v) w) (hS : S w)
    (h : DRW P n ops K S fuel listed2 (upd σ d v) w) : DRW P n ops K S (fuel + 1) listed σ w := by
  unfold DRW at *
  subst hl2
  refine wpAnyH_take ho hs hf hr (fun c a w h => by cases h.1) (v := v) (.inl ⟨by rw [wanted_wg, hw], hy⟩) hS ?_
  rw [hd, put_act]
  exact h
theorem D_off {o : Oper} {d : Nat} (hs : Region.noSelect ops = true) (hf : Region.free .any ops listed i = true) (hr : (Region.ready .any ops listed).contains i = true) (hl2 : listed.setIfInBounds i true = listed2)
    (ho : ops[i]? = some o) (hw : wg n ops σ o.guard = false) (hd : o.dst = some d) (hS : S w)
    (h : DRW P n ops K S fuel listed2 (upd σ d undef) w) : DRW P n ops K S (fuel + 1) listed σ w := by
  unfold DRW at *
  subst hl2
  refine wpAnyH_take ho hs hf hr (fun c a w h => by cases h.1) (v := undef) (.inr ⟨by rw [wanted_wg, hw], rfl⟩) hS ?_
  rw [hd, put_act]
  exact h
theorem D_skip {d : Nat} {op : Op} {t : TypeId} {p : String} {af : Array Edge} {gd : Option (Nat × Bool)} (hs : Region.noSelect ops = true) (hf : Region.free .any ops listed i = true) (hr : (Region.ready .any ops listed).contains i = true) (hl2 : listed.setIfInBounds i true = listed2)
    (ho : ops[i]? = some { dst := some d, op := op, type := t, pos := p, after := af, guard := gd }) (hw : wg n ops σ gd = false) (hS : S w)
    (h : DRW P n ops K S fuel listed2 (upd σ d undef) w) : DRW P n ops K S (fuel + 1) listed σ w := D_off hs hf hr hl2 ho hw rfl hS h
theorem wpOp_monoQ {Q Q' : Exit → Act → World → Prop} {K' : Act → World → Prop} {a : Act} (hp : ∀ c a w, Q (.panic c) a w → Q' (.panic c) a w) (ho : LetsOut Q → LetsOut Q')
    (h : wpOp P ops Q i K' a w) : wpOp P ops Q' i K' a w := by
  unfold wpOp at *
  cases hi : ops[i]? with
  | none => simp only [hi] at h ⊢; exact h
  | some o =>
    simp only [hi] at h ⊢
    split at h
    · rename_i hw
      rw [if_pos hw]
      rcases h with h | h
      · refine .inl ?_
        unfold Oper.wp at *
        generalize (execOp a.eval o).run P w = r at h
        cases r with
        | ok x w' =>
          cases x <;> simp only [Oper.upon] at h ⊢ <;> try exact h
          refine Calls.mono h ?_
          intro e w'' he
          cases e with
          | returned v => exact he
          | panicked c => exact hp _ _ _ he
          | outgrown => exact ho he
        | halt x w' =>
          cases x <;> simp only [Oper.upon] at h ⊢ <;> try exact h
          exact hp _ _ _ h
      · exact .inr ⟨h.1, ho h.2⟩
    · rename_i hw
      rw [if_neg hw]
      exact h
/-- One alone may come up. -/
theorem D_only (hr : Region.ready .any ops listed = [i]) (hl2 : listed.setIfInBounds i true = listed2)
    (h : OPS P n ops (fun σ' w' => S w' ∧ DRW P n ops K S fuel listed2 σ' w') [i] σ w) : DRW P n ops K S (fuel + 1) listed σ w := by
  subst hl2
  unfold DRW at *
  refine wpAnyH_all hr (by simp) ?_
  intro j hj
  rw [List.mem_singleton] at hj
  subst hj
  unfold OPS at h
  rw [wpOps_cons] at h
  refine wpOp_monoQ ?_ ?_ (wpOp_mono ?_ h)
  · rintro c a w ⟨h, _⟩; cases h
  · rintro ⟨a, w, h, _⟩; cases h
  · rintro a w' ⟨_, σ', rfl, h1, h2⟩
    exact ⟨h1, h2⟩
/-- Two may come up. -/
theorem D_two {j : Nat} {listed3 : Array Bool} (hr : Region.ready .any ops listed = [i, j]) (hl2 : listed.setIfInBounds i true = listed2) (hl3 : listed.setIfInBounds j true = listed3)
    (h : OPS P n ops (fun σ' w' => S w' ∧ DRW P n ops K S fuel listed2 σ' w') [i] σ w) (h2 : OPS P n ops (fun σ' w' => S w' ∧ DRW P n ops K S fuel listed3 σ' w') [j] σ w) : DRW P n ops K S (fuel + 1) listed σ w := by
  subst hl2
  subst hl3
  unfold DRW at *
  refine wpAnyH_all hr (by simp) ?_
  intro k hk
  simp only [List.mem_cons, List.not_mem_nil, or_false] at hk
  unfold OPS at h h2
  rw [wpOps_cons] at h h2
  rcases hk with rfl | rfl
  · refine wpOp_monoQ ?_ ?_ (wpOp_mono ?_ h)
    · rintro c a w ⟨h, _⟩; cases h
    · rintro ⟨a, w, h, _⟩; cases h
    · rintro a w' ⟨_, σ', rfl, h1, h2⟩
      exact ⟨h1, h2⟩
  · refine wpOp_monoQ ?_ ?_ (wpOp_mono ?_ h2)
    · rintro c a w ⟨h, _⟩; cases h
    · rintro ⟨a, w, h, _⟩; cases h
    · rintro a w' ⟨_, σ', rfl, h1, h2⟩
      exact ⟨h1, h2⟩
theorem D_done (hr : Region.ready .any ops listed = []) (h : K σ w) : DRW P n ops K S fuel listed σ w := by
  unfold DRW
  exact wpAnyH_done hr ⟨rfl, σ, rfl, h⟩ fuel
attribute [irreducible] DRW
theorem cell_below {w w' : World} (hS : Below w.heap.size w w') {ad : Addr} {v : Value} (hc : w.cell? ad = some v) : w'.cell? ad = some v :=
  (hS.cell (World.block_lt_of_cell? w _ hc)).trans hc

variable {d : Nat} {t : TypeId} {p : String} {af : Array Edge} {gd : Option (Nat × Bool)} {x y : Operand}

theorem D_move (hsel : Region.noSelect ops = true) (hf : Region.free .any ops listed i = true) (hrdy : (Region.ready .any ops listed).contains i = true) (hl2 : listed.setIfInBounds i true = listed2)
    (ho : ops[i]? = some { dst := some d, op := .move x, type := t, pos := p, after := af, guard := gd }) (hw : wg n ops σ gd = true) (hx : tok n x = true)
    {v : Value} (hv : sv σ x = v) (hS : S w) (h : DRW P n ops K S fuel listed2 (upd σ d v) w) : DRW P n ops K S (fuel + 1) listed σ w :=
  D_take hsel hf hrdy hl2 ho hw rfl (fun w' _ => by simp [execOp, eval_act hx, hv]) hS h
theorem D_assign (hsel : Region.noSelect ops = true) (hf : Region.free .any ops listed i = true) (hrdy : (Region.ready .any ops listed).contains i = true) (hl2 : listed.setIfInBounds i true = listed2)
    (ho : ops[i]? = some { dst := some d, op := .assign x, type := t, pos := p, after := af, guard := gd }) (hw : wg n ops σ gd = true) (hx : tok n x = true)
    {v : Value} (hv : sv σ x = v) (hS : S w) (h : DRW P n ops K S fuel listed2 (upd σ d v) w) : DRW P n ops K S (fuel + 1) listed σ w :=
  D_take hsel hf hrdy hl2 ho hw rfl (fun w' _ => by simp [execOp, eval_act hx, hv]) hS h
theorem D_pick {z : Operand} (hsel : Region.noSelect ops = true) (hf : Region.free .any ops listed i = true) (hrdy : (Region.ready .any ops listed).contains i = true) (hl2 : listed.setIfInBounds i true = listed2)
    (ho : ops[i]? = some { dst := some d, op := .pick x y z, type := t, pos := p, after := af, guard := gd }) (hw : wg n ops σ gd = true)
    (hx : tok n x = true) (hy : tok n y = true) (hz : tok n z = true)
    {b : Bool} {v : Value} (hb : sv σ x = .bool b) (hv : (if b then sv σ y else sv σ z) = v) (hS : S w) (h : DRW P n ops K S fuel listed2 (upd σ d v) w) : DRW P n ops K S (fuel + 1) listed σ w :=
  D_take hsel hf hrdy hl2 ho hw rfl (fun w' _ => by simp [execOp, eval_act hx, eval_act hy, eval_act hz, hb, asBool, hv]) hS h
theorem D_not (hsel : Region.noSelect ops = true) (hf : Region.free .any ops listed i = true) (hrdy : (Region.ready .any ops listed).contains i = true) (hl2 : listed.setIfInBounds i true = listed2)
    (ho : ops[i]? = some { dst := some d, op := .unOp .not t x, type := t, pos := p, after := af, guard := gd }) (hw : wg n ops σ gd = true) (hx : tok n x = true)
    {b : Bool} (hb : sv σ x = .bool b) (hS : S w) (h : DRW P n ops K S fuel listed2 (upd σ d (.bool (!b))) w) : DRW P n ops K S (fuel + 1) listed σ w :=
  D_take hsel hf hrdy hl2 ho hw rfl (fun w' _ => by simp [execOp, eval_act hx, hb, Op.unary]) hS h

theorem D_bin {op : BinOp} {T T' : TypeId} (hsel : Region.noSelect ops = true) (hf : Region.free .any ops listed i = true) (hrdy : (Region.ready .any ops listed).contains i = true) (hl2 : listed.setIfInBounds i true = listed2)
    (ho : ops[i]? = some { dst := some d, op := .binOp op T x y T', type := t, pos := p, after := af, guard := gd }) (hw : wg n ops σ gd = true)
    (hx : tok n x = true) (hy : tok n y = true) (hop : binOk op = true) {k : IntKind} {a b : Int} (ha : sv σ x = .int k a) (hb : sv σ y = .int k b)
    {v : Value} (hv : binV op k a b = v) (hS : S w) (h : DRW P n ops K S fuel listed2 (upd σ d v) w) : DRW P n ops K S (fuel + 1) listed σ w := by
  refine D_take hsel hf hrdy hl2 ho hw rfl (fun w' _ => ?_) hS h
  have := run_bin (P := P) (w := w') (x := x) (y := y) hop (k := k) (a := a) (b := b) T
  subst hv
  simp only [execOp, eval_act hx, eval_act hy, ha, hb]
  rw [Sem.run_bind, this]
  rfl
theorem D_conv {Sr T : TypeId} {k k' : IntKind} {dS : TypeDesc} (hSr : P.underlying Sr = some dS) (hT : P.underlying T = some (.int k')) (hsel : Region.noSelect ops = true) (hf : Region.free .any ops listed i = true) (hrdy : (Region.ready .any ops listed).contains i = true) (hl2 : listed.setIfInBounds i true = listed2)
    (ho : ops[i]? = some { dst := some d, op := .convert Sr T x, type := t, pos := p, after := af, guard := gd })
    (hw : wg n ops σ gd = true) (hx : tok n x = true) {a : Int} (hv : sv σ x = .int k a) {b : Int} (hb : k'.wrap a = b) (hS : S w) (h : DRW P n ops K S fuel listed2 (upd σ d (.int k' b)) w) : DRW P n ops K S (fuel + 1) listed σ w := by
  subst hb
  refine D_take hsel hf hrdy hl2 ho hw rfl (fun w' _ => ?_) hS h
  simp only [execOp, eval_act hx, hv, convert]
  cases dS <;> simp [underlying, hSr, hT, Conv.intToInt]
theorem D_extract {j : Nat} (hsel : Region.noSelect ops = true) (hf : Region.free .any ops listed i = true) (hrdy : (Region.ready .any ops listed).contains i = true) (hl2 : listed.setIfInBounds i true = listed2)
    (ho : ops[i]? = some { dst := some d, op := .extract x j, type := t, pos := p, after := af, guard := gd })
    (hw : wg n ops σ gd = true) (hx : tok n x = true) {vs : Array Value} (hv : sv σ x = .tuple vs) {v : Value} (hj : vs[j]? = some v) (hS : S w) (h : DRW P n ops K S fuel listed2 (upd σ d v) w) : DRW P n ops K S (fuel + 1) listed σ w :=
  D_take hsel hf hrdy hl2 ho hw rfl (fun w' _ => by simp [execOp, eval_act hx, hv, Instr.extract, hj]) hS h

theorem D_len {T : TypeId} {e : TypeId} (hT : P.underlying T = some (.slice e)) (hsel : Region.noSelect ops = true) (hf : Region.free .any ops listed i = true) (hrdy : (Region.ready .any ops listed).contains i = true) (hl2 : listed.setIfInBounds i true = listed2)
    (ho : ops[i]? = some { dst := some d, op := .call { callee := .builtin .len, args := #[x], argTypes := #[T] }, type := t, pos := p, after := af, guard := gd })
    (hw : wg n ops σ gd = true) (hx : tok n x = true) {v : Value} (hv : sv σ x = v) {m : Nat} (hl : SlLen v m) (hS : S w) (h : DRW P n ops K S fuel listed2 (upd σ d (.int .i64 m)) w) : DRW P n ops K S (fuel + 1) listed σ w := by
  obtain ⟨A, c, rfl⟩ := hl
  refine D_take hsel hf hrdy hl2 ho hw rfl (fun w' _ => ?_) hS h
  simp [execOp, resolve, invoke, builtin, Builtin.len_, eval_act hx, hv, underlying, hT, goInt]
theorem D_cap {T : TypeId} {e : TypeId} (hT : P.underlying T = some (.slice e)) (hsel : Region.noSelect ops = true) (hf : Region.free .any ops listed i = true) (hrdy : (Region.ready .any ops listed).contains i = true) (hl2 : listed.setIfInBounds i true = listed2)
    (ho : ops[i]? = some { dst := some d, op := .call { callee := .builtin .cap, args := #[x], argTypes := #[T] }, type := t, pos := p, after := af, guard := gd })
    (hw : wg n ops σ gd = true) (hx : tok n x = true) {A : Option Addr} {m c : Nat} (hv : sv σ x = .slice A m c) (hS : S w) (h : DRW P n ops K S fuel listed2 (upd σ d (.int .i64 c)) w) : DRW P n ops K S (fuel + 1) listed σ w := by
  refine D_take hsel hf hrdy hl2 ho hw rfl (fun w' _ => ?_) hS h
  simp [execOp, resolve, invoke, builtin, Builtin.cap_, eval_act hx, hv, underlying, hT, goInt]
theorem D_load {T : TypeId} (hsel : Region.noSelect ops = true) (hf : Region.free .any ops listed i = true) (hrdy : (Region.ready .any ops listed).contains i = true) (hl2 : listed.setIfInBounds i true = listed2)
    (ho : ops[i]? = some { dst := some d, op := .load T x, type := t, pos := p, after := af, guard := gd }) (hw : wg n ops σ gd = true) (hx : tok n x = true)
    {ad : Addr} (ha : sv σ x = .pointer (some ad)) {v : Value} (hl : ∀ w, S w → LD P w T ad v) (hS : S w) (h : DRW P n ops K S fuel listed2 (upd σ d v) w) : DRW P n ops K S (fuel + 1) listed σ w := by
  refine D_take hsel hf hrdy hl2 ho hw rfl (fun w' hS' => ?_) hS h
  have hl := hl w' hS'
  unfold LD at hl
  simp [execOp, eval_act hx, ha, Instr.loadAt, Instr.sureAddr, hl]
theorem D_nil (hsel : Region.noSelect ops = true) (hf : Region.free .any ops listed i = true) (hrdy : (Region.ready .any ops listed).contains i = true) (hl2 : listed.setIfInBounds i true = listed2)
    (ho : ops[i]? = some { dst := some d, op := .nilCheck x, type := t, pos := p, after := af, guard := gd }) (hw : wg n ops σ gd = true) (hx : tok n x = true)
    {ad : Addr} (ha : sv σ x = .pointer (some ad)) (hS : S w) (h : DRW P n ops K S fuel listed2 (upd σ d (.pointer (some ad))) w) : DRW P n ops K S (fuel + 1) listed σ w :=
  D_take hsel hf hrdy hl2 ho hw rfl (fun w' _ => by simp [execOp, eval_act hx, ha]) hS h

theorem D_field {s : TypeId} {j off : Nat} (hT : FieldT P s j off) (hsel : Region.noSelect ops = true) (hf : Region.free .any ops listed i = true) (hrdy : (Region.ready .any ops listed).contains i = true) (hl2 : listed.setIfInBounds i true = listed2)
    (ho : ops[i]? = some { dst := some d, op := .fieldAddr s x j, type := t, pos := p, after := af, guard := gd }) (hw : wg n ops σ gd = true) (hx : tok n x = true)
    {g o : Nat} (ha : sv σ x = .pointer (some ⟨g, o, none⟩)) {o' : Nat} (ho' : o + off = o') (hS : S w) (h : DRW P n ops K S fuel listed2 (upd σ d (.pointer (some ⟨g, o', none⟩))) w) : DRW P n ops K S (fuel + 1) listed σ w := by
  obtain ⟨fs, f, i0, h1, h2, h3, h4, h5⟩ := hT.out
  subst ho'
  refine D_take hsel hf hrdy hl2 ho hw rfl (fun w' _ => ?_) hS h
  simp [execOp, eval_act hx, ha, Instr.fieldAt, underlying, h1, h2, Instr.sureAddr, fieldPlace, sizeOf, typeInfo, h4, h5, h3, add_plain]

/-! ### 4. Slices -/
theorem D_idx {T e : TypeId} {sz by_ : Nat} {z : Value} {ag : Bool} (hT : P.underlying T = some (.slice e)) (he : TI P e sz by_ z ag)
    (hsel : Region.noSelect ops = true) (hf : Region.free .any ops listed i = true) (hrdy : (Region.ready .any ops listed).contains i = true) (hl2 : listed.setIfInBounds i true = listed2)
    (ho : ops[i]? = some { dst := some d, op := .indexAddr T x y, type := t, pos := p, after := af, guard := gd }) (hw : wg n ops σ gd = true) (hx : tok n x = true) (hy : tok n y = true)
    {v : Value} (hv : sv σ x = v) {k : IntKind} {iz : Int} (hi : sv σ y = .int k iz) {m j : Nat} {ad : Addr} (hp : SlAt v m sz j ad) (hj : iz = (j : Int))
    (hS : S w) (h : DRW P n ops K S fuel listed2 (upd σ d (.pointer (some ad))) w) : DRW P n ops K S (fuel + 1) listed σ w := by
  obtain ⟨ad0, c, rfl, hlt, rfl⟩ := hp
  obtain ⟨i0, hi0, hs, _⟩ := he.info
  subst hj
  refine D_take hsel hf hrdy hl2 ho hw rfl (fun w' _ => ?_) hS h
  simp [execOp, eval_act hx, eval_act hy, hv, hi, Instr.indexAt, asIntOf, underlying, hT, hlt, sizeOf, typeInfo, hi0, hs]

theorem D_sliceHi {T e : TypeId} {sz by_ : Nat} {z : Value} {ag : Bool} (hT : P.underlying T = some (.slice e)) (he : TI P e sz by_ z ag)
    (hsel : Region.noSelect ops = true) (hf : Region.free .any ops listed i = true) (hrdy : (Region.ready .any ops listed).contains i = true) (hl2 : listed.setIfInBounds i true = listed2)
    (ho : ops[i]? = some { dst := some d, op := .slice T x none (some y) none, type := t, pos := p, after := af, guard := gd }) (hw : wg n ops σ gd = true) (hx : tok n x = true) (hy : tok n y = true)
    {A : Option Addr} {m c : Nat} (hv : sv σ x = .slice A m c) {k : IntKind} {iz : Int} (hi : sv σ y = .int k iz) {j : Nat} (hj : iz = (j : Int)) (hjc : j ≤ c)
    (hS : S w) (h : DRW P n ops K S fuel listed2 (upd σ d (.slice A j c)) w) : DRW P n ops K S (fuel + 1) listed σ w := by
  obtain ⟨i0, hi0, hs, _⟩ := he.info
  subst hj
  refine D_take hsel hf hrdy hl2 ho hw rfl (fun w' _ => ?_) hS h
  simp [execOp, eval_act hx, eval_act hy, hv, hi, Instr.sliceAt, Instr.slice, Instr.sliceBounds, run_sliceBound _ hjc, underlying, hT, sizeOf, typeInfo, hi0, hs]
  intro _
  cases A <;> simp [Addr.add]
theorem D_sliceHiMx {T e : TypeId} {sz by_ : Nat} {z : Value} {ag : Bool} {u : Operand} (hT : P.underlying T = some (.slice e)) (he : TI P e sz by_ z ag)
    (hsel : Region.noSelect ops = true) (hf : Region.free .any ops listed i = true) (hrdy : (Region.ready .any ops listed).contains i = true) (hl2 : listed.setIfInBounds i true = listed2)
    (ho : ops[i]? = some { dst := some d, op := .slice T x none (some y) (some u), type := t, pos := p, after := af, guard := gd }) (hw : wg n ops σ gd = true) (hx : tok n x = true) (hy : tok n y = true) (hu : tok n u = true)
    {A : Option Addr} {m c : Nat} (hv : sv σ x = .slice A m c) {k k' : IntKind} {iz mz : Int} (hi : sv σ y = .int k iz) (hm : sv σ u = .int k' mz) {j q : Nat} (hj : iz = (j : Int)) (hq : mz = (q : Int)) (hjq : j ≤ q) (hqc : q ≤ c)
    (hS : S w) (h : DRW P n ops K S fuel listed2 (upd σ d (.slice A j q)) w) : DRW P n ops K S (fuel + 1) listed σ w := by
  obtain ⟨i0, hi0, hs, _⟩ := he.info
  subst hj
  subst hq
  refine D_take hsel hf hrdy hl2 ho hw rfl (fun w' _ => ?_) hS h
  simp [execOp, eval_act hx, eval_act hy, eval_act hu, hv, hi, hm, Instr.sliceAt, Instr.slice, Instr.sliceBounds, run_sliceBound _ hjq, run_sliceBound _ hqc, underlying, hT, sizeOf, typeInfo, hi0, hs]
  intro _
  cases A <;> simp [Addr.add]
theorem D_sliceLoHi {T e : TypeId} {sz by_ : Nat} {z : Value} {ag : Bool} {u : Operand} (hT : P.underlying T = some (.slice e)) (he : TI P e sz by_ z ag)
    (hsel : Region.noSelect ops = true) (hf : Region.free .any ops listed i = true) (hrdy : (Region.ready .any ops listed).contains i = true) (hl2 : listed.setIfInBounds i true = listed2)
    (ho : ops[i]? = some { dst := some d, op := .slice T x (some y) (some u) none, type := t, pos := p, after := af, guard := gd }) (hw : wg n ops σ gd = true) (hx : tok n x = true) (hy : tok n y = true) (hu : tok n u = true)
    {ad : Addr} {m c : Nat} (hv : sv σ x = .slice (some ad) m c) {k k' : IntKind} {lz hz : Int} (hl : sv σ y = .int k lz) (hh : sv σ u = .int k' hz) {l q : Nat} (hj : lz = (l : Int)) (hq : hz = (q : Int)) (hlq : l ≤ q) (hqc : q ≤ c)
    (hS : S w) (h : DRW P n ops K S fuel listed2 (upd σ d (.slice (some (if c = l then ad else ad.add (l * sz))) (q - l) (c - l))) w) : DRW P n ops K S (fuel + 1) listed σ w := by
  obtain ⟨i0, hi0, hs, _⟩ := he.info
  subst hj
  subst hq
  refine D_take hsel hf hrdy hl2 ho hw rfl (fun w' _ => ?_) hS h
  simp [execOp, eval_act hx, eval_act hy, eval_act hu, hv, hl, hh, Instr.sliceAt, Instr.slice, Instr.sliceBounds, run_sliceBound _ hlq, run_sliceBound _ hqc, underlying, hT, sizeOf, typeInfo, hi0, hs]
  split <;> rfl
theorem D_sliceLo {T e : TypeId} {sz by_ : Nat} {z : Value} {ag : Bool} (hT : P.underlying T = some (.slice e)) (he : TI P e sz by_ z ag)
    (hsel : Region.noSelect ops = true) (hf : Region.free .any ops listed i = true) (hrdy : (Region.ready .any ops listed).contains i = true) (hl2 : listed.setIfInBounds i true = listed2)
    (ho : ops[i]? = some { dst := some d, op := .slice T x (some y) none none, type := t, pos := p, after := af, guard := gd }) (hw : wg n ops σ gd = true) (hx : tok n x = true) (hy : tok n y = true)
    {A : Option Addr} {m c : Nat} (hv : sv σ x = .slice A m c) {k : IntKind} {lz : Int} (hl : sv σ y = .int k lz) {l : Nat} (hj : lz = (l : Int)) (hlq : l ≤ m)
    (hS : S w) (h : DRW P n ops K S fuel listed2 (upd σ d (.slice (if c = l then A else A.map (·.add (l * sz))) (m - l) (c - l))) w) : DRW P n ops K S (fuel + 1) listed σ w := by
  obtain ⟨i0, hi0, hs, _⟩ := he.info
  subst hj
  refine D_take hsel hf hrdy hl2 ho hw rfl (fun w' _ => ?_) hS h
  simp [execOp, eval_act hx, eval_act hy, hv, hl, Instr.sliceAt, Instr.slice, Instr.sliceBounds, run_sliceBound _ hlq, underlying, hT, sizeOf, typeInfo, hi0, hs]

theorem D_shr {T T' : TypeId} (hsel : Region.noSelect ops = true) (hf : Region.free .any ops listed i = true) (hrdy : (Region.ready .any ops listed).contains i = true) (hl2 : listed.setIfInBounds i true = listed2)
    (ho : ops[i]? = some { dst := some d, op := .binOp .shr T x y T', type := t, pos := p, after := af, guard := gd }) (hw : wg n ops σ gd = true)
    (hx : tok n x = true) (hy : tok n y = true) {k yk : IntKind} {a b : Int} (ha : sv σ x = .int k a) (hb : sv σ y = .int yk b) (h0 : 0 ≤ b) {v : Int} (hv : a.fdiv (2 ^ (min b.toNat k.bits)) = v)
    (hS : S w) (h : DRW P n ops K S fuel listed2 (upd σ d (.int k v)) w) : DRW P n ops K S (fuel + 1) listed σ w := by
  subst hv
  refine D_take hsel hf hrdy hl2 ho hw rfl (fun w' _ => ?_) hS h
  have h0' : ¬ b < 0 := by omega
  simp [execOp, eval_act hx, eval_act hy, ha, hb, eqGuard, binOp, Op.shift, h0']
theorem D_shl {T T' : TypeId} (hsel : Region.noSelect ops = true) (hf : Region.free .any ops listed i = true) (hrdy : (Region.ready .any ops listed).contains i = true) (hl2 : listed.setIfInBounds i true = listed2)
    (ho : ops[i]? = some { dst := some d, op := .binOp .shl T x y T', type := t, pos := p, after := af, guard := gd }) (hw : wg n ops σ gd = true)
    (hx : tok n x = true) (hy : tok n y = true) {k yk : IntKind} {a b : Int} (ha : sv σ x = .int k a) (hb : sv σ y = .int yk b) (h0 : 0 ≤ b) {v : Int} (hv : k.wrap (a * 2 ^ (min b.toNat k.bits)) = v)
    (hS : S w) (h : DRW P n ops K S fuel listed2 (upd σ d (.int k v)) w) : DRW P n ops K S (fuel + 1) listed σ w := by
  subst hv
  refine D_take hsel hf hrdy hl2 ho hw rfl (fun w' _ => ?_) hS h
  have h0' : ¬ b < 0 := by omega
  simp [execOp, eval_act hx, eval_act hy, ha, hb, eqGuard, binOp, Op.shift, h0']
theorem D_quo {T T' : TypeId} (hsel : Region.noSelect ops = true) (hf : Region.free .any ops listed i = true) (hrdy : (Region.ready .any ops listed).contains i = true) (hl2 : listed.setIfInBounds i true = listed2)
    (ho : ops[i]? = some { dst := some d, op := .binOp .quo T x y T', type := t, pos := p, after := af, guard := gd }) (hw : wg n ops σ gd = true)
    (hx : tok n x = true) (hy : tok n y = true) {k : IntKind} {a b : Int} (ha : sv σ x = .int k a) (hb : sv σ y = .int k b) (h0 : b ≠ 0) {v : Int} (hv : k.wrap (a.tdiv b) = v)
    (hS : S w) (h : DRW P n ops K S fuel listed2 (upd σ d (.int k v)) w) : DRW P n ops K S (fuel + 1) listed σ w := by
  subst hv
  refine D_take hsel hf hrdy hl2 ho hw rfl (fun w' _ => ?_) hS h
  simp [execOp, eval_act hx, eval_act hy, ha, hb, eqGuard, binOp, Op.intDiv, h0]
theorem D_rem {T T' : TypeId} (hsel : Region.noSelect ops = true) (hf : Region.free .any ops listed i = true) (hrdy : (Region.ready .any ops listed).contains i = true) (hl2 : listed.setIfInBounds i true = listed2)
    (ho : ops[i]? = some { dst := some d, op := .binOp .rem T x y T', type := t, pos := p, after := af, guard := gd }) (hw : wg n ops σ gd = true)
    (hx : tok n x = true) (hy : tok n y = true) {k : IntKind} {a b : Int} (ha : sv σ x = .int k a) (hb : sv σ y = .int k b) (h0 : b ≠ 0) {v : Int} (hv : a.tmod b = v)
    (hS : S w) (h : DRW P n ops K S fuel listed2 (upd σ d (.int k v)) w) : DRW P n ops K S (fuel + 1) listed σ w := by
  subst hv
  refine D_take hsel hf hrdy hl2 ho hw rfl (fun w' _ => ?_) hS h
  simp [execOp, eval_act hx, eval_act hy, ha, hb, eqGuard, binOp, Op.intDiv, h0]
theorem D_bits {T T' : TypeId} {op : BinOp} (hsel : Region.noSelect ops = true) (hf : Region.free .any ops listed i = true) (hrdy : (Region.ready .any ops listed).contains i = true) (hl2 : listed.setIfInBounds i true = listed2)
    (ho : ops[i]? = some { dst := some d, op := .binOp op T x y T', type := t, pos := p, after := af, guard := gd }) (hw : wg n ops σ gd = true)
    (hx : tok n x = true) (hy : tok n y = true) (hop : op = .and ∨ op = .or ∨ op = .xor) {k : IntKind} {a b : Int} (ha : sv σ x = .int k a) (hb : sv σ y = .int k b) {v : Int} (hv : bitV op k a b = v)
    (hS : S w) (h : DRW P n ops K S fuel listed2 (upd σ d (.int k v)) w) : DRW P n ops K S (fuel + 1) listed σ w := by
  subst hv
  refine D_take hsel hf hrdy hl2 ho hw rfl (fun w' _ => ?_) hS h
  rcases hop with rfl | rfl | rfl <;> simp [execOp, eval_act hx, eval_act hy, ha, hb, eqGuard, binOp, Op.intBits, bitV]
theorem D_xor {T : TypeId} (hsel : Region.noSelect ops = true) (hf : Region.free .any ops listed i = true) (hrdy : (Region.ready .any ops listed).contains i = true) (hl2 : listed.setIfInBounds i true = listed2)
    (ho : ops[i]? = some { dst := some d, op := .unOp .xor T x, type := t, pos := p, after := af, guard := gd }) (hw : wg n ops σ gd = true)
    (hx : tok n x = true) {k : IntKind} {a : Int} (ha : sv σ x = .int k a) {v : Int} (hv : bitV .xor k (if k.signed then -1 else k.max) a = v)
    (hS : S w) (h : DRW P n ops K S fuel listed2 (upd σ d (.int k v)) w) : DRW P n ops K S (fuel + 1) listed σ w := by
  subst hv
  refine D_take hsel hf hrdy hl2 ho hw rfl (fun w' _ => ?_) hS h
  simp [execOp, eval_act hx, ha, Op.unary, Op.intBits, bitV]
theorem D_max {ats : Array TypeId} (hsel : Region.noSelect ops = true) (hf : Region.free .any ops listed i = true) (hrdy : (Region.ready .any ops listed).contains i = true) (hl2 : listed.setIfInBounds i true = listed2)
    (ho : ops[i]? = some { dst := some d, op := .call { callee := .builtin .max, args := #[x, y], argTypes := ats }, type := t, pos := p, after := af, guard := gd })
    (hw : wg n ops σ gd = true) (hx : tok n x = true) (hy : tok n y = true) {k : IntKind} {a b : Int} (ha : sv σ x = .int k a) (hb : sv σ y = .int k b) {v : Int} (hv : max a b = v) (hS : S w) (h : DRW P n ops K S fuel listed2 (upd σ d (.int k v)) w) : DRW P n ops K S (fuel + 1) listed σ w := by
  subst hv
  refine D_take hsel hf hrdy hl2 ho hw rfl (fun w' _ => ?_) hS h
  simp [execOp, resolve, invoke, builtin, Builtin.max_, Builtin.max2, eval_act hx, eval_act hy, ha, hb]
  omega
theorem D_min {ats : Array TypeId} (hsel : Region.noSelect ops = true) (hf : Region.free .any ops listed i = true) (hrdy : (Region.ready .any ops listed).contains i = true) (hl2 : listed.setIfInBounds i true = listed2)
    (ho : ops[i]? = some { dst := some d, op := .call { callee := .builtin .min, args := #[x, y], argTypes := ats }, type := t, pos := p, after := af, guard := gd })
    (hw : wg n ops σ gd = true) (hx : tok n x = true) (hy : tok n y = true) {k : IntKind} {a b : Int} (ha : sv σ x = .int k a) (hb : sv σ y = .int k b) {v : Int} (hv : min a b = v) (hS : S w) (h : DRW P n ops K S fuel listed2 (upd σ d (.int k v)) w) : DRW P n ops K S (fuel + 1) listed σ w := by
  subst hv
  refine D_take hsel hf hrdy hl2 ho hw rfl (fun w' _ => ?_) hS h
  simp [execOp, resolve, invoke, builtin, Builtin.min_, Builtin.min2, eval_act hx, eval_act hy, ha, hb]
  omega
theorem D_add64 {T T' : TypeId} (hsel : Region.noSelect ops = true) (hf : Region.free .any ops listed i = true) (hrdy : (Region.ready .any ops listed).contains i = true) (hl2 : listed.setIfInBounds i true = listed2)
    (ho : ops[i]? = some { dst := some d, op := .binOp .add T x y T', type := t, pos := p, after := af, guard := gd }) (hw : wg n ops σ gd = true)
    (hx : tok n x = true) (hy : tok n y = true) {a b : Int} (ha : sv σ x = .int .i64 a) (hb : sv σ y = .int .i64 b)
    (hr : -9223372036854775808 ≤ a + b ∧ a + b ≤ 9223372036854775807) (hS : S w) (h : DRW P n ops K S fuel listed2 (upd σ d (.int .i64 (a + b))) w) : DRW P n ops K S (fuel + 1) listed σ w :=
  D_bin hsel hf hrdy hl2 ho hw hx hy rfl ha hb (by simp only [binV]; congr 1; simp [IntKind.wrap, IntKind.bits, IntKind.signed]; omega) hS h
theorem D_sub64 {T T' : TypeId} (hsel : Region.noSelect ops = true) (hf : Region.free .any ops listed i = true) (hrdy : (Region.ready .any ops listed).contains i = true) (hl2 : listed.setIfInBounds i true = listed2)
    (ho : ops[i]? = some { dst := some d, op := .binOp .sub T x y T', type := t, pos := p, after := af, guard := gd }) (hw : wg n ops σ gd = true)
    (hx : tok n x = true) (hy : tok n y = true) {a b : Int} (ha : sv σ x = .int .i64 a) (hb : sv σ y = .int .i64 b)
    (hr : -9223372036854775808 ≤ a - b ∧ a - b ≤ 9223372036854775807) (hS : S w) (h : DRW P n ops K S fuel listed2 (upd σ d (.int .i64 (a - b))) w) : DRW P n ops K S (fuel + 1) listed σ w :=
  D_bin hsel hf hrdy hl2 ho hw hx hy rfl ha hb (by simp only [binV]; congr 1; simp [IntKind.wrap, IntKind.bits, IntKind.signed]; omega) hS h
theorem D_mul64 {T T' : TypeId} (hsel : Region.noSelect ops = true) (hf : Region.free .any ops listed i = true) (hrdy : (Region.ready .any ops listed).contains i = true) (hl2 : listed.setIfInBounds i true = listed2)
    (ho : ops[i]? = some { dst := some d, op := .binOp .mul T x y T', type := t, pos := p, after := af, guard := gd }) (hw : wg n ops σ gd = true)
    (hx : tok n x = true) (hy : tok n y = true) {a b : Int} (ha : sv σ x = .int .i64 a) (hb : sv σ y = .int .i64 b)
    (hr : -9223372036854775808 ≤ a * b ∧ a * b ≤ 9223372036854775807) (hS : S w) (h : DRW P n ops K S fuel listed2 (upd σ d (.int .i64 (a * b))) w) : DRW P n ops K S (fuel + 1) listed σ w :=
  D_bin hsel hf hrdy hl2 ho hw hx hy rfl ha hb (by simp only [binV]; congr 1; simp [IntKind.wrap, IntKind.bits, IntKind.signed]; omega) hS h
end
end Go.Proofs.YtccmicegihlfbaaDoor
