/- Slices of structs read as cells; fractions and lists of them. -/
import Derived.Test.YtccmicegihlfbaaGreatDoorRow
set_option linter.unusedVariables false
set_option linter.unusedSimpArgs false
namespace Go.Proofs.YtccmicegihlfbaaGreatDoor
open Go.RowKit

/-! ### 1. Cells -/
def CellsAt (w : World) (ad : Addr) (cs : List Value) : Prop := ∀ i, i < cs.length → w.cell? (ad.add i) = cs[i]?
theorem CellsAt.below {w w' : World} {ad : Addr} {cs : List Value} (h : CellsAt w ad cs) (hS : Below w.heap.size w w') : CellsAt w' ad cs := fun i hi => by
  have := h i hi
  rw [List.getElem?_eq_getElem hi] at this ⊢
  exact cell_below hS this
theorem LD.cells {P : Program} {w : World} {t : TypeId} {sz by_ : Nat} {z : Value} (T : TI P t sz by_ z true) {ad : Addr} {cs : List Value} (h : CellsAt w ad cs) (hl : cs.length = sz) : LD P w t ad (.agg cs.toArray) :=
  LD.agg T (fun j hj => h j (by omega)) hl
theorem flat_get {α : Type} (f : α → List Value) (sz : Nat) (hf : ∀ x, (f x).length = sz) (es : List α) (j i : Nat) (hi : i < sz) : (es.flatMap f)[j * sz + i]? = es[j]?.bind (fun x => (f x)[i]?) := by
  induction es generalizing j with
  | nil => simp
  | cons e es ih =>
    rw [List.flatMap_cons]
    cases j with
    | zero => rw [List.getElem?_append_left (by rw [hf]; omega)]; simp
    | succ j =>
      rw [List.getElem?_append_right (by rw [hf, Nat.add_mul]; omega), hf, show (j + 1) * sz + i - sz = j * sz + i by rw [Nat.add_mul]; omega, ih]
      simp
theorem flat_len {α : Type} (f : α → List Value) (sz : Nat) (hf : ∀ x, (f x).length = sz) (es : List α) : (es.flatMap f).length = es.length * sz := by
  induction es with
  | nil => simp
  | cons e es ih => rw [List.flatMap_cons, List.length_append, hf, ih, List.length_cons, Nat.add_mul]; omega

/-- A slice of m elements reads as the cells xs, sz an element; it lies in no block from a on, ahead of b. -/
def RC (a b sz : Nat) (w : World) (v : Value) (m : Nat) (xs : List Value) : Prop :=
  xs.length = m * sz ∧ ∃ A c, v = .slice A m c ∧ m ≤ c ∧ c ≤ 9223372036854775807 ∧
    ∀ j, j < m * sz → ∃ ad, A = some ad ∧ (ad.block < a ∨ b ≤ ad.block) ∧ w.cell? (ad.add j) = xs[j]?
section
variable {a b sz : Nat} {w w' : World} {v : Value} {m : Nat} {xs : List Value}
theorem RC.nil (a b sz : Nat) (w : World) : RC a b sz w (.slice none 0 0) 0 [] := ⟨by simp, none, 0, rfl, Nat.le_refl _, by omega, fun j hj => by omega⟩
theorem RC.len (h : RC a b sz w v m xs) : SlLen v m := by
  obtain ⟨_, A, c, rfl, _⟩ := h
  exact ⟨_, _, rfl⟩
theorem RC.le (h : RC a b sz w v m xs) : m ≤ 9223372036854775807 := by
  obtain ⟨_, A, c, rfl, h1, h2, _⟩ := h
  omega
theorem RC.below (h : RC a b sz w v m xs) (hb : Below w.heap.size w w') : RC a b sz w' v m xs := by
  obtain ⟨hl, A, c, hv, h1, h2, h3⟩ := h
  refine ⟨hl, A, c, hv, h1, h2, fun j hj => ?_⟩
  obtain ⟨ad, hA, hbl, hc⟩ := h3 j hj
  rw [List.getElem?_eq_getElem (by omega)] at hc ⊢
  exact ⟨ad, hA, hbl, cell_below hb hc⟩
theorem RC.keep (h : RC a b sz w v m xs) (hk : ∀ g, g < w.heap.size → (g < a ∨ b ≤ g) → w'.heap[g]? = w.heap[g]?) : RC a b sz w' v m xs := by
  obtain ⟨hl, A, c, hv, h1, h2, h3⟩ := h
  refine ⟨hl, A, c, hv, h1, h2, fun j hj => ?_⟩
  obtain ⟨ad, hA, hbl, hc⟩ := h3 j hj
  refine ⟨ad, hA, hbl, ?_⟩
  rw [← hc]
  rw [List.getElem?_eq_getElem (by omega)] at hc
  have := World.block_lt_of_cell? w _ hc
  exact World.cell?_of_block (hk _ this (by rw [add_block]; exact hbl))
theorem RC.upd {g : Nat} (h : RC a b sz w v m xs) (hu : Upd g w w') (ha : a ≤ g) (hg : g < b) : RC a b sz w' v m xs := h.keep fun k _ hk => hu.block k (by omega)
theorem RC.grown {row : Option Nat} (h : RC a b sz w v m xs) (hg : w.grownBy w' row) (hr : ∀ g, row = some g → a ≤ g ∧ g < b) : RC a b sz w' v m xs :=
  h.keep fun k hk1 hk => hg.block k hk1 (fun e => by have := hr _ e.symm; omega)
theorem RC.weak {a' b' : Nat} (h : RC a b sz w v m xs) (ha : a ≤ a') (hb : b' ≤ b) : RC a' b' sz w v m xs := by
  obtain ⟨hl, A, c, hv, h1, h2, h3⟩ := h
  refine ⟨hl, A, c, hv, h1, h2, fun j hj => ?_⟩
  obtain ⟨ad, hA, hbl, hc⟩ := h3 j hj
  exact ⟨ad, hA, by omega, hc⟩
theorem RC.any {a' b' : Nat} (h : RC a b sz w v m xs) (hab : b' ≤ a') : RC a' b' sz w v m xs := by
  obtain ⟨hl, A, c, hv, h1, h2, h3⟩ := h
  refine ⟨hl, A, c, hv, h1, h2, fun j hj => ?_⟩
  obtain ⟨ad, hA, hbl, hc⟩ := h3 j hj
  exact ⟨ad, hA, by omega, hc⟩
theorem RC.new {a' b' : Nat} (h : RC a b sz w v m xs) (hs : w.heap.size ≤ a') : RC a' b' sz w v m xs := by
  obtain ⟨hl, A, c, hv, h1, h2, h3⟩ := h
  refine ⟨hl, A, c, hv, h1, h2, fun j hj => ?_⟩
  obtain ⟨ad, hA, hbl, hc⟩ := h3 j hj
  have hc' := hc
  rw [List.getElem?_eq_getElem (by omega)] at hc'
  have := World.block_lt_of_cell? w _ hc'
  rw [add_block] at this
  exact ⟨ad, hA, by omega, hc⟩
theorem RC.at_ (h : RC a b sz w v m xs) {j : Nat} (hj : j < m) (hsz : 0 < sz) : ∃ ad, SlAt v m sz j ad ∧ ∀ i, i < sz → w.cell? (ad.add i) = xs[j * sz + i]? := by
  obtain ⟨hl, A, c, rfl, h1, h2, h3⟩ := h
  have hm : (j + 1) * sz ≤ m * sz := Nat.mul_le_mul_right _ hj
  rw [Nat.add_mul] at hm
  obtain ⟨ad, rfl, _, _⟩ := h3 (j * sz) (by omega)
  refine ⟨_, ⟨ad, c, rfl, hj, rfl⟩, fun i hi => ?_⟩
  obtain ⟨ad', hA, _, hc⟩ := h3 (j * sz + i) (by omega)
  cases hA
  rw [Addr.add_add']
  exact hc
theorem Row.rc {B : Nat} {e : TypeId} (h : Row B e sz w v m xs) : RC 0 B sz w v m xs := by
  refine ⟨h.1, ?_⟩
  rcases h.2 with ⟨rfl, A, rfl⟩ | ⟨g, c, cs, rfl, h1, h2, h3, h4, h5, h6, h7⟩
  · exact ⟨A, 0, rfl, Nat.le_refl _, by omega, fun j hj => by omega⟩
  · refine ⟨_, c, rfl, h4, h5, fun j hj => ⟨_, rfl, .inr h2, ?_⟩⟩
    rw [add_plain, h3.cell, Nat.zero_add, ← h7, List.getElem?_take_of_lt hj]
end

section
variable {P : Program} {n : NF} {ops : Array Oper} {K : (Nat → Value) → World → Prop} {σ : Nat → Value} {w : World} {i : Nat} {rest : List Nat}
variable {d : Nat} {t : TypeId} {p : String} {af : Array Edge} {gd : Option (Nat × Bool)} {x y : Operand}
theorem S_beq {T T' : TypeId} (hT : P.underlying T = some .bool) (ho : ops[i]? = some { dst := some d, op := .binOp .eql T x y T', type := t, pos := p, after := af, guard := gd }) (hw : wg n ops σ gd = true)
    (hx : tok n x = true) (hy : tok n y = true) {a b : Bool} (ha : sv σ x = .bool a) (hb : sv σ y = .bool b) {c : Bool} (hc : (a == b) = c) (h : OPS P n ops K rest (upd σ d (.bool c)) w) : OPS P n ops K (i :: rest) σ w := by
  subst hc
  refine OPS.step ho hw rfl ?_ h
  have := run_equal_bool (P := P) w T a b hT
  simp [execOp, eval_act hx, eval_act hy, ha, hb, eqGuard, binOp, this]
  try (cases a <;> cases b <;> rfl)
theorem S_bne {T T' : TypeId} (hT : P.underlying T = some .bool) (ho : ops[i]? = some { dst := some d, op := .binOp .neq T x y T', type := t, pos := p, after := af, guard := gd }) (hw : wg n ops σ gd = true)
    (hx : tok n x = true) (hy : tok n y = true) {a b : Bool} (ha : sv σ x = .bool a) (hb : sv σ y = .bool b) {c : Bool} (hc : (a != b) = c) (h : OPS P n ops K rest (upd σ d (.bool c)) w) : OPS P n ops K (i :: rest) σ w := by
  subst hc
  refine OPS.step ho hw rfl ?_ h
  have := run_equal_bool (P := P) w T a b hT
  simp [execOp, eval_act hx, eval_act hy, ha, hb, eqGuard, binOp, this]
  try (cases a <;> cases b <;> rfl)
end

/-! ### 2. Fractions -/
structure Q where
  neg : Bool
  n : List Int
  d : List Int
/-- A fraction that reads so. -/
def RQ (a b : Nat) (w : World) (v : Value) (q : Q) : Prop := ∃ vn vd, v = .agg #[.bool q.neg, vn, vd] ∧ RN a b w vn q.n ∧ RN a b w vd q.d
/-- A fraction in memory of its own. -/
def OQ (B : Nat) (w : World) (v : Value) (q : Q) : Prop := ∃ vn vd, v = .agg #[.bool q.neg, vn, vd] ∧ ON B w vn q.n ∧ ON B w vd q.d ∧ Dj vn vd
/-- A fraction within a list: what it reads as, and the slices of its parts. -/
structure RV where
  q : Q
  vn : Value
  vd : Value
def rv0 : RV := ⟨⟨false, [], []⟩, undef, undef⟩
def RV.cs (x : RV) : List Value := [.bool x.q.neg, x.vn, x.vd]
theorem RV.cs_len (x : RV) : x.cs.length = 3 := rfl
def RV.R (a b : Nat) (w : World) (x : RV) : Prop := RN a b w x.vn x.q.n ∧ RN a b w x.vd x.q.d
def RV.O (B : Nat) (w : World) (x : RV) : Prop := ON B w x.vn x.q.n ∧ ON B w x.vd x.q.d
def qs (es : List RV) : List Q := es.map RV.q
theorem qs_len (es : List RV) : (qs es).length = es.length := by simp [qs]
/-- A list of fractions that reads so. -/
def RL (a b : Nat) (w : World) (v : Value) (es : List RV) : Prop := RC a b 3 w v es.length (es.flatMap RV.cs) ∧ ∀ x ∈ es, x.R a b w
/-- A list of fractions in memory of its own. -/
def OL (B : Nat) (w : World) (v : Value) (es : List RV) : Prop :=
  Row B 70 3 w v es.length (es.flatMap RV.cs) ∧ (∀ x ∈ es, x.O B w) ∧ List.Pairwise Dj (v :: es.flatMap fun x => [x.vn, x.vd])
section
variable {a b B : Nat} {w w' : World} {v : Value} {es : List RV}
theorem RV.R.below {x : RV} (h : x.R a b w) (hb : Below w.heap.size w w') : x.R a b w' := ⟨h.1.below hb, h.2.below hb⟩
theorem RV.O.below {x : RV} (h : x.O B w) (hb : Below w.heap.size w w') : x.O B w' := ⟨h.1.below hb, h.2.below hb⟩
theorem RL.below (h : RL a b w v es) (hb : Below w.heap.size w w') : RL a b w' v es := ⟨h.1.below hb, fun x hx => (h.2 x hx).below hb⟩
theorem RL.weak {a' b' : Nat} (h : RL a b w v es) (ha : a ≤ a') (hb : b' ≤ b) : RL a' b' w v es := ⟨h.1.weak ha hb, fun x hx => ⟨(h.2 x hx).1.weak ha hb, (h.2 x hx).2.weak ha hb⟩⟩
theorem RL.upd {g : Nat} (h : RL a b w v es) (hu : Upd g w w') (ha : a ≤ g) (hg : g < b) : RL a b w' v es := ⟨h.1.upd hu ha hg, fun x hx => ⟨(h.2 x hx).1.upd hu ha hg, (h.2 x hx).2.upd hu ha hg⟩⟩
theorem OL.below (h : OL B w v es) (hb : Below w.heap.size w w') : OL B w' v es := ⟨h.1.below hb, fun x hx => (h.2.1 x hx).below hb, h.2.2⟩
theorem OL.rl (h : OL B w v es) : RL 0 B w v es := ⟨h.1.rc, fun x hx => ⟨(h.2.1 x hx).1.r, (h.2.1 x hx).2.r⟩⟩
theorem OL.nil (B : Nat) (w : World) : OL B w (.slice none 0 0) [] := ⟨Row.nil _ _ _ _, ⟨fun _ h => (by cases h), by simp⟩⟩
theorem RL.nil (a b : Nat) (w : World) : RL a b w (.slice none 0 0) [] := ⟨RC.nil _ _ _ _, fun _ h => by cases h⟩
theorem RL.len (h : RL a b w v es) : SlLen v es.length := h.1.len
theorem getD_mem {j : Nat} (hj : j < es.length) : es.getD j rv0 ∈ es := by
  rw [List.getD_eq_getElem?_getD, List.getElem?_eq_getElem hj]; exact List.getElem_mem hj
theorem RL.get (h : RL a b w v es) (j : Nat) (hj : j < es.length) : ∃ ad, SlAt v es.length 3 j ad ∧ CellsAt w ad (es.getD j rv0).cs := by
  obtain ⟨ad, h1, h2⟩ := h.1.at_ hj (by omega)
  refine ⟨ad, h1, fun i hi => ?_⟩
  rw [RV.cs_len] at hi
  rw [h2 i hi, flat_get RV.cs 3 RV.cs_len _ _ _ hi, List.getD_eq_getElem?_getD, List.getElem?_eq_getElem hj]
  rfl
theorem RL.mem (h : RL a b w v es) {j : Nat} (hj : j < es.length) : (es.getD j rv0).R a b w := h.2 _ (getD_mem hj)
theorem OL.mem (h : OL B w v es) {j : Nat} (hj : j < es.length) : (es.getD j rv0).O B w := h.2.1 _ (getD_mem hj)
theorem OL.bks (h : OL B w v es) : ∀ x ∈ v :: es.flatMap (fun x => [x.vn, x.vd]), ∀ g, bk x = some g → B ≤ g ∧ g < w.heap.size := by
  intro x hx
  rcases List.mem_cons.1 hx with rfl | hx
  · exact h.1.bkB
  · obtain ⟨y, hy, hx⟩ := List.mem_flatMap.1 hx
    simp only [List.mem_cons, List.not_mem_nil, or_false] at hx
    rcases hx with rfl | rfl
    · exact (h.2.1 y hy).1.bkB
    · exact (h.2.1 y hy).2.bkB
theorem qs_get {es fs : List RV} (h : qs es = qs fs) (j : Nat) : (es.getD j rv0).q = (fs.getD j rv0).q := by
  have h1 : ∀ es : List RV, (es.getD j rv0).q = (qs es).getD j rv0.q := fun es => by
    rw [List.getD_eq_getElem?_getD, List.getD_eq_getElem?_getD, qs, List.getElem?_map]
    cases es[j]? <;> rfl
  rw [h1, h1, h]
theorem OQ.below {q : Q} (h : OQ B w v q) (hb : Below w.heap.size w w') : OQ B w' v q := by
  obtain ⟨vn, vd, h1, h2, h3, h4⟩ := h
  exact ⟨vn, vd, h1, h2.below hb, h3.below hb, h4⟩
end
theorem ON.grown {B : Nat} {w w' : World} {row : Option Nat} {v : Value} {l : List Int} (h : ON B w v l) (hg : w.grownBy w' row) (hr : ∀ g, row = some g → g < B ∨ (∀ k, bk v = some k → k ≠ g)) : ON B w' v l :=
  (h.row.grown hg (fun k hk e => by
    have h1 := h.bkB k hk
    rcases hr k e.symm with h2 | h2
    · omega
    · exact h2 k hk rfl)).on h.1.u32
/-- A fraction is put behind a list of the call's own: what the append leaves. -/
theorem OL.push {B : Nat} {w w' : World} {v v' : Value} {es : List RV} {x : RV} (h : OL B w v es) (hx : x.O B w) (hd : Dj x.vn x.vd) (hn : ∀ y ∈ v :: es.flatMap (fun x => [x.vn, x.vd]), Dj y x.vn ∧ Dj y x.vd)
    (hr : Row B 70 3 w' v' (es.length + 1) (es.flatMap RV.cs ++ x.cs)) (hg : w.grownBy w' (bk v)) (hb : bk v' = bk v ∨ ∃ g, bk v' = some g ∧ w.heap.size ≤ g ∧ w.grownBy w' none) : OL B w' v' (es ++ [x]) := by
  have hp := List.pairwise_cons.1 h.2.2
  have keep : ∀ y l, ON B w y l → Dj v y → ON B w' y l := fun y l hy hv => hy.grown hg (fun g e => .inr fun k hk hk2 => hv g e (by rw [hk, hk2]))
  refine ⟨by simpa using hr, fun y hy => ?_, ?_⟩
  · rcases List.mem_append.1 hy with hy | hy
    · have h1 := h.2.1 y hy
      exact ⟨keep _ _ h1.1 (hp.1 _ (List.mem_flatMap.2 ⟨y, hy, by simp⟩)), keep _ _ h1.2 (hp.1 _ (List.mem_flatMap.2 ⟨y, hy, by simp⟩))⟩
    · rw [List.mem_singleton] at hy; subst hy
      have := hn v (by simp)
      exact ⟨keep _ _ hx.1 this.1, keep _ _ hx.2 this.2⟩
  · have hall : List.Pairwise Dj (es.flatMap (fun x => [x.vn, x.vd]) ++ [x.vn, x.vd]) := by
      refine List.pairwise_append.2 ⟨hp.2, by simp [hd], fun y hy z hz => ?_⟩
      have := hn y (by simp [hy])
      simp only [List.mem_cons, List.not_mem_nil, or_false] at hz
      rcases hz with rfl | rfl
      · exact this.1
      · exact this.2
    rw [List.flatMap_append]
    refine List.pairwise_cons.2 ⟨fun y hy => ?_, by simpa using hall⟩
    have hb1 : Dj v y := by
      rcases List.mem_append.1 hy with hy | hy
      · exact hp.1 y hy
      · have := hn v (by simp)
        simp at hy
        rcases hy with rfl | rfl
        · exact this.1
        · exact this.2
    rcases hb with hb | ⟨g, hb, hsz, _⟩
    · intro k hk; rw [hb] at hk; exact hb1 k hk
    · have hy2 : ∀ g, bk y = some g → g < w.heap.size := by
        intro g hg
        rcases List.mem_append.1 hy with hy | hy
        · exact (h.bks y (by simp [hy]) g hg).2
        · simp at hy
          rcases hy with rfl | rfl
          · exact (hx.1.bkB g hg).2
          · exact (hx.2.bkB g hg).2
      exact (Dj.lt hy2 (fun k hk => by rw [hb] at hk; cases hk; exact hsz)).symm
end Go.Proofs.YtccmicegihlfbaaGreatDoor
