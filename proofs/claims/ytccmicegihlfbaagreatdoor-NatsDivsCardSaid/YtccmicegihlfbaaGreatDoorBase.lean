/- Slices of parts, whole numbers, fractions, lists of them, in the world; what a call makes. -/
import Derived.Test.YtccmicegihlfbaaGreatDoorCore3
import Derived.Test.YtccmicegihlfbaaGreatDoorPure
set_option linter.unusedVariables false
set_option linter.unusedSimpArgs false
namespace Go.Proofs.YtccmicegihlfbaaGreatDoor
open Go.RowKit

/-- A slice of parts reads as l; its memory lies in no block from a on, ahead of b. -/
def RN (a b : Nat) (w : World) (v : Value) (l : List Int) : Prop :=
  U32 l ∧ ∃ A c, v = .slice A l.length c ∧ l.length ≤ c ∧ c ≤ 9223372036854775807 ∧
    ∀ j, j < l.length → ∃ ad, A = some ad ∧ (ad.block < a ∨ b ≤ ad.block) ∧ w.cell? (ad.add j) = some (.int .u32 (l.getD j 0))
section
variable {a b a' b' g : Nat} {w w' : World} {v : Value} {l : List Int}
theorem add_block (ad : Addr) (j : Nat) : (ad.add j).block = ad.block := by unfold Addr.add; split <;> rfl
theorem RN.u32 (h : RN a b w v l) : U32 l := h.1
theorem RN.below (h : RN a b w v l) (hb : Below w.heap.size w w') : RN a b w' v l := by
  obtain ⟨hu, A, c, hv, h1, h2, h3⟩ := h
  refine ⟨hu, A, c, hv, h1, h2, fun j hj => ?_⟩
  obtain ⟨ad, hA, hbl, hc⟩ := h3 j hj
  exact ⟨ad, hA, hbl, (hb.cell (World.block_lt_of_cell? w _ hc)).trans hc⟩
theorem RN.upd (h : RN a b w v l) (hu : Upd g w w') (ha : a ≤ g) (hg : g < b) : RN a b w' v l := by
  obtain ⟨hu', A, c, hv, h1, h2, h3⟩ := h
  refine ⟨hu', A, c, hv, h1, h2, fun j hj => ?_⟩
  obtain ⟨ad, hA, hbl, hc⟩ := h3 j hj
  refine ⟨ad, hA, hbl, ?_⟩
  rw [World.cell?_of_block (hu.block _ (by rw [add_block]; omega)), hc]
theorem RN.weak (h : RN a b w v l) (ha : a ≤ a') (hb : b' ≤ b) : RN a' b' w v l := by
  obtain ⟨hu, A, c, hv, h1, h2, h3⟩ := h
  refine ⟨hu, A, c, hv, h1, h2, fun j hj => ?_⟩
  obtain ⟨ad, hA, hbl, hc⟩ := h3 j hj
  exact ⟨ad, hA, by omega, hc⟩
theorem RN.any (h : RN a b w v l) : RN 0 0 w v l := by
  obtain ⟨hu, A, c, hv, h1, h2, h3⟩ := h
  refine ⟨hu, A, c, hv, h1, h2, fun j hj => ?_⟩
  obtain ⟨ad, hA, hbl, hc⟩ := h3 j hj
  exact ⟨ad, hA, by omega, hc⟩
theorem RN.new (h : RN a b w v l) (hs : w.heap.size ≤ a') : RN a' b' w v l := by
  obtain ⟨hu, A, c, hv, h1, h2, h3⟩ := h
  refine ⟨hu, A, c, hv, h1, h2, fun j hj => ?_⟩
  obtain ⟨ad, hA, hbl, hc⟩ := h3 j hj
  have := World.block_lt_of_cell? w _ hc
  rw [add_block] at this
  exact ⟨ad, hA, by omega, hc⟩
theorem RN.nil (a b : Nat) (w : World) : RN a b w (.slice none 0 0) [] := ⟨U32.nil, none, 0, rfl, Nat.le_refl _, by omega, fun j hj => absurd hj (by simp)⟩
theorem RN.nilA (a b : Nat) (w : World) (A : Option Addr) : RN a b w (.slice A 0 0) [] := ⟨U32.nil, A, 0, rfl, Nat.le_refl _, by omega, fun j hj => absurd hj (by simp)⟩
theorem RN.len (h : RN a b w v l) : SlLen v l.length := by
  obtain ⟨hu, A, c, hv, _⟩ := h
  exact ⟨A, c, hv⟩
theorem RN.at (h : RN a b w v l) (j : Nat) (hj : j < l.length) : ∃ ad, SlAt v l.length 1 j ad ∧ w.cell? ad = some (.int .u32 (l.getD j 0)) := by
  obtain ⟨hu, A, c, hv, h1, h2, h3⟩ := h
  obtain ⟨ad, rfl, hbl, hc⟩ := h3 j hj
  exact ⟨ad.add j, ⟨ad, c, hv, hj, by simp⟩, hc⟩
theorem RN.maxl (h : RN a b w v l) : l.length ≤ 9223372036854775807 := by
  obtain ⟨hu, A, c, hv, h1, h2, h3⟩ := h
  omega
theorem RN.form (h : RN a b w v l) : ∃ A c, v = .slice A l.length c ∧ l.length ≤ c ∧ c ≤ 9223372036854775807 := by
  obtain ⟨hu, A, c, hv, h1, h2, h3⟩ := h
  exact ⟨A, c, hv, h1, h2⟩
theorem RN.fine (h : RN a b w v l) : RN a b w (if okL l then v else .slice none 0 0) (fineL l) := by
  unfold fineL
  split
  · exact h
  · exact RN.nil _ _ _
end
theorem int_eq {k : IntKind} {a b : Int} (h : a = b) : Value.int k a = Value.int k b := by rw [h]
theorem wrap_u64 {x : Int} (h0 : 0 ≤ x) (h1 : x < 18446744073709551616) : IntKind.u64.wrap x = x := by
  simp [IntKind.wrap, IntKind.bits, IntKind.signed]; omega
theorem wrap_u32 {x : Int} (h0 : 0 ≤ x) (h1 : x < 4294967296) : IntKind.u32.wrap x = x := by
  simp [IntKind.wrap, IntKind.bits, IntKind.signed]; omega
theorem wrap_u32' (x : Int) : IntKind.u32.wrap x = x % 4294967296 := by
  simp [IntKind.wrap, IntKind.bits, IntKind.signed]
theorem wrap_u64' (x : Int) : IntKind.u64.wrap x = x % 18446744073709551616 := by
  simp [IntKind.wrap, IntKind.bits, IntKind.signed]

/-- A slice whose whole block is the call's own: it lies from block B on; or it has no room. -/
def Own (B sz : Nat) (e : TypeId) (w : World) (v : Value) : Prop :=
  (∃ A, v = .slice A 0 0) ∨ ∃ g m c cs, v = .slice (some ⟨g, 0, none⟩) m c ∧ B ≤ g ∧ Blk w g cs e ∧ m ≤ c ∧ c * sz ≤ cs.length ∧ c ≤ 9223372036854775807
theorem Own.below {B sz : Nat} {e : TypeId} {w w' : World} {v : Value} (h : Own B sz e w v) (hb : Below w.heap.size w w') : Own B sz e w' v := by
  rcases h with h | ⟨g, m, c, cs, h1, h2, h3, h4⟩
  · exact .inl h
  · exact .inr ⟨g, m, c, cs, h1, h2, h3.below hb, h4⟩
theorem Own.upd {B sz g : Nat} {e : TypeId} {w w' : World} {v : Value} (h : Own B sz e w v) (hu : Upd g w w') (hg : g < B) : Own B sz e w' v := by
  rcases h with h | ⟨g, m, c, cs, h1, h2, h3, h4⟩
  · exact .inl h
  · exact .inr ⟨g, m, c, cs, h1, h2, h3.upd hu (by omega), h4⟩
theorem Own.mono {B B' sz : Nat} {e : TypeId} {w : World} {v : Value} (h : Own B sz e w v) (hB : B' ≤ B) : Own B' sz e w v := by
  rcases h with h | ⟨g, m, c, cs, h1, h2, h3, h4⟩
  · exact .inl h
  · exact .inr ⟨g, m, c, cs, h1, by omega, h3, h4⟩

def nums (k : IntKind) (l : List Int) : List Value := l.map (Value.int k)
theorem nums_len (k : IntKind) (l : List Int) : (nums k l).length = l.length := by simp [nums]
theorem nums_get (k : IntKind) (l : List Int) (j : Nat) (hj : j < l.length) : (nums k l)[j]? = some (.int k (l.getD j 0)) := by
  simp [nums, hj]
theorem nums_set (k : IntKind) (l : List Int) (j : Nat) (x : Int) : (nums k l).set j (.int k x) = nums k (l.set j x) := by
  simp [nums]
theorem nums_rep (k : IntKind) (m : Nat) (x : Int) : List.replicate m (.int k x) = nums k (List.replicate m x) := by simp [nums]

theorem Blk.num {w : World} {g : Nat} {k : IntKind} {l : List Int} {t : TypeId} (hb : Blk w g (nums k l) t) {j : Nat} (hj : j < l.length) : w.cell? ⟨g, j, none⟩ = some (.int k (l.getD j 0)) :=
  (hb.cell j).trans (nums_get k l j hj)
section
variable {P : Program} {n : NF} {ops : Array Oper} {K : (Nat → Value) → World → Prop} {σ : Nat → Value} {w : World} {i : Nat} {rest : List Nat}
variable {d : Nat} {t : TypeId} {p : String} {af : Array Edge} {gd : Option (Nat × Bool)} {x y : Operand}
/-- One number stored into a row of the call's own. -/
theorem S_storeN {T : TypeId} {by_ : Nat} {z : Value} (hT : TI P T 1 by_ z false)
    (ho : ops[i]? = some { dst := none, op := .store T x y, type := t, pos := p, after := af, guard := gd }) (hw : wg n ops σ gd = true) (hx : tok n x = true) (hy : tok n y = true)
    {g o : Nat} (ha : sv σ x = .pointer (some ⟨g, o, none⟩)) {k : IntKind} {a : Int} (hv : sv σ y = .int k a) {l : List Int} {t' : TypeId} (hb : Blk w g (nums k l) t') (hfit : o < l.length)
    (h : ∀ w1, Upd g w w1 → Blk w1 g (nums k (l.set o a)) t' → OPS P n ops K rest σ w1) : OPS P n ops K (i :: rest) σ w := by
  refine S_store hT ho hw hx hy ha hv (vs := [.int k a]) rfl rfl (by simp [Value.oneCell']) hb (by rw [nums_len]; simp; omega) rfl ?_
  intro w1 h1 h2
  refine h w1 h1 ?_
  have e : putAt (nums k l) o [.int k a] = nums k (l.set o a) := by
    rw [← nums_set, List.set_eq_take_append_cons_drop, if_pos (by rw [nums_len]; exact hfit)]
    simp [putAt]
  rwa [e] at h2
theorem S_shr {T T' : TypeId} (ho : ops[i]? = some { dst := some d, op := .binOp .shr T x y T', type := t, pos := p, after := af, guard := gd }) (hw : wg n ops σ gd = true)
    (hx : tok n x = true) (hy : tok n y = true) {k yk : IntKind} {a b : Int} (ha : sv σ x = .int k a) (hb : sv σ y = .int yk b) (h0 : 0 ≤ b) {v : Int} (hv : a.fdiv (2 ^ (min b.toNat k.bits)) = v)
    (h : OPS P n ops K rest (upd σ d (.int k v)) w) : OPS P n ops K (i :: rest) σ w := by
  subst hv
  refine OPS.step ho hw rfl ?_ h
  have h0' : ¬ b < 0 := by omega
  simp [execOp, eval_act hx, eval_act hy, ha, hb, eqGuard, binOp, Op.shift, h0']
theorem S_shl {T T' : TypeId} (ho : ops[i]? = some { dst := some d, op := .binOp .shl T x y T', type := t, pos := p, after := af, guard := gd }) (hw : wg n ops σ gd = true)
    (hx : tok n x = true) (hy : tok n y = true) {k yk : IntKind} {a b : Int} (ha : sv σ x = .int k a) (hb : sv σ y = .int yk b) (h0 : 0 ≤ b) {v : Int} (hv : k.wrap (a * 2 ^ (min b.toNat k.bits)) = v)
    (h : OPS P n ops K rest (upd σ d (.int k v)) w) : OPS P n ops K (i :: rest) σ w := by
  subst hv
  refine OPS.step ho hw rfl ?_ h
  have h0' : ¬ b < 0 := by omega
  simp [execOp, eval_act hx, eval_act hy, ha, hb, eqGuard, binOp, Op.shift, h0']
theorem S_quo {T T' : TypeId} (ho : ops[i]? = some { dst := some d, op := .binOp .quo T x y T', type := t, pos := p, after := af, guard := gd }) (hw : wg n ops σ gd = true)
    (hx : tok n x = true) (hy : tok n y = true) {k : IntKind} {a b : Int} (ha : sv σ x = .int k a) (hb : sv σ y = .int k b) (h0 : b ≠ 0) {v : Int} (hv : k.wrap (a.tdiv b) = v)
    (h : OPS P n ops K rest (upd σ d (.int k v)) w) : OPS P n ops K (i :: rest) σ w := by
  subst hv
  refine OPS.step ho hw rfl ?_ h
  simp [execOp, eval_act hx, eval_act hy, ha, hb, eqGuard, binOp, Op.intDiv, h0]
theorem S_rem {T T' : TypeId} (ho : ops[i]? = some { dst := some d, op := .binOp .rem T x y T', type := t, pos := p, after := af, guard := gd }) (hw : wg n ops σ gd = true)
    (hx : tok n x = true) (hy : tok n y = true) {k : IntKind} {a b : Int} (ha : sv σ x = .int k a) (hb : sv σ y = .int k b) (h0 : b ≠ 0) {v : Int} (hv : a.tmod b = v)
    (h : OPS P n ops K rest (upd σ d (.int k v)) w) : OPS P n ops K (i :: rest) σ w := by
  subst hv
  refine OPS.step ho hw rfl ?_ h
  simp [execOp, eval_act hx, eval_act hy, ha, hb, eqGuard, binOp, Op.intDiv, h0]
/-- Bits of two numbers. -/
def bitV : BinOp → IntKind → Int → Int → Int
  | .and, k, a, b => k.wrap (BitVec.ofInt k.bits a &&& BitVec.ofInt k.bits b).toNat
  | .or, k, a, b => k.wrap (BitVec.ofInt k.bits a ||| BitVec.ofInt k.bits b).toNat
  | .xor, k, a, b => k.wrap (BitVec.ofInt k.bits a ^^^ BitVec.ofInt k.bits b).toNat
  | _, _, _, _ => 0
theorem S_bits {T T' : TypeId} {op : BinOp} (ho : ops[i]? = some { dst := some d, op := .binOp op T x y T', type := t, pos := p, after := af, guard := gd }) (hw : wg n ops σ gd = true)
    (hx : tok n x = true) (hy : tok n y = true) (hop : op = .and ∨ op = .or ∨ op = .xor) {k : IntKind} {a b : Int} (ha : sv σ x = .int k a) (hb : sv σ y = .int k b) {v : Int} (hv : bitV op k a b = v)
    (h : OPS P n ops K rest (upd σ d (.int k v)) w) : OPS P n ops K (i :: rest) σ w := by
  subst hv
  refine OPS.step ho hw rfl ?_ h
  rcases hop with rfl | rfl | rfl <;> simp [execOp, eval_act hx, eval_act hy, ha, hb, eqGuard, binOp, Op.intBits, bitV]
theorem S_xor {T : TypeId} (ho : ops[i]? = some { dst := some d, op := .unOp .xor T x, type := t, pos := p, after := af, guard := gd }) (hw : wg n ops σ gd = true)
    (hx : tok n x = true) {k : IntKind} {a : Int} (ha : sv σ x = .int k a) {v : Int} (hv : bitV .xor k (if k.signed then -1 else k.max) a = v)
    (h : OPS P n ops K rest (upd σ d (.int k v)) w) : OPS P n ops K (i :: rest) σ w := by
  subst hv
  refine OPS.step ho hw rfl ?_ h
  simp [execOp, eval_act hx, ha, Op.unary, Op.intBits, bitV]
theorem S_max {ats : Array TypeId} (ho : ops[i]? = some { dst := some d, op := .call { callee := .builtin .max, args := #[x, y], argTypes := ats }, type := t, pos := p, after := af, guard := gd })
    (hw : wg n ops σ gd = true) (hx : tok n x = true) (hy : tok n y = true) {k : IntKind} {a b : Int} (ha : sv σ x = .int k a) (hb : sv σ y = .int k b) {v : Int} (hv : max a b = v) (h : OPS P n ops K rest (upd σ d (.int k v)) w) : OPS P n ops K (i :: rest) σ w := by
  subst hv
  refine OPS.step ho hw rfl ?_ h
  simp [execOp, resolve, invoke, builtin, Builtin.max_, Builtin.max2, eval_act hx, eval_act hy, ha, hb]
  omega
theorem S_min {ats : Array TypeId} (ho : ops[i]? = some { dst := some d, op := .call { callee := .builtin .min, args := #[x, y], argTypes := ats }, type := t, pos := p, after := af, guard := gd })
    (hw : wg n ops σ gd = true) (hx : tok n x = true) (hy : tok n y = true) {k : IntKind} {a b : Int} (ha : sv σ x = .int k a) (hb : sv σ y = .int k b) {v : Int} (hv : min a b = v) (h : OPS P n ops K rest (upd σ d (.int k v)) w) : OPS P n ops K (i :: rest) σ w := by
  subst hv
  refine OPS.step ho hw rfl ?_ h
  simp [execOp, resolve, invoke, builtin, Builtin.min_, Builtin.min2, eval_act hx, eval_act hy, ha, hb]
  omega
end

/-- A slice of parts of the call's own. -/
def ON (B : Nat) (w : World) (v : Value) (l : List Int) : Prop := RN 0 B w v l ∧ Own B 1 106 w v
theorem ON.below {B : Nat} {w w' : World} {v : Value} {l : List Int} (h : ON B w v l) (hb : Below w.heap.size w w') : ON B w' v l := ⟨h.1.below hb, h.2.below hb⟩
theorem ON.upd {B g : Nat} {w w' : World} {v : Value} {l : List Int} (h : ON B w v l) (hu : Upd g w w') (_ : 0 ≤ g) (hg : g < B) : ON B w' v l := ⟨h.1.upd hu (Nat.zero_le _) hg, h.2.upd hu hg⟩
theorem ON.mono {B B' : Nat} {w : World} {v : Value} {l : List Int} (h : ON B w v l) (hB : B' ≤ B) : ON B' w v l := ⟨h.1.weak (Nat.le_refl _) hB, h.2.mono hB⟩
theorem ON.r {B : Nat} {w : World} {v : Value} {l : List Int} (h : ON B w v l) : RN 0 B w v l := h.1
theorem ON.nil (B : Nat) (w : World) : ON B w (.slice none 0 0) [] := ⟨RN.nil _ _ _, .inl ⟨none, rfl⟩⟩
/-- The first k of a row of the call's own. -/
theorem ON.mk {B g k c : Nat} {w : World} {l : List Int} {cs : List Value} (hb : Blk w g cs 106) (hl : U32 l) (hB : B ≤ g) (hk : l.length = k) (hkc : k ≤ c) (hc : c ≤ cs.length) (hm : c ≤ 9223372036854775807)
    (hcs : ∀ j, j < k → cs[j]? = some (.int .u32 (l.getD j 0))) : ON B w (.slice (some ⟨g, 0, none⟩) k c) l := by
  subst hk
  refine ⟨⟨hl, _, c, rfl, hkc, hm, fun j hj => ⟨⟨g, 0, none⟩, rfl, .inr hB, ?_⟩⟩, .inr ⟨g, _, c, cs, rfl, hB, hb, hkc, by omega, hm⟩⟩
  rw [add_plain, hb.cell, Nat.zero_add, hcs j hj]
theorem ON.mkNums {B g k : Nat} {w : World} {l : List Int} (hb : Blk w g (nums .u32 l) 106) (hl : U32 l) (hB : B ≤ g) (hk : k ≤ l.length) (hm : l.length ≤ 9223372036854775807) : ON B w (.slice (some ⟨g, 0, none⟩) k k) (l.take k) := by
  refine ON.mk hb (hl.take k) hB (by simp; omega) (Nat.le_refl _) (by rw [nums_len]; exact hk) (by omega) (fun j hj => ?_)
  rw [nums_get _ _ _ (by omega)]
  simp [List.getD_eq_getElem?_getD, List.getElem?_take_of_lt hj]
end Go.Proofs.YtccmicegihlfbaaGreatDoor
