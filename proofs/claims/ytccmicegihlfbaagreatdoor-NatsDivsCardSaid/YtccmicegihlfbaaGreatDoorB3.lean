/- Bits of numbers of 32. -/
import Derived.Test.YtccmicegihlfbaaGreatDoorDraw
import Derived.Test.YtccmicegihlfbaaGreatDoorTy
set_option linter.unusedVariables false
set_option linter.unusedSimpArgs false
namespace Go.Proofs.YtccmicegihlfbaaGreatDoor
open Go.RowKit


section
variable {P : Program} {n : NF} {ops : Array Oper} {K : (Nat → Value) → World → Prop} {σ : Nat → Value} {w : World} {i : Nat} {rest : List Nat}
variable {d : Nat} {t : TypeId} {p : String} {af : Array Edge} {gd : Option (Nat × Bool)} {x y : Operand}
theorem S_neg {T : TypeId} (ho : ops[i]? = some { dst := some d, op := .unOp .neg T x, type := t, pos := p, after := af, guard := gd }) (hw : wg n ops σ gd = true)
    (hx : tok n x = true) {k : IntKind} {a : Int} (ha : sv σ x = .int k a) {v : Int} (hv : k.wrap (0 - a) = v)
    (h : OPS P n ops K rest (upd σ d (.int k v)) w) : OPS P n ops K (i :: rest) σ w := by
  subst hv
  refine OPS.step ho hw rfl ?_ h
  simp [execOp, eval_act hx, ha, Op.unary, Op.intArith]
/-- The place of a number in an array variable. -/
theorem S_idxArr {T e : TypeId} {m sz by_ : Nat} {z : Value} {ag : Bool} (hT : P.underlying T = some (.array m e)) (he : TI P e sz by_ z ag)
    (ho : ops[i]? = some { dst := some d, op := .indexAddr T x y, type := t, pos := p, after := af, guard := gd }) (hw : wg n ops σ gd = true) (hx : tok n x = true) (hy : tok n y = true)
    {g o : Nat} (ha : sv σ x = .pointer (some ⟨g, o, none⟩)) {k : IntKind} {iz : Int} (hi : sv σ y = .int k iz) {j : Nat} (hj : iz = (j : Int)) (hlt : j < m)
    (h : OPS P n ops K rest (upd σ d (.pointer (some ⟨g, o + j * sz, none⟩))) w) : OPS P n ops K (i :: rest) σ w := by
  obtain ⟨i0, hi0, hs, _⟩ := he.info
  subst hj
  refine OPS.step ho hw rfl ?_ h
  simp [execOp, eval_act hx, eval_act hy, ha, hi, Instr.indexAt, asIntOf, underlying, hT, hlt, sizeOf, typeInfo, hi0, hs, Instr.sureAddr, add_plain]
theorem S_strIdx {T : TypeId} (hT : P.underlying T = some .string)
    (ho : ops[i]? = some { dst := some d, op := .index T x y, type := t, pos := p, after := af, guard := gd }) (hw : wg n ops σ gd = true) (hx : tok n x = true) (hy : tok n y = true)
    {s : ByteArray} (ha : sv σ x = .string s) {k : IntKind} {j : Nat} (hi : sv σ y = .int k (j : Int)) {b : Nat → Nat} (hall : ∀ j, j < 256 → (s[j]?).map (·.toNat) = some (b j)) (hj : j < 256)
    (h : OPS P n ops K rest (upd σ d (.int .u8 (b j : Int))) w) : OPS P n ops K (i :: rest) σ w := by
  obtain ⟨c, hc, hcb⟩ := Option.map_eq_some_iff.1 (hall j hj)
  rw [← hcb] at h
  refine OPS.step ho hw rfl ?_ h
  simp [execOp, eval_act hx, eval_act hy, ha, hi, Instr.index, asIntOf, underlying, hT, hc]
end

/-! ### Bits of two numbers of 32 -/
theorem wrap_nat {z : Nat} (h : z < 4294967296) : IntKind.u32.wrap (z : Int) = (z : Int) := wrap_u32 (by omega) (by omega)
theorem toNat_ofInt32 {x : Int} (h0 : 0 ≤ x) (h1 : x < 4294967296) : (BitVec.ofInt 32 x).toNat = x.toNat := by
  simp [BitVec.toNat_ofInt]; omega
theorem bit_and {x y : Int} (hx : 0 ≤ x ∧ x < 4294967296) (hy : 0 ≤ y ∧ y < 4294967296) : bitV .and .u32 x y = ((x.toNat &&& y.toNat : Nat) : Int) := by
  have := Nat.and_le_left (n := x.toNat) (m := y.toNat)
  show IntKind.u32.wrap (((BitVec.ofInt 32 x &&& BitVec.ofInt 32 y).toNat : Nat) : Int) = _
  rw [BitVec.toNat_and, toNat_ofInt32 hx.1 hx.2, toNat_ofInt32 hy.1 hy.2]
  exact wrap_nat (by omega)
theorem wrap_i64 {x : Int} (h0 : 0 ≤ x) (h1 : x < 9223372036854775808) : IntKind.i64.wrap x = x := by
  simp [IntKind.wrap, IntKind.bits, IntKind.signed]; omega
theorem lt32 {x : Int} (hx : 0 ≤ x ∧ x < 4294967296) : x.toNat < 2 ^ 32 := by omega
theorem bit_or {x y : Int} (hx : 0 ≤ x ∧ x < 4294967296) (hy : 0 ≤ y ∧ y < 4294967296) : bitV .or .u32 x y = ((x.toNat ||| y.toNat : Nat) : Int) := by
  have := Nat.or_lt_two_pow (lt32 hx) (lt32 hy)
  show IntKind.u32.wrap (((BitVec.ofInt 32 x ||| BitVec.ofInt 32 y).toNat : Nat) : Int) = _
  rw [BitVec.toNat_or, toNat_ofInt32 hx.1 hx.2, toNat_ofInt32 hy.1 hy.2]
  exact wrap_nat (by omega)
theorem bit_xor {x y : Int} (hx : 0 ≤ x ∧ x < 4294967296) (hy : 0 ≤ y ∧ y < 4294967296) : bitV .xor .u32 x y = ((x.toNat ^^^ y.toNat : Nat) : Int) := by
  have := Nat.xor_lt_two_pow (lt32 hx) (lt32 hy)
  show IntKind.u32.wrap (((BitVec.ofInt 32 x ^^^ BitVec.ofInt 32 y).toNat : Nat) : Int) = _
  rw [BitVec.toNat_xor, toNat_ofInt32 hx.1 hx.2, toNat_ofInt32 hy.1 hy.2]
  exact wrap_nat (by omega)
theorem bit_not {x : Int} (hx : 0 ≤ x ∧ x < 4294967296) : bitV .xor .u32 (if IntKind.u32.signed then -1 else IntKind.u32.max) x = ((4294967295 ^^^ x.toNat : Nat) : Int) := by
  rw [show (if IntKind.u32.signed then -1 else IntKind.u32.max) = (4294967295 : Int) from rfl]
  exact bit_xor (by decide) hx
theorem top_bit {z : Nat} (h : z < 2 ^ 32) : z / 2147483648 = if z.testBit 31 then 1 else 0 := by
  rw [Nat.testBit_eq_decide_div_mod_eq]
  simp only [decide_eq_true_eq]
  split <;> omega
theorem borrow (x y c : Nat) (hx : x < 4294967296) (hy : y < 4294967296) (hc : c ≤ 1) (d : Nat) (hd : (d : Int) = ((x : Int) - y - c) % 4294967296) :
    ((((4294967295 ^^^ x) &&& y) ||| ((4294967295 ^^^ (x ^^^ y)) &&& d)) / 2147483648) = if x < y + c then 1 else 0 := by
  have hdl : d < 4294967296 := by omega
  have h1 : (4294967295 ^^^ x) &&& y < 2 ^ 32 := Nat.lt_of_le_of_lt Nat.and_le_right (by omega)
  have h2 : (4294967295 ^^^ (x ^^^ y)) &&& d < 2 ^ 32 := Nat.lt_of_le_of_lt Nat.and_le_right (by omega)
  rw [top_bit (Nat.or_lt_two_pow h1 h2)]
  simp only [Nat.testBit_or, Nat.testBit_and, Nat.testBit_xor]
  rw [show Nat.testBit 4294967295 31 = true by decide]
  simp only [Nat.testBit_eq_decide_div_mod_eq]
  by_cases a : x / 2 ^ 31 % 2 = 1 <;> by_cases b : y / 2 ^ 31 % 2 = 1 <;> by_cases e : d / 2 ^ 31 % 2 = 1 <;> simp [a, b, e] <;> omega


theorem rng {z : Nat} (h : z < 2 ^ 32) : 0 ≤ (z : Int) ∧ (z : Int) < 4294967296 := by omega
theorem sub32_bits {x y c : Int} (hx : 0 ≤ x ∧ x < 4294967296) (hy : 0 ≤ y ∧ y < 4294967296) (hc : 0 ≤ c ∧ c ≤ 1) :
    bitV .and .u32 ((4294967295 ^^^ x.toNat : Nat) : Int) y = (((4294967295 ^^^ x.toNat) &&& y.toNat : Nat) : Int) ∧ bitV .xor .u32 x y = ((x.toNat ^^^ y.toNat : Nat) : Int) ∧ bitV .xor .u32 (if IntKind.u32.signed then -1 else IntKind.u32.max) ((x.toNat ^^^ y.toNat : Nat) : Int) = ((4294967295 ^^^ (x.toNat ^^^ y.toNat) : Nat) : Int) ∧ bitV .and .u32 ((4294967295 ^^^ (x.toNat ^^^ y.toNat) : Nat) : Int) ((x - y - c) % 4294967296) = (((4294967295 ^^^ (x.toNat ^^^ y.toNat)) &&& ((x - y - c) % 4294967296).toNat : Nat) : Int) ∧ bitV .or .u32 (((4294967295 ^^^ x.toNat) &&& y.toNat : Nat) : Int) (((4294967295 ^^^ (x.toNat ^^^ y.toNat)) &&& ((x - y - c) % 4294967296).toNat : Nat) : Int) = ((((4294967295 ^^^ x.toNat) &&& y.toNat) ||| ((4294967295 ^^^ (x.toNat ^^^ y.toNat)) &&& ((x - y - c) % 4294967296).toNat) : Nat) : Int) ∧
      ((((4294967295 ^^^ x.toNat) &&& y.toNat) ||| ((4294967295 ^^^ (x.toNat ^^^ y.toNat)) &&& ((x - y - c) % 4294967296).toNat) : Nat) : Int).fdiv (2 ^ (min (31 : Int).toNat IntKind.u32.bits)) = (if x < y + c then 1 else 0) := by
  have h1 : 4294967295 ^^^ x.toNat < 2 ^ 32 := Nat.xor_lt_two_pow (by decide) (lt32 hx)
  have h2 : x.toNat ^^^ y.toNat < 2 ^ 32 := Nat.xor_lt_two_pow (lt32 hx) (lt32 hy)
  have h3 : 4294967295 ^^^ (x.toNat ^^^ y.toNat) < 2 ^ 32 := Nat.xor_lt_two_pow (by decide) h2
  have h4 : (4294967295 ^^^ x.toNat) &&& y.toNat < 2 ^ 32 := Nat.lt_of_le_of_lt Nat.and_le_right (lt32 hy)
  have hd : 0 ≤ (x - y - c) % 4294967296 ∧ (x - y - c) % 4294967296 < 4294967296 := by omega
  have h5 : (4294967295 ^^^ (x.toNat ^^^ y.toNat)) &&& ((x - y - c) % 4294967296).toNat < 2 ^ 32 := Nat.lt_of_le_of_lt Nat.and_le_right (lt32 hd)
  refine ⟨?_, ?_, ?_, ?_, ?_, ?_⟩
  · rw [bit_and (rng h1) hy]; rfl
  · rw [bit_xor hx hy]
  · rw [bit_not (rng h2)]; rfl
  · rw [bit_and (rng h3) hd]; rfl
  · rw [bit_or (rng h4) (rng h5)]; rfl
  · have := borrow x.toNat y.toNat c.toNat (by omega) (by omega) (by omega) ((x - y - c) % 4294967296).toNat (by omega)
    rw [Int.fdiv_eq_ediv_of_nonneg _ (by decide)]
    show _ / (2147483648 : Int) = _
    have e : (2147483648 : Int) = ((2147483648 : Nat) : Int) := rfl
    rw [e, ← Int.natCast_ediv, this]
    by_cases h : x < y + c
    · rw [if_pos h, if_pos (by omega)]; rfl
    · rw [if_neg h, if_neg (by omega)]; rfl

set_option maxHeartbeats 400000 in
theorem sub32_c (w0 : World) (x y c : Int) (hx : 0 ≤ x ∧ x < 4294967296) (hy : 0 ≤ y ∧ y < 4294967296) (hc : 0 ≤ c ∧ c ≤ 1) :
    Ret Tryz.prog 243 [.int .u32 x, .int .u32 y, .int .u32 c] w0 (fun r w1 => r = .tuple #[.int .u32 ((x - y - c) % 4294967296), .int .u32 (if x < y + c then 1 else 0)] ∧ w0 = w1) := by
  obtain ⟨e1, e2, e3, e4, e5, e6⟩ := sub32_bits hx hy hc
  refine Ret_of (n := 25) Tryz.func243 rfl rfl (Nat.le_of_ble_eq_true rfl) ?_
  refine W_seq ?_
  refine W_region rfl ?_
  refine S_assign rfl rfl rfl (v := (.int .u32 0)) (rfl) ?_
  refine S_assign rfl rfl rfl (v := (.int .u32 0)) (rfl) ?_
  refine OPS.nil ?_
  change WP _ _ _ _ _ _
  refine W_seq ?_
  refine W_region rfl ?_
  refine S_move rfl rfl rfl (v := .int .u32 x) (rfl) ?_
  refine S_move rfl rfl rfl (v := .int .u32 y) (rfl) ?_
  refine S_bin rfl rfl rfl rfl rfl (rfl) (rfl) rfl ?_
  refine S_move rfl rfl rfl (v := .int .u32 c) (rfl) ?_
  refine S_bin rfl rfl rfl rfl rfl (rfl) (rfl) (v := .int .u32 ((x - y - c) % 4294967296)) (by simp only [binV]; congr 1; rw [wrap_u32', wrap_u32']; omega) ?_
  refine S_assign rfl rfl rfl (v := (.int .u32 ((x - y - c) % 4294967296))) (rfl) ?_
  refine OPS.nil ?_
  change WP _ _ _ _ _ _
  refine W_seq ?_
  refine W_region rfl ?_
  refine S_move rfl rfl rfl (v := .int .u32 x) (rfl) ?_
  refine S_xor rfl rfl rfl (rfl) (v := ((4294967295 ^^^ x.toNat : Nat) : Int)) (bit_not hx) ?_
  refine S_move rfl rfl rfl (v := .int .u32 y) (rfl) ?_
  refine S_bits rfl rfl rfl rfl (by simp) (rfl) (rfl) (v := (((4294967295 ^^^ x.toNat) &&& y.toNat : Nat) : Int)) (e1) ?_
  refine S_move rfl rfl rfl (v := .int .u32 x) (rfl) ?_
  refine S_move rfl rfl rfl (v := .int .u32 y) (rfl) ?_
  refine S_bits rfl rfl rfl rfl (by simp) (rfl) (rfl) (v := ((x.toNat ^^^ y.toNat : Nat) : Int)) (e2) ?_
  refine S_xor rfl rfl rfl (rfl) (v := ((4294967295 ^^^ (x.toNat ^^^ y.toNat) : Nat) : Int)) (e3) ?_
  refine S_move rfl rfl rfl (v := (.int .u32 ((x - y - c) % 4294967296))) (rfl) ?_
  refine S_bits rfl rfl rfl rfl (by simp) (rfl) (rfl) (v := (((4294967295 ^^^ (x.toNat ^^^ y.toNat)) &&& ((x - y - c) % 4294967296).toNat : Nat) : Int)) (e4) ?_
  refine S_bits rfl rfl rfl rfl (by simp) (rfl) (rfl) (v := ((((4294967295 ^^^ x.toNat) &&& y.toNat) ||| ((4294967295 ^^^ (x.toNat ^^^ y.toNat)) &&& ((x - y - c) % 4294967296).toNat) : Nat) : Int)) (e5) ?_
  refine S_shr rfl rfl rfl rfl (rfl) (rfl) (by omega) (v := (if x < y + c then 1 else 0)) (e6) ?_
  refine S_assign rfl rfl rfl (v := (.int .u32 (if x < y + c then 1 else 0))) (rfl) ?_
  refine OPS.nil ?_
  change WP _ _ _ _ _ _
  refine W_ret ?_
  change Fin' _ _ _ _ _ _
  refine End2 (n := ⟨25, []⟩) (t := 6) (u := 7) rfl (by decide) (by decide) (rfl) (rfl) ?_
  exact ⟨rfl, rfl⟩


def len32 (x : Nat) : Nat := if x = 0 then 0 else Nat.log2 x + 1
theorem len32_spec {x : Nat} (h : x ≠ 0) : 2 ^ (len32 x - 1) ≤ x ∧ x < 2 ^ len32 x ∧ 0 < len32 x := by
  simp only [len32, if_neg h, Nat.add_sub_cancel]
  exact ⟨Nat.log2_self_le h, Nat.lt_log2_self, by omega⟩
theorem len32_div {x k : Nat} (h : 2 ^ k ≤ x) : len32 x = len32 (x / 2 ^ k) + k := by
  have hp : 0 < 2 ^ k := Nat.pow_pos (by decide)
  have h1 : x / 2 ^ k ≠ 0 := by have := Nat.div_pos h hp; omega
  have hx : x ≠ 0 := by omega
  obtain ⟨a1, a2, a3⟩ := len32_spec h1
  have b1 : 2 ^ (len32 (x / 2 ^ k) - 1 + k) ≤ x := by rw [Nat.pow_add]; exact Nat.le_trans (Nat.mul_le_mul_right _ a1) (Nat.div_mul_le_self _ _)
  have b2 : x < 2 ^ (len32 (x / 2 ^ k) + k) := by rw [Nat.pow_add]; exact (Nat.div_lt_iff_lt_mul hp).1 a2
  have : Nat.log2 x = len32 (x / 2 ^ k) - 1 + k := by
    refine (Nat.log2_eq_iff hx).2 ⟨b1, ?_⟩
    rwa [show len32 (x / 2 ^ k) - 1 + k + 1 = len32 (x / 2 ^ k) + k by omega]
  rw [show len32 x = Nat.log2 x + 1 by simp [len32, hx], this]
  omega
theorem len32_le {x : Nat} (h : x < 2 ^ 32) : len32 x ≤ 32 := by
  by_cases h0 : x = 0
  · simp [len32, h0]
  · have := (Nat.log2_lt h0).2 h
    simp [len32, h0]; omega

set_option maxHeartbeats 400000 in
theorem len32_c0 (w0 : World) (x : Int) (hx : 0 ≤ x ∧ x < 4294967296) (h1 : 65536 ≤ x) (h2 : 256 ≤ x / 65536) :
    Ret Tryz.prog 239 [.int .u32 x] w0 (fun r w1 => r = .int .i64 (len32 x.toNat : Nat) ∧ w0 = w1) := by
  refine Ret_of (n := 19) Tryz.func239 rfl rfl (Nat.le_of_ble_eq_true rfl) ?_
  refine W_seq ?_
  refine W_region rfl ?_
  refine S_assign rfl rfl rfl (v := (.int .i64 0)) (rfl) ?_
  refine OPS.nil ?_
  change WP _ _ _ _ _ _
  refine W_seq ?_
  refine W_seq ?_
  refine W_region rfl ?_
  refine S_move rfl rfl rfl (v := .int .u32 x) (rfl) ?_
  refine S_bin rfl rfl rfl rfl rfl (rfl) (rfl) (v := .bool true) (by simp [binV]; omega) ?_
  refine OPS.nil ?_
  change WP _ _ _ _ _ _
  refine W_cond rfl (b := true) (rfl) (fun _ => ?_) (fun h => (by cases h))
  refine W_seq ?_
  refine W_region rfl ?_
  refine S_move rfl rfl rfl (v := .int .u32 x) (rfl) ?_
  refine S_shr rfl rfl rfl rfl (rfl) (rfl) (by omega) (v := (x / 65536)) (by rw [Int.fdiv_eq_ediv_of_nonneg _ (by decide)]; rfl) ?_
  refine S_assign rfl rfl rfl (v := (.int .u32 (x / 65536))) (rfl) ?_
  refine OPS.nil ?_
  change WP _ _ _ _ _ _
  refine W_region rfl ?_
  refine S_assign rfl rfl rfl (v := (.int .i64 16)) (rfl) ?_
  refine OPS.nil ?_
  change WP _ _ _ _ _ _
  refine W_seq ?_
  refine W_seq ?_
  refine W_region rfl ?_
  refine S_move rfl rfl rfl (v := (.int .u32 (x / 65536))) (rfl) ?_
  refine S_bin rfl rfl rfl rfl rfl (rfl) (rfl) (v := .bool true) (by simp [binV]; omega) ?_
  refine OPS.nil ?_
  change WP _ _ _ _ _ _
  refine W_cond rfl (b := true) (rfl) (fun _ => ?_) (fun h => (by cases h))
  refine W_seq ?_
  refine W_region rfl ?_
  refine S_move rfl rfl rfl (v := (.int .u32 (x / 65536))) (rfl) ?_
  refine S_shr rfl rfl rfl rfl (rfl) (rfl) (by omega) (v := (x / 65536 / 256)) (by rw [Int.fdiv_eq_ediv_of_nonneg _ (by decide)]; rfl) ?_
  refine S_assign rfl rfl rfl (v := (.int .u32 (x / 65536 / 256))) (rfl) ?_
  refine OPS.nil ?_
  change WP _ _ _ _ _ _
  refine W_region rfl ?_
  refine S_move rfl rfl rfl (v := (.int .i64 16)) (rfl) ?_
  refine S_add64 rfl rfl rfl rfl (rfl) (rfl) (by omega) ?_
  refine S_assign rfl rfl rfl (v := (.int .i64 (16 + 8))) (rfl) ?_
  refine OPS.nil ?_
  change WP _ _ _ _ _ _
  refine W_seq ?_
  refine W_region rfl ?_
  have hl := len32_le (x := (x.toNat / 2 ^ 16 / 2 ^ 8)) (by omega)
  refine S_move rfl rfl rfl (v := (.int .i64 (16 + 8))) (rfl) ?_
  refine S_move rfl rfl rfl (v := (.int .u32 (x / 65536 / 256))) (rfl) ?_
  refine S_conv Tryz.underlying106 Tryz.underlying5 rfl rfl rfl (rfl) (b := (x / 65536 / 256)) (by simp [IntKind.wrap, IntKind.bits, IntKind.signed]; omega) ?_
  refine S_strIdx Tryz.underlying9 rfl rfl rfl rfl rfl (k := .u8) (j := (x.toNat / 2 ^ 16 / 2 ^ 8)) (int_eq (by omega)) (b := len32) (by decide +kernel) (by omega) ?_
  refine S_conv Tryz.underlying5 Tryz.underlying3 rfl rfl rfl (rfl) (b := ((len32 (x.toNat / 2 ^ 16 / 2 ^ 8) : Nat) : Int)) (wrap_i64 (by omega) (by omega)) ?_
  refine S_add64 rfl rfl rfl rfl (rfl) (rfl) (by omega) ?_
  refine S_assign rfl rfl rfl (v := (.int .i64 ((16 + 8) + ((len32 (x.toNat / 2 ^ 16 / 2 ^ 8) : Nat) : Int)))) (rfl) ?_
  refine OPS.nil ?_
  change WP _ _ _ _ _ _
  refine W_ret ?_
  change Fin' _ _ _ _ _ _
  refine End1 (n := ⟨19, []⟩) (t := 2) rfl (by decide) (v := (.int .i64 ((16 + 8) + ((len32 (x.toNat / 2 ^ 16 / 2 ^ 8) : Nat) : Int)))) (rfl) ?_
  exact ⟨int_eq (by rw [len32_div (x := x.toNat) (k := 16) (by omega), len32_div (x := x.toNat / 2 ^ 16) (k := 8) (by omega)]; omega), rfl⟩

set_option maxHeartbeats 400000 in
theorem len32_c1 (w0 : World) (x : Int) (hx : 0 ≤ x ∧ x < 4294967296) (h1 : 65536 ≤ x) (h2 : ¬ 256 ≤ x / 65536) :
    Ret Tryz.prog 239 [.int .u32 x] w0 (fun r w1 => r = .int .i64 (len32 x.toNat : Nat) ∧ w0 = w1) := by
  refine Ret_of (n := 19) Tryz.func239 rfl rfl (Nat.le_of_ble_eq_true rfl) ?_
  refine W_seq ?_
  refine W_region rfl ?_
  refine S_assign rfl rfl rfl (v := (.int .i64 0)) (rfl) ?_
  refine OPS.nil ?_
  change WP _ _ _ _ _ _
  refine W_seq ?_
  refine W_seq ?_
  refine W_region rfl ?_
  refine S_move rfl rfl rfl (v := .int .u32 x) (rfl) ?_
  refine S_bin rfl rfl rfl rfl rfl (rfl) (rfl) (v := .bool true) (by simp [binV]; omega) ?_
  refine OPS.nil ?_
  change WP _ _ _ _ _ _
  refine W_cond rfl (b := true) (rfl) (fun _ => ?_) (fun h => (by cases h))
  refine W_seq ?_
  refine W_region rfl ?_
  refine S_move rfl rfl rfl (v := .int .u32 x) (rfl) ?_
  refine S_shr rfl rfl rfl rfl (rfl) (rfl) (by omega) (v := (x / 65536)) (by rw [Int.fdiv_eq_ediv_of_nonneg _ (by decide)]; rfl) ?_
  refine S_assign rfl rfl rfl (v := (.int .u32 (x / 65536))) (rfl) ?_
  refine OPS.nil ?_
  change WP _ _ _ _ _ _
  refine W_region rfl ?_
  refine S_assign rfl rfl rfl (v := (.int .i64 16)) (rfl) ?_
  refine OPS.nil ?_
  change WP _ _ _ _ _ _
  refine W_seq ?_
  refine W_seq ?_
  refine W_region rfl ?_
  refine S_move rfl rfl rfl (v := (.int .u32 (x / 65536))) (rfl) ?_
  refine S_bin rfl rfl rfl rfl rfl (rfl) (rfl) (v := .bool false) (by simp [binV]; omega) ?_
  refine OPS.nil ?_
  change WP _ _ _ _ _ _
  refine W_cond rfl (b := false) (rfl) (fun h => (by cases h)) (fun _ => ?_)
  refine W_skip ?_
  change WP _ _ _ _ _ _
  refine W_seq ?_
  refine W_region rfl ?_
  have hl := len32_le (x := (x.toNat / 2 ^ 16)) (by omega)
  refine S_move rfl rfl rfl (v := (.int .i64 16)) (rfl) ?_
  refine S_move rfl rfl rfl (v := (.int .u32 (x / 65536))) (rfl) ?_
  refine S_conv Tryz.underlying106 Tryz.underlying5 rfl rfl rfl (rfl) (b := (x / 65536)) (by simp [IntKind.wrap, IntKind.bits, IntKind.signed]; omega) ?_
  refine S_strIdx Tryz.underlying9 rfl rfl rfl rfl rfl (k := .u8) (j := (x.toNat / 2 ^ 16)) (int_eq (by omega)) (b := len32) (by decide +kernel) (by omega) ?_
  refine S_conv Tryz.underlying5 Tryz.underlying3 rfl rfl rfl (rfl) (b := ((len32 (x.toNat / 2 ^ 16) : Nat) : Int)) (wrap_i64 (by omega) (by omega)) ?_
  refine S_add64 rfl rfl rfl rfl (rfl) (rfl) (by omega) ?_
  refine S_assign rfl rfl rfl (v := (.int .i64 (16 + ((len32 (x.toNat / 2 ^ 16) : Nat) : Int)))) (rfl) ?_
  refine OPS.nil ?_
  change WP _ _ _ _ _ _
  refine W_ret ?_
  change Fin' _ _ _ _ _ _
  refine End1 (n := ⟨19, []⟩) (t := 2) rfl (by decide) (v := (.int .i64 (16 + ((len32 (x.toNat / 2 ^ 16) : Nat) : Int)))) (rfl) ?_
  exact ⟨int_eq (by rw [len32_div (x := x.toNat) (k := 16) (by omega)]; omega), rfl⟩

set_option maxHeartbeats 400000 in
theorem len32_c2 (w0 : World) (x : Int) (hx : 0 ≤ x ∧ x < 4294967296) (h1 : ¬ 65536 ≤ x) (h2 : 256 ≤ x) :
    Ret Tryz.prog 239 [.int .u32 x] w0 (fun r w1 => r = .int .i64 (len32 x.toNat : Nat) ∧ w0 = w1) := by
  refine Ret_of (n := 19) Tryz.func239 rfl rfl (Nat.le_of_ble_eq_true rfl) ?_
  refine W_seq ?_
  refine W_region rfl ?_
  refine S_assign rfl rfl rfl (v := (.int .i64 0)) (rfl) ?_
  refine OPS.nil ?_
  change WP _ _ _ _ _ _
  refine W_seq ?_
  refine W_seq ?_
  refine W_region rfl ?_
  refine S_move rfl rfl rfl (v := .int .u32 x) (rfl) ?_
  refine S_bin rfl rfl rfl rfl rfl (rfl) (rfl) (v := .bool false) (by simp [binV]; omega) ?_
  refine OPS.nil ?_
  change WP _ _ _ _ _ _
  refine W_cond rfl (b := false) (rfl) (fun h => (by cases h)) (fun _ => ?_)
  refine W_skip ?_
  change WP _ _ _ _ _ _
  refine W_seq ?_
  refine W_seq ?_
  refine W_region rfl ?_
  refine S_move rfl rfl rfl (v := .int .u32 x) (rfl) ?_
  refine S_bin rfl rfl rfl rfl rfl (rfl) (rfl) (v := .bool true) (by simp [binV]; omega) ?_
  refine OPS.nil ?_
  change WP _ _ _ _ _ _
  refine W_cond rfl (b := true) (rfl) (fun _ => ?_) (fun h => (by cases h))
  refine W_seq ?_
  refine W_region rfl ?_
  refine S_move rfl rfl rfl (v := .int .u32 x) (rfl) ?_
  refine S_shr rfl rfl rfl rfl (rfl) (rfl) (by omega) (v := (x / 256)) (by rw [Int.fdiv_eq_ediv_of_nonneg _ (by decide)]; rfl) ?_
  refine S_assign rfl rfl rfl (v := (.int .u32 (x / 256))) (rfl) ?_
  refine OPS.nil ?_
  change WP _ _ _ _ _ _
  refine W_region rfl ?_
  refine S_move rfl rfl rfl (v := (.int .i64 0)) (rfl) ?_
  refine S_add64 rfl rfl rfl rfl (rfl) (rfl) (by omega) ?_
  refine S_assign rfl rfl rfl (v := (.int .i64 (0 + 8))) (rfl) ?_
  refine OPS.nil ?_
  change WP _ _ _ _ _ _
  refine W_seq ?_
  refine W_region rfl ?_
  have hl := len32_le (x := (x.toNat / 2 ^ 8)) (by omega)
  refine S_move rfl rfl rfl (v := (.int .i64 (0 + 8))) (rfl) ?_
  refine S_move rfl rfl rfl (v := (.int .u32 (x / 256))) (rfl) ?_
  refine S_conv Tryz.underlying106 Tryz.underlying5 rfl rfl rfl (rfl) (b := (x / 256)) (by simp [IntKind.wrap, IntKind.bits, IntKind.signed]; omega) ?_
  refine S_strIdx Tryz.underlying9 rfl rfl rfl rfl rfl (k := .u8) (j := (x.toNat / 2 ^ 8)) (int_eq (by omega)) (b := len32) (by decide +kernel) (by omega) ?_
  refine S_conv Tryz.underlying5 Tryz.underlying3 rfl rfl rfl (rfl) (b := ((len32 (x.toNat / 2 ^ 8) : Nat) : Int)) (wrap_i64 (by omega) (by omega)) ?_
  refine S_add64 rfl rfl rfl rfl (rfl) (rfl) (by omega) ?_
  refine S_assign rfl rfl rfl (v := (.int .i64 ((0 + 8) + ((len32 (x.toNat / 2 ^ 8) : Nat) : Int)))) (rfl) ?_
  refine OPS.nil ?_
  change WP _ _ _ _ _ _
  refine W_ret ?_
  change Fin' _ _ _ _ _ _
  refine End1 (n := ⟨19, []⟩) (t := 2) rfl (by decide) (v := (.int .i64 ((0 + 8) + ((len32 (x.toNat / 2 ^ 8) : Nat) : Int)))) (rfl) ?_
  exact ⟨int_eq (by rw [len32_div (x := x.toNat) (k := 8) (by omega)]; omega), rfl⟩

set_option maxHeartbeats 400000 in
theorem len32_c3 (w0 : World) (x : Int) (hx : 0 ≤ x ∧ x < 4294967296) (h1 : ¬ 65536 ≤ x) (h2 : ¬ 256 ≤ x) :
    Ret Tryz.prog 239 [.int .u32 x] w0 (fun r w1 => r = .int .i64 (len32 x.toNat : Nat) ∧ w0 = w1) := by
  refine Ret_of (n := 19) Tryz.func239 rfl rfl (Nat.le_of_ble_eq_true rfl) ?_
  refine W_seq ?_
  refine W_region rfl ?_
  refine S_assign rfl rfl rfl (v := (.int .i64 0)) (rfl) ?_
  refine OPS.nil ?_
  change WP _ _ _ _ _ _
  refine W_seq ?_
  refine W_seq ?_
  refine W_region rfl ?_
  refine S_move rfl rfl rfl (v := .int .u32 x) (rfl) ?_
  refine S_bin rfl rfl rfl rfl rfl (rfl) (rfl) (v := .bool false) (by simp [binV]; omega) ?_
  refine OPS.nil ?_
  change WP _ _ _ _ _ _
  refine W_cond rfl (b := false) (rfl) (fun h => (by cases h)) (fun _ => ?_)
  refine W_skip ?_
  change WP _ _ _ _ _ _
  refine W_seq ?_
  refine W_seq ?_
  refine W_region rfl ?_
  refine S_move rfl rfl rfl (v := .int .u32 x) (rfl) ?_
  refine S_bin rfl rfl rfl rfl rfl (rfl) (rfl) (v := .bool false) (by simp [binV]; omega) ?_
  refine OPS.nil ?_
  change WP _ _ _ _ _ _
  refine W_cond rfl (b := false) (rfl) (fun h => (by cases h)) (fun _ => ?_)
  refine W_skip ?_
  change WP _ _ _ _ _ _
  refine W_seq ?_
  refine W_region rfl ?_
  have hl := len32_le (x := x.toNat) (by omega)
  refine S_move rfl rfl rfl (v := (.int .i64 0)) (rfl) ?_
  refine S_move rfl rfl rfl (v := .int .u32 x) (rfl) ?_
  refine S_conv Tryz.underlying106 Tryz.underlying5 rfl rfl rfl (rfl) (b := x) (by simp [IntKind.wrap, IntKind.bits, IntKind.signed]; omega) ?_
  refine S_strIdx Tryz.underlying9 rfl rfl rfl rfl rfl (k := .u8) (j := x.toNat) (int_eq (by omega)) (b := len32) (by decide +kernel) (by omega) ?_
  refine S_conv Tryz.underlying5 Tryz.underlying3 rfl rfl rfl (rfl) (b := ((len32 x.toNat : Nat) : Int)) (wrap_i64 (by omega) (by omega)) ?_
  refine S_add64 rfl rfl rfl rfl (rfl) (rfl) (by omega) ?_
  refine S_assign rfl rfl rfl (v := (.int .i64 (0 + ((len32 x.toNat : Nat) : Int)))) (rfl) ?_
  refine OPS.nil ?_
  change WP _ _ _ _ _ _
  refine W_ret ?_
  change Fin' _ _ _ _ _ _
  refine End1 (n := ⟨19, []⟩) (t := 2) rfl (by decide) (v := (.int .i64 (0 + ((len32 x.toNat : Nat) : Int)))) (rfl) ?_
  exact ⟨int_eq (by omega), rfl⟩


theorem len32_c (w0 : World) (x : Int) (hx : 0 ≤ x ∧ x < 4294967296) : Ret Tryz.prog 239 [.int .u32 x] w0 (fun r w1 => r = .int .i64 (len32 x.toNat : Nat) ∧ w0 = w1) := by
  by_cases h1 : 65536 ≤ x
  · by_cases h2 : 256 ≤ x / 65536
    · exact len32_c0 w0 x hx h1 h2
    · exact len32_c1 w0 x hx h1 h2
  · by_cases h2 : 256 ≤ x
    · exact len32_c2 w0 x hx h1 h2
    · exact len32_c3 w0 x hx h1 h2

set_option maxHeartbeats 400000 in
theorem lz32_c (w0 : World) (x : Int) (hx : 0 ≤ x ∧ x < 4294967296) :
    Ret Tryz.prog 155 [.int .u32 x] w0 (fun r w1 => r = .int .i64 (32 - (len32 x.toNat : Nat) : Int) ∧ w0 = w1) := by
  have hl := len32_le (x := x.toNat) (by omega)
  refine Ret_of (n := 6) Tryz.func155 rfl rfl (Nat.le_of_ble_eq_true rfl) ?_
  refine W_seq ?_
  refine W_region rfl ?_
  refine S_assign rfl rfl rfl (v := (.int .i64 0)) (rfl) ?_
  refine OPS.nil ?_
  change WP _ _ _ _ _ _
  refine W_seq ?_
  refine W_region rfl ?_
  refine S_move rfl rfl rfl (v := .int .u32 x) (rfl) ?_
  refine S_call en_math_bits_Len32 rfl rfl rfl (vs := [.int .u32 x]) (rfl) (len32_c w0 x hx) ?_
  rintro _ _ ⟨rfl, rfl⟩
  refine S_sub64 rfl rfl rfl rfl (rfl) (rfl) (by omega) ?_
  refine S_assign rfl rfl rfl (v := (.int .i64 (32 - ((len32 x.toNat : Nat) : Int)))) (rfl) ?_
  refine OPS.nil ?_
  change WP _ _ _ _ _ _
  refine W_ret ?_
  change Fin' _ _ _ _ _ _
  refine End1 (n := ⟨6, []⟩) (t := 2) rfl (by decide) (v := (.int .i64 (32 - ((len32 x.toNat : Nat) : Int)))) (rfl) ?_
  exact ⟨rfl, rfl⟩

end Go.Proofs.YtccmicegihlfbaaGreatDoor
