/- Bits: how many noughts; division of numbers of 32. -/
import Derived.Test.YtccmicegihlfbaaGreatDoorB3
import Derived.Test.YtccmicegihlfbaaGreatDoorTy
import Derived.Lib.TrailingZeros
set_option linter.unusedVariables false
set_option linter.unusedSimpArgs false
namespace Go.Proofs.YtccmicegihlfbaaGreatDoor
open Go.RowKit


def tab32 : List Nat := [0, 1, 28, 2, 29, 14, 24, 3, 30, 22, 20, 15, 25, 17, 4, 8, 31, 27, 13, 23, 21, 19, 16, 7, 26, 12, 18, 6, 11, 5, 10, 9]
/-- The library's table reads as its text lays it. -/
def Tab (w : World) : Prop := ∀ j, j < 32 → w.cell? ⟨1, j, none⟩ = some (.int .u8 ((tab32.getD j 0 : Nat) : Int))
theorem Tab.below {w w' : World} (h : Tab w) (hb : Below w.heap.size w w') : Tab w' := fun j hj => by
  have hc := h j hj
  rw [hb.cell (World.block_lt_of_cell? w _ hc)]
  exact hc
theorem Tab.lt {w : World} (h : Tab w) : 1 < w.heap.size := World.block_lt_of_cell? w _ (h 0 (by decide))
theorem tab32_ctz : ∀ c, c < 32 → tab32.getD ((2 ^ c * 125613361) % 4294967296 / 134217728) 0 = c ∧ (2 ^ c * 125613361) % 4294967296 / 134217728 < 32 := by decide +kernel
def ctz32 (x : Int) : Nat := Lib.ctz 32 x.toNat
theorem low_bit {x : Int} (hx : 0 < x ∧ x < 4294967296) : bitV .and .u32 x (4294967296 - x) = ((2 ^ ctz32 x : Nat) : Int) ∧ ctz32 x < 32 := by
  obtain ⟨h1, h2⟩ := Lib.lowest_bit 32 x.toNat (by omega) (by omega)
  refine ⟨?_, h2⟩
  rw [bit_and (by omega) (by omega), show (4294967296 - x).toNat = 2 ^ 32 - x.toNat by omega, h1]
  rfl
theorem ctz32_spec {x : Int} (hx : 0 < x ∧ x < 4294967296) : ∃ m, x.toNat = 2 ^ ctz32 x * (2 * m + 1) := by
  obtain ⟨m, hm, _⟩ := Lib.ctzFrom_spec 32 x.toNat (by omega) (by omega)
  refine ⟨m, ?_⟩
  have : ctz32 x = Lib.ctzFrom 32 x.toNat := by simp [ctz32, Lib.ctz]; omega
  rw [this]; exact hm

set_option maxHeartbeats 400000 in
theorem tz32_c (w0 : World) (x : Int) (hx : 0 < x ∧ x < 4294967296) (ht : Tab w0) :
    Ret Tryz.prog 242 [.int .u32 x] w0 (fun r w1 => r = .int .i64 (ctz32 x : Nat) ∧ w0 = w1) := by
  obtain ⟨e1, e2⟩ := low_bit hx
  obtain ⟨e3, hj⟩ := tab32_ctz _ e2
  refine Ret_of (n := 14) Tryz.func242 rfl rfl (Nat.le_of_ble_eq_true rfl) ?_
  refine W_seq ?_
  refine W_region rfl ?_
  refine S_assign rfl rfl rfl (v := (.int .i64 0)) (rfl) ?_
  refine OPS.nil ?_
  change WP _ _ _ _ _ _
  refine W_seq ?_
  refine W_seq ?_
  refine W_region rfl ?_
  refine S_move rfl rfl rfl (v := .int .u32 x) (rfl) ?_
  refine S_bin rfl rfl rfl rfl rfl (rfl) (rfl) (v := .bool false) (by simp [binV]; omega) ?_
  refine OPS.nil ?_
  change WP _ _ _ _ _ _
  refine W_cond rfl (b := false) (rfl) (fun h => (by cases h)) (fun _ => ?_)
  refine W_skip ?_
  change WP _ _ _ _ _ _
  refine W_seq ?_
  refine W_region rfl ?_
  refine S_move rfl rfl rfl (v := .int .u32 x) (rfl) ?_
  refine S_move rfl rfl rfl (v := .int .u32 x) (rfl) ?_
  refine S_neg rfl rfl rfl (rfl) (v := (4294967296 - x)) (by rw [wrap_u32']; omega) ?_
  refine S_bits rfl rfl rfl rfl (by simp) (rfl) (rfl) (v := ((2 ^ ctz32 x : Nat) : Int)) (e1) ?_
  refine S_bin rfl rfl rfl rfl rfl (rfl) (rfl) (v := .int .u32 (((2 ^ ctz32 x * 125613361) % 4294967296 : Nat) : Int)) (by simp only [binV]; congr 1; first | done | exact wrap_u32' _) ?_
  refine S_shr rfl rfl rfl rfl (rfl) (rfl) (by omega) (v := ((((2 ^ ctz32 x * 125613361) % 4294967296 / 134217728) : Nat) : Int)) (by rw [Int.fdiv_eq_ediv_of_nonneg _ (by decide)]; rfl) ?_
  refine S_idxArr Tryz.underlying235 ti_uint8 rfl rfl rfl rfl rfl rfl (j := ((2 ^ ctz32 x * 125613361) % 4294967296 / 134217728)) rfl hj ?_
  refine S_load rfl rfl rfl (rfl) (LD.one ti_uint8 (show w0.cell? _ = some (.int .u8 ((tab32.getD ((2 ^ ctz32 x * 125613361) % 4294967296 / 134217728) 0 : Nat) : Int)) by rw [Nat.zero_add, Nat.mul_one]; exact ht _ hj)) ?_
  refine S_conv Tryz.underlying5 Tryz.underlying3 rfl rfl rfl (rfl) (b := ((ctz32 x : Nat) : Int)) (by rw [e3]; exact wrap_i64 (by omega) (by omega)) ?_
  refine S_assign rfl rfl rfl (v := (.int .i64 ((ctz32 x : Nat) : Int))) (rfl) ?_
  refine OPS.nil ?_
  change WP _ _ _ _ _ _
  refine W_ret ?_
  change Fin' _ _ _ _ _ _
  refine End1 (n := ⟨14, []⟩) (t := 2) rfl (by decide) (v := (.int .i64 ((ctz32 x : Nat) : Int))) (rfl) ?_
  exact ⟨rfl, rfl⟩


theorem hi_lo {hi lo : Int} (hh : 0 ≤ hi ∧ hi < 4294967296) (hl : 0 ≤ lo ∧ lo < 4294967296) : bitV .or .u64 (hi * 4294967296) lo = hi * 4294967296 + lo := by
  have e : ((hi.toNat * 4294967296) ||| lo.toNat) = hi.toNat * 4294967296 + lo.toNat := by
    have := Nat.shiftLeft_add_eq_or_of_lt (a := hi.toNat) (b := lo.toNat) (i := 32) (by omega)
    rw [Nat.shiftLeft_eq] at this
    exact this.symm
  show IntKind.u64.wrap (((BitVec.ofInt 64 (hi * 4294967296) ||| BitVec.ofInt 64 lo).toNat : Nat) : Int) = _
  rw [BitVec.toNat_or]
  have e1 : (BitVec.ofInt 64 (hi * 4294967296)).toNat = hi.toNat * 4294967296 := by simp [BitVec.toNat_ofInt]; omega
  have e2 : (BitVec.ofInt 64 lo).toNat = lo.toNat := by simp [BitVec.toNat_ofInt]; omega
  rw [e1, e2, e, wrap_u64 (by omega) (by omega)]
  omega
theorem S_shl32 {x : Int} (hx : 0 ≤ x ∧ x < 4294967296) : IntKind.u64.wrap (x * 2 ^ (min (32 : Int).toNat IntKind.u64.bits)) = x * 4294967296 := by
  show IntKind.u64.wrap (x * 4294967296) = _
  exact wrap_u64 (by omega) (by omega)
theorem shr32 (x : Int) : x.fdiv (2 ^ (min (32 : Int).toNat IntKind.u64.bits)) = x / 4294967296 := by
  rw [Int.fdiv_eq_ediv_of_nonneg _ (by decide)]
  rfl
theorem div_small {hi lo y : Int} (hh : 0 ≤ hi ∧ hi < y) (hl : 0 ≤ lo ∧ lo < 4294967296) : 0 ≤ (hi * 4294967296 + lo) / y ∧ (hi * 4294967296 + lo) / y < 4294967296 ∧ 0 ≤ (hi * 4294967296 + lo) % y ∧ (hi * 4294967296 + lo) % y < y := by
  refine ⟨Int.ediv_nonneg (by omega) (by omega), ?_, Int.emod_nonneg _ (by omega), Int.emod_lt_of_pos _ (by omega)⟩
  refine Int.ediv_lt_of_lt_mul (by omega) ?_
  have : (hi + 1) * 4294967296 ≤ y * 4294967296 := Int.mul_le_mul_of_nonneg_right (by omega) (by decide)
  omega

set_option maxHeartbeats 400000 in
theorem div32_c (w0 : World) (hi lo y : Int) (hh : 0 ≤ hi ∧ hi < y) (hl : 0 ≤ lo ∧ lo < 4294967296) (hy : y < 4294967296) :
    Ret Tryz.prog 238 [.int .u32 hi, .int .u32 lo, .int .u32 y] w0 (fun r w1 => Below w0.heap.size w0 w1 ∧ r = .tuple #[.int .u32 ((hi * 4294967296 + lo) / y), .int .u32 ((hi * 4294967296 + lo) % y)]) := by
  obtain ⟨q1, q2, q3, q4⟩ := div_small hh hl
  have E := Below.refl w0.heap.size w0
  refine Ret_of (n := 33) Tryz.func238 rfl rfl (Nat.le_of_ble_eq_true rfl) ?_
  refine W_seq ?_
  refine W_region rfl ?_
  refine S_assign rfl rfl rfl (v := (.int .u32 0)) (rfl) ?_
  refine S_assign rfl rfl rfl (v := (.int .u32 0)) (rfl) ?_
  refine OPS.nil ?_
  change WP _ _ _ _ _ _
  refine W_seq ?_
  refine W_seq ?_
  refine W_region rfl ?_
  refine S_move rfl rfl rfl (v := .int .u32 y) (rfl) ?_
  refine S_bin rfl rfl rfl rfl rfl (rfl) (rfl) (v := .bool true) (by simp [binV]; omega) ?_
  refine S_move rfl rfl rfl (v := (.bool true)) (rfl) ?_
  refine S_move rfl rfl rfl (v := .int .u32 y) (rfl) ?_
  refine S_move rfl rfl rfl (v := .int .u32 hi) (rfl) ?_
  refine S_bin rfl rfl rfl rfl rfl (rfl) (rfl) (v := .bool false) (by simp [binV]; omega) ?_
  refine S_pick rfl rfl rfl rfl rfl (b := true) (rfl) (v := (.bool false)) (rfl) ?_
  refine OPS.nil ?_
  change WP _ _ _ _ _ _
  refine W_cond rfl (b := false) (rfl) (fun h => (by cases h)) (fun _ => ?_)
  refine W_skip ?_
  change WP _ _ _ _ _ _
  refine W_seq ?_
  refine W_region rfl ?_
  refine S_move rfl rfl rfl (v := .int .u32 hi) (rfl) ?_
  refine S_conv Tryz.underlying106 Tryz.underlying124 rfl rfl rfl (rfl) (b := hi) (wrap_u64 hh.1 (by omega)) ?_
  refine S_shl rfl rfl rfl rfl (rfl) (rfl) (by omega) (v := (hi * 4294967296)) (S_shl32 (by omega)) ?_
  refine S_move rfl rfl rfl (v := .int .u32 lo) (rfl) ?_
  refine S_conv Tryz.underlying106 Tryz.underlying124 rfl rfl rfl (rfl) (b := lo) (wrap_u64 hl.1 (by omega)) ?_
  refine S_bits rfl rfl rfl rfl (by simp) (rfl) (rfl) (v := (hi * 4294967296 + lo)) (hi_lo (by omega) hl) ?_
  refine S_assign rfl rfl rfl (v := (.int .u64 (hi * 4294967296 + lo))) (rfl) ?_
  refine OPS.nil ?_
  change WP _ _ _ _ _ _
  refine W_seq ?_
  refine D_begin_ mixed_ rfl rfl ?_
  intro w1 hB1 hz_1
  have hz1 := hB1.size
  have E := Below.step E hB1
  have hS_ : Below w1.heap.size w1 w1 := Below.refl _ _
  have E_S := E
  refine D_move (i := 0) (by kernel_rfl) (by kernel_rfl) (by kernel_rfl) (listed2 := #[true, false, false, false, false, false, false, false, false, false, false, false]) (by kernel_rfl) rfl rfl rfl (v := (.int .u64 (hi * 4294967296 + lo))) (rfl) hS_ ?_
  refine D_move (i := 1) (by kernel_rfl) (by kernel_rfl) (by kernel_rfl) (listed2 := #[true, true, false, false, false, false, false, false, false, false, false, false]) (by kernel_rfl) rfl rfl rfl (v := .int .u32 y) (rfl) hS_ ?_
  refine D_conv Tryz.underlying106 Tryz.underlying124 (i := 2) (by kernel_rfl) (by kernel_rfl) (by kernel_rfl) (listed2 := #[true, true, true, false, false, false, false, false, false, false, false, false]) (by kernel_rfl) rfl rfl rfl (rfl) (b := y) (wrap_u64 (by omega) (by omega)) hS_ ?_
  refine D_quo (i := 3) (by kernel_rfl) (by kernel_rfl) (by kernel_rfl) (listed2 := #[true, true, true, true, false, false, false, false, false, false, false, false]) (by kernel_rfl) rfl rfl rfl rfl (rfl) (rfl) (by omega) (v := ((hi * 4294967296 + lo) / y)) (by rw [Int.tdiv_eq_ediv_of_nonneg (by omega)]; exact wrap_u64 (by omega) (by omega)) hS_ ?_
  refine D_conv Tryz.underlying124 Tryz.underlying106 (i := 4) (by kernel_rfl) (by kernel_rfl) (by kernel_rfl) (listed2 := #[true, true, true, true, true, false, false, false, false, false, false, false]) (by kernel_rfl) rfl rfl rfl (rfl) (b := ((hi * 4294967296 + lo) / y)) (wrap_u32 (by omega) (by omega)) hS_ ?_
  refine D_move (i := 5) (by kernel_rfl) (by kernel_rfl) (by kernel_rfl) (listed2 := #[true, true, true, true, true, true, false, false, false, false, false, false]) (by kernel_rfl) rfl rfl rfl (v := (.int .u64 (hi * 4294967296 + lo))) (rfl) hS_ ?_
  refine D_move (i := 6) (by kernel_rfl) (by kernel_rfl) (by kernel_rfl) (listed2 := #[true, true, true, true, true, true, true, false, false, false, false, false]) (by kernel_rfl) rfl rfl rfl (v := .int .u32 y) (rfl) hS_ ?_
  refine D_conv Tryz.underlying106 Tryz.underlying124 (i := 7) (by kernel_rfl) (by kernel_rfl) (by kernel_rfl) (listed2 := #[true, true, true, true, true, true, true, true, false, false, false, false]) (by kernel_rfl) rfl rfl rfl (rfl) (b := y) (wrap_u64 (by omega) (by omega)) hS_ ?_
  refine D_rem (i := 8) (by kernel_rfl) (by kernel_rfl) (by kernel_rfl) (listed2 := #[true, true, true, true, true, true, true, true, true, false, false, false]) (by kernel_rfl) rfl rfl rfl rfl (rfl) (rfl) (by omega) (v := ((hi * 4294967296 + lo) % y)) (Int.tmod_eq_emod_of_nonneg (by omega)) hS_ ?_
  refine D_conv Tryz.underlying124 Tryz.underlying106 (i := 9) (by kernel_rfl) (by kernel_rfl) (by kernel_rfl) (listed2 := #[true, true, true, true, true, true, true, true, true, true, false, false]) (by kernel_rfl) rfl rfl rfl (rfl) (b := ((hi * 4294967296 + lo) % y)) (wrap_u32 (by omega) (by omega)) hS_ ?_
  refine D_assign (i := 10) (by kernel_rfl) (by kernel_rfl) (by kernel_rfl) (listed2 := #[true, true, true, true, true, true, true, true, true, true, true, false]) (by kernel_rfl) rfl rfl rfl (v := (.int .u32 ((hi * 4294967296 + lo) / y))) (rfl) hS_ ?_
  refine D_assign (i := 11) (by kernel_rfl) (by kernel_rfl) (by kernel_rfl) (listed2 := #[true, true, true, true, true, true, true, true, true, true, true, true]) (by kernel_rfl) rfl rfl rfl (v := (.int .u32 ((hi * 4294967296 + lo) % y))) (rfl) hS_ ?_
  refine D_done (by kernel_rfl) ?_
  change WP _ _ _ _ _ _
  refine W_ret ?_
  change Fin' _ _ _ _ _ _
  refine End2 (n := ⟨33, []⟩) (t := 6) (u := 7) rfl (by decide) (by decide) (rfl) (rfl) ?_
  exact ⟨E, rfl⟩

end Go.Proofs.YtccmicegihlfbaaGreatDoor
