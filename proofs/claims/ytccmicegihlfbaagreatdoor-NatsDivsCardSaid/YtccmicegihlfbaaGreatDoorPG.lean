/- The order of two numbers, and the greatest that divides both: plain facts; no program in sight. -/
import Derived.Test.YtccmicegihlfbaaGreatDoorPD
set_option linter.unusedVariables false
set_option linter.unusedSimpArgs false
namespace Go.Proofs.YtccmicegihlfbaaGreatDoor

/-- Below 0, 0, above 0. -/
def cmpN (a b : Nat) : Int := if a < b then -1 else if a = b then 0 else 1
theorem cmpN_lt {a b : Nat} (h : a < b) : cmpN a b = -1 := by simp [cmpN, h]
theorem cmpN_gt {a b : Nat} (h : b < a) : cmpN a b = 1 := by unfold cmpN; rw [if_neg (by omega), if_neg (by omega)]
theorem cmpN_eq {a b : Nat} (h : a = b) : cmpN a b = 0 := by subst h; simp [cmpN]
theorem cmpN_range (a b : Nat) : -1 ≤ cmpN a b ∧ cmpN a b ≤ 1 := by unfold cmpN; split <;> (try split) <;> omega
theorem cmpN_lt0 {a b : Nat} : cmpN a b < 0 ↔ a < b := by unfold cmpN; split <;> (try split) <;> omega
theorem cmpN_eq0 {a b : Nat} : cmpN a b = 0 ↔ a = b := by unfold cmpN; split <;> (try split) <;> omega
theorem cmpN_eq1 {a b : Nat} : cmpN a b = 1 ↔ b < a := by unfold cmpN; split <;> (try split) <;> omega
theorem cmp_lt {la lb : List Int} (hu : U32 la) (i : Nat) (h : val (la.drop (i + 1)) = val (lb.drop (i + 1))) (hx : (la.getD i 0).toNat < (lb.getD i 0).toNat) : val la < val lb := by
  rw [val_cut la i, val_cut lb i, val_drop_step la i, val_drop_step lb i, h]
  have h1 := val_take_lt hu i
  have h2 := Nat.mul_le_mul_left (4294967296 ^ i) (show (la.getD i 0).toNat + 4294967296 * val (lb.drop (i + 1)) + 1 ≤ (lb.getD i 0).toNat + 4294967296 * val (lb.drop (i + 1)) by omega)
  rw [Nat.mul_add (4294967296 ^ i) (_ + _) 1] at h2
  omega
theorem drop_eq_step {la lb : List Int} (i : Nat) (h : val (la.drop (i + 1)) = val (lb.drop (i + 1))) (hx : la.getD i 0 = lb.getD i 0) : val (la.drop i) = val (lb.drop i) := by
  rw [val_drop_step la i, val_drop_step lb i, h, hx]
theorem val_lt_len {la lb : List Int} (hu : U32 la) (hv : U32 lb) (hk : okL lb = true) (h : la.length < lb.length) : val la < val lb := by
  have h0 : 0 < lb.length := by omega
  have hz : lb.getD (lb.length - 1) 0 ≠ 0 := by
    rw [okL_getD h0] at hk
    simpa using hk
  have h1 := hv.getD (lb.length - 1)
  have h2 := val_lt hu
  have h3 := val_cut lb (lb.length - 1)
  rw [val_drop_step, show lb.length - 1 + 1 = lb.length by omega, List.drop_length, val_nil] at h3
  have h4 := Nat.mul_le_mul_left (4294967296 ^ (lb.length - 1)) (show 1 ≤ (lb.getD (lb.length - 1) 0).toNat + 4294967296 * 0 by omega)
  have h5 := Nat.pow_le_pow_right (show 0 < 4294967296 by decide) (show la.length ≤ lb.length - 1 by omega)
  omega

/-! ### The greatest that divides both -/
theorem odd_coprime {a : Nat} (k : Nat) (h : a % 2 = 1) : Nat.gcd (2 ^ k) a = 1 := by
  induction k with
  | zero => simp
  | succ k ih =>
    have h2 : Nat.Coprime 2 a := by
      rw [Nat.Coprime, Nat.gcd_rec, h]
      simp
    have h3 : Nat.Coprime (2 ^ k) a := ih
    rw [Nat.pow_succ]
    exact Nat.Coprime.mul_left h3 h2
theorem gcd_odd_pow {a b : Nat} (k : Nat) (h : a % 2 = 1) : Nat.gcd a (2 ^ k * b) = Nat.gcd a b :=
  Nat.Coprime.gcd_mul_left_cancel_right b (odd_coprime k h)
theorem gcd_pow_odd {a b : Nat} (k : Nat) (h : b % 2 = 1) : Nat.gcd (2 ^ k * a) b = Nat.gcd a b := by
  rw [Nat.gcd_comm, gcd_odd_pow k h, Nat.gcd_comm]
theorem gcd_pows {a b n m : Nat} (ha : a % 2 = 1) (hb : b % 2 = 1) : Nat.gcd (2 ^ n * a) (2 ^ m * b) = Nat.gcd a b * 2 ^ min n m := by
  rcases Nat.le_total n m with h | h
  · rw [Nat.min_eq_left h, show m = n + (m - n) by omega, Nat.pow_add, Nat.mul_assoc, Nat.gcd_mul_left, gcd_odd_pow _ ha, Nat.mul_comm]
  · rw [Nat.min_eq_right h, show n = m + (n - m) by omega, Nat.pow_add, Nat.mul_assoc, Nat.gcd_mul_left, gcd_pow_odd _ hb, Nat.mul_comm]
theorem Odd2.div {n q : Nat} (h : Odd2 n q) : (n / 2 ^ q) % 2 = 1 ∧ n = 2 ^ q * (n / 2 ^ q) := by
  obtain ⟨m, rfl⟩ := h
  rw [Nat.mul_div_cancel_left _ (Nat.pow_pos (by decide))]
  exact ⟨by omega, rfl⟩
theorem gcd_round {a b c q : Nat} (ha : a % 2 = 1) (hab : a < b) (h : Odd2 (b - a) q) (hc : c = (b - a) / 2 ^ q) : Nat.gcd a c = Nat.gcd a b ∧ c % 2 = 1 ∧ 0 < c ∧ c < b := by
  obtain ⟨h1, h2⟩ := h.div
  subst hc
  refine ⟨?_, h1, Nat.pos_of_ne_zero (fun h0 => by rw [h0] at h1; cases h1), ?_⟩
  · rw [← gcd_odd_pow (b := (b - a) / 2 ^ q) q ha, ← h2]
    conv => rhs; rw [show b = b - a + a by omega]
    rw [Nat.gcd_add_self_right]
  · have := Nat.div_le_self (b - a) (2 ^ q)
    omega
end Go.Proofs.YtccmicegihlfbaaGreatDoor
