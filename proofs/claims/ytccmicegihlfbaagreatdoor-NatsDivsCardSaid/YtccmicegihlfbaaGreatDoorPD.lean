/- Long division, part by part: plain facts on numbers and lists of parts; no program in sight. -/
import Derived.Test.YtccmicegihlfbaaGreatDoorN8
set_option linter.unusedVariables false
set_option linter.unusedSimpArgs false
namespace Go.Proofs.YtccmicegihlfbaaGreatDoor

/-! ### 1. Guesses -/
section
variable {B M v v1 v2 vr u top u2 ur q : Nat}
theorem guess_split (hv : v = vr + M * (v2 + B * v1)) : q * v = q * vr + M * (q * (v2 + B * v1)) := by
  rw [hv, Nat.mul_add, ← Nat.mul_assoc, Nat.mul_comm q M, Nat.mul_assoc]
/-- A guess that has passed the test is one too much at most. -/
theorem guess_hi (hv : v = vr + M * (v2 + B * v1)) (hvr : vr < M) (hu : u = ur + M * (u2 + B * top)) (hq : q < B) (ht : q * (v2 + B * v1) ≤ u2 + B * top) (h1 : 1 ≤ v1) : q * v < u + v := by
  have e := guess_split (q := q) hv
  have h2 : M * (q * (v2 + B * v1)) ≤ M * (u2 + B * top) := Nat.mul_le_mul_left _ ht
  have h3 : q * vr ≤ q * M := Nat.mul_le_mul_left _ (by omega)
  have h4 : (q + 1) * M ≤ B * M := Nat.mul_le_mul_right _ hq
  have h5 : M * B ≤ M * (v2 + B * v1) := Nat.mul_le_mul_left _ (by have := Nat.mul_le_mul_left B h1; omega)
  rw [Nat.add_mul] at h4
  rw [Nat.mul_comm M B] at h5
  generalize M * (q * (v2 + B * v1)) = a1 at *
  generalize M * (u2 + B * top) = a2 at *
  generalize M * (v2 + B * v1) = a3 at *
  omega
/-- A guess that fails the test is too much. -/
theorem guess_lo (hv : v = vr + M * (v2 + B * v1)) (hu : u = ur + M * (u2 + B * top)) (hur : ur < M) (ht : u2 + B * top < q * (v2 + B * v1)) : u < q * v := by
  have e := guess_split (q := q) hv
  have h2 := Nat.mul_le_mul_left M (show u2 + B * top + 1 ≤ q * (v2 + B * v1) from ht)
  rw [Nat.mul_add M] at h2
  generalize M * (q * (v2 + B * v1)) = a1 at *
  generalize M * (u2 + B * top) = a2 at *
  omega
/-- The first guess is not too little. -/
theorem guess_start (hv : v = vr + M * (v2 + B * v1)) (hu : u = ur + M * (u2 + B * top)) (hur : ur < M) (hu2 : u2 < B) (h1 : 1 ≤ v1) : u / v ≤ top / v1 := by
  rw [Nat.le_div_iff_mul_le h1]
  have h := Nat.div_mul_le_self u v
  have e := guess_split (q := u / v) hv
  refine Nat.not_lt.1 fun hc => ?_
  have h2 : B * (top + 1) ≤ u / v * (v2 + B * v1) := by
    rw [Nat.mul_add (u / v), ← Nat.mul_assoc, Nat.mul_comm (u / v) B, Nat.mul_assoc B]
    have := Nat.mul_le_mul_left B (show top + 1 ≤ u / v * v1 from hc)
    generalize u / v * v2 = a1 at *
    omega
  have h3 := Nat.mul_le_mul_left M h2
  have h4 : M * (u2 + B * top + 1) ≤ M * (B * (top + 1)) := Nat.mul_le_mul_left _ (by rw [Nat.mul_add B]; omega)
  rw [Nat.mul_add M] at h4
  generalize M * (u / v * (v2 + B * v1)) = a1 at *
  generalize M * (u2 + B * top) = a2 at *
  generalize M * (B * (top + 1)) = a3 at *
  generalize u / v * vr = a4 at *
  omega
end
theorem fix_no {u v q h owed P low new : Nat} (hu : u = low + h * P) (hs : low + owed * P = new + q * v) (hle : owed ≤ h) (hQ : u / v ≤ q) (hv : 0 < v) (hvP : v ≤ P) : q = u / v ∧ new = u % v := by
  have e : q * v + (new + (h - owed) * P) = u := by
    rw [Nat.sub_mul]
    have := Nat.mul_le_mul_right P hle
    omega
  have h1 : q ≤ u / v := (Nat.le_div_iff_mul_le hv).2 (by omega)
  have h2 : q = u / v := Nat.le_antisymm h1 hQ
  refine ⟨h2, ?_⟩
  have h3 := Nat.div_add_mod u v
  rw [← h2, Nat.mul_comm] at h3
  have h4 := Nat.mod_lt u hv
  have h5 : h - owed = 0 := by
    refine Nat.eq_zero_of_not_pos fun hp => ?_
    have := Nat.mul_le_mul_right P (show 1 ≤ h - owed from hp)
    omega
  rw [h5] at e
  omega
theorem fix_yes {u v q h owed P low new new2 c : Nat} (hu : u = low + h * P) (hs : low + owed * P = new + q * v) (hlt : h < owed) (hnew : new < P) (hq : q * v < u + v) (hv : 0 < v) (hvP : v ≤ P) (hb : new + v = c * P + new2) (hn2 : new2 < P) :
    q - 1 = u / v ∧ new2 = u % v ∧ 1 ≤ q := by
  have hd : (owed - h) * P + h * P = owed * P := by rw [← Nat.add_mul]; congr 1; omega
  have hP : P ≤ (owed - h) * P := Nat.le_mul_of_pos_left _ (by omega)
  have h1 : u < q * v := by omega
  have hq0 : 1 ≤ q := by
    refine Nat.pos_of_ne_zero fun h0 => ?_
    subst h0
    omega
  have e1 : (q - 1) * v + v = q * v := by
    have : q - 1 + 1 = q := by omega
    rw [← Nat.succ_mul, Nat.succ_eq_add_one, this]
  have h2 : q - 1 = u / v := by
    refine Nat.le_antisymm ((Nat.le_div_iff_mul_le hv).2 (by omega)) ?_
    have := (Nat.div_lt_iff_lt_mul hv).2 h1
    omega
  refine ⟨h2, ?_, hq0⟩
  have h3 := Nat.div_add_mod u v
  rw [← h2, Nat.mul_comm] at h3
  have h4 := Nat.mod_lt u hv
  have e2 : u % v + (owed - h) * P = c * P + new2 := by omega
  have hc : c = owed - h := by
    rcases Nat.lt_trichotomy c (owed - h) with hc | hc | hc
    · have := Nat.mul_le_mul_right P (show c + 1 ≤ owed - h from hc)
      rw [Nat.add_mul] at this
      omega
    · exact hc
    · have := Nat.mul_le_mul_right P (show owed - h + 1 ≤ c from hc)
      rw [Nat.add_mul] at this
      omega
  rw [hc] at e2
  omega

/-! ### 2. Lists of parts -/
theorem val_cut (l : List Int) (k : Nat) : val l = val (l.take k) + 4294967296 ^ k * val (l.drop k) := by
  by_cases h : k ≤ l.length
  · conv => lhs; rw [← List.take_append_drop k l, val_append, List.length_take, Nat.min_eq_left h]
  · rw [List.take_of_length_le (by omega), List.drop_of_length_le (by omega), val_nil]; omega
theorem getD_drop' (l : List Int) (i k : Nat) : (l.drop i).getD k 0 = l.getD (i + k) 0 := by
  simp [List.getD_eq_getElem?_getD, List.getElem?_drop]
theorem val_part (l : List Int) (i k : Nat) : val ((l.drop i).take (k + 1)) = val ((l.drop i).take k) + 4294967296 ^ k * (l.getD (i + k) 0).toNat := by
  rw [val_step, getD_drop']
theorem val_take_lt {l : List Int} (h : U32 l) (k : Nat) : val (l.take k) < 4294967296 ^ k :=
  Nat.lt_of_lt_of_le (val_lt (h.take k)) (Nat.pow_le_pow_right (by decide) (by simp; omega))
theorem set_take_le (l : List Int) (i j : Nat) (x : Int) (h : i ≤ j) : (l.set j x).take i = l.take i := by
  apply List.ext_getElem?
  intro t
  by_cases ht : t < i
  · rw [List.getElem?_take_of_lt ht, List.getElem?_take_of_lt ht, List.getElem?_set_ne (by omega)]
  · rw [List.getElem?_eq_none (by simp; omega), List.getElem?_eq_none (by simp; omega)]
theorem val_part_set (l : List Int) (i k : Nat) (x : Int) (h : i + k < l.length) : val (((l.set (i + k) x).drop i).take (k + 1)) = val ((l.drop i).take k) + 4294967296 ^ k * x.toNat := by
  rw [val_part, getD_set_eq' _ _ _ h]
  congr 2
  apply List.ext_getElem?
  intro t
  by_cases ht : t < k
  · rw [List.getElem?_take_of_lt ht, List.getElem?_take_of_lt ht, List.getElem?_drop, List.getElem?_drop, List.getElem?_set_ne (by omega)]
  · rw [List.getElem?_eq_none (by simp; omega), List.getElem?_eq_none (by simp; omega)]
/-- So many times y is taken off one part. -/
theorem msub_digit {x p : Int} (hx : 0 ≤ x ∧ x < 4294967296) (hp : 0 ≤ p) : x + (p / 4294967296 + if x < p % 4294967296 then 1 else 0) * 4294967296 = (x - p % 4294967296) % 4294967296 + p := by
  split <;> omega
theorem msub_step {r0 rk bs : List Int} {i k : Nat} {g owed x y x' owed' : Int} (hj : i + k < rk.length) (ex : r0.getD (i + k) 0 = x) (ey : bs.getD k 0 = y) (hx : 0 ≤ x) (hy : 0 ≤ y) (hg : 0 ≤ g) (ho : 0 ≤ owed) (hx' : 0 ≤ x') (ho' : 0 ≤ owed')
    (hd : x + owed' * 4294967296 = x' + (g * y + owed)) (hI : val ((r0.drop i).take k) + 4294967296 ^ k * owed.toNat = val ((rk.drop i).take k) + g.toNat * val (bs.take k)) :
    val ((r0.drop i).take (k + 1)) + 4294967296 ^ (k + 1) * owed'.toNat = val (((rk.set (i + k) x').drop i).take (k + 1)) + g.toNat * val (bs.take (k + 1)) := by
  rw [val_part, val_part_set _ _ _ _ hj, val_step, ex, ey]
  obtain ⟨x, rfl⟩ := Int.eq_ofNat_of_zero_le hx
  obtain ⟨y, rfl⟩ := Int.eq_ofNat_of_zero_le hy
  obtain ⟨g, rfl⟩ := Int.eq_ofNat_of_zero_le hg
  obtain ⟨owed, rfl⟩ := Int.eq_ofNat_of_zero_le ho
  obtain ⟨x', rfl⟩ := Int.eq_ofNat_of_zero_le hx'
  obtain ⟨owed', rfl⟩ := Int.eq_ofNat_of_zero_le ho'
  simp only [Int.toNat_natCast] at *
  have hd' : x + owed' * 4294967296 = x' + (g * y + owed) := by
    have e : ((g * y : Nat) : Int) = (g : Int) * (y : Int) := Int.natCast_mul g y
    rw [← e] at hd
    omega
  have h2 := congrArg (4294967296 ^ k * ·) hd'
  simp only [Nat.mul_add] at h2
  rw [Nat.mul_add g, Nat.pow_succ, show 4294967296 ^ k * 4294967296 * owed' = 4294967296 ^ k * (owed' * 4294967296) by rw [Nat.mul_assoc, Nat.mul_comm 4294967296], show g * (4294967296 ^ k * y) = 4294967296 ^ k * (g * y) by rw [← Nat.mul_assoc, Nat.mul_comm g, Nat.mul_assoc]]
  generalize 4294967296 ^ k * (owed' * 4294967296) = a1 at *
  generalize 4294967296 ^ k * (g * y) = a2 at *
  generalize 4294967296 ^ k * x = a3 at *
  generalize 4294967296 ^ k * x' = a4 at *
  generalize 4294967296 ^ k * owed = a5 at *
  generalize g * val (bs.take k) = a6 at *
  omega
/-- A number is given back, part by part. -/
theorem aback_step {r0 rk bs : List Int} {i k : Nat} {c x y x' c' : Int} (hj : i + k < rk.length) (ex : r0.getD (i + k) 0 = x) (ey : bs.getD k 0 = y) (hx : 0 ≤ x) (hy : 0 ≤ y) (hc : 0 ≤ c) (hx' : 0 ≤ x') (hc' : 0 ≤ c')
    (hd : x + y + c = x' + c' * 4294967296) (hI : val ((r0.drop i).take k) + val (bs.take k) = val ((rk.drop i).take k) + 4294967296 ^ k * c.toNat) :
    val ((r0.drop i).take (k + 1)) + val (bs.take (k + 1)) = val (((rk.set (i + k) x').drop i).take (k + 1)) + 4294967296 ^ (k + 1) * c'.toNat := by
  rw [val_part, val_part_set _ _ _ _ hj, val_step, ex, ey]
  have hd' : x.toNat + y.toNat + c.toNat = x'.toNat + c'.toNat * 4294967296 := by omega
  have h2 := congrArg (4294967296 ^ k * ·) hd'
  simp only [Nat.mul_add] at h2
  rw [Nat.pow_succ, show 4294967296 ^ k * 4294967296 * c'.toNat = 4294967296 ^ k * (c'.toNat * 4294967296) by rw [Nat.mul_assoc, Nat.mul_comm 4294967296]]
  generalize 4294967296 ^ k * (c'.toNat * 4294967296) = a1 at *
  generalize 4294967296 ^ k * x.toNat = a3 at *
  generalize 4294967296 ^ k * x'.toNat = a4 at *
  generalize 4294967296 ^ k * y.toNat = a5 at *
  generalize 4294967296 ^ k * c.toNat = a6 at *
  omega

/-! ### 3. A step of the whole -/
/-- What is divided in one step: so many parts from a place on. -/
theorem step_u {r0 : List Int} {i n b : Nat} (hu : U32 r0) (h2 : val (r0.drop (i + 1)) < b) (hb : b < 4294967296 ^ n) :
    val (r0.drop i) = val ((r0.drop i).take (n + 1)) ∧ val (r0.drop i) < 4294967296 * b := by
  have h3 := val_cut (r0.drop (i + 1)) n
  have h4 : val ((r0.drop (i + 1)).drop n) = 0 := by
    refine Nat.eq_zero_of_not_pos fun hp => ?_
    have := Nat.mul_le_mul_left (4294967296 ^ n) (show 1 ≤ _ from hp)
    omega
  have h5 := val_cut (r0.drop i) (n + 1)
  rw [List.drop_drop] at h4 h5
  rw [show i + (n + 1) = i + 1 + n by omega, h4, Nat.mul_zero, Nat.add_zero] at h5
  refine ⟨h5, ?_⟩
  rw [val_drop_step]
  have := hu.getD i
  omega
theorem outer_step {la qs r0 r1 : List Int} {i b : Nat} {d : Int} (hI : val la = val (qs.drop (i + 1)) * 4294967296 ^ (i + 1) * b + val r0) (ht : r1.take i = r0.take i) (hr : val (r1.drop i) = val (r0.drop i) % b)
    (hd : d.toNat = val (r0.drop i) / b) (hi : i < qs.length) : val la = val ((qs.set i d).drop i) * 4294967296 ^ i * b + val r1 := by
  rw [hI, val_cut r0 i, val_cut r1 i, ht, hr, val_drop_step (qs.set i d) i, getD_set_eq' _ _ _ hi, List.drop_set_of_lt (by omega), hd]
  have h := Nat.div_add_mod (val (r0.drop i)) b
  generalize val (r0.drop i) / b = Q at *
  generalize val (r0.drop i) % b = R at *
  rw [← h, Nat.pow_succ, Nat.add_mul, Nat.add_mul, Nat.mul_add]
  generalize val (qs.drop (i + 1)) = A
  generalize 4294967296 ^ i = X
  have e1 : A * (X * 4294967296) * b = 4294967296 * A * X * b := by ac_rfl
  have e2 : X * (b * Q) = Q * X * b := by ac_rfl
  rw [e1, e2]
  omega
/-- Parts of numbers, the highest ones by themselves. -/
theorem top3 (l : List Int) (i m : Nat) : val ((l.drop i).take (m + 3)) = val ((l.drop i).take m) + 4294967296 ^ m * ((l.getD (i + m) 0).toNat + 4294967296 * ((l.getD (i + m + 2) 0).toNat * 4294967296 + (l.getD (i + m + 1) 0).toNat)) := by
  rw [val_part l i (m + 2), val_part l i (m + 1), val_part l i m, show 4294967296 ^ (m + 2) = 4294967296 ^ m * 4294967296 * 4294967296 by rw [Nat.pow_succ, Nat.pow_succ], Nat.pow_succ, ← Nat.add_assoc i m 2, ← Nat.add_assoc i m 1]
  generalize 4294967296 ^ m = X
  generalize (l.getD (i + m) 0).toNat = a
  generalize (l.getD (i + m + 1) 0).toNat = b
  generalize (l.getD (i + m + 2) 0).toNat = c
  simp only [Nat.mul_add, Nat.mul_assoc]
  rw [show X * (4294967296 * (4294967296 * c)) = X * (4294967296 * (c * 4294967296)) by rw [Nat.mul_comm c]]
  omega
theorem top2 (l : List Int) (m : Nat) (h : l.length = m + 2) : val l = val (l.take m) + 4294967296 ^ m * ((l.getD m 0).toNat + 4294967296 * (l.getD (m + 1) 0).toNat) := by
  have e : l = l.take (m + 2) := (List.take_of_length_le (by omega)).symm
  conv => lhs; rw [e, val_step, val_step, Nat.pow_succ]
  simp only [Nat.mul_add, Nat.mul_assoc]
  omega
end Go.Proofs.YtccmicegihlfbaaGreatDoor
