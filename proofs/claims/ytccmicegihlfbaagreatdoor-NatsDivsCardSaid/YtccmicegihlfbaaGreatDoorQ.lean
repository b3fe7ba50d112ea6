/- Fractions as numbers: plain facts; no program in sight. -/
import Derived.Test.YtccmicegihlfbaaGreatDoorPG
import Derived.Test.YtccmicegihlfbaaGreatDoorRat
set_option linter.unusedVariables false
set_option linter.unusedSimpArgs false
namespace Go.Proofs.YtccmicegihlfbaaGreatDoor

/-- A whole number may be. -/
def okI (s : Bool) (l : List Int) : Bool := okL l && (!s || !l.isEmpty)
def fineI (s : Bool) (l : List Int) : Bool × List Int := if okI s l then (s, l) else (false, [])
def iv (s : Bool) (l : List Int) : Int := if s then -(val l : Int) else (val l : Int)
/-- The number, or 0. -/
def zv (s : Bool) (l : List Int) : Int := if okI s l then iv s l else 0
theorem okI_dg (z : Int) : okI (decide (z < 0)) (dg z.natAbs) = true := by
  unfold okI
  rw [okL_dg, Bool.true_and]
  by_cases h : z < 0
  · have : dg z.natAbs ≠ [] := fun e => by rw [dg_eq_nil] at e; omega
    cases hd : dg z.natAbs with
    | nil => exact absurd hd this
    | cons x l => simp
  · simp [h]
theorem iv_dg (z : Int) : iv (decide (z < 0)) (dg z.natAbs) = z := by
  unfold iv
  rw [val_dg]
  by_cases h : z < 0 <;> simp [h] <;> omega
theorem zv_dg (z : Int) : zv (decide (z < 0)) (dg z.natAbs) = z := by
  unfold zv
  rw [okI_dg, if_pos rfl, iv_dg]
theorem okI_spec {s : Bool} {l : List Int} (h : okI s l = true) (hu : U32 l) : s = decide (iv s l < 0) ∧ l = dg (iv s l).natAbs := by
  unfold okI at h
  simp only [Bool.and_eq_true, Bool.or_eq_true, Bool.not_eq_true'] at h
  obtain ⟨h1, h2⟩ := h
  have hv : (iv s l).natAbs = val l := by unfold iv; split <;> omega
  rw [hv, dg_val hu h1]
  refine ⟨?_, rfl⟩
  cases s with
  | false => simp [iv]
  | true =>
    have hn : l ≠ [] := by
      rcases h2 with h2 | h2
      · cases h2
      · intro e; subst e; cases h2
    have := val_pos_of_ok hu h1 hn
    simp [iv]
    omega
theorem zv_ok {s : Bool} {l : List Int} (h : okI s l = true) (hu : U32 l) : s = decide (zv s l < 0) ∧ l = dg (zv s l).natAbs := by
  unfold zv
  rw [if_pos h]
  exact okI_spec h hu
theorem zv_not {s : Bool} {l : List Int} (h : okI s l = false) : zv s l = 0 := by
  unfold zv
  rw [h]
  rfl
theorem zv_len {s : Bool} {l : List Int} (hu : U32 l) : (dg (zv s l).natAbs).length ≤ l.length := by
  cases h : okI s l with
  | true => rw [← (zv_ok h hu).2]; exact Nat.le_refl _
  | false => rw [zv_not h, show (0 : Int).natAbs = 0 from rfl, dg_zero]; exact Nat.zero_le _
theorem dg_isEmpty (n : Nat) : (dg n).isEmpty = decide (n = 0) := by
  cases h : dg n with
  | nil => have := dg_eq_nil.1 h; simp [this]
  | cons x l => have : n ≠ 0 := fun e => by rw [e, dg_zero] at h; cases h
                simp [this]
theorem sgn_of (b : Bool) (n : Nat) : (b && !(dg n).isEmpty) = decide ((if b then -(n : Int) else n) < 0) := by
  rw [dg_isEmpty]
  cases b <;> by_cases h : n = 0 <;> simp [h] <;> omega
theorem okL_nv {n : Nat} : nv (dg n) = n := nv_dg n
end Go.Proofs.YtccmicegihlfbaaGreatDoor
