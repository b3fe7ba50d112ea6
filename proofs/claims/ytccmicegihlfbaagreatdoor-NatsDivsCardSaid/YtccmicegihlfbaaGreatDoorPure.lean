/- Plain facts on numbers as lists of parts of 32 bits; no program in sight. -/
namespace Go.Proofs.YtccmicegihlfbaaGreatDoor

/-- Every part is one of 32 bits. -/
def U32 (l : List Int) : Prop := ∀ x ∈ l, 0 ≤ x ∧ x < 4294967296

def val : List Int → Nat
  | [] => 0
  | x :: xs => x.toNat + 4294967296 * val xs

/-- A number may be. -/
def okL (l : List Int) : Bool := l.isEmpty || l.getLastD 1 != 0

def dg (n : Nat) : List Int :=
  if h : n = 0 then [] else ((n % 4294967296 : Nat) : Int) :: dg (n / 4294967296)
termination_by n
decreasing_by omega

/-- A number, or 0. -/
def fineL (l : List Int) : List Int := if okL l then l else []
def nv (l : List Int) : Nat := val (fineL l)

theorem U32.nil : U32 [] := fun _ h => by cases h
theorem U32.cons {x : Int} {l : List Int} (h : U32 (x :: l)) : (0 ≤ x ∧ x < 4294967296) ∧ U32 l :=
  ⟨h x (by simp), fun y hy => h y (by simp [hy])⟩
theorem U32.mk {x : Int} {l : List Int} (h0 : 0 ≤ x) (h1 : x < 4294967296) (h : U32 l) : U32 (x :: l) := by
  intro y hy
  rcases List.mem_cons.1 hy with rfl | hy
  · exact ⟨h0, h1⟩
  · exact h y hy
theorem U32.getD {l : List Int} (h : U32 l) (i : Nat) : 0 ≤ l.getD i 0 ∧ l.getD i 0 < 4294967296 := by
  rw [List.getD_eq_getElem?_getD]
  by_cases hi : i < l.length
  · rw [List.getElem?_eq_getElem hi]; exact h _ (List.getElem_mem hi)
  · rw [List.getElem?_eq_none (by omega)]; simp
theorem U32.take {l : List Int} (h : U32 l) (n : Nat) : U32 (l.take n) := fun x hx => h x (List.mem_of_mem_take hx)
theorem U32.drop {l : List Int} (h : U32 l) (n : Nat) : U32 (l.drop n) := fun x hx => h x (List.mem_of_mem_drop hx)
theorem U32.append {l m : List Int} (h : U32 l) (k : U32 m) : U32 (l ++ m) := fun x hx => (List.mem_append.1 hx).elim (h x) (k x)
theorem U32.set {l : List Int} (h : U32 l) (i : Nat) {x : Int} (h0 : 0 ≤ x) (h1 : x < 4294967296) : U32 (l.set i x) := fun y hy => by
  rcases List.mem_or_eq_of_mem_set hy with hy | rfl
  · exact h y hy
  · exact ⟨h0, h1⟩
theorem U32.replicate (n : Nat) : U32 (List.replicate n 0) := fun x hx => by
  rw [(List.mem_replicate.1 hx).2]; exact ⟨by decide, by decide⟩

theorem val_nil : val [] = 0 := rfl
theorem val_cons (x : Int) (l : List Int) : val (x :: l) = x.toNat + 4294967296 * val l := rfl
theorem val_append (l m : List Int) : val (l ++ m) = val l + 4294967296 ^ l.length * val m := by
  induction l with
  | nil => simp [val]
  | cons x l ih =>
    simp only [List.cons_append, val_cons, ih, List.length_cons, Nat.pow_succ]
    rw [Nat.mul_add, ← Nat.mul_assoc, Nat.mul_comm 4294967296 (4294967296 ^ l.length)]
    omega
theorem val_zeros (n : Nat) : val (List.replicate n 0) = 0 := by
  induction n with
  | zero => rfl
  | succ n ih => rw [List.replicate_succ, val_cons, ih]; rfl
theorem val_lt {l : List Int} (h : U32 l) : val l < 4294967296 ^ l.length := by
  induction l with
  | nil => simp [val]
  | cons x l ih =>
    obtain ⟨hx, hl⟩ := h.cons
    have := ih hl
    rw [val_cons, List.length_cons, Nat.pow_succ]
    have hx' : x.toNat < 4294967296 := by omega
    have h2 : val l + 1 ≤ 4294967296 ^ l.length := this
    have h3 := Nat.mul_le_mul_left 4294967296 h2
    rw [Nat.mul_comm (4294967296 ^ l.length)]
    omega
theorem val_take_succ (l : List Int) (i : Nat) (hi : i < l.length) : val (l.take (i + 1)) = val (l.take i) + 4294967296 ^ i * (l.getD i 0).toNat := by
  rw [List.take_succ_eq_append_getElem hi, val_append, List.length_take, Nat.min_eq_left (by omega), List.getD_eq_getElem?_getD, List.getElem?_eq_getElem hi]
  simp [val]

theorem dg_zero : dg 0 = [] := by rw [dg]; simp
theorem dg_pos {n : Nat} (h : n ≠ 0) : dg n = ((n % 4294967296 : Nat) : Int) :: dg (n / 4294967296) := by rw [dg]; simp [h]
theorem val_dg (n : Nat) : val (dg n) = n := by
  induction n using Nat.strongRecOn with
  | _ n ih =>
    by_cases h : n = 0
    · subst h; rw [dg_zero]; rfl
    · rw [dg_pos h, val_cons, ih _ (by omega), Int.toNat_natCast]; omega
theorem U32_dg (n : Nat) : U32 (dg n) := by
  induction n using Nat.strongRecOn with
  | _ n ih =>
    by_cases h : n = 0
    · subst h; rw [dg_zero]; exact U32.nil
    · rw [dg_pos h]; exact U32.mk (by omega) (by omega) (ih _ (by omega))
theorem dg_eq_nil {n : Nat} : dg n = [] ↔ n = 0 := by
  constructor
  · intro h
    by_cases h0 : n = 0
    · exact h0
    · rw [dg_pos h0] at h; cases h
  · rintro rfl; exact dg_zero
theorem okL_nil : okL [] = true := rfl
theorem okL_cons_cons (x y : Int) (l : List Int) : okL (x :: y :: l) = okL (y :: l) := by simp [okL, List.getLastD]
theorem okL_one (x : Int) : okL [x] = (x != 0) := by simp [okL, List.getLastD]
theorem okL_dg (n : Nat) : okL (dg n) = true := by
  induction n using Nat.strongRecOn with
  | _ n ih =>
    by_cases h : n = 0
    · subst h; rw [dg_zero]; rfl
    · have h1 := ih (n / 4294967296) (by omega)
      rw [dg_pos h]
      by_cases h2 : n / 4294967296 = 0
      · rw [h2, dg_zero, okL_one]; simp; omega
      · rw [dg_pos h2] at h1 ⊢; rw [okL_cons_cons]; exact h1
theorem val_pos_of_ok {l : List Int} (h : U32 l) (hk : okL l = true) (hn : l ≠ []) : 0 < val l := by
  induction l with
  | nil => exact absurd rfl hn
  | cons x l ih =>
    obtain ⟨hx, hl⟩ := h.cons
    cases l with
    | nil => rw [okL_one] at hk; simp at hk; rw [val_cons]; omega
    | cons y l => rw [okL_cons_cons] at hk; have := ih hl hk (by simp); rw [val_cons]; omega
theorem dg_val {l : List Int} (h : U32 l) (hk : okL l = true) : dg (val l) = l := by
  induction l with
  | nil => rw [val_nil, dg_zero]
  | cons x l ih =>
    obtain ⟨hx, hl⟩ := h.cons
    have hp := val_pos_of_ok h hk (by simp)
    rw [dg_pos (by omega), val_cons]
    have hkl : okL l = true := by
      cases l with
      | nil => rfl
      | cons y l => rw [okL_cons_cons] at hk; exact hk
    rw [show (x.toNat + 4294967296 * val l) / 4294967296 = val l by omega, ih hl hkl]
    congr 1
    omega
theorem fineL_of_ok {l : List Int} (h : okL l = true) : fineL l = l := by simp [fineL, h]
theorem fineL_of_not {l : List Int} (h : okL l = false) : fineL l = [] := by simp [fineL, h]
theorem U32_fine {l : List Int} (h : U32 l) : U32 (fineL l) := by unfold fineL; split; exact h; exact U32.nil
theorem okL_fine (l : List Int) : okL (fineL l) = true := by unfold fineL; split; assumption; rfl
theorem dg_nv {l : List Int} (h : U32 l) : dg (nv l) = fineL l := dg_val (U32_fine h) (okL_fine l)
theorem nv_ok {l : List Int} (h : okL l = true) : nv l = val l := by rw [nv, fineL_of_ok h]
theorem nv_dg (n : Nat) : nv (dg n) = n := by rw [nv_ok (okL_dg n), val_dg]
theorem fineL_length (l : List Int) : (fineL l).length ≤ l.length := by unfold fineL; split <;> simp
/-- Two lists that may be are one, if their numbers are. -/
theorem ok_ext {l m : List Int} (hl : U32 l) (hm : U32 m) (kl : okL l = true) (km : okL m = true) (h : val l = val m) : l = m := by
  rw [← dg_val hl kl, ← dg_val hm km, h]
theorem dg_length_le {n k : Nat} (h : n < 4294967296 ^ k) : (dg n).length ≤ k := by
  induction k generalizing n with
  | zero => have : n = 0 := by simpa using h
            subst this; rw [dg_zero]; simp
  | succ k ih =>
    by_cases h0 : n = 0
    · subst h0; rw [dg_zero]; simp
    · rw [dg_pos h0, List.length_cons]
      have : n / 4294967296 < 4294967296 ^ k := by rw [Nat.pow_succ] at h; exact Nat.div_lt_of_lt_mul (by rw [Nat.mul_comm]; exact h)
      have := ih this
      omega
theorem lt_dg_length (n : Nat) : n < 4294967296 ^ (dg n).length := by
  have := val_lt (U32_dg n); rwa [val_dg] at this
theorem dg_length_mono {m n : Nat} (h : m ≤ n) : (dg m).length ≤ (dg n).length := dg_length_le (Nat.lt_of_le_of_lt h (lt_dg_length n))
theorem dg_length_mul (m n : Nat) : (dg (m * n)).length ≤ (dg m).length + (dg n).length := by
  apply dg_length_le
  rw [Nat.pow_add]
  exact Nat.mul_lt_mul'' (lt_dg_length m) (lt_dg_length n)
theorem dg_length_add (m n : Nat) : (dg (m + n)).length ≤ max (dg m).length (dg n).length + 1 := by
  apply dg_length_le
  have h1 := Nat.lt_of_lt_of_le (lt_dg_length m) (Nat.pow_le_pow_right (by decide : 4294967296 > 0) (Nat.le_max_left (dg m).length (dg n).length))
  have h2 := Nat.lt_of_lt_of_le (lt_dg_length n) (Nat.pow_le_pow_right (by decide : 4294967296 > 0) (Nat.le_max_right (dg m).length (dg n).length))
  rw [Nat.pow_succ]; omega
theorem dg_length_nv {l : List Int} (h : U32 l) : (dg (nv l)).length ≤ l.length := by rw [dg_nv h]; exact fineL_length l
theorem okL_snoc (l : List Int) (x : Int) : okL (l ++ [x]) = (x != 0) := by
  induction l with
  | nil => exact okL_one x
  | cons y l ih => cases l with
    | nil => rw [List.cons_append, List.nil_append, okL_cons_cons, okL_one]
    | cons z l => rw [List.cons_append, List.cons_append, okL_cons_cons]; exact ih
theorem okL_take {l : List Int} {n : Nat} (hn : n < l.length) : okL (l.take (n + 1)) = (l.getD n 0 != 0) := by
  rw [List.take_succ_eq_append_getElem hn, okL_snoc, List.getD_eq_getElem?_getD, List.getElem?_eq_getElem hn]; rfl
theorem okL_getD {l : List Int} (hn : 0 < l.length) : okL l = (l.getD (l.length - 1) 0 != 0) := by
  have := okL_take (l := l) (n := l.length - 1) (by omega)
  rwa [show l.length - 1 + 1 = l.length by omega, List.take_length] at this
end Go.Proofs.YtccmicegihlfbaaGreatDoor
