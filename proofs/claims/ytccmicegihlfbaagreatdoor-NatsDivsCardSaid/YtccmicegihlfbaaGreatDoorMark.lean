/- The book's rounds, in plain Lean: what is held for an entry is written, is grown, is told. Printed by mark.py. -/
import Derived.Test.YtccmicegihlfbaaGreatDoorK1
set_option linter.unusedVariables false
set_option linter.unusedSimpArgs false
namespace Go.Proofs.YtccmicegihlfbaaGreatDoor
open Go.RowKit

theorem putAt_app (A rest vs : List Value) (h : vs.length ≤ rest.length) : putAt (A ++ rest) A.length vs = A ++ vs ++ rest.drop vs.length := by simp [putAt]
theorem putAt_take {cs : List Value} {p q : Nat} {vs : List Value} (h : p + vs.length ≤ q) (hq : q ≤ cs.length) : (putAt cs p vs).take q = putAt (cs.take q) p vs := by
  have e : putAt cs p vs = (cs.take p ++ vs) ++ cs.drop (p + vs.length) := rfl
  have hl : (cs.take p ++ vs).length = p + vs.length := by simp; omega
  have hq2 : q = (cs.take p ++ vs).length + (q - (p + vs.length)) := by omega
  rw [e]
  conv => lhs; rw [hq2, List.take_length_add_append]
  simp only [putAt, List.take_take, List.drop_take, Nat.min_eq_left (by omega : p ≤ q)]
theorem putAt_length {cs : List Value} {p : Nat} {vs : List Value} (h : p + vs.length ≤ cs.length) : (putAt cs p vs).length = cs.length := by
  simp [putAt]; omega
theorem Row.put {B : Nat} {e : TypeId} {sz : Nat} {w : World} {g m c p : Nat} {xs : List Value} (h : Row B e sz w (.slice (some ⟨g, 0, none⟩) m c) m xs) (hc : 0 < c) (vs : List Value) (hp : p + vs.length ≤ m * sz) :
    ∃ cs, Blk w g cs e ∧ p + vs.length ≤ cs.length ∧ ∀ w1, Blk w1 g (putAt cs p vs) e → Row B e sz w1 (.slice (some ⟨g, 0, none⟩) m c) m (putAt xs p vs) := by
  rcases h.2 with ⟨h1, A, h2⟩ | ⟨g', c', cs, h0, h1, h2, h3, h4, h5, h6, h7⟩
  · cases h2; omega
  · cases h0
    have hm : m * sz ≤ c * sz := Nat.mul_le_mul_right _ h4
    refine ⟨cs, h3, by omega, fun w1 hb => ⟨by rw [putAt_length (by rw [h.1]; exact hp)]; exact h.1, .inr ⟨g, c, _, rfl, h1, h2, hb, h4, h5, by rw [putAt_length (by omega)]; exact h6, ?_⟩⟩⟩
    rw [putAt_take hp (by omega), h7]
section
variable {P : Program} {n : NF} {ops : Array Oper} {K : (Nat → Value) → World → Prop} {σ : Nat → Value} {w : World} {i : Nat} {rest : List Nat}
variable {d : Nat} {t : TypeId} {p : String} {af : Array Edge} {gd : Option (Nat × Bool)} {x y : Operand}
/-- A store into a row that is held. -/
theorem S_storeR {T : TypeId} {tsz by_ : Nat} {z : Value} {ag : Bool} (hT : TI P T tsz by_ z ag)
    (ho : ops[i]? = some { dst := none, op := .store T x y, type := t, pos := p, after := af, guard := gd }) (hw : wg n ops σ gd = true) (hx : tok n x = true) (hy : tok n y = true)
    {B : Nat} {e : TypeId} {sz g m c q : Nat} {xs : List Value} (hrow : Row B e sz w (.slice (some ⟨g, 0, none⟩) m c) m xs) (hc : 0 < c)
    (ha : sv σ x = .pointer (some ⟨g, q, none⟩)) {v : Value} (hv : sv σ y = v) {vs : List Value} (hvs : v.cells.toList = vs) (hn : vs.length = tsz) (h1 : ∀ u ∈ vs, u.oneCell' = true) (hq : q + vs.length ≤ m * sz)
    (h : ∀ w1, Upd g w w1 → Row B e sz w1 (.slice (some ⟨g, 0, none⟩) m c) m (putAt xs q vs) → OPS P n ops K rest σ w1) : OPS P n ops K (i :: rest) σ w := by
  obtain ⟨cs, hb, hfit, hrow'⟩ := hrow.put hc vs hq
  exact S_store hT ho hw hx hy ha hv hvs hn h1 hb hfit rfl fun w1 hu hb1 => h w1 hu (hrow' w1 hb1)
end
theorem Row.form {B : Nat} {e : TypeId} {sz : Nat} {w : World} {v : Value} {m : Nat} {xs : List Value} (h : Row B e sz w v m xs) (hm : 0 < m) : ∃ g c, v = .slice (some ⟨g, 0, none⟩) m c ∧ 0 < c ∧ bk v = some g ∧ m ≤ c := by
  rcases h.2 with ⟨rfl, A, rfl⟩ | ⟨g, c, cs, rfl, h1, h2, h3, h4, _⟩
  · omega
  · exact ⟨g, c, rfl, h1, bk_some h1, h4⟩

def restI (vI vR : Value) (R X1 : List HE) (h : HE) (X2 : List HE) (O : List OV) : List OV := ovI vI (X1 ++ h :: X2) :: ovH vR R :: (X1.map HE.o ++ (X2.map HE.o ++ R.map HE.o ++ O))
def restR (vI vR : Value) (I X1 : List HE) (h : HE) (X2 : List HE) (O : List OV) : List OV := ovI vI I :: ovH vR (X1 ++ h :: X2) :: ((I.map HE.o ++ X1.map HE.o) ++ (X2.map HE.o ++ O))

/-! #### side I -/
theorem perm_I {vI vR : Value} {I R : List HE} {O : List OV} {X1 X2 : List HE} {h : HE} (hX : I = X1 ++ h :: X2) : (bookL vI vR I R O).Perm (h.o :: restI vI vR R X1 h X2 O) := by
  subst hX
  have e : bookL vI vR (X1 ++ h :: X2) R O = ovI vI (X1 ++ h :: X2) :: ovH vR R :: ((X1.map HE.o) ++ h.o :: (X2.map HE.o ++ R.map HE.o ++ O)) := by simp [bookL]
  rw [e, restI]
  exact (List.Perm.cons _ (List.Perm.cons _ List.perm_middle)).trans ((List.Perm.cons _ (List.Perm.swap _ _ _)).trans (List.Perm.swap _ _ _))
/-- The row held for one entry is another one now. -/
theorem BOOK.putI {B kb : Nat} {w w1 : World} {no : Int} {vI vR : Value} {R X1 X2 : List HE} {h : HE} {o : OV} {O O' : List OV} (hb : BOOK B kb w no vI vR (X1 ++ h :: X2) R O) (hO : O' = O ∨ O' = h.o :: O)
    (ho : O' = O → OWN B w1 (o :: restI vI vR R X1 h X2 O)) (ho2 : O' = h.o :: O → OWN B w1 (o :: h.o :: restI vI vR R X1 h X2 O)) (hk : Blk w1 kb (bookCs no vI vR) 45) (hne : bk o.v ≠ some kb) : BOOK B kb w1 no vI vR (X1 ++ (⟨h.l, h.long, h.no, o⟩ : HE) :: X2) R O' := by
  have hp := perm_I (vI := vI) (vR := vR) (R := R) (O := O) (rfl : X1 ++ h :: X2 = X1 ++ h :: X2)
  have hp2 := perm_I (vI := vI) (vR := vR) (R := R) (O := O) (rfl : X1 ++ (⟨h.l, h.long, h.no, o⟩ : HE) :: X2 = X1 ++ (⟨h.l, h.long, h.no, o⟩ : HE) :: X2)
  have hp3 := perm_I (vI := vI) (vR := vR) (R := R) (O := h.o :: O) (rfl : X1 ++ (⟨h.l, h.long, h.no, o⟩ : HE) :: X2 = X1 ++ (⟨h.l, h.long, h.no, o⟩ : HE) :: X2)
  have er : restI vI vR R X1 (⟨h.l, h.long, h.no, o⟩ : HE) X2 O = restI vI vR R X1 h X2 O := by simp [restI, ovI, ovH, HE.cs]
  have er2 : (restI vI vR R X1 (⟨h.l, h.long, h.no, o⟩ : HE) X2 (h.o :: O)).Perm (h.o :: restI vI vR R X1 h X2 O) := by
    have e : restI vI vR R X1 (⟨h.l, h.long, h.no, o⟩ : HE) X2 (h.o :: O) = ovI vI (X1 ++ h :: X2) :: ovH vR R :: (((X1.map HE.o) ++ (X2.map HE.o ++ R.map HE.o)) ++ h.o :: O) := by simp [restI, ovI, ovH, HE.cs]
    have e2 : restI vI vR R X1 h X2 O = ovI vI (X1 ++ h :: X2) :: ovH vR R :: (((X1.map HE.o) ++ (X2.map HE.o ++ R.map HE.o)) ++ O) := by simp [restI]
    rw [e, e2]
    exact (List.Perm.cons _ (List.Perm.cons _ List.perm_middle)).trans ((List.Perm.cons _ (List.Perm.swap _ _ _)).trans (List.Perm.swap _ _ _))
  have hkb : ∀ p ∈ h.o :: restI vI vR R X1 h X2 O, bk p.v ≠ some kb := fun p hp' => hb.kb p (hp.mem_iff.2 hp')
  rcases hO with rfl | rfl
  · refine ⟨hk, (er ▸ ho rfl : OWN B w1 (o :: restI vI vR R X1 (⟨h.l, h.long, h.no, o⟩ : HE) X2 O')).perm hp2.symm, fun p hp' => ?_⟩
    rcases List.mem_cons.1 (hp2.mem_iff.1 hp') with rfl | hm
    · exact hne
    · rw [er] at hm; exact hkb p (by simp [hm])
  · refine ⟨hk, (ho2 rfl).perm ((List.Perm.cons _ er2.symm).trans hp3.symm), fun p hp' => ?_⟩
    rcases List.mem_cons.1 (hp3.mem_iff.1 hp') with rfl | hm
    · exact hne
    · exact hkb p (er2.mem_iff.1 hm)
/-- An entry's own row is written. -/
theorem BOOK.updI {B kb g : Nat} {w w1 : World} {no : Int} {vI vR : Value} {R X1 X2 : List HE} {h : HE} {o : OV} {O : List OV} (hb : BOOK B kb w no vI vR (X1 ++ h :: X2) R O) (hu : Upd g w w1) (hg : bk h.o.v = some g) (hv : o.v = h.o.v) (hok : o.ok B w1) :
    BOOK B kb w1 no vI vR (X1 ++ (⟨h.l, h.long, h.no, o⟩ : HE) :: X2) R O := by
  have hp := perm_I (vI := vI) (vR := vR) (R := R) (O := O) (rfl : X1 ++ h :: X2 = X1 ++ h :: X2)
  have hkb : bk h.o.v ≠ some kb := hb.kb _ (hp.mem_iff.2 (by simp))
  exact hb.putI (.inl rfl) (fun _ => (hb.own.perm hp).updHead hu hg hv hok) (fun e => by exact absurd e.symm (by simp)) (hb.blk.upd hu (fun e => hkb (by rw [hg, e]))) (by rw [hv]; exact hkb)
/-- An entry's own row is grown. -/
theorem BOOK.growI {B kb : Nat} {w w1 : World} {no : Int} {vI vR : Value} {R X1 X2 : List HE} {h : HE} {o : OV} {O : List OV} (hb : BOOK B kb w no vI vR (X1 ++ h :: X2) R O) (hg : w.grownBy w1 (bk h.o.v)) (hok : o.ok B w1)
    (hc : bk o.v = bk h.o.v ∨ ∃ g, bk o.v = some g ∧ w.heap.size ≤ g ∧ w.grownBy w1 none) : ∃ O', BOOK B kb w1 no vI vR (X1 ++ (⟨h.l, h.long, h.no, o⟩ : HE) :: X2) R O' ∧ ((bk o.v = bk h.o.v ∧ O' = O) ∨ O' = h.o :: O) := by
  have hp := perm_I (vI := vI) (vR := vR) (R := R) (O := O) (rfl : X1 ++ h :: X2 = X1 ++ h :: X2)
  have hkb : bk h.o.v ≠ some kb := hb.kb _ (hp.mem_iff.2 (by simp))
  have hne : bk o.v ≠ some kb := by
    rcases hc with hc | ⟨g, hc, hs, _⟩
    · rw [hc]; exact hkb
    · rw [hc]; intro e; cases e; have := hb.blk.lt; omega
  have hk := hb.blk.grown hg (fun e => hkb e.symm)
  obtain ⟨h1, h2⟩ := (hb.own.perm hp).grow hg hok hc
  rcases h2 with h2 | h2
  · exact ⟨O, hb.putI (.inl rfl) (fun _ => h1) (fun e => by exact absurd e.symm (by simp)) hk hne, .inl ⟨h2, rfl⟩⟩
  · exact ⟨h.o :: O, hb.putI (.inr rfl) (fun e => by exact absurd e (by simp)) (fun _ => h2) hk hne, .inr rfl⟩
/-- An entry is told its longer list. -/
theorem BOOK.longI {B kb g : Nat} {w w1 : World} {no : Int} {vI vR u : Value} {R X1 X2 : List HE} {h : HE} {O : List OV} (hb : BOOK B kb w no vI vR (X1 ++ h :: X2) R O) (hu : Upd g w w1) (hg : bk vI = some g)
    (hr : Row B 158 3 w1 vI (X1 ++ h :: X2).length (putAt ((X1 ++ h :: X2).flatMap HE.cs) (X1.length * 3 + 1) [u])) : BOOK B kb w1 no vI vR (X1 ++ (⟨h.l, u, h.no, h.o⟩ : HE) :: X2) R O := by
  have e : putAt ((X1 ++ h :: X2).flatMap HE.cs) (X1.length * 3 + 1) [u] = (X1 ++ (⟨h.l, u, h.no, h.o⟩ : HE) :: X2).flatMap HE.cs := by
    have e1 : (X1 ++ h :: X2).flatMap HE.cs = (X1.flatMap HE.cs ++ [h.l]) ++ ([h.long, .int .i64 h.no] ++ X2.flatMap HE.cs) := by simp [HE.cs]
    have e2 : X1.length * 3 + 1 = (X1.flatMap HE.cs ++ [h.l]).length := by simp [flat_len HE.cs 3 HE.cs_len]
    rw [e1, e2, putAt_app _ _ _ (by simp)]
    simp [HE.cs]
  rw [e] at hr
  have hne : bk vI ≠ some kb := hb.kb _ (by simp [bookL] : ovI vI (X1 ++ h :: X2) ∈ bookL vI vR (X1 ++ h :: X2) R O)
  have hp : (bookL vI vR (X1 ++ h :: X2) R O).Perm (ovI vI (X1 ++ h :: X2) :: ovH vR R :: ((X1 ++ h :: X2).map HE.o ++ R.map HE.o ++ O)) := by exact List.Perm.refl _
  have h1 := (hb.own.perm hp).updHead (o' := ovI vI (X1 ++ (⟨h.l, u, h.no, h.o⟩ : HE) :: X2)) hu hg rfl (by unfold OV.ok ovI; simp only [List.length_append, List.length_cons] at hr ⊢; exact hr)
  have hp2 : (ovI vI (X1 ++ (⟨h.l, u, h.no, h.o⟩ : HE) :: X2) :: ovH vR R :: ((X1 ++ h :: X2).map HE.o ++ R.map HE.o ++ O)).Perm (bookL vI vR (X1 ++ (⟨h.l, u, h.no, h.o⟩ : HE) :: X2) R O) := by
    have : (X1 ++ (⟨h.l, u, h.no, h.o⟩ : HE) :: X2).map HE.o = (X1 ++ h :: X2).map HE.o := by simp
    unfold bookL
    rw [this]
    try exact List.Perm.refl _
  refine ⟨hb.blk.upd hu (fun e => hne (by rw [hg, e])), h1.perm hp2, fun p hp' => ?_⟩
  rcases List.mem_cons.1 (hp2.mem_iff.2 hp') with rfl | hm
  · exact hne
  · exact hb.kb p (hp.mem_iff.2 (by simp only [List.mem_cons]; exact .inr (List.mem_cons.1 hm)))

/-! #### side R -/
theorem perm_R {vI vR : Value} {I R : List HE} {O : List OV} {X1 X2 : List HE} {h : HE} (hX : R = X1 ++ h :: X2) : (bookL vI vR I R O).Perm (h.o :: restR vI vR I X1 h X2 O) := by
  subst hX
  have e : bookL vI vR I (X1 ++ h :: X2) O = ovI vI I :: ovH vR (X1 ++ h :: X2) :: ((I.map HE.o ++ X1.map HE.o) ++ h.o :: (X2.map HE.o ++ O)) := by simp [bookL]
  rw [e, restR]
  exact (List.Perm.cons _ (List.Perm.cons _ List.perm_middle)).trans ((List.Perm.cons _ (List.Perm.swap _ _ _)).trans (List.Perm.swap _ _ _))
/-- The row held for one entry is another one now. -/
theorem BOOK.putR {B kb : Nat} {w w1 : World} {no : Int} {vI vR : Value} {I X1 X2 : List HE} {h : HE} {o : OV} {O O' : List OV} (hb : BOOK B kb w no vI vR I (X1 ++ h :: X2) O) (hO : O' = O ∨ O' = h.o :: O)
    (ho : O' = O → OWN B w1 (o :: restR vI vR I X1 h X2 O)) (ho2 : O' = h.o :: O → OWN B w1 (o :: h.o :: restR vI vR I X1 h X2 O)) (hk : Blk w1 kb (bookCs no vI vR) 45) (hne : bk o.v ≠ some kb) : BOOK B kb w1 no vI vR I (X1 ++ (⟨h.l, h.long, h.no, o⟩ : HE) :: X2) O' := by
  have hp := perm_R (vI := vI) (vR := vR) (I := I) (O := O) (rfl : X1 ++ h :: X2 = X1 ++ h :: X2)
  have hp2 := perm_R (vI := vI) (vR := vR) (I := I) (O := O) (rfl : X1 ++ (⟨h.l, h.long, h.no, o⟩ : HE) :: X2 = X1 ++ (⟨h.l, h.long, h.no, o⟩ : HE) :: X2)
  have hp3 := perm_R (vI := vI) (vR := vR) (I := I) (O := h.o :: O) (rfl : X1 ++ (⟨h.l, h.long, h.no, o⟩ : HE) :: X2 = X1 ++ (⟨h.l, h.long, h.no, o⟩ : HE) :: X2)
  have er : restR vI vR I X1 (⟨h.l, h.long, h.no, o⟩ : HE) X2 O = restR vI vR I X1 h X2 O := by simp [restR, ovI, ovH, HE.cs]
  have er2 : (restR vI vR I X1 (⟨h.l, h.long, h.no, o⟩ : HE) X2 (h.o :: O)).Perm (h.o :: restR vI vR I X1 h X2 O) := by
    have e : restR vI vR I X1 (⟨h.l, h.long, h.no, o⟩ : HE) X2 (h.o :: O) = ovI vI I :: ovH vR (X1 ++ h :: X2) :: (((I.map HE.o ++ X1.map HE.o) ++ X2.map HE.o) ++ h.o :: O) := by simp [restR, ovI, ovH, HE.cs]
    have e2 : restR vI vR I X1 h X2 O = ovI vI I :: ovH vR (X1 ++ h :: X2) :: (((I.map HE.o ++ X1.map HE.o) ++ X2.map HE.o) ++ O) := by simp [restR]
    rw [e, e2]
    exact (List.Perm.cons _ (List.Perm.cons _ List.perm_middle)).trans ((List.Perm.cons _ (List.Perm.swap _ _ _)).trans (List.Perm.swap _ _ _))
  have hkb : ∀ p ∈ h.o :: restR vI vR I X1 h X2 O, bk p.v ≠ some kb := fun p hp' => hb.kb p (hp.mem_iff.2 hp')
  rcases hO with rfl | rfl
  · refine ⟨hk, (er ▸ ho rfl : OWN B w1 (o :: restR vI vR I X1 (⟨h.l, h.long, h.no, o⟩ : HE) X2 O')).perm hp2.symm, fun p hp' => ?_⟩
    rcases List.mem_cons.1 (hp2.mem_iff.1 hp') with rfl | hm
    · exact hne
    · rw [er] at hm; exact hkb p (by simp [hm])
  · refine ⟨hk, (ho2 rfl).perm ((List.Perm.cons _ er2.symm).trans hp3.symm), fun p hp' => ?_⟩
    rcases List.mem_cons.1 (hp3.mem_iff.1 hp') with rfl | hm
    · exact hne
    · exact hkb p (er2.mem_iff.1 hm)
/-- An entry's own row is written. -/
theorem BOOK.updR {B kb g : Nat} {w w1 : World} {no : Int} {vI vR : Value} {I X1 X2 : List HE} {h : HE} {o : OV} {O : List OV} (hb : BOOK B kb w no vI vR I (X1 ++ h :: X2) O) (hu : Upd g w w1) (hg : bk h.o.v = some g) (hv : o.v = h.o.v) (hok : o.ok B w1) :
    BOOK B kb w1 no vI vR I (X1 ++ (⟨h.l, h.long, h.no, o⟩ : HE) :: X2) O := by
  have hp := perm_R (vI := vI) (vR := vR) (I := I) (O := O) (rfl : X1 ++ h :: X2 = X1 ++ h :: X2)
  have hkb : bk h.o.v ≠ some kb := hb.kb _ (hp.mem_iff.2 (by simp))
  exact hb.putR (.inl rfl) (fun _ => (hb.own.perm hp).updHead hu hg hv hok) (fun e => by exact absurd e.symm (by simp)) (hb.blk.upd hu (fun e => hkb (by rw [hg, e]))) (by rw [hv]; exact hkb)
/-- An entry's own row is grown. -/
theorem BOOK.growR {B kb : Nat} {w w1 : World} {no : Int} {vI vR : Value} {I X1 X2 : List HE} {h : HE} {o : OV} {O : List OV} (hb : BOOK B kb w no vI vR I (X1 ++ h :: X2) O) (hg : w.grownBy w1 (bk h.o.v)) (hok : o.ok B w1)
    (hc : bk o.v = bk h.o.v ∨ ∃ g, bk o.v = some g ∧ w.heap.size ≤ g ∧ w.grownBy w1 none) : ∃ O', BOOK B kb w1 no vI vR I (X1 ++ (⟨h.l, h.long, h.no, o⟩ : HE) :: X2) O' ∧ ((bk o.v = bk h.o.v ∧ O' = O) ∨ O' = h.o :: O) := by
  have hp := perm_R (vI := vI) (vR := vR) (I := I) (O := O) (rfl : X1 ++ h :: X2 = X1 ++ h :: X2)
  have hkb : bk h.o.v ≠ some kb := hb.kb _ (hp.mem_iff.2 (by simp))
  have hne : bk o.v ≠ some kb := by
    rcases hc with hc | ⟨g, hc, hs, _⟩
    · rw [hc]; exact hkb
    · rw [hc]; intro e; cases e; have := hb.blk.lt; omega
  have hk := hb.blk.grown hg (fun e => hkb e.symm)
  obtain ⟨h1, h2⟩ := (hb.own.perm hp).grow hg hok hc
  rcases h2 with h2 | h2
  · exact ⟨O, hb.putR (.inl rfl) (fun _ => h1) (fun e => by exact absurd e.symm (by simp)) hk hne, .inl ⟨h2, rfl⟩⟩
  · exact ⟨h.o :: O, hb.putR (.inr rfl) (fun e => by exact absurd e (by simp)) (fun _ => h2) hk hne, .inr rfl⟩
/-- An entry is told its longer list. -/
theorem BOOK.longR {B kb g : Nat} {w w1 : World} {no : Int} {vI vR u : Value} {I X1 X2 : List HE} {h : HE} {O : List OV} (hb : BOOK B kb w no vI vR I (X1 ++ h :: X2) O) (hu : Upd g w w1) (hg : bk vR = some g)
    (hr : Row B 183 3 w1 vR (X1 ++ h :: X2).length (putAt ((X1 ++ h :: X2).flatMap HE.cs) (X1.length * 3 + 1) [u])) : BOOK B kb w1 no vI vR I (X1 ++ (⟨h.l, u, h.no, h.o⟩ : HE) :: X2) O := by
  have e : putAt ((X1 ++ h :: X2).flatMap HE.cs) (X1.length * 3 + 1) [u] = (X1 ++ (⟨h.l, u, h.no, h.o⟩ : HE) :: X2).flatMap HE.cs := by
    have e1 : (X1 ++ h :: X2).flatMap HE.cs = (X1.flatMap HE.cs ++ [h.l]) ++ ([h.long, .int .i64 h.no] ++ X2.flatMap HE.cs) := by simp [HE.cs]
    have e2 : X1.length * 3 + 1 = (X1.flatMap HE.cs ++ [h.l]).length := by simp [flat_len HE.cs 3 HE.cs_len]
    rw [e1, e2, putAt_app _ _ _ (by simp)]
    simp [HE.cs]
  rw [e] at hr
  have hne : bk vR ≠ some kb := hb.kb _ (by simp [bookL] : ovH vR (X1 ++ h :: X2) ∈ bookL vI vR I (X1 ++ h :: X2) O)
  have hp : (bookL vI vR I (X1 ++ h :: X2) O).Perm (ovH vR (X1 ++ h :: X2) :: ovI vI I :: (I.map HE.o ++ (X1 ++ h :: X2).map HE.o ++ O)) := by exact List.Perm.swap _ _ _
  have h1 := (hb.own.perm hp).updHead (o' := ovH vR (X1 ++ (⟨h.l, u, h.no, h.o⟩ : HE) :: X2)) hu hg rfl (by unfold OV.ok ovH; simp only [List.length_append, List.length_cons] at hr ⊢; exact hr)
  have hp2 : (ovH vR (X1 ++ (⟨h.l, u, h.no, h.o⟩ : HE) :: X2) :: ovI vI I :: (I.map HE.o ++ (X1 ++ h :: X2).map HE.o ++ O)).Perm (bookL vI vR I (X1 ++ (⟨h.l, u, h.no, h.o⟩ : HE) :: X2) O) := by
    have : (X1 ++ (⟨h.l, u, h.no, h.o⟩ : HE) :: X2).map HE.o = (X1 ++ h :: X2).map HE.o := by simp
    unfold bookL
    rw [this]
    exact List.Perm.swap _ _ _
  refine ⟨hb.blk.upd hu (fun e => hne (by rw [hg, e])), h1.perm hp2, fun p hp' => ?_⟩
  rcases List.mem_cons.1 (hp2.mem_iff.2 hp') with rfl | hm
  · exact hne
  · exact hb.kb p (hp.mem_iff.2 (by simp only [List.mem_cons]; exact .inr (List.mem_cons.1 hm)))

/-! ### Marks -/
/-- The cells of one mark: of parts, or of fractions. -/
def MC (k : Bool) (O : List OV) (no : Int) (d : List Value) : Prop :=
  if k then ∃ a, d = [.bool false, .slice none 0 0, a] ∧ ovN a [1000 + no] ∈ O else d = [.int .u32 (1000 + no)]
def ksz (k : Bool) : Nat := if k then 3 else 1
def kty (k : Bool) : TypeId := if k then 70 else 106
def MK (k : Bool) (O : List OV) (no : Int) (m : Nat) (xs : List Value) : Prop := ∃ ds : List (List Value), ds.length = m ∧ xs = ds.flatten ∧ ∀ d ∈ ds, MC k O no d
section
variable {k : Bool} {O O' : List OV} {no : Int} {m : Nat} {xs d : List Value}
theorem MC.mono (h : MC k O no d) (hs : ∀ o ∈ O, o ∈ O') : MC k O' no d := by
  cases k
  · exact h
  · obtain ⟨a, h1, h2⟩ := h
    exact ⟨a, h1, hs _ h2⟩
theorem MC.len (h : MC k O no d) : d.length = ksz k := by
  cases k
  · rw [show d = _ from h]; rfl
  · obtain ⟨a, rfl, _⟩ := h; rfl
theorem MK.mono (h : MK k O no m xs) (hs : ∀ o ∈ O, o ∈ O') : MK k O' no m xs := by
  obtain ⟨ds, h1, h2, h3⟩ := h
  exact ⟨ds, h1, h2, fun d hd => (h3 d hd).mono hs⟩
theorem MK.nil : MK k O no 0 [] := ⟨[], rfl, rfl, fun _ h => by cases h⟩
theorem MK.snoc (h : MK k O no m xs) (hd : MC k O no d) : MK k O no (m + 1) (xs ++ d) := by
  obtain ⟨ds, h1, h2, h3⟩ := h
  refine ⟨ds ++ [d], by simp [h1], by simp [h2], fun e he => ?_⟩
  rcases List.mem_append.1 he with he | he
  · exact h3 e he
  · rw [List.mem_singleton] at he; subst he; exact hd
theorem MK.len (h : MK k O no m xs) : xs.length = m * ksz k := by
  obtain ⟨ds, rfl, rfl, h3⟩ := h
  induction ds with
  | nil => simp
  | cons d ds ih =>
    rw [List.flatten_cons, List.length_append, ih (fun e he => h3 e (by simp [he])), (h3 d (by simp)).len, List.length_cons, Nat.add_mul]
    omega
theorem MK.get (h : MK k O no m xs) {j : Nat} (hj : j < m) : ∃ d, MC k O no d ∧ ∀ i, i < ksz k → xs[j * ksz k + i]? = d[i]? := by
  obtain ⟨ds, rfl, rfl, h3⟩ := h
  induction ds generalizing j with
  | nil => simp at hj
  | cons d ds ih =>
    have hd := (h3 d (by simp)).len
    cases j with
    | zero =>
      refine ⟨d, h3 d (by simp), fun i hi => ?_⟩
      rw [List.flatten_cons, List.getElem?_append_left (by omega)]
      simp
    | succ j =>
      obtain ⟨d', h1, h2⟩ := ih (j := j) (by simpa using hj) (fun e he => h3 e (by simp [he]))
      refine ⟨d', h1, fun i hi => ?_⟩
      rw [List.flatten_cons, List.getElem?_append_right (by rw [hd, Nat.add_mul]; omega), hd, show (j + 1) * ksz k + i - ksz k = j * ksz k + i by rw [Nat.add_mul]; omega]
      exact h2 i hi
end
/-! ### The rounds of an entry -/
def PK (k : Bool) (h : HE) : Prop := h.l = h.o.v ∧ h.long = .slice none 0 0 ∧ (0 ≤ h.no ∧ h.no ≤ 1000000) ∧ h.o.e = kty k ∧ h.o.sz = ksz k ∧ h.o.m ≤ 1000000000
/-- Its first j elements are marked. -/
def PP (k : Bool) (O : List OV) (h : HE) (j : Nat) : Prop := PK k h ∧ j ≤ h.o.m ∧ ∃ xs rest, h.o.xs = xs ++ rest ∧ MK k O h.no j xs
def PF (k : Bool) (O : List OV) (h : HE) : Prop := PK k h ∧ MK k O h.no h.o.m h.o.xs
/-- j marks have been put behind it; the list itself is the head of a row that is held. -/
def PG (k : Bool) (O : List OV) (h : HE) (j : Nat) : Prop :=
  (0 ≤ h.no ∧ h.no ≤ 1000000) ∧ h.o.e = kty k ∧ h.o.sz = ksz k ∧ ∃ m A c, h.l = .slice A m c ∧ m ≤ 1000000000 ∧ h.o.m = m + j ∧ MK k O h.no (m + j) h.o.xs ∧
    ∃ o' : OV, (o' = h.o ∨ o' ∈ O) ∧ o'.sz = ksz k ∧ m ≤ o'.m ∧ (∃ c', o'.v = .slice A o'.m c') ∧ MK k O h.no o'.m o'.xs
def PD (k : Bool) (O : List OV) (h : HE) : Prop := PG k O h 40 ∧ h.long = h.o.v
section
variable {k : Bool} {O O' : List OV} {h : HE}
theorem PF.mono (hp : PF k O h) (hs : ∀ o ∈ O, o ∈ O') : PF k O' h := ⟨hp.1, hp.2.mono hs⟩
theorem PP.mono {j : Nat} (hp : PP k O h j) (hs : ∀ o ∈ O, o ∈ O') : PP k O' h j := by
  obtain ⟨h1, h2, xs, rest, h3, h4⟩ := hp
  exact ⟨h1, h2, xs, rest, h3, h4.mono hs⟩
theorem PG.mono {j : Nat} (hp : PG k O h j) (hs : ∀ o ∈ O, o ∈ O') : PG k O' h j := by
  obtain ⟨h1, h2, h3, m, A, c, h4, h5, h6, h7, h8⟩ := hp
  obtain ⟨o', g1, g2, g3, g4, g5⟩ := h8
  exact ⟨h1, h2, h3, m, A, c, h4, h5, h6, h7.mono hs, o', g1.imp id (hs _), g2, g3, g4, g5.mono hs⟩
theorem PD.mono (hp : PD k O h) (hs : ∀ o ∈ O, o ∈ O') : PD k O' h := ⟨hp.1.mono hs, hp.2⟩
theorem PP.start (hp : PK k h) : PP k O h 0 := ⟨hp, Nat.zero_le _, [], h.o.xs, rfl, MK.nil⟩
theorem PP.step {B : Nat} {w : World} {j : Nat} {d : List Value} (hp : PP k O h j) (hok : h.o.ok B w) (hj : j < h.o.m) (hd : MC k O h.no d) : PP k O ⟨h.l, h.long, h.no, { h.o with xs := putAt h.o.xs (j * ksz k) d }⟩ (j + 1) := by
  obtain ⟨⟨h1, h2, h3, h4, h5, h6⟩, h7, xs, rest, h8, h9⟩ := hp
  refine ⟨⟨h1, h2, h3, h4, h5, h6⟩, hj, xs ++ d, rest.drop d.length, ?_, h9.snoc hd⟩
  have hl := hok.1
  rw [h8, h5, List.length_append, h9.len] at hl
  have hm : (j + 1) * ksz k ≤ h.o.m * ksz k := Nat.mul_le_mul_right _ hj
  rw [Nat.add_mul] at hm
  show putAt h.o.xs (j * ksz k) d = _
  rw [h8, ← h9.len]
  exact putAt_app _ _ _ (by rw [hd.len]; omega)
theorem PP.done {B : Nat} {w : World} (hp : PP k O h h.o.m) (hok : h.o.ok B w) : PF k O h := by
  obtain ⟨h1, h7, xs, rest, h8, h9⟩ := hp
  have hl := hok.1
  have h5 := h1.2.2.2.2.1
  rw [h8, h5, List.length_append, h9.len] at hl
  obtain rfl : rest = [] := List.eq_nil_of_length_eq_zero (by omega)
  rw [List.append_nil] at h8
  exact ⟨h1, h8 ▸ h9⟩
theorem PG.start {B : Nat} {w : World} (hp : PF k O h) (hok : h.o.ok B w) : PG k O h 0 := by
  obtain ⟨⟨h1, h2, h3, h4, h5, h6⟩, h7⟩ := hp
  obtain ⟨A, c, hv⟩ := hok.len
  exact ⟨h3, h4, h5, h.o.m, A, c, by rw [h1, hv], h6, rfl, h7, h.o, .inl rfl, h5, Nat.le_refl _, ⟨c, hv⟩, h7⟩
theorem PG.step {B : Nat} {w w' : World} {j : Nat} {d : List Value} {v' : Value} (hp : PG k O h j) (hok : h.o.ok B w) (hd : MC k O h.no d) (hr : Row B h.o.e h.o.sz w' v' (h.o.m + 1) (h.o.xs ++ d))
    (hO : (bk v' = bk h.o.v ∧ O' = O) ∨ O' = h.o :: O) : PG k O' ⟨h.l, h.long, h.no, ⟨v', h.o.e, h.o.sz, h.o.m + 1, h.o.xs ++ d⟩⟩ (j + 1) := by
  obtain ⟨h1, h2, h3, m, A, c, h4, h5, h6, h7, o', g1, g2, g3, ⟨c', g4⟩, g5⟩ := hp
  have hs : ∀ o ∈ O, o ∈ O' := by
    rcases hO with ⟨_, rfl⟩ | rfl
    · exact fun o ho => ho
    · exact fun o ho => List.mem_cons_of_mem _ ho
  have hnew := (h7.snoc hd).mono hs
  refine ⟨h1, h2, h3, m, A, c, h4, h5, by show h.o.m + 1 = _; omega, hnew, ?_⟩
  rcases g1 with rfl | g1
  · rcases hO with ⟨hb, rfl⟩ | rfl
    · refine ⟨⟨v', h.o.e, h.o.sz, h.o.m + 1, h.o.xs ++ d⟩, .inl rfl, h3, by show m ≤ h.o.m + 1; omega, ?_, by show MK k O' h.no (h.o.m + 1) (h.o.xs ++ d); rw [h6]; exact hnew⟩
      obtain ⟨g, c2, e1, e2, e3, _⟩ := hr.form (by omega)
      refine ⟨c2, ?_⟩
      show v' = .slice A (h.o.m + 1) c2
      rw [e1]
      rcases hok.2 with ⟨_, A', e4⟩ | ⟨g2, c3, cs, e4, e5, _⟩
      · rw [e3, e4, bk_nil] at hb; cases hb
      · rw [e3, e4, bk_some e5] at hb
        cases hb
        rw [g4] at e4
        cases e4
        rfl
    · exact ⟨h.o, .inr (by simp), h3, by omega, ⟨c', g4⟩, g5.mono hs⟩
  · exact ⟨o', .inr (hs _ g1), g2, g3, ⟨c', g4⟩, g5.mono hs⟩
end
/-- What stands at a marked element. -/
theorem MK.at_ {k : Bool} {O : List OV} {no : Int} {w : World} {v : Value} {m j : Nat} {xs : List Value} (hm : MK k O no m xs) (hr : RC 0 0 (ksz k) w v m xs) (hj : j < m) : ∃ ad d, SlAt v m (ksz k) j ad ∧ MC k O no d ∧ CellsAt w ad d := by
  obtain ⟨ad, h1, h2⟩ := hr.at_ hj (by cases k <;> decide)
  obtain ⟨d, h3, h4⟩ := hm.get hj
  exact ⟨ad, d, h1, h3, fun i hi => by rw [h3.len] at hi; rw [h2 i hi, h4 i hi]⟩
theorem PD.long_at {B : Nat} {k : Bool} {O : List OV} {h : HE} {w : World} (hp : PD k O h) (hok : h.o.ok B w) : ∃ m A c, h.l = .slice A m c ∧ m ≤ 1000000000 ∧ SlLen h.long (m + 40) ∧ ∀ j, j < m + 40 → ∃ ad d, SlAt h.long (m + 40) (ksz k) j ad ∧ MC k O h.no d ∧ CellsAt w ad d := by
  obtain ⟨⟨h1, h2, h3, m, A, c, h4, h5, h6, h7, _⟩, h8⟩ := hp
  refine ⟨m, A, c, h4, h5, by rw [h8, ← h6]; exact hok.len, fun j hj => ?_⟩
  have hr : RC 0 0 (ksz k) w h.o.v (m + 40) h.o.xs := by
    have := Row.rc hok
    rw [h3, h6] at this
    exact this.any (Nat.le_refl _)
  rw [h8]
  exact h7.at_ hr hj
theorem PD.l_at {B : Nat} {k : Bool} {O : List OV} {h : HE} {w : World} (hp : PD k O h) (hok : h.o.ok B w) (hO : ∀ o ∈ O, o.ok B w) {m : Nat} {A : Option Addr} {c : Nat} (hl : h.l = .slice A m c) : ∀ j, j < m → ∃ ad d, SlAt h.l m (ksz k) j ad ∧ MC k O h.no d ∧ CellsAt w ad d := by
  obtain ⟨⟨h1, h2, h3, m', A', c', h4, h5, h6, h7, o', g1, g2, g3, ⟨c2, g4⟩, g5⟩, h8⟩ := hp
  rw [hl] at h4
  cases h4
  intro j hj
  have hok' : o'.ok B w := by
    rcases g1 with rfl | g1
    · exact hok
    · exact hO _ g1
  have hr : RC 0 0 (ksz k) w o'.v o'.m o'.xs := by
    have := Row.rc hok'
    rw [g2] at this
    exact this.any (Nat.le_refl _)
  obtain ⟨ad, d, e1, e2, e3⟩ := g5.at_ hr (Nat.lt_of_lt_of_le hj g3)
  refine ⟨ad, d, ?_, e2, e3⟩
  rw [g4] at e1
  obtain ⟨ad0, c3, e4, e5, e6⟩ := e1
  cases e4
  exact ⟨ad0, c, hl, hj, e6⟩
theorem PK.form {B : Nat} {k : Bool} {h : HE} {w : World} (hp : PK k h) (hok : h.o.ok B w) : ∃ A m c n xs, h = ⟨.slice A m c, .slice none 0 0, n, ⟨.slice A m c, kty k, ksz k, m, xs⟩⟩ ∧ (0 ≤ n ∧ n ≤ 1000000) ∧ m ≤ 1000000000 := by
  obtain ⟨l, long, no, ⟨v, e, sz, m, xs⟩⟩ := h
  obtain ⟨h1, h2, h3, h4, h5, h6⟩ := hp
  obtain ⟨A, c, hv⟩ := hok.len
  simp only at h1 h2 h3 h4 h5 h6 hv
  subst h1 h2 h4 h5 hv
  exact ⟨A, m, c, no, xs, rfl, h3, h6⟩
theorem cs_at {a b : Nat} {w : World} {v : Value} {X1 X2 : List HE} {h : HE} (hr : RC a b 3 w v (X1 ++ h :: X2).length ((X1 ++ h :: X2).flatMap HE.cs)) : ∃ ad, SlAt v (X1 ++ h :: X2).length 3 X1.length ad ∧ CellsAt w ad h.cs := by
  obtain ⟨ad, h1, h2⟩ := hr.at_ (j := X1.length) (by simp) (by omega)
  refine ⟨ad, h1, fun i hi => ?_⟩
  rw [HE.cs_len] at hi
  rw [h2 i hi, flat_get HE.cs 3 HE.cs_len _ _ _ hi]
  simp
theorem BOOK.atI {B kb : Nat} {w : World} {no : Int} {vI vR : Value} {X1 X2 R : List HE} {h : HE} {O : List OV} (hb : BOOK B kb w no vI vR (X1 ++ h :: X2) R O) : ∃ ad, SlAt vI (X1 ++ h :: X2).length 3 X1.length ad ∧ CellsAt w ad h.cs := cs_at hb.rowI.rc
theorem BOOK.atR {B kb : Nat} {w : World} {no : Int} {vI vR : Value} {X1 X2 I : List HE} {h : HE} {O : List OV} (hb : BOOK B kb w no vI vR I (X1 ++ h :: X2) O) : ∃ ad, SlAt vR (X1 ++ h :: X2).length 3 X1.length ad ∧ CellsAt w ad h.cs := cs_at hb.rowH.rc
theorem BOOK.okI {B kb : Nat} {w : World} {no : Int} {vI vR : Value} {I R : List HE} {h : HE} {O : List OV} (hb : BOOK B kb w no vI vR I R O) (hh : h ∈ I) : h.o.ok B w := hb.own.ok _ (by
  simp only [bookL, List.mem_cons, List.mem_append, List.mem_map]; exact .inr (.inr (.inl (.inl ⟨h, hh, rfl⟩))))
theorem BOOK.okR {B kb : Nat} {w : World} {no : Int} {vI vR : Value} {I R : List HE} {h : HE} {O : List OV} (hb : BOOK B kb w no vI vR I R O) (hh : h ∈ R) : h.o.ok B w := hb.own.ok _ (by
  simp only [bookL, List.mem_cons, List.mem_append, List.mem_map]; exact .inr (.inr (.inl (.inr ⟨h, hh, rfl⟩))))
theorem BOOK.okO {B kb : Nat} {w : World} {no : Int} {vI vR : Value} {I R : List HE} {o : OV} {O : List OV} (hb : BOOK B kb w no vI vR I R O) (ho : o ∈ O) : o.ok B w := hb.own.ok _ (by
  simp only [bookL, List.mem_cons, List.mem_append]; exact .inr (.inr (.inr ho)))
/-- One more row is held, in new memory. -/
theorem BOOK.new {B kb : Nat} {w w1 : World} {no : Int} {vI vR : Value} {I R : List HE} {O : List OV} {o : OV} (h1 : BOOK B kb w no vI vR I R O) (hB : Below w.heap.size w w1) (hn : ∀ g, bk o.v = some g → w.heap.size ≤ g) (ho : o.ok B w1) : BOOK B kb w1 no vI vR I R (o :: O) := by
  have hp : (o :: bookL vI vR I R O).Perm (bookL vI vR I R (o :: O)) := by
    simp only [bookL]
    exact (List.Perm.swap _ _ _).trans (List.Perm.cons _ ((List.Perm.swap _ _ _).trans (List.Perm.cons _ List.perm_middle.symm)))
  refine ⟨h1.blk.below hB, ((h1.own.below hB).addNew ho hn fun a ha g hg => h1.own.lt ha g hg).perm hp, fun p hp' => ?_⟩
  rcases List.mem_cons.1 (hp.mem_iff.2 hp') with rfl | hm
  · intro e
    have := hn kb e
    have := h1.blk.lt
    omega
  · exact h1.kb p hm
theorem BOOK.lt {B kb : Nat} {w : World} {no : Int} {vI vR : Value} {I R : List HE} {O : List OV} (h : BOOK B kb w no vI vR I R O) : ∀ o ∈ bookL vI vR I R O, ∀ g, bk o.v = some g → g < w.heap.size := fun o ho g hg => h.own.lt ho g hg
theorem BOOK.updHi {B kb H g : Nat} {w w1 : World} {no : Int} {vI vR : Value} {I R : List HE} {O : List OV} (h : BOOK B kb w no vI vR I R O) (hu : Upd g w w1) (hlt : ∀ o ∈ bookL vI vR I R O, ∀ g, bk o.v = some g → g < H) (hk : kb < H) (hg : H ≤ g) : BOOK B kb w1 no vI vR I R O :=
  ⟨h.blk.upd hu (by omega), h.own.upd hu (fun o ho e => by have := hlt o ho g e; omega), h.kb⟩
theorem BOOK.memI {vI vR : Value} {I R : List HE} {h : HE} {O : List OV} (hh : h ∈ I) : h.o ∈ bookL vI vR I R O := by
  simp only [bookL, List.mem_cons, List.mem_append, List.mem_map]; exact .inr (.inr (.inl (.inl ⟨h, hh, rfl⟩)))
theorem BOOK.memR {vI vR : Value} {I R : List HE} {h : HE} {O : List OV} (hh : h ∈ R) : h.o ∈ bookL vI vR I R O := by
  simp only [bookL, List.mem_cons, List.mem_append, List.mem_map]; exact .inr (.inr (.inl (.inr ⟨h, hh, rfl⟩)))
theorem PG.le {k : Bool} {O : List OV} {h : HE} {j : Nat} (hp : PG k O h j) : h.o.m ≤ 1000000000 + j := by
  obtain ⟨_, _, _, m, A, c, _, h5, h6, _⟩ := hp
  omega
theorem CellsAt.one {w : World} {ad : Addr} {x : Value} (h : CellsAt w ad [x]) : w.cell? ad = some x := by
  have := h 0 (by simp)
  simpa [Addr.add] using this
theorem list_split {l : List HE} {i : Nat} (hi : i < l.length) : ∃ X1 h X3, l = X1 ++ h :: X3 ∧ X1.length = i := by
  refine ⟨l.take i, l[i], l.drop (i + 1), ?_, by simp; omega⟩
  rw [← List.drop_eq_getElem_cons hi, List.take_append_drop]
theorem PD.form {B : Nat} {k : Bool} {O : List OV} {h : HE} {w : World} (hp : PD k O h) (hok : h.o.ok B w) : ∃ A m c Al cl n o, h = ⟨.slice A m c, .slice Al (m + 40) cl, n, o⟩ ∧ (0 ≤ n ∧ n ≤ 1000000) ∧ m ≤ 1000000000 := by
  obtain ⟨l, long, no, o⟩ := h
  have hlong := PD.long_at hp hok
  obtain ⟨⟨h1, _⟩, _⟩ := hp
  obtain ⟨m, A, c, e1, e2, ⟨Al, cl, e3⟩, _⟩ := hlong
  simp only at e1 e3 h1
  subst e1 e3
  exact ⟨A, m, c, Al, cl, no, o, rfl, h1, e2⟩
theorem PD.long_at' {B : Nat} {k : Bool} {O : List OV} {w : World} {A Al : Option Addr} {m c cl : Nat} {n : Int} {o : OV} (hp : PD k O ⟨.slice A m c, .slice Al (m + 40) cl, n, o⟩) (hok : o.ok B w) {j : Nat} (hj : j < m + 40) : ∃ ad d, SlAt (.slice Al (m + 40) cl) (m + 40) (ksz k) j ad ∧ MC k O n d ∧ CellsAt w ad d := by
  obtain ⟨m', A', c', h4, h5, _, h7⟩ := PD.long_at hp hok
  cases h4
  exact h7 j hj
end Go.Proofs.YtccmicegihlfbaaGreatDoor
