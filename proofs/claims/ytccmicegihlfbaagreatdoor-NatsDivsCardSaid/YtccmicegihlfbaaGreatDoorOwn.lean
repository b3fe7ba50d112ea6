/- Memory that is held: rows, no two in a common block; what a write, an append, an allocation leave of them. -/
import Derived.Test.YtccmicegihlfbaaGreatDoorT1
set_option linter.unusedVariables false
set_option linter.unusedSimpArgs false
namespace Go.Proofs.YtccmicegihlfbaaGreatDoor
open Go.RowKit

/-- A row: its slice, its elements' type and cells each, how many, and the cells. -/
structure OV where
  v : Value
  e : TypeId
  sz : Nat
  m : Nat
  xs : List Value
def OV.ok (B : Nat) (w : World) (o : OV) : Prop := Row B o.e o.sz w o.v o.m o.xs
def OV.dj (a b : OV) : Prop := Dj a.v b.v
theorem OV.dj_symm {a b : OV} (h : a.dj b) : b.dj a := Dj.symm h
/-- All rows of a list are held, each by itself. -/
structure OWN (B : Nat) (w : World) (L : List OV) : Prop where
  ok : ∀ o ∈ L, o.ok B w
  dj : L.Pairwise OV.dj
section
variable {B : Nat} {w w' : World} {L M : List OV} {o o' : OV}
theorem OWN.nil (B : Nat) (w : World) : OWN B w [] := ⟨fun _ h => (by cases h), List.Pairwise.nil⟩
theorem OWN.perm (h : OWN B w L) (hp : L.Perm M) : OWN B w M := ⟨fun o ho => h.ok o (hp.mem_iff.2 ho), (hp.pairwise_iff (fun h => OV.dj_symm h)).1 h.dj⟩
theorem OWN.below (h : OWN B w L) (hb : Below w.heap.size w w') : OWN B w' L := ⟨fun o ho => (h.ok o ho).below hb, h.dj⟩
theorem OWN.lt (h : OWN B w L) (ho : o ∈ L) : ∀ g, bk o.v = some g → g < w.heap.size := fun g hg => ((h.ok o ho).bkB g hg).2
/-- A block is written that none of them holds. -/
theorem OWN.upd {g : Nat} (h : OWN B w L) (hu : Upd g w w') (hg : ∀ o ∈ L, bk o.v ≠ some g) : OWN B w' L := ⟨fun o ho => (h.ok o ho).upd hu (fun k hk e => hg o ho (by rw [hk, e])), h.dj⟩
/-- The first one is written. -/
theorem OWN.updHead {g : Nat} (h : OWN B w (o :: L)) (hu : Upd g w w') (hg : bk o.v = some g) (hv : o'.v = o.v) (hok : o'.ok B w') : OWN B w' (o' :: L) := by
  have hp := List.pairwise_cons.1 h.dj
  refine ⟨fun p hp' => ?_, List.pairwise_cons.2 ⟨fun a ha => by unfold OV.dj; rw [hv]; exact hp.1 a ha, hp.2⟩⟩
  rcases List.mem_cons.1 hp' with rfl | hm
  · exact hok
  · exact (h.ok p (by simp [hm])).upd hu (fun k hk e => hp.1 p hm g hg (by rw [hk, e]))
/-- The first one is grown: in its own block, or in a new one; then the old one is held still. -/
theorem OWN.grow (h : OWN B w (o :: L)) (hg : w.grownBy w' (bk o.v)) (hok : o'.ok B w') (hb : bk o'.v = bk o.v ∨ ∃ g, bk o'.v = some g ∧ w.heap.size ≤ g ∧ w.grownBy w' none) :
    OWN B w' (o' :: L) ∧ (bk o'.v = bk o.v ∨ OWN B w' (o' :: o :: L)) := by
  have hp := List.pairwise_cons.1 h.dj
  have keep : ∀ p ∈ L, p.ok B w' := fun p hm => (h.ok p (by simp [hm])).grown hg (fun k hk e => hp.1 p hm k e.symm hk)
  rcases hb with hb | ⟨g, hb, hsz, hgn⟩
  · refine ⟨⟨fun p hp' => ?_, List.pairwise_cons.2 ⟨fun a ha k hk => hp.1 a ha k (by rw [← hb]; exact hk), hp.2⟩⟩, .inl hb⟩
    rcases List.mem_cons.1 hp' with rfl | hm
    · exact hok
    · exact keep p hm
  · have hd : ∀ a ∈ o :: L, OV.dj o' a := fun a ha k hk hk2 => by
      rw [hb] at hk
      cases hk
      have := h.lt ha _ hk2
      omega
    have h2 : OWN B w' (o' :: o :: L) := by
      refine ⟨fun p hp' => ?_, List.pairwise_cons.2 ⟨hd, h.dj⟩⟩
      rcases List.mem_cons.1 hp' with rfl | hm
      · exact hok
      · exact (h.ok p hm).grown hgn (fun k _ e => by cases e)
    exact ⟨⟨fun p hp' => h2.ok p (by rcases List.mem_cons.1 hp' with rfl | hm <;> simp [*]), List.pairwise_cons.2 ⟨fun a ha => hd a (by simp [ha]), hp.2⟩⟩, .inr h2⟩
/-- One more, in new memory. -/
theorem OWN.add (h : OWN B w L) (hok : o.ok B w) (hd : ∀ a ∈ L, OV.dj o a) : OWN B w (o :: L) :=
  ⟨fun p hp => by rcases List.mem_cons.1 hp with rfl | hm; exact hok; exact h.ok p hm, List.pairwise_cons.2 ⟨hd, h.dj⟩⟩
theorem OWN.addNew {H : Nat} (h : OWN B w L) (hok : o.ok B w) (hn : ∀ g, bk o.v = some g → H ≤ g) (hl : ∀ a ∈ L, ∀ g, bk a.v = some g → g < H) : OWN B w (o :: L) :=
  h.add hok (fun a ha => (Dj.lt (hl a ha) hn).symm)
theorem OWN.tail (h : OWN B w (o :: L)) : OWN B w L := ⟨fun p hp => h.ok p (by simp [hp]), (List.pairwise_cons.1 h.dj).2⟩
theorem OWN.repl (h : OWN B w (o :: L)) (hv : o'.v = o.v) (hok : o'.ok B w) : OWN B w (o' :: L) :=
  ⟨fun p hp => by rcases List.mem_cons.1 hp with rfl | hm; exact hok; exact h.ok p (by simp [hm]), List.pairwise_cons.2 ⟨fun a ha => by unfold OV.dj; rw [hv]; exact (List.pairwise_cons.1 h.dj).1 a ha, (List.pairwise_cons.1 h.dj).2⟩⟩
end
def ovN (v : Value) (l : List Int) : OV := ⟨v, 106, 1, l.length, nums .u32 l⟩
def ovR (v : Value) (es : List RV) : OV := ⟨v, 70, 3, es.length, es.flatMap RV.cs⟩
theorem ON.ov {B : Nat} {w : World} {v : Value} {l : List Int} (h : ON B w v l) : (ovN v l).ok B w := h.row
def ovsR (v : Value) (es : List RV) : List OV := (es.flatMap fun x => [ovN x.vn x.q.n, ovN x.vd x.q.d]) ++ [ovR v es]
theorem ovs_v (es : List RV) : (es.flatMap fun x => [ovN x.vn x.q.n, ovN x.vd x.q.d]).map OV.v = es.flatMap fun x => [x.vn, x.vd] := by
  induction es with
  | nil => rfl
  | cons x es ih => rw [List.flatMap_cons, List.map_append, ih, List.flatMap_cons]; rfl
theorem OL.own {B : Nat} {w : World} {v : Value} {es : List RV} (h : OL B w v es) : OWN B w (ovsR v es) := by
  have hp := List.pairwise_cons.1 h.2.2
  refine OWN.perm (L := ovR v es :: es.flatMap fun x => [ovN x.vn x.q.n, ovN x.vd x.q.d]) ⟨fun o ho => ?_, ?_⟩ (List.perm_append_singleton _ _).symm
  · rcases List.mem_cons.1 ho with rfl | ho
    · exact h.1
    · obtain ⟨x, hx, ho⟩ := List.mem_flatMap.1 ho
      simp only [List.mem_cons, List.not_mem_nil, or_false] at ho
      rcases ho with rfl | rfl
      · exact (h.2.1 x hx).1.ov
      · exact (h.2.1 x hx).2.ov
  · have := h.2.2
    rw [← ovs_v] at this
    have e : v :: (es.flatMap fun x => [ovN x.vn x.q.n, ovN x.vd x.q.d]).map OV.v = (ovR v es :: es.flatMap fun x => [ovN x.vn x.q.n, ovN x.vd x.q.d]).map OV.v := rfl
    rw [e, List.pairwise_map] at this
    exact this
theorem ON.updN {B g : Nat} {w w' : World} {v : Value} {l : List Int} (h : ON B w v l) (hu : Upd g w w') (hn : ∀ k, bk v = some k → k ≠ g) : ON B w' v l := (h.row.upd hu hn).on h.1.u32
theorem OL.updN {B g : Nat} {w w' : World} {v : Value} {es : List RV} (h : OL B w v es) (hu : Upd g w w') (hn : ∀ o ∈ ovsR v es, ∀ k, bk o.v = some k → k ≠ g) : OL B w' v es := by
  refine ⟨h.1.upd hu (hn (ovR v es) (by simp [ovsR])), fun x hx => ⟨(h.2.1 x hx).1.updN hu (hn (ovN x.vn x.q.n) ?_), (h.2.1 x hx).2.updN hu (hn (ovN x.vd x.q.d) ?_)⟩, h.2.2⟩
  · exact List.mem_append_left _ (List.mem_flatMap.2 ⟨x, hx, by simp⟩)
  · exact List.mem_append_left _ (List.mem_flatMap.2 ⟨x, hx, by simp⟩)
theorem OWN.mono {B B' : Nat} {w : World} {L : List OV} (h : OWN B w L) (hB : B' ≤ B) : OWN B' w L := ⟨fun o ho => (h.ok o ho).mono hB, h.dj⟩
theorem OWN.append {B : Nat} {w : World} {L M : List OV} (h1 : OWN B w L) (h2 : OWN B w M) (hd : ∀ a ∈ L, ∀ b ∈ M, OV.dj a b) : OWN B w (L ++ M) :=
  ⟨fun o ho => (List.mem_append.1 ho).elim (h1.ok o) (h2.ok o), List.pairwise_append.2 ⟨h1.dj, h2.dj, hd⟩⟩
theorem OL.ovs_bk {B : Nat} {w : World} {v : Value} {es : List RV} (h : OL B w v es) : ∀ o ∈ ovsR v es, ∀ g, bk o.v = some g → B ≤ g ∧ g < w.heap.size := by
  intro o ho g hg
  refine h.bks o.v ?_ g hg
  rcases List.mem_append.1 ho with ho | ho
  · rw [← ovs_v]
    exact List.mem_cons_of_mem _ (List.mem_map_of_mem ho)
  · simp at ho; subst ho; simp [ovR]

section
variable {P : Program} {n : NF} {ops : Array Oper} {K : (Nat → Value) → World → Prop} {S : World → Prop} {σ : Nat → Value} {w : World} {i fuel : Nat} {listed listed2 : Array Bool}
variable {d : Nat} {t : TypeId} {p : String} {af : Array Edge} {gd : Option (Nat × Bool)} {x y : Operand}
theorem D_build {T : TypeId} {parts : Array (Nat × Operand)} (hsel : Region.noSelect ops = true) (hf0 : Region.free .any ops listed i = true) (hrdy : (Region.ready .any ops listed).contains i = true) (hl2 : listed.setIfInBounds i true = listed2)
    (ho : ops[i]? = some { dst := some d, op := .build T parts, type := t, pos := p, after := af, guard := gd }) (hw : wg n ops σ gd = true)
    (hx : parts.toList.all (fun q => tok n q.2) = true) {cs : List Value} (hf : P.built T (parts.toList.map fun q => (q.1, sv σ q.2)) = some cs.toArray)
    (hS : S w) (h : DRW P n ops K S fuel listed2 (upd σ d (.agg cs.toArray)) w) : DRW P n ops K S (fuel + 1) listed σ w := by
  have hp : (parts.map fun q => (q.1, (act n σ).eval q.2)).toList = parts.toList.map fun q => (q.1, sv σ q.2) := by
    rw [Array.toList_map]
    exact List.map_congr_left fun q hq => by rw [eval_act (List.all_eq_true.1 hx q hq)]
  refine D_take hsel hf0 hrdy hl2 ho hw rfl (fun w' _ => ?_) hS h
  have hr := run_build (P := P) w' T (parts.map fun q => (q.1, (act n σ).eval q.2)) cs.toArray (by rw [hp]; exact hf)
  simp only [execOp]
  show Sem.run P (Next.value <$> Instr.build T (parts.map fun q => (q.1, (act n σ).eval q.2))) w' = _
  simp [hr]
end

/-! ### The book -/
/-- An entry: the list, the longer one, the number; and the row that is held for it. -/
structure HE where
  l : Value
  long : Value
  no : Int
  o : OV
def HE.cs (h : HE) : List Value := [h.l, h.long, .int .i64 h.no]
theorem HE.cs_len (h : HE) : h.cs.length = 3 := rfl
def bookCs (no : Int) (vI vR : Value) : List Value :=
  [.int .i64 no, .slice none 0 0, vI, .slice none 0 0, .slice none 0 0, .slice none 0 0, .slice none 0 0, .slice none 0 0, vR, .slice none 0 0, .slice none 0 0, .slice none 0 0, .slice none 0 0]
def ovI (v : Value) (I : List HE) : OV := ⟨v, 158, 3, I.length, I.flatMap HE.cs⟩
def ovH (v : Value) (I : List HE) : OV := ⟨v, 183, 3, I.length, I.flatMap HE.cs⟩
def bookL (vI vR : Value) (I R : List HE) (O : List OV) : List OV := ovI vI I :: ovH vR R :: (I.map HE.o ++ R.map HE.o ++ O)
structure BOOK (B kb : Nat) (w : World) (no : Int) (vI vR : Value) (I R : List HE) (O : List OV) : Prop where
  blk : Blk w kb (bookCs no vI vR) 45
  own : OWN B w (bookL vI vR I R O)
  kb : ∀ o ∈ bookL vI vR I R O, bk o.v ≠ some kb
section
variable {B kb : Nat} {w w' : World} {no : Int} {vI vR : Value} {I R : List HE} {O : List OV}
theorem BOOK.below (h : BOOK B kb w no vI vR I R O) (hb : Below w.heap.size w w') : BOOK B kb w' no vI vR I R O := ⟨h.blk.below hb, h.own.below hb, h.kb⟩
theorem BOOK.rowI (h : BOOK B kb w no vI vR I R O) : Row B 158 3 w vI I.length (I.flatMap HE.cs) := h.own.ok (ovI vI I) (by simp [bookL])
theorem BOOK.rowH (h : BOOK B kb w no vI vR I R O) : Row B 183 3 w vR R.length (R.flatMap HE.cs) := h.own.ok (ovH vR R) (by simp [bookL])
theorem BOOK.kbI (h : BOOK B kb w no vI vR I R O) : bk vI ≠ some kb := h.kb (ovI vI I) (by simp [bookL])
theorem BOOK.kbH (h : BOOK B kb w no vI vR I R O) : bk vR ≠ some kb := h.kb (ovH vR R) (by simp [bookL])
/-- A list of parts is taken into the book: what the append and the two stores leave. -/
theorem BOOK.keepI {o : OV} {v' : Value} (h : BOOK B kb w no vI vR I R (o :: O)) (hr : Row B 158 3 w' v' (I.length + 1) (I.flatMap HE.cs ++ HE.cs ⟨o.v, .slice none 0 0, no, o⟩))
    (hg : w.grownBy w' (bk vI)) (hb : bk v' = bk vI ∨ ∃ g, bk v' = some g ∧ w.heap.size ≤ g ∧ w.grownBy w' none) :
    OWN B w' (bookL v' vR (I ++ [⟨o.v, .slice none 0 0, no, o⟩]) R O) ∧ (∀ o' ∈ bookL v' vR (I ++ [⟨o.v, .slice none 0 0, no, o⟩]) R O, bk o'.v ≠ some kb) ∧ Blk w' kb (bookCs no vI vR) 45 := by
  have e : (ovI v' (I ++ [⟨o.v, .slice none 0 0, no, o⟩])).ok B w' := by
    have : (I ++ [(⟨o.v, .slice none 0 0, no, o⟩ : HE)]).flatMap HE.cs = I.flatMap HE.cs ++ HE.cs ⟨o.v, .slice none 0 0, no, o⟩ := by simp
    unfold OV.ok ovI
    simp only [this, List.length_append, List.length_cons, List.length_nil]
    exact hr
  have h1 := (h.own.grow (o' := ovI v' (I ++ [⟨o.v, .slice none 0 0, no, o⟩])) hg e hb).1
  have hp : (ovI v' (I ++ [⟨o.v, .slice none 0 0, no, o⟩]) :: ovH vR R :: (I.map HE.o ++ R.map HE.o ++ o :: O)).Perm (bookL v' vR (I ++ [⟨o.v, .slice none 0 0, no, o⟩]) R O) := by
    refine List.Perm.cons _ (List.Perm.cons _ ?_)
    simp only [List.map_append, List.map_cons, List.map_nil, List.append_assoc]
    refine List.Perm.append_left _ ?_
    exact List.perm_middle
  refine ⟨h1.perm hp, fun o' ho' => ?_, h.blk.grown hg (fun e => h.kbI e.symm)⟩
  have hm := hp.mem_iff.2 ho'
  rcases List.mem_cons.1 hm with rfl | hm
  · rcases hb with hb | ⟨g, hb, hs, _⟩
    · show bk v' ≠ _
      rw [hb]; exact h.kbI
    · show bk v' ≠ _
      rw [hb]
      intro e
      cases e
      have := h.blk.lt
      omega
  · exact h.kb o' (by simp only [bookL]; exact List.mem_cons_of_mem _ hm)
theorem BOOK.keepH {o : OV} {v' : Value} (h : BOOK B kb w no vI vR I R (o :: O)) (hr : Row B 183 3 w' v' (R.length + 1) (R.flatMap HE.cs ++ HE.cs ⟨o.v, .slice none 0 0, no, o⟩))
    (hg : w.grownBy w' (bk vR)) (hb : bk v' = bk vR ∨ ∃ g, bk v' = some g ∧ w.heap.size ≤ g ∧ w.grownBy w' none) :
    OWN B w' (bookL vI v' I (R ++ [⟨o.v, .slice none 0 0, no, o⟩]) O) ∧ (∀ o' ∈ bookL vI v' I (R ++ [⟨o.v, .slice none 0 0, no, o⟩]) O, bk o'.v ≠ some kb) ∧ Blk w' kb (bookCs no vI vR) 45 := by
  have e : (ovH v' (R ++ [⟨o.v, .slice none 0 0, no, o⟩])).ok B w' := by
    have : (R ++ [(⟨o.v, .slice none 0 0, no, o⟩ : HE)]).flatMap HE.cs = R.flatMap HE.cs ++ HE.cs ⟨o.v, .slice none 0 0, no, o⟩ := by simp
    unfold OV.ok ovH
    simp only [this, List.length_append, List.length_cons, List.length_nil]
    exact hr
  have h0 : OWN B w (ovH vR R :: ovI vI I :: (I.map HE.o ++ R.map HE.o ++ o :: O)) := h.own.perm (List.Perm.swap _ _ _)
  have h1 := (h0.grow (o' := ovH v' (R ++ [⟨o.v, .slice none 0 0, no, o⟩])) hg e hb).1
  have hp : (ovH v' (R ++ [⟨o.v, .slice none 0 0, no, o⟩]) :: ovI vI I :: (I.map HE.o ++ R.map HE.o ++ o :: O)).Perm (bookL vI v' I (R ++ [⟨o.v, .slice none 0 0, no, o⟩]) O) := by
    refine (List.Perm.swap _ _ _).trans (List.Perm.cons _ (List.Perm.cons _ ?_))
    simp only [List.map_append, List.map_cons, List.map_nil, List.append_assoc]
    refine List.Perm.append_left _ (List.Perm.append_left _ ?_)
    exact List.Perm.refl _
  refine ⟨h1.perm hp, fun o' ho' => ?_, h.blk.grown hg (fun e => h.kbH e.symm)⟩
  have hm := hp.mem_iff.2 ho'
  rcases List.mem_cons.1 hm with rfl | hm
  · rcases hb with hb | ⟨g, hb, hs, _⟩
    · show bk v' ≠ _
      rw [hb]; exact h.kbH
    · show bk v' ≠ _
      rw [hb]
      intro e
      cases e
      have := h.blk.lt
      omega
  · refine h.kb o' ?_
    simp only [bookL]
    rcases List.mem_cons.1 hm with rfl | hm
    · simp
    · exact List.mem_cons_of_mem _ (List.mem_cons_of_mem _ hm)
end
end Go.Proofs.YtccmicegihlfbaaGreatDoor
