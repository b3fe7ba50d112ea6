/- Rows that may be added to; which block a slice may write; what two share. -/
import Derived.Test.YtccmicegihlfbaaGreatDoorN8
set_option linter.unusedVariables false
set_option linter.unusedSimpArgs false
namespace Go.Proofs.YtccmicegihlfbaaGreatDoor
open Go.RowKit

/-- The block in which a slice has room. -/
def bk : Value → Option Nat
  | .slice (some a) _ c => if c = 0 then none else some a.block
  | _ => none
/-- Two slices have room in no common block. -/
def Dj (x y : Value) : Prop := ∀ g, bk x = some g → bk y ≠ some g
theorem Dj.symm {x y : Value} (h : Dj x y) : Dj y x := fun g h1 h2 => h g h2 h1
theorem Dj.of_none {x y : Value} (h : bk x = none) : Dj x y := fun g h1 => by rw [h] at h1; cases h1
theorem Dj.of_none' {x y : Value} (h : bk y = none) : Dj x y := (Dj.of_none h).symm
theorem Dj.lt {x y : Value} {H : Nat} (h1 : ∀ g, bk x = some g → g < H) (h2 : ∀ g, bk y = some g → H ≤ g) : Dj x y := fun g ha hb => by
  have := h1 g ha; have := h2 g hb; omega
theorem bk_nil (A : Option Addr) (m : Nat) : bk (.slice A m 0) = none := by cases A <;> rfl
theorem bk_nil' : bk (.slice none 0 0) = none := rfl
theorem bk_some {g m c : Nat} (h : 0 < c) : bk (.slice (some ⟨g, 0, none⟩) m c) = some g := by simp [bk]; omega
theorem bk_le {g m c k : Nat} (h : bk (.slice (some ⟨g, 0, none⟩) m c) = some k) : k = g := by
  simp only [bk] at h
  split at h
  · cases h
  · cases h; rfl
theorem ON.bkB {B : Nat} {w : World} {v : Value} {l : List Int} (h : ON B w v l) : ∀ g, bk v = some g → B ≤ g ∧ g < w.heap.size := by
  intro g hg
  rcases h.2 with ⟨A, rfl⟩ | ⟨g', m, c, cs, rfl, h2, h3, _⟩
  · rw [bk_nil] at hg; cases hg
  · have := bk_le hg; subst this; exact ⟨h2, h3.lt⟩

/-- The first m elements of v are the cells xs; behind them v has no room, or room in a block from B on that is nobody else's. -/
def Row (B : Nat) (e : TypeId) (sz : Nat) (w : World) (v : Value) (m : Nat) (xs : List Value) : Prop :=
  xs.length = m * sz ∧ ((m = 0 ∧ ∃ A, v = .slice A 0 0) ∨ ∃ g c cs, v = .slice (some ⟨g, 0, none⟩) m c ∧ 0 < c ∧ B ≤ g ∧ Blk w g cs e ∧ m ≤ c ∧ c ≤ 9223372036854775807 ∧ c * sz ≤ cs.length ∧ cs.take (m * sz) = xs)
section
variable {B : Nat} {e : TypeId} {sz : Nat} {w w' : World} {v : Value} {m : Nat} {xs : List Value}
theorem Row.nil (B : Nat) (e : TypeId) (sz : Nat) (w : World) : Row B e sz w (.slice none 0 0) 0 [] := ⟨by simp, .inl ⟨rfl, none, rfl⟩⟩
theorem Row.bkB (h : Row B e sz w v m xs) : ∀ g, bk v = some g → B ≤ g ∧ g < w.heap.size := by
  intro g hg
  rcases h.2 with ⟨_, A, rfl⟩ | ⟨g', c, cs, rfl, h1, h2, h3, _⟩
  · rw [bk_nil] at hg; cases hg
  · have := bk_le hg; subst this; exact ⟨h2, h3.lt⟩
theorem Row.below (h : Row B e sz w v m xs) (hb : Below w.heap.size w w') : Row B e sz w' v m xs := by
  refine ⟨h.1, ?_⟩
  rcases h.2 with h | ⟨g', c, cs, h0, h1, h2, h3, h4⟩
  · exact .inl h
  · exact .inr ⟨g', c, cs, h0, h1, h2, h3.below hb, h4⟩
theorem Row.upd {g : Nat} (h : Row B e sz w v m xs) (hu : Upd g w w') (hg : ∀ k, bk v = some k → k ≠ g) : Row B e sz w' v m xs := by
  refine ⟨h.1, ?_⟩
  rcases h.2 with h | ⟨g', c, cs, rfl, h1, h2, h3, h4⟩
  · exact .inl h
  · exact .inr ⟨g', c, cs, rfl, h1, h2, h3.upd hu (hg _ (bk_some h1)), h4⟩
theorem Row.mono {B' : Nat} (h : Row B e sz w v m xs) (hB : B' ≤ B) : Row B' e sz w v m xs := by
  refine ⟨h.1, ?_⟩
  rcases h.2 with h | ⟨g', c, cs, h0, h1, h2, h3⟩
  · exact .inl h
  · exact .inr ⟨g', c, cs, h0, h1, by omega, h3⟩
theorem Row.len (h : Row B e sz w v m xs) : SlLen v m := by
  rcases h.2 with ⟨rfl, A, rfl⟩ | ⟨g', c, cs, rfl, _⟩
  · exact ⟨_, _, rfl⟩
  · exact ⟨_, _, rfl⟩
/-- The cells of the j-th element. -/
theorem Row.at_ (h : Row B e sz w v m xs) {j : Nat} (hj : j < m) : ∃ ad, SlAt v m sz j ad ∧ (∃ g c, v = .slice (some ⟨g, 0, none⟩) m c ∧ 0 < c ∧ ad = ⟨g, j * sz, none⟩) ∧ ∀ i, i < sz → w.cell? (ad.add i) = xs[j * sz + i]? := by
  rcases h.2 with ⟨rfl, A, rfl⟩ | ⟨g, c, cs, rfl, h1, h2, h3, h4, h5, h6, h7⟩
  · omega
  · refine ⟨⟨g, j * sz, none⟩, ⟨⟨g, 0, none⟩, c, rfl, hj, by rw [add_plain]; simp⟩, ⟨g, c, rfl, h1, rfl⟩, fun i hi => ?_⟩
    rw [add_plain, h3.cell, ← h7, List.getElem?_take_of_lt]
    have : (j + 1) * sz ≤ m * sz := Nat.mul_le_mul_right _ hj
    rw [Nat.add_mul] at this
    omega
theorem Row.grown {row : Option Nat} (h : Row B e sz w v m xs) (hg : w.grownBy w' row) (hne : ∀ k, bk v = some k → some k ≠ row) : Row B e sz w' v m xs := by
  refine ⟨h.1, ?_⟩
  rcases h.2 with h | ⟨g', c, cs, rfl, h1, h2, h3, h4⟩
  · exact .inl h
  · exact .inr ⟨g', c, cs, rfl, h1, h2, h3.grown hg (hne _ (bk_some h1)), h4⟩
theorem ON.row {l : List Int} (h : ON B w v l) : Row B 106 1 w v l.length (nums .u32 l) := by
  refine ⟨by rw [nums_len]; omega, ?_⟩
  obtain ⟨⟨hu, A, c, hv, h1, h2, h3⟩, ho⟩ := h
  rcases ho with ⟨A', rfl⟩ | ⟨g, m, c', cs, rfl, g2, g3, g4, g5, g6⟩
  · simp only [Value.slice.injEq] at hv; exact .inl ⟨by omega, _, rfl⟩
  · cases hv
    by_cases hc : c = 0
    · subst hc
      exact .inl ⟨by omega, some ⟨g, 0, none⟩, by rw [show l.length = 0 by omega]⟩
    · refine .inr ⟨g, c, cs, rfl, by omega, g2, g3, h1, h2, by omega, ?_⟩
      apply List.ext_getElem?
      intro i
      by_cases hi : i < l.length
      · obtain ⟨ad, hA, _, hc⟩ := h3 i hi
        cases hA
        rw [add_plain, g3.cell] at hc
        rw [List.getElem?_take_of_lt (by omega), nums_get _ _ _ hi, ← hc, Nat.zero_add]
      · rw [List.getElem?_eq_none (by simp; omega), List.getElem?_eq_none (by rw [nums_len]; omega)]
theorem Row.on {l : List Int} {m : Nat} (h : Row B 106 1 w v m (nums .u32 l)) (hu : U32 l) : ON B w v l := by
  have hl : l.length = m := by have := h.1; rw [nums_len] at this; omega
  rcases h.2 with ⟨rfl, A, rfl⟩ | ⟨g, c, cs, rfl, h1, h2, h3, h4, h5, h6, h7⟩
  · obtain rfl := List.eq_nil_of_length_eq_zero hl
    exact ⟨RN.nilA _ _ _ _, .inl ⟨A, rfl⟩⟩
  · refine ON.mk h3 hu h2 hl h4 (by omega) h5 (fun j hj => ?_)
    have := nums_get .u32 l j (by omega)
    rw [← h7, List.getElem?_take_of_lt (by omega)] at this
    exact this
end

theorem run_append_Row {P : Program} {w : World} {B : Nat} {t ty e : TypeId} {sz by_ : Nat} {z : Value} {ag : Bool} (hT : P.underlying t = some (.slice e)) (he : TI P e sz by_ z ag) (hz : z.cells.size = sz)
    {v : Value} {m k c : Nat} {xs news : List Value} {a : Addr} (hown : Row B e sz w v m xs) (hk : 0 < k) (hl : news.length = k * sz) (hnews : ∀ j u, news[j]? = some u → w.cell? (a.add j) = some u)
    (h1 : ∀ u ∈ news, u.oneCell' = true) (hm : m + k ≤ 140737488355328) (hb : (m + k) * by_ ≤ 140737488355328) (hbase : B ≤ w.heap.size) :
    ∃ v' w', (Builtin.append_ #[t, t] ty #[v, .slice (some a) k c]).run P w = .ok v' w' ∧ Row B e sz w' v' (m + k) (xs ++ news) ∧ w.grownBy w' (bk v) ∧
      (bk v' = bk v ∨ ∃ g, bk v' = some g ∧ w.heap.size ≤ g ∧ w.grownBy w' none) ∧ (∀ A c', v = .slice A m c' → m + k ≤ c' → v' = .slice A (m + k) c') := by
  obtain ⟨i, hi, hs, hby, hzz⟩ := he.info
  have hlen : (xs ++ news).length = (m + k) * sz := by rw [List.length_append, hown.1, hl, Nat.add_mul]
  have fresh : ∀ (A : Option Addr) (old : Nat), old < m + k → v = .slice A m old → (∀ j u, xs[j]? = some u → ∃ b, A = some b ∧ w.cell? (b.add j) = some u) →
      ∃ v' w', (Builtin.append_ #[t, t] ty #[v, .slice (some a) k c]).run P w = .ok v' w' ∧ Row B e sz w' v' (m + k) (xs ++ news) ∧ w.grownBy w' (bk v) ∧
        (bk v' = bk v ∨ ∃ g, bk v' = some g ∧ w.heap.size ≤ g ∧ w.grownBy w' none) ∧ (∀ A c', v = .slice A m c' → m + k ≤ c' → v' = .slice A (m + k) c') := by
    intro A old ho hv hx
    have hge := grownCap_ge w (m + k) old e
    have hcm : grownCap w (m + k) old e ≤ maxLen := grownCap_le_maxLen w (m + k) old e (by simp only [maxLen]; omega)
    have hcm2 : grownCap w (m + k) old e ≤ 9223372036854775807 := by simp only [maxLen] at hcm; omega
    refine ⟨.slice (some ⟨w.heap.size, 0, none⟩) (m + k) (grownCap w (m + k) old e), w.drew.alloc (.cells (xs.toArray ++ news.toArray ++ Builtin.zeroCells z.cells (grownCap w (m + k) old e - (m + k))) e), ?_, ⟨hlen, .inr ⟨w.heap.size, _, (xs.toArray ++ news.toArray ++ Builtin.zeroCells z.cells (grownCap w (m + k) old e - (m + k))).toList, rfl, by omega, hbase, ⟨?_⟩, hge, hcm2, ?_, ?_⟩⟩, ⟨rfl, rfl, rfl, by simp, fun k' hk' _ => heap_alloc_old w.drew _ hk'⟩,
      .inr ⟨_, bk_some (by omega), Nat.le_refl _, ⟨rfl, rfl, rfl, by simp, fun k' hk' _ => heap_alloc_old w.drew _ hk'⟩⟩, ?_⟩
    · rw [hv]
      cases A with
      | some b =>
        refine run_append_grow (P := P) w t ty e i z hT hi hzz b m old xs (by rw [hs]; exact hown.1) (fun j u hj => ?_) a k c news (by rw [hs]; exact hl) hnews (by omega) (by omega) (by rw [hby]; exact growslice_fits (by omega) hb)
        obtain ⟨b', hb', hc⟩ := hx j u hj
        cases hb'
        exact hc
      | none =>
        have hx0 : xs = [] := by
          cases xs with
          | nil => rfl
          | cons x xs => obtain ⟨b, hb', _⟩ := hx 0 x rfl; cases hb'
        subst hx0
        rcases hown.2 with ⟨rfl, A', hA'⟩ | ⟨g, c', cs, hA', _⟩
        · rw [hv] at hA'
          cases hA'
          have := run_append_nil (P := P) w t ty e i z hT hi hzz a k c news (by rw [hs]; exact hl) hnews hk (by omega) (by rw [hby]; simp only [Nat.zero_add] at hb; omega)
          simpa using this
        · rw [hv] at hA'; cases hA'
    · have := heap_alloc_new w.drew (.cells (xs.toArray ++ news.toArray ++ Builtin.zeroCells z.cells (grownCap w (m + k) old e - (m + k))) e)
      rw [Array.toArray_toList]
      exact this
    · rw [Array.length_toList]
      simp only [Array.size_append, List.size_toArray, size_zeroCells, hz, hown.1, hl, ← Nat.add_mul]
      exact Nat.mul_le_mul_right _ (by omega)
    · simp only [Array.toList_append, List.append_assoc]
      rw [← List.append_assoc, ← hlen]
      exact List.take_left
    · intro A2 c2 h2 h3
      rw [hv] at h2
      cases h2
      omega
  rcases hown.2 with ⟨rfl, A, rfl⟩ | ⟨g, cap, cs, hv, hc0, hbg, hg, hnc, hcm, hcs, htake⟩
  · exact fresh A 0 (by omega) rfl (fun j u hj => by have := List.eq_nil_of_length_eq_zero (by simpa using hown.1 : xs.length = 0); subst this; cases hj)
  · by_cases hroom : m + k ≤ cap
    · subst hv
      have hmul : (m + k) * sz ≤ cap * sz := Nat.mul_le_mul_right _ hroom
      have hfit : m * i.size + news.length ≤ cs.toArray.size := by rw [hl, hs, ← Nat.add_mul]; simp; omega
      have hr := run_append_room (P := P) w t ty e i hT hi g m cap cs.toArray hg.at_ a k c news (by rw [hs]; exact hl) hnews h1 hroom hfit
      rw [hs] at hr
      simp only [List.toList_toArray] at hr
      have hl2 : (List.take (m * sz) cs ++ news ++ List.drop (m * sz + news.length) cs).length = cs.length := by
        rw [Nat.add_mul] at hmul
        simp only [List.length_append, List.length_take, List.length_drop]
        omega
      refine ⟨_, _, hr, ⟨hlen, .inr ⟨g, cap, _, rfl, hc0, hbg, ⟨setRow_heap w g cs.toArray _ e _ hg.at_⟩, hroom, hcm, by rw [hl2]; exact hcs, ?_⟩⟩, ⟨rfl, rfl, rfl, by simp, fun k _ hk => setRow_other w g k _ (fun e => hk (by rw [bk_some hc0, e]))⟩,
        .inl (by rw [bk_some hc0, bk_some hc0]), fun A c' h _ => by cases h; rfl⟩
      rw [htake, ← hlen]
      exact List.take_left
    · refine fresh (some ⟨g, 0, none⟩) cap (by omega) hv (fun j u hj => ⟨_, rfl, ?_⟩)
      have hj2 := (List.getElem?_eq_some_iff.1 hj).1
      rw [← htake] at hj hj2
      rw [add_plain, hg.cell, Nat.zero_add, ← hj, List.getElem?_take_of_lt (by simp at hj2; omega)]
section
variable {P : Program} {n : NF} {ops : Array Oper} {K : (Nat → Value) → World → Prop} {σ : Nat → Value} {w : World} {i : Nat} {rest : List Nat}
variable {d : Nat} {t : TypeId} {p : String} {af : Array Edge} {gd : Option (Nat × Bool)} {x y : Operand}
/-- append(s, x...), x not empty. -/
theorem S_appendR {T e : TypeId} {sz by_ : Nat} {z : Value} {ag : Bool} (hT : P.underlying T = some (.slice e)) (he : TI P e sz by_ z ag) (hz : z.cells.size = sz)
    (ho : ops[i]? = some { dst := some d, op := .call { callee := .builtin .append, args := #[x, y], argTypes := #[T, T] }, type := t, pos := p, after := af, guard := gd }) (hw : wg n ops σ gd = true) (hx : tok n x = true) (hy : tok n y = true)
    {B m k c : Nat} {v : Value} {xs news : List Value} {a : Addr} (hv : sv σ x = v) (hs : sv σ y = .slice (some a) k c) (hown : Row B e sz w v m xs) (hk : 0 < k) (hl : news.length = k * sz)
    (hnews : ∀ j u, news[j]? = some u → w.cell? (a.add j) = some u) (h1 : ∀ u ∈ news, u.oneCell' = true) (hm : m + k ≤ 140737488355328) (hb : (m + k) * by_ ≤ 140737488355328) (hbase : B ≤ w.heap.size)
    (h : ∀ v' w1, Row B e sz w1 v' (m + k) (xs ++ news) → w.grownBy w1 (bk v) → (bk v' = bk v ∨ ∃ g, bk v' = some g ∧ w.heap.size ≤ g ∧ w.grownBy w1 none) → (∀ A c', v = .slice A m c' → m + k ≤ c' → v' = .slice A (m + k) c') → OPS P n ops K rest (upd σ d v') w1) : OPS P n ops K (i :: rest) σ w := by
  obtain ⟨v', w1, hr, h2, h3, h4, h5⟩ := run_append_Row (P := P) (w := w) (t := T) (ty := t) hT he hz hown hk hl hnews h1 hm hb hbase (c := c)
  refine OPS.step ho hw rfl ?_ (h v' w1 h2 h3 h4 h5)
  simp [execOp, resolve, invoke, builtin, eval_act hx, eval_act hy, hv, hs, hr]
end
end Go.Proofs.YtccmicegihlfbaaGreatDoor
