/- The rows' frame: arguments that are opened; that read again behind the call as they did. -/
import Derived.Test.YtccmicegihlfbaaGreatDoorRat
import Derived.ProofKit
import Derived.LaidMore
import Derived.OpenShut
import Derived.Stop.Joined
import Derived.SevenTiedAt
import Derived.ReadAgain
import Derived.Deep.Slices
set_option linter.unusedVariables false
set_option linter.unusedSimpArgs false
namespace Go.Proofs.YtccmicegihlfbaaGreatDoor
open Go.ChangeShapes Go.WideShapes Go.ChangeAt Go.RowKit Go.Deep

/-! ### Arguments read again -/
def InSome (P : Program) (t : TypeId) : Prop := ∃ t0, P.readableRec t0 = true ∧ InBook P t0 t
theorem kids_some {P : Program} (hl : laidOutB P = true) : Kids P (InSome P) := by
  refine ⟨?_, ?_, ?_, ?_, ?_⟩
  · rintro t e ⟨t0, hr, hi⟩ hu; exact ⟨t0, hr, (kids_book hl hr).pointer hi hu⟩
  · rintro t e ⟨t0, hr, hi⟩ hu; exact ⟨t0, hr, (kids_book hl hr).slice hi hu⟩
  · rintro t e n ⟨t0, hr, hi⟩ hu; exact ⟨⟨t0, hr, ((kids_book hl hr).array hi hu).1⟩, ((kids_book hl hr).array hi hu).2⟩
  · rintro t fs ⟨t0, hr, hi⟩ hu; exact ⟨fun f hf => ⟨t0, hr, ((kids_book hl hr).struct hi hu).1 f hf⟩, ((kids_book hl hr).struct hi hu).2⟩
  · rintro t k e ⟨t0, hr, hi⟩ hu; exact ⟨t0, hr, (kids_book hl hr).map hi hu⟩
section
variable {H : Type} {enc : TypeId × Value → H} {P : Program} {W W' : World}
theorem same_below (hB : Below W.heap.size W W') {q : MemPlace} (hq : q.block < W.heap.size) : W.sameAt W' q := by
  cases q with
  | cell b off => exact World.cell?_of_block (hB.block b hq)
  | map b => exact hB.block b hq
theorem trod_again (hl : laidOutB P = true) (hz : ∀ t e, t < P.types.size → P.underlying t = some (.slice e) → 0 < P.cellsOf e) (hB : Below W.heap.size W W') {t : TypeId} (ht : InSome P t) {v : Value} {d : DataW H} {p : List MemPlace}
    (h : DataW.Trod enc P W 0 (fun _ => true) true t v d p) (hlt : ∀ q ∈ p, q.block < W.heap.size) {sp : Nat → Bool} (hs : ∀ q ∈ p, sp q.block = true) : DataW.Trod enc P W' 0 sp true t v d p := by
  obtain ⟨n, hn⟩ := h
  refine DataW.Trod.respare (kids_some hl) (fun t e ht hu => ?_) ht ⟨n, DataW.trod_carry n _ _ _ hn (fun q hq => same_below hB (hlt q hq))⟩ hs
  obtain ⟨t0, hr, hi⟩ := ht
  exact hz t e hi.1 hu
theorem trodAll_again (hl : laidOutB P = true) (hz : ∀ t e, t < P.types.size → P.underlying t = some (.slice e) → 0 < P.cellsOf e) (hB : Below W.heap.size W W') : ∀ {ts : List TypeId} {vs : List Value} {ds : List (DataW H)} {p : List MemPlace}, (∀ t ∈ ts, InSome P t) →
    DataW.TrodAll enc P W 0 (fun _ => true) true ts vs ds p → (∀ q ∈ p, q.block < W.heap.size) → ∀ {sp : Nat → Bool}, (∀ q ∈ p, sp q.block = true) → DataW.TrodAll enc P W' 0 sp true ts vs ds p
  | [], _, _, _, _, h, _, _, _ => by obtain ⟨rfl, rfl, rfl⟩ := trodAll_nil h; rfl
  | _ :: _, [], _, _, _, h, _, _, _ => by simp [DataW.TrodAll] at h
  | _ :: _, _ :: _, [], _, _, h, _, _, _ => by simp [DataW.TrodAll] at h
  | _ :: _, _ :: _, _ :: _, _, hT, ⟨p, q, h1, h2, e⟩, hlt, _, hs => by
    subst e
    exact ⟨p, q, trod_again hl hz hB (hT _ (List.mem_cons.2 (.inl rfl))) h1 (fun x hx => hlt x (List.mem_append_left _ hx)) (fun x hx => hs x (List.mem_append_left _ hx)),
      trodAll_again hl hz hB (fun t ht => hT t (List.mem_cons.2 (.inr ht))) h2 (fun x hx => hlt x (List.mem_append_right _ hx)) (fun x hx => hs x (List.mem_append_right _ hx)), rfl⟩
/-- True; the arguments read as they did. -/
theorem post_true {f : Func} {s : ChangeSpec} {args : Array Value} {ds : List (DataW H)} {p : List MemPlace} {t : TypeId} (hl : laidOutB P = true) (hz : ∀ t e, t < P.types.size → P.underlying t = some (.slice e) → 0 < P.cellsOf e)
    (hW : DataW.Whole enc P f.params.toList s.vars false W args.toList ds [] p) (hv : s.vars = []) (hspec : s.fn H (ds ++ []) = { results := [.lit (.bool true)], args := ds }) (hf : f.resultTypes = #[t]) (ht : P.underlying t = some .bool)
    (hT : ∀ u ∈ f.params.toList, InSome P u) (hB : Below W.heap.size W W') : s.post enc P f false true false false W args (.bool true) W' := by
  have hlt := hW.lt
  have hW' := hW
  obtain ⟨a, b, h1, h2, rfl, hfz, hnd⟩ := hW
  rw [hv] at h2
  obtain ⟨-, rfl⟩ := trodVars_none h2
  rw [List.append_nil] at hlt hW'
  refine ⟨ds, [], _, [], a, [], hW', ?_, ?_, ?_, hB.frame _, fun h => by cases h⟩
  · rw [hspec, hf]; exact trodAll_mk1 (shut_bool ht true)
  · rw [hspec]; exact trodAll_again hl hz hB hT h1 hlt (fun q hq => by simpa using hlt q hq)
  · rw [hspec, hv]; rfl

/-! ### Arguments opened -/
theorem rn_of_trod {n : Nat} {t e : TypeId} {base : Nat} {sp : Nat → Bool} {held : Bool} {v : Value} {x : DataW H × List MemPlace} (ht : P.underlying t = some (.slice e)) (he : P.underlying e = some (.int .u32)) (hc : P.cellsOf e = 1)
    (h : DataW.trod enc P W base sp held n t [v] = some x) : ∃ l, RN 0 0 W v l := by
  rcases open_slice1 ht hc h with ⟨h0, _⟩ | ⟨a, len, cap, m, k, V, D, Pl, h0, hb, hle, hm, hmm, _, hV⟩
  · simp only [List.cons.injEq, and_true] at h0
    subst h0
    exact ⟨[], RN.nil _ _ _⟩
  · simp only [List.cons.injEq, and_true] at h0
    subst h0
    have hlm : len ≤ m := by rw [hmm]; split <;> omega
    have key : ∀ i, i < len → ∃ z : Int, V i = .int .u32 z ∧ 0 ≤ z ∧ z < 4294967296 := fun i hi => by
      obtain ⟨_, h2⟩ := hV i (by omega)
      obtain ⟨z, hz, _, hw⟩ := DataW.trod_int he h2
      simp only [List.cons.injEq, and_true] at hz
      refine ⟨z, hz, ?_⟩
      have hw' : 0 ≤ z ∧ z ≤ 4294967295 := by simpa [Lit.wf, IntKind.min, IntKind.max, IntKind.signed, IntKind.bits] using hw
      omega
    have hz : ∀ i, i < len → V i = .int .u32 (((List.range len).map fun i => match V i with | .int _ z => z | _ => 0).getD i 0) := fun i hi => by
      obtain ⟨z, h1, _⟩ := key i hi
      rw [List.getD_eq_getElem?_getD]
      simp [hi, h1]
    refine ⟨(List.range len).map fun i => match V i with | .int _ z => z | _ => 0, ?_, some a, cap, by simp, by simpa using hle, by simp only [maxLen] at hm; omega, fun j hj => ?_⟩
    · intro z hz
      obtain ⟨i, hi, rfl⟩ := List.mem_map.1 hz
      obtain ⟨z, h1, h2⟩ := key i (List.mem_range.1 hi)
      rw [h1]
      exact h2
    · simp only [List.length_map, List.length_range] at hj
      refine ⟨a, rfl, by omega, ?_⟩
      rw [(hV j (by omega)).1, hz j hj]
end
theorem laid_ : laidOutB Tryz.prog = true := by kernel_rfl
theorem full_ : ∀ t e, t < Tryz.prog.types.size → Tryz.prog.underlying t = some (.slice e) → 0 < Tryz.prog.cellsOf e := slices_full_of _ (by kernel_rfl)
theorem some_of {t : TypeId} (h : Tryz.prog.readableRec t = true) (h2 : t < Tryz.prog.types.size) : InSome Tryz.prog t := ⟨t, h, h2, book_self t⟩
section
variable {H : Type} {enc : TypeId × Value → H} {W : World} {n base : Nat} {sp : Nat → Bool} {held : Bool} {cs : List Value} {x : DataW H × List MemPlace}
theorem cells_Int : Tryz.prog.cellsOf 25 = 2 := by kernel_rfl
theorem cells_Nat : Tryz.prog.cellsOf 23 = 1 := by kernel_rfl
theorem cells_u32 : Tryz.prog.cellsOf 106 = 1 := by kernel_rfl
theorem cells_bool : Tryz.prog.cellsOf 4 = 1 := by kernel_rfl
theorem nat_of_trod {v : Value} (h : DataW.trod enc Tryz.prog W base sp held n 23 [v] = some x) : ∃ l, RN 0 0 W v l :=
  rn_of_trod Tryz.underlying23 Tryz.underlying106 cells_u32 h
set_option maxRecDepth 100000 in
theorem int_of_trod (h : DataW.trod enc Tryz.prog W base sp held n 25 cs = some x) : ∃ s v l, cs = [.bool s, v] ∧ RN 0 0 W v l := by
  obtain ⟨y0, y1, k, _, hl, h0, h1⟩ := trod_struct2 Tryz.underlying25 h
  rw [cells_Int] at hl
  match cs, hl with
  | [c0, c1], _ =>
    simp only [cells_bool, cells_Nat, List.drop_zero, List.take_succ_cons, List.take_zero, List.drop_succ_cons] at h0 h1
    obtain ⟨s, hs, _⟩ := DataW.trod_bool Tryz.underlying4 h0
    obtain ⟨l, hl⟩ := nat_of_trod h1
    simp only [List.cons.injEq, and_true] at hs
    exact ⟨s, c1, l, by rw [hs], hl⟩
set_option maxRecDepth 100000 in
theorem int_arg {v : Value} {d : DataW H} {p : List MemPlace} (hval : Value.okWide Tryz.prog W .any 0 25 v) (h : DataW.Trod enc Tryz.prog W base sp held 25 v d p) : ∃ s u l, v = .agg #[.bool s, u] ∧ RN 0 0 W u l := by
  obtain ⟨cs, rfl, _⟩ := okWide_struct Tryz.underlying25 hval
  obtain ⟨k, hk⟩ := h
  obtain ⟨s, u, l, he, hr⟩ := int_of_trod hk
  refine ⟨s, u, l, ?_, hr⟩
  simp only [Value.cells] at he
  rw [show cs = #[.bool s, u] from Array.ext' he]
end
end Go.Proofs.YtccmicegihlfbaaGreatDoor
