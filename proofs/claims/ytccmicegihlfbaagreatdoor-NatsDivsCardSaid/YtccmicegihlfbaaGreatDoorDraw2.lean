/- Regions that draw their order: truths, structs, functions that are made. Printed by mkdraw.py out of the single steps. -/
import Derived.Test.YtccmicegihlfbaaGreatDoorRange
import Derived.Test.YtccmicegihlfbaaGreatDoorRat
set_option linter.unusedVariables false
set_option linter.unusedSimpArgs false
namespace Go.Proofs.YtccmicegihlfbaaGreatDoor
open Go.RowKit
section
variable {P : Program} {n : NF} {ops : Array Oper} {K : (Nat → Value) → World → Prop} {S : World → Prop} {σ : Nat → Value} {w : World} {i fuel : Nat} {listed listed2 : Array Bool}
variable {d : Nat} {t : TypeId} {p : String} {af : Array Edge} {gd : Option (Nat × Bool)} {x y : Operand}
theorem D_beq {T T' : TypeId} (hT : P.underlying T = some .bool) (hsel : Region.noSelect ops = true) (hf : Region.free .any ops listed i = true) (hrdy : (Region.ready .any ops listed).contains i = true) (hl2 : listed.setIfInBounds i true = listed2)
    (ho : ops[i]? = some { dst := some d, op := .binOp .eql T x y T', type := t, pos := p, after := af, guard := gd }) (hw : wg n ops σ gd = true)
    (hx : tok n x = true) (hy : tok n y = true) {a b : Bool} (ha : sv σ x = .bool a) (hb : sv σ y = .bool b) {c : Bool} (hc : (a == b) = c) (hS : S w) (h : DRW P n ops K S fuel listed2 (upd σ d (.bool c)) w) : DRW P n ops K S (fuel + 1) listed σ w := by
  subst hc
  refine D_take hsel hf hrdy hl2 ho hw rfl (fun w' _ => ?_) hS h
  have := run_equal_bool (P := P) w' T a b hT
  simp [execOp, eval_act hx, eval_act hy, ha, hb, eqGuard, binOp, this]
  try (cases a <;> cases b <;> rfl)
theorem D_bne {T T' : TypeId} (hT : P.underlying T = some .bool) (hsel : Region.noSelect ops = true) (hf : Region.free .any ops listed i = true) (hrdy : (Region.ready .any ops listed).contains i = true) (hl2 : listed.setIfInBounds i true = listed2)
    (ho : ops[i]? = some { dst := some d, op := .binOp .neq T x y T', type := t, pos := p, after := af, guard := gd }) (hw : wg n ops σ gd = true)
    (hx : tok n x = true) (hy : tok n y = true) {a b : Bool} (ha : sv σ x = .bool a) (hb : sv σ y = .bool b) {c : Bool} (hc : (a != b) = c) (hS : S w) (h : DRW P n ops K S fuel listed2 (upd σ d (.bool c)) w) : DRW P n ops K S (fuel + 1) listed σ w := by
  subst hc
  refine D_take hsel hf hrdy hl2 ho hw rfl (fun w' _ => ?_) hS h
  have := run_equal_bool (P := P) w' T a b hT
  simp [execOp, eval_act hx, eval_act hy, ha, hb, eqGuard, binOp, this]
  try (cases a <;> cases b <;> rfl)
theorem D_build {T : TypeId} {parts : Array (Nat × Operand)} (hsel : Region.noSelect ops = true) (hf : Region.free .any ops listed i = true) (hrdy : (Region.ready .any ops listed).contains i = true) (hl2 : listed.setIfInBounds i true = listed2)
    (ho : ops[i]? = some { dst := some d, op := .build T parts, type := t, pos := p, after := af, guard := gd }) (hw : wg n ops σ gd = true)
    (hx : parts.toList.all (fun q => tok n q.2) = true) {cs : List Value} (hfb : P.built T (parts.toList.map fun q => (q.1, sv σ q.2)) = some cs.toArray)
    (hS : S w) (h : DRW P n ops K S fuel listed2 (upd σ d (.agg cs.toArray)) w) : DRW P n ops K S (fuel + 1) listed σ w := by
  have hp : (parts.map fun q => (q.1, (act n σ).eval q.2)).toList = parts.toList.map fun q => (q.1, sv σ q.2) := by
    rw [Array.toList_map]
    exact List.map_congr_left fun q hq => by rw [eval_act (List.all_eq_true.1 hx q hq)]
  have hr := fun w' => run_build (P := P) w' T (parts.map fun q => (q.1, (act n σ).eval q.2)) cs.toArray (by rw [hp]; exact hfb)
  refine D_take hsel hf hrdy hl2 ho hw rfl (fun w' _ => ?_) hS h
  simp only [execOp]
  show Sem.run P (Next.value <$> Instr.build T (parts.map fun q => (q.1, (act n σ).eval q.2))) w' = _
  simp [hr]
theorem D_makeFunc {fn : Fn} {cap : Array Operand} (hsel : Region.noSelect ops = true) (hf : Region.free .any ops listed i = true) (hrdy : (Region.ready .any ops listed).contains i = true) (hl2 : listed.setIfInBounds i true = listed2)
    (ho : ops[i]? = some { dst := some d, op := .makeFunc fn #[] cap, type := t, pos := p, after := af, guard := gd }) (hw : wg n ops σ gd = true)
    (hx : cap.toList.all (tok n) = true) {vs : List Value} (hvs : cap.toList.map (sv σ) = vs) (hS : S w) (h : DRW P n ops K S fuel listed2 (upd σ d (.func fn #[] vs.toArray)) w) : DRW P n ops K S (fuel + 1) listed σ w := by
  refine D_take hsel hf hrdy hl2 ho hw rfl (fun w' _ => ?_) hS h
  simp [execOp, Instr.makeFunc, args_eval hx, hvs]

end
end Go.Proofs.YtccmicegihlfbaaGreatDoor
