/- Laws for an operation's cells in the midst of a row: read whole, in one step. No condition. -/
import Derived.Test.YtooaodgamakoeaaDoorBig
import Derived.Test.YtooaodgamakoeaaDoorPlainC
import Derived.Test.YtooaodgamakoeaaDoorHead
namespace Go.Proofs.YtooaodgamakoeaaDoor
open Go.RowKit Go.Lib Go.Sort
set_option linter.unusedVariables false
section
variable {P : Program} {ops : Array Oper} {rest : List Oper} {o : Oper} {a : Act} {C : World → Prop}
theorem quiet_load_mid {Q : Act → Prop} (hw : Region.wanted o (yielded ops a.tmps) = true) (ty : TypeId) (x : Operand) (ho : o.op = .load ty x) (b q : Nat) (hx : a.eval x = .pointer (some ⟨b, q, none⟩)) (cs : List Value) (d : TypeDesc) (hC : ∀ w, C w → w.rangeAt b q cs)
    (hu : P.underlying ty = some d) (hd : d.isRow = true) (hi : (P.info? ty).map (·.size) = some cs.length) (h : wpQuiet P ops C Q rest (a.put o.dst (.agg cs.toArray))) : wpQuiet P ops C Q (o :: rest) a := by
  unfold wpQuiet
  rw [if_pos hw]
  refine ⟨.agg cs.toArray, fun w hw' => ?_, h⟩
  unfold Oper.quietAt execOp
  simp only [ho, hx, Instr.loadAt, Instr.sureAddr, Sem.run_bind, Sem.run_pure, Result.andThen_ok, run_loadVar_mid w b q ty cs d (hC w hw') hu hd hi]
  exact ⟨rfl, rfl⟩
end
/-- an operation's cells, as a list -/
def opL (o : Gop) (x : OpX) : List Value :=
  [.int .i64 o.kind, .int .i64 o.node.s.t, .int .i64 o.node.s.r, .int .i64 o.node.i, .int .i64 o.parent.s.t, .int .i64 o.parent.s.r, .int .i64 o.parent.i, .string o.name, .bool o.dir, .slice x.dA o.dots.length x.dc,
    .int .i64 o.after.s.t, .int .i64 o.after.s.r, .int .i64 o.after.i, .int .i64 o.elem.s.t, .int .i64 o.elem.s.r, .int .i64 o.elem.i, .string o.text, .slice x.eA o.elems.length x.ec]
theorem op_range {w : World} {b q : Nat} {o : Gop} {x : OpX} (hc : ∀ j, j < 18 → w.cell? ⟨b, q + j, none⟩ = some ((opA o x).getD j undef)) : w.rangeAt b q (opL o x) := fun j v hv => by
  have hj : j < 18 := by
    have := (List.getElem?_eq_some_iff.1 hv).1
    exact this
  rw [hc j hj]
  congr 1
  have e : (opA o x).getD j undef = (opL o x).getD j undef := by
    rw [Array.getD_eq_getD_getElem?, List.getD_eq_getElem?_getD]
    show ((opL o x).toArray)[j]?.getD undef = _
    rw [List.getElem?_toArray]
  rw [e, List.getD_eq_getElem?_getD, hv]
  rfl
theorem range_regrown {W : World} {b q : Nat} {cs : List Value} (h : W.rangeAt b q cs) : ∀ w, (∃ p : Regrown, w = grow (redrawn W p.d) p.os) → w.rangeAt b q cs := by
  rintro w ⟨p, rfl⟩ j v hv
  exact cell_regrown (h j v hv) _ _
end Go.Proofs.YtooaodgamakoeaaDoor
