/- Whether two lists of stamps, or of ids, are the same. Conditions: lengths in reach. | Laws for an operation's cells in the midst of a row: read whole, in one step. No condition. | Whether two operations are the same. Conditions: lengths in reach. | Whether two groups are the same. Conditions: lengths in reach. -/
import Derived.Test.YteedajnikfhpjaaDoorCA
import Derived.Test.YteedajnikfhpjaaDoorSA
import Derived.Test.YteedajnikfhpjaaDoorPL
section
namespace Go.Proofs.YteedajnikfhpjaaDoor
open Go.RowKit Go.Lib Go.Sort
set_option linter.unusedVariables false
def sameSt (u v : List Gst) : Bool := decide (u.length = v.length) && allIx u.length (fun i => (u.getD i .zero).eqb (v.getD i .zero))
theorem sameSt_iff {u v : List Gst} : sameSt u v = true ↔ u = v := by
  unfold sameSt
  rw [Bool.and_eq_true, decide_eq_true_eq]
  refine ⟨fun ⟨h1, h2⟩ => List.ext_getElem h1 fun i hi hj => ?_, fun h => ⟨by rw [h], allIx_true fun i _ => by rw [h, Gst.eqb_iff]⟩⟩
  have := allIx_of h2 i hi
  rw [Gst.eqb_iff, List.getD_eq_getElem?_getD, List.getD_eq_getElem?_getD, List.getElem?_eq_getElem hi, List.getElem?_eq_getElem hj] at this
  exact this
def sameId (u v : List Gid) : Bool := decide (u.length = v.length) && allIx u.length (fun i => (u.getD i .zero).eqb (v.getD i .zero))
theorem sameId_iff {u v : List Gid} : sameId u v = true ↔ u = v := by
  unfold sameId
  rw [Bool.and_eq_true, decide_eq_true_eq]
  refine ⟨fun ⟨h1, h2⟩ => List.ext_getElem h1 fun i hi hj => ?_, fun h => ⟨by rw [h], allIx_true fun i _ => by rw [h, Gid.eqb_iff]⟩⟩
  have := allIx_of h2 i hi
  rw [Gid.eqb_iff, List.getD_eq_getElem?_getD, List.getD_eq_getElem?_getD, List.getElem?_eq_getElem hi, List.getElem?_eq_getElem hj] at this
  exact this
end Go.Proofs.YteedajnikfhpjaaDoor
end
section
namespace Go.Proofs.YteedajnikfhpjaaDoor
open Go.RowKit Go.Lib Go.Sort
set_option linter.unusedVariables false
section
variable {P : Program} {ops : Array Oper} {rest : List Oper} {o : Oper} {a : Act} {C : World → Prop}
theorem quiet_load_mid {Q : Act → Prop} (hw : Region.wanted o (yielded ops a.tmps) = true) (ty : TypeId) (x : Operand) (ho : o.op = .load ty x) (b q : Nat) (hx : a.eval x = .pointer (some ⟨b, q, none⟩)) (cs : List Value) (d : TypeDesc) (hC : ∀ w, C w → w.rangeAt b q cs)
    (hu : P.underlying ty = some d) (hd : d.isRow = true) (hi : (P.info? ty).map (·.size) = some cs.length) (h : wpQuiet P ops C Q rest (a.put o.dst (.agg cs.toArray))) : wpQuiet P ops C Q (o :: rest) a := by
  unfold wpQuiet
  rw [if_pos hw]
  refine ⟨.agg cs.toArray, fun w hw' => ?_, h⟩
  unfold Oper.quietAt execOp
  simp only [ho, hx, Instr.loadAt, Instr.sureAddr, Sem.run_bind, Sem.run_pure, Result.andThen_ok, run_loadVar_mid w b q ty cs d (hC w hw') hu hd hi]
  exact ⟨rfl, rfl⟩
end
/-- an operation's cells, as a list -/
def opL (o : Gop) (x : OpX) : List Value :=
  [.int .i64 o.kind, .int .i64 o.node.s.t, .int .i64 o.node.s.r, .int .i64 o.node.i, .int .i64 o.parent.s.t, .int .i64 o.parent.s.r, .int .i64 o.parent.i, .string o.name, .bool o.dir, .slice x.dA o.dots.length x.dc,
    .int .i64 o.after.s.t, .int .i64 o.after.s.r, .int .i64 o.after.i, .int .i64 o.elem.s.t, .int .i64 o.elem.s.r, .int .i64 o.elem.i, .string o.text, .slice x.eA o.elems.length x.ec]
theorem op_range {w : World} {b q : Nat} {o : Gop} {x : OpX} (hc : ∀ j, j < 18 → w.cell? ⟨b, q + j, none⟩ = some ((opA o x).getD j undef)) : w.rangeAt b q (opL o x) := fun j v hv => by
  have hj : j < 18 := by
    have := (List.getElem?_eq_some_iff.1 hv).1
    exact this
  rw [hc j hj]
  congr 1
  have e : (opA o x).getD j undef = (opL o x).getD j undef := by
    rw [Array.getD_eq_getD_getElem?, List.getD_eq_getElem?_getD]
    show ((opL o x).toArray)[j]?.getD undef = _
    rw [List.getElem?_toArray]
  rw [e, List.getD_eq_getElem?_getD, hv]
  rfl
theorem range_regrown {W : World} {b q : Nat} {cs : List Value} (h : W.rangeAt b q cs) : ∀ w, (∃ p : Regrown, w = grow (redrawn W p.d) p.os) → w.rangeAt b q cs := by
  rintro w ⟨p, rfl⟩ j v hv
  exact cell_regrown (h j v hv) _ _
end Go.Proofs.YteedajnikfhpjaaDoor
end
section
namespace Go.Proofs.YteedajnikfhpjaaDoor
open Go.RowKit Go.Lib Go.Sort
set_option linter.unusedVariables false
attribute [local go_sem ↓] Go.wp_at_zero Go.wp_at_succ
def sameOp (a b : Gop) : Bool := decide (a.kind = b.kind) && a.node.eqb b.node && a.parent.eqb b.parent && decide (a.name = b.name) && decide (a.dir = b.dir) && a.after.eqb b.after && a.elem.eqb b.elem && decide (a.text = b.text) && sameSt a.dots b.dots && sameId a.elems b.elems
theorem sameOp_iff {a b : Gop} : sameOp a b = true ↔ a = b := by
  obtain ⟨a1, a2, a3, a4, a5, a6, a7, a8, a9, a10⟩ := a
  obtain ⟨b1, b2, b3, b4, b5, b6, b7, b8, b9, b10⟩ := b
  simp only [sameOp, Bool.and_eq_true, decide_eq_true_eq, Gid.eqb_iff, sameSt_iff, sameId_iff, Gop.mk.injEq]
  constructor
  · rintro ⟨⟨⟨⟨⟨⟨⟨⟨⟨h1, h2⟩, h3⟩, h4⟩, h5⟩, h7⟩, h8⟩, h9⟩, h6⟩, h10⟩
    exact ⟨h1, h2, h3, h4, h5, h6, h7, h8, h9, h10⟩
  · rintro ⟨h1, h2, h3, h4, h5, h6, h7, h8, h9, h10⟩
    exact ⟨⟨⟨⟨⟨⟨⟨⟨⟨h1, h2⟩, h3⟩, h4⟩, h5⟩, h7⟩, h8⟩, h9⟩, h6⟩, h10⟩
theorem beq_of {α : Type} [DecidableEq α] {a b : α} {v : Bool} (h : decide (a = b) = v) : (a == b) = v := h
theorem beq_str {a b : ByteArray} {v : Bool} (h : decide (a = b) = v) : (a.toList == b.toList) = v := by
  rw [← h, Bool.eq_iff_iff, beq_iff_eq, decide_eq_true_eq, ByteArray.toList_eq, ByteArray.toList_eq]
  exact ⟨fun e => ByteArray.ext (Array.toList_inj.1 e), fun e => by rw [e]⟩

end Go.Proofs.YteedajnikfhpjaaDoor
end
section
namespace Go.Proofs.YteedajnikfhpjaaDoor
open Go.RowKit Go.Lib Go.Sort
set_option linter.unusedVariables false
attribute [local go_sem ↓] Go.wp_at_zero Go.wp_at_succ
def sameOps (a b : List Gop) : Bool := decide (a.length = b.length) && allIx a.length (fun i => sameOp (a.getD i (opO 0 .zero)) (b.getD i (opO 0 .zero)))
theorem sameOps_iff {u v : List Gop} : sameOps u v = true ↔ u = v := by
  unfold sameOps
  rw [Bool.and_eq_true, decide_eq_true_eq]
  refine ⟨fun ⟨h1, h2⟩ => List.ext_getElem h1 fun i hi hj => ?_, fun h => ⟨by rw [h], allIx_true fun i _ => by rw [h, sameOp_iff]⟩⟩
  have := allIx_of h2 i hi
  rw [sameOp_iff, List.getD_eq_getElem?_getD, List.getD_eq_getElem?_getD, List.getElem?_eq_getElem hi, List.getElem?_eq_getElem hj] at this
  exact this
def sameG (a b : Grp) : Bool := a.s.eqb b.s && decide (a.n = b.n) && decide (a.deps = b.deps) && a.u.eqb b.u && sameOps a.ops b.ops
theorem sameG_iff {a b : Grp} : sameG a b = true ↔ a = b := by
  obtain ⟨a1, a2, a3, a4, a5⟩ := a
  obtain ⟨b1, b2, b3, b4, b5⟩ := b
  simp only [sameG, Bool.and_eq_true, decide_eq_true_eq, Gst.eqb_iff, sameOps_iff, Grp.mk.injEq]
  constructor
  · rintro ⟨⟨⟨⟨h1, h2⟩, h3⟩, h4⟩, h5⟩; exact ⟨h1, h2, h3, h4, h5⟩
  · rintro ⟨h1, h2, h3, h4, h5⟩; exact ⟨⟨⟨⟨h1, h2⟩, h3⟩, h4⟩, h5⟩
end Go.Proofs.YteedajnikfhpjaaDoor
end
