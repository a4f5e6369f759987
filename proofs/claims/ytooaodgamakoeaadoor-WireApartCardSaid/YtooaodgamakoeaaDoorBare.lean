/- Whether an operation is bare. No condition. -/
import Derived.Test.YtooaodgamakoeaaDoorPlain
import Derived.Test.YtooaodgamakoeaaDoorPlainB
import Derived.Test.YtooaodgamakoeaaDoorPlainC
namespace Go.Proofs.YtooaodgamakoeaaDoor
open Go.RowKit Go.Lib Go.Sort
set_option linter.unusedVariables false
theorem Gid.eqb_comm (a b : Gid) : a.eqb b = b.eqb a := by
  rw [Bool.eq_iff_iff, Gid.eqb_iff, Gid.eqb_iff]; exact eq_comm
theorem eq_none (x : Gid) (w : World) : (binOp .eql 27 (.agg #[.int .i64 0, .int .i64 0, .int .i64 0]) (.agg #[.int .i64 x.s.t, .int .i64 x.s.r, .int .i64 x.i])).run Tryd.prog w = .ok (.bool x.none) w :=
  eq_id 0 0 0 x.s.t x.s.r x.i x.none (Gid.eqb_comm _ _) w
theorem eq_false (d : Bool) (w : World) : (binOp .eql 4 (.bool false) (.bool d)).run Tryd.prog w = .ok (.bool (!d)) w := by
  cases d <;> go_simp
theorem strl (s : ByteArray) : s.toList = s.data.toList := ByteArray.toList_eq s
theorem bare_any (o : Gop) (x : OpX) (w : World) :
    Calls Tryd.prog 90 #[.agg (opA o x)] w fun e w' => e = .returned (.bool (bareB o)) ∧ Below w.heap.size w w' := by
  obtain ⟨kind, node, parent, name, dir, dots, after, elem, text, elems⟩ := o
  by_cases k0 : kind = 0
  · subst k0
    refine (bare_0 node.s.t node.s.r node.i parent.s.t parent.s.r parent.i name dir x.dA dots.length x.dc after.s.t after.s.r after.i elem.s.t elem.s.r elem.i text x.eA elems.length x.ec true true after.none elem.none (eq_none after) (eq_none elem) w).mono ?_
    rintro e w' ⟨rfl, hB⟩
    refine ⟨ret_bool ?_, hB⟩
    simp only [bareB, strl]
    generalize after.none = a; generalize elem.none = b; generalize decide (text.data.toList = []) = c; generalize decide (dots.length = 0) = d; generalize decide (elems.length = 0) = e
    cases a <;> cases b <;> cases c <;> cases d <;> cases e <;> simp
  by_cases k1 : kind = 1
  · subst k1
    refine (bare_1 node.s.t node.s.r node.i parent.s.t parent.s.r parent.i name dir x.dA dots.length x.dc after.s.t after.s.r after.i elem.s.t elem.s.r elem.i text x.eA elems.length x.ec true (!dir) after.none elem.none (eq_false dir) (eq_none after) (eq_none elem) w).mono ?_
    rintro e w' ⟨rfl, hB⟩
    refine ⟨ret_bool ?_, hB⟩
    simp only [bareB, strl]
    generalize after.none = a; generalize elem.none = b; generalize decide (text.data.toList = []) = c; generalize decide (dots.length = 0) = d; generalize decide (elems.length = 0) = e
    cases a <;> cases b <;> cases c <;> cases d <;> cases e <;> simp
  by_cases k2 : kind = 2
  · subst k2
    refine (bare_2 node.s.t node.s.r node.i parent.s.t parent.s.r parent.i name dir x.dA dots.length x.dc after.s.t after.s.r after.i elem.s.t elem.s.r elem.i text x.eA elems.length x.ec parent.none (!dir) after.none elem.none (eq_none parent) (eq_false dir) (eq_none after) (eq_none elem) w).mono ?_
    rintro e w' ⟨rfl, hB⟩
    refine ⟨ret_bool ?_, hB⟩
    simp only [bareB, strl]
    generalize after.none = a; generalize elem.none = b; generalize decide (text.data.toList = []) = c; generalize parent.none = d; generalize decide (elems.length = 0) = e; generalize decide (name.data.toList = []) = f
    cases a <;> cases b <;> cases c <;> cases d <;> cases e <;> cases f <;> simp
  by_cases k3 : kind = 3
  · subst k3
    refine (bare_3 node.s.t node.s.r node.i parent.s.t parent.s.r parent.i name dir x.dA dots.length x.dc after.s.t after.s.r after.i elem.s.t elem.s.r elem.i text x.eA elems.length x.ec parent.none (!dir) true true (eq_none parent) (eq_false dir) w).mono ?_
    rintro e w' ⟨rfl, hB⟩
    refine ⟨ret_bool ?_, hB⟩
    simp only [bareB, strl]
    generalize decide (dots.length = 0) = a; generalize parent.none = d; generalize decide (elems.length = 0) = e; generalize decide (name.data.toList = []) = f
    cases a <;> cases d <;> cases e <;> cases f <;> simp
  by_cases k4 : kind = 4
  · subst k4
    refine (bare_4 node.s.t node.s.r node.i parent.s.t parent.s.r parent.i name dir x.dA dots.length x.dc after.s.t after.s.r after.i elem.s.t elem.s.r elem.i text x.eA elems.length x.ec parent.none (!dir) after.none elem.none (eq_none parent) (eq_false dir) (eq_none after) (eq_none elem) w).mono ?_
    rintro e w' ⟨rfl, hB⟩
    refine ⟨ret_bool ?_, hB⟩
    simp only [bareB, strl]
    generalize after.none = a; generalize elem.none = b; generalize decide (text.data.toList = []) = c; generalize parent.none = d; generalize decide (dots.length = 0) = e; generalize decide (name.data.toList = []) = f
    cases a <;> cases b <;> cases c <;> cases d <;> cases e <;> cases f <;> simp
  · refine (bare_x kind k0 k1 k2 k3 k4 node.s.t node.s.r node.i parent.s.t parent.s.r parent.i name dir x.dA dots.length x.dc after.s.t after.s.r after.i elem.s.t elem.s.r elem.i text x.eA elems.length x.ec parent.none (!dir) after.none elem.none (eq_none parent) (eq_false dir) (eq_none after) (eq_none elem) w).mono ?_
    rintro e w' ⟨rfl, hB⟩
    refine ⟨ret_bool ?_, hB⟩
    simp only [bareB, strl]
    generalize after.none = a; generalize elem.none = b; generalize decide (text.data.toList = []) = c; generalize parent.none = d; generalize decide (dots.length = 0) = e; generalize decide (name.data.toList = []) = f; generalize decide (elems.length = 0) = g
    cases a <;> cases b <;> cases c <;> cases d <;> cases e <;> cases f <;> cases g <;> simp [k0, k1, k2, k3, k4]
end Go.Proofs.YtooaodgamakoeaaDoor
