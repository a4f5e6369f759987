/- What wire.Check answers, at any group. Conditions: lengths in reach. -/
import Derived.Test.YtooaodgamakoeaaDoorChkO
namespace Go.Proofs.YtooaodgamakoeaaDoor
open Go.RowKit Go.Lib Go.Sort
set_option linter.unusedVariables false
theorem check_any (g : Grp) (dA : Option Addr) (dc : Nat) (oA : Option Addr) (oc : Nat) (S : Nat → Prop) (w : World) (hI : GrIn w S g dA dc oA oc) (hTx : ∀ o ∈ g.ops, o.text.size < 9223372036854775807) (hTb : Tabs w) :
    Calls Tryd.prog 22 #[.agg (grA g dA dc oA oc)] w fun e w' => e = .returned (.int .i64 (if chkB g = true then 0 else 80)) ∧ Below w.heap.size w w' := by
  obtain ⟨⟨t, r⟩, n, v, ⟨ut, ur⟩, ops⟩ := g
  have hl := hI.dle
  have hc : dc ≤ 9223372036854775807 := by have := hI.dmax; simp only [maxLen] at this; omega
  have hn := hI.nin
  have hD := hI.deps.vec
  simp only at hl hn hD hTx
  cases hh : headB ⟨⟨t, r⟩, n, v, ⟨ut, ur⟩, ops⟩ with
  | false =>
    have : chkB ⟨⟨t, r⟩, n, v, ⟨ut, ur⟩, ops⟩ = false := by unfold chkB; rw [hh]; rfl
    rw [this]
    exact check_head t r n v ut ur ops dA dc oA oc w hl hc hn hD hh
  | true =>
    cases hu : Gst.eqb ⟨ut, ur⟩ ⟨0, 0⟩ with
    | false =>
      refine check_undo t r n v ut ur ops dA dc oA oc w hl hc hn hD hh hu _ ?_
      have : Gst.eqb ⟨ut, ur⟩ .zero = false := hu
      simp only [chkB, hh, this, Bool.true_and, Bool.false_eq_true, if_false]
    | true =>
      have hu2 : Gst.eqb ⟨ut, ur⟩ .zero = true := hu
      by_cases h1 : 1 ≤ ops.length ∧ ops.length ≤ 200
      · refine check_ops t r n v ut ur ops dA dc oA oc w hl hc hn hD hh hu h1.1 h1.2 S hI.ops hTx hTb _ ?_
        simp only [chkB, hh, hu2, Bool.true_and, if_true, decide_eq_true h1.1, decide_eq_true h1.2]
      · have : chkB ⟨⟨t, r⟩, n, v, ⟨ut, ur⟩, ops⟩ = false := by
          simp only [chkB, hh, hu2, Bool.true_and, if_true]
          by_cases h2 : 1 ≤ ops.length
          · have : ¬ ops.length ≤ 200 := fun h => h1 ⟨h2, h⟩
            simp [this]
          · simp [h2]
        rw [this]
        exact check_few t r n v ut ur ops dA dc oA oc w hl hc hn hD hh hu h1
end Go.Proofs.YtooaodgamakoeaaDoor
