/- WireBack: groups come back from their bytes, and bytes that are a group's from it. Conditions: lengths in reach; the tables of utf8. -/
import Derived.Test.YteedajnikfhpjaaGreatDoorAwake8
import Derived.Test.YteedajnikfhpjaaGreatDoorFA
import Derived.Test.YteedajnikfhpjaaGreatDoorOpn
import Derived.Test.YteedajnikfhpjaaGreatDoorPA
import Derived.Test.YteedajnikfhpjaaGreatDoorQA
namespace Go.Proofs.YteedajnikfhpjaaGreatDoor
open Go.RowKit Go.Lib Go.Sort
set_option linter.unusedVariables false
attribute [local go_sem ↓] Go.wp_at_zero Go.wp_at_succ
theorem GrIn.gz {w : World} {S : Nat → Prop} : GrIn w S gz none 0 none 0 :=
  ⟨RowG.zero, ⟨fun _ => ⟨none, 0, none, 0⟩, RowG.zero, fun k hk => absurd hk (Nat.not_lt_zero k)⟩, Nat.le_refl _, Nat.le_refl _, Nat.zero_le _, Nat.zero_le _, ⟨by decide, by decide⟩, fun x hx => (by cases hx)⟩
theorem same_gz (w : World) : Calls Tryz.prog 19 #[.agg #[.int .i64 0, .int .i64 0, .int .i64 0, .slice none 0 0, .int .i64 0, .int .i64 0, .slice none 0 0], .agg #[.int .i64 0, .int .i64 0, .int .i64 0, .slice none 0 0, .int .i64 0, .int .i64 0, .slice none 0 0]] w fun e w' => e = .returned (.bool true) ∧ Below w.heap.size w w' := by
  have := sameg_any gz gz none none none none 0 0 0 0 (fun _ => True) (fun _ => True) w GrIn.gz GrIn.gz
  rw [sameG_iff.2 rfl] at this
  exact this
theorem below_grow {w W : World} {B : Nat} (h : Below B w W) (hB : B ≤ W.heap.size) (d : Nat) (os : Array Obj) : Below B w (grow (redrawn W d) os) := h.trans ((below_regrown W d os).mono hB)
theorem encV_ok {g : Grp} (h : chkB g = true) : encV g = .tuple #[.string ⟨(grpZ g).toArray⟩, .int .i64 0] := by unfold encV; rw [if_pos h]
theorem encV_no {g : Grp} (h : chkB g = false) : encV g = .tuple #[.string ⟨#[]⟩, .int .i64 80] := by unfold encV; rw [if_neg (by rw [h]; decide)]
end Go.Proofs.YteedajnikfhpjaaGreatDoor
