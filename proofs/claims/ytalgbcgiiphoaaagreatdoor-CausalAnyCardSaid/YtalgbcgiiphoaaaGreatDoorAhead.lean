/- Groups one behind the other, as the law looks at them. Conditions: lengths in reach; texts in reach. -/
import Derived.Test.YtalgbcgiiphoaaaGreatDoorRO
import Derived.Test.YtalgbcgiiphoaaaGreatDoorFew21
import Derived.Test.YtalgbcgiiphoaaaGreatDoorCov
import Derived.Test.YtalgbcgiiphoaaaGreatDoorWith
namespace Go.Proofs.YtalgbcgiiphoaaaGreatDoor
open Go.RowKit Go.Lib Go.Sort
set_option linter.unusedVariables false
attribute [local go_sem ↓] Go.wp_at_zero Go.wp_at_succ
theorem aheadV_take : ∀ (l : List Grp) (v u : List Int), aheadV v l = some u → ∀ j, j < l.length → ∃ x, aheadV v (l.take j) = some x ∧ chkB (l.getD j gz) = true ∧ covB x (l.getD j gz).deps = true ∧ atV x (l.getD j gz).s.r = (l.getD j gz).n - 1 ∧ aheadV v (l.take (j + 1)) = some (withV x (l.getD j gz).s.r (l.getD j gz).n)
  | [], v, u, h, j, hj => absurd hj (Nat.not_lt_zero _)
  | g :: l, v, u, h, 0, hj => by
    rw [aheadV] at h
    split at h
    · rename_i c
      simp only [Bool.and_eq_true, decide_eq_true_eq] at c
      refine ⟨v, rfl, c.1.1, c.1.2, c.2, ?_⟩
      show aheadV v (g :: l.take 0) = _
      rw [aheadV, if_pos (by simp [c.1.1, c.1.2, c.2])]
      rw [List.take_zero]; rfl
    · cases h
  | g :: l, v, u, h, j + 1, hj => by
    rw [aheadV] at h
    split at h
    · rename_i c
      obtain ⟨x, h1, h2, h3, h4, h5⟩ := aheadV_take l _ u h j (by simpa using hj)
      refine ⟨x, ?_, h2, h3, h4, ?_⟩
      · show aheadV v (g :: l.take j) = _
        rw [aheadV, if_pos c]; exact h1
      · show aheadV v (g :: l.take (j + 1)) = _
        rw [aheadV, if_pos c]; exact h5
    · cases h
end Go.Proofs.YtalgbcgiiphoaaaGreatDoor
