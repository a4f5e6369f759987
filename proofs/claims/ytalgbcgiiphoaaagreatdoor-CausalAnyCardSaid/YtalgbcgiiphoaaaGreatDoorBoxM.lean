/- What a box has is what it heard: plain. No condition. -/
import Derived.Test.YtalgbcgiiphoaaaGreatDoorPA
namespace Go.Proofs.YtalgbcgiiphoaaaGreatDoor
set_option linter.unusedVariables false
theorem drainF_mem : ∀ (f : Nat) (b : Bx), ∀ x ∈ (drainF f b).1.done ++ (drainF f b).1.wait, x ∈ b.done ++ b.wait
  | 0, b, x, h => h
  | f + 1, b, x, h => by
    cases hb : bestN b.v b.wait b.wait.length with
    | none => rw [drainF_none hb] at h; exact h
    | some k =>
      have hk := (bestN_lt hb).1
      cases ho : oldB b.v (b.wait.getD k gz) with
      | true =>
        rw [drainF_old hb ho] at h
        have := drainF_mem f _ x h
        rcases List.mem_append.1 this with h1 | h1
        · exact List.mem_append.2 (.inl h1)
        · exact List.mem_append.2 (.inr (List.mem_of_mem_eraseIdx h1))
      | false =>
        rw [drainF_put hb ho] at h
        have := drainF_mem f _ x h
        simp only [Bx.put, List.mem_append, List.mem_singleton] at this
        rcases this with (h1 | rfl) | h1
        · exact List.mem_append.2 (.inl h1)
        · exact List.mem_append.2 (.inr (getD_mem hk))
        · exact List.mem_append.2 (.inr (List.mem_of_mem_eraseIdx h1))
theorem hearB_mem (b : Bx) (g : Grp) : ∀ x ∈ (hearB b g).1.done ++ (hearB b g).1.wait, x ∈ b.done ++ b.wait ∨ x = g := by
  intro x
  unfold hearB
  split
  · exact .inl
  · split
    · exact .inl
    · split
      · intro h
        have := drainF_mem _ _ x h
        simp only [Bx.put, List.mem_append, List.mem_singleton] at this
        rcases this with (h1 | h1) | h1
        · exact .inl (List.mem_append.2 (.inl h1))
        · exact .inr h1
        · exact .inl (List.mem_append.2 (.inr h1))
      · split
        · exact .inl
        · intro h
          simp only [List.mem_append, List.mem_singleton] at h
          rcases h with h1 | h1 | h1
          · exact .inl (List.mem_append.2 (.inl h1))
          · exact .inl (List.mem_append.2 (.inr h1))
          · exact .inr h1
end Go.Proofs.YtalgbcgiiphoaaaGreatDoor
