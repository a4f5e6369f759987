/- A new box; and what is told of one. Conditions: lengths in reach. -/
import Derived.Test.YtalgbcgiiphoaaaGreatDoorBxHe
namespace Go.Proofs.YtalgbcgiiphoaaaGreatDoor
open Go.RowKit Go.Lib Go.Sort
set_option linter.unusedVariables false
attribute [local go_sem ↓] Go.wp_at_zero Go.wp_at_succ
def boxN (w : World) : BoxX := ⟨.slice none 0 0, .slice none 0 0, none, 0, w.heap.size, [], []⟩
theorem BoxIn.made {w w' : World} {S : Nat → Prop} {B : Nat} (hB : B ≤ w.heap.size) (hS : ∀ k, S k → k < w.heap.size)
    (hw : w' = (w.alloc (.map #[] 0)).alloc (.cells #[.slice none 0 0, .slice none 0 0, .map (some w.heap.size), .slice none 0 0] 75)) :
    BoxIn B (w.heap.size + 1) S [] [] [] [] (boxN w) w' := by
  subst hw
  have hs1 : (w.alloc (.map #[] 0)).heap.size = w.heap.size + 1 := by simp
  refine ⟨?_, World.ownsRow_nil _ _ _ _, World.ownsRow_nil _ _ _ _, rfl, rfl, ?_, RowG.zero, Nat.le_refl _, Nat.zero_le _, Nat.zero_le _, (fun p hp => by cases hp), by omega, hB, (by show w.heap.size + 1 ≠ w.heap.size; omega), (fun e => by cases e), (fun e => by cases e), (fun e => by cases e), (fun e => by cases e), (fun g e => by cases e), fun k hk => ⟨?_, ?_⟩⟩
  · have := heap_alloc_new (w.alloc (.map #[] 0)) (.cells #[.slice none 0 0, .slice none 0 0, .map (some w.heap.size), .slice none 0 0] 75)
    rw [hs1] at this
    exact this
  · exact (World.ownsMap_made w Tryz.prog 37 unitElem).kept (World.grownBy_alloc _ _ none) (by simp)
  · have := hS k hk; simp; omega
  · have := hS k hk
    rintro (h | h | h | h)
    · omega
    · have h : k = w.heap.size := h; omega
    · cases h
    · cases h
set_option maxRecDepth 100000 in
set_option maxHeartbeats 4000000 in
theorem bxnew_any (w : World) : Calls Tryz.prog 19 #[] w fun e w' => e = .returned (.pointer (some ⟨w.heap.size + 1, 0, none⟩)) ∧ w' = (w.alloc (.map #[] 0)).alloc (.cells #[.slice none 0 0, .slice none 0 0, .map (some w.heap.size), .slice none 0 0] 75) := by
  have hs1 : (w.alloc (.map #[] 0)).heap.size = w.heap.size + 1 := by simp
  have HS := Lib.hid hs1
  clear hs1
  have hmm := @run_makeMap Tryz.prog
  go_enter Tryz.func19, Tryz.ntmps19
  go_wp2
  go_ret
  exact ⟨rfl, rfl⟩
end Go.Proofs.YtalgbcgiiphoaaaGreatDoor
