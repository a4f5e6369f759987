/- The group that makes a directory at the root. No condition. -/
import Derived.Test.YtooaodgamakoeaaDoorRep
import Derived.Test.YtooaodgamakoeaaDoorBig
import Derived.Test.YtooaodgamakoeaaDoorPlainC
namespace Go.Proofs.YtooaodgamakoeaaDoor
open Go.RowKit Go.Lib Go.Sort
set_option linter.unusedVariables false
attribute [local go_sem ↓] Go.wp_at_zero Go.wp_at_succ
def firstO : Gop := { opO 0 ⟨⟨1, 1⟩, 0⟩ with name := ⟨#[97]⟩, dir := true }
def firstG : Grp := ⟨⟨1, 1⟩, 1, [], ⟨0, 0⟩, [firstO]⟩
theorem first_in (w : World) (g : Nat) (B : Nat) (hB : B ≤ g) (h : w.heap[g]? = some (.cells #[.int .i64 0, .int .i64 1, .int .i64 1, .int .i64 0, .int .i64 0, .int .i64 0, .int .i64 0, .string ⟨#[97]⟩, .bool true, .slice none 0 0, .int .i64 0, .int .i64 0, .int .i64 0, .int .i64 0, .int .i64 0, .int .i64 0, .string ⟨#[]⟩, .slice none 0 0] 31 (0, 0))) :
    GrIn w (fun k => B ≤ k) firstG none 0 (some ⟨g, 0, none⟩) 1 := by
  refine ⟨RowG.zero, ⟨fun _ => ⟨none, 0, none, 0⟩, ?_, ?_⟩, Nat.le_refl _, Nat.le_refl _, Nat.zero_le _, by decide, ⟨by decide, by decide⟩, fun x hx => (by cases hx)⟩
  · intro k hk
    obtain rfl : k = 0 := by have : k < 1 := hk; omega
    have hl : g < w.heap.size := by
      rcases Nat.lt_or_ge g w.heap.size with hlt | hge
      · exact hlt
      · rw [Array.getElem?_eq_none hge] at h; cases h
    refine ⟨g, 0, rfl, hB, hl, fun j hj => ?_⟩
    have e : (0 + 0 * 18 + j : Nat) = j := by omega
    rw [e, cell_of_row _ _ _ _ _ _ h]
    match j, hj with
    | 0, _ => rfl
    | 1, _ => rfl
    | 2, _ => rfl
    | 3, _ => rfl
    | 4, _ => rfl
    | 5, _ => rfl
    | 6, _ => rfl
    | 7, _ => rfl
    | 8, _ => rfl
    | 9, _ => rfl
    | 10, _ => rfl
    | 11, _ => rfl
    | 12, _ => rfl
    | 13, _ => rfl
    | 14, _ => rfl
    | 15, _ => rfl
    | 16, _ => rfl
    | 17, _ => rfl
    | n + 18, h => exact absurd h (by omega)
  · intro k hk
    obtain rfl : k = 0 := by have : k < 1 := hk; omega
    exact ⟨RowG.zero, RowG.zero, Nat.le_refl _, Nat.le_refl _, Nat.zero_le _, Nat.zero_le _, by decide, Nat.zero_le _⟩
def firstL (a : Nat) : Array Value := #[.int .i64 1, .int .i64 1, .int .i64 1, .slice none 0 0, .int .i64 0, .int .i64 0, .slice (some ⟨a, 0, none⟩) 1 1]
/-- what First answers -/
def FirstQ (w : World) (e : Ending) (w' : World) : Prop := ∃ a, e = .returned (.agg #[.int .i64 1, .int .i64 1, .int .i64 1, .slice none 0 0, .int .i64 0, .int .i64 0, .slice (some ⟨a, 0, none⟩) 1 1]) ∧ GrIn w' (fun k => w.heap.size ≤ k) firstG none 0 (some ⟨a, 0, none⟩) 1 ∧ Below w.heap.size w w'
set_option maxRecDepth 100000 in
set_option maxHeartbeats 4000000 in
theorem firstg_any (w : World) : Calls Tryd.prog 39 #[] w (FirstQ w) := by
  go_enter Tryd.func39, Tryd.ntmps39
  go_wp2
  refine bodyPost_ret (v := .agg #[.int .i64 1, .int .i64 1, .int .i64 1, .slice none 0 0, .int .i64 0, .int .i64 0, .slice (some ⟨w.heap.size + 1 + 1, 0, none⟩) 1 1]) (by simp [results, Tryd.results39, go_sem]) rfl ?_
  exact ⟨w.heap.size + 1 + 1, rfl, first_in _ _ _ (by omega) (heap_alloc_newC _ _ (by simp)), (((Below.refl _ _).alloc (Nat.le_refl _) _).alloc (by simp) _).alloc (by simp; omega) _⟩
end Go.Proofs.YtooaodgamakoeaaDoor
