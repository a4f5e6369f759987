/- The groups of a long row: how each lies. No condition. -/
import Derived.Test.YteedajnikfhpjaaDoorFA
import Derived.Test.YteedajnikfhpjaaDoorOpn
namespace Go.Proofs.YteedajnikfhpjaaDoor
open Go.RowKit Go.Lib Go.Sort
set_option linter.unusedVariables false
def manyO (i : Int) : Gop := { opO 0 ⟨⟨i, 1⟩, 0⟩ with name := ⟨#[120]⟩ }
def manyG (i : Int) (dv : List Int) : Grp := ⟨⟨i, 1⟩, i, dv, ⟨0, 0⟩, [manyO i]⟩
theorem many_in (w : World) (S : Nat → Prop) (i : Int) (hi : i63 i) (dv : List Int) (dA : Option Addr) (dc : Nat) (hd : VecS w S dA dv) (hdl : dv.length ≤ dc) (hdc : dc ≤ 10) (hdv : ∀ x ∈ dv, i63 x) (g : Nat) (hS : S g) (h : w.heap[g]? = some (.cells #[.int .i64 0, .int .i64 i, .int .i64 1, .int .i64 0, .int .i64 0, .int .i64 0, .int .i64 0, .string ⟨#[120]⟩, .bool false, .slice none 0 0, .int .i64 0, .int .i64 0, .int .i64 0, .int .i64 0, .int .i64 0, .int .i64 0, .string ⟨#[]⟩, .slice none 0 0] 31 (0, 0))) :
    GrIn w S (manyG i dv) dA dc (some ⟨g, 0, none⟩) 1 := by
  refine ⟨hd, ⟨fun _ => ⟨none, 0, none, 0⟩, ?_, ?_⟩, hdl, Nat.le_refl _, by unfold maxLen; omega, by decide, hi, hdv⟩
  · intro k hk
    obtain rfl : k = 0 := by have : k < 1 := hk; omega
    refine ⟨g, 0, rfl, hS, lt_of_block h, fun j hj => ?_⟩
    have e : (0 + 0 * 18 + j : Nat) = j := by omega
    rw [e, cell_of_row _ _ _ _ _ _ h]
    match j, hj with
    | 0, _ => rfl
    | 1, _ => rfl
    | 2, _ => rfl
    | 3, _ => rfl
    | 4, _ => rfl
    | 5, _ => rfl
    | 6, _ => rfl
    | 7, _ => rfl
    | 8, _ => rfl
    | 9, _ => rfl
    | 10, _ => rfl
    | 11, _ => rfl
    | 12, _ => rfl
    | 13, _ => rfl
    | 14, _ => rfl
    | 15, _ => rfl
    | 16, _ => rfl
    | 17, _ => rfl
    | n + 18, h => exact absurd h (by omega)
  · intro k hk
    obtain rfl : k = 0 := by have : k < 1 := hk; omega
    exact ⟨RowG.zero, RowG.zero, Nat.le_refl _, Nat.le_refl _, Nat.zero_le _, Nat.zero_le _, (by show (1 : Nat) ≤ maxLen; decide), Nat.zero_le _⟩
end Go.Proofs.YteedajnikfhpjaaDoor
