/- Laws for what is put into a row, and for clearing an element of a row. No condition. -/
import Derived.Test.YtalgbcgiiphoaaaGreatDoorBxDe
import Derived.Lib.SliceRun
namespace Go.Proofs.YtalgbcgiiphoaaaGreatDoor
open Go.RowKit Go.Lib Go.Sort
set_option linter.unusedVariables false
theorem putL_size : ∀ (vs : List Value) (o : Nat) (c : Array Value), (putL c o vs).size = c.size
  | [], _, _ => rfl
  | v :: vs, o, c => by rw [putL, putL_size vs]; simp
theorem putL_get : ∀ (vs : List Value) (o : Nat) (c : Array Value) (i : Nat), o + vs.length ≤ c.size → (putL c o vs)[i]? = if o ≤ i ∧ i < o + vs.length then vs[i - o]? else c[i]?
  | [], o, c, i, h => by rw [putL, if_neg (by simp)]
  | v :: vs, o, c, i, h => by
    have hl : (v :: vs).length = vs.length + 1 := rfl
    rw [putL, putL_get vs (o + 1) _ i (by simp; omega)]
    by_cases h1 : o + 1 ≤ i ∧ i < o + 1 + vs.length
    · rw [if_pos h1, if_pos (by omega)]
      obtain ⟨k, rfl⟩ : ∃ k, i = o + 1 + k := ⟨i - (o + 1), by omega⟩
      rw [show o + 1 + k - (o + 1) = k by omega, show o + 1 + k - o = k + 1 by omega]
      rfl
    · rw [if_neg h1]
      by_cases h2 : i = o
      · subst h2
        rw [if_pos (by omega), Nat.sub_self, Array.getElem?_setIfInBounds_self_of_lt (by omega)]
        rfl
      · rw [if_neg (by omega), Array.getElem?_setIfInBounds_ne (fun e => h2 e.symm)]
theorem run_clear_elem {P : Program} (w : World) (t e ty : TypeId) (z : Value) (ht : P.underlying t = some (.slice e)) (hv : ∀ w, (zeroValue e).run P w = .ok z w) (h1 : ∀ v ∈ z.cells.toList, v.oneCell' = true) (b o c : Nat)
    (hc : ∀ j, j < z.cells.size → (w.cell? ⟨b, o + j, none⟩).isSome = true) (hf : ∀ j, j < z.cells.size → w.frozen? ⟨b, o + j, none⟩ = false) :
    (Builtin.clear_ #[t] ty #[.slice (some ⟨b, o, none⟩) 1 c]).run P w = .ok (.tuple #[]) (w.setCells b o z.cells.toList) := by
  have hzc : (Builtin.zeroCells z.cells 1).toList = z.cells.toList := by
    simp [Builtin.zeroCells]
    apply List.ext_getElem
    · simp
    · intro i h1 h2
      simp at h1 h2
      simp [Nat.mod_eq_of_lt h2]
      exact getElem!_pos z.cells i h2
  have hst := run_storeCells_cells (P := P) b o z.cells.toList 0 w (by simpa using hc) (by simpa using hf) h1
  simp only [Nat.add_zero] at hst
  simp [Builtin.clear_, run_underlying ht, hv, hzc, hst]
theorem wpList_clear {P : Program} {w w' : World} {ops : Array Oper} {rest : List Oper} {o : Oper} {a : Act} {Q : Exit → Act → World → Prop} (hgd : o.guard = none) (s : Operand) (T : TypeId)
    (ho : o.op = .call { callee := .builtin .clear, args := #[s], argTypes := #[T] }) (v : Value) (hs : a.eval s = v) (hrun : ∀ ty, (Builtin.clear_ #[T] ty #[v]).run P w = .ok (.tuple #[]) w')
    (h : wpList P ops Q rest (a.put o.dst (.tuple #[])) w') : wpList P ops Q (o :: rest) a w := by
  refine wpList_plain hgd fun K hK => ?_
  unfold Oper.wp
  simp [execOp, ho, resolve, invoke, builtin, hs, hrun, Result.andThen]
  exact hK _ _ h
theorem flat_drop (M : List (Grp × GrX)) (k : Nat) : (M.drop k).flatMap grC_ = (M.flatMap grC_).drop (k * 7) := by
  induction M generalizing k with
  | nil => simp
  | cons x xs ih =>
    cases k with
    | zero => simp
    | succ k =>
      rw [List.drop_succ_cons, ih, List.flatMap_cons, show (k + 1) * 7 = (grC_ x).length + k * 7 from by show _ = 7 + k * 7; omega, List.drop_append]
      simp
theorem flat_take (M : List (Grp × GrX)) (k : Nat) : (M.take k).flatMap grC_ = (M.flatMap grC_).take (k * 7) := by
  induction M generalizing k with
  | nil => simp
  | cons x xs ih =>
    cases k with
    | zero => simp
    | succ k =>
      rw [List.take_succ_cons, List.flatMap_cons, ih, List.flatMap_cons, show (k + 1) * 7 = (grC_ x).length + k * 7 from by show _ = 7 + k * 7; omega, List.take_append]
      simp
      exact (List.take_of_length_le (Nat.le_add_right _ _)).symm
theorem flat_erase (M : List (Grp × GrX)) (k : Nat) : (M.eraseIdx k).flatMap grC_ = (M.flatMap grC_).take (k * 7) ++ (M.flatMap grC_).drop ((k + 1) * 7) := by
  rw [List.eraseIdx_eq_take_drop_succ, List.flatMap_append, flat_take, flat_drop]
end Go.Proofs.YtalgbcgiiphoaaaGreatDoor
