/- Laws for whole structs: read out of, and stored into, a block that is written out. No condition. -/
import Derived.Test.YtooaodgamakoeaaDoorRep
import Derived.Deep.WholeRow
namespace Go.Proofs.YtooaodgamakoeaaDoor
open Go.RowKit Go.Lib Go.Sort
set_option linter.unusedVariables false
section
variable {P : Program} {ops : Array Oper} {rest : List Oper} {o : Oper} {a : Act} {Q : Exit → Act → World → Prop}
theorem wp_store_at {K : Act → World → Prop} {w : World} (ty : TypeId) (x y : Operand) (ho : o.op = .store ty x y) (g : Nat) (T : TypeId) (c c' : Array Value)
    (hx : a.eval x = .pointer (some ⟨g, 0, none⟩)) (hy : a.eval y = .agg c') (hg : w.heap[g]? = some (.cells c T (0, 0))) (hi : (P.info? ty).map (·.size) = some c'.size) (hs : c.size = c'.size) (h1 : c'.toList.all (·.oneCell') = true)
    (h : K (a.put o.dst undef) (w.setRow g c')) : o.wp P a w K Q := by
  unfold Oper.wp execOp
  simp only [ho, hx, hy, Instr.storeAt, Instr.sureAddr, Sem.run_bind, Sem.run_pure, Result.andThen_ok, run_storeVar_row w g T ty c c' hg hi hs (by rw [← Array.all_toList]; exact h1)]
  exact h
/-- into the block that was made last -/
theorem store_last {w : World} (hgd : o.guard = none) (ty : TypeId) (x y : Operand) (ho : o.op = .store ty x y) (g : Nat) (T : TypeId) (c c' : Array Value)
    (hx : a.eval x = .pointer (some ⟨g, 0, none⟩)) (hn : w.heap.size = g) (hy : a.eval y = .agg c') (hi : (P.info? ty).map (·.size) = some c'.size) (hs : c.size = c'.size) (h1 : c'.toList.all (·.oneCell') = true)
    (h : wpList P ops Q rest (a.put o.dst undef) (w.alloc (.cells c' T))) : wpList P ops Q (o :: rest) a (w.alloc (.cells c T)) := by
  subst hn
  exact wpList_plain hgd fun _ hK => wp_store_at ty x y ho _ T c c' hx hy (heap_alloc_new w _) hi hs h1 (by rw [World.setRow_alloc_new]; exact hK _ _ h)
theorem World.setRow_alloc_old (w : World) (g : Nat) (c : Array Value) (ob : Obj) (hg : g < w.heap.size) : (w.alloc ob).setRow g c = (w.setRow g c).alloc ob := by
  simp only [World.setRow, World.alloc]
  congr 1
  apply Array.ext_getElem?
  intro i
  rw [Array.getElem?_modify, Array.getElem?_push, Array.getElem?_push, Array.getElem?_modify]
  by_cases h : g = i
  · subst h
    have : ¬ g = w.heap.size := by omega
    simp [this]
  · simp [h]
/-- into the one before -/
theorem store_last2 {w : World} {ob : Obj} (hgd : o.guard = none) (ty : TypeId) (x y : Operand) (ho : o.op = .store ty x y) (g : Nat) (T : TypeId) (c c' : Array Value)
    (hx : a.eval x = .pointer (some ⟨g, 0, none⟩)) (hn : w.heap.size = g) (hy : a.eval y = .agg c') (hi : (P.info? ty).map (·.size) = some c'.size) (hs : c.size = c'.size) (h1 : c'.toList.all (·.oneCell') = true)
    (h : wpList P ops Q rest (a.put o.dst undef) ((w.alloc (.cells c' T)).alloc ob)) : wpList P ops Q (o :: rest) a ((w.alloc (.cells c T)).alloc ob) := by
  subst hn
  refine wpList_plain hgd fun _ hK => wp_store_at ty x y ho _ T c c' hx hy ?_ hi hs h1 ?_
  · exact (Below.heap_alloc _ ob _ (by simp)).trans (heap_alloc_new w _)
  · rw [World.setRow_alloc_old _ _ _ _ (by simp), World.setRow_alloc_new]; exact hK _ _ h
/-- cells into the midst of others -/
def putL : Array Value → Nat → List Value → Array Value
  | c, _, [] => c
  | c, o, v :: vs => putL (c.setIfInBounds o v) (o + 1) vs
theorem setCells_put (g : Nat) (T : TypeId) : ∀ (vs : List Value) (o : Nat) (c : Array Value) (w : World), w.heap[g]? = some (.cells c T (0, 0)) → w.setCells g o vs = w.setRow g (putL c o vs)
  | [], o, c, w, hg => by
    show w = w.setRow g c
    obtain ⟨hlt, hv⟩ := Array.getElem?_eq_some_iff.1 hg
    simp only [World.setRow]
    have : w.heap.modify g (fun x => match x with | .cells _ t fr => .cells c t fr | o => o) = w.heap := by
      apply Array.ext_getElem?
      intro i
      rw [Array.getElem?_modify]
      by_cases h : g = i
      · subst h; simp [hg]
      · simp [h]
    cases w
    simp only at this ⊢
    congr 1
    exact this.symm
  | v :: vs, o, c, w, hg => by
    show (w.setCell ⟨g, o, none⟩ v).setCells g (o + 1) vs = _
    rw [setCells_put g T vs (o + 1) (c.setIfInBounds o v) _ (heap_setCell_same w g o c T v hg)]
    show _ = w.setRow g (putL (c.setIfInBounds o v) (o + 1) vs)
    simp only [World.setRow, World.setCell]
    congr 1
    apply Array.ext_getElem?
    intro i
    rw [Array.getElem?_modify, Array.getElem?_modify, Array.getElem?_modify]
    by_cases h : g = i
    · subst h; simp [hg]
    · simp [h]
theorem run_store_any (w : World) (b o : Nat) (ty : TypeId) (v : Value) (ht : w.there b o v.cells.size) (hi : (P.info? ty).map (·.size) = some v.cells.size) (h1 : v.cells.toList.all (·.oneCell') = true) :
    (storeVar ty ⟨b, o, none⟩ v).run P w = .ok () (w.setCells b o v.cells.toList) := by
  have := run_storeCells_cells (P := P) b o v.cells.toList 0 w (fun j hj => by simpa using (ht j (by simpa using hj)).1) (fun j hj => by simpa using (ht j (by simpa using hj)).2)
    (fun x hx => (List.all_eq_true.1 h1) x hx)
  cases hq : P.info? ty with
  | none => simp [hq] at hi
  | some i =>
    have hs : v.cells.size = i.size := by simp [hq] at hi; omega
    simp only [Nat.add_zero] at this
    simp [storeVar, sizeOf, typeInfo, hq, hs, this]
/-- a part of the block that was made last -/
theorem store_part {w : World} (hgd : o.guard = none) (ty : TypeId) (x y : Operand) (ho : o.op = .store ty x y) (g off : Nat) (T : TypeId) (c c' : Array Value) (v : Value)
    (hx : a.eval x = .pointer (some ⟨g, off, none⟩)) (hn : w.heap.size = g) (hy : a.eval y = v) (hi : (P.info? ty).map (·.size) = some v.cells.size) (hs : off + v.cells.size ≤ c.size) (h1 : v.cells.toList.all (·.oneCell') = true) (hc : putL c off v.cells.toList = c')
    (h : wpList P ops Q rest (a.put o.dst undef) (w.alloc (.cells c' T))) : wpList P ops Q (o :: rest) a (w.alloc (.cells c T)) := by
  subst hn hc
  refine wpList_plain hgd fun _ hK => ?_
  have hg := heap_alloc_new w (.cells c T)
  have ht : (w.alloc (.cells c T)).there w.heap.size off v.cells.size := fun j hj => by
    rw [cell_of_row _ _ _ _ _ _ hg]
    exact ⟨by rw [Array.getElem?_eq_getElem (by omega)]; rfl, frozen_of_row _ _ _ _ _ hg⟩
  unfold Oper.wp execOp
  simp only [ho, hx, hy, Instr.storeAt, Instr.sureAddr, Sem.run_bind, Sem.run_pure, Result.andThen_ok, run_store_any (P := P) _ _ off ty v ht hi h1]
  rw [setCells_put _ _ _ _ _ _ hg, World.setRow_alloc_new]
  exact hK _ _ h
/-- a whole struct out of the block that was made last -/
theorem load_last {w : World} (hgd : o.guard = none) (ty : TypeId) (x : Operand) (ho : o.op = .load ty x) (g : Nat) (T : TypeId) (c : Array Value) (d : TypeDesc)
    (hx : a.eval x = .pointer (some ⟨g, 0, none⟩)) (hn : w.heap.size = g) (hu : P.underlying ty = some d) (hd : d.isRow = true) (hi : (P.info? ty).map (·.size) = some c.size)
    (h : wpList P ops Q rest (a.put o.dst (.agg c)) (w.alloc (.cells c T))) : wpList P ops Q (o :: rest) a (w.alloc (.cells c T)) := by
  subst hn
  refine wpList_plain hgd fun _ hK => ?_
  unfold Oper.wp execOp
  simp only [ho, hx, Instr.loadAt, Instr.sureAddr, Sem.run_bind, Sem.run_pure, Result.andThen_ok, run_loadVar_row (w.alloc (.cells c T)) w.heap.size T ty c (0, 0) d (heap_alloc_new w _) hu (by cases d <;> simp_all) hi]
  exact hK _ _ h
theorem store_at {w : World} (hgd : o.guard = none) (ty : TypeId) (x y : Operand) (ho : o.op = .store ty x y) (g : Nat) (T : TypeId) (c c' : Array Value)
    (hx : a.eval x = .pointer (some ⟨g, 0, none⟩)) (hy : a.eval y = .agg c') (hg : w.heap[g]? = some (.cells c T (0, 0))) (hi : (P.info? ty).map (·.size) = some c'.size) (hs : c.size = c'.size) (h1 : c'.toList.all (·.oneCell') = true)
    (h : wpList P ops Q rest (a.put o.dst undef) (w.setRow g c')) : wpList P ops Q (o :: rest) a w :=
  wpList_plain hgd fun _ hK => wp_store_at ty x y ho g T c c' hx hy hg hi hs h1 (hK _ _ h)
theorem load_at {w : World} (hgd : o.guard = none) (ty : TypeId) (x : Operand) (ho : o.op = .load ty x) (g : Nat) (T : TypeId) (c : Array Value) (d : TypeDesc)
    (hx : a.eval x = .pointer (some ⟨g, 0, none⟩)) (hg : w.heap[g]? = some (.cells c T (0, 0))) (hu : P.underlying ty = some d) (hd : d.isRow = true) (hi : (P.info? ty).map (·.size) = some c.size)
    (h : wpList P ops Q rest (a.put o.dst (.agg c)) w) : wpList P ops Q (o :: rest) a w :=
  wpList_load_row hgd ty x ho g hx T c (0, 0) d hg hu (by cases d <;> simp_all) hi h
theorem heap_setRow_same {w : World} {g : Nat} {T : TypeId} {c : Array Value} (c' : Array Value) (hg : w.heap[g]? = some (.cells c T (0, 0))) : (w.setRow g c').heap[g]? = some (.cells c' T (0, 0)) := by
  simp [World.setRow, Array.getElem?_modify, hg]
theorem Below.setRow' {B : Nat} {a w : World} (h : Below B a w) {g : Nat} (hg : B ≤ g) (c : Array Value) : Below B a (w.setRow g c) :=
  h.trans ⟨rfl, rfl, rfl, by simp [World.setRow], fun k hk => by
    simp only [World.setRow, Array.getElem?_modify]
    rw [if_neg (by omega)]⟩
end
end Go.Proofs.YtooaodgamakoeaaDoor
