/- How wire's reader takes an operation. Conditions: lengths in reach. | How wire's reader takes many operations. Conditions: lengths in reach. -/
import Derived.Test.YteedajnikfhpjaaDoorRA
import Derived.Outline
import Derived.Maps.AppendAt
section
namespace Go.Proofs.YteedajnikfhpjaaDoor
open Go.RowKit Go.Lib Go.Sort
set_option linter.unusedVariables false
attribute [local go_sem ↓] Go.wp_at_zero Go.wp_at_succ
section
variable {P : Program} {ops : Array Oper} {rest : List Oper} {o : Oper} {a : Act} {Q : Exit → Act → World → Prop}
/-- into a part of a block that is known whole -/
theorem store_putAt {w : World} (hgd : o.guard = none) (ty : TypeId) (x y : Operand) (ho : o.op = .store ty x y) (g off : Nat) (T : TypeId) (c c' : Array Value) (v : Value)
    (hx : a.eval x = .pointer (some ⟨g, off, none⟩)) (hg : w.heap[g]? = some (.cells c T (0, 0))) (hy : a.eval y = v) (hi : (P.info? ty).map (·.size) = some v.cells.size) (hs : off + v.cells.size ≤ c.size) (h1 : v.cells.toList.all (·.oneCell') = true) (hc : putL c off v.cells.toList = c')
    (h : wpList P ops Q rest (a.put o.dst undef) (w.setRow g c')) : wpList P ops Q (o :: rest) a w := by
  subst hc
  refine wpList_plain hgd fun _ hK => ?_
  have ht : w.there g off v.cells.size := fun j hj => by
    rw [cell_of_row _ _ _ _ _ _ hg]
    exact ⟨by rw [Array.getElem?_eq_getElem (by omega)]; rfl, frozen_of_row _ _ _ _ _ hg⟩
  unfold Oper.wp execOp
  simp only [ho, hx, hy, Instr.storeAt, Instr.sureAddr, Sem.run_bind, Sem.run_pure, Result.andThen_ok, run_store_any (P := P) _ _ off ty v ht hi h1]
  rw [setCells_put _ _ _ _ _ _ hg]
  exact hK _ _ h
end
theorem lt_of_block {w : World} {g : Nat} {o : Obj} (h : w.heap[g]? = some o) : g < w.heap.size := by
  rcases Nat.lt_or_ge g w.heap.size with hlt | hge
  · exact hlt
  · rw [Array.getElem?_eq_none hge] at h; cases h
section
variable {w0 w w' : World} {b R O : Nat} {T : TypeId} {zc oc : Array Value} {s s' : ByteArray} {bad bad' : Bool}
theorem setRow_other (w : World) (g k : Nat) (c : Array Value) (h : k ≠ g) : (w.setRow g c).heap[k]? = w.heap[k]? := by
  simp only [World.setRow, Array.getElem?_modify]
  rw [if_neg (fun e => h e.symm)]
end
theorem Agr.setRow {S : Nat → Prop} (w : World) (g : Nat) (c : Array Value) (h : ¬ S g) : Agr S w (w.setRow g c) := ⟨by simp [World.setRow], fun b hb _ => setRow_other w g b c (fun e => h (e ▸ hb))⟩
/-- an operation that was read -/
def POp (B : Nat) (o : Gop) (w' : World) (v : Value) : Prop := ∃ x, v = .agg (opA o x) ∧ OpIn w' (fun k => B ≤ k) o x ∧ o.name.size ≤ 1000000 ∧ o.text.size ≤ 1000000
theorem rowG_own {w : World} {B : Nat} {e : TypeId} {s : Nat} {A : Option Addr} {n c : Nat} {xs : List Value} {f : Nat → Nat → Value} (h : w.ownsRow B e s (.slice A n c) n xs) (hf : ∀ k j, k < n → j < s → xs[k * s + j]? = some (f k j)) : RowG w (fun k => B ≤ k) A n s f := fun k hk => by
  rcases h.2 with ⟨h1, h2⟩ | ⟨g, cap, cur, h1, hB, hg, h2⟩
  · omega
  · cases h1
    have hlt := lt_of_block hg
    refine ⟨g, 0, rfl, hB, hlt, fun j hj => ?_⟩
    have := h.cells (g := g) rfl (k * s + j) _ (hf k j hk hj)
    rw [add_zero'] at this
    rw [Nat.zero_add]
    exact this
theorem own_cap {w : World} {B : Nat} {e : TypeId} {s : Nat} {A : Option Addr} {n c : Nat} {xs : List Value} (h : w.ownsRow B e s (.slice A n c) n xs) : n ≤ c ∧ c ≤ maxLen := by
  rcases h.2 with ⟨h1, h2⟩ | ⟨g, cap, cur, h1, hB, hg, h2, h3, _⟩
  · cases h1; exact ⟨Nat.le_refl _, Nat.zero_le _⟩
  · cases h1; exact ⟨h2, h3⟩
theorem flat_get {α : Type} {f : α → List Value} {s : Nat} (hl : ∀ x, (f x).length = s) : ∀ (xs : List α) (k j : Nat) (z : α), k < xs.length → j < s → (xs.flatMap f)[k * s + j]? = (f (xs.getD k z))[j]?
  | [], k, j, z, h, _ => by simp at h
  | x :: xs, 0, j, z, h, hj => by
    rw [List.flatMap_cons, Nat.zero_mul, Nat.zero_add, List.getElem?_append_left (by rw [hl]; exact hj)]
    rfl
  | x :: xs, k + 1, j, z, h, hj => by
    rw [List.flatMap_cons, List.getElem?_append_right (by rw [hl, Nat.succ_mul]; omega), hl]
    have e : (k + 1) * s + j - s = k * s + j := by rw [Nat.succ_mul]; omega
    rw [e, flat_get hl xs k j z (by simpa using h) hj]
    rfl
theorem sts_own {w : World} {B : Nat} {A : Option Addr} {c : Nat} {xs : List Gst} {E : TypeId} (h : w.ownsRow B E 2 (.slice A xs.length c) xs.length (xs.flatMap stC_)) : StsS w (fun k => B ≤ k) A xs := by
  refine rowG_own h fun k j hk hj => ?_
  rw [flat_get (s := 2) (fun _ => rfl) xs k j .zero hk hj]
  rcases j with _ | _ | j
  · rfl
  · rfl
  · omega
theorem ids_own {w : World} {B : Nat} {A : Option Addr} {c : Nat} {xs : List Gid} {E : TypeId} (h : w.ownsRow B E 3 (.slice A xs.length c) xs.length (xs.flatMap idC_)) : IdsS w (fun k => B ≤ k) A xs := by
  refine rowG_own h fun k j hk hj => ?_
  rw [flat_get (s := 3) (fun _ => rfl) xs k j .zero hk hj]
  rcases j with _ | _ | _ | j
  · rfl
  · rfl
  · rfl
  · omega
theorem OpIn.none {w : World} {S : Nat → Prop} {o : Gop} (h1 : o.dots = []) (h2 : o.elems = []) (h3 : o.name.size ≤ 1000000) (h4 : o.text.size ≤ 1000000) : OpIn w S o ⟨none, 0, none, 0⟩ := by
  refine ⟨?_, ?_, by rw [h1]; exact Nat.le_refl _, by rw [h2]; exact Nat.le_refl _, Nat.zero_le _, Nat.zero_le _, by unfold maxLen; omega, by unfold maxLen; omega⟩
  · rw [h1]; exact RowG.zero
  · rw [h2]; exact RowG.zero
end Go.Proofs.YteedajnikfhpjaaDoor
end
section
namespace Go.Proofs.YteedajnikfhpjaaDoor
open Go.RowKit Go.Lib Go.Sort
set_option linter.unusedVariables false
def opC_ (p : Gop × OpX) : List Value := (opA p.1 p.2).toList
theorem lenopC_ (xs : List (Gop × OpX)) : (xs.flatMap opC_).length = xs.length * 18 := by
  induction xs with
  | nil => rfl
  | cons x xs ih => rw [List.flatMap_cons, List.length_append, ih, List.length_cons]; show 18 + _ = _; omega
theorem oc_of {c : Array Value} (h : c.toList.all (·.oneCell') = true) : ∀ u ∈ c.toList, u.oneCell' = true := List.all_eq_true.1 h
theorem infoOp : (Tryd.prog.info? 31).map (fun i => (i.zero, i.size, i.bytes)) = some (some (.agg #[.int .i64 0, .int .i64 0, .int .i64 0, .int .i64 0, .int .i64 0, .int .i64 0, .int .i64 0, .string ⟨#[]⟩, .bool false, .slice none 0 0, .int .i64 0, .int .i64 0, .int .i64 0, .int .i64 0, .int .i64 0, .int .i64 0, .string ⟨#[]⟩, .slice none 0 0]), 18, 192) := by kernel_rfl
/-- what is known of an operation that was read -/
def OpGood (w : World) (S : Nat → Prop) (p : Gop × OpX) : Prop := OpIn w S p.1 p.2 ∧ p.1.name.size ≤ 1000000 ∧ p.1.text.size ≤ 1000000
theorem OpGood.agr {w w' : World} {S : Nat → Prop} {p : Gop × OpX} (h : OpGood w S p) (ha : Agr S w w') : OpGood w' S p := ⟨h.1.agr ha, h.2⟩
theorem OpGood.sub {w : World} {S T : Nat → Prop} {p : Gop × OpX} (h : OpGood w S p) (hs : ∀ b, b < w.heap.size → S b → T b) : OpGood w T p := ⟨h.1.sub hs, h.2⟩
/-- many operations that were read: their cells in a row of the call's own, all else in other blocks of the call's own -/
def POps (B : Nat) (xs : List Gop) (w' : World) (v : Value) : Prop :=
  ∃ (L : List (Gop × OpX)) (S : Nat → Prop), L.map Prod.fst = xs ∧ (∃ A c, v = .slice A xs.length c) ∧ w'.ownsRow B 31 18 v xs.length (L.flatMap opC_) ∧ xs.length ≤ 1000001 ∧ (∀ p ∈ L, OpGood w' S p) ∧ ∀ k, S k → B ≤ k ∧ k < w'.heap.size ∧ v.ownBlock ≠ some k
/-- where the walk stands -/
structure OpsAt (B : Nat) (v : Value) (L : List (Gop × OpX)) (S : Nat → Prop) (wr : World) : Prop where
  good : ∀ p ∈ L, OpGood wr S p
  old : ∀ k, S k → B ≤ k ∧ k < wr.heap.size ∧ v.ownBlock ≠ some k
theorem OpsAt.next {B : Nat} {v v' : Value} {L : List (Gop × OpX)} {S : Nat → Prop} {wr w2 w3 : World} {b : Nat} {c : Obj} {o : Gop} {x : OpX} (h : OpsAt B v L S wr) (hB : B ≤ wr.heap.size) (hb : b < B) (hv : ∀ g, v.ownBlock = some g → g < wr.heap.size)
    (hg : wr.grownBy w2 (some b)) (ho : OpIn w2 (fun k => wr.heap.size ≤ k) o x) (hn : o.name.size ≤ 1000000) (ht : o.text.size ≤ 1000000) (hgr : (w2.alloc c).grownBy w3 v.ownBlock) (hv' : v'.ownBlock = v.ownBlock ∨ v'.ownBlock = some (w2.alloc c).heap.size) :
    ∃ S', OpsAt B v' (L ++ [(o, x)]) S' w3 := by
  have hs := hg.size
  have hs3 : w2.heap.size + 1 ≤ w3.heap.size := by have := hgr.size; simpa using this
  have hA1 : Agr (fun k => S k ∨ (wr.heap.size ≤ k ∧ k < w2.heap.size)) w2 w3 := by
    have h1 : Agr (fun k => S k ∨ (wr.heap.size ≤ k ∧ k < w2.heap.size)) w2 (w2.alloc c) := Agr.below ((Below.refl _ _).alloc (Nat.le_refl _) _)
    refine h1.trans (Agr.grown hgr fun g e hS => ?_)
    have := hv g e
    rcases hS with hS | hS
    · exact (h.old g hS).2.2 e
    · omega
  have hA0 : Agr S wr w2 := Agr.grown hg fun g e hS => by cases e; have := (h.old b hS).1; omega
  refine ⟨fun k => S k ∨ (wr.heap.size ≤ k ∧ k < w2.heap.size), fun p hp => ?_, fun k hk => ?_⟩
  · rcases List.mem_append.1 hp with hp | hp
    · exact (((h.good p hp).agr hA0).sub fun b _ hS => .inl hS).agr hA1
    · rw [List.mem_singleton] at hp
      subst hp
      exact ⟨(ho.sub fun b hb hS => .inr ⟨hS, hb⟩).agr hA1, hn, ht⟩
  · rcases hk with hk | hk
    · have := h.old k hk
      refine ⟨this.1, by omega, fun e => ?_⟩
      rcases hv' with hv' | hv'
      · exact this.2.2 (hv'.symm.trans e)
      · rw [hv'] at e; cases e; simp at this; omega
    · refine ⟨by omega, by omega, fun e => ?_⟩
      rcases hv' with hv' | hv'
      · have := hv k (hv'.symm.trans e); omega
      · rw [hv'] at e; cases e; simp at hk; omega
end Go.Proofs.YteedajnikfhpjaaDoor
end
