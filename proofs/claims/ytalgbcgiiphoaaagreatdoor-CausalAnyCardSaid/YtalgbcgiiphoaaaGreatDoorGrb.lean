/- What changes of a world: the blocks of a set, and new ones. No condition. -/
import Derived.Test.YtalgbcgiiphoaaaGreatDoorRB
import Derived.Test.YtalgbcgiiphoaaaGreatDoorOpn
import Derived.Test.YtalgbcgiiphoaaaGreatDoorPA
namespace Go.Proofs.YtalgbcgiiphoaaaGreatDoor
open Go.RowKit Go.Lib Go.Sort
set_option linter.unusedVariables false
/-- of the old blocks only those of O are other ones -/
structure GrB (O : Nat → Prop) (w w' : World) : Prop where
  os : w'.os = w.os
  tape : w'.tape = w.tape
  output : w'.output = w.output
  size : w.heap.size ≤ w'.heap.size
  block : ∀ i, i < w.heap.size → ¬ O i → w'.heap[i]? = w.heap[i]?
section
variable {O O1 : Nat → Prop} {w w1 w2 : World}
theorem GrB.refl : GrB O w w := ⟨rfl, rfl, rfl, Nat.le_refl _, fun _ _ _ => rfl⟩
theorem GrB.trans (h : GrB O w w1) (k : GrB O1 w1 w2) (hO : ∀ i, i < w.heap.size → O1 i → O i) : GrB O w w2 :=
  ⟨k.os.trans h.os, k.tape.trans h.tape, k.output.trans h.output, Nat.le_trans h.size k.size, fun i hi hn => (k.block i (Nat.lt_of_lt_of_le hi h.size) (fun e => hn (hO i hi e))).trans (h.block i hi hn)⟩
theorem GrB.sub (h : GrB O w w1) (hO : ∀ i, i < w.heap.size → O i → O1 i) : GrB O1 w w1 := ⟨h.os, h.tape, h.output, h.size, fun i hi hn => h.block i hi (fun e => hn (hO i hi e))⟩
theorem GrB.of_grown {r : Option Nat} (h : w.grownBy w1 r) (hr : ∀ g, r = some g → g < w.heap.size → O g) : GrB O w w1 := ⟨h.os, h.tape, h.output, h.size, fun i hi hn => h.block i hi (fun e => hn (hr i e.symm hi))⟩
theorem GrB.of_below (h : Below w.heap.size w w1) : GrB O w w1 := ⟨h.os, h.tape, h.output, h.size, fun i hi _ => h.block i hi⟩
theorem GrB.below {n : Nat} (h : GrB O w w1) (hn : n ≤ w.heap.size) (hO : ∀ i, O i → n ≤ i) : Below n w w1 := ⟨h.os, h.tape, h.output, h.size, fun i hi => h.block i (Nat.lt_of_lt_of_le hi hn) (fun e => by have := hO i e; omega)⟩
theorem GrB.agr {S : Nat → Prop} (h : GrB O w w1) (hS : ∀ i, i < w.heap.size → S i → ¬ O i) : Agr S w w1 := ⟨h.size, fun b hb hl => h.block b hl (hS b hl hb)⟩
theorem GrB.alloc (h : GrB O w w1) (o : Obj) : GrB O w (w1.alloc o) := h.trans (GrB.of_grown (O := fun _ => False) (World.grownBy_alloc w1 o none) (by simp)) (fun _ _ e => e.elim)
theorem GrB.drewN (h : GrB O w w1) (k : Nat) : GrB O w (w1.drewN k) := ⟨h.os, h.tape, h.output, h.size, h.block⟩
theorem GrB.set (h : GrB O w w1) (b o : Nat) (v : Value) (hb : b < w.heap.size → O b) : GrB O w (w1.setCell ⟨b, o, none⟩ v) :=
  h.trans (O1 := fun i => i = b) (GrB.of_grown (gby_set b o v) (fun g e _ => by cases e; rfl)) (fun i hi e => by subst e; exact hb hi)
theorem GrB.row (h : GrB O w w1) (b : Nat) (c : Array Value) (hb : b < w.heap.size → O b) : GrB O w (w1.setRow b c) := by
  have hB : GrB (fun i => i = b) w1 (w1.setRow b c) := ⟨rfl, rfl, rfl, by simp [World.setRow], fun i _ hn => setRow_other _ _ _ _ hn⟩
  exact h.trans hB (fun i hi e => by subst e; exact hb hi)
theorem GrB.grown (h : GrB O w w1) {r : Option Nat} (k : w1.grownBy w2 r) (hr : ∀ g, r = some g → g < w.heap.size → O g) : GrB O w w2 :=
  h.trans (O1 := fun i => r = some i) (GrB.of_grown k (fun g e _ => e)) (fun i hi e => hr i e hi)
theorem GrB.andBelow (h : GrB O w w1) (k : Below w1.heap.size w1 w2) : GrB O w w2 := h.trans (O1 := fun _ => False) (GrB.of_below k) (fun _ _ e => e.elim)
theorem GrB.cells {i : Nat} {o : Obj} (h : GrB O w w1) (hi : w.heap[i]? = some o) (hn : ¬ O i) : w1.heap[i]? = some o := (h.block i (lt_of_block hi) hn).trans hi
end
/-- a group's cells, as a list -/
def grL (g : Grp) (x : GrX) : List Value := [.int .i64 g.s.t, .int .i64 g.s.r, .int .i64 g.n, .slice x.dA g.deps.length x.dc, .int .i64 g.u.t, .int .i64 g.u.r, .slice x.oA g.ops.length x.oc]
def grC_ (p : Grp × GrX) : List Value := grL p.1 p.2
theorem lengrC_ (xs : List (Grp × GrX)) : (xs.flatMap grC_).length = xs.length * 7 := by
  induction xs with
  | nil => rfl
  | cons x xs ih => rw [List.flatMap_cons, List.length_append, ih, List.length_cons]; show 7 + _ = _; omega
theorem ocgrC_ (x : Grp × GrX) : ∀ u ∈ grC_ x, u.oneCell' = true := oc_of (c := (grL x.1 x.2).toArray) rfl
theorem infogrC_ : (Tryz.prog.info? 40).map (fun i => (i.zero, i.size, i.bytes)) = some (some (.agg #[.int .i64 0, .int .i64 0, .int .i64 0, .slice none 0 0, .int .i64 0, .int .i64 0, .slice none 0 0]), 7, 88) := by kernel_rfl
def GrG (w : World) (S : Nat → Prop) (p : Grp × GrX) : Prop := GrIn w S p.1 p.2.dA p.2.dc p.2.oA p.2.oc
theorem GrG.agr {w w' : World} {S : Nat → Prop} {p : Grp × GrX} (h : GrG w S p) (ha : Agr S w w') : GrG w' S p := GrIn.agr h ha
theorem GrG.sub {w : World} {S T : Nat → Prop} {p : Grp × GrX} (h : GrG w S p) (hs : ∀ b, b < w.heap.size → S b → T b) : GrG w T p := GrIn.sub h hs
def gp0 : Grp × GrX := (gz, ⟨none, 0, none, 0⟩)
/-- a slice of groups, to be read -/
def RowGr (w : World) (A : Option Addr) (L : List (Grp × GrX)) : Prop := RowG w (fun _ => True) A L.length 7 (fun k j => (grL (L.getD k gp0).1 (L.getD k gp0).2).getD j undef)
theorem RowGr.range {w : World} {A : Option Addr} {L : List (Grp × GrX)} (h : RowGr w A L) {k : Nat} (hk : k < L.length) : ∃ b o, A = some ⟨b, o, none⟩ ∧ b < w.heap.size ∧ w.rangeAt b (o + k * 7) (grL (L.getD k gp0).1 (L.getD k gp0).2) := by
  obtain ⟨b, o, e, -, hb, hc⟩ := h k hk
  refine ⟨b, o, e, hb, fun j v hv => ?_⟩
  have hj : j < 7 := (List.getElem?_eq_some_iff.1 hv).1
  rw [hc j hj]
  show some ((grL (L.getD k gp0).1 (L.getD k gp0).2).getD j undef) = some v
  rw [List.getD_eq_getElem?_getD, hv]
  rfl
theorem RowGr.own {w : World} {B : Nat} {A : Option Addr} {c : Nat} {L : List (Grp × GrX)} {E : TypeId} (h : w.ownsRow B E 7 (.slice A L.length c) L.length (L.flatMap grC_)) : RowGr w A L := by
  refine RowG.sub (rowG_own h fun k j hk hj => ?_) fun _ _ _ => trivial
  rw [flat_get (s := 7) (fun _ => rfl) L k j gp0 hk hj]
  generalize L.getD k gp0 = p
  have : j < (grC_ p).length := hj
  rw [List.getElem?_eq_getElem this, List.getD_eq_getElem?_getD]
  show some _ = some ((grC_ p)[j]?.getD undef)
  rw [List.getElem?_eq_getElem this]
  rfl
theorem RowGr.agr {w w' : World} {A : Option Addr} {L : List (Grp × GrX)} (h : RowGr w A L) (ha : Agr (fun _ => True) w w') : RowGr w' A L := RowG.agr h ha
theorem RowGr.below {w w' : World} {A : Option Addr} {L : List (Grp × GrX)} (h : RowGr w A L) (ha : Below w.heap.size w w') : RowGr w' A L := RowG.agr h (Agr.below ha)
end Go.Proofs.YtalgbcgiiphoaaaGreatDoor
