/- How groups lie in memory. No condition. -/
import Derived.Test.YtooaodgamakoeaaDoorVec
import Derived.Deep.MidRow
namespace Go.Proofs.YtooaodgamakoeaaDoor
open Go.RowKit Go.Lib Go.Sort
set_option linter.unusedVariables false
/-- a slice of n elements of s cells each, in blocks of S -/
def RowG (w : World) (S : Nat → Prop) (A : Option Addr) (n s : Nat) (f : Nat → Nat → Value) : Prop :=
  ∀ k, k < n → ∃ b o, A = some ⟨b, o, none⟩ ∧ S b ∧ b < w.heap.size ∧ ∀ j, j < s → w.cell? ⟨b, o + k * s + j, none⟩ = some (f k j)
/-- the blocks of S are as they were -/
def Agr (S : Nat → Prop) (w w' : World) : Prop := w.heap.size ≤ w'.heap.size ∧ ∀ b, S b → b < w.heap.size → w'.heap[b]? = w.heap[b]?
theorem Agr.refl {S : Nat → Prop} {w : World} : Agr S w w := ⟨Nat.le_refl _, fun _ _ _ => rfl⟩
theorem Agr.trans {S : Nat → Prop} {w w1 w2 : World} (h : Agr S w w1) (k : Agr S w1 w2) : Agr S w w2 := ⟨Nat.le_trans h.1 k.1, fun b hb hl => (k.2 b hb (Nat.lt_of_lt_of_le hl h.1)).trans (h.2 b hb hl)⟩
theorem Agr.below {S : Nat → Prop} {w w' : World} (h : Below w.heap.size w w') : Agr S w w' := ⟨h.size, fun b _ hl => h.block b hl⟩
theorem Agr.grown {S : Nat → Prop} {w w' : World} {row : Option Nat} (h : w.grownBy w' row) (hr : ∀ g, row = some g → ¬ S g) : Agr S w w' := ⟨h.size, fun b hb hl => h.block b hl (fun e => hr b e.symm hb)⟩
theorem Agr.sub {S T : Nat → Prop} {w w' : World} (h : Agr S w w') (hs : ∀ b, T b → S b) : Agr T w w' := ⟨h.1, fun b hb hl => h.2 b (hs b hb) hl⟩
section
variable {w w' : World} {S T : Nat → Prop} {A : Option Addr} {n s : Nat} {f g : Nat → Nat → Value}
theorem RowG.agr (h : RowG w S A n s f) (ha : Agr S w w') : RowG w' S A n s f := fun k hk => by
  obtain ⟨b, o, e, hS, hb, hc⟩ := h k hk
  exact ⟨b, o, e, hS, Nat.lt_of_lt_of_le hb ha.1, fun j hj => (World.cell?_of_block (w := w) (a := ⟨b, o + k * s + j, none⟩) (ha.2 b hS hb)).trans (hc j hj)⟩
theorem RowG.sub (h : RowG w S A n s f) (hs : ∀ b, b < w.heap.size → S b → T b) : RowG w T A n s f := fun k hk => by
  obtain ⟨b, o, e, hS, hb, hc⟩ := h k hk
  exact ⟨b, o, e, hs b hb hS, hb, hc⟩
theorem RowG.congr (h : RowG w S A n s f) (e : ∀ k j, k < n → j < s → f k j = g k j) : RowG w S A n s g := fun k hk => by
  obtain ⟨b, o, e1, hS, hb, hc⟩ := h k hk
  exact ⟨b, o, e1, hS, hb, fun j hj => by rw [hc j hj, e k j hk hj]⟩
theorem RowG.zero : RowG w S A 0 s f := fun k hk => absurd hk (by omega)
end
def VecS (w : World) (S : Nat → Prop) (A : Option Addr) (v : List Int) : Prop := RowG w S A v.length 1 (fun k _ => .int .i64 (v.getD k 0))
def StsS (w : World) (S : Nat → Prop) (A : Option Addr) (l : List Gst) : Prop := RowG w S A l.length 2 (fun k j => if j = 0 then .int .i64 (l.getD k .zero).t else .int .i64 (l.getD k .zero).r)
def IdsS (w : World) (S : Nat → Prop) (A : Option Addr) (l : List Gid) : Prop := RowG w S A l.length 3 (fun k j => if j = 0 then .int .i64 (l.getD k .zero).s.t else if j = 1 then .int .i64 (l.getD k .zero).s.r else .int .i64 (l.getD k .zero).i)
theorem VecS.vec {w : World} {S : Nat → Prop} {A : Option Addr} {v : List Int} (h : VecS w S A v) : VecR w A v := fun k hk => by
  obtain ⟨b, o, e, _, hb, hc⟩ := h k hk
  have := hc 0 (by omega)
  refine ⟨⟨b, o, none⟩, e, hb, ?_⟩
  rw [Addr.add_mid]
  simpa using this
theorem StsS.at_ {w : World} {S : Nat → Prop} {A : Option Addr} {l : List Gst} (h : StsS w S A l) {k : Nat} (hk : k < l.length) :
    ∃ b o, A = some ⟨b, o, none⟩ ∧ S b ∧ b < w.heap.size ∧ w.cell? ⟨b, o + k * 2, none⟩ = some (.int .i64 (l.getD k .zero).t) ∧ w.cell? ⟨b, o + k * 2 + 1, none⟩ = some (.int .i64 (l.getD k .zero).r) := by
  obtain ⟨b, o, e, hS, hb, hc⟩ := h k hk
  exact ⟨b, o, e, hS, hb, hc 0 (by omega), hc 1 (by omega)⟩
theorem IdsS.at_ {w : World} {S : Nat → Prop} {A : Option Addr} {l : List Gid} (h : IdsS w S A l) {k : Nat} (hk : k < l.length) :
    ∃ b o, A = some ⟨b, o, none⟩ ∧ S b ∧ b < w.heap.size ∧ w.cell? ⟨b, o + k * 3, none⟩ = some (.int .i64 (l.getD k .zero).s.t) ∧ w.cell? ⟨b, o + k * 3 + 1, none⟩ = some (.int .i64 (l.getD k .zero).s.r) ∧ w.cell? ⟨b, o + k * 3 + 2, none⟩ = some (.int .i64 (l.getD k .zero).i) := by
  obtain ⟨b, o, e, hS, hb, hc⟩ := h k hk
  exact ⟨b, o, e, hS, hb, hc 0 (by omega), hc 1 (by omega), hc 2 (by omega)⟩
/-- where an operation's lists lie -/
structure OpX where
  dA : Option Addr
  dc : Nat
  eA : Option Addr
  ec : Nat
/-- an operation's cells -/
def opA (o : Gop) (x : OpX) : Array Value :=
  #[.int .i64 o.kind, .int .i64 o.node.s.t, .int .i64 o.node.s.r, .int .i64 o.node.i, .int .i64 o.parent.s.t, .int .i64 o.parent.s.r, .int .i64 o.parent.i, .string o.name, .bool o.dir, .slice x.dA o.dots.length x.dc,
    .int .i64 o.after.s.t, .int .i64 o.after.s.r, .int .i64 o.after.i, .int .i64 o.elem.s.t, .int .i64 o.elem.s.r, .int .i64 o.elem.i, .string o.text, .slice x.eA o.elems.length x.ec]
def i63 (x : Int) : Prop := -9223372036854775808 ≤ x ∧ x < 9223372036854775808
/-- what an operation leads to, and its sizes -/
structure OpIn (w : World) (S : Nat → Prop) (o : Gop) (x : OpX) : Prop where
  dots : StsS w S x.dA o.dots
  elems : IdsS w S x.eA o.elems
  dle : o.dots.length ≤ x.dc
  ele : o.elems.length ≤ x.ec
  dmax : x.dc ≤ maxLen
  emax : x.ec ≤ maxLen
  name : o.name.size ≤ maxLen
  text : o.text.size ≤ maxLen
def OpsS (w : World) (S : Nat → Prop) (A : Option Addr) (l : List Gop) : Prop :=
  ∃ X : Nat → OpX, RowG w S A l.length 18 (fun k j => (opA (l.getD k (opO 0 .zero)) (X k)).getD j undef) ∧ ∀ k, k < l.length → OpIn w S (l.getD k (opO 0 .zero)) (X k)
theorem OpIn.agr {w w' : World} {S : Nat → Prop} {o : Gop} {x : OpX} (h : OpIn w S o x) (ha : Agr S w w') : OpIn w' S o x :=
  ⟨RowG.agr h.dots ha, RowG.agr h.elems ha, h.dle, h.ele, h.dmax, h.emax, h.name, h.text⟩
theorem OpIn.sub {w : World} {S T : Nat → Prop} {o : Gop} {x : OpX} (h : OpIn w S o x) (hs : ∀ b, b < w.heap.size → S b → T b) : OpIn w T o x :=
  ⟨RowG.sub h.dots hs, RowG.sub h.elems hs, h.dle, h.ele, h.dmax, h.emax, h.name, h.text⟩
theorem OpsS.agr {w w' : World} {S : Nat → Prop} {A : Option Addr} {l : List Gop} (h : OpsS w S A l) (ha : Agr S w w') : OpsS w' S A l := by
  obtain ⟨X, h1, h2⟩ := h
  exact ⟨X, RowG.agr h1 ha, fun k hk => (h2 k hk).agr ha⟩
theorem OpsS.sub {w : World} {S T : Nat → Prop} {A : Option Addr} {l : List Gop} (h : OpsS w S A l) (hs : ∀ b, b < w.heap.size → S b → T b) : OpsS w T A l := by
  obtain ⟨X, h1, h2⟩ := h
  exact ⟨X, RowG.sub h1 hs, fun k hk => (h2 k hk).sub hs⟩
/-- a group's cells -/
def grA (g : Grp) (dA : Option Addr) (dc : Nat) (oA : Option Addr) (oc : Nat) : Array Value :=
  #[.int .i64 g.s.t, .int .i64 g.s.r, .int .i64 g.n, .slice dA g.deps.length dc, .int .i64 g.u.t, .int .i64 g.u.r, .slice oA g.ops.length oc]
structure GrIn (w : World) (S : Nat → Prop) (g : Grp) (dA : Option Addr) (dc : Nat) (oA : Option Addr) (oc : Nat) : Prop where
  deps : VecS w S dA g.deps
  ops : OpsS w S oA g.ops
  dle : g.deps.length ≤ dc
  ole : g.ops.length ≤ oc
  dmax : dc ≤ maxLen
  omax : oc ≤ maxLen
  nin : i63 g.n
  din : ∀ x ∈ g.deps, i63 x
theorem GrIn.agr {w w' : World} {S : Nat → Prop} {g : Grp} {dA oA : Option Addr} {dc oc : Nat} (h : GrIn w S g dA dc oA oc) (ha : Agr S w w') : GrIn w' S g dA dc oA oc :=
  ⟨RowG.agr h.deps ha, h.ops.agr ha, h.dle, h.ole, h.dmax, h.omax, h.nin, h.din⟩
theorem GrIn.sub {w : World} {S T : Nat → Prop} {g : Grp} {dA oA : Option Addr} {dc oc : Nat} (h : GrIn w S g dA dc oA oc) (hs : ∀ b, b < w.heap.size → S b → T b) : GrIn w T g dA dc oA oc :=
  ⟨RowG.sub h.deps hs, h.ops.sub hs, h.dle, h.ole, h.dmax, h.omax, h.nin, h.din⟩
end Go.Proofs.YtooaodgamakoeaaDoor
