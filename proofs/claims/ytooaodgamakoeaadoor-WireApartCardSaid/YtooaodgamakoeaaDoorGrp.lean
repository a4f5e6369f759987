/- Plain words of groups: what may be, and its bytes. No condition. -/
import Derived.Test.YtooaodgamakoeaaDoorVarPlain2
import Derived.Lib.ValidU
import Derived.Lib.RuneCount
namespace Go.Proofs.YtooaodgamakoeaaDoor
open Go.Lib
set_option linter.unusedVariables false

/-- a stamp; an id; an operation; a group -/
structure Gst where
  t : Int
  r : Int
structure Gid where
  s : Gst
  i : Int
structure Gop where
  kind : Int
  node : Gid
  parent : Gid
  name : ByteArray
  dir : Bool
  dots : List Gst
  after : Gid
  elem : Gid
  text : ByteArray
  elems : List Gid
structure Grp where
  s : Gst
  n : Int
  deps : List Int
  u : Gst
  ops : List Gop

def Gst.zero : Gst := ⟨0, 0⟩
def Gid.zero : Gid := ⟨⟨0, 0⟩, 0⟩
def Gst.right (s : Gst) : Bool := decide (1 ≤ s.t) && decide (s.t ≤ 1099511627776) && decide (1 ≤ s.r) && decide (s.r ≤ 16)
def Gst.lt (a b : Gst) : Bool := decide (a.t < b.t) || (decide (a.t = b.t) && decide (a.r < b.r))
def Gst.eqb (a b : Gst) : Bool := decide (a.t = b.t) && decide (a.r = b.r)
def Gid.right (x : Gid) : Bool := x.s.right && decide (0 ≤ x.i) && decide (x.i ≤ 400000)
def Gid.eqb (a b : Gid) : Bool := a.s.eqb b.s && decide (a.i = b.i)
def Gid.none (x : Gid) : Bool := x.eqb .zero
def Gid.lt (a b : Gid) : Bool := a.s.lt b.s || (a.s.eqb b.s && decide (a.i < b.i))
theorem Gst.eqb_iff {a b : Gst} : a.eqb b = true ↔ a = b := by
  cases a; cases b; simp [Gst.eqb]
theorem Gid.eqb_iff {a b : Gid} : a.eqb b = true ↔ a = b := by
  cases a; cases b; simp [Gid.eqb, Gst.eqb_iff]

/-- of a replica: how much a vector says -/
def atV (v : List Int) (r : Int) : Int := if r < 1 then 0 else v.getD (r - 1).toNat 0
/-- without noughts behind -/
def plainV (v : List Int) : List Int := (v.reverse.dropWhile (fun x => decide (x = 0))).reverse
def vecB (v : List Int) : Bool := v.all (fun x => decide (0 ≤ x)) && decide (v.length ≤ 16) && decide ((plainV v).length = v.length)

def aheadB (g : Gst) (x : Gid) (k : Nat) : Bool := x.right && (x.s.lt g || (x.s.eqb g && decide (x.i < k)))
def parentB (g : Gst) (x : Gid) (k : Nat) : Bool := x.none || aheadB g x k
/-- a property of each place of a list, and of the one ahead of it -/
def allIx (n : Nat) (p : Nat → Bool) : Bool := (List.range n).all p
theorem allIx_true {n : Nat} {p : Nat → Bool} (h : ∀ i, i < n → p i = true) : allIx n p = true := by
  unfold allIx; rw [List.all_eq_true]; intro i hi; exact h i (List.mem_range.1 hi)
theorem allIx_of {n : Nat} {p : Nat → Bool} (h : allIx n p = true) : ∀ i, i < n → p i = true := by
  unfold allIx at h; rw [List.all_eq_true] at h; intro i hi; exact h i (List.mem_range.2 hi)
theorem allIx_false {n : Nat} {p : Nat → Bool} {i : Nat} (hi : i < n) (h : p i = false) : allIx n p = false := by
  cases e : allIx n p with
  | false => rfl
  | true => rw [allIx_of e i hi] at h; cases h
def dotB (g : Gst) (l : List Gst) (i : Nat) : Bool := (l.getD i .zero).right && !(g.lt (l.getD i .zero)) && (decide (i = 0) || (l.getD (i - 1) .zero).lt (l.getD i .zero))
def dotsB (g : Gst) (l : List Gst) : Bool := allIx l.length (dotB g l) && decide (l.length ≤ 200)
def elemB (g : Gst) (l : List Gid) (k : Nat) (i : Nat) : Bool := aheadB g (l.getD i .zero) k && (decide (i = 0) || (l.getD (i - 1) .zero).lt (l.getD i .zero))
def elemsB (g : Gst) (l : List Gid) (k : Nat) : Bool := allIx l.length (fun i => elemB g l k i) && decide (1 ≤ l.length) && decide (l.length ≤ 2000)
def signB (b : UInt8) : Bool := (decide (48 ≤ b.toNat) && decide (b.toNat ≤ 57)) || (decide (65 ≤ b.toNat) && decide (b.toNat ≤ 90)) || (decide (97 ≤ b.toNat) && decide (b.toNat ≤ 122)) || decide (b.toNat = 46) || decide (b.toNat = 45) || decide (b.toNat = 95)
def nameB (s : ByteArray) : Bool := decide (s.data.toList ≠ []) && decide (s.size ≤ 32) && decide (s.data.toList ≠ [46]) && decide (s.data.toList ≠ [46, 46]) && s.data.toList.all signB
def textB (s : ByteArray) : Bool := validD s.data.toList && decide (1 ≤ runeCount s) && decide (runeCount s ≤ 2000)

/-- has an operation what its kind has alone? -/
def bareB (o : Gop) : Bool :=
  (decide (o.kind = 0) || decide (o.kind = 1) || (o.parent.none && decide (o.name.data.toList = []))) && (decide (o.kind = 0) || !o.dir) && (decide (o.kind = 2) || decide (o.dots.length = 0)) &&
  (decide (o.kind = 3) || (o.after.none && o.elem.none && decide (o.text.data.toList = []))) && (decide (o.kind = 4) || decide (o.elems.length = 0))
/-- may an operation be, beside that? -/
def kindB (g : Gst) (o : Gop) (k : Nat) : Bool :=
  if o.kind = 0 then o.node.eqb ⟨g, k⟩ && parentB g o.parent k && nameB o.name
  else if o.kind = 1 then aheadB g o.node k && parentB g o.parent k && nameB o.name
  else if o.kind = 2 then aheadB g o.node k && dotsB g o.dots
  else if o.kind = 3 then aheadB g o.node k && parentB g o.after k && o.elem.eqb ⟨g, k⟩ && textB o.text
  else if o.kind = 4 then aheadB g o.node k && elemsB g o.elems k
  else false
def opB (g : Gst) (o : Gop) (k : Nat) : Bool := bareB o && kindB g o k
/-- how many ids come to be -/
def moreOf (o : Gop) : Nat := if o.kind = 0 then 1 else if o.kind = 3 then runeCount o.text else 0
def opsB (g : Gst) : List Gop → Nat → Bool
  | [], _ => true
  | o :: l, k => opB g o k && opsB g l (k + moreOf o)
def headB (g : Grp) : Bool := g.s.right && decide (1 ≤ g.n) && decide (g.n ≤ 1099511627776) && vecB g.deps && decide (atV g.deps g.s.r = g.n - 1)
def chkB (g : Grp) : Bool :=
  headB g && (if g.u.eqb .zero = true then decide (1 ≤ g.ops.length) && decide (g.ops.length ≤ 200) && opsB g.s g.ops 0 else g.u.right && g.u.lt g.s && decide (g.ops.length = 0))

/-- the bytes of a number, an id, an operation, a group -/
def natZ (n : Int) : List UInt8 := if n < 0 then [] else uvarint n.toNat
def idZ (x : Gid) : List UInt8 := natZ x.s.t ++ natZ x.s.r ++ natZ x.i
def stZ (x : Gst) : List UInt8 := natZ x.t ++ natZ x.r
def bytesZ (s : ByteArray) : List UInt8 := uvarint s.size ++ s.data.toList
def opZ (o : Gop) : List UInt8 :=
  natZ o.kind ++ idZ o.node ++
  (if o.kind = 0 then idZ o.parent ++ bytesZ o.name ++ natZ (if o.dir then 1 else 0)
   else if o.kind = 1 then idZ o.parent ++ bytesZ o.name
   else if o.kind = 2 then natZ o.dots.length ++ o.dots.flatMap stZ
   else if o.kind = 3 then idZ o.after ++ idZ o.elem ++ bytesZ o.text
   else natZ o.elems.length ++ o.elems.flatMap idZ)
def numsZ (v : List Int) : List UInt8 := natZ v.length ++ v.flatMap natZ
def grpZ (g : Grp) : List UInt8 := natZ g.s.t ++ natZ g.s.r ++ natZ g.n ++ numsZ g.deps ++ natZ g.u.t ++ natZ g.u.r ++ natZ g.ops.length ++ g.ops.flatMap opZ

/-- what stands at the head of bytes, and what stands behind it -/
abbrev Rd (α : Type) := List UInt8 → Option (α × List UInt8)
def rbind {α β : Type} (p : Rd α) (f : α → Rd β) : Rd β := fun l => match p l with
  | some (a, r) => f a r
  | none => none
def rpure {α : Type} (a : α) : Rd α := fun l => some (a, l)
def rfail {α : Type} : Rd α := fun _ => none
theorem rbind_some {α β : Type} {p : Rd α} {f : α → Rd β} {l r : List UInt8} {a : α} (h : p l = some (a, r)) : rbind p f l = f a r := by unfold rbind; rw [h]
theorem rbind_none {α β : Type} {p : Rd α} {f : α → Rd β} {l : List UInt8} (h : p l = none) : rbind p f l = none := by unfold rbind; rw [h]
theorem rbind_inv {α β : Type} {p : Rd α} {f : α → Rd β} {l r : List UInt8} {b : β} (h : rbind p f l = some (b, r)) : ∃ a q, p l = some (a, q) ∧ f a q = some (b, r) := by
  unfold rbind at h
  cases e : p l with
  | none => rw [e] at h; cases h
  | some x => obtain ⟨a, q⟩ := x; rw [e] at h; exact ⟨a, q, rfl, h⟩
def intR : Rd Int := fun l => match Vr.take l with
  | .ok n r => some ((n : Int), r)
  | .err _ => none
def bytesR : Rd ByteArray := rbind intR fun n l => if l.length < n.toNat then none else some (⟨(l.take n.toNat).toArray⟩, l.drop n.toNat)
def stR : Rd Gst := rbind intR fun t => rbind intR fun r => rpure ⟨t, r⟩
def idR : Rd Gid := rbind stR fun s => rbind intR fun i => rpure ⟨s, i⟩
def timesR {α : Type} (one : Rd α) : Nat → Rd (List α)
  | 0 => rpure []
  | n + 1 => rbind one fun x => rbind (timesR one n) fun xs => rpure (x :: xs)
def manyR {α : Type} (one : Rd α) : Rd (List α) := rbind intR fun n => timesR one n.toNat
def dirR : Rd Bool := rbind intR fun d => if 1 < d then rfail else rpure (decide (d = 1))
def opO (k : Int) (node : Gid) : Gop := ⟨k, node, .zero, ⟨#[]⟩, false, [], .zero, .zero, ⟨#[]⟩, []⟩
def opR : Rd Gop := rbind intR fun k => rbind idR fun node =>
  if k = 0 then rbind idR fun p => rbind bytesR fun nm => rbind dirR fun d => rpure { opO k node with parent := p, name := nm, dir := d }
  else if k = 1 then rbind idR fun p => rbind bytesR fun nm => rpure { opO k node with parent := p, name := nm }
  else if k = 2 then rbind (manyR stR) fun l => rpure { opO k node with dots := l }
  else if k = 3 then rbind idR fun a => rbind idR fun e => rbind bytesR fun x => rpure { opO k node with after := a, elem := e, text := x }
  else if k = 4 then rbind (manyR idR) fun l => rpure { opO k node with elems := l }
  else rfail
def grpR : Rd Grp := rbind stR fun s => rbind intR fun n => rbind (manyR intR) fun v => rbind stR fun u => rbind (manyR opR) fun l => rpure ⟨s, n, v, u, l⟩
def decZ (l : List UInt8) : Option Grp := match grpR l with
  | some (g, []) => if chkB g = true then some g else none
  | _ => none

/-- what is put is taken back, and what is taken was put -/
structure Codec {α : Type} (p : Rd α) (z : α → List UInt8) (ok : α → Prop) : Prop where
  put : ∀ x r, ok x → p (z x ++ r) = some (x, r)
  back : ∀ l x r, p l = some (x, r) → l = z x ++ r ∧ ok x
def okI (n : Int) : Prop := 0 ≤ n ∧ n < 9223372036854775808
def okS (s : Gst) : Prop := okI s.t ∧ okI s.r
def okD (x : Gid) : Prop := okS x.s ∧ okI x.i
def okB (s : ByteArray) : Prop := s.size < 9223372036854775808
def okL {α : Type} (ok : α → Prop) (l : List α) : Prop := l.length < 9223372036854775808 ∧ ∀ x ∈ l, ok x
theorem natZ_of {n : Int} (h : 0 ≤ n) : natZ n = uvarint n.toNat := by unfold natZ; rw [if_neg (by omega)]
theorem intC : Codec intR natZ okI := by
  refine ⟨fun n r h => ?_, fun l n r h => ?_⟩
  · unfold intR
    rw [natZ_of h.1, Vr.take_put n.toNat (by have := h.2; omega)]
    have := h.1
    simp only [Option.some.injEq, Prod.mk.injEq, and_true]
    omega
  · unfold intR at h
    cases e : Vr.take l with
    | err c => rw [e] at h; cases h
    | ok m q =>
      rw [e] at h
      simp only [Option.some.injEq, Prod.mk.injEq] at h
      obtain ⟨rfl, rfl⟩ := h
      obtain ⟨h1, h2⟩ := Vr.take_ok e
      exact ⟨by rw [natZ_of (by omega), Int.toNat_natCast]; exact h1, by omega, by omega⟩
theorem stC : Codec stR stZ okS := by
  refine ⟨fun x r h => ?_, fun l x r h => ?_⟩
  · unfold stR stZ
    rw [List.append_assoc, rbind_some (intC.put _ _ h.1), rbind_some (intC.put _ _ h.2)]
    rfl
  · replace h := rbind_inv h; obtain ⟨t, q1, h1, h⟩ := h
    replace h := rbind_inv h; obtain ⟨n, q2, h2, h⟩ := h
    cases h
    obtain ⟨rfl, o1⟩ := intC.back _ _ _ h1
    obtain ⟨rfl, o2⟩ := intC.back _ _ _ h2
    exact ⟨by simp [stZ], o1, o2⟩
theorem idC : Codec idR idZ okD := by
  refine ⟨fun x r h => ?_, fun l x r h => ?_⟩
  · unfold idR idZ
    rw [List.append_assoc, show natZ x.s.t ++ natZ x.s.r = stZ x.s from rfl, rbind_some (stC.put _ _ h.1), rbind_some (intC.put _ _ h.2)]
    rfl
  · replace h := rbind_inv h; obtain ⟨t, q1, h1, h⟩ := h
    replace h := rbind_inv h; obtain ⟨n, q2, h2, h⟩ := h
    cases h
    obtain ⟨rfl, o1⟩ := stC.back _ _ _ h1
    obtain ⟨rfl, o2⟩ := intC.back _ _ _ h2
    exact ⟨by simp [idZ, stZ], o1, o2⟩
theorem bytesC : Codec bytesR bytesZ okB := by
  refine ⟨fun x r h => ?_, fun l x r h => ?_⟩
  · unfold bytesR bytesZ
    have e : uvarint x.size = natZ x.size := by rw [natZ_of (by omega)]; rfl
    have hl : x.data.toList.length = x.size := by simp
    unfold okB at h
    rw [e, List.append_assoc, rbind_some (intC.put _ _ ⟨by omega, by omega⟩), Int.toNat_natCast, if_neg (by rw [List.length_append]; omega), ← hl, List.take_left, List.drop_left]
  · replace h := rbind_inv h; obtain ⟨n, q1, h1, h⟩ := h
    obtain ⟨rfl, o1⟩ := intC.back _ _ _ h1
    split at h
    · cases h
    · rename_i hn
      simp only [Option.some.injEq, Prod.mk.injEq] at h
      obtain ⟨rfl, rfl⟩ := h
      have hs : (⟨(q1.take n.toNat).toArray⟩ : ByteArray).size = n.toNat := by
        simp only [ByteArray.size, List.size_toArray, List.length_take]; omega
      refine ⟨?_, by unfold okB; rw [hs]; have := o1.2; omega⟩
      unfold bytesZ
      rw [hs, natZ_of o1.1, List.append_assoc]
      show _ = _ ++ (q1.take n.toNat ++ _)
      rw [List.take_append_drop]
theorem timesC {α : Type} {p : Rd α} {z : α → List UInt8} {ok : α → Prop} (h : Codec p z ok) : ∀ n, Codec (timesR p n) (fun l => l.flatMap z) (fun l => l.length = n ∧ ∀ x ∈ l, ok x)
  | 0 => by
    refine ⟨fun x r hx => ?_, fun l x r hx => ?_⟩
    · obtain rfl := List.eq_nil_of_length_eq_zero hx.1; rfl
    · unfold timesR rpure at hx
      cases hx
      exact ⟨rfl, rfl, fun _ h => by cases h⟩
  | n + 1 => by
    have ih := timesC h n
    refine ⟨fun x r hx => ?_, fun l x r hx => ?_⟩
    · cases x with
      | nil => have := hx.1; simp at this
      | cons y ys =>
        unfold timesR
        rw [List.flatMap_cons, List.append_assoc, rbind_some (h.put _ _ (hx.2 y (by simp))), rbind_some (ih.put ys r ⟨by have := hx.1; simpa using this, fun x hx' => hx.2 x (by simp [hx'])⟩)]
        rfl
    · unfold timesR at hx
      replace hx := rbind_inv hx; obtain ⟨y, q1, h1, hx⟩ := hx
      replace hx := rbind_inv hx; obtain ⟨ys, q2, h2, hx⟩ := hx
      cases hx
      obtain ⟨rfl, o1⟩ := h.back _ _ _ h1
      obtain ⟨rfl, o2, o3⟩ := ih.back _ _ _ h2
      refine ⟨by simp, by simp [o2], fun x hx => ?_⟩
      rcases List.mem_cons.1 hx with rfl | hx
      · exact o1
      · exact o3 x hx
theorem manyC {α : Type} {p : Rd α} {z : α → List UInt8} {ok : α → Prop} (h : Codec p z ok) : Codec (manyR p) (fun l => natZ l.length ++ l.flatMap z) (okL ok) := by
  refine ⟨fun x r hx => ?_, fun l x r hx => ?_⟩
  · unfold manyR
    rw [List.append_assoc, rbind_some (intC.put _ _ ⟨by omega, by have := hx.1; omega⟩), Int.toNat_natCast]
    exact (timesC h _).put x r ⟨rfl, hx.2⟩
  · replace hx := rbind_inv hx; obtain ⟨n, q1, h1, hx⟩ := hx
    obtain ⟨rfl, o1⟩ := intC.back _ _ _ h1
    obtain ⟨rfl, o2, o3⟩ := (timesC h _).back _ _ _ hx
    have e : ((x.length : Nat) : Int) = n := by have := o1.1; omega
    refine ⟨by rw [e, List.append_assoc], by have := o1.2; omega, o3⟩
theorem dirC : Codec dirR (fun d => natZ (if d then 1 else 0)) (fun _ => True) := by
  refine ⟨fun x r _ => ?_, fun l x r h => ?_⟩
  · unfold dirR
    cases x
    · rw [if_neg (by decide), rbind_some (intC.put 0 _ ⟨by decide, by decide⟩)]; rfl
    · rw [if_pos rfl, rbind_some (intC.put 1 _ ⟨by decide, by decide⟩)]; rfl
  · replace h := rbind_inv h; obtain ⟨d, q1, h1, h⟩ := h
    obtain ⟨rfl, o1⟩ := intC.back _ _ _ h1
    split at h
    · cases h
    · cases h
      refine ⟨?_, trivial⟩
      have h0 := o1.1
      by_cases hd : d = 1
      · subst hd; rfl
      · obtain rfl : d = 0 := by omega
        rfl
def okO (o : Gop) : Prop := 0 ≤ o.kind ∧ o.kind ≤ 4 ∧ bareB o = true ∧ okD o.node ∧ okD o.parent ∧ okB o.name ∧ okL okS o.dots ∧ okD o.after ∧ okD o.elem ∧ okB o.text ∧ okL okD o.elems
theorem okZ : okD .zero := ⟨⟨⟨by decide, by decide⟩, ⟨by decide, by decide⟩⟩, ⟨by decide, by decide⟩⟩
theorem okN {α : Type} {ok : α → Prop} : okL ok [] := ⟨by simp, fun _ h => by cases h⟩
theorem okE : okB ⟨#[]⟩ := by unfold okB; decide
theorem Gid.none_iff {x : Gid} : x.none = true ↔ x = .zero := Gid.eqb_iff
theorem bs_nil {s : ByteArray} : s.data.toList = [] ↔ s = ⟨#[]⟩ := ⟨fun h => ByteArray.ext (Array.toList_inj.1 h), fun h => by rw [h]⟩
theorem zeroN : Gid.zero.none = true := by decide
theorem opC : Codec opR opZ okO := by
  refine ⟨fun o r h => ?_, fun l o r h => ?_⟩
  · obtain ⟨k, node, parent, name, dir, dots, after, elem, text, elems⟩ := o
    obtain ⟨h0, h4, hb, h1, h2, h3, h5, h6, h7, h8, h9⟩ := h
    simp only at h0 h4 h1 h2 h3 h5 h6 h7 h8 h9
    unfold opR opZ
    simp only [List.append_assoc]
    rw [rbind_some (intC.put k _ ⟨h0, by omega⟩), rbind_some (idC.put node _ h1)]
    unfold bareB at hb
    simp only [Bool.and_eq_true, Bool.or_eq_true, decide_eq_true_eq, Bool.not_eq_true', Gid.none_iff, bs_nil, List.length_eq_zero_iff] at hb
    by_cases k0 : k = 0
    · subst k0
      obtain ⟨⟨⟨⟨-, -⟩, b3⟩, b4⟩, b5⟩ := hb
      obtain rfl : dots = [] := b3.resolve_left (by decide)
      obtain ⟨⟨rfl, rfl⟩, rfl⟩ := b4.resolve_left (by decide)
      obtain rfl : elems = [] := b5.resolve_left (by decide)
      simp only [if_true, List.append_assoc]
      rw [rbind_some (idC.put _ _ h2), rbind_some (bytesC.put _ _ h3), rbind_some (dirC.put _ _ trivial)]
      rfl
    by_cases k1 : k = 1
    · subst k1
      obtain ⟨⟨⟨⟨-, b2⟩, b3⟩, b4⟩, b5⟩ := hb
      obtain rfl : dir = false := b2.resolve_left (by decide)
      obtain rfl : dots = [] := b3.resolve_left (by decide)
      obtain ⟨⟨rfl, rfl⟩, rfl⟩ := b4.resolve_left (by decide)
      obtain rfl : elems = [] := b5.resolve_left (by decide)
      simp only [if_neg k0, if_true, List.append_assoc]
      rw [rbind_some (idC.put _ _ h2), rbind_some (bytesC.put _ _ h3)]
      rfl
    by_cases k2 : k = 2
    · subst k2
      obtain ⟨⟨⟨⟨b1, b2⟩, -⟩, b4⟩, b5⟩ := hb
      obtain ⟨rfl, rfl⟩ := b1.resolve_left (by decide)
      obtain rfl : dir = false := b2.resolve_left (by decide)
      obtain ⟨⟨rfl, rfl⟩, rfl⟩ := b4.resolve_left (by decide)
      obtain rfl : elems = [] := b5.resolve_left (by decide)
      simp only [if_neg k0, if_neg k1, if_true]
      rw [rbind_some ((manyC stC).put _ _ h5)]
      rfl
    by_cases k3 : k = 3
    · subst k3
      obtain ⟨⟨⟨⟨b1, b2⟩, b3⟩, -⟩, b5⟩ := hb
      obtain ⟨rfl, rfl⟩ := b1.resolve_left (by decide)
      obtain rfl : dir = false := b2.resolve_left (by decide)
      obtain rfl : dots = [] := b3.resolve_left (by decide)
      obtain rfl : elems = [] := b5.resolve_left (by decide)
      simp only [if_neg k0, if_neg k1, if_neg k2, if_true, List.append_assoc]
      rw [rbind_some (idC.put _ _ h6), rbind_some (idC.put _ _ h7), rbind_some (bytesC.put _ _ h8)]
      rfl
    · obtain rfl : k = 4 := by omega
      obtain ⟨⟨⟨⟨b1, b2⟩, b3⟩, b4⟩, -⟩ := hb
      obtain ⟨rfl, rfl⟩ := b1.resolve_left (by decide)
      obtain rfl : dir = false := b2.resolve_left (by decide)
      obtain rfl : dots = [] := b3.resolve_left (by decide)
      obtain ⟨⟨rfl, rfl⟩, rfl⟩ := b4.resolve_left (by decide)
      simp only [if_neg k0, if_neg k1, if_neg k2, if_neg k3, if_true]
      rw [rbind_some ((manyC idC).put _ _ h9)]
      rfl
  · replace h := rbind_inv h; obtain ⟨k, q1, h1, h⟩ := h
    replace h := rbind_inv h; obtain ⟨node, q2, h2, h⟩ := h
    obtain ⟨rfl, o1⟩ := intC.back _ _ _ h1
    obtain ⟨rfl, o2⟩ := idC.back _ _ _ h2
    by_cases k0 : k = 0
    · subst k0
      rw [if_pos rfl] at h
      replace h := rbind_inv h; obtain ⟨p, q3, h3, h⟩ := h
      replace h := rbind_inv h; obtain ⟨nm, q4, h4, h⟩ := h
      replace h := rbind_inv h; obtain ⟨d, q5, h5, h⟩ := h
      cases h
      obtain ⟨rfl, o3⟩ := idC.back _ _ _ h3
      obtain ⟨rfl, o4⟩ := bytesC.back _ _ _ h4
      obtain ⟨rfl, o5⟩ := dirC.back _ _ _ h5
      exact ⟨by simp [opZ, opO], by simp [opO], by simp [opO], by simp [bareB, opO, zeroN], o2, o3, o4, okN, okZ, okZ, okE, okN⟩
    rw [if_neg k0] at h
    by_cases k1 : k = 1
    · subst k1
      rw [if_pos rfl] at h
      replace h := rbind_inv h; obtain ⟨p, q3, h3, h⟩ := h
      replace h := rbind_inv h; obtain ⟨nm, q4, h4, h⟩ := h
      cases h
      obtain ⟨rfl, o3⟩ := idC.back _ _ _ h3
      obtain ⟨rfl, o4⟩ := bytesC.back _ _ _ h4
      exact ⟨by simp [opZ, opO], by simp [opO], by simp [opO], by simp [bareB, opO, zeroN], o2, o3, o4, okN, okZ, okZ, okE, okN⟩
    rw [if_neg k1] at h
    by_cases k2 : k = 2
    · subst k2
      rw [if_pos rfl] at h
      replace h := rbind_inv h; obtain ⟨x, q3, h3, h⟩ := h
      cases h
      obtain ⟨rfl, o3⟩ := (manyC stC).back _ _ _ h3
      exact ⟨by simp [opZ, opO], by simp [opO], by simp [opO], by simp [bareB, opO, zeroN], o2, okZ, okE, o3, okZ, okZ, okE, okN⟩
    rw [if_neg k2] at h
    by_cases k3 : k = 3
    · subst k3
      rw [if_pos rfl] at h
      replace h := rbind_inv h; obtain ⟨a, q3, h3, h⟩ := h
      replace h := rbind_inv h; obtain ⟨e, q4, h4, h⟩ := h
      replace h := rbind_inv h; obtain ⟨x, q5, h5, h⟩ := h
      cases h
      obtain ⟨rfl, o3⟩ := idC.back _ _ _ h3
      obtain ⟨rfl, o4⟩ := idC.back _ _ _ h4
      obtain ⟨rfl, o5⟩ := bytesC.back _ _ _ h5
      exact ⟨by simp [opZ, opO], by simp [opO], by simp [opO], by simp [bareB, opO, zeroN], o2, okZ, okE, okN, o3, o4, o5, okN⟩
    rw [if_neg k3] at h
    by_cases k4 : k = 4
    · subst k4
      rw [if_pos rfl] at h
      replace h := rbind_inv h; obtain ⟨x, q3, h3, h⟩ := h
      cases h
      obtain ⟨rfl, o3⟩ := (manyC idC).back _ _ _ h3
      exact ⟨by simp [opZ, opO], by simp [opO], by simp [opO], by simp [bareB, opO, zeroN], o2, okZ, okE, okN, okZ, okZ, okE, o3⟩
    rw [if_neg k4] at h
    cases h
def okG (g : Grp) : Prop := okS g.s ∧ okI g.n ∧ okL okI g.deps ∧ okS g.u ∧ okL okO g.ops
theorem grpC : Codec grpR grpZ okG := by
  refine ⟨fun g r h => ?_, fun l g r h => ?_⟩
  · obtain ⟨h1, h2, h3, h4, h5⟩ := h
    have e : grpZ g ++ r = stZ g.s ++ (natZ g.n ++ ((natZ g.deps.length ++ g.deps.flatMap natZ) ++ (stZ g.u ++ ((natZ g.ops.length ++ g.ops.flatMap opZ) ++ r)))) := by
      unfold grpZ stZ numsZ; simp only [List.append_assoc]
    unfold grpR
    rw [e, rbind_some (stC.put _ _ h1), rbind_some (intC.put _ _ h2), rbind_some ((manyC intC).put _ _ h3), rbind_some (stC.put _ _ h4), rbind_some ((manyC opC).put _ _ h5)]
    rfl
  · replace h := rbind_inv h; obtain ⟨s, q1, h1, h⟩ := h
    replace h := rbind_inv h; obtain ⟨n, q2, h2, h⟩ := h
    replace h := rbind_inv h; obtain ⟨v, q3, h3, h⟩ := h
    replace h := rbind_inv h; obtain ⟨u, q4, h4, h⟩ := h
    replace h := rbind_inv h; obtain ⟨x, q5, h5, h⟩ := h
    cases h
    obtain ⟨rfl, o1⟩ := stC.back _ _ _ h1
    obtain ⟨rfl, o2⟩ := intC.back _ _ _ h2
    obtain ⟨rfl, o3⟩ := (manyC intC).back _ _ _ h3
    obtain ⟨rfl, o4⟩ := stC.back _ _ _ h4
    obtain ⟨rfl, o5⟩ := (manyC opC).back _ _ _ h5
    exact ⟨by simp [grpZ, stZ, numsZ], o1, o2, o3, o4, o5⟩
/-- a group that may be has an encoding that is read back -/
theorem right_ok {s : Gst} (h : s.right = true) : okS s := by
  simp only [Gst.right, Bool.and_eq_true, decide_eq_true_eq] at h
  exact ⟨⟨by omega, by omega⟩, ⟨by omega, by omega⟩⟩
theorem rightid_ok {x : Gid} (h : x.right = true) : okD x := by
  simp only [Gid.right, Bool.and_eq_true, decide_eq_true_eq] at h
  exact ⟨right_ok h.1.1, ⟨by omega, by omega⟩⟩
theorem ahead_ok {g : Gst} {x : Gid} {k : Nat} (h : aheadB g x k = true) : okD x := by
  simp only [aheadB, Bool.and_eq_true] at h; exact rightid_ok h.1
theorem parent_ok {g : Gst} {x : Gid} {k : Nat} (h : parentB g x k = true) : okD x := by
  simp only [parentB, Bool.or_eq_true] at h
  rcases h with h | h
  · rw [Gid.none_iff] at h; subst h; exact okZ
  · exact ahead_ok h
/-- the sizes that memory itself bounds -/
def fitO (o : Gop) : Prop := okB o.name ∧ okB o.text ∧ o.dots.length < 9223372036854775808 ∧ o.elems.length < 9223372036854775808
theorem getD_of_mem {α : Type} {l : List α} {x z : α} (h : x ∈ l) : ∃ i, i < l.length ∧ l.getD i z = x := by
  obtain ⟨i, hi, e⟩ := List.mem_iff_getElem.1 h
  exact ⟨i, hi, by rw [List.getD_eq_getElem?_getD, List.getElem?_eq_getElem hi]; exact e⟩
theorem dots_ok {g : Gst} {l : List Gst} (h : dotsB g l = true) : ∀ x ∈ l, okS x := fun x hx => by
  simp only [dotsB, Bool.and_eq_true] at h
  obtain ⟨i, hi, e⟩ := getD_of_mem (z := Gst.zero) hx
  have := allIx_of h.1 i hi
  simp only [dotB, Bool.and_eq_true, e] at this
  exact right_ok this.1.1
theorem elems_ok {g : Gst} {l : List Gid} {k : Nat} (h : elemsB g l k = true) : ∀ x ∈ l, okD x := fun x hx => by
  simp only [elemsB, Bool.and_eq_true] at h
  obtain ⟨i, hi, e⟩ := getD_of_mem (z := Gid.zero) hx
  have := allIx_of h.1.1 i hi
  simp only [elemB, Bool.and_eq_true, e] at this
  exact ahead_ok this.1
theorem op_ok {g : Gst} {o : Gop} {k : Nat} (hg : okS g) (hk : k < 9223372036854775808) (hf : fitO o) (h : opB g o k = true) : okO o := by
  obtain ⟨kind, node, parent, name, dir, dots, after, elem, text, elems⟩ := o
  obtain ⟨f1, f2, f3, f4⟩ := hf
  simp only [opB, Bool.and_eq_true] at h
  obtain ⟨hb, h⟩ := h
  have hb' := hb
  unfold bareB at hb
  simp only [Bool.and_eq_true, Bool.or_eq_true, decide_eq_true_eq, Bool.not_eq_true', Gid.none_iff, bs_nil, List.length_eq_zero_iff] at hb
  unfold kindB at h
  simp only at h
  have own : okD ⟨g, k⟩ := ⟨hg, by simp only; omega, by simp only; omega⟩
  by_cases k0 : kind = 0
  · subst k0
    simp only [if_true, Bool.and_eq_true, Gid.eqb_iff] at h
    obtain ⟨⟨rfl, h2⟩, h3⟩ := h
    obtain ⟨⟨⟨⟨-, -⟩, b3⟩, b4⟩, b5⟩ := hb
    obtain rfl : dots = [] := b3.resolve_left (by decide)
    obtain ⟨⟨rfl, rfl⟩, rfl⟩ := b4.resolve_left (by decide)
    obtain rfl : elems = [] := b5.resolve_left (by decide)
    exact ⟨by simp, by simp, hb', own, parent_ok h2, f1, okN, okZ, okZ, okE, okN⟩
  rw [if_neg k0] at h
  by_cases k1 : kind = 1
  · subst k1
    simp only [if_true, Bool.and_eq_true] at h
    obtain ⟨⟨h1, h2⟩, h3⟩ := h
    obtain ⟨⟨⟨⟨-, b2⟩, b3⟩, b4⟩, b5⟩ := hb
    obtain rfl : dots = [] := b3.resolve_left (by decide)
    obtain ⟨⟨rfl, rfl⟩, rfl⟩ := b4.resolve_left (by decide)
    obtain rfl : elems = [] := b5.resolve_left (by decide)
    exact ⟨by simp, by simp, hb', ahead_ok h1, parent_ok h2, f1, okN, okZ, okZ, okE, okN⟩
  rw [if_neg k1] at h
  by_cases k2 : kind = 2
  · subst k2
    simp only [if_true, Bool.and_eq_true] at h
    obtain ⟨h1, h2⟩ := h
    obtain ⟨⟨⟨⟨b1, b2⟩, -⟩, b4⟩, b5⟩ := hb
    obtain ⟨rfl, rfl⟩ := b1.resolve_left (by decide)
    obtain ⟨⟨rfl, rfl⟩, rfl⟩ := b4.resolve_left (by decide)
    obtain rfl : elems = [] := b5.resolve_left (by decide)
    exact ⟨by simp, by simp, hb', ahead_ok h1, okZ, okE, ⟨f3, dots_ok h2⟩, okZ, okZ, okE, okN⟩
  rw [if_neg k2] at h
  by_cases k3 : kind = 3
  · subst k3
    simp only [if_true, Bool.and_eq_true, Gid.eqb_iff] at h
    obtain ⟨⟨⟨h1, h2⟩, rfl⟩, h4⟩ := h
    obtain ⟨⟨⟨⟨b1, b2⟩, b3⟩, -⟩, b5⟩ := hb
    obtain ⟨rfl, rfl⟩ := b1.resolve_left (by decide)
    obtain rfl : dots = [] := b3.resolve_left (by decide)
    obtain rfl : elems = [] := b5.resolve_left (by decide)
    exact ⟨by simp, by simp, hb', ahead_ok h1, okZ, okE, okN, parent_ok h2, own, f2, okN⟩
  rw [if_neg k3] at h
  by_cases k4 : kind = 4
  · subst k4
    simp only [if_true, Bool.and_eq_true] at h
    obtain ⟨h1, h2⟩ := h
    obtain ⟨⟨⟨⟨b1, b2⟩, b3⟩, b4⟩, -⟩ := hb
    obtain ⟨rfl, rfl⟩ := b1.resolve_left (by decide)
    obtain rfl : dots = [] := b3.resolve_left (by decide)
    obtain ⟨⟨rfl, rfl⟩, rfl⟩ := b4.resolve_left (by decide)
    exact ⟨by simp, by simp, hb', ahead_ok h1, okZ, okE, okN, okZ, okZ, okE, ⟨f4, elems_ok h2⟩⟩
  rw [if_neg k4] at h
  cases h
def fitG (g : Grp) : Prop := g.deps.length < 9223372036854775808 ∧ (∀ x ∈ g.deps, x < 9223372036854775808) ∧ ∀ o ∈ g.ops, fitO o
theorem more_le {g : Gst} {o : Gop} {k : Nat} (h : opB g o k = true) : moreOf o ≤ 2000 := by
  simp only [opB, Bool.and_eq_true] at h
  have h := h.2
  unfold kindB at h
  unfold moreOf
  by_cases k0 : o.kind = 0
  · rw [if_pos k0]; omega
  rw [if_neg k0] at h ⊢
  by_cases k3 : o.kind = 3
  · rw [if_neg (by omega), if_neg (by omega), if_pos k3] at h
    rw [if_pos k3]
    simp only [textB, Bool.and_eq_true, decide_eq_true_eq] at h
    exact h.2.2
  · rw [if_neg k3]; omega
theorem ops_ok {g : Gst} (hg : okS g) : ∀ (l : List Gop) (k : Nat), k + 2000 * l.length < 9223372036854775808 → (∀ o ∈ l, fitO o) → opsB g l k = true → ∀ o ∈ l, okO o
  | [], _, _, _, _ => fun _ h => by cases h
  | o :: l, k, hk, hf, h => by
    simp only [opsB, Bool.and_eq_true] at h
    simp only [List.length_cons] at hk
    have h1 := op_ok hg (by omega) (hf o (by simp)) h.1
    have hm := more_le h.1
    have h2 := ops_ok hg l (k + moreOf o) (by omega) (fun x hx => hf x (by simp [hx])) h.2
    intro x hx
    rcases List.mem_cons.1 hx with rfl | hx
    · exact h1
    · exact h2 x hx
theorem Gst.eqb_zero {s : Gst} : s.eqb .zero = true ↔ s = .zero := Gst.eqb_iff
theorem chk_ok {g : Grp} (hf : fitG g) (h : chkB g = true) : okG g := by
  obtain ⟨f1, f2, f3⟩ := hf
  simp only [chkB, headB, vecB, Bool.and_eq_true, decide_eq_true_eq, List.all_eq_true] at h
  obtain ⟨⟨⟨⟨⟨h1, h2⟩, h3⟩, ⟨⟨h4, h5⟩, h6⟩⟩, h7⟩, h⟩ := h
  have hs := right_ok h1
  refine ⟨hs, ⟨by omega, by omega⟩, ⟨f1, fun x hx => ⟨h4 x hx, f2 x hx⟩⟩, ?_⟩
  split at h
  · rename_i hu
    rw [Gst.eqb_iff] at hu
    simp only [Bool.and_eq_true, decide_eq_true_eq] at h
    obtain ⟨⟨h8, h9⟩, h10⟩ := h
    exact ⟨by rw [hu]; exact okZ.1, by omega, ops_ok hs _ 0 (by omega) f3 h10⟩
  · simp only [Bool.and_eq_true, decide_eq_true_eq, List.length_eq_zero_iff] at h
    obtain ⟨⟨h8, h9⟩, h10⟩ := h
    exact ⟨right_ok h8, by rw [h10]; exact okN⟩
/-- what is encoded is decoded; what is decoded was encoded -/
theorem dec_enc {g : Grp} (hf : fitG g) (h : chkB g = true) : decZ (grpZ g) = some g := by
  have := grpC.put g [] (chk_ok hf h)
  rw [List.append_nil] at this
  unfold decZ
  rw [this]
  simp only [h, if_true]
theorem enc_dec {l : List UInt8} {g : Grp} (h : decZ l = some g) : l = grpZ g ∧ chkB g = true ∧ okG g := by
  unfold decZ at h
  split at h
  · rename_i g' hg
    split at h
    · rename_i hc
      cases h
      obtain ⟨h1, h2⟩ := grpC.back _ _ _ hg
      exact ⟨by rw [h1, List.append_nil], hc, h2⟩
    · cases h
  · cases h
theorem enc_inj {g h : Grp} (hg : fitG g) (hh : fitG h) (cg : chkB g = true) (ch : chkB h = true) (e : grpZ g = grpZ h) : g = h := by
  have h1 := dec_enc hg cg
  rw [e, dec_enc hh ch] at h1
  cases h1; rfl
/-- no beginning of a group's bytes is a group's -/
theorem dec_cut {g : Grp} (hg : fitG g) (cg : chkB g = true) (k : Nat) (hk : k < (grpZ g).length) : decZ ((grpZ g).take k) = none := by
  cases e : decZ ((grpZ g).take k) with
  | none => rfl
  | some h =>
    exfalso
    obtain ⟨h1, h2, h3⟩ := enc_dec e
    have h4 := grpC.put h ((grpZ g).drop k) h3
    rw [← h1, List.take_append_drop] at h4
    have h5 := grpC.put g [] (chk_ok hg cg)
    rw [List.append_nil, h4] at h5
    simp only [Option.some.injEq, Prod.mk.injEq] at h5
    have := congrArg List.length h5.2
    rw [List.length_drop] at this
    simp at this
    omega
end Go.Proofs.YtooaodgamakoeaaDoor
