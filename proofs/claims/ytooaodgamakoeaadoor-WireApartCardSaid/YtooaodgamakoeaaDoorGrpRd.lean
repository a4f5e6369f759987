/- Plain words of a reader that remembers whether something went wrong. No condition. -/
import Derived.Test.YtooaodgamakoeaaDoorGrpSize
namespace Go.Proofs.YtooaodgamakoeaaDoor
open Go.Lib
set_option linter.unusedVariables false
/-- from bytes l, where things were bad already or not, x is read, and l' is left -/
structure RdIs {α : Type} (p : Rd α) (l : List UInt8) (b : Bool) (x : α) (l' : List UInt8) (b' : Bool) : Prop where
  stay : b = true → b' = true
  step : b = false → (b' = false ∧ p l = some (x, l')) ∨ (b' = true ∧ p l = none)
  le : l'.length ≤ l.length
theorem RdIs.pure {α : Type} {l : List UInt8} {b : Bool} {x : α} : RdIs (rpure x) l b x l b := ⟨id, fun h => .inl ⟨h, rfl⟩, Nat.le_refl _⟩
theorem RdIs.fail {α : Type} {l : List UInt8} {b : Bool} {x : α} : RdIs (rfail (α := α)) l b x l true := ⟨fun _ => rfl, fun _ => .inr ⟨rfl, rfl⟩, Nat.le_refl _⟩
theorem RdIs.bind {α β : Type} {p : Rd α} {f : α → Rd β} {l l1 l2 : List UInt8} {b b1 b2 : Bool} {x : α} {y : β} (h : RdIs p l b x l1 b1) (k : RdIs (f x) l1 b1 y l2 b2) : RdIs (rbind p f) l b y l2 b2 := by
  refine ⟨fun e => k.stay (h.stay e), fun e => ?_, Nat.le_trans k.le h.le⟩
  rcases h.step e with ⟨h1, h2⟩ | ⟨h1, h2⟩
  · rw [rbind_some h2]; exact k.step h1
  · exact .inr ⟨k.stay h1, rbind_none h2⟩
theorem RdIs.dir {l l1 : List UInt8} {b b1 : Bool} {d : Int} (h : RdIs intR l b d l1 b1) : RdIs dirR l b (decide (d = 1)) l1 (b1 || decide (1 < d)) := by
  refine RdIs.bind h (f := fun d => if 1 < d then rfail else rpure (decide (d = 1))) ?_
  by_cases c : 1 < d
  · rw [if_pos c]
    have : (b1 || decide (1 < d)) = true := by simp [c]
    rw [this]
    exact RdIs.fail
  · rw [if_neg c]
    have : (b1 || decide (1 < d)) = b1 := by simp [c]
    rw [this]
    exact RdIs.pure
theorem RdIs.st {l l1 l2 : List UInt8} {b b1 b2 : Bool} {t r : Int} (h : RdIs intR l b t l1 b1) (k : RdIs intR l1 b1 r l2 b2) : RdIs stR l b (⟨t, r⟩ : Gst) l2 b2 :=
  RdIs.bind (f := fun t => rbind intR fun r => rpure (⟨t, r⟩ : Gst)) h (RdIs.bind (f := fun r => rpure (⟨t, r⟩ : Gst)) k RdIs.pure)
theorem RdIs.id {l l1 l2 : List UInt8} {b b1 b2 : Bool} {s : Gst} {i : Int} (h : RdIs stR l b s l1 b1) (k : RdIs intR l1 b1 i l2 b2) : RdIs idR l b (⟨s, i⟩ : Gid) l2 b2 :=
  RdIs.bind (f := fun s => rbind intR fun i => rpure (⟨s, i⟩ : Gid)) h (RdIs.bind (f := fun i => rpure (⟨s, i⟩ : Gid)) k RdIs.pure)
section
variable {l l1 l2 l3 l4 l5 : List UInt8} {b b1 b2 b3 b4 b5 : Bool} {node : Gid}
theorem RdIs.op {k : Int} {o : Gop} {f : Int → Gid → Rd Gop} (h : RdIs intR l b k l1 b1) (hn : RdIs idR l1 b1 node l2 b2) (hf : RdIs (f k node) l2 b2 o l3 b3) : RdIs (rbind intR fun k => rbind idR fun node => f k node) l b o l3 b3 :=
  RdIs.bind (f := fun k => rbind idR fun node => f k node) h (RdIs.bind (f := fun node => f k node) hn hf)
def opF (k : Int) (node : Gid) : Rd Gop :=
  if k = 0 then rbind idR fun p => rbind bytesR fun nm => rbind dirR fun d => rpure { opO k node with parent := p, name := nm, dir := d }
  else if k = 1 then rbind idR fun p => rbind bytesR fun nm => rpure { opO k node with parent := p, name := nm }
  else if k = 2 then rbind (manyR stR) fun l => rpure { opO k node with dots := l }
  else if k = 3 then rbind idR fun a => rbind idR fun e => rbind bytesR fun x => rpure { opO k node with after := a, elem := e, text := x }
  else if k = 4 then rbind (manyR idR) fun l => rpure { opO k node with elems := l }
  else rfail
theorem opR_F : opR = rbind intR fun k => rbind idR fun node => opF k node := rfl
theorem RdIs.op0 {p : Gid} {nm : ByteArray} {d : Bool} (h : RdIs intR l b 0 l1 b1) (hn : RdIs idR l1 b1 node l2 b2) (h1 : RdIs idR l2 b2 p l3 b3) (h2 : RdIs bytesR l3 b3 nm l4 b4) (h3 : RdIs dirR l4 b4 d l5 b5) :
    RdIs opR l b { opO 0 node with parent := p, name := nm, dir := d } l5 b5 := by
  rw [opR_F]
  refine RdIs.op h hn ?_
  unfold opF
  rw [if_pos rfl]
  exact RdIs.bind (f := fun p => rbind bytesR fun nm => rbind dirR fun d => rpure { opO 0 node with parent := p, name := nm, dir := d }) h1
    (RdIs.bind (f := fun nm => rbind dirR fun d => rpure { opO 0 node with parent := p, name := nm, dir := d }) h2 (RdIs.bind (f := fun d => rpure { opO 0 node with parent := p, name := nm, dir := d }) h3 RdIs.pure))
theorem RdIs.op1 {p : Gid} {nm : ByteArray} (h : RdIs intR l b 1 l1 b1) (hn : RdIs idR l1 b1 node l2 b2) (h1 : RdIs idR l2 b2 p l3 b3) (h2 : RdIs bytesR l3 b3 nm l4 b4) :
    RdIs opR l b { opO 1 node with parent := p, name := nm } l4 b4 := by
  rw [opR_F]
  refine RdIs.op h hn ?_
  unfold opF
  rw [if_neg (by decide), if_pos rfl]
  exact RdIs.bind (f := fun p => rbind bytesR fun nm => rpure { opO 1 node with parent := p, name := nm }) h1 (RdIs.bind (f := fun nm => rpure { opO 1 node with parent := p, name := nm }) h2 RdIs.pure)
theorem RdIs.op2 {x : List Gst} (h : RdIs intR l b 2 l1 b1) (hn : RdIs idR l1 b1 node l2 b2) (h1 : RdIs (manyR stR) l2 b2 x l3 b3) :
    RdIs opR l b { opO 2 node with dots := x } l3 b3 := by
  rw [opR_F]
  refine RdIs.op h hn ?_
  unfold opF
  rw [if_neg (by decide), if_neg (by decide), if_pos rfl]
  exact RdIs.bind (f := fun x => rpure { opO 2 node with dots := x }) h1 RdIs.pure
theorem RdIs.op3 {a e : Gid} {x : ByteArray} (h : RdIs intR l b 3 l1 b1) (hn : RdIs idR l1 b1 node l2 b2) (h1 : RdIs idR l2 b2 a l3 b3) (h2 : RdIs idR l3 b3 e l4 b4) (h3 : RdIs bytesR l4 b4 x l5 b5) :
    RdIs opR l b { opO 3 node with after := a, elem := e, text := x } l5 b5 := by
  rw [opR_F]
  refine RdIs.op h hn ?_
  unfold opF
  rw [if_neg (by decide), if_neg (by decide), if_neg (by decide), if_pos rfl]
  exact RdIs.bind (f := fun a => rbind idR fun e => rbind bytesR fun x => rpure { opO 3 node with after := a, elem := e, text := x }) h1
    (RdIs.bind (f := fun e => rbind bytesR fun x => rpure { opO 3 node with after := a, elem := e, text := x }) h2 (RdIs.bind (f := fun x => rpure { opO 3 node with after := a, elem := e, text := x }) h3 RdIs.pure))
theorem RdIs.op4 {x : List Gid} (h : RdIs intR l b 4 l1 b1) (hn : RdIs idR l1 b1 node l2 b2) (h1 : RdIs (manyR idR) l2 b2 x l3 b3) :
    RdIs opR l b { opO 4 node with elems := x } l3 b3 := by
  rw [opR_F]
  refine RdIs.op h hn ?_
  unfold opF
  rw [if_neg (by decide), if_neg (by decide), if_neg (by decide), if_neg (by decide), if_pos rfl]
  exact RdIs.bind (f := fun x => rpure { opO 4 node with elems := x }) h1 RdIs.pure
theorem RdIs.opx {k : Int} {o : Gop} (k0 : ¬ k = 0) (k1 : ¬ k = 1) (k2 : ¬ k = 2) (k3 : ¬ k = 3) (k4 : ¬ k = 4) (h : RdIs intR l b k l1 b1) (hn : RdIs idR l1 b1 node l2 b2) : RdIs opR l b o l2 true := by
  rw [opR_F]
  refine RdIs.op h hn ?_
  unfold opF
  rw [if_neg k0, if_neg k1, if_neg k2, if_neg k3, if_neg k4]
  exact RdIs.fail
end
theorem rbind_pure {α : Type} (p : Rd α) (l : List UInt8) : rbind p rpure l = p l := by
  unfold rbind rpure
  cases p l with
  | none => rfl
  | some a => rfl
/-- a reader that takes at least one byte -/
def Takes {α : Type} (p : Rd α) : Prop := ∀ l x r, p l = some (x, r) → r.length < l.length
theorem intT : Takes intR := fun l x r h => by
  obtain ⟨rfl, h1⟩ := intC.back _ _ _ h
  have := uvarint_pos x.toNat
  rw [natZ_of h1.1, List.length_append]; omega
theorem bind_takes {α β : Type} {p : Rd α} {f : α → Rd β} (h : Takes p) (k : ∀ x l y r, f x l = some (y, r) → r.length ≤ l.length) : Takes (rbind p f) := fun l y r e => by
  obtain ⟨x, q, h1, h2⟩ := rbind_inv e
  have := h _ _ _ h1
  have := k _ _ _ _ h2
  omega
theorem codec_le {α : Type} {p : Rd α} {z : α → List UInt8} {ok : α → Prop} (h : Codec p z ok) {l : List UInt8} {x : α} {r : List UInt8} (e : p l = some (x, r)) : r.length ≤ l.length := by
  obtain ⟨rfl, _⟩ := h.back _ _ _ e
  rw [List.length_append]; omega
theorem stT : Takes stR := fun l x r h => by
  obtain ⟨rfl, h1⟩ := stC.back _ _ _ h
  have := uvarint_pos x.t.toNat
  unfold stZ
  rw [natZ_of h1.1.1, List.length_append, List.length_append]; omega
theorem idT : Takes idR := fun l x r h => by
  obtain ⟨rfl, h1⟩ := idC.back _ _ _ h
  have := uvarint_pos x.s.t.toNat
  unfold idZ
  rw [natZ_of h1.1.1.1, List.length_append, List.length_append, List.length_append]; omega
theorem opT : Takes opR := fun l x r h => by
  obtain ⟨rfl, h1⟩ := opC.back _ _ _ h
  have := uvarint_pos x.kind.toNat
  unfold opZ
  rw [natZ_of h1.1, List.length_append, List.length_append, List.length_append]; omega
/-- where a reader of so many stands: n are left, xs were read -/
structure ManyAt {α : Type} (p : Rd α) (n0 : Nat) (l0 : List UInt8) (b0 : Bool) (n : Nat) (xs : List α) (l : List UInt8) (b : Bool) : Prop where
  stay : b0 = true → b = true
  step : b0 = false → (b = false ∧ timesR p n0 l0 = rbind (timesR p n) (fun ys => rpure (xs ++ ys)) l) ∨ (b = true ∧ timesR p n0 l0 = none)
  le : l.length ≤ l0.length
  few : xs.length + l.length ≤ l0.length + (if b = true then 1 else 0)
theorem ManyAt.start {α : Type} {p : Rd α} {n0 : Nat} {l0 : List UInt8} {b0 : Bool} : ManyAt p n0 l0 b0 n0 [] l0 b0 :=
  ⟨id, fun h => .inl ⟨h, (rbind_pure (timesR p n0) l0).symm⟩, Nat.le_refl _, by simp⟩
theorem ManyAt.next {α : Type} {p : Rd α} (hp : Takes p) {n0 : Nat} {l0 : List UInt8} {b0 : Bool} {n : Nat} {xs : List α} {l l1 : List UInt8} {b1 : Bool} {x : α} (h : ManyAt p n0 l0 b0 (n + 1) xs l false) (k : RdIs p l false x l1 b1) : ManyAt p n0 l0 b0 n (xs ++ [x]) l1 b1 := by
  refine ⟨fun e => (by have := h.stay e; cases this), fun e => ?_, Nat.le_trans k.le h.le, ?_⟩
  · rcases h.step e with ⟨_, h2⟩ | ⟨h1, _⟩
    · rw [h2]
      rcases k.step rfl with ⟨k1, k2⟩ | ⟨k1, k2⟩
      · refine .inl ⟨k1, ?_⟩
        have e1 : timesR p (n + 1) l = rbind (timesR p n) (fun ys => rpure (x :: ys)) l1 := rbind_some (f := fun x => rbind (timesR p n) fun xs => rpure (x :: xs)) k2
        cases e2 : timesR p n l1 with
        | none =>
          rw [rbind_none e2] at e1
          rw [rbind_none e1, rbind_none e2]
        | some y =>
          obtain ⟨ys, r⟩ := y
          rw [rbind_some e2] at e1
          rw [rbind_some e1, rbind_some e2]
          simp [rpure]
      · refine .inr ⟨k1, ?_⟩
        have e1 : timesR p (n + 1) l = none := rbind_none (f := fun x => rbind (timesR p n) fun xs => rpure (x :: xs)) k2
        rw [rbind_none e1]
    · cases h1
  · have h1 := h.few
    simp only [Bool.false_eq_true, if_false] at h1
    rw [List.length_append, List.length_singleton]
    rcases k.step rfl with ⟨k1, k2⟩ | ⟨k1, k2⟩
    · have := hp _ _ _ k2
      subst k1
      simp only [Bool.false_eq_true, if_false]
      omega
    · have := k.le
      subst k1
      simp only [if_true]
      omega
theorem ManyAt.done {α : Type} {p : Rd α} {n0 : Nat} {l0 : List UInt8} {b0 : Bool} {n : Nat} {xs : List α} {l : List UInt8} {b : Bool} (h : ManyAt p n0 l0 b0 n xs l b) (hn : b = true ∨ n = 0) : RdIs (timesR p n0) l0 b0 xs l b := by
  refine ⟨h.stay, fun e => ?_, h.le⟩
  rcases h.step e with ⟨h1, h2⟩ | h3
  · rcases hn with hn | rfl
    · rw [h1] at hn; cases hn
    · refine .inl ⟨h1, ?_⟩
      rw [h2]
      exact rbind_some (p := timesR p 0) (a := []) (r := l) rfl |>.trans (by simp [rpure])
  · exact .inr h3
theorem RdIs.many {α : Type} {p : Rd α} {l l1 l2 : List UInt8} {b b1 b2 : Bool} {n : Int} {xs : List α} (h : RdIs intR l b n l1 b1) (k : RdIs (timesR p n.toNat) l1 b1 xs l2 b2) : RdIs (manyR p) l b xs l2 b2 := RdIs.bind h k
theorem RdIs.grp {l l1 l2 l3 l4 l5 : List UInt8} {b b1 b2 b3 b4 b5 : Bool} {st u : Gst} {n : Int} {v : List Int} {o : List Gop} (h1 : RdIs stR l b st l1 b1) (h2 : RdIs intR l1 b1 n l2 b2) (h3 : RdIs (manyR intR) l2 b2 v l3 b3) (h4 : RdIs stR l3 b3 u l4 b4) (h5 : RdIs (manyR opR) l4 b4 o l5 b5) :
    RdIs grpR l b (⟨st, n, v, u, o⟩ : Grp) l5 b5 :=
  RdIs.bind (f := fun s => rbind intR fun n => rbind (manyR intR) fun v => rbind stR fun u => rbind (manyR opR) fun l => rpure (⟨s, n, v, u, l⟩ : Grp)) h1
    (RdIs.bind (f := fun n => rbind (manyR intR) fun v => rbind stR fun u => rbind (manyR opR) fun l => rpure (⟨st, n, v, u, l⟩ : Grp)) h2
      (RdIs.bind (f := fun v => rbind stR fun u => rbind (manyR opR) fun l => rpure (⟨st, n, v, u, l⟩ : Grp)) h3
        (RdIs.bind (f := fun u => rbind (manyR opR) fun l => rpure (⟨st, n, v, u, l⟩ : Grp)) h4 (RdIs.bind (f := fun l => rpure (⟨st, n, v, u, l⟩ : Grp)) h5 RdIs.pure))))
/-- all of bytes -/
theorem decZ_of {l l' : List UInt8} {b' : Bool} {g : Grp} (h : RdIs grpR l false g l' b') : decZ l = if b' = false ∧ l' = [] ∧ chkB g = true then some g else none := by
  unfold decZ
  rcases h.step rfl with ⟨h1, h2⟩ | ⟨h1, h2⟩
  · rw [h2, h1]
    cases l' with
    | nil => simp
    | cons a t => simp
  · rw [h2, h1]; simp
end Go.Proofs.YtooaodgamakoeaaDoor
