/- Words that the walks of this seat share: a slice that reads as a function of its index; a row of bytes of the call's own, and the text that it becomes. No condition. -/
import Derived.Test.YtooaodgamakoeaaDoorProg
import Derived.WalkKit
import Derived.IntWalk
import Derived.Deep.OwnRows
import Derived.Laws.BitsAllLaws
import Derived.Laws.IdiomStrings
import Derived.Laws.OwnMore
import Derived.Lib.Hide
namespace Go.Proofs.YtooaodgamakoeaaDoor
open Go.RowKit

theorem ret_int {k : IntKind} {a b : Int} (h : a = b) : Ending.returned (Value.int k a) = .returned (.int k b) := by rw [h]
theorem int_val {k : IntKind} {a b : Int} (h : a = b) : Value.int k a = .int k b := by rw [h]

/-- the slice (A, n) reads as f, below block B -/
def Row1 (w : World) (B : Nat) (A : Option Addr) (n : Nat) (f : Nat → Value) : Prop :=
  ∀ k, k < n → ∃ ad : Addr, A = some ad ∧ ad.block < B ∧ w.cell? (ad.add k) = some (f k)

theorem add_block (a : Addr) (k : Nat) : (a.add k).block = a.block := by unfold Addr.add; split <;> rfl
theorem add_zero' (b k : Nat) : (⟨b, 0, none⟩ : Addr).add k = ⟨b, k, none⟩ := by
  unfold Addr.add
  by_cases h : k = 0
  · subst h; rfl
  · rw [if_neg h]; simp
section
variable {w w' : World} {B B' n : Nat} {A : Option Addr} {f g : Nat → Value}
theorem Row1.keep (h : Row1 w B A n f) (hk : ∀ p : Addr, p.block < B → w'.cell? p = w.cell? p) : Row1 w' B A n f := fun k hkn => by
  obtain ⟨ad, e, hb, hc⟩ := h k hkn
  exact ⟨ad, e, hb, (hk _ (by rw [add_block]; exact hb)).trans hc⟩
theorem Row1.more (h : Row1 w B A n f) (hB : B ≤ B') : Row1 w B' A n f := fun k hkn => by
  obtain ⟨ad, e, hb, hc⟩ := h k hkn
  exact ⟨ad, e, by omega, hc⟩
theorem Row1.below (h : Row1 w B A n f) (hb : Below B w w') : Row1 w' B A n f := h.keep fun _ hp => hb.cell hp
theorem Row1.congr (h : Row1 w B A n f) (e : ∀ i, i < n → f i = g i) : Row1 w B A n g := fun k hkn => by
  obtain ⟨ad, e1, hb, hc⟩ := h k hkn
  exact ⟨ad, e1, hb, by rw [hc, e k hkn]⟩
theorem Row1.of_row {b t : Nat} (h : w.rowIs b t n f) : Row1 w w.heap.size (some ⟨b, 0, none⟩) n f := fun k hk =>
  ⟨_, rfl, h.lt, by rw [add_zero']; exact h.cell hk⟩
theorem Row1.nil : Row1 w B A 0 f := fun k hk => absurd hk (by omega)
theorem Row1.of_own {base : Nat} {e : TypeId} {v : Option Addr} {c : Nat} {xs : List Value} (h : w.ownsRow base e 1 (.slice v n c) n xs) (hf : ∀ i, i < n → xs[i]? = some (f i)) : Row1 w w.heap.size v n f := fun k hk => by
  rcases h.2 with ⟨_, h0⟩ | ⟨g, cap, cur, hv, _⟩
  · exact absurd hk (by omega)
  · obtain rfl : v = some ⟨g, 0, none⟩ := by injection hv
    have hlt := (h.lt g rfl).2
    exact ⟨_, rfl, hlt, h.cells (g := g) rfl k _ (hf k hk)⟩
end

theorem bt {w w1 w2 : World} (h : Below w.heap.size w w1) (h2 : Below w1.heap.size w1 w2) : Below w.heap.size w w2 := h.trans (h2.mono h.size)
/-- a slice of integers that came in: nil, or a row of 'cap' cells -/
def IsRowI (k : IntKind) (w : World) (a : Option Addr) (len cap : Nat) (zs : List Int) : Prop :=
  (a = none ∧ len = 0 ∧ cap = 0 ∧ zs = []) ∨
  ∃ x, a = some x ∧ len ≤ cap ∧ cap ≤ maxLen ∧ zs.length = cap ∧ (∀ i, i < zs.length → w.cell? (x.add i) = some (.int k (zs.getD i 0))) ∧ ∀ n ∈ zs, (Lit.int k n).wf = true
theorem lt_of_cell {w : World} {a : Addr} {v : Value} (h : w.cell? a = some v) : a.block < w.heap.size := by
  rcases Nat.lt_or_ge a.block w.heap.size with hlt | hge
  · exact hlt
  · simp [World.cell?, Array.getElem?_eq_none hge] at h
theorem IsRowI.row {k : IntKind} {w : World} {a : Option Addr} {len cap : Nat} {zs : List Int} (h : IsRowI k w a len cap zs) : Row1 w w.heap.size a len (fun i => .int k (zs.getD i 0)) := by
  rcases h with ⟨_, rfl, _, _⟩ | ⟨x, rfl, hl, _, hz, hc, _⟩
  · exact Row1.nil
  · intro j hj
    have := hc j (by omega)
    exact ⟨x, rfl, by have := lt_of_cell this; rwa [add_block] at this, this⟩

/-- a byte -/
def b8 (x : UInt8) : Value := .int .u8 (x.toNat : Int)

/-- 'string(b)' of a row of bytes of the call's own -/
theorem conv_own {P : Program} (w : World) (src dst e : TypeId) (base : Nat) (v : Value) (n : Nat) (l : List UInt8) (hs : P.underlying src = some (.slice e)) (he : P.underlying e = some (.int .u8)) (hd : P.underlying dst = some .string)
    (h : w.ownsRow base e 1 v n (l.map b8)) : (convert src dst v).run P w = .ok (.string ⟨l.toArray⟩) w := by
  obtain rfl : n = l.length := by have := h.1; simpa using this.symm
  rcases h.2 with ⟨rfl, hl⟩ | ⟨g, cap, cur, rfl, _⟩
  · have : l = [] := by simpa using hl
    subst this
    rw [run_convert_bytes_string w src dst e none 0 0 hs he hd]
    simp [Conv.bytesToString, Sem.run_pure]
    try rfl
  · refine run_convert_bytes_back w src dst e _ cap l hs he hd fun j hj => ?_
    exact h.cells (g := g) rfl j _ (by simp [b8, hj])
end Go.Proofs.YtooaodgamakoeaaDoor
