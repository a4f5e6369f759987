/- What wire.Decode answers. Conditions: a text of at most 1000000 bytes. -/
import Derived.Test.YteedajnikfhpjaaDoorRB
import Derived.Test.YteedajnikfhpjaaDoorCO
namespace Go.Proofs.YteedajnikfhpjaaDoor
open Go.RowKit Go.Lib Go.Sort
set_option linter.unusedVariables false
section
variable {w0 w w' : World} {b R O : Nat} {T : TypeId} {zc oc : Array Value} {s s' : ByteArray} {bad bad' : Bool}
end
theorem vec_own {w : World} {B : Nat} {A : Option Addr} {c : Nat} {xs : List Int} {E : TypeId} (h : w.ownsRow B E 1 (.slice A xs.length c) xs.length (xs.flatMap intC_)) : VecS w (fun k => B ≤ k) A xs := by
  refine rowG_own h fun k j hk hj => ?_
  rw [flat_get (s := 1) (fun _ => rfl) xs k j 0 hk hj]
  rcases j with _ | j
  · rfl
  · omega
theorem ops_own {w : World} {B : Nat} {A : Option Addr} {c : Nat} {L : List (Gop × OpX)} {S : Nat → Prop} {E : TypeId} (h : w.ownsRow B E 18 (.slice A (L.map Prod.fst).length c) (L.map Prod.fst).length (L.flatMap opC_)) (hg : ∀ p ∈ L, OpGood w S p) (hS : ∀ k, S k → B ≤ k) : OpsS w (fun k => B ≤ k) A (L.map Prod.fst) := by
  have hl : (L.map Prod.fst).length = L.length := by simp
  have hgd : ∀ k, (L.map Prod.fst).getD k (opO 0 .zero) = (L.getD k (opO 0 .zero, ⟨none, 0, none, 0⟩)).1 := fun k => by
    rw [List.getD_eq_getElem?_getD, List.getD_eq_getElem?_getD, List.getElem?_map]
    cases L[k]? <;> rfl
  refine ⟨fun k => (L.getD k (opO 0 .zero, ⟨none, 0, none, 0⟩)).2, rowG_own h fun k j hk hj => ?_, fun k hk => ?_⟩
  · rw [flat_get (s := 18) (fun _ => rfl) L k j (opO 0 .zero, ⟨none, 0, none, 0⟩) (by omega) hj, hgd]
    unfold opC_
    rw [Array.getElem?_toList, Array.getD_eq_getD_getElem?]
    have : j < (opA (L.getD k (opO 0 .zero, ⟨none, 0, none, 0⟩)).1 (L.getD k (opO 0 .zero, ⟨none, 0, none, 0⟩)).2).size := hj
    rw [Array.getElem?_eq_getElem this]
    rfl
  · rw [hgd]
    have hk' : k < L.length := by omega
    have hm : L.getD k (opO 0 .zero, ⟨none, 0, none, 0⟩) ∈ L := by
      rw [List.getD_eq_getElem?_getD, List.getElem?_eq_getElem hk']; exact List.getElem_mem hk'
    exact (hg _ hm).1.sub fun b _ hb => hS b hb
/-- what Decode answers -/
def DecQ (r : Option Grp) (w : World) (e : Ending) (w' : World) : Prop := Below w.heap.size w w' ∧ match r with
  | none => e = .returned (.tuple #[.agg #[.int .i64 0, .int .i64 0, .int .i64 0, .slice none 0 0, .int .i64 0, .int .i64 0, .slice none 0 0], .int .i64 80])
  | some g => ∃ dA dc oA oc, e = .returned (.tuple #[.agg (grA g dA dc oA oc), .int .i64 0]) ∧ GrIn w' (fun k => w.heap.size ≤ k) g dA dc oA oc ∧ ∀ o ∈ g.ops, o.text.size ≤ 1000000 ∧ o.name.size ≤ 1000000
theorem DecQ.no {r : Option Grp} (h : r = none) {w w' : World} (hb : Below w.heap.size w w') : DecQ r w (.returned (.tuple #[.agg #[.int .i64 0, .int .i64 0, .int .i64 0, .slice none 0 0, .int .i64 0, .int .i64 0, .slice none 0 0], .int .i64 80])) w' := by
  subst h; exact ⟨hb, rfl⟩
end Go.Proofs.YteedajnikfhpjaaDoor
