/- How a list of groups opens. No condition. -/
import Derived.Test.YtalgbcgiiphoaaaGreatDoorOpn
import Derived.Test.YtalgbcgiiphoaaaGreatDoorGrb
namespace Go.Proofs.YtalgbcgiiphoaaaGreatDoor
open Go.ChangeShapes Go.WideShapes Go.RowKit Go.Lib Go.Deep
set_option linter.unusedVariables false
/-- a list of groups: where they lie -/
structure GrsS (w : World) (S : Nat → Prop) (A : Option Addr) (L : List (Grp × GrX)) : Prop where
  rows : RowG w S A L.length 7 (fun k j => (grL (L.getD k gp0).1 (L.getD k gp0).2).getD j undef)
  good : ∀ p ∈ L, GrG w S p
theorem GrsS.row {w : World} {S : Nat → Prop} {A : Option Addr} {L : List (Grp × GrX)} (h : GrsS w S A L) : RowGr w A L := RowG.sub h.rows fun _ _ _ => trivial
theorem GrsS.agr {w w' : World} {S : Nat → Prop} {A : Option Addr} {L : List (Grp × GrX)} (h : GrsS w S A L) (ha : Agr S w w') : GrsS w' S A L := ⟨RowG.agr h.rows ha, fun p hp => (h.good p hp).agr ha⟩
section
variable {H : Type} {enc : TypeId × Value → H} {w : World} {spare : Nat → Bool} {held : Bool} {fuel : Nat} {cs : List Value} {x : DataW H × List MemPlace}
theorem opn_grs (h : DataW.trod enc Tryz.prog w 0 spare held fuel 23 cs = some x) : ∃ (A : Option Addr) (L : List (Grp × GrX)) (c : Nat), cs = [.slice A L.length c] ∧ L.length ≤ c ∧ c ≤ maxLen ∧ GrsS w (Here w) A L ∧ ∀ p ∈ L, ∀ o ∈ p.1.ops, o.text.data.toList.length ∈ x.1.weights Tryz.prog 23 ∧ o.name.data.toList.length ∈ x.1.weights Tryz.prog 23 := by
  obtain ⟨A, len, c, f, hcs, h1, h2, h3, h4⟩ := opn_rows (α := Grp × GrX) (s := 7) (by decide) Tryz.underlying23 cells_gr (fun p j => (grL p.1 p.2).getD j undef)
    (fun p d => GrG w (Here w) p ∧ ∀ o ∈ p.1.ops, o.text.data.toList.length ∈ d.weights Tryz.prog 40 ∧ o.name.data.toList.length ∈ d.weights Tryz.prog 40) (fun n cs' d p h => by
    obtain ⟨v, rfl, h1, -, h2⟩ := opn_gr h
    refine ⟨v, fun j hj => ?_, h1, h2⟩
    have : j < (grL v.1 v.2).length := hj
    show (grL v.1 v.2)[j]? = some _
    rw [List.getElem?_eq_getElem this, List.getD_eq_getElem?_getD, List.getElem?_eq_getElem this]
    rfl) h
  refine ⟨A, (List.range len).map f, c, by rw [range_len]; exact hcs, by rw [range_len]; exact h1, h2, ⟨?_, fun p hp => ?_⟩, fun p hp o ho => ?_⟩
  · rw [range_len]
    exact RowG.congr h3 fun k j hk hj => by rw [range_getD f _ hk]
  · obtain ⟨k, hk, rfl⟩ := List.mem_map.1 hp
    obtain ⟨d, hd, _⟩ := h4 k (List.mem_range.1 hk)
    exact hd.1
  · obtain ⟨k, hk, rfl⟩ := List.mem_map.1 hp
    obtain ⟨d, hd, hw⟩ := h4 k (List.mem_range.1 hk)
    exact ⟨hw _ (hd.2 o ho).1, hw _ (hd.2 o ho).2⟩
end
end Go.Proofs.YtalgbcgiiphoaaaGreatDoor
