/- A slice of texts that comes in: one list, each text in reach. Conditions: none of its own. -/
import Derived.Test.YtjeiklgaiefeaaaWords
import Derived.SliceStrings
import Derived.SizedLaws
import Derived.ChangeOld
namespace Go.Proofs.Ytjeiklgaiefeaaa
open Go.RowKit Go.Lib Go.ChangeShapes Go.WideShapes
set_option linter.unusedVariables false
/-- a slice reads as a list of texts -/
structure IsRowS (w : World) (a : Option Addr) (len cap : Nat) (L : List ByteArray) : Prop where
  long : L.length = len
  le : len ≤ maxLen
  fits : len ≤ cap
  row : Row1 w w.heap.size a len (fun i => .string (L.getD i ⟨#[]⟩))
  small : ∀ x ∈ L, x.size ≤ 140737488351232
theorem weights_strs {H : Type} {P : Program} {e : TypeId} : ∀ {l : List ByteArray} {x : ByteArray}, x ∈ l → x.data.toList.length ∈ DataW.weightsAll (H := H) P e (strs l)
  | y :: l, x, h => by
    show _ ∈ (DataW.lit (H := H) (.string y.data.toList)).weights P e ++ DataW.weightsAll P e (strs l)
    rcases List.mem_cons.1 h with rfl | h
    · exact List.mem_append_left _ (by simp [DataW.weights])
    · exact List.mem_append_right _ (weights_strs h)
theorem open_rowS {H : Type} {enc : TypeId × Value → H} {P : Program} {w : World} {base fuel : Nat} {held : Bool} {t e : TypeId} {a : Option Addr} {len cap : Nat} {d : DataW H} {p : List MemPlace}
    (ht : P.underlying t = some (.slice e)) (he : P.underlying e = some .string) (hc : P.cellsOf e = 1)
    (h : DataW.trod enc P w base (fun _ => true) held fuel t (Value.slice a len cap).cells.toList = some (d, p)) (hw : ∀ n ∈ d.weights P t, n ≤ reachBytes) : ∃ L, IsRowS w a len cap L := by
  rcases open_strings ht he hc h with ⟨hcs, _⟩ | ⟨x, l, c, ss, hcs, _, hl, hm, hz, hx, hcell, hsz⟩
  · simp [Value.cells] at hcs
    obtain ⟨rfl, rfl, rfl⟩ := hcs
    exact ⟨[], rfl, Nat.zero_le _, Nat.le_refl _, Row1.nil, fun x hx => by cases hx⟩
  · simp [Value.cells] at hcs
    obtain ⟨rfl, rfl, rfl⟩ := hcs
    injection hx with hd hp
    have hz : ss.length = cap := by simpa using hz
    refine ⟨ss.take len, by rw [List.length_take]; omega, by omega, hl, ?_, ?_⟩
    · intro j hj
      have h1 := hcell j (by omega)
      refine ⟨x, rfl, by have := lt_of_cell h1; rwa [add_block] at this, ?_⟩
      have e2 : (ss.take len).getD j ⟨#[]⟩ = ss.getD j ByteArray.empty := by
        rw [List.getD_eq_getElem?_getD, List.getD_eq_getElem?_getD, List.getElem?_take_of_lt hj]; rfl
      show w.cell? (x.add j) = some (.string ((ss.take len).getD j ⟨#[]⟩))
      rw [e2]; exact h1
    · intro y hy
      have h1 := hw y.data.toList.length (by
        rw [hd]
        simp only [DataW.weights, ht]
        exact List.mem_cons_of_mem _ (List.mem_append_left _ (weights_strs hy)))
      have h2 : y.data.toList.length = y.size := by simp
      have h3 : reachBytes = 140737488351232 := rfl
      omega
end Go.Proofs.Ytjeiklgaiefeaaa
