/- Plain bounds: how long the bytes of a group are that is looked at. No condition. -/
import Derived.Test.YtooaodgamakoeaaDoorGrpSize
import Derived.Test.YtooaodgamakoeaaDoorFew
namespace Go.Proofs.YtooaodgamakoeaaDoor
open Go.Lib
set_option linter.unusedVariables false
theorem opZ_few {o : Gop} (h : okO o) (hs : Sho o) (ht : o.text.size ≤ 3000) (he : o.elems.length ≤ 100) : (opZ o).length ≤ 8000 := by
  obtain ⟨kind, node, parent, name, dir, dots, after, elem, text, elems⟩ := o
  obtain ⟨h0, h4, hb, h1, h2, h3, h5, h6, h7, h8, h9⟩ := h
  obtain ⟨s1, s2, s3⟩ := hs
  simp only at h0 h4 h1 h2 h3 h5 h6 h7 h8 h9 s1 s2 s3 ht he
  have e1 : (natZ kind).length ≤ 10 := natZ_le (by omega)
  have e2 := idZ_le h1
  have e3 := idZ_le h2
  have e4 := bytesZ_le h3
  have e5 := idZ_le h6
  have e6 := idZ_le h7
  have e7 := bytesZ_le h8
  have e8 := flat_le (z := stZ) (l := dots) fun x hx => stZ_le (h5.2 x hx)
  have e9 := flat_le (z := idZ) (l := elems) fun x hx => idZ_le (h9.2 x hx)
  have e10 : (natZ dots.length).length ≤ 10 := natZ_le (by omega)
  have e11 : (natZ elems.length).length ≤ 10 := natZ_le (by omega)
  have e12 : (natZ (if dir then 1 else 0)).length ≤ 10 := natZ_le (by split <;> omega)
  unfold opZ
  simp only
  split
  · simp only [List.length_append]; omega
  · split
    · simp only [List.length_append]; omega
    · split
      · simp only [List.length_append]; omega
      · split
        · simp only [List.length_append]; omega
        · simp only [List.length_append]; omega
theorem few_elems {g : Grp} (h : fewG g = true) (hc : chkB g = true) : ∀ o ∈ g.ops, o.elems.length ≤ 100 := by
  obtain ⟨s1, s2, s3⟩ := chk_sho hc
  simp only [fewG, Bool.and_eq_true, Bool.not_eq_true', Bool.or_eq_false_iff, Bool.and_eq_false_iff, decide_eq_false_iff_not] at h
  intro o ho
  have hs := s3 o ho
  obtain ⟨k, hk, e⟩ := getD_of_mem (z := opO 0 .zero) ho
  have := allIx_of h.2 k (by omega)
  rw [e] at this
  simp only [fewO, Bool.not_eq_true', Bool.or_eq_false_iff, Bool.and_eq_false_iff, decide_eq_false_iff_not] at this
  have := hs.elems
  omega
theorem grpZ_few {g : Grp} (hf : fitG g) (hw : fewG g = true) (h : chkB g = true) : (grpZ g).length ≤ 999000 := by
  obtain ⟨h1, h2, h3, h4, h5⟩ := chk_ok hf h
  obtain ⟨s1, s2, s3⟩ := chk_sho h
  obtain ⟨t1, t2⟩ := fewG_text hw s1
  have t3 := few_elems hw h
  have e1 := natZ_le h1.1.2
  have e2 := natZ_le h1.2.2
  have e3 := natZ_le h2.2
  have e4 := natZ_le h4.1.2
  have e5 := natZ_le h4.2.2
  have e6 : (natZ g.ops.length).length ≤ 10 := natZ_le (by omega)
  have e7 : (natZ g.deps.length).length ≤ 10 := natZ_le (by omega)
  have e8 := flat_le (z := natZ) (l := g.deps) fun x hx => natZ_le (h3.2 x hx).2
  have e9 := flat_le (z := opZ) (l := g.ops) fun o ho => opZ_few (h5.2 o ho) (s3 o ho) (t2 o ho).1 (t3 o ho)
  unfold grpZ numsZ
  simp only [List.length_append]
  omega
theorem few_text {g : Grp} (hw : fewG g = true) : g.ops.length ≤ 200 → ∀ o ∈ g.ops, o.text.size ≤ 1000000 := fun h o ho => by
  have := ((fewG_text hw h).2 o ho).1; omega
end Go.Proofs.YtooaodgamakoeaaDoor
