/- Plain bounds: how long a group's bytes are. No condition. -/
import Derived.Test.YtooaodgamakoeaaDoorGrp
namespace Go.Proofs.YtooaodgamakoeaaDoor
open Go.Lib
set_option linter.unusedVariables false
theorem natZ_le {n : Int} (h : n < 9223372036854775808) : (natZ n).length ≤ 10 := by
  unfold natZ
  split
  · simp
  · exact uvarint_length64 (by omega)
theorem stZ_le {s : Gst} (h : okS s) : (stZ s).length ≤ 20 := by
  unfold stZ
  have h1 := natZ_le h.1.2
  have h2 := natZ_le h.2.2
  rw [List.length_append]; omega
theorem idZ_le {x : Gid} (h : okD x) : (idZ x).length ≤ 30 := by
  unfold idZ
  have h1 := natZ_le h.1.1.2
  have h2 := natZ_le h.1.2.2
  have h3 := natZ_le h.2.2
  rw [List.length_append, List.length_append]; omega
theorem bytesZ_le {s : ByteArray} (h : s.size < 9223372036854775808) : (bytesZ s).length ≤ 10 + s.size := by
  unfold bytesZ
  have h1 : (uvarint s.size).length ≤ 10 := uvarint_length64 (by omega)
  have h2 : s.data.toList.length = s.size := by simp
  rw [List.length_append]; omega
theorem flat_le {α : Type} {z : α → List UInt8} {c : Nat} : ∀ {l : List α}, (∀ x ∈ l, (z x).length ≤ c) → (l.flatMap z).length ≤ c * l.length
  | [], _ => by simp
  | x :: l, h => by
    have h1 := h x (by simp)
    have h2 := flat_le (l := l) fun y hy => h y (by simp [hy])
    rw [List.flatMap_cons, List.length_append, List.length_cons, Nat.mul_add, Nat.mul_one]; omega
/-- an operation that may be is short, but for its text -/
structure Sho (o : Gop) : Prop where
  name : o.name.size ≤ 32
  dots : o.dots.length ≤ 200
  elems : o.elems.length ≤ 2000
theorem op_sho {g : Gst} {o : Gop} {k : Nat} (h : opB g o k = true) : Sho o := by
  obtain ⟨kind, node, parent, name, dir, dots, after, elem, text, elems⟩ := o
  simp only [opB, Bool.and_eq_true] at h
  obtain ⟨hb, h⟩ := h
  unfold bareB at hb
  simp only [Bool.and_eq_true, Bool.or_eq_true, decide_eq_true_eq, Bool.not_eq_true', Gid.none_iff, bs_nil, List.length_eq_zero_iff] at hb
  obtain ⟨⟨⟨⟨b1, b2⟩, b3⟩, b4⟩, b5⟩ := hb
  unfold kindB at h
  simp only at h
  have z0 : (⟨#[]⟩ : ByteArray).size ≤ 32 := by decide
  by_cases k0 : kind = 0
  · subst k0
    simp only [if_true, Bool.and_eq_true, nameB, decide_eq_true_eq] at h
    obtain rfl : dots = [] := b3.resolve_left (by decide)
    obtain rfl : elems = [] := b5.resolve_left (by decide)
    exact ⟨h.2.1.1.1.2, by simp, by simp⟩
  rw [if_neg k0] at h
  by_cases k1 : kind = 1
  · subst k1
    simp only [if_true, Bool.and_eq_true, nameB, decide_eq_true_eq] at h
    obtain rfl : dots = [] := b3.resolve_left (by decide)
    obtain rfl : elems = [] := b5.resolve_left (by decide)
    exact ⟨h.2.1.1.1.2, by simp, by simp⟩
  rw [if_neg k1] at h
  obtain ⟨-, rfl⟩ := b1.resolve_left (by rintro (h | h); exact k0 h; exact k1 h)
  by_cases k2 : kind = 2
  · subst k2
    simp only [if_true, Bool.and_eq_true, dotsB, decide_eq_true_eq] at h
    obtain rfl : elems = [] := b5.resolve_left (by decide)
    exact ⟨z0, h.2.2, by simp⟩
  rw [if_neg k2] at h
  obtain rfl : dots = [] := b3.resolve_left k2
  by_cases k3 : kind = 3
  · subst k3
    obtain rfl : elems = [] := b5.resolve_left (by decide)
    exact ⟨z0, by simp, by simp⟩
  rw [if_neg k3] at h
  by_cases k4 : kind = 4
  · subst k4
    simp only [if_true, Bool.and_eq_true, elemsB, decide_eq_true_eq] at h
    exact ⟨z0, by simp, h.2.2⟩
  rw [if_neg k4] at h
  cases h
theorem opZ_le {o : Gop} {M : Nat} (h : okO o) (hs : Sho o) (ht : o.text.size ≤ M) : (opZ o).length ≤ 61000 + M := by
  obtain ⟨kind, node, parent, name, dir, dots, after, elem, text, elems⟩ := o
  obtain ⟨h0, h4, hb, h1, h2, h3, h5, h6, h7, h8, h9⟩ := h
  obtain ⟨s1, s2, s3⟩ := hs
  simp only at h0 h4 h1 h2 h3 h5 h6 h7 h8 h9 s1 s2 s3 ht
  have e1 : (natZ kind).length ≤ 10 := natZ_le (by omega)
  have e2 := idZ_le h1
  have e3 := idZ_le h2
  have e4 := bytesZ_le h3
  have e5 := idZ_le h6
  have e6 := idZ_le h7
  have e7 := bytesZ_le h8
  have e8 := flat_le (z := stZ) (l := dots) fun x hx => stZ_le (h5.2 x hx)
  have e9 := flat_le (z := idZ) (l := elems) fun x hx => idZ_le (h9.2 x hx)
  have e10 : (natZ dots.length).length ≤ 10 := natZ_le (by omega)
  have e11 : (natZ elems.length).length ≤ 10 := natZ_le (by omega)
  have e12 : (natZ (if dir then 1 else 0)).length ≤ 10 := natZ_le (by split <;> omega)
  unfold opZ
  simp only
  split
  · simp only [List.length_append]; omega
  · split
    · simp only [List.length_append]; omega
    · split
      · simp only [List.length_append]; omega
      · split
        · simp only [List.length_append]; omega
        · simp only [List.length_append]; omega
theorem opsB_mem {g : Gst} : ∀ {l : List Gop} {k : Nat}, opsB g l k = true → ∀ o ∈ l, ∃ j, opB g o j = true
  | [], _, _ => fun _ h => by cases h
  | o :: l, k, h => by
    simp only [opsB, Bool.and_eq_true] at h
    intro x hx
    rcases List.mem_cons.1 hx with rfl | hx
    · exact ⟨_, h.1⟩
    · exact opsB_mem h.2 x hx
theorem chk_sho {g : Grp} (h : chkB g = true) : g.ops.length ≤ 200 ∧ g.deps.length ≤ 16 ∧ ∀ o ∈ g.ops, Sho o := by
  simp only [chkB, headB, vecB, Bool.and_eq_true, decide_eq_true_eq, List.all_eq_true] at h
  obtain ⟨⟨⟨⟨⟨h1, h2⟩, h3⟩, ⟨⟨h4, h5⟩, h6⟩⟩, h7⟩, h⟩ := h
  refine ⟨?_, h5, ?_⟩
  · split at h
    · simp only [Bool.and_eq_true, decide_eq_true_eq] at h; exact h.1.2
    · simp only [Bool.and_eq_true, decide_eq_true_eq] at h; have := h.2; omega
  · split at h
    · simp only [Bool.and_eq_true, decide_eq_true_eq] at h
      intro o ho
      obtain ⟨j, hj⟩ := opsB_mem h.2 o ho
      exact op_sho hj
    · simp only [Bool.and_eq_true, decide_eq_true_eq, List.length_eq_zero_iff] at h
      rw [h.2]; intro o ho; cases ho
theorem grpZ_le {g : Grp} {M : Nat} (hf : fitG g) (h : chkB g = true) (ht : ∀ o ∈ g.ops, o.text.size ≤ M) : (grpZ g).length ≤ 300 + (61000 + M) * 200 := by
  obtain ⟨h1, h2, h3, h4, h5⟩ := chk_ok hf h
  obtain ⟨s1, s2, s3⟩ := chk_sho h
  have e1 := natZ_le h1.1.2
  have e2 := natZ_le h1.2.2
  have e3 := natZ_le h2.2
  have e4 := natZ_le h4.1.2
  have e5 := natZ_le h4.2.2
  have e6 : (natZ g.ops.length).length ≤ 10 := natZ_le (by omega)
  have e7 : (natZ g.deps.length).length ≤ 10 := natZ_le (by omega)
  have e8 := flat_le (z := natZ) (l := g.deps) fun x hx => natZ_le (h3.2 x hx).2
  have e9 := flat_le (z := opZ) (l := g.ops) fun o ho => opZ_le (h5.2 o ho) (s3 o ho) (ht o ho)
  have e10 : (61000 + M) * g.ops.length ≤ (61000 + M) * 200 := Nat.mul_le_mul_left _ s1
  unfold grpZ numsZ
  simp only [List.length_append]
  omega
end Go.Proofs.YtooaodgamakoeaaDoor
