/- What the checker answers at any operation. Conditions: lengths in reach. -/
import Derived.Test.YtooaodgamakoeaaDoorOp
namespace Go.Proofs.YtooaodgamakoeaaDoor
open Go.RowKit Go.Lib Go.Sort
set_option linter.unusedVariables false
/-- the checker at block b after an operation -/
def OpFin (b : Nat) (w : World) (ans : Bool) (k c : Nat) (w' : World) : Prop := (Below w.heap.size w w' ∧ (ans = true → c = 0)) ∨ OpEnd b w ans k c w'
theorem OpFin.below {b : Nat} {w w' : World} {ans : Bool} {k c n : Nat} (h : OpFin b w ans k c w') (hb : n ≤ b) (hn : n ≤ w.heap.size) : Below n w w' := by
  rcases h with ⟨h, -⟩ | ⟨w2, v, h, rfl, -⟩
  · exact h.mono hn
  · exact (h.mono hn).setCell hb _
theorem OpFin.chkr {b : Nat} {w w' : World} {k c : Nat} {g : Gst} (h : OpFin b w true k c w') (hC : Chkr w b g k) : Chkr w' b g (k + c) := by
  rcases h with ⟨h, hc⟩ | ⟨w2, v, h, rfl, hv⟩
  · rw [hc rfl]; exact hC.below h
  · have h2 := hC.below h
    refine ⟨(World.cell?_setCell_other _ _ _ _ (by simp)).trans h2.t, (World.cell?_setCell_other _ _ _ _ (by simp)).trans h2.r, ?_⟩
    rw [World.cell?_setCell_same _ _ _ (by rw [h2.k]), hv rfl]
    simp
theorem op_any (b : Nat) (g : Gst) (k : Nat) (hk : (k : Int) + 2000 < 9223372036854775807) (o : Gop) (x : OpX) (S : Nat → Prop) (w : World) (hC : Chkr w b g k) (hF : w.frozen? ⟨b, 7, none⟩ = false) (hI : OpIn w S o x) (ht : o.text.size < 9223372036854775807) (hTb : Tabs w) :
    Calls Tryd.prog 58 #[.pointer (some ⟨b, 0, none⟩), .agg (opA o x)] w fun e w' => e = .returned (.bool (opB g o k)) ∧ OpFin b w (opB g o k) k (moreOf o) w' := by
  obtain ⟨kind, ⟨⟨nt, nr⟩, ni⟩, ⟨⟨pt, pr⟩, pi⟩, name, dir, dots, ⟨⟨at_, ar⟩, ai⟩, ⟨⟨et, er⟩, ei⟩, text, elems⟩ := o
  obtain ⟨gt, gr⟩ := g
  obtain ⟨dA, dc, eA, ec⟩ := x
  have hdl := Nat.le_trans hI.dle hI.dmax
  have hel := Nat.le_trans hI.ele hI.emax
  have hna := hI.name
  have hDo := hI.dots
  have hEl := hI.elems
  simp only at hdl hel hna hDo hEl ht
  by_cases hb : bareB ⟨kind, ⟨⟨nt, nr⟩, ni⟩, ⟨⟨pt, pr⟩, pi⟩, name, dir, dots, ⟨⟨at_, ar⟩, ai⟩, ⟨⟨et, er⟩, ei⟩, text, elems⟩ = true
  rotate_left
  · have hb2 : bareB ⟨kind, ⟨⟨nt, nr⟩, ni⟩, ⟨⟨pt, pr⟩, pi⟩, name, dir, dots, ⟨⟨at_, ar⟩, ai⟩, ⟨⟨et, er⟩, ei⟩, text, elems⟩ = false := by simpa using hb
    refine (op_bare b ⟨gt, gr⟩ k kind nt nr ni pt pr pi name dir dots at_ ar ai et er ei text elems dA dc eA ec w hC hb2).mono ?_
    rintro e w' ⟨rfl, hB⟩
    have : opB ⟨gt, gr⟩ ⟨kind, ⟨⟨nt, nr⟩, ni⟩, ⟨⟨pt, pr⟩, pi⟩, name, dir, dots, ⟨⟨at_, ar⟩, ai⟩, ⟨⟨et, er⟩, ei⟩, text, elems⟩ k = false := by unfold opB; rw [hb2]; rfl
    rw [this]
    exact ⟨rfl, .inl ⟨hB, fun h => by cases h⟩⟩
  have ho : opB ⟨gt, gr⟩ ⟨kind, ⟨⟨nt, nr⟩, ni⟩, ⟨⟨pt, pr⟩, pi⟩, name, dir, dots, ⟨⟨at_, ar⟩, ai⟩, ⟨⟨et, er⟩, ei⟩, text, elems⟩ k = kindB ⟨gt, gr⟩ ⟨kind, ⟨⟨nt, nr⟩, ni⟩, ⟨⟨pt, pr⟩, pi⟩, name, dir, dots, ⟨⟨at_, ar⟩, ai⟩, ⟨⟨et, er⟩, ei⟩, text, elems⟩ k := by unfold opB; rw [hb]; rfl
  rw [ho]
  clear ho
  by_cases k0 : kind = 0
  · subst k0
    exact (op_0 b gt gr k (by omega) nt nr ni pt pr pi name dir dots at_ ar ai et er ei text elems dA dc eA ec w hC hF hna hb).mono (by rintro e w' ⟨rfl, hB⟩; exact ⟨rfl, .inr hB⟩)
  by_cases k3 : kind = 3
  · subst k3
    cases hc : cnt text.data.toList with
    | none => exact (op_3n b gt gr k hk nt nr ni pt pr pi name dir dots at_ ar ai et er ei text elems dA dc eA ec w hC hF ht hTb hc hb).mono (by rintro e w' ⟨rfl, hB⟩; exact ⟨rfl, .inr hB⟩)
    | some m =>
      have hm : (m : Int) ≤ 9223372036854775807 := by
        have := cnt_count hc
        have := Lib.runeCount_le text
        omega
      exact (op_3s b gt gr k hk nt nr ni pt pr pi name dir dots at_ ar ai et er ei text elems dA dc eA ec w hC hF ht hTb m hm hc hb).mono (by rintro e w' ⟨rfl, hB⟩; exact ⟨rfl, .inr hB⟩)
  have hmo : moreOf ⟨kind, ⟨⟨nt, nr⟩, ni⟩, ⟨⟨pt, pr⟩, pi⟩, name, dir, dots, ⟨⟨at_, ar⟩, ai⟩, ⟨⟨et, er⟩, ei⟩, text, elems⟩ = 0 := by simp [moreOf, k0, k3]
  rw [hmo]
  clear hmo
  by_cases k1 : kind = 1
  · subst k1
    exact (op_1 b ⟨gt, gr⟩ k nt nr ni pt pr pi name dir dots at_ ar ai et er ei text elems dA dc eA ec w hC hna hb).mono (by rintro e w' ⟨rfl, hB⟩; exact ⟨rfl, .inl ⟨hB, fun _ => rfl⟩⟩)
  by_cases k2 : kind = 2
  · subst k2
    exact (op_2 b ⟨gt, gr⟩ k nt nr ni pt pr pi name dir dots at_ ar ai et er ei text elems dA dc eA ec S w hC hDo hdl hb).mono (by rintro e w' ⟨rfl, hB⟩; exact ⟨rfl, .inl ⟨hB, fun _ => rfl⟩⟩)
  by_cases k4 : kind = 4
  · subst k4
    exact (op_4 b ⟨gt, gr⟩ k nt nr ni pt pr pi name dir dots at_ ar ai et er ei text elems dA dc eA ec S w hC hEl hel hb).mono (by rintro e w' ⟨rfl, hB⟩; exact ⟨rfl, .inl ⟨hB, fun _ => rfl⟩⟩)
  · have : kindB ⟨gt, gr⟩ ⟨kind, ⟨⟨nt, nr⟩, ni⟩, ⟨⟨pt, pr⟩, pi⟩, name, dir, dots, ⟨⟨at_, ar⟩, ai⟩, ⟨⟨et, er⟩, ei⟩, text, elems⟩ k = false := by simp [kindB, k0, k1, k2, k3, k4]
    rw [this]
    exact (op_x b ⟨gt, gr⟩ k kind k0 k1 k2 k3 k4 nt nr ni pt pr pi name dir dots at_ ar ai et er ei text elems dA dc eA ec w hC hb).mono (by rintro e w' ⟨rfl, hB⟩; exact ⟨rfl, .inl ⟨hB, fun _ => rfl⟩⟩)
end Go.Proofs.YtooaodgamakoeaaDoor
