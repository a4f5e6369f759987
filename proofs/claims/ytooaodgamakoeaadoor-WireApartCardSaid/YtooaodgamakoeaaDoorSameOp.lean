/- Whether two operations are the same. Conditions: lengths in reach. -/
import Derived.Test.YtooaodgamakoeaaDoorSame
import Derived.Test.YtooaodgamakoeaaDoorBig
import Derived.Test.YtooaodgamakoeaaDoorPlainC
namespace Go.Proofs.YtooaodgamakoeaaDoor
open Go.RowKit Go.Lib Go.Sort
set_option linter.unusedVariables false
attribute [local go_sem ↓] Go.wp_at_zero Go.wp_at_succ
def sameOp (a b : Gop) : Bool := decide (a.kind = b.kind) && a.node.eqb b.node && a.parent.eqb b.parent && decide (a.name = b.name) && decide (a.dir = b.dir) && a.after.eqb b.after && a.elem.eqb b.elem && decide (a.text = b.text) && sameSt a.dots b.dots && sameId a.elems b.elems
theorem sameOp_iff {a b : Gop} : sameOp a b = true ↔ a = b := by
  obtain ⟨a1, a2, a3, a4, a5, a6, a7, a8, a9, a10⟩ := a
  obtain ⟨b1, b2, b3, b4, b5, b6, b7, b8, b9, b10⟩ := b
  simp only [sameOp, Bool.and_eq_true, decide_eq_true_eq, Gid.eqb_iff, sameSt_iff, sameId_iff, Gop.mk.injEq]
  constructor
  · rintro ⟨⟨⟨⟨⟨⟨⟨⟨⟨h1, h2⟩, h3⟩, h4⟩, h5⟩, h7⟩, h8⟩, h9⟩, h6⟩, h10⟩
    exact ⟨h1, h2, h3, h4, h5, h6, h7, h8, h9, h10⟩
  · rintro ⟨h1, h2, h3, h4, h5, h6, h7, h8, h9, h10⟩
    exact ⟨⟨⟨⟨⟨⟨⟨⟨⟨h1, h2⟩, h3⟩, h4⟩, h5⟩, h7⟩, h8⟩, h9⟩, h6⟩, h10⟩
theorem beq_of {α : Type} [DecidableEq α] {a b : α} {v : Bool} (h : decide (a = b) = v) : (a == b) = v := h
theorem beq_str {a b : ByteArray} {v : Bool} (h : decide (a = b) = v) : (a.toList == b.toList) = v := by
  rw [← h, Bool.eq_iff_iff, beq_iff_eq, decide_eq_true_eq, ByteArray.toList_eq, ByteArray.toList_eq]
  exact ⟨fun e => ByteArray.ext (Array.toList_inj.1 e), fun e => by rw [e]⟩

set_option maxRecDepth 100000 in
set_option maxHeartbeats 16000000 in
theorem sameop_any (o1 o2 : Gop) (x1 x2 : OpX) (S1 S2 : Nat → Prop) (w : World) (hI1 : OpIn w S1 o1 x1) (hI2 : OpIn w S2 o2 x2) :
    Calls Tryd.prog 54 #[.agg (opA o1 x1), .agg (opA o2 x2)] w fun e w' => e = .returned (.bool (sameOp o1 o2)) ∧ Below w.heap.size w w' := by
  obtain ⟨kind1, ⟨⟨nt1, nr1⟩, ni1⟩, ⟨⟨pt1, pr1⟩, pi1⟩, name1, dir1, dots1, ⟨⟨at1, ar1⟩, ai1⟩, ⟨⟨et1, er1⟩, ei1⟩, text1, elems1⟩ := o1
  obtain ⟨kind2, ⟨⟨nt2, nr2⟩, ni2⟩, ⟨⟨pt2, pr2⟩, pi2⟩, name2, dir2, dots2, ⟨⟨at2, ar2⟩, ai2⟩, ⟨⟨et2, er2⟩, ei2⟩, text2, elems2⟩ := o2
  obtain ⟨xd1, xdc1, xe1, xec1⟩ := x1
  obtain ⟨xd2, xdc2, xe2, xec2⟩ := x2
  have hd1 : dots1.length ≤ 9223372036854775807 := by have := hI1.dle; have := hI1.dmax; unfold maxLen at this; simp only at *; omega
  have he1 : elems1.length ≤ 9223372036854775807 := by have := hI1.ele; have := hI1.emax; unfold maxLen at this; simp only at *; omega
  obtain ⟨b0, h0⟩ : ∃ b, decide (kind1 = kind2) = b := ⟨_, rfl⟩
  have q0 := beq_of h0
  obtain ⟨b1, h1⟩ : ∃ b, Gid.eqb ⟨⟨nt1, nr1⟩, ni1⟩ ⟨⟨nt2, nr2⟩, ni2⟩ = b := ⟨_, rfl⟩
  have q1 := eq_id nt1 nr1 ni1 nt2 nr2 ni2 b1 h1
  obtain ⟨b2, h2⟩ : ∃ b, Gid.eqb ⟨⟨pt1, pr1⟩, pi1⟩ ⟨⟨pt2, pr2⟩, pi2⟩ = b := ⟨_, rfl⟩
  have q2 := eq_id pt1 pr1 pi1 pt2 pr2 pi2 b2 h2
  obtain ⟨b3, h3⟩ : ∃ b, decide (name1 = name2) = b := ⟨_, rfl⟩
  have q3 := beq_str h3
  obtain ⟨b4, h4⟩ : ∃ b, decide (dir1 = dir2) = b := ⟨_, rfl⟩
  have q4 := beq_of h4
  obtain ⟨b5, h5⟩ : ∃ b, Gid.eqb ⟨⟨at1, ar1⟩, ai1⟩ ⟨⟨at2, ar2⟩, ai2⟩ = b := ⟨_, rfl⟩
  have q5 := eq_id at1 ar1 ai1 at2 ar2 ai2 b5 h5
  obtain ⟨b6, h6⟩ : ∃ b, Gid.eqb ⟨⟨et1, er1⟩, ei1⟩ ⟨⟨et2, er2⟩, ei2⟩ = b := ⟨_, rfl⟩
  have q6 := eq_id et1 er1 ei1 et2 er2 ei2 b6 h6
  obtain ⟨b7, h7⟩ : ∃ b, decide (text1 = text2) = b := ⟨_, rfl⟩
  have q7 := beq_str h7
  obtain ⟨b8, h8⟩ : ∃ b, b = sameSt dots1 dots2 := ⟨_, rfl⟩
  obtain ⟨b9, h9⟩ : ∃ b, b = sameId elems1 elems2 := ⟨_, rfl⟩
  obtain ⟨ans, hans⟩ : ∃ a, a = sameOp ⟨kind1, ⟨⟨nt1, nr1⟩, ni1⟩, ⟨⟨pt1, pr1⟩, pi1⟩, name1, dir1, dots1, ⟨⟨at1, ar1⟩, ai1⟩, ⟨⟨et1, er1⟩, ei1⟩, text1, elems1⟩ ⟨kind2, ⟨⟨nt2, nr2⟩, ni2⟩, ⟨⟨pt2, pr2⟩, pi2⟩, name2, dir2, dots2, ⟨⟨at2, ar2⟩, ai2⟩, ⟨⟨et2, er2⟩, ei2⟩, text2, elems2⟩ := ⟨_, rfl⟩
  rw [← hans]
  have HANS := Lib.hid (show ans = (b0 && b1 && b2 && b3 && b4 && b5 && b6 && b7 && b8 && b9) by rw [hans, ← h0, ← h1, ← h2, ← h3, ← h4, ← h5, ← h6, ← h7, h8, h9]; rfl)
  have hD : ∀ W, Below w.heap.size w W → Calls Tryd.prog 85 #[.slice xd1 dots1.length xdc1, .slice xd2 dots2.length xdc2] W fun e w' => e = .returned (.bool b8) ∧ Below W.heap.size W w' := fun W hB => by
    rw [h8]; exact sames_any xd1 xd2 xdc1 xdc2 dots1 dots2 S1 S2 W hd1 (RowG.agr hI1.dots (Agr.below hB)) (RowG.agr hI2.dots (Agr.below hB))
  have hE : ∀ W, Below w.heap.size w W → Calls Tryd.prog 86 #[.slice xe1 elems1.length xec1, .slice xe2 elems2.length xec2] W fun e w' => e = .returned (.bool b9) ∧ Below W.heap.size W w' := fun W hB => by
    rw [h9]; exact sameids_any xe1 xe2 xec1 xec2 elems1 elems2 S1 S2 W he1 (RowG.agr hI1.elems (Agr.below hB)) (RowG.agr hI2.elems (Agr.below hB))
  have HD := Lib.hid hD
  have HE := Lib.hid hE
  clear hD hE hans h0 h1 h2 h3 h4 h5 h6 h7 h8 h9 hI1 hI2
  have HB2 := Lib.hid (show Below w.heap.size w ((w.alloc (.cells #[.int .i64 kind1, .int .i64 nt1, .int .i64 nr1, .int .i64 ni1, .int .i64 pt1, .int .i64 pr1, .int .i64 pi1, .string name1, .bool dir1, .slice xd1 dots1.length xdc1, .int .i64 at1, .int .i64 ar1, .int .i64 ai1, .int .i64 et1, .int .i64 er1, .int .i64 ei1, .string text1, .slice xe1 elems1.length xec1] 31)).alloc (.cells #[.int .i64 kind2, .int .i64 nt2, .int .i64 nr2, .int .i64 ni2, .int .i64 pt2, .int .i64 pr2, .int .i64 pi2, .string name2, .bool dir2, .slice xd2 dots2.length xdc2, .int .i64 at2, .int .i64 ar2, .int .i64 ai2, .int .i64 et2, .int .i64 er2, .int .i64 ei2, .string text2, .slice xe2 elems2.length xec2] 31)) from ((Below.refl _ _).alloc (Nat.le_refl _) _).alloc (by simp) _)
  show Calls _ _ #[.agg #[.int .i64 kind1, .int .i64 nt1, .int .i64 nr1, .int .i64 ni1, .int .i64 pt1, .int .i64 pr1, .int .i64 pi1, .string name1, .bool dir1, .slice xd1 dots1.length xdc1, .int .i64 at1, .int .i64 ar1, .int .i64 ai1, .int .i64 et1, .int .i64 er1, .int .i64 ei1, .string text1, .slice xe1 elems1.length xec1], .agg #[.int .i64 kind2, .int .i64 nt2, .int .i64 nr2, .int .i64 ni2, .int .i64 pt2, .int .i64 pr2, .int .i64 pi2, .string name2, .bool dir2, .slice xd2 dots2.length xdc2, .int .i64 at2, .int .i64 ar2, .int .i64 ai2, .int .i64 et2, .int .i64 er2, .int .i64 ei2, .string text2, .slice xe2 elems2.length xec2]] _ _
  go_enter Tryd.func54, Tryd.ntmps54

  go_wp2_with (first
    | (go_at_call 85; refine (HD.out _ HB2.out).mono ?_; rintro e w3 ⟨rfl, hB3⟩; have HB3 := Lib.hid (HB2.out.trans (hB3.mono HB2.out.size)); have a17 : w3.cell? ⟨w.heap.size, 17, none⟩ = some (.slice xe1 elems1.length xec1) := (hB3.cell (by simp; omega)).trans (by go_simp); have b17 : w3.cell? ⟨w.heap.size + 1, 17, none⟩ = some (.slice xe2 elems2.length xec2) := (hB3.cell (by simp)).trans (by go_simp); clear hB3)
    | (go_at_call 86; refine (HE.out _ HB3.out).mono ?_; rintro e w4 ⟨rfl, hB4⟩; have HB4 := Lib.hid (HB3.out.trans (hB4.mono HB3.out.size)); clear hB4))
  all_goals
    go_ret
    refine ⟨ret_bool (by rw [HANS.out]; simp [*]), ?_⟩
    first | exact HB4.out | exact HB3.out | exact HB2.out
end Go.Proofs.YtooaodgamakoeaaDoor
