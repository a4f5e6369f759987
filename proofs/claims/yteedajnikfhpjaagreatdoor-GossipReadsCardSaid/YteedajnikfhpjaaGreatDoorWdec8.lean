/- The law WireDecodes, at every text. Conditions: lengths in reach; the tables of utf8. -/
import Derived.Test.YteedajnikfhpjaaGreatDoorCurDec
import Derived.Test.YteedajnikfhpjaaGreatDoorAwake8
namespace Go.Proofs.YteedajnikfhpjaaGreatDoor
open Go.RowKit Go.Lib Go.Sort
set_option linter.unusedVariables false
attribute [local go_sem ↓] Go.wp_at_zero Go.wp_at_succ
def decG (r : Option Grp) : Grp := r.getD gz
def decE (r : Option Grp) : Int := if r.isSome = true then 0 else 80
theorem GrIn.gz (w : World) (S : Nat → Prop) : GrIn w S gz none 0 none 0 :=
  ⟨RowG.zero, ⟨fun _ => ⟨none, 0, none, 0⟩, RowG.zero, fun k hk => absurd hk (Nat.not_lt_zero k)⟩, Nat.le_refl _, Nat.le_refl _, Nat.zero_le _, Nat.zero_le _, ⟨by decide, by decide⟩, fun x hx => by cases hx⟩
theorem DecQ.uni {r : Option Grp} {w w' : World} {e : Ending} (h : DecQ r w e w') : Below w.heap.size w w' ∧ ∃ dA dc oA oc, e = .returned (.tuple #[.agg (grA (decG r) dA dc oA oc), .int .i64 (decE r)]) ∧ GrIn w' (fun k => w.heap.size ≤ k) (decG r) dA dc oA oc := by
  obtain ⟨hB, h⟩ := h
  cases r with
  | none => exact ⟨hB, Option.none, 0, Option.none, 0, h, GrIn.gz _ _⟩
  | some g =>
    obtain ⟨dA, dc, oA, oc, he, hI, -⟩ := h
    exact ⟨hB, dA, dc, oA, oc, he, hI⟩
set_option maxRecDepth 100000 in
set_option maxHeartbeats 8000000 in
theorem wdecodes_any (s : ByteArray) (w : World) (hs : s.size ≤ 9223372036854775807) (hTb : Tabs w) :
    Calls Tryz.prog 5 #[.string s] w fun e w' => e = .returned (.bool true) ∧ Below w.heap.size w w' := by
  have HAW := Lib.hid (show ∀ W, Below w.heap.size w W → Calls Tryz.prog 16 #[] W fun e w' => e = .returned (.bool true) ∧ Below W.heap.size W w' from fun W hB => awake8_any W (hTb.below hB))
  have HTB := Lib.hid hTb
  clear hTb
  by_cases hl : 5000 < s.size
  · have i1 : (5000 : Int) < (s.size : Int) := by omega
    go_enter Tryz.func5, Tryz.ntmps5
    go_wp2_with (go_at_call 16; refine (HAW.out _ (Below.refl _ _)).mono ?_; rintro e w2 ⟨rfl, hB2⟩)
    go_ret
    exact ⟨rfl, hB2⟩
  · have i1 : ¬ (5000 : Int) < (s.size : Int) := by omega
    obtain ⟨d, hd⟩ : ∃ d, d = decZ s.data.toList := ⟨_, rfl⟩
    have HD := Lib.hid (fun W (hT : Tabs W) => (decode_any s W (by omega) hT).mono fun e w' h => (show DecQ (decZ s.data.toList) W e w' from h).uni)
    have HR := Lib.hid (fun W => (cdecode_any s W (by omega)).mono fun e w' h => (show DecQ (decZ s.data.toList) W e w' from h).uni)
    rw [← hd] at HD HR
    obtain ⟨z, hz⟩ : ∃ z, z = decE d := ⟨_, rfl⟩
    obtain ⟨g, hg⟩ : ∃ g, g = decG d := ⟨_, rfl⟩
    rw [← hz, ← hg] at HD HR
    clear hd hz hg
    have e1 : (z == z) = true := beq_self_eq_true z
    obtain ⟨⟨t, r⟩, n, v, ⟨ut, ur⟩, ops⟩ := g
    have HSM := Lib.hid (fun dA1 dA2 oA1 oA2 dc1 dc2 oc1 oc2 S1 S2 W hI1 hI2 => sameg_any ⟨⟨t, r⟩, n, v, ⟨ut, ur⟩, ops⟩ ⟨⟨t, r⟩, n, v, ⟨ut, ur⟩, ops⟩ dA1 dA2 oA1 oA2 dc1 dc2 oc1 oc2 S1 S2 W hI1 hI2)
    have HSG := Lib.hid (show sameG ⟨⟨t, r⟩, n, v, ⟨ut, ur⟩, ops⟩ ⟨⟨t, r⟩, n, v, ⟨ut, ur⟩, ops⟩ = true from sameG_iff.2 rfl)
    rw [HSG.out] at HSM
    go_enter Tryz.func5, Tryz.ntmps5
    go_wp2_with fail
    refine (HD.out _ HTB.out).mono ?_
    rintro e w1 ⟨hB1, dA1, dc1, oA1, oc1, he, hI1⟩
    obtain rfl : e = .returned (.tuple #[.agg #[.int .i64 t, .int .i64 r, .int .i64 n, .slice dA1 v.length dc1, .int .i64 ut, .int .i64 ur, .slice oA1 ops.length oc1], .int .i64 z]) := he
    have HB1 := Lib.hid hB1
    have HI1 := Lib.hid hI1
    clear hB1 hI1
    go_upto_region 4 with (first | (refine store_last rfl _ _ _ rfl _ _ _ _ rfl ?_ rfl ?_ ?_ ?_ ?_; (focus (simp; done)); kernel_rfl; rfl; rfl))
    have HB2 := Lib.hid (HB1.out.alloc HB1.out.size (.cells #[.int .i64 t, .int .i64 r, .int .i64 n, .slice dA1 v.length dc1, .int .i64 ut, .int .i64 ur, .slice oA1 ops.length oc1] 40))
    have HC2 := Lib.hid (heap_alloc_new w1 (.cells #[.int .i64 t, .int .i64 r, .int .i64 n, .slice dA1 v.length dc1, .int .i64 ut, .int .i64 ur, .slice oA1 ops.length oc1] 40))
    have HI2 := Lib.hid (HI1.out.agr (Agr.below ((Below.refl _ _).alloc (Nat.le_refl _) (.cells #[.int .i64 t, .int .i64 r, .int .i64 n, .slice dA1 v.length dc1, .int .i64 ut, .int .i64 ur, .slice oA1 ops.length oc1] 40))))
    generalize hV : w1.alloc (.cells #[.int .i64 t, .int .i64 r, .int .i64 n, .slice dA1 v.length dc1, .int .i64 ut, .int .i64 ur, .slice oA1 ops.length oc1] 40) = V2 at *
    clear hV
    go_wp2_with fail
    refine (HR.out V2).mono ?_
    rintro e w3 ⟨hB3, dA2, dc2, oA2, oc2, he, hI3⟩
    obtain rfl : e = .returned (.tuple #[.agg #[.int .i64 t, .int .i64 r, .int .i64 n, .slice dA2 v.length dc2, .int .i64 ut, .int .i64 ur, .slice oA2 ops.length oc2], .int .i64 z]) := he
    have HC3 := Lib.hid ((hB3.block w1.heap.size (lt_of_block HC2.out)).trans HC2.out)
    have HI3 := Lib.hid (HI2.out.agr (Agr.below hB3))
    have HJ3 := Lib.hid hI3
    have HB3 := Lib.hid (HB2.out.trans (hB3.mono HB2.out.size))
    clear hB3 hI3 HI2 HC2
    go_upto_region 5 with (first | (refine store_last rfl _ _ _ rfl _ _ _ _ rfl ?_ rfl ?_ ?_ ?_ ?_; (focus (simp; done)); kernel_rfl; rfl; rfl))
    have HB4 := Lib.hid (HB3.out.alloc HB3.out.size (.cells #[.int .i64 t, .int .i64 r, .int .i64 n, .slice dA2 v.length dc2, .int .i64 ut, .int .i64 ur, .slice oA2 ops.length oc2] 40))
    have HC4 := Lib.hid ((Below.heap_alloc w3 (.cells #[.int .i64 t, .int .i64 r, .int .i64 n, .slice dA2 v.length dc2, .int .i64 ut, .int .i64 ur, .slice oA2 ops.length oc2] 40) _ (lt_of_block HC3.out)).trans HC3.out)
    have HE4 := Lib.hid (heap_alloc_new w3 (.cells #[.int .i64 t, .int .i64 r, .int .i64 n, .slice dA2 v.length dc2, .int .i64 ut, .int .i64 ur, .slice oA2 ops.length oc2] 40))
    have HI4 := Lib.hid (HI3.out.agr (Agr.below ((Below.refl _ _).alloc (Nat.le_refl _) (.cells #[.int .i64 t, .int .i64 r, .int .i64 n, .slice dA2 v.length dc2, .int .i64 ut, .int .i64 ur, .slice oA2 ops.length oc2] 40))))
    have HJ4 := Lib.hid (HJ3.out.agr (Agr.below ((Below.refl _ _).alloc (Nat.le_refl _) (.cells #[.int .i64 t, .int .i64 r, .int .i64 n, .slice dA2 v.length dc2, .int .i64 ut, .int .i64 ur, .slice oA2 ops.length oc2] 40))))
    generalize hV : w3.alloc (.cells #[.int .i64 t, .int .i64 r, .int .i64 n, .slice dA2 v.length dc2, .int .i64 ut, .int .i64 ur, .slice oA2 ops.length oc2] 40) = V4 at *
    clear hV
    go_wp2_with fail
    refine (HAW.out V4 HB4.out).mono ?_
    rintro e w5 ⟨rfl, hB5⟩
    have HC5 := Lib.hid ((hB5.block w1.heap.size (lt_of_block HC4.out)).trans HC4.out)
    have HE5 := Lib.hid ((hB5.block w3.heap.size (lt_of_block HE4.out)).trans HE4.out)
    have HI5 := Lib.hid (HI4.out.agr (Agr.below hB5))
    have HJ5 := Lib.hid (HJ4.out.agr (Agr.below hB5))
    have HB5 := Lib.hid (HB4.out.trans (hB5.mono HB4.out.size))
    clear hB5
    have a00 : w5.cell? ⟨w1.heap.size, 0, none⟩ = some (.int .i64 t) := by rw [cell_of_row _ _ _ _ _ _ HC5.out]; rfl
    have a01 : w5.cell? ⟨w1.heap.size, 1, none⟩ = some (.int .i64 r) := by rw [cell_of_row _ _ _ _ _ _ HC5.out]; rfl
    have a02 : w5.cell? ⟨w1.heap.size, 2, none⟩ = some (.int .i64 n) := by rw [cell_of_row _ _ _ _ _ _ HC5.out]; rfl
    have a03 : w5.cell? ⟨w1.heap.size, 3, none⟩ = some (.slice dA1 v.length dc1) := by rw [cell_of_row _ _ _ _ _ _ HC5.out]; rfl
    have a04 : w5.cell? ⟨w1.heap.size, 4, none⟩ = some (.int .i64 ut) := by rw [cell_of_row _ _ _ _ _ _ HC5.out]; rfl
    have a05 : w5.cell? ⟨w1.heap.size, 5, none⟩ = some (.int .i64 ur) := by rw [cell_of_row _ _ _ _ _ _ HC5.out]; rfl
    have a06 : w5.cell? ⟨w1.heap.size, 6, none⟩ = some (.slice oA1 ops.length oc1) := by rw [cell_of_row _ _ _ _ _ _ HC5.out]; rfl
    have a10 : w5.cell? ⟨w3.heap.size, 0, none⟩ = some (.int .i64 t) := by rw [cell_of_row _ _ _ _ _ _ HE5.out]; rfl
    have a11 : w5.cell? ⟨w3.heap.size, 1, none⟩ = some (.int .i64 r) := by rw [cell_of_row _ _ _ _ _ _ HE5.out]; rfl
    have a12 : w5.cell? ⟨w3.heap.size, 2, none⟩ = some (.int .i64 n) := by rw [cell_of_row _ _ _ _ _ _ HE5.out]; rfl
    have a13 : w5.cell? ⟨w3.heap.size, 3, none⟩ = some (.slice dA2 v.length dc2) := by rw [cell_of_row _ _ _ _ _ _ HE5.out]; rfl
    have a14 : w5.cell? ⟨w3.heap.size, 4, none⟩ = some (.int .i64 ut) := by rw [cell_of_row _ _ _ _ _ _ HE5.out]; rfl
    have a15 : w5.cell? ⟨w3.heap.size, 5, none⟩ = some (.int .i64 ur) := by rw [cell_of_row _ _ _ _ _ _ HE5.out]; rfl
    have a16 : w5.cell? ⟨w3.heap.size, 6, none⟩ = some (.slice oA2 ops.length oc2) := by rw [cell_of_row _ _ _ _ _ _ HE5.out]; rfl
    go_wp2_with (first
      | (refine load_at rfl _ _ rfl w1.heap.size _ _ _ rfl HC5.out Tryz.underlying40 rfl ?_ ?_; kernel_rfl)
      | (refine load_at rfl _ _ rfl w3.heap.size _ _ _ rfl HE5.out Tryz.underlying40 rfl ?_ ?_; kernel_rfl)
      | (go_at_call 19; refine (HSM.out dA1 dA2 oA1 oA2 dc1 dc2 oc1 oc2 _ _ w5 HI5.out HJ5.out).mono ?_; rintro e w6 ⟨rfl, hB6⟩))
    go_ret
    exact ⟨rfl, HB5.out.trans (hB6.mono HB5.out.size)⟩
end Go.Proofs.YteedajnikfhpjaaGreatDoor
