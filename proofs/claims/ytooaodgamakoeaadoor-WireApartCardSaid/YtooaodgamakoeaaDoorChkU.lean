/- What wire.Check answers where the head is wrong, and at an undo. Conditions: lengths in reach. -/
import Derived.Test.YtooaodgamakoeaaDoorHead
import Derived.Test.YtooaodgamakoeaaDoorOpAny
namespace Go.Proofs.YtooaodgamakoeaaDoor
open Go.RowKit Go.Lib Go.Sort
set_option linter.unusedVariables false
attribute [local go_sem ↓] Go.wp_at_zero Go.wp_at_succ
set_option maxRecDepth 100000 in
set_option maxHeartbeats 2000000 in
theorem check_head (t r n : Int) (v : List Int) (ut ur : Int) (ops : List Gop) (dA : Option Addr) (dc : Nat) (oA : Option Addr) (oc : Nat) (w : World) (hl : v.length ≤ dc) (hc : dc ≤ 9223372036854775807) (hn : i63 n) (hD : VecR w dA v)
    (hh : headB ⟨⟨t, r⟩, n, v, ⟨ut, ur⟩, ops⟩ = false) :
    Calls Tryd.prog 22 #[.agg #[.int .i64 t, .int .i64 r, .int .i64 n, .slice dA v.length dc, .int .i64 ut, .int .i64 ur, .slice oA ops.length oc]] w fun e w' => e = .returned (.int .i64 80) ∧ Below w.heap.size w w' := by
  have HH : Hid (∀ W, Below w.heap.size w W → Calls Tryd.prog 55 #[.agg #[.int .i64 t, .int .i64 r, .int .i64 n, .slice dA v.length dc, .int .i64 ut, .int .i64 ur, .slice oA ops.length oc]] W fun e w' => e = .returned (.bool false) ∧ Below W.heap.size W w') :=
    Lib.hid (fun W hB => (head_any ⟨⟨t, r⟩, n, v, ⟨ut, ur⟩, ops⟩ dA dc oA oc W hl hc hn (hD.below hB)).mono (by rintro e w' ⟨rfl, hB⟩; exact ⟨by rw [hh], hB⟩))
  clear hh hD
  have hB0 : Below w.heap.size w (w.alloc (.cells #[.int .i64 t, .int .i64 r, .int .i64 n, .slice dA v.length dc, .int .i64 ut, .int .i64 ur, .slice oA ops.length oc] 34)) := (Below.refl _ _).alloc (Nat.le_refl _) _
  have HB0 := Lib.hid hB0
  clear hB0
  go_enter Tryd.func22, Tryd.ntmps22
  go_upto_region 2 with (first | (go_at_call 55; refine (HH.out _ HB0.out).mono ?_; rintro e w1 ⟨rfl, hB1⟩))
  go_wp2
  go_ret
  exact ⟨rfl, HB0.out.trans (hB1.mono (by simp))⟩
set_option maxRecDepth 100000 in
set_option maxHeartbeats 4000000 in
theorem check_undo (t r n : Int) (v : List Int) (ut ur : Int) (ops : List Gop) (dA : Option Addr) (dc : Nat) (oA : Option Addr) (oc : Nat) (w : World) (hl : v.length ≤ dc) (hc : dc ≤ 9223372036854775807) (hn : i63 n) (hD : VecR w dA v)
    (hh : headB ⟨⟨t, r⟩, n, v, ⟨ut, ur⟩, ops⟩ = true) (hu : Gst.eqb ⟨ut, ur⟩ ⟨0, 0⟩ = false) (z : Int) (hz : z = if (Gst.right ⟨ut, ur⟩ && Gst.lt ⟨ut, ur⟩ ⟨t, r⟩ && decide (ops.length = 0)) = true then 0 else 80) :
    Calls Tryd.prog 22 #[.agg #[.int .i64 t, .int .i64 r, .int .i64 n, .slice dA v.length dc, .int .i64 ut, .int .i64 ur, .slice oA ops.length oc]] w fun e w' => e = .returned (.int .i64 z) ∧ Below w.heap.size w w' := by
  have HH : Hid (∀ W, Below w.heap.size w W → Calls Tryd.prog 55 #[.agg #[.int .i64 t, .int .i64 r, .int .i64 n, .slice dA v.length dc, .int .i64 ut, .int .i64 ur, .slice oA ops.length oc]] W fun e w' => e = .returned (.bool true) ∧ Below W.heap.size W w') :=
    Lib.hid (fun W hB => (head_any ⟨⟨t, r⟩, n, v, ⟨ut, ur⟩, ops⟩ dA dc oA oc W hl hc hn (hD.below hB)).mono (by rintro e w' ⟨rfl, hB⟩; exact ⟨by rw [hh], hB⟩))
  have HZ := Lib.hid hz
  have hne := ne_st ut ur 0 0 false hu
  have HRi := Lib.hid (right_any ut ur)
  have HCm := Lib.hid (cmp_any ut ur t r)
  clear hh hD hz hu
  have hB0 : Below w.heap.size w (w.alloc (.cells #[.int .i64 t, .int .i64 r, .int .i64 n, .slice dA v.length dc, .int .i64 ut, .int .i64 ur, .slice oA ops.length oc] 34)) := (Below.refl _ _).alloc (Nat.le_refl _) _
  have HB0 := Lib.hid hB0
  clear hB0
  go_enter Tryd.func22, Tryd.ntmps22
  go_upto_region 3 with (first | (go_at_call 55; refine (HH.out _ HB0.out).mono ?_; rintro e w1 ⟨rfl, hB1⟩))
  have HA1 := Lib.hid ((hB1.block w.heap.size (by simp)).trans (heap_alloc_new _ _))
  have hT1 : Below w.heap.size w w1 := HB0.out.trans (hB1.mono (by simp))
  have hlt : w.heap.size < w1.heap.size := by have := hB1.size; simp at this; omega
  clear hB1
  have r0 : w1.cell? ⟨w.heap.size, 0, none⟩ = some (.int .i64 t) := by rw [cell_of_row _ _ _ _ _ _ HA1.out]; rfl
  have r1 : w1.cell? ⟨w.heap.size, 1, none⟩ = some (.int .i64 r) := by rw [cell_of_row _ _ _ _ _ _ HA1.out]; rfl
  have r4 : w1.cell? ⟨w.heap.size, 4, none⟩ = some (.int .i64 ut) := by rw [cell_of_row _ _ _ _ _ _ HA1.out]; rfl
  have r5 : w1.cell? ⟨w.heap.size, 5, none⟩ = some (.int .i64 ur) := by rw [cell_of_row _ _ _ _ _ _ HA1.out]; rfl
  have r6 : w1.cell? ⟨w.heap.size, 6, none⟩ = some (.slice oA ops.length oc) := by rw [cell_of_row _ _ _ _ _ _ HA1.out]; rfl
  go_wp2_with fail
  refine (HRi.out _).mono ?_
  rintro e w2 ⟨rfl, hB2⟩
  cases h1 : Gst.right ⟨ut, ur⟩ with
  | false =>
    obtain rfl : z = 80 := by rw [HZ.out, h1]; rfl
    go_wp2
    go_ret
    exact ⟨rfl, hT1.trans (hB2.mono (by omega))⟩
  | true =>
    have H1 := Lib.hid h1
    have HA2 := Lib.hid ((hB2.block _ hlt).trans HA1.out)
    have hT2 : Below w.heap.size w w2 := hT1.trans (hB2.mono (by omega))
    have hlt2 : w.heap.size < w2.heap.size := by have := hB2.size; omega
    clear h1 HA1 r0 r1 r4 r5 r6 hB2 hT1 HRi
    have r0 : w2.cell? ⟨w.heap.size, 0, none⟩ = some (.int .i64 t) := by rw [cell_of_row _ _ _ _ _ _ HA2.out]; rfl
    have r1 : w2.cell? ⟨w.heap.size, 1, none⟩ = some (.int .i64 r) := by rw [cell_of_row _ _ _ _ _ _ HA2.out]; rfl
    have r4 : w2.cell? ⟨w.heap.size, 4, none⟩ = some (.int .i64 ut) := by rw [cell_of_row _ _ _ _ _ _ HA2.out]; rfl
    have r5 : w2.cell? ⟨w.heap.size, 5, none⟩ = some (.int .i64 ur) := by rw [cell_of_row _ _ _ _ _ _ HA2.out]; rfl
    have r6 : w2.cell? ⟨w.heap.size, 6, none⟩ = some (.slice oA ops.length oc) := by rw [cell_of_row _ _ _ _ _ _ HA2.out]; rfl
    go_wp2_with fail
    refine (HCm.out _).mono ?_
    rintro e w3 ⟨rfl, hB3⟩
    have hg := cmpS_ge ⟨ut, ur⟩ ⟨t, r⟩
    cases h2 : Gst.lt ⟨ut, ur⟩ ⟨t, r⟩ with
    | false =>
      obtain rfl : z = 80 := by rw [HZ.out, H1.out, h2]; rfl
      rw [h2] at hg
      clear h2
      go_wp2
      go_ret
      exact ⟨rfl, hT2.trans (hB3.mono (by omega))⟩
    | true =>
      rw [h2] at hg
      have H2 := Lib.hid h2
      have HA3 := Lib.hid ((hB3.block _ hlt2).trans HA2.out)
      have hT3 : Below w.heap.size w w3 := hT2.trans (hB3.mono (by omega))
      clear h2 HA2 r0 r1 r4 r5 r6 hB3 hT2 HCm
      have r6 : w3.cell? ⟨w.heap.size, 6, none⟩ = some (.slice oA ops.length oc) := by rw [cell_of_row _ _ _ _ _ _ HA3.out]; rfl
      by_cases h3 : ops.length = 0
      · obtain rfl : z = 0 := by rw [HZ.out, H1.out, H2.out, decide_eq_true h3]; rfl
        have b1 : decide (0 < ops.length) = false := by rw [decide_eq_false_iff_not]; omega
        have H3 := Lib.hid h3
        clear h3
        go_wp2
        go_ret
        exact ⟨rfl, hT3⟩
      · obtain rfl : z = 80 := by rw [HZ.out, H1.out, H2.out, decide_eq_false h3]; rfl
        have b1 : decide (0 < ops.length) = true := by rw [decide_eq_true_eq]; omega
        have H3 := Lib.hid h3
        clear h3
        go_wp2
        go_ret
        exact ⟨rfl, hT3⟩
end Go.Proofs.YtooaodgamakoeaaDoor
