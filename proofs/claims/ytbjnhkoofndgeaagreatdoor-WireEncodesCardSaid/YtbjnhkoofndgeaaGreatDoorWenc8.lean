/- The law WireEncodes, at every group. Conditions: lengths in reach; the tables of utf8. -/
import Derived.Test.YtbjnhkoofndgeaaGreatDoorRefEnc
import Derived.Test.YtbjnhkoofndgeaaGreatDoorAwake8
import Derived.Test.YtbjnhkoofndgeaaGreatDoorFA
import Derived.Test.YtbjnhkoofndgeaaGreatDoorBack8
namespace Go.Proofs.YtbjnhkoofndgeaaGreatDoor
open Go.RowKit Go.Lib Go.Sort
set_option linter.unusedVariables false
attribute [local go_sem ↓] Go.wp_at_zero Go.wp_at_succ
set_option maxRecDepth 100000 in
set_option maxHeartbeats 8000000 in
theorem wencodes_any (g : Grp) (dA oA : Option Addr) (dc oc : Nat) (w : World) (hI : GrIn w (Here w) g dA dc oA oc) (hT1 : ∀ o ∈ g.ops, o.text.size < 9223372036854775807) (hTb : Tabs w) :
    Calls Tryz.prog 5 #[.agg (grA g dA dc oA oc)] w fun e w' => e = .returned (.bool true) ∧ Below w.heap.size w w' := by
  obtain ⟨fg, hfg⟩ : ∃ b, b = fewG g := ⟨_, rfl⟩
  obtain ⟨z, hz⟩ : ∃ z : Int, z = if chkB g = true then 0 else 80 := ⟨_, rfl⟩
  obtain ⟨Z, hZ⟩ : ∃ Z : ByteArray, Z = if chkB g = true then ⟨(grpZ g).toArray⟩ else ⟨#[]⟩ := ⟨_, rfl⟩
  have hE : encV g = .tuple #[.string Z, .int .i64 z] := by
    rw [hz, hZ]
    cases h : chkB g with
    | true => rw [encV_ok h]; rfl
    | false => rw [encV_no h]; rfl
  have HAW := Lib.hid (show ∀ W, Below w.heap.size w W → Calls Tryz.prog 19 #[] W fun e w' => e = .returned (.bool true) ∧ Below W.heap.size W w' from fun W hB => awake8_any W (hTb.below hB))
  have hF1 : ∀ W, Below w.heap.size w W → Calls Tryz.prog 18 #[.agg (grA g dA dc oA oc)] W fun e w' => e = .returned (.bool fg) ∧ Below W.heap.size W w' := fun W hB => by
    rw [hfg]; exact few_any g dA oA dc oc (Here w) W (hI.agr (Agr.below hB))
  have hWE : fg = true → ∀ W, Below w.heap.size w W → Calls Tryz.prog 20 #[.agg (grA g dA dc oA oc)] W fun e w' => e = .returned (.tuple #[.string Z, .int .i64 z]) ∧ Below W.heap.size W w' := fun h1 W hB => by
    rw [← hE]; exact encode_any g dA dc oA oc (Here w) W (hI.agr (Agr.below hB)) hT1 (few_text (by rw [← hfg]; exact h1)) (hTb.below hB)
  have hRE : fg = true → ∀ W, Below w.heap.size w W → Calls Tryz.prog 21 #[.agg (grA g dA dc oA oc)] W fun e w' => e = .returned (.tuple #[.string Z, .int .i64 z]) ∧ Below W.heap.size W w' := fun h1 W hB => by
    rw [← hE]; exact refencode_any g dA dc oA oc (Here w) W (hI.agr (Agr.below hB)) (few_text (by rw [← hfg]; exact h1))
  have hWC : ∀ W, Below w.heap.size w W → Calls Tryz.prog 22 #[.agg (grA g dA dc oA oc)] W fun e w' => e = .returned (.int .i64 z) ∧ Below W.heap.size W w' := fun W hB => by
    rw [hz]; exact check_any g dA dc oA oc (Here w) W (hI.agr (Agr.below hB)) hT1 (hTb.below hB)
  have hRC : fg = true → ∀ W, Below w.heap.size w W → Calls Tryz.prog 23 #[.agg (grA g dA dc oA oc)] W fun e w' => e = .returned (.int .i64 z) ∧ Below W.heap.size W w' := fun h1 W hB => by
    rw [hz]; exact refchk_any g dA dc oA oc (Here w) W (hI.agr (Agr.below hB)) (few_text (by rw [← hfg]; exact h1))
  obtain ⟨⟨t, r⟩, n, v, ⟨ut, ur⟩, ops⟩ := g
  show Calls _ _ #[.agg #[.int .i64 t, .int .i64 r, .int .i64 n, .slice dA v.length dc, .int .i64 ut, .int .i64 ur, .slice oA ops.length oc]] _ _
  have HF1 : Hid (∀ W, Below w.heap.size w W → Calls Tryz.prog 18 #[.agg #[.int .i64 t, .int .i64 r, .int .i64 n, .slice dA v.length dc, .int .i64 ut, .int .i64 ur, .slice oA ops.length oc]] W fun e w' => e = .returned (.bool fg) ∧ Below W.heap.size W w') := Lib.hid hF1
  have HWE : Hid (fg = true → ∀ W, Below w.heap.size w W → Calls Tryz.prog 20 #[.agg #[.int .i64 t, .int .i64 r, .int .i64 n, .slice dA v.length dc, .int .i64 ut, .int .i64 ur, .slice oA ops.length oc]] W fun e w' => e = .returned (.tuple #[.string Z, .int .i64 z]) ∧ Below W.heap.size W w') := Lib.hid hWE
  have HRE : Hid (fg = true → ∀ W, Below w.heap.size w W → Calls Tryz.prog 21 #[.agg #[.int .i64 t, .int .i64 r, .int .i64 n, .slice dA v.length dc, .int .i64 ut, .int .i64 ur, .slice oA ops.length oc]] W fun e w' => e = .returned (.tuple #[.string Z, .int .i64 z]) ∧ Below W.heap.size W w') := Lib.hid hRE
  have HWC : Hid (∀ W, Below w.heap.size w W → Calls Tryz.prog 22 #[.agg #[.int .i64 t, .int .i64 r, .int .i64 n, .slice dA v.length dc, .int .i64 ut, .int .i64 ur, .slice oA ops.length oc]] W fun e w' => e = .returned (.int .i64 z) ∧ Below W.heap.size W w') := Lib.hid hWC
  have HRC : Hid (fg = true → ∀ W, Below w.heap.size w W → Calls Tryz.prog 23 #[.agg #[.int .i64 t, .int .i64 r, .int .i64 n, .slice dA v.length dc, .int .i64 ut, .int .i64 ur, .slice oA ops.length oc]] W fun e w' => e = .returned (.int .i64 z) ∧ Below W.heap.size W w') := Lib.hid hRC
  clear hfg hz hZ hE hF1 hWE hRE hWC hRC hI hT1 hTb
  have HB0 := Lib.hid (show Below w.heap.size w (w.alloc (.cells #[.int .i64 t, .int .i64 r, .int .i64 n, .slice dA v.length dc, .int .i64 ut, .int .i64 ur, .slice oA ops.length oc] 40)) from (Below.refl _ _).alloc (Nat.le_refl _) _)
  cases fg with
  | false =>
    clear HWE HRE HWC HRC
    go_enter Tryz.func5, Tryz.ntmps5
    go_upto_region 2 with (go_at_call 18; refine (HF1.out _ HB0.out).mono ?_; rintro e w1 ⟨rfl, hB1⟩)
    have HB1 := Lib.hid (HB0.out.trans (hB1.mono (by simp)))
    clear hB1
    go_wp2_with (go_at_call 19; refine (HAW.out _ HB1.out).mono ?_; rintro e w2 ⟨rfl, hB2⟩)
    go_ret
    exact ⟨rfl, HB1.out.trans (hB2.mono HB1.out.size)⟩
  | true =>
    go_enter Tryz.func5, Tryz.ntmps5
    go_upto_region 3 with (go_at_call 18; refine (HF1.out _ HB0.out).mono ?_; rintro e w1 ⟨rfl, hB1⟩)
    have HG1 := Lib.hid ((hB1.block w.heap.size (by simp)).trans (heap_alloc_new w (.cells #[.int .i64 t, .int .i64 r, .int .i64 n, .slice dA v.length dc, .int .i64 ut, .int .i64 ur, .slice oA ops.length oc] 40)))
    have HB1 := Lib.hid (HB0.out.trans (hB1.mono (by simp)))
    clear hB1
    go_upto_region 4 with (first | (refine load_at rfl _ _ rfl w.heap.size _ _ _ rfl HG1.out Tryz.underlying40 rfl ?_ ?_; kernel_rfl) | (go_at_call 20; refine (HWE.out (by first | rfl | trivial) _ HB1.out).mono ?_; rintro e w2 ⟨rfl, hB2⟩))
    have HG2 := Lib.hid ((hB2.block w.heap.size (lt_of_block HG1.out)).trans HG1.out)
    have HB2 := Lib.hid (HB1.out.trans (hB2.mono HB1.out.size))
    clear hB2
    go_upto_region 5 with (first | (refine load_at rfl _ _ rfl w.heap.size _ _ _ rfl HG2.out Tryz.underlying40 rfl ?_ ?_; kernel_rfl) | (go_at_call 21; refine (HRE.out (by first | rfl | trivial) _ HB2.out).mono ?_; rintro e w3 ⟨rfl, hB3⟩))
    have hG3 := (hB3.block w.heap.size (lt_of_block HG2.out)).trans HG2.out
    have hB3' := HB2.out.trans (hB3.mono HB2.out.size)
    clear hB3
    have x0 := cell_regrown (w := w3) (a := ⟨w.heap.size, 0, none⟩) (v := .int .i64 t) (by rw [cell_of_row _ _ _ _ _ _ hG3]; rfl)
    have x1 := cell_regrown (w := w3) (a := ⟨w.heap.size, 1, none⟩) (v := .int .i64 r) (by rw [cell_of_row _ _ _ _ _ _ hG3]; rfl)
    have x2 := cell_regrown (w := w3) (a := ⟨w.heap.size, 2, none⟩) (v := .int .i64 n) (by rw [cell_of_row _ _ _ _ _ _ hG3]; rfl)
    have x3 := cell_regrown (w := w3) (a := ⟨w.heap.size, 3, none⟩) (v := .slice dA v.length dc) (by rw [cell_of_row _ _ _ _ _ _ hG3]; rfl)
    have x4 := cell_regrown (w := w3) (a := ⟨w.heap.size, 4, none⟩) (v := .int .i64 ut) (by rw [cell_of_row _ _ _ _ _ _ hG3]; rfl)
    have x5 := cell_regrown (w := w3) (a := ⟨w.heap.size, 5, none⟩) (v := .int .i64 ur) (by rw [cell_of_row _ _ _ _ _ _ hG3]; rfl)
    have x6 := cell_regrown (w := w3) (a := ⟨w.heap.size, 6, none⟩) (v := .slice oA ops.length oc) (by rw [cell_of_row _ _ _ _ _ _ hG3]; rfl)
    have cA := fun d os => Calls.regrown_of (HAW.out (grow (redrawn w3 d) os) (below_grow hB3' hB3'.size d os))
    have cW := fun d os => Calls.regrown_of (HWC.out (grow (redrawn w3 d) os) (below_grow hB3' hB3'.size d os))
    have cR := fun d os => Calls.regrown_of (HRC.out (by first | rfl | trivial) (grow (redrawn w3 d) os) (below_grow hB3' hB3'.size d os))
    have HB3 := Lib.hid hB3'
    have e1 : (z == z) = true := beq_self_eq_true z
    have e2 : (Z.toList == Z.toList) = true := beq_self_eq_true _
    clear hG3 hB3'
    refine wp_region_quiet_below (by kernel_rfl) (by kernel_rfl) ?_
    repeat (any_goals (first | go_big_quiet_step (first | with_reducible exact cA _ _ | with_reducible exact cW _ _ | with_reducible exact cR _ _) | quiet_step (first | with_reducible exact cA _ _ | with_reducible exact cW _ _ | with_reducible exact cR _ _)))
    refine wpQuiet_nil ?_
    intro _ hw'
    obtain ⟨⟨dq, osq⟩, hw''⟩ := hw'
    subst hw''
    have hBq := below_regrown w3 dq osq
    generalize grow (redrawn w3 dq) osq = wq at *
    go_wp2
    go_ret
    exact ⟨rfl, HB3.out.trans (hBq.mono HB3.out.size)⟩
end Go.Proofs.YtbjnhkoofndgeaaGreatDoor
