/- What a box's small questions answer. Conditions: lengths in reach. -/
import Derived.Test.YtalgbcgiiphoaaaGreatDoorBxR
import Derived.Test.YtalgbcgiiphoaaaGreatDoorCov
import Derived.Test.YtalgbcgiiphoaaaGreatDoorWith
namespace Go.Proofs.YtalgbcgiiphoaaaGreatDoor
open Go.RowKit Go.Lib Go.Sort
set_option linter.unusedVariables false
attribute [local go_sem ↓] Go.wp_at_zero Go.wp_at_succ
theorem bx_grow {w W : World} {B : Nat} (h : Below B w W) (hB : B ≤ W.heap.size) (d : Nat) (os : Array Obj) : Below B w (grow (redrawn W d) os) := h.trans ((below_regrown W d os).mono hB)
set_option maxRecDepth 100000 in
set_option maxHeartbeats 4000000 in
theorem bxready_any {B P : Nat} {S S2 : Nat → Prop} {dn mp wt : List Grp} {v : List Int} {X : BoxX} {w : World} (h : BoxIn B P S dn mp wt v X w) (g : Grp) (x : GrX) (hG : GrG w S2 (g, x)) (hdl : g.deps.length ≤ 1000) :
    Calls Tryz.prog 45 #[.pointer (some ⟨P, 0, none⟩), .agg (grA g x.dA x.dc x.oA x.oc)] w fun e w' => e = .returned (.bool (readyB v g)) ∧ Below w.heap.size w w' := by
  obtain ⟨⟨t, r⟩, n, u, ⟨ut, ur⟩, ops⟩ := g
  obtain ⟨dA, dc, oA, oc⟩ := x
  obtain ⟨ans, hans⟩ : ∃ b, b = readyB v ⟨⟨t, r⟩, n, u, ⟨ut, ur⟩, ops⟩ := ⟨_, rfl⟩
  rw [← hans]
  have hb0 : Below w.heap.size w (w.alloc (.cells #[.int .i64 t, .int .i64 r, .int .i64 n, .slice dA u.length dc, .int .i64 ut, .int .i64 ur, .slice oA ops.length oc] 40)) := (Below.refl _ _).alloc (Nat.le_refl _) _
  have hul : u.length ≤ 9223372036854775806 := by have h1 : u.length ≤ 1000 := hdl; omega
  have hCV : ∀ W, Below w.heap.size w W → Calls Tryz.prog 80 #[.slice X.vA v.length X.vc, .slice dA u.length dc] W fun e w' => e = .returned (.bool ans) ∧ Below W.heap.size W w' := fun W hB =>
    (covers_any X.vA dA X.vc dc v u W (by have := h.vlen; omega) hul (VecS.vec (show VecS W S X.vA v from RowG.agr h.vec (Agr.below hB))) (VecS.vec (show VecS W S2 dA u from RowG.agr hG.deps (Agr.below hB)))).mono (by rintro e w' ⟨rfl, rfl⟩; exact ⟨by rw [hans]; rfl, Below.refl _ _⟩)
  have HCV := Lib.hid hCV
  have HC := Lib.hid (heap_alloc_new w (.cells #[.int .i64 t, .int .i64 r, .int .i64 n, .slice dA u.length dc, .int .i64 ut, .int .i64 ur, .slice oA ops.length oc] 40))
  have hbx := h.below hb0
  have HO := Lib.hid hbx.obj
  have HB := Lib.hid hb0
  show Calls _ _ #[.pointer (some ⟨P, 0, none⟩), .agg #[.int .i64 t, .int .i64 r, .int .i64 n, .slice dA u.length dc, .int .i64 ut, .int .i64 ur, .slice oA ops.length oc]] _ _
  clear hCV hG h hans hbx hdl
  go_enter Tryz.func45, Tryz.ntmps45
  go_upto_region 1 with fail
  generalize hW : w.alloc (.cells #[.int .i64 t, .int .i64 r, .int .i64 n, .slice dA u.length dc, .int .i64 ut, .int .i64 ur, .slice oA ops.length oc] 40) = W at *
  clear hW
  have x3 := cell_regrown (w := W) (a := ⟨P, 3, none⟩) (v := .slice X.vA v.length X.vc) (by rw [cell_of_row _ _ _ _ _ _ HO.out]; rfl)
  have y2 := cell_regrown (w := W) (a := ⟨w.heap.size, 2, none⟩) (v := .int .i64 n) (by rw [cell_of_row _ _ _ _ _ _ HC.out]; rfl)
  have y3 := cell_regrown (w := W) (a := ⟨w.heap.size, 3, none⟩) (v := .slice dA u.length dc) (by rw [cell_of_row _ _ _ _ _ _ HC.out]; rfl)
  have cA := fun d os => Calls.regrown_of (HCV.out (grow (redrawn W d) os) (bx_grow HB.out HB.out.size d os))
  refine wp_region_quiet_below (by kernel_rfl) (by kernel_rfl) ?_
  repeat (any_goals (first | go_big_quiet_step (with_reducible exact cA _ _) | quiet_step (with_reducible exact cA _ _)))
  refine wpQuiet_nil ?_
  intro _ hw'
  obtain ⟨⟨dq, osq⟩, hw''⟩ := hw'
  subst hw''
  have hBq := below_regrown W dq osq
  generalize grow (redrawn W dq) osq = wq at *
  go_wp2
  go_ret
  exact ⟨rfl, HB.out.trans (hBq.mono HB.out.size)⟩
set_option maxRecDepth 100000 in
set_option maxHeartbeats 4000000 in
theorem bxold_any {B P : Nat} {S S2 : Nat → Prop} {dn mp wt : List Grp} {v : List Int} {X : BoxX} {w : World} (h : BoxIn B P S dn mp wt v X w) (g : Grp) (x : GrX) :
    Calls Tryz.prog 77 #[.pointer (some ⟨P, 0, none⟩), .agg (grA g x.dA x.dc x.oA x.oc)] w fun e w' => e = .returned (.bool (oldB v g)) ∧ Below w.heap.size w w' := by
  obtain ⟨⟨t, r⟩, n, u, ⟨ut, ur⟩, ops⟩ := g
  obtain ⟨dA, dc, oA, oc⟩ := x
  obtain ⟨z, hz⟩ : ∃ z, z = atV v r := ⟨_, rfl⟩
  obtain ⟨ans, hans⟩ : ∃ b, b = oldB v ⟨⟨t, r⟩, n, u, ⟨ut, ur⟩, ops⟩ := ⟨_, rfl⟩
  have q1 : decide (n ≤ z) = ans := by rw [hans, hz]; rfl
  rw [← hans]
  have hb0 : Below w.heap.size w (w.alloc (.cells #[.int .i64 t, .int .i64 r, .int .i64 n, .slice dA u.length dc, .int .i64 ut, .int .i64 ur, .slice oA ops.length oc] 40)) := (Below.refl _ _).alloc (Nat.le_refl _) _
  have hAT : ∀ W, Below w.heap.size w W → Calls Tryz.prog 93 #[.slice X.vA v.length X.vc, .int .i64 r] W fun e w' => e = .returned (.int .i64 z) ∧ Below W.heap.size W w' := fun W hB =>
    (at_any X.vA X.vc v r W (by have := h.vlen; omega) (VecS.vec (show VecS W S X.vA v from RowG.agr h.vec (Agr.below hB)))).mono (by rintro e w' ⟨rfl, rfl⟩; exact ⟨by rw [hz], Below.refl _ _⟩)
  have HAT := Lib.hid hAT
  have HC := Lib.hid (heap_alloc_new w (.cells #[.int .i64 t, .int .i64 r, .int .i64 n, .slice dA u.length dc, .int .i64 ut, .int .i64 ur, .slice oA ops.length oc] 40))
  have hbx := h.below hb0
  have HO := Lib.hid hbx.obj
  have HB := Lib.hid hb0
  show Calls _ _ #[.pointer (some ⟨P, 0, none⟩), .agg #[.int .i64 t, .int .i64 r, .int .i64 n, .slice dA u.length dc, .int .i64 ut, .int .i64 ur, .slice oA ops.length oc]] _ _
  clear hAT h hans hbx hz
  go_enter Tryz.func77, Tryz.ntmps77
  go_upto_region 1 with fail
  generalize hW : w.alloc (.cells #[.int .i64 t, .int .i64 r, .int .i64 n, .slice dA u.length dc, .int .i64 ut, .int .i64 ur, .slice oA ops.length oc] 40) = W at *
  clear hW
  have x3 := cell_regrown (w := W) (a := ⟨P, 3, none⟩) (v := .slice X.vA v.length X.vc) (by rw [cell_of_row _ _ _ _ _ _ HO.out]; rfl)
  have y1 := cell_regrown (w := W) (a := ⟨w.heap.size, 1, none⟩) (v := .int .i64 r) (by rw [cell_of_row _ _ _ _ _ _ HC.out]; rfl)
  have y2 := cell_regrown (w := W) (a := ⟨w.heap.size, 2, none⟩) (v := .int .i64 n) (by rw [cell_of_row _ _ _ _ _ _ HC.out]; rfl)
  have cA := fun d os => Calls.regrown_of (HAT.out (grow (redrawn W d) os) (bx_grow HB.out HB.out.size d os))
  refine wp_region_quiet_below (by kernel_rfl) (by kernel_rfl) ?_
  repeat (any_goals (first | go_big_quiet_step (with_reducible exact cA _ _) | quiet_step (with_reducible exact cA _ _)))
  refine wpQuiet_nil ?_
  intro _ hw'
  obtain ⟨⟨dq, osq⟩, hw''⟩ := hw'
  subst hw''
  have hBq := below_regrown W dq osq
  generalize grow (redrawn W dq) osq = wq at *
  go_wp2
  go_ret
  exact ⟨rfl, HB.out.trans (hBq.mono HB.out.size)⟩
end Go.Proofs.YtalgbcgiiphoaaaGreatDoor
