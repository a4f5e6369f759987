/- The small questions of the reference's box. Conditions: lengths in reach. -/
import Derived.Test.YtalgbcgiiphoaaaGreatDoorRbR
import Derived.Test.YtalgbcgiiphoaaaGreatDoorBxDe
namespace Go.Proofs.YtalgbcgiiphoaaaGreatDoor
open Go.RowKit Go.Lib Go.Sort
set_option linter.unusedVariables false
attribute [local go_sem ↓] Go.wp_at_zero Go.wp_at_succ
set_option maxRecDepth 100000 in
set_option maxHeartbeats 8000000 in
theorem rbready_any {B P : Nat} {S S2 : Nat → Prop} {b : Bx} {X : RbX} {w : World} (h : RbIn B P S b.done b.wait X w) (ho : RbOk b) (g : Grp) (x : GrX) (hG : GrG w S2 (g, x)) (hdl : g.deps.length ≤ 1000) :
    Calls Tryz.prog 53 #[.pointer (some ⟨P, 0, none⟩), .agg (grA g x.dA x.dc x.oA x.oc)] w fun e w' => e = .returned (.bool (readyB b.v g)) ∧ Below w.heap.size w w' := by
  obtain ⟨⟨t, r⟩, n, u, ⟨ut, ur⟩, ops⟩ := g
  obtain ⟨dA, dc, oA, oc⟩ := x
  obtain ⟨ans, hans⟩ : ∃ z, z = readyB b.v ⟨⟨t, r⟩, n, u, ⟨ut, ur⟩, ops⟩ := ⟨_, rfl⟩
  rw [← hans]
  have hb0 : Below w.heap.size w (w.alloc (.cells #[.int .i64 t, .int .i64 r, .int .i64 n, .slice dA u.length dc, .int .i64 ut, .int .i64 ur, .slice oA ops.length oc] 40)) := (Below.refl _ _).alloc (Nat.le_refl _) _
  have hul : u.length ≤ 9223372036854775800 := by have h1 : u.length ≤ 1000 := hdl; omega
  have hVC : ∀ W, Below w.heap.size w W → Calls Tryz.prog 56 #[.pointer (some ⟨P, 0, none⟩)] W fun e w' => ∃ A' c', e = .returned (.slice A' b.v.length c') ∧ VecS w' (fun _ => True) A' b.v ∧ b.v.length ≤ 16 ∧ Below W.heap.size W w' := fun W hB => rbvec_any (h.below hB) ho
  have hCV : ∀ W A' c', Below w.heap.size w W → VecS W (fun _ => True) A' b.v → b.v.length ≤ 16 → Calls Tryz.prog 89 #[.slice A' b.v.length c', .slice dA u.length dc] W fun e w' => e = .returned (.bool ans) ∧ w' = W := fun W A' c' hB hv hl => by
    rw [hans]; exact refcovers_any A' dA c' dc b.v u W (by omega) hul hv.vec (VecS.vec (show VecS W S2 dA u from RowG.agr hG.deps (Agr.below hB)))
  have HVC := Lib.hid hVC
  have HCV := Lib.hid hCV
  have HC := Lib.hid (heap_alloc_new w (.cells #[.int .i64 t, .int .i64 r, .int .i64 n, .slice dA u.length dc, .int .i64 ut, .int .i64 ur, .slice oA ops.length oc] 40))
  have HB := Lib.hid hb0
  show Calls _ _ #[.pointer (some ⟨P, 0, none⟩), .agg #[.int .i64 t, .int .i64 r, .int .i64 n, .slice dA u.length dc, .int .i64 ut, .int .i64 ur, .slice oA ops.length oc]] _ _
  clear hVC hCV hG h ho hans hdl hb0
  go_enter Tryz.func53, Tryz.ntmps53
  go_upto_region 1 with fail
  generalize hW : w.alloc (.cells #[.int .i64 t, .int .i64 r, .int .i64 n, .slice dA u.length dc, .int .i64 ut, .int .i64 ur, .slice oA ops.length oc] 40) = W at *
  clear hW
  have hwW : w.heap.size < W.heap.size := lt_of_block HC.out
  refine wp_region_held (S := fun w' => w'.heap[w.heap.size]? = some (.cells #[.int .i64 t, .int .i64 r, .int .i64 n, .slice dA u.length dc, .int .i64 ut, .int .i64 ur, .slice oA ops.length oc] 40 (0, 0))) (by kernel_rfl) ?_
  try (change wpAnyH _ _ _ _ _ _ _ _ (World.drew _))
  refine wpAnyH_take (i := 0) (v := .pointer (some ⟨P, 0, none⟩)) rfl (by kernel_rfl) (by kernel_rfl) (by kernel_rfl) (fun _ _ _ h => h) (Or.inl ⟨by rfl, fun W' hW' => by go_simp⟩) ((show W.drew.heap[w.heap.size]? = _ from HC.out)) ?_
  go_simp
  refine wpAnyH_take (i := 2) (v := .pointer (some ⟨w.heap.size, 3, none⟩)) rfl (by kernel_rfl) (by kernel_rfl) (by kernel_rfl) (fun _ _ _ h => h) (Or.inl ⟨by rfl, fun W' hW' => by go_simp⟩) ((show W.drew.heap[w.heap.size]? = _ from HC.out)) ?_
  go_simp
  refine wpAnyH_take (i := 3) (v := .slice dA u.length dc) rfl (by kernel_rfl) (by kernel_rfl) (by kernel_rfl) (fun _ _ _ h => h) (Or.inl ⟨by rfl, fun W' hW' => by (have c_ : W'.cell? ⟨w.heap.size, 3, none⟩ = some (.slice dA u.length dc) := (by rw [cell_of_row _ _ _ _ _ _ hW']; rfl); go_simp)⟩) ((show W.drew.heap[w.heap.size]? = _ from HC.out)) ?_
  go_simp
  refine wpAnyH_ready (rs := [1]) (by kernel_rfl) (by simp) ?_
  refine AllReadyH.cons rfl (fun K hK => ?_) AllReadyH.nil
  go_simp
  have hbd : Below w.heap.size w W.drew := HB.out.trans ((show Below W.heap.size W W.drew from ⟨rfl, rfl, rfl, Nat.le_refl _, fun _ _ => rfl⟩).mono HB.out.size)
  refine (HVC.out W.drew hbd).mono ?_
  rintro e w1 ⟨A1, c1, rfl, hv1, hl1, hB1⟩
  have HC1 := Lib.hid ((hB1.block w.heap.size hwW).trans (show W.drew.heap[w.heap.size]? = _ from HC.out))
  have HB1 := Lib.hid (hbd.trans (hB1.mono hbd.size))
  have HV1 := Lib.hid hv1
  clear hB1 hv1
  go_simp
  refine hK.out _ _ (HC1.out) (fun _ => ?_)
  clear hK K
  refine wpAnyH_ready (rs := [4]) (by kernel_rfl) (by simp) ?_
  refine AllReadyH.cons rfl (fun K hK => ?_) AllReadyH.nil
  go_simp
  refine (HCV.out w1 A1 c1 HB1.out HV1.out hl1).mono ?_
  rintro e w2 ⟨rfl, rfl⟩
  go_simp
  refine hK.out _ _ (HC1.out) (fun _ => ?_)
  clear hK K
  refine wpAnyH_take (i := 5) (v := .bool ans) rfl (by kernel_rfl) (by kernel_rfl) (by kernel_rfl) (fun _ _ _ h => h) (Or.inl ⟨by rfl, fun W' hW' => by go_simp⟩) HC1.out ?_
  go_simp
  refine wpAnyH_done (by kernel_rfl) ?_ _
  go_simp
  go_wp2
  go_ret
  exact ⟨rfl, HB1.out⟩
end Go.Proofs.YtalgbcgiiphoaaaGreatDoor
