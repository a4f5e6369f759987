/- A box delivers a group. Conditions: lengths in reach. -/
import Derived.Test.YtalgbcgiiphoaaaGreatDoorBxKn2
import Derived.Deep.AppendLies
namespace Go.Proofs.YtalgbcgiiphoaaaGreatDoor
open Go.RowKit Go.Lib Go.Sort
set_option linter.unusedVariables false
attribute [local go_sem ↓] Go.wp_at_zero Go.wp_at_succ
theorem withV_len (v : List Int) (r n : Int) (h : v.length ≤ 16) (hr : r ≤ 16) : (withV v r n).length ≤ 16 := by
  have := pv_len (setV v r n)
  have h2 := setV_len v r n
  unfold withV
  omega
set_option maxRecDepth 100000 in
set_option maxHeartbeats 16000000 in
theorem bxdeliver_any {B P : Nat} {S : Nat → Prop} {dn mp wt : List Grp} {v : List Int} {X : BoxX} {w : World} (h : BoxIn B P S dn mp wt v X w) (g : Grp) (x : GrX) (hG : GrG w S (g, x)) (hg : g.s.right = true) (hlen : dn.length ≤ 1000000) (hmlen : mp.length ≤ 1000000) :
    Calls Tryz.prog 46 #[.pointer (some ⟨P, 0, none⟩), .agg (grA g x.dA x.dc x.oA x.oc)] w fun e w' => e = .returned (.tuple #[]) ∧ ∃ X' S', BoxIn B P S' (dn ++ [g]) (mp ++ [g]) wt (withV v g.s.r g.n) X' w' ∧ BTo P X S w X' S' w' := by
  obtain ⟨i0, hi, hz0, hz1, hz2⟩ := info_parts infogrC_
  have hb0 : Below w.heap.size w (w.alloc (.cells (grA g x.dA x.dc x.oA x.oc) 40)) := (Below.refl _ _).alloc (Nat.le_refl _) _
  have hpp : (g, x).1 = g := rfl
  have HX0 := Lib.hid (h.below hb0)
  have HG0 := Lib.hid (hG.agr (Agr.below hb0))
  have HTO := Lib.hid (BTo.of_below (P := P) (X := X) (S := S) hb0)
  have HGI := Lib.hid (right_i63 hg)
  have hdl : X.L.length ≤ 1000000 := by rw [h.dlen]; exact hlen
  have hml : mp.length < maxLen := by unfold maxLen; omega
  obtain ⟨⟨t, r⟩, n, u, ⟨ut, ur⟩, ops⟩ := g
  obtain ⟨dA, dc, oA, oc⟩ := x
  have hr1 : 1 ≤ r ∧ r ≤ 16 := right_r hg
  obtain ⟨q, hq⟩ : ∃ q : Nat, r = (q : Int) + 1 := ⟨(r - 1).toNat, by omega⟩
  have hq16 : q < 16 := by omega
  have HQ := Lib.hid hq
  clear hq hr1
  show Calls _ _ #[.pointer (some ⟨P, 0, none⟩), .agg #[.int .i64 t, .int .i64 r, .int .i64 n, .slice dA u.length dc, .int .i64 ut, .int .i64 ur, .slice oA ops.length oc]] _ _
  have HC := Lib.hid (heap_alloc_new w (.cells #[.int .i64 t, .int .i64 r, .int .i64 n, .slice dA u.length dc, .int .i64 ut, .int .i64 ur, .slice oA ops.length oc] 40))
  have hgb := h.own_lt (k := P) (.inl rfl)
  have hgm := h.own_lt (k := X.bm) (.inr (.inl rfl))
  have HOL := Lib.hid (fun k hk => (h.own_lt (k := k) hk).2)
  clear h hb0 hG hg hlen
  go_enter Tryz.func46, Tryz.ntmps46
  go_upto_region 1 with fail
  generalize hW : w.alloc (.cells (grA ⟨⟨t, r⟩, n, u, ⟨ut, ur⟩, ops⟩ (GrX.dA ⟨dA, dc, oA, oc⟩) (GrX.dc ⟨dA, dc, oA, oc⟩) (GrX.oA ⟨dA, dc, oA, oc⟩) (GrX.oc ⟨dA, dc, oA, oc⟩)) 40) = W at HX0 HG0 HTO
  have hW2 : w.alloc (.cells #[.int .i64 t, .int .i64 r, .int .i64 n, .slice dA u.length dc, .int .i64 ut, .int .i64 ur, .slice oA ops.length oc] 40) = W := hW
  try rw [hW2]
  have HC1 := Lib.hid (show W.heap[w.heap.size]? = some (.cells #[.int .i64 t, .int .i64 r, .int .i64 n, .slice dA u.length dc, .int .i64 ut, .int .i64 ur, .slice oA ops.length oc] 40 (0, 0)) by rw [← hW2]; exact HC.out)
  clear hW hW2 HC
  have hwW : w.heap.size < W.heap.size := lt_of_block HC1.out
  have d0 : W.drew.cell? ⟨P, 0, none⟩ = some X.dv := by show W.cell? _ = _; rw [HX0.out.cell]; rfl
  refine wp_region_held (S := fun w' => w'.heap[w.heap.size]? = some (.cells #[.int .i64 t, .int .i64 r, .int .i64 n, .slice dA u.length dc, .int .i64 ut, .int .i64 ur, .slice oA ops.length oc] 40 (0, 0))) (by kernel_rfl) ?_
  try (change wpAnyH _ _ _ _ _ _ _ _ (World.drew _))
  refine wpAnyH_take (i := 0) (v := .pointer (some ⟨P, 0, none⟩)) rfl (by kernel_rfl) (by kernel_rfl) (by kernel_rfl) (fun _ _ _ h => h) (Or.inl ⟨by rfl, fun W' hW' => by go_simp⟩) ((show W.drew.heap[w.heap.size]? = _ from HC1.out)) ?_
  go_simp
  refine wpAnyH_take (i := 1) (v := .pointer (some ⟨P, 0, none⟩)) rfl (by kernel_rfl) (by kernel_rfl) (by kernel_rfl) (fun _ _ _ h => h) (Or.inl ⟨by rfl, fun W' hW' => by go_simp⟩) ((show W.drew.heap[w.heap.size]? = _ from HC1.out)) ?_
  go_simp
  refine wpAnyH_take (i := 2) (v := .pointer (some ⟨P, 0, none⟩)) rfl (by kernel_rfl) (by kernel_rfl) (by kernel_rfl) (fun _ _ _ h => h) (Or.inl ⟨by rfl, fun W' hW' => by go_simp⟩) ((show W.drew.heap[w.heap.size]? = _ from HC1.out)) ?_
  go_simp
  refine wpAnyH_take (i := 3) (v := .pointer (some ⟨P, 0, none⟩)) rfl (by kernel_rfl) (by kernel_rfl) (by kernel_rfl) (fun _ _ _ h => h) (Or.inl ⟨by rfl, fun W' hW' => by go_simp⟩) ((show W.drew.heap[w.heap.size]? = _ from HC1.out)) ?_
  go_simp
  refine wpAnyH_take (i := 5) (v := .agg #[.int .i64 t, .int .i64 r, .int .i64 n, .slice dA u.length dc, .int .i64 ut, .int .i64 ur, .slice oA ops.length oc]) rfl (by kernel_rfl) (by kernel_rfl) (by kernel_rfl) (fun _ _ _ h => h) (Or.inl ⟨by rfl, fun W' hW' => by (have c0 : W'.cell? ⟨w.heap.size, 0, none⟩ = some (.int .i64 t) := (by rw [cell_of_row _ _ _ _ _ _ hW']; rfl); have c1 : W'.cell? ⟨w.heap.size, 1, none⟩ = some (.int .i64 r) := (by rw [cell_of_row _ _ _ _ _ _ hW']; rfl); have c2 : W'.cell? ⟨w.heap.size, 2, none⟩ = some (.int .i64 n) := (by rw [cell_of_row _ _ _ _ _ _ hW']; rfl); have c3 : W'.cell? ⟨w.heap.size, 3, none⟩ = some (.slice dA u.length dc) := (by rw [cell_of_row _ _ _ _ _ _ hW']; rfl); have c4 : W'.cell? ⟨w.heap.size, 4, none⟩ = some (.int .i64 ut) := (by rw [cell_of_row _ _ _ _ _ _ hW']; rfl); have c5 : W'.cell? ⟨w.heap.size, 5, none⟩ = some (.int .i64 ur) := (by rw [cell_of_row _ _ _ _ _ _ hW']; rfl); have c6 : W'.cell? ⟨w.heap.size, 6, none⟩ = some (.slice oA ops.length oc) := (by rw [cell_of_row _ _ _ _ _ _ hW']; rfl); go_simp)⟩) ((show W.drew.heap[w.heap.size]? = _ from HC1.out)) ?_
  go_simp
  have HBA := Lib.hid (show Below W.heap.size W (W.alloc (.cells #[.int .i64 t, .int .i64 r, .int .i64 n, .slice dA u.length dc, .int .i64 ut, .int .i64 ur, .slice oA ops.length oc] 40)).drew from ⟨rfl, rfl, rfl, by simp, fun k hk => Below.heap_alloc _ _ _ hk⟩)
  have HCA := Lib.hid (show (W.alloc (.cells #[.int .i64 t, .int .i64 r, .int .i64 n, .slice dA u.length dc, .int .i64 ut, .int .i64 ur, .slice oA ops.length oc] 40)).drew.heap[w.heap.size]? = _ from (Below.heap_alloc W (.cells #[.int .i64 t, .int .i64 r, .int .i64 n, .slice dA u.length dc, .int .i64 ut, .int .i64 ur, .slice oA ops.length oc] 40) _ hwW).trans HC1.out)
  have HDN := Lib.hid (HX0.out.done.alloc (.cells #[.int .i64 t, .int .i64 r, .int .i64 n, .slice dA u.length dc, .int .i64 ut, .int .i64 ur, .slice oA ops.length oc] 40))
  have HNC := Lib.hid (fun (j : Nat) (y : Value) (h : [.int .i64 t, .int .i64 r, .int .i64 n, .slice dA u.length dc, .int .i64 ut, .int .i64 ur, .slice oA ops.length oc][j]? = some y) => cellsN W [.int .i64 t, .int .i64 r, .int .i64 n, .slice dA u.length dc, .int .i64 ut, .int .i64 ur, .slice oA ops.length oc] 40 j y h)
  have hsA : (W.alloc (.cells #[.int .i64 t, .int .i64 r, .int .i64 n, .slice dA u.length dc, .int .i64 ut, .int .i64 ur, .slice oA ops.length oc] 40)).drew.heap.size = W.heap.size + 1 := by show (W.alloc _).heap.size = _; simp
  have dA0 : (W.alloc (.cells #[.int .i64 t, .int .i64 r, .int .i64 n, .slice dA u.length dc, .int .i64 ut, .int .i64 ur, .slice oA ops.length oc] 40)).drew.cell? ⟨P, 0, none⟩ = some X.dv := by show (W.alloc _).cell? _ = _; rw [cell_of_row _ _ _ _ _ _ ((Below.heap_alloc W (.cells #[.int .i64 t, .int .i64 r, .int .i64 n, .slice dA u.length dc, .int .i64 ut, .int .i64 ur, .slice oA ops.length oc] 40) P (by omega)).trans HX0.out.obj)]; rfl
  refine wpAnyH_ready (rs := [4, 6]) (by kernel_rfl) (by simp) ?_
  refine AllReadyH.cons rfl (fun K hK => ?_) (AllReadyH.cons rfl (fun K hK => ?_) AllReadyH.nil)
  focus
    go_simp
    refine hK.out _ _ ((show W.drew.heap[w.heap.size]? = _ from HC1.out)) (fun _ => ?_)
    clear hK K
    refine wpAnyH_ready (rs := [6]) (by kernel_rfl) (by simp) ?_
    refine AllReadyH.cons rfl (fun K hK => ?_) AllReadyH.nil
    go_simp
    refine hK.out _ _ (HCA.out) (fun _ => ?_)
    clear hK K
  rotate_left
  focus
    go_simp
    refine hK.out _ _ (HCA.out) (fun _ => ?_)
    clear hK K
    refine wpAnyH_ready (rs := [4]) (by kernel_rfl) (by simp) ?_
    refine AllReadyH.cons rfl (fun K hK => ?_) AllReadyH.nil
    go_simp
    refine hK.out _ _ (HCA.out) (fun _ => ?_)
    clear hK K
  all_goals
    refine wpAnyH_ready (rs := [7]) (by kernel_rfl) (by simp) ?_
    refine AllReadyH.cons rfl (fun K hK => ?_) AllReadyH.nil
    refine step_append_lies _ (by rfl) _ _ 23 (by rfl) B 40 i0 (.agg #[.int .i64 0, .int .i64 0, .int .i64 0, .slice none 0 0, .int .i64 0, .int .i64 0, .slice none 0 0]) 7 88 Tryz.underlying23 hi hz0 hz1 hz2 rfl (by decide) X.dv X.L.length _ (by rfl) (by exact HDN.out) ⟨W.heap.size, 0, none⟩ 1 1 [.int .i64 t, .int .i64 r, .int .i64 n, .slice dA u.length dc, .int .i64 ut, .int .i64 ur, .slice oA ops.length oc] (by rfl) rfl (by exact HNC.out) (by exact ocgrC_ (⟨⟨t, r⟩, n, u, ⟨ut, ur⟩, ops⟩, ⟨dA, dc, oA, oc⟩)) (by decide) (by unfold maxLen; omega) (by omega) (by rw [hsA]; omega) (W.heap.size + 1) hsA ?_
    intro gq cap w3 hown1 hgrow hat hlt3
    have hgne : some w.heap.size ≠ X.dv.ownBlock := fun e => by have := HOL.out _ (.inr (.inr (.inl e.symm))); omega
    have HC3 := Lib.hid ((hgrow.block w.heap.size (by rw [hsA]; omega) hgne).trans HCA.out)
    have hPd : some P ≠ X.dv.ownBlock := fun e => HX0.out.dP e.symm
    have d3 : w3.cell? ⟨P, 0, none⟩ = some X.dv := by rw [cell_of_row _ _ _ _ _ _ ((hgrow.block P (by rw [hsA]; omega) hPd).trans ((HBA.out.block P (by omega)).trans HX0.out.obj))]; rfl
    have f3 : w3.frozen? ⟨P, 0, none⟩ = false := frozen_of_row _ _ _ _ _ ((hgrow.block P (by rw [hsA]; omega) hPd).trans ((HBA.out.block P (by omega)).trans HX0.out.obj))
    have HPUT := Lib.hid (HX0.out.dput (dv' := .slice (some ⟨gq, 0, none⟩) (X.L.length + 1) cap) (p := (⟨⟨t, r⟩, n, u, ⟨ut, ur⟩, ops⟩, ⟨dA, dc, oA, oc⟩)) HBA.out hgrow hown1 (hat.elim (fun e => .inl (by rw [e]; rfl)) (fun e => .inr (by rw [e, hsA]; rfl))) HG0.out)
    clear hown1 hgrow hat hgne hPd hlt3 HDN HNC
    refine hK.out _ _ (HC3.out) (fun _ => ?_)
    clear hK K
    refine wpAnyH_take (i := 8) (v := .pointer (some ⟨P, 0, none⟩)) rfl (by kernel_rfl) (by kernel_rfl) (by kernel_rfl) (fun _ _ _ h => h) (Or.inl ⟨by rfl, fun W' hW' => by go_simp⟩) (HC3.out) ?_
    go_simp
    refine wpAnyH_take (i := 9) (v := .pointer (some ⟨P, 0, none⟩)) rfl (by kernel_rfl) (by kernel_rfl) (by kernel_rfl) (fun _ _ _ h => h) (Or.inl ⟨by rfl, fun W' hW' => by go_simp⟩) (HC3.out) ?_
    go_simp
    refine wpAnyH_ready (rs := [10]) (by kernel_rfl) (by simp) ?_
    refine AllReadyH.cons rfl (fun K hK => ?_) AllReadyH.nil
    go_simp
    have HC4 := Lib.hid ((Below.heap_setCell w3 ⟨P, 0, none⟩ (.slice (some ⟨gq, 0, none⟩) (X.L.length + 1) cap) w.heap.size (by show w.heap.size ≠ P; omega)).trans HC3.out)
    refine hK.out _ _ (HC4.out) (fun _ => ?_)
    clear hK K
    refine wpAnyH_done (by kernel_rfl) ?_ _
    go_simp
    obtain ⟨hX4, hT4⟩ := HPUT.out
    generalize hV : w3.setCell ⟨P, 0, none⟩ (.slice (some ⟨gq, 0, none⟩) (X.L.length + 1) cap) = V at *
    clear hV d3 f3 HPUT HC3 HBA HCA d0
    generalize hXe : ({ X with dv := .slice (some ⟨gq, 0, none⟩) (X.L.length + 1) cap, L := X.L ++ [(⟨⟨t, r⟩, n, u, ⟨ut, ur⟩, ops⟩, ⟨dA, dc, oA, oc⟩)] } : BoxX) = X1 at *
    have HBM := Lib.hid (show X1.bm = X.bm by rw [← hXe])
    clear hXe
    have HX1 := Lib.hid hX4
    have HT1 := Lib.hid (HTO.out.trans hT4)
    clear hX4 hT4
    have hP1 : P < V.heap.size := lt_of_block HX1.out.obj
    go_upto_region 2 with fail
    have hbd : Below V.heap.size V V.drew := ⟨rfl, rfl, rfl, Nat.le_refl _, fun _ _ => rfl⟩
    have HXd := Lib.hid (HX1.out.below hbd)
    obtain ⟨w5, hrun, hown5, hturn5⟩ := HXd.out.map.store law_st Tryz.underlying73 hml (key_st (⟨t, r⟩ : Gst) HGI.out.1 HGI.out.2) (val := .agg #[]) unitElem_mk
    have hg5 := hturn5.grown
    have HM5 := Lib.hid (HXd.out.mput (g := ⟨⟨t, r⟩, n, u, ⟨ut, ur⟩, ops⟩) hg5 hown5)
    have HS2 := Lib.hid (show V.drew.heap[w.heap.size]? = some (.cells #[.int .i64 t, .int .i64 r, .int .i64 n, .slice dA u.length dc, .int .i64 ut, .int .i64 ur, .slice oA ops.length oc] 40 (0, 0)) ∧ V.drew.heap[P]? = some (.cells #[X1.dv, X1.wv, .map (some X1.bm), .slice X1.vA v.length X1.vc] 75 (0, 0)) from ⟨HC4.out, HX1.out.obj⟩)
    have HC5 := Lib.hid ((hg5.block w.heap.size (lt_of_block HS2.out.1) (fun e => by injection e with e; rw [HBM.out] at e; omega)).trans HS2.out.1)
    have HO5 := Lib.hid ((hg5.block P (lt_of_block HS2.out.2) (fun e => by injection e with e; exact HX1.out.pm e)).trans HS2.out.2)
    clear hown5 hturn5 hg5
    refine wp_region_held (S := fun w' => w'.heap[w.heap.size]? = some (.cells #[.int .i64 t, .int .i64 r, .int .i64 n, .slice dA u.length dc, .int .i64 ut, .int .i64 ur, .slice oA ops.length oc] 40 (0, 0)) ∧ w'.heap[P]? = some (.cells #[X1.dv, X1.wv, .map (some X1.bm), .slice X1.vA v.length X1.vc] 75 (0, 0))) (by kernel_rfl) ?_
    try (change wpAnyH _ _ _ _ _ _ _ _ (World.drew _))
    refine wpAnyH_take (i := 0) (v := .pointer (some ⟨P, 0, none⟩)) rfl (by kernel_rfl) (by kernel_rfl) (by kernel_rfl) (fun _ _ _ h => h) (Or.inl ⟨by rfl, fun W' hW' => by go_simp⟩) (HS2.out) ?_
    go_simp
    refine wpAnyH_take (i := 1) (v := .pointer (some ⟨P, 0, none⟩)) rfl (by kernel_rfl) (by kernel_rfl) (by kernel_rfl) (fun _ _ _ h => h) (Or.inl ⟨by rfl, fun W' hW' => by go_simp⟩) (HS2.out) ?_
    go_simp
    refine wpAnyH_take (i := 2) (v := .pointer (some ⟨P, 2, none⟩)) rfl (by kernel_rfl) (by kernel_rfl) (by kernel_rfl) (fun _ _ _ h => h) (Or.inl ⟨by rfl, fun W' hW' => by go_simp⟩) (HS2.out) ?_
    go_simp
    refine wpAnyH_take (i := 3) (v := .map (some X1.bm)) rfl (by kernel_rfl) (by kernel_rfl) (by kernel_rfl) (fun _ _ _ h => h) (Or.inl ⟨by rfl, fun W' hW' => by (have c_ : W'.cell? ⟨P, 2, none⟩ = some (.map (some X1.bm)) := (by rw [cell_of_row _ _ _ _ _ _ hW'.2]; rfl); go_simp)⟩) (HS2.out) ?_
    go_simp
    refine wpAnyH_take (i := 4) (v := .pointer (some ⟨w.heap.size, 0, none⟩)) rfl (by kernel_rfl) (by kernel_rfl) (by kernel_rfl) (fun _ _ _ h => h) (Or.inl ⟨by rfl, fun W' hW' => by go_simp⟩) (HS2.out) ?_
    go_simp
    refine wpAnyH_take (i := 5) (v := .agg #[.int .i64 t, .int .i64 r]) rfl (by kernel_rfl) (by kernel_rfl) (by kernel_rfl) (fun _ _ _ h => h) (Or.inl ⟨by rfl, fun W' hW' => by (have c0 : W'.cell? ⟨w.heap.size, 0, none⟩ = some (.int .i64 t) := (by rw [cell_of_row _ _ _ _ _ _ hW'.1]; rfl); have c1 : W'.cell? ⟨w.heap.size, 1, none⟩ = some (.int .i64 r) := (by rw [cell_of_row _ _ _ _ _ _ hW'.1]; rfl); go_simp)⟩) (HS2.out) ?_
    go_simp
    refine wpAnyH_take (i := 6) (v := .agg #[]) rfl (by kernel_rfl) (by kernel_rfl) (by kernel_rfl) (fun _ _ _ h => h) (Or.inl ⟨by rfl, fun W' hW' => by go_simp⟩) (HS2.out) ?_
    go_simp
    refine wpAnyH_ready (rs := [7]) (by kernel_rfl) (by simp) ?_
    refine AllReadyH.cons rfl (fun K hK => ?_) AllReadyH.nil
    go_simp
    refine hK.out _ _ (⟨HC5.out, HO5.out⟩) (fun _ => ?_)
    clear hK K
    refine wpAnyH_done (by kernel_rfl) ?_ _
    go_simp
    obtain ⟨hX6, hT6⟩ := HM5.out
    have HX6 := Lib.hid hX6
    have HT6 := Lib.hid (HT1.out.trans ((BTo.of_below hbd).trans hT6))
    clear hX6 hT6 HM5 hrun HXd HS2 hbd
    go_upto_region 3 with fail
    have hbd : Below w5.heap.size w5 w5.drew := ⟨rfl, rfl, rfl, Nat.le_refl _, fun _ _ => rfl⟩
    have HX7 := Lib.hid (HX6.out.below hbd)
    have HT7 := Lib.hid (HT6.out.trans (BTo.of_below hbd))
    have HWI := Lib.hid (with_any X1.vA X1.vc v q n w5.drew (by have := HX6.out.vlen; omega) hq16 (VecS.vec HX7.out.vec))
    rw [← HQ.out] at HWI
    have d7 : w5.drew.cell? ⟨P, 3, none⟩ = some (.slice X1.vA v.length X1.vc) := by rw [HX7.out.cell]; rfl
    refine wp_region_held (S := fun w' => w'.heap[w.heap.size]? = some (.cells #[.int .i64 t, .int .i64 r, .int .i64 n, .slice dA u.length dc, .int .i64 ut, .int .i64 ur, .slice oA ops.length oc] 40 (0, 0))) (by kernel_rfl) ?_
    try (change wpAnyH _ _ _ _ _ _ _ _ (World.drew _))
    refine wpAnyH_take (i := 0) (v := .pointer (some ⟨P, 0, none⟩)) rfl (by kernel_rfl) (by kernel_rfl) (by kernel_rfl) (fun _ _ _ h => h) (Or.inl ⟨by rfl, fun W' hW' => by go_simp⟩) ((show w5.drew.heap[w.heap.size]? = _ from HC5.out)) ?_
    go_simp
    refine wpAnyH_take (i := 1) (v := .pointer (some ⟨P, 0, none⟩)) rfl (by kernel_rfl) (by kernel_rfl) (by kernel_rfl) (fun _ _ _ h => h) (Or.inl ⟨by rfl, fun W' hW' => by go_simp⟩) ((show w5.drew.heap[w.heap.size]? = _ from HC5.out)) ?_
    go_simp
    refine wpAnyH_take (i := 2) (v := .pointer (some ⟨P, 0, none⟩)) rfl (by kernel_rfl) (by kernel_rfl) (by kernel_rfl) (fun _ _ _ h => h) (Or.inl ⟨by rfl, fun W' hW' => by go_simp⟩) ((show w5.drew.heap[w.heap.size]? = _ from HC5.out)) ?_
    go_simp
    refine wpAnyH_take (i := 3) (v := .pointer (some ⟨P, 3, none⟩)) rfl (by kernel_rfl) (by kernel_rfl) (by kernel_rfl) (fun _ _ _ h => h) (Or.inl ⟨by rfl, fun W' hW' => by go_simp⟩) ((show w5.drew.heap[w.heap.size]? = _ from HC5.out)) ?_
    go_simp
    refine wpAnyH_take (i := 5) (v := .pointer (some ⟨w.heap.size, 0, none⟩)) rfl (by kernel_rfl) (by kernel_rfl) (by kernel_rfl) (fun _ _ _ h => h) (Or.inl ⟨by rfl, fun W' hW' => by go_simp⟩) ((show w5.drew.heap[w.heap.size]? = _ from HC5.out)) ?_
    go_simp
    refine wpAnyH_take (i := 6) (v := .pointer (some ⟨w.heap.size, 1, none⟩)) rfl (by kernel_rfl) (by kernel_rfl) (by kernel_rfl) (fun _ _ _ h => h) (Or.inl ⟨by rfl, fun W' hW' => by go_simp⟩) ((show w5.drew.heap[w.heap.size]? = _ from HC5.out)) ?_
    go_simp
    refine wpAnyH_take (i := 7) (v := .int .i64 r) rfl (by kernel_rfl) (by kernel_rfl) (by kernel_rfl) (fun _ _ _ h => h) (Or.inl ⟨by rfl, fun W' hW' => by (have c_ : W'.cell? ⟨w.heap.size, 1, none⟩ = some (.int .i64 r) := (by rw [cell_of_row _ _ _ _ _ _ hW']; rfl); go_simp)⟩) ((show w5.drew.heap[w.heap.size]? = _ from HC5.out)) ?_
    go_simp
    refine wpAnyH_take (i := 8) (v := .pointer (some ⟨w.heap.size, 2, none⟩)) rfl (by kernel_rfl) (by kernel_rfl) (by kernel_rfl) (fun _ _ _ h => h) (Or.inl ⟨by rfl, fun W' hW' => by go_simp⟩) ((show w5.drew.heap[w.heap.size]? = _ from HC5.out)) ?_
    go_simp
    refine wpAnyH_take (i := 9) (v := .int .i64 n) rfl (by kernel_rfl) (by kernel_rfl) (by kernel_rfl) (fun _ _ _ h => h) (Or.inl ⟨by rfl, fun W' hW' => by (have c_ : W'.cell? ⟨w.heap.size, 2, none⟩ = some (.int .i64 n) := (by rw [cell_of_row _ _ _ _ _ _ hW']; rfl); go_simp)⟩) ((show w5.drew.heap[w.heap.size]? = _ from HC5.out)) ?_
    go_simp
    refine wpAnyH_ready (rs := [4]) (by kernel_rfl) (by simp) ?_
    refine AllReadyH.cons rfl (fun K hK => ?_) AllReadyH.nil
    go_simp
    refine hK.out _ _ ((show w5.drew.heap[w.heap.size]? = _ from HC5.out)) (fun _ => ?_)
    clear hK K
    refine wpAnyH_ready (rs := [10]) (by kernel_rfl) (by simp) ?_
    refine AllReadyH.cons rfl (fun K hK => ?_) AllReadyH.nil
    go_simp
    refine HWI.out.mono ?_
    rintro e w8 ⟨hB8, A8, c8, rfl, hv8, hc8, hm8⟩
    have HC8 := Lib.hid ((hB8.block w.heap.size (lt_of_block HC5.out)).trans (show w5.drew.heap[w.heap.size]? = _ from HC5.out))
    have HVP := Lib.hid (HX7.out.vput (u := withV v r n) hB8 hv8 hc8 hm8 (withV_len _ _ _ HX6.out.vlen (by rw [HQ.out]; omega)))
    have d8 : w8.cell? ⟨P, 3, none⟩ = some (.slice X1.vA v.length X1.vc) := by rw [cell_of_row _ _ _ _ _ _ ((hB8.block P (lt_of_block HX7.out.obj)).trans HX7.out.obj)]; rfl
    have f8 : w8.frozen? ⟨P, 3, none⟩ = false := frozen_of_row _ _ _ _ _ ((hB8.block P (lt_of_block HX7.out.obj)).trans HX7.out.obj)
    clear hB8 hv8 hc8 hm8
    go_simp
    refine hK.out _ _ (HC8.out) (fun _ => ?_)
    clear hK K
    refine wpAnyH_take (i := 11) (v := .tuple #[.slice A8 (withV v r n).length c8, .int .i64 0]) rfl (by kernel_rfl) (by kernel_rfl) (by kernel_rfl) (fun _ _ _ h => h) (Or.inl ⟨by rfl, fun W' hW' => by go_simp⟩) (HC8.out) ?_
    go_simp
    refine wpAnyH_take (i := 12) (v := .slice A8 (withV v r n).length c8) rfl (by kernel_rfl) (by kernel_rfl) (by kernel_rfl) (fun _ _ _ h => h) (Or.inl ⟨by rfl, fun W' hW' => by go_simp⟩) (HC8.out) ?_
    go_simp
    refine wpAnyH_take (i := 13) (v := .int .i64 0) rfl (by kernel_rfl) (by kernel_rfl) (by kernel_rfl) (fun _ _ _ h => h) (Or.inl ⟨by rfl, fun W' hW' => by go_simp⟩) (HC8.out) ?_
    go_simp
    refine wpAnyH_take (i := 14) (v := .pointer (some ⟨P, 0, none⟩)) rfl (by kernel_rfl) (by kernel_rfl) (by kernel_rfl) (fun _ _ _ h => h) (Or.inl ⟨by rfl, fun W' hW' => by go_simp⟩) (HC8.out) ?_
    go_simp
    refine wpAnyH_take (i := 15) (v := .pointer (some ⟨P, 3, none⟩)) rfl (by kernel_rfl) (by kernel_rfl) (by kernel_rfl) (fun _ _ _ h => h) (Or.inl ⟨by rfl, fun W' hW' => by go_simp⟩) (HC8.out) ?_
    go_simp
    refine wpAnyH_ready (rs := [16]) (by kernel_rfl) (by simp) ?_
    refine AllReadyH.cons rfl (fun K hK => ?_) AllReadyH.nil
    go_simp
    have HC9 := Lib.hid ((Below.heap_setCell w8 ⟨P, 3, none⟩ (.slice A8 (withV v r n).length c8) w.heap.size (by show w.heap.size ≠ P; omega)).trans HC8.out)
    refine hK.out _ _ (HC9.out) (fun _ => ?_)
    clear hK K
    refine wpAnyH_done (by kernel_rfl) ?_ _
    go_simp
    obtain ⟨hX9, hT9⟩ := HVP.out
    go_wp2
    go_end0
    exact ⟨rfl, _, _, hX9, HT7.out.trans hT9⟩
end Go.Proofs.YtalgbcgiiphoaaaGreatDoor
