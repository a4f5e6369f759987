/- Does a box know a group? Conditions: lengths in reach. -/
import Derived.Test.YtalgbcgiiphoaaaGreatDoorBxKn
import Derived.OrdersHeld
import Derived.Deep.RegionHeld3
namespace Go.Proofs.YtalgbcgiiphoaaaGreatDoor
open Go.RowKit Go.Lib Go.Sort
set_option linter.unusedVariables false
attribute [local go_sem ↓] Go.wp_at_zero Go.wp_at_succ
theorem zeroU (w : World) : (zeroValue 123).run Tryz.prog w = .ok (.agg #[]) w := by kernel_rfl
def knB (mp wt : List Grp) (v : List Int) (g : Grp) : Bool := mp.any (fun d => d.s.eqb g.s) || oldB v g || wt.any (fun a => clashB a g)
set_option maxRecDepth 100000 in
set_option maxHeartbeats 8000000 in
theorem bxknown_any {B P : Nat} {S S2 : Nat → Prop} {dn mp wt : List Grp} {v : List Int} {X : BoxX} {w : World} (h : BoxIn B P S dn mp wt v X w) (g : Grp) (x : GrX) (hmp : ∀ d ∈ mp, d.s.right = true) (hg : g.s.right = true) (hwl : wt.length ≤ 1000000) :
    Calls Tryz.prog 44 #[.pointer (some ⟨P, 0, none⟩), .agg (grA g x.dA x.dc x.oA x.oc)] w fun e w' => e = .returned (.bool (knB mp wt v g)) ∧ Below w.heap.size w w' := by
  obtain ⟨ans, hans⟩ : ∃ b, b = knB mp wt v g := ⟨_, rfl⟩
  rw [← hans]
  obtain ⟨b1, h1⟩ : ∃ b, b = mp.any (fun d => d.s.eqb g.s) := ⟨_, rfl⟩
  obtain ⟨b2, h2⟩ : ∃ b, b = oldB v g := ⟨_, rfl⟩
  obtain ⟨b3, h3⟩ : ∃ b, b = wt.any (fun a => clashB a g) := ⟨_, rfl⟩
  have HANS := Lib.hid (show ans = (b1 || b2 || b3) by rw [hans, h1, h2, h3]; rfl)
  have hb0 : Below w.heap.size w (w.alloc (.cells (grA g x.dA x.dc x.oA x.oc) 40)) := (Below.refl _ _).alloc (Nat.le_refl _) _
  have HOLD := Lib.hid (show ∀ W, Below w.heap.size w W → Calls Tryz.prog 77 #[.pointer (some ⟨P, 0, none⟩), .agg (grA g x.dA x.dc x.oA x.oc)] W fun e w' => e = .returned (.bool b2) ∧ Below W.heap.size W w' from fun W hB => by rw [h2]; exact bxold_any (S2 := S) (h.below hB) g x)
  obtain ⟨wA, wc, hwv⟩ := row_slice h.wait
  have HRW := Lib.hid (show ∀ W, Below w.heap.size w W → RowGr W wA X.M from fun W hB => RowGr.own (by have := (h.below hB).wait; rw [hwv] at this; exact this))
  have HCON := Lib.hid (show ∀ W, Below w.heap.size w W → W.heap[w.heap.size]? = some (.cells (grA g x.dA x.dc x.oA x.oc) 40 (0, 0)) → Calls Tryz.prog 78 #[.slice wA X.M.length wc, .func (Fn.func 79) #[] #[.pointer (some ⟨w.heap.size, 0, none⟩)]] W fun e w' => e = .returned (.bool b3) ∧ Below W.heap.size W w' from fun W hB hC => by
    rw [h3, ← h.wl]; exact bxcontains_any wA wc X.M g x w.heap.size W (by rw [h.wlen]; exact hwl) (HRW.out W hB) hC)
  have HLK := Lib.hid (show ∀ W, Below w.heap.size w W → (Instr.lookup 73 (.map (some X.bm)) (.agg #[.int .i64 g.s.t, .int .i64 g.s.r]) true).run Tryz.prog W = .ok (.tuple #[.agg #[], .bool b1]) W from fun W hB => by
    obtain ⟨u, ps, hrun, hu⟩ := (h.below hB).map.look_ok law_st Tryz.underlying73 (zeroU W) (zd := .agg []) (zp := []) unitElem_mk (key_st g.s (right_i63 hg).1 (right_i63 hg).2)
    obtain ⟨rfl, -⟩ := unitElem_inv hu
    rw [has_setG mp g.s hmp hg, ← h1] at hrun
    exact hrun)
  have HO := Lib.hid (show ∀ W, Below w.heap.size w W → W.heap[P]? = some (.cells #[X.dv, .slice wA X.M.length wc, .map (some X.bm), .slice X.vA v.length X.vc] 75 (0, 0)) from fun W hB => by have := (h.below hB).obj; rw [hwv] at this; exact this)
  have hPl := lt_of_block h.obj
  clear hans h1 h2 h3 hwv hmp hg hwl
  clear h
  obtain ⟨⟨t, r⟩, n, u, ⟨ut, ur⟩, ops⟩ := g
  obtain ⟨dA, dc, oA, oc⟩ := x
  show Calls _ _ #[.pointer (some ⟨P, 0, none⟩), .agg #[.int .i64 t, .int .i64 r, .int .i64 n, .slice dA u.length dc, .int .i64 ut, .int .i64 ur, .slice oA ops.length oc]] _ _
  have HB := Lib.hid hb0
  have HC := Lib.hid (heap_alloc_new w (.cells #[.int .i64 t, .int .i64 r, .int .i64 n, .slice dA u.length dc, .int .i64 ut, .int .i64 ur, .slice oA ops.length oc] 40))
  clear hb0
  go_enter Tryz.func44, Tryz.ntmps44
  go_upto_region 1 with fail
  generalize hW : w.alloc (.cells #[.int .i64 t, .int .i64 r, .int .i64 n, .slice dA u.length dc, .int .i64 ut, .int .i64 ur, .slice oA ops.length oc] 40) = W
  have HB1 : Hid (Below w.heap.size w W) := Lib.hid (by rw [← hW]; exact HB.out)
  have HC1 : Hid (W.heap[w.heap.size]? = some (.cells #[.int .i64 t, .int .i64 r, .int .i64 n, .slice dA u.length dc, .int .i64 ut, .int .i64 ur, .slice oA ops.length oc] 40 (0, 0))) := Lib.hid (by rw [← hW]; exact HC.out)
  clear hW HB HC
  refine wp_region_held (S := fun w' => Below W.heap.size W w') (by kernel_rfl) ?_
  try (change wpAnyH _ _ _ _ _ _ _ _ (World.drew _))
  have HDR := Lib.hid (show Below W.heap.size W W.drew from ⟨rfl, rfl, rfl, Nat.le_refl _, fun _ _ => rfl⟩)
  refine wpAnyH_take (i := 0) (v := .pointer (some ⟨P, 0, none⟩)) rfl (by kernel_rfl) (by kernel_rfl) (by kernel_rfl) (fun _ _ _ h => h) (Or.inl ⟨by rfl, fun W' hW' => by go_simp⟩) HDR.out ?_
  go_simp
  refine wpAnyH_take (i := 1) (v := .pointer (some ⟨P, 0, none⟩)) rfl (by kernel_rfl) (by kernel_rfl) (by kernel_rfl) (fun _ _ _ h => h) (Or.inl ⟨by rfl, fun W' hW' => by go_simp⟩) HDR.out ?_
  go_simp
  refine wpAnyH_take (i := 2) (v := .pointer (some ⟨P, 2, none⟩)) rfl (by kernel_rfl) (by kernel_rfl) (by kernel_rfl) (fun _ _ _ h => h) (Or.inl ⟨by rfl, fun W' hW' => by go_simp⟩) HDR.out ?_
  go_simp
  refine wpAnyH_take (i := 3) (v := .map (some X.bm)) rfl (by kernel_rfl) (by kernel_rfl) (by kernel_rfl) (fun _ _ _ h => h) (Or.inl ⟨by rfl, fun W' hW' => by (have c_ : W'.cell? ⟨P, 2, none⟩ = some (.map (some X.bm)) := (by rw [cell_of_row _ _ _ _ _ _ (HO.out W' (HB1.out.trans (hW'.mono HB1.out.size)))]; rfl); go_simp)⟩) HDR.out ?_
  go_simp
  refine wpAnyH_take (i := 4) (v := .pointer (some ⟨w.heap.size, 0, none⟩)) rfl (by kernel_rfl) (by kernel_rfl) (by kernel_rfl) (fun _ _ _ h => h) (Or.inl ⟨by rfl, fun W' hW' => by go_simp⟩) HDR.out ?_
  go_simp
  refine wpAnyH_take (i := 5) (v := .agg #[.int .i64 t, .int .i64 r]) rfl (by kernel_rfl) (by kernel_rfl) (by kernel_rfl) (fun _ _ _ h => h) (Or.inl ⟨by rfl, fun W' hW' => by (have c0 : W'.cell? ⟨w.heap.size, 0, none⟩ = some (.int .i64 t) := (by rw [cell_of_row _ _ _ _ _ _ ((hW'.block w.heap.size (lt_of_block HC1.out)).trans HC1.out)]; rfl); have c1 : W'.cell? ⟨w.heap.size, 1, none⟩ = some (.int .i64 r) := (by rw [cell_of_row _ _ _ _ _ _ ((hW'.block w.heap.size (lt_of_block HC1.out)).trans HC1.out)]; rfl); go_simp)⟩) HDR.out ?_
  go_simp
  refine wpAnyH_take (i := 6) (v := .tuple #[.agg #[], .bool b1]) rfl (by kernel_rfl) (by kernel_rfl) (by kernel_rfl) (fun _ _ _ h => h) (Or.inl ⟨by rfl, fun W' hW' => by (have hl := HLK.out W' (HB1.out.trans (hW'.mono HB1.out.size)); go_simp)⟩) HDR.out ?_
  go_simp
  refine wpAnyH_take (i := 7) (v := .tuple #[.agg #[], .bool b1]) rfl (by kernel_rfl) (by kernel_rfl) (by kernel_rfl) (fun _ _ _ h => h) (Or.inl ⟨by rfl, fun W' hW' => by go_simp⟩) HDR.out ?_
  go_simp
  refine wpAnyH_take (i := 8) (v := .agg #[]) rfl (by kernel_rfl) (by kernel_rfl) (by kernel_rfl) (fun _ _ _ h => h) (Or.inl ⟨by rfl, fun W' hW' => by go_simp⟩) HDR.out ?_
  go_simp
  refine wpAnyH_take (i := 9) (v := .bool b1) rfl (by kernel_rfl) (by kernel_rfl) (by kernel_rfl) (fun _ _ _ h => h) (Or.inl ⟨by rfl, fun W' hW' => by go_simp⟩) HDR.out ?_
  go_simp
  refine wpAnyH_ready (rs := [10]) (by kernel_rfl) (by simp) ?_
  refine AllReadyH.cons rfl (fun K hK => ?_) AllReadyH.nil
  go_simp
  have HDA := Lib.hid (HDR.out.alloc HDR.out.size (.cells #[] 123))
  refine hK.out _ _ HDA.out (fun _ => ?_)
  clear hK K
  refine wpAnyH_ready (rs := [11]) (by kernel_rfl) (by simp) ?_
  refine AllReadyH.cons rfl (fun K hK => ?_) AllReadyH.nil
  go_simp
  refine hK.out _ _ (show Below W.heap.size W _ from HDA.out) (fun _ => ?_)
  clear hK K
  refine wpAnyH_take (i := 12) (v := .bool b1) rfl (by kernel_rfl) (by kernel_rfl) (by kernel_rfl) (fun _ _ _ h => h) (Or.inl ⟨by rfl, fun W' hW' => by go_simp⟩) (show Below W.heap.size W _ from HDA.out) ?_
  go_simp
  refine wpAnyH_done (by kernel_rfl) ?_ _
  go_simp
  generalize hV : (W.alloc (.cells #[] 123)).drew = V
  have HBV := Lib.hid (show Below w.heap.size w V by rw [← hV]; exact HB1.out.trans ((show Below W.heap.size W _ from HDA.out).mono HB1.out.size))
  have HCV := Lib.hid (show V.heap[w.heap.size]? = some (.cells #[.int .i64 t, .int .i64 r, .int .i64 n, .slice dA u.length dc, .int .i64 ut, .int .i64 ur, .slice oA ops.length oc] 40 (0, 0)) by rw [← hV]; exact ((show Below W.heap.size W _ from HDA.out).block w.heap.size (lt_of_block HC1.out)).trans HC1.out)
  clear hV HDA HDR
  have e0 : V.cell? ⟨w.heap.size, 0, none⟩ = some (.int .i64 t) := by rw [cell_of_row _ _ _ _ _ _ HCV.out]; rfl
  have e1 : V.cell? ⟨w.heap.size, 1, none⟩ = some (.int .i64 r) := by rw [cell_of_row _ _ _ _ _ _ HCV.out]; rfl
  have e2 : V.cell? ⟨w.heap.size, 2, none⟩ = some (.int .i64 n) := by rw [cell_of_row _ _ _ _ _ _ HCV.out]; rfl
  have e3 : V.cell? ⟨w.heap.size, 3, none⟩ = some (.slice dA u.length dc) := by rw [cell_of_row _ _ _ _ _ _ HCV.out]; rfl
  have e4 : V.cell? ⟨w.heap.size, 4, none⟩ = some (.int .i64 ut) := by rw [cell_of_row _ _ _ _ _ _ HCV.out]; rfl
  have e5 : V.cell? ⟨w.heap.size, 5, none⟩ = some (.int .i64 ur) := by rw [cell_of_row _ _ _ _ _ _ HCV.out]; rfl
  have e6 : V.cell? ⟨w.heap.size, 6, none⟩ = some (.slice oA ops.length oc) := by rw [cell_of_row _ _ _ _ _ _ HCV.out]; rfl
  cases b1 with
  | true =>
    obtain rfl : ans = true := by rw [HANS.out]; rfl
    go_wp2
    go_ret
    exact ⟨rfl, HBV.out⟩
  | false =>
    cases b2 with
    | true =>
      obtain rfl : ans = true := by rw [HANS.out]; rfl
      go_wp2_with (first
        | (refine load_at rfl _ _ rfl w.heap.size _ _ _ rfl HCV.out Tryz.underlying40 rfl ?_ ?_; kernel_rfl)
        | (go_at_call 77; refine (HOLD.out V HBV.out).mono ?_; rintro e w2 ⟨rfl, hB2⟩))
      go_ret
      exact ⟨rfl, HBV.out.trans (hB2.mono HBV.out.size)⟩
    | false =>
      obtain rfl : ans = b3 := by rw [HANS.out]; cases b3 <;> rfl
      go_wp2_with (first
        | (refine load_at rfl _ _ rfl w.heap.size _ _ _ rfl HCV.out Tryz.underlying40 rfl ?_ ?_; kernel_rfl)
        | (go_at_call 77; refine (HOLD.out V HBV.out).mono ?_; rintro e w2 ⟨rfl, hB2⟩; have HB2 := Lib.hid (HBV.out.trans (hB2.mono HBV.out.size)); have HC2 := Lib.hid ((hB2.block w.heap.size (lt_of_block HCV.out)).trans HCV.out); have p1 : w2.cell? ⟨P, 1, none⟩ = some (.slice wA X.M.length wc) := (by rw [cell_of_row _ _ _ _ _ _ (HO.out w2 HB2.out)]; rfl); clear hB2)
        | (go_at_call 78; refine (HCON.out w2 HB2.out HC2.out).mono ?_; rintro e w3 ⟨rfl, hB3⟩))
      go_ret
      exact ⟨rfl, HB2.out.trans (hB3.mono HB2.out.size)⟩
end Go.Proofs.YtalgbcgiiphoaaaGreatDoor

