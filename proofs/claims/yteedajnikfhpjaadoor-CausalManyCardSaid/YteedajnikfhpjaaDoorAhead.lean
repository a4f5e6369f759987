/- Groups one behind the other, as the law looks at them. Conditions: lengths in reach; texts in reach. -/
import Derived.Test.YteedajnikfhpjaaDoorRO
import Derived.Test.YteedajnikfhpjaaDoorFew21
import Derived.Test.YteedajnikfhpjaaDoorCov
import Derived.Test.YteedajnikfhpjaaDoorWith
namespace Go.Proofs.YteedajnikfhpjaaDoor
open Go.RowKit Go.Lib Go.Sort
set_option linter.unusedVariables false
attribute [local go_sem ↓] Go.wp_at_zero Go.wp_at_succ
theorem aheadV_take : ∀ (l : List Grp) (v u : List Int), aheadV v l = some u → ∀ j, j < l.length → ∃ x, aheadV v (l.take j) = some x ∧ chkB (l.getD j gz) = true ∧ covB x (l.getD j gz).deps = true ∧ atV x (l.getD j gz).s.r = (l.getD j gz).n - 1 ∧ aheadV v (l.take (j + 1)) = some (withV x (l.getD j gz).s.r (l.getD j gz).n)
  | [], v, u, h, j, hj => absurd hj (Nat.not_lt_zero _)
  | g :: l, v, u, h, 0, hj => by
    rw [aheadV] at h
    split at h
    · rename_i c
      simp only [Bool.and_eq_true, decide_eq_true_eq] at c
      refine ⟨v, rfl, c.1.1, c.1.2, c.2, ?_⟩
      show aheadV v (g :: l.take 0) = _
      rw [aheadV, if_pos (by simp [c.1.1, c.1.2, c.2])]
      rw [List.take_zero]; rfl
    · cases h
  | g :: l, v, u, h, j + 1, hj => by
    rw [aheadV] at h
    split at h
    · rename_i c
      obtain ⟨x, h1, h2, h3, h4, h5⟩ := aheadV_take l _ u h j (by simpa using hj)
      refine ⟨x, ?_, h2, h3, h4, ?_⟩
      · show aheadV v (g :: l.take j) = _
        rw [aheadV, if_pos c]; exact h1
      · show aheadV v (g :: l.take (j + 1)) = _
        rw [aheadV, if_pos c]; exact h5
    · cases h
set_option maxRecDepth 100000 in
set_option maxHeartbeats 8000000 in
theorem lawahead_any (L : List (Grp × GrX)) (A : Option Addr) (c : Nat) (S : Nat → Prop) (w : World) (hl : L.length ≤ 1000000) (hR : RowGr w A L) (hG : ∀ p ∈ L, GrG w S p) (hT : ∀ p ∈ L, ∀ o ∈ p.1.ops, o.text.size ≤ 1000000) (u : List Int) (hu : aheadV [] (L.map Prod.fst) = some u) :
    Calls Tryd.prog 12 #[.slice A L.length c] w fun e w' => e = .returned (.bool true) ∧ Below w.heap.size w w' := by
  have HU := Lib.hid hu
  have HR := Lib.hid hR
  have HG := Lib.hid hG
  have HT := Lib.hid hT
  clear hu hR hG hT
  go_enter Tryd.func12, Tryd.ntmps12
  go_upto_region 3 with (fail)
  go_loopw [3, 4] (fun s i wr => ∃ (j : Nat) (v : List Int) (vA : Option Addr) (vc : Nat), j ≤ L.length ∧ s = .slice vA v.length vc ∧ v.length ≤ 16 ∧ VecS wr (fun _ => True) vA v ∧ Hid (aheadV [] ((L.map Prod.fst).take j) = some v) ∧ i = .int .i64 j ∧ Below w.heap.size w wr) (fun s i _ => L.length - (RowKit.intOf i).toNat)
  case atStart => exact ⟨0, [], none, 0, by omega, rfl, by decide, RowG.zero, Lib.hid rfl, rfl, Below.refl _ _⟩
  case round =>
    obtain ⟨j, v, vA, vc, hj, rfl, hv16, hV, HV, rfl, hBr⟩ := hrel
    have hsz := hBr.size
    by_cases hlt : j < L.length
    · have i0 : (0 : Int) ≤ (j : Int) := by omega
      have i1 : (j : Int) < (L.length : Int) := by omega
      have hRr := HR.out.below hBr
      obtain ⟨b, o, rfl, hb, hrg⟩ := hRr.range hlt
      have hm : L.getD j gp0 ∈ L := by rw [List.getD_eq_getElem?_getD, List.getElem?_eq_getElem hlt]; exact List.getElem_mem hlt
      have hgood : GrG wr S (L.getD j gp0) := (HG.out _ hm).agr (Agr.below hBr)
      have htx := HT.out _ hm
      have hgd := getD_fst' L j
      obtain ⟨x5, k1, k2, k3, k4, k5⟩ := aheadV_take _ _ _ HU.out j (by rw [List.length_map]; exact hlt)
      obtain rfl : x5 = v := by rw [HV.out] at k1; exact (Option.some.inj k1).symm
      rw [← hgd] at k2 k3 k4 k5
      generalize L.getD j gp0 = p at *
      obtain ⟨⟨⟨t, r⟩, n, dv, ⟨ut, ur⟩, ops⟩, ⟨dA, dc, oA, oc⟩⟩ := p
      clear hgd hm k1 hRr HR
      have k2 : chkB ⟨⟨t, r⟩, n, dv, ⟨ut, ur⟩, ops⟩ = true := k2
      obtain ⟨c1, c2, c3, -⟩ := chk_right k2
      have hr := right_r c1
      have hr1 : 1 ≤ r := hr.1
      have hr2 : r ≤ 16 := hr.2
      have hn1 : 1 ≤ n := c2
      have hn2 : n ≤ 1099511627776 := c3
      have K5 := Lib.hid (show aheadV [] ((L.map Prod.fst).take (j + 1)) = some (withV x5 r n) from k5)
      obtain ⟨GA, hGA⟩ : ∃ l : List Value, l = [.int .i64 t, .int .i64 r, .int .i64 n, .slice dA dv.length dc, .int .i64 ut, .int .i64 ur, .slice oA ops.length oc] := ⟨_, rfl⟩
      have HGA := Lib.hid hGA
      have HRG := Lib.hid (show wr.rangeAt b (o + j * 7) GA by rw [hGA]; exact hrg)
      have HN := Lib.hid (show (Tryd.prog.info? 34).map (·.size) = some GA.length by rw [hGA]; kernel_rfl)
      have HN2 := Lib.hid (show (Tryd.prog.info? 34).map (·.size) = some GA.toArray.size by rw [List.size_toArray]; exact HN.out)
      have HSZ := Lib.hid (show GA.toArray.size = 7 by rw [hGA]; rfl)
      have HOC := Lib.hid (show GA.toArray.toList.all (·.oneCell') = true by rw [hGA]; rfl)
      have hdl : dv.length ≤ 1000 := chk_dl k2
      clear hGA hrg k5
      have HCK := Lib.hid (fun W (hB : Below wr.heap.size wr W) => refchk_any ⟨⟨t, r⟩, n, dv, ⟨ut, ur⟩, ops⟩ dA dc oA oc S W (GrIn.agr hgood (Agr.below hB)) (fun _ => htx))
      have HCV := Lib.hid (fun W (hB : Below wr.heap.size wr W) => refcovers_any vA dA vc dc x5 dv W (by omega) (by omega) (VecS.vec (RowG.agr hV (Agr.below hB))) (VecS.vec (S := S) (RowG.agr hgood.deps (Agr.below hB))))
      have HAT := Lib.hid (fun W (hB : Below wr.heap.size wr W) => refat_any vA vc x5 r W (by omega) (VecS.vec (RowG.agr hV (Agr.below hB))))
      have HWI := Lib.hid (fun W (hB : Below wr.heap.size wr W) => refwith_any vA vc x5 r n W (by omega) hr1 hr2 (VecS.vec (RowG.agr hV (Agr.below hB))))
      have k3 : covB x5 dv = true := k3
      have k4 : atV x5 r = n - 1 := k4
      rw [k2] at HCK
      rw [k3] at HCV
      rw [k4] at HAT
      clear k2 k3 k4 hgood htx c1 c2 c3 hr
      go_upto_region 6 with (first
        | (refine wpList_load_mid rfl _ _ rfl b (o + j * 7) rfl GA _ HRG.out Tryd.underlying34 rfl HN.out ?_)
        | (refine store_last rfl _ _ _ rfl _ _ _ GA.toArray rfl ?_ rfl ?_ ?_ HOC.out ?_; (focus (simp; done)); exact HN2.out; exact HSZ.out.symm))
      have hbl := heap_alloc_new wr (.cells GA.toArray 34)
      rw [show GA.toArray = #[.int .i64 t, .int .i64 r, .int .i64 n, .slice dA dv.length dc, .int .i64 ut, .int .i64 ur, .slice oA ops.length oc] by rw [HGA.out]] at hbl ⊢
      have hBV : Below wr.heap.size wr (wr.alloc (.cells #[.int .i64 t, .int .i64 r, .int .i64 n, .slice dA dv.length dc, .int .i64 ut, .int .i64 ur, .slice oA ops.length oc] 34)) := (Below.refl _ _).alloc (Nat.le_refl _) _
      generalize wr.alloc (.cells #[.int .i64 t, .int .i64 r, .int .i64 n, .slice dA dv.length dc, .int .i64 ut, .int .i64 ur, .slice oA ops.length oc] 34) = W at *
      have y0 := cell_regrown (w := W) (a := ⟨wr.heap.size, 0, none⟩) (v := .int .i64 t) (by rw [cell_of_row _ _ _ _ _ _ hbl]; rfl)
      have y1 := cell_regrown (w := W) (a := ⟨wr.heap.size, 1, none⟩) (v := .int .i64 r) (by rw [cell_of_row _ _ _ _ _ _ hbl]; rfl)
      have y2 := cell_regrown (w := W) (a := ⟨wr.heap.size, 2, none⟩) (v := .int .i64 n) (by rw [cell_of_row _ _ _ _ _ _ hbl]; rfl)
      have y3 := cell_regrown (w := W) (a := ⟨wr.heap.size, 3, none⟩) (v := .slice dA dv.length dc) (by rw [cell_of_row _ _ _ _ _ _ hbl]; rfl)
      have y4 := cell_regrown (w := W) (a := ⟨wr.heap.size, 4, none⟩) (v := .int .i64 ut) (by rw [cell_of_row _ _ _ _ _ _ hbl]; rfl)
      have y5 := cell_regrown (w := W) (a := ⟨wr.heap.size, 5, none⟩) (v := .int .i64 ur) (by rw [cell_of_row _ _ _ _ _ _ hbl]; rfl)
      have y6 := cell_regrown (w := W) (a := ⟨wr.heap.size, 6, none⟩) (v := .slice oA ops.length oc) (by rw [cell_of_row _ _ _ _ _ _ hbl]; rfl)
      have HBL := Lib.hid hbl
      have hbV : wr.heap.size < W.heap.size := lt_of_block hbl
      have HBV := Lib.hid hBV
      clear hbl hBV
      have q1 : IntKind.i64.wrap (n - 1) = n - 1 := by rw [IntKind.wrap_i64]; omega
      have cA : ∀ d os, Calls Tryd.prog 18 #[.agg #[.int .i64 t, .int .i64 r, .int .i64 n, .slice dA dv.length dc, .int .i64 ut, .int .i64 ur, .slice oA ops.length oc]] (grow (redrawn W d) os) fun e w'' => e = .returned (.int .i64 0) ∧ ∃ p : Regrown, w'' = grow (redrawn W p.d) p.os := fun d os => Calls.regrown_of (HCK.out (grow (redrawn W d) os) (bx_grow HBV.out HBV.out.size d os))
      have cB : ∀ d os, Calls Tryd.prog 29 #[.slice vA x5.length vc, .slice dA dv.length dc] (grow (redrawn W d) os) fun e w'' => e = .returned (.bool true) ∧ ∃ p : Regrown, w'' = grow (redrawn W p.d) p.os := fun d os => Calls.regrown_of ((HCV.out (grow (redrawn W d) os) (bx_grow HBV.out HBV.out.size d os)).mono (by rintro e w' ⟨rfl, rfl⟩; exact ⟨rfl, Below.refl _ _⟩))
      have cC : ∀ d os, Calls Tryd.prog 22 #[.slice vA x5.length vc, .int .i64 r] (grow (redrawn W d) os) fun e w'' => e = .returned (.int .i64 (n - 1)) ∧ ∃ p : Regrown, w'' = grow (redrawn W p.d) p.os := fun d os => Calls.regrown_of ((HAT.out (grow (redrawn W d) os) (bx_grow HBV.out HBV.out.size d os)).mono (by rintro e w' ⟨rfl, rfl⟩; exact ⟨rfl, Below.refl _ _⟩))
      refine wp_region_quiet_below (by kernel_rfl) (by kernel_rfl) ?_
      repeat (any_goals (first | go_big_quiet_step (with_reducible first | exact cA _ _ | exact cB _ _ | exact cC _ _) | quiet_step (with_reducible first | exact cA _ _ | exact cB _ _ | exact cC _ _)))
      refine wpQuiet_nil ?_
      intro _ hw'
      obtain ⟨⟨dq, osq⟩, hw''⟩ := hw'
      subst hw''
      have hBq := below_regrown W dq osq
      generalize grow (redrawn W dq) osq = wq at *
      have HCq := Lib.hid ((hBq.block _ hbV).trans HBL.out)
      have z1 : wq.cell? ⟨wr.heap.size, 1, none⟩ = some (.int .i64 r) := by rw [cell_of_row _ _ _ _ _ _ HCq.out]; rfl
      have z2 : wq.cell? ⟨wr.heap.size, 2, none⟩ = some (.int .i64 n) := by rw [cell_of_row _ _ _ _ _ _ HCq.out]; rfl
      have HWq := Lib.hid (HBV.out.trans (hBq.mono HBV.out.size))
      clear y0 y1 y2 y3 y4 y5 y6 cA cB cC hBq
      go_wp2_with (go_at_call 30; refine (HWI.out wq HWq.out).mono ?_; rintro e w9 ⟨hB9, A9, c9, rfl, hv9, hc9, hm9⟩)
      have hl9 := withV_len x5 r n hv16 hr2
      go_roundw
      case rel => exact ⟨j + 1, withV x5 r n, A9, c9, by omega, rfl, hl9, RowG.sub hv9 (fun _ _ _ => trivial), K5, by go_num, hBr.trans ((HWq.out.trans (hB9.mono HWq.out.size)).mono hsz)⟩
      case measure => (simp [RowKit.intOf]; omega)
    · obtain rfl : j = L.length := by omega
      have i1 : ¬ (L.length : Int) < (L.length : Int) := by omega
      go_wp2
      go_ret
      exact ⟨rfl, hBr⟩
end Go.Proofs.YteedajnikfhpjaaDoor
