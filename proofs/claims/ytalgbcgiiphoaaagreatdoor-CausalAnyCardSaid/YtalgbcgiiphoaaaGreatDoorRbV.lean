/- The reference's Find, Right and Vector, at groups that may be and have names of their own. Conditions: lengths in reach. -/
import Derived.Test.YtalgbcgiiphoaaaGreatDoorRO
import Derived.Test.YtalgbcgiiphoaaaGreatDoorFew21
import Derived.Test.YtalgbcgiiphoaaaGreatDoorAhead
namespace Go.Proofs.YtalgbcgiiphoaaaGreatDoor
open Go.RowKit Go.Lib Go.Sort
set_option linter.unusedVariables false
attribute [local go_sem ↓] Go.wp_at_zero Go.wp_at_succ
set_option maxRecDepth 100000 in
set_option maxHeartbeats 4000000 in
theorem reffind_none (L : List (Grp × GrX)) (A : Option Addr) (c : Nat) (x : Gst) (w : World) (hl : L.length ≤ 1000000) (hR : RowGr w A L) (hn : ∀ p ∈ L, p.1.s.eqb x = false) :
    Calls Tryz.prog 141 #[.slice A L.length c, .agg #[.int .i64 x.t, .int .i64 x.r]] w fun e w' => e = .returned (.int .i64 (-1)) ∧ Below w.heap.size w w' := by
  obtain ⟨xt, xr⟩ := x
  have hb0 : Below w.heap.size w (w.alloc (.cells #[.int .i64 xt, .int .i64 xr] 37)) := (Below.refl _ _).alloc (Nat.le_refl _) _
  have HC := Lib.hid (heap_alloc_new w (.cells #[.int .i64 xt, .int .i64 xr] 37))
  have hs0 : (w.alloc (.cells #[.int .i64 xt, .int .i64 xr] 37)).heap.size = w.heap.size + 1 := by simp
  have HS := Lib.hid hs0
  have HB := Lib.hid hb0
  have HR := Lib.hid hR
  have HN := Lib.hid hn
  clear hb0 hR hn hs0
  show Calls _ _ #[.slice A L.length c, .agg #[.int .i64 xt, .int .i64 xr]] _ _
  go_enter Tryz.func141, Tryz.ntmps141
  go_upto_region 2 with (fail)
  generalize hW0 : w.alloc (.cells #[.int .i64 xt, .int .i64 xr] 37) = W0 at *
  clear hW0
  go_loopw [5] (fun i wr => ∃ k : Nat, i = .int .i64 k ∧ k ≤ L.length ∧ Hid (Below W0.heap.size W0 wr)) (fun i _ => L.length - (RowKit.intOf i).toNat)
  case atStart => exact ⟨0, rfl, Nat.zero_le _, Lib.hid (Below.refl _ _)⟩
  case round =>
    obtain ⟨k, rfl, hk, HBr⟩ := hrel
    have HBw := Lib.hid (HB.out.trans (HBr.out.mono HB.out.size))
    by_cases hlt : k < L.length
    · obtain ⟨rb, ro, rfl, hrb, hrange⟩ := RowGr.range (RowGr.below HR.out HBw.out) hlt
      have i0 : (0 : Int) ≤ (k : Int) := by omega
      have i1 : (k : Int) < (L.length : Int) := by omega
      have hm : L.getD k gp0 ∈ L := by rw [List.getD_eq_getElem?_getD, List.getElem?_eq_getElem hlt]; exact List.getElem_mem hlt
      have hne := HN.out _ hm
      generalize L.getD k gp0 = p at *
      obtain ⟨⟨⟨t, r⟩, n, dv, ⟨ut, ur⟩, ops⟩, ⟨dA, dc, oA, oc⟩⟩ := p
      have q1 := eq_st t r xt xr false hne
      have HCr := Lib.hid ((HBr.out.block w.heap.size (by rw [HS.out]; omega)).trans HC.out)
      have x0 := cell_regrown (w := wr) (a := ⟨w.heap.size, 0, none⟩) (v := .int .i64 xt) (by rw [cell_of_row _ _ _ _ _ _ HCr.out]; rfl)
      have x1 := cell_regrown (w := wr) (a := ⟨w.heap.size, 1, none⟩) (v := .int .i64 xr) (by rw [cell_of_row _ _ _ _ _ _ HCr.out]; rfl)
      have y0 := cell_regrown (w := wr) (a := ⟨rb, ro + k * 7, none⟩) (v := .int .i64 t) (hrange 0 _ rfl)
      have y1 := cell_regrown (w := wr) (a := ⟨rb, ro + k * 7 + 1, none⟩) (v := .int .i64 r) (hrange 1 _ rfl)
      clear hne hm hrange
      go_upto_region 4 with (fail)
      refine wp_region_quiet_below (by kernel_rfl) (by kernel_rfl) ?_
      repeat (any_goals (first | go_big_quiet_step (fail) | quiet_step (fail)))
      refine wpQuiet_nil ?_
      intro _ hw'
      obtain ⟨⟨dq, osq⟩, hw''⟩ := hw'
      subst hw''
      have hBq := below_regrown wr dq osq
      generalize grow (redrawn wr dq) osq = wq at *
      go_wp2
      go_roundw
      case rel => exact ⟨k + 1, by go_num, by omega, Lib.hid (HBr.out.trans (hBq.mono HBr.out.size))⟩
      case measure => (simp [RowKit.intOf]; omega)
    · obtain rfl : k = L.length := by omega
      have i1 : ¬ (L.length : Int) < (L.length : Int) := by omega
      go_wp2
      go_ret
      exact ⟨rfl, HBw.out⟩
theorem flat_take_succ {L : List (Grp × GrX)} {k : Nat} (h : k < L.length) : (L.take (k + 1)).flatMap grC_ = (L.take k).flatMap grC_ ++ grC_ (L.getD k gp0) := by
  rw [List.take_add_one, List.flatMap_append, List.getElem?_eq_getElem h, List.getD_eq_getElem?_getD, List.getElem?_eq_getElem h]
  simp
set_option maxRecDepth 100000 in
set_option maxHeartbeats 8000000 in
theorem refrights_any (L : List (Grp × GrX)) (A : Option Addr) (c : Nat) (S : Nat → Prop) (w : World) (hl : L.length ≤ 100000) (hR : RowGr w A L) (hG : ∀ p ∈ L, GrG w S p) (hT : ∀ p ∈ L, ∀ o ∈ p.1.ops, o.text.size ≤ 1000000) (hck : ∀ p ∈ L, chkB p.1 = true) (hnd : (L.map (·.1.s)).Nodup) :
    Calls Tryz.prog 124 #[.slice A L.length c] w fun e w' => ∃ A' c', e = .returned (.slice A' L.length c') ∧ w'.ownsRow w.heap.size 40 7 (.slice A' L.length c') L.length (L.flatMap grC_) ∧ Below w.heap.size w w' := by
  obtain ⟨i0, hi, hz0, hz1, hz2⟩ := info_parts infogrC_
  have HR := Lib.hid hR
  have HG := Lib.hid hG
  have HT := Lib.hid hT
  have HCK := Lib.hid hck
  have HND := Lib.hid hnd
  clear hR hG hT hck hnd
  go_enter Tryz.func124, Tryz.ntmps124
  go_upto_region 3 with (fail)
  go_loopw [3, 4] (fun o i wr => ∃ (k : Nat) (A' : Option Addr) (c' : Nat), k ≤ L.length ∧ i = .int .i64 k ∧ o = .slice A' k c' ∧ Hid (wr.ownsRow w.heap.size 40 7 (.slice A' k c') k ((L.take k).flatMap grC_)) ∧ Hid (Below w.heap.size w wr)) (fun o i _ => L.length - (RowKit.intOf i).toNat)
  case atStart => exact ⟨0, none, 0, Nat.zero_le _, rfl, rfl, Lib.hid (World.ownsRow_nil _ _ _ _), Lib.hid (Below.refl _ _)⟩
  case round =>
    obtain ⟨k, A', c', hk, rfl, rfl, HO, HBr⟩ := hrel
    by_cases hlt : k < L.length
    · obtain ⟨rb, ro, rfl, hrb, hrange⟩ := RowGr.range (RowGr.below HR.out HBr.out) hlt
      have hbw : rb < w.heap.size := by obtain ⟨b', o', e', -, hb', -⟩ := HR.out k hlt; cases e'; exact hb'
      have i0' : (0 : Int) ≤ (k : Int) := by omega
      have i1 : (k : Int) < (L.length : Int) := by omega
      have hsz := HBr.out.size
      have hm : L.getD k gp0 ∈ L := by rw [List.getD_eq_getElem?_getD, List.getElem?_eq_getElem hlt]; exact List.getElem_mem hlt
      have hgood : GrG wr S (L.getD k gp0) := (HG.out _ hm).agr (Agr.below HBr.out)
      have htx := HT.out _ hm
      have hch := HCK.out _ hm
      have HTK := Lib.hid (flat_take_succ hlt)
      have hne : ∀ q ∈ L.take k, q.1.s.eqb (L.getD k gp0).1.s = false := fun q hq => by
        cases e : q.1.s.eqb (L.getD k gp0).1.s with
        | false => rfl
        | true =>
          exfalso
          rw [Gst.eqb_iff] at e
          obtain ⟨j, hj, rfl⟩ := List.getElem_of_mem hq
          have hjk : j < k := by rw [List.length_take] at hj; omega
          rw [List.getElem_take] at e
          rw [List.getD_eq_getElem?_getD, List.getElem?_eq_getElem hlt] at e
          have hp := (List.pairwise_iff_getElem.1 HND.out) j k (by rw [List.length_map]; omega) (by rw [List.length_map]; exact hlt) hjk
          rw [List.getElem_map, List.getElem_map] at hp
          exact hp e
      have hRt : RowGr wr A' (L.take k) := by
        have hlk : (L.take k).length = k := by rw [List.length_take]; omega
        have := HO.out
        refine RowGr.own (c := c') (B := w.heap.size) (E := 40) ?_
        rw [hlk]; exact this
      have hlk : (L.take k).length = k := by rw [List.length_take]; omega
      generalize L.getD k gp0 = p at *
      obtain ⟨⟨⟨t, r⟩, n, dv, ⟨ut, ur⟩, ops⟩, ⟨dA, dc, oA, oc⟩⟩ := p
      have hch : chkB ⟨⟨t, r⟩, n, dv, ⟨ut, ur⟩, ops⟩ = true := hch
      have HCC := Lib.hid (refchk_any ⟨⟨t, r⟩, n, dv, ⟨ut, ur⟩, ops⟩ dA dc oA oc S wr hgood (fun _ => htx))
      rw [hch, if_pos rfl] at HCC
      have HFN := Lib.hid (fun W (hB : Below wr.heap.size wr W) => show Calls Tryz.prog 141 #[.slice A' k c', .agg #[.int .i64 t, .int .i64 r]] W fun e w' => e = .returned (.int .i64 (-1)) ∧ Below W.heap.size W w' from by
        have := reffind_none (L.take k) A' c' ⟨t, r⟩ W (by omega) (RowGr.below hRt hB) hne
        rw [hlk] at this
        exact this)
      have y0 : wr.cell? ⟨rb, ro + k * 7, none⟩ = some (.int .i64 t) := hrange 0 _ rfl
      have y1 : wr.cell? ⟨rb, ro + k * 7 + 1, none⟩ = some (.int .i64 r) := hrange 1 _ rfl
      have y2 : wr.cell? ⟨rb, ro + k * 7 + 2, none⟩ = some (.int .i64 n) := hrange 2 _ rfl
      have y3 : wr.cell? ⟨rb, ro + k * 7 + 3, none⟩ = some (.slice dA dv.length dc) := hrange 3 _ rfl
      have y4 : wr.cell? ⟨rb, ro + k * 7 + 4, none⟩ = some (.int .i64 ut) := hrange 4 _ rfl
      have y5 : wr.cell? ⟨rb, ro + k * 7 + 5, none⟩ = some (.int .i64 ur) := hrange 5 _ rfl
      have y6 : wr.cell? ⟨rb, ro + k * 7 + 6, none⟩ = some (.slice oA ops.length oc) := hrange 6 _ rfl
      clear hrange hgood htx hch hm hne hRt hlk
      go_upto_region 6 with (first
        | (go_at_call 51; refine HCC.out.mono ?_; rintro e w1 ⟨rfl, hB1⟩; have HB1 := Lib.hid hB1; have z0 := (World.cell?_of_block (w := wr) (w' := w1) (a := ⟨rb, ro + k * 7, none⟩) (hB1.block rb (by omega))).trans y0; have z1 := (World.cell?_of_block (w := wr) (w' := w1) (a := ⟨rb, ro + k * 7 + 1, none⟩) (hB1.block rb (by omega))).trans y1; have z2 := (World.cell?_of_block (w := wr) (w' := w1) (a := ⟨rb, ro + k * 7 + 2, none⟩) (hB1.block rb (by omega))).trans y2; have z3 := (World.cell?_of_block (w := wr) (w' := w1) (a := ⟨rb, ro + k * 7 + 3, none⟩) (hB1.block rb (by omega))).trans y3; have z4 := (World.cell?_of_block (w := wr) (w' := w1) (a := ⟨rb, ro + k * 7 + 4, none⟩) (hB1.block rb (by omega))).trans y4; have z5 := (World.cell?_of_block (w := wr) (w' := w1) (a := ⟨rb, ro + k * 7 + 5, none⟩) (hB1.block rb (by omega))).trans y5; have z6 := (World.cell?_of_block (w := wr) (w' := w1) (a := ⟨rb, ro + k * 7 + 6, none⟩) (hB1.block rb (by omega))).trans y6; clear hB1)
        | (go_at_call 141; refine (HFN.out w1 HB1.out).mono ?_; rintro e w2 ⟨rfl, hB2⟩; have HB2 := Lib.hid (HB1.out.trans (hB2.mono HB1.out.size)); have hs1 := HB1.out.size; have v0 := (World.cell?_of_block (w := w1) (w' := w2) (a := ⟨rb, ro + k * 7, none⟩) (hB2.block rb (by omega))).trans z0; have v1 := (World.cell?_of_block (w := w1) (w' := w2) (a := ⟨rb, ro + k * 7 + 1, none⟩) (hB2.block rb (by omega))).trans z1; have v2 := (World.cell?_of_block (w := w1) (w' := w2) (a := ⟨rb, ro + k * 7 + 2, none⟩) (hB2.block rb (by omega))).trans z2; have v3 := (World.cell?_of_block (w := w1) (w' := w2) (a := ⟨rb, ro + k * 7 + 3, none⟩) (hB2.block rb (by omega))).trans z3; have v4 := (World.cell?_of_block (w := w1) (w' := w2) (a := ⟨rb, ro + k * 7 + 4, none⟩) (hB2.block rb (by omega))).trans z4; have v5 := (World.cell?_of_block (w := w1) (w' := w2) (a := ⟨rb, ro + k * 7 + 5, none⟩) (hB2.block rb (by omega))).trans z5; have v6 := (World.cell?_of_block (w := w1) (w' := w2) (a := ⟨rb, ro + k * 7 + 6, none⟩) (hB2.block rb (by omega))).trans z6; clear hB2))
      have hs2 := HB2.out.size
      have HO2 := Lib.hid (HO.out.kept (gby_below (r := none) HB2.out) (Classical.em _))
      have HBw2 := Lib.hid (HBr.out.trans (HB2.out.mono hsz))
      clear y0 y1 y2 y3 y4 y5 y6 z0 z1 z2 z3 z4 z5 z6
      go_wp2_with (at_builtin; refine wpList_append_own _ rfl _ _ 23 rfl w.heap.size 40 i0 (.agg #[.int .i64 0, .int .i64 0, .int .i64 0, .slice none 0 0, .int .i64 0, .int .i64 0, .slice none 0 0]) 7 88 Tryz.underlying23 hi hz0 hz1 hz2 rfl (by decide) _ _ _ rfl (by exact HO2.out.alloc _) ⟨w2.heap.size, 0, none⟩ 1 1 [.int .i64 t, .int .i64 r, .int .i64 n, .slice dA dv.length dc, .int .i64 ut, .int .i64 ur, .slice oA ops.length oc] rfl rfl (fun j y h => cellsN w2 [.int .i64 t, .int .i64 r, .int .i64 n, .slice dA dv.length dc, .int .i64 ut, .int .i64 ur, .slice oA ops.length oc] 40 j y h) (ocgrC_ (⟨⟨t, r⟩, n, dv, ⟨ut, ur⟩, ops⟩, ⟨dA, dc, oA, oc⟩)) (by unfold maxLen; omega) (by omega) (by simp; omega) ?_; intro v' w3 hown hgrow hnil)
      obtain ⟨A3, c3, rfl⟩ := row_slice hown
      have HO3 := Lib.hid (show w3.ownsRow w.heap.size 40 7 (.slice A3 (k + 1) c3) (k + 1) ((L.take (k + 1)).flatMap grC_) by rw [HTK.out]; exact hown)
      have HB3 := Lib.hid ((HBw2.out.alloc HBw2.out.size _).grown hgrow (by simp; have := HBw2.out.size; omega) (fun b hb => HO.out.lt b hb |>.1))
      clear hown hgrow hnil
      go_roundw
      case rel => exact ⟨k + 1, A3, c3, by omega, by go_num, rfl, HO3, HB3⟩
      case measure => (simp [RowKit.intOf]; omega)
    · obtain rfl : k = L.length := by omega
      have i1 : ¬ (L.length : Int) < (L.length : Int) := by omega
      go_wp2
      go_ret
      refine ⟨A', c', rfl, ?_, HBr.out⟩
      have := HO.out
      rw [List.take_length] at this
      exact this
set_option maxRecDepth 100000 in
set_option maxHeartbeats 8000000 in
theorem rvector_any (L : List (Grp × GrX)) (A : Option Addr) (c : Nat) (S : Nat → Prop) (w : World) (hl : L.length ≤ 100000) (hR : RowGr w A L) (hG : ∀ p ∈ L, GrG w S p) (hT : ∀ p ∈ L, ∀ o ∈ p.1.ops, o.text.size ≤ 1000000) (hck : ∀ p ∈ L, chkB p.1 = true) (hnd : (L.map (·.1.s)).Nodup) (u : List Int) (hu : aheadV [] (L.map Prod.fst) = some u) :
    Calls Tryz.prog 90 #[.slice A L.length c] w fun e w' => ∃ A' c', e = .returned (.slice A' u.length c') ∧ VecS w' (fun _ => True) A' u ∧ u.length ≤ 16 ∧ Below w.heap.size w w' := by
  have HRT := Lib.hid (refrights_any L A c S w hl hR hG hT hck hnd)
  have HU := Lib.hid hu
  have HCK := Lib.hid hck
  clear hR hG hT hck hnd hu
  go_enter Tryz.func90, Tryz.ntmps90
  go_upto_region 4 with (go_at_call 124; refine HRT.out.mono ?_; rintro e w1 ⟨A1, c1, rfl, hown, hB1⟩; have HR1 := Lib.hid (RowGr.own hown); have HB1 := Lib.hid hB1; clear hown hB1)
  go_loopw [3, 4] (fun s i wr => ∃ (k : Nat) (v : List Int) (vA : Option Addr) (vc : Nat), k ≤ L.length ∧ s = .slice vA v.length vc ∧ v.length ≤ 16 ∧ VecS wr (fun _ => True) vA v ∧ Hid (aheadV [] ((L.map Prod.fst).take k) = some v) ∧ i = .int .i64 k ∧ Hid (Below w1.heap.size w1 wr)) (fun s i _ => L.length - (RowKit.intOf i).toNat)
  case atStart => exact ⟨0, [], none, 0, by omega, rfl, by decide, RowG.zero, Lib.hid rfl, rfl, Lib.hid (Below.refl _ _)⟩
  case round =>
    obtain ⟨k, v, vA, vc, hk, rfl, hv16, hV, HV, rfl, HBr⟩ := hrel
    by_cases hlt : k < L.length
    · have i0 : (0 : Int) ≤ (k : Int) := by omega
      have i1 : (k : Int) < (L.length : Int) := by omega
      obtain ⟨rb, ro, rfl, hrb, hrange⟩ := RowGr.range (RowGr.below HR1.out HBr.out) hlt
      have hsz := HBr.out.size
      have hm : L.getD k gp0 ∈ L := by rw [List.getD_eq_getElem?_getD, List.getElem?_eq_getElem hlt]; exact List.getElem_mem hlt
      have hch := HCK.out _ hm
      have hgd := getD_fst' L k
      obtain ⟨x5, k1, k2, k3, k4, k5⟩ := aheadV_take _ _ _ HU.out k (by rw [List.length_map]; exact hlt)
      obtain rfl : x5 = v := by rw [HV.out] at k1; exact (Option.some.inj k1).symm
      rw [← hgd] at k2 k3 k4 k5
      generalize L.getD k gp0 = p at *
      obtain ⟨⟨⟨t, r⟩, n, dv, ⟨ut, ur⟩, ops⟩, ⟨dA, dc, oA, oc⟩⟩ := p
      clear hgd hm k1 k3
      obtain ⟨c1', c2, c3, -⟩ := chk_right k2
      have hr := right_r c1'
      have hr1 : 1 ≤ r := hr.1
      have hr2 : r ≤ 16 := hr.2
      have hn1 : 1 ≤ n := c2
      have hn2 : n ≤ 1099511627776 := c3
      have k4 : atV x5 r = n - 1 := k4
      have K5 := Lib.hid (show aheadV [] ((L.map Prod.fst).take (k + 1)) = some (withV x5 r n) from k5)
      have HAT := Lib.hid (fun W (hB : Below wr.heap.size wr W) => refat_any vA vc x5 r W (by omega) (VecS.vec (RowG.agr hV (Agr.below hB))))
      have HWI := Lib.hid (fun W (hB : Below wr.heap.size wr W) => refwith_any vA vc x5 r n W (by omega) hr1 hr2 (VecS.vec (RowG.agr hV (Agr.below hB))))
      rw [k4] at HAT
      have q1 : max n (n - 1) = n := by omega
      have y1 := cell_regrown (w := wr) (a := ⟨rb, ro + k * 7 + 1, none⟩) (v := .int .i64 r) (hrange 1 _ rfl)
      have y2 := cell_regrown (w := wr) (a := ⟨rb, ro + k * 7 + 2, none⟩) (v := .int .i64 n) (hrange 2 _ rfl)
      have HY1 := Lib.hid (show wr.cell? ⟨rb, ro + k * 7 + 1, none⟩ = some (.int .i64 r) from hrange 1 _ rfl)
      clear k2 k4 k5 c1' c2 c3 hr hch hrange
      have cC : ∀ d os, Calls Tryz.prog 55 #[.slice vA x5.length vc, .int .i64 r] (grow (redrawn wr d) os) fun e w'' => e = .returned (.int .i64 (n - 1)) ∧ ∃ p : Regrown, w'' = grow (redrawn wr p.d) p.os := fun d os => Calls.regrown_of ((HAT.out (grow (redrawn wr d) os) (below_regrown wr d os)).mono (by rintro e w' ⟨rfl, rfl⟩; exact ⟨rfl, Below.refl _ _⟩))
      go_upto_region 6 with (fail)
      refine wp_region_quiet_below (by kernel_rfl) (by kernel_rfl) ?_
      repeat (any_goals (first | go_big_quiet_step (with_reducible exact cC _ _) | quiet_step (with_reducible exact cC _ _)))
      refine wpQuiet_nil ?_
      intro _ hw'
      obtain ⟨⟨dq, osq⟩, hw''⟩ := hw'
      subst hw''
      have hBq := below_regrown wr dq osq
      generalize grow (redrawn wr dq) osq = wq at *
      have z1 := (World.cell?_of_block (w := wr) (w' := wq) (a := ⟨rb, ro + k * 7 + 1, none⟩) (hBq.block rb hrb)).trans HY1.out
      have HBq := Lib.hid hBq
      clear y1 y2 cC hBq
      go_wp2_with (go_at_call 125; refine (HWI.out wq HBq.out).mono ?_; rintro e w9 ⟨hB9, A9, c9, rfl, hv9, hc9, hm9⟩)
      have hl9 := withV_len x5 r n hv16 hr2
      go_roundw
      case rel => exact ⟨k + 1, withV x5 r n, A9, c9, by omega, rfl, hl9, RowG.sub hv9 (fun _ _ _ => trivial), K5, by go_num, Lib.hid (HBr.out.trans ((HBq.out.trans (hB9.mono HBq.out.size)).mono hsz))⟩
      case measure => (simp [RowKit.intOf]; omega)
    · obtain rfl : k = L.length := by omega
      have i1 : ¬ (L.length : Int) < (L.length : Int) := by omega
      have hvu : v = u := by
        have := HV.out
        rw [List.take_of_length_le (by rw [List.length_map]; exact Nat.le_refl _), HU.out] at this
        exact (Option.some.inj this).symm
      subst hvu
      go_wp2
      go_ret
      exact ⟨vA, ⟨vc, rfl⟩, hV, HB1.out.trans (HBr.out.mono HB1.out.size)⟩
end Go.Proofs.YtalgbcgiiphoaaaGreatDoor
