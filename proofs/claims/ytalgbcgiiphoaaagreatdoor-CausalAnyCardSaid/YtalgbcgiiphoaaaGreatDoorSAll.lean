/- Lists of groups that are the same. Conditions: lengths in reach. -/
import Derived.Test.YtalgbcgiiphoaaaGreatDoorSM
import Derived.Test.YtalgbcgiiphoaaaGreatDoorFew21
namespace Go.Proofs.YtalgbcgiiphoaaaGreatDoor
open Go.RowKit Go.Lib Go.Sort
set_option linter.unusedVariables false
attribute [local go_sem ↓] Go.wp_at_zero Go.wp_at_succ
set_option maxRecDepth 100000 in
set_option maxHeartbeats 8000000 in
theorem sameall_any (L L2 : List (Grp × GrX)) (A A2 : Option Addr) (c c2 : Nat) (S S2 : Nat → Prop) (w : World) (hl : L.length ≤ 1000000) (hR : RowGr w A L) (hG : ∀ p ∈ L, GrG w S p) (hR2 : RowGr w A2 L2) (hG2 : ∀ p ∈ L2, GrG w S2 p) (he : L.map Prod.fst = L2.map Prod.fst) :
    Calls Tryz.prog 10 #[.slice A L.length c, .slice A2 L2.length c2] w fun e w' => e = .returned (.bool true) ∧ Below w.heap.size w w' := by
  have hln : L2.length = L.length := by have := congrArg List.length he; simpa using this.symm
  rw [hln]
  have HLN := Lib.hid hln
  have HE := Lib.hid (show ∀ k, (L.getD k gp0).1 = (L2.getD k gp0).1 from fun k => by rw [getD_fst', getD_fst', he])
  have HR := Lib.hid hR
  have HG := Lib.hid hG
  have HR2 := Lib.hid hR2
  have HG2 := Lib.hid hG2
  clear hR hG hR2 hG2 he hln
  go_enter Tryz.func10, Tryz.ntmps10
  go_upto_region 4 with fail
  go_loopw [5] (fun i wr => ∃ k : Nat, i = .int .i64 k ∧ k ≤ L.length ∧ Hid (Below w.heap.size w wr)) (fun i _ => L.length - (RowKit.intOf i).toNat)
  case atStart => exact ⟨0, rfl, Nat.zero_le _, Lib.hid (Below.refl _ _)⟩
  case round =>
    obtain ⟨k, rfl, hk, HBr⟩ := hrel
    by_cases hlt : k < L.length
    · have i0 : (0 : Int) ≤ (k : Int) := by omega
      have i1 : (k : Int) < (L.length : Int) := by omega
      obtain ⟨rb, ro, rfl, hrb, hrange⟩ := RowGr.range (RowGr.below HR.out HBr.out) hlt
      obtain ⟨rb2, ro2, rfl, hrb2, hrange2⟩ := RowGr.range (RowGr.below HR2.out HBr.out) (k := k) (by rw [HLN.out]; exact hlt)
      have hg1 : GrG wr S (L.getD k gp0) := (HG.out _ (by rw [List.getD_eq_getElem?_getD, List.getElem?_eq_getElem hlt]; exact List.getElem_mem hlt)).agr (Agr.below HBr.out)
      have hg2 : GrG wr S2 (L2.getD k gp0) := (HG2.out _ (by rw [List.getD_eq_getElem?_getD, List.getElem?_eq_getElem (by rw [HLN.out]; exact hlt)]; exact List.getElem_mem _)).agr (Agr.below HBr.out)
      have hee := HE.out k
      generalize L.getD k gp0 = p at *
      generalize L2.getD k gp0 = p2 at *
      obtain ⟨⟨⟨t, r⟩, n, u, ⟨ut, ur⟩, ops⟩, ⟨dA, dc, oA, oc⟩⟩ := p
      obtain ⟨⟨⟨t2, r2⟩, n2, u2, ⟨ut2, ur2⟩, ops2⟩, ⟨dA2, dc2, oA2, oc2⟩⟩ := p2
      have HSM := Lib.hid (fun W (hB : Below wr.heap.size wr W) => show Calls Tryz.prog 25 #[.agg #[.int .i64 t, .int .i64 r, .int .i64 n, .slice dA u.length dc, .int .i64 ut, .int .i64 ur, .slice oA ops.length oc], .agg #[.int .i64 t2, .int .i64 r2, .int .i64 n2, .slice dA2 u2.length dc2, .int .i64 ut2, .int .i64 ur2, .slice oA2 ops2.length oc2]] W fun e w' => e = .returned (.bool true) ∧ Below W.heap.size W w' from by
        have h9 := sameg_any _ _ dA dA2 oA oA2 dc dc2 oc oc2 S S2 W (GrIn.agr hg1 (Agr.below hB)) (GrIn.agr hg2 (Agr.below hB))
        have h8 : sameG ⟨⟨t, r⟩, n, u, ⟨ut, ur⟩, ops⟩ ⟨⟨t2, r2⟩, n2, u2, ⟨ut2, ur2⟩, ops2⟩ = true := by
          rw [show (⟨⟨t2, r2⟩, n2, u2, ⟨ut2, ur2⟩, ops2⟩ : Grp) = ⟨⟨t, r⟩, n, u, ⟨ut, ur⟩, ops⟩ from hee.symm]
          exact sameG_iff.2 rfl
        rw [show (Grp.mk ⟨t, r⟩ n u ⟨ut, ur⟩ ops) = ⟨⟨t, r⟩, n, u, ⟨ut, ur⟩, ops⟩ from rfl, h8] at h9
        exact h9)
      have y0 := cell_regrown (w := wr) (a := ⟨rb, ro + k * 7, none⟩) (v := .int .i64 t) (hrange 0 _ rfl)
      have y1 := cell_regrown (w := wr) (a := ⟨rb, ro + k * 7 + 1, none⟩) (v := .int .i64 r) (hrange 1 _ rfl)
      have y2 := cell_regrown (w := wr) (a := ⟨rb, ro + k * 7 + 2, none⟩) (v := .int .i64 n) (hrange 2 _ rfl)
      have y3 := cell_regrown (w := wr) (a := ⟨rb, ro + k * 7 + 3, none⟩) (v := .slice dA u.length dc) (hrange 3 _ rfl)
      have y4 := cell_regrown (w := wr) (a := ⟨rb, ro + k * 7 + 4, none⟩) (v := .int .i64 ut) (hrange 4 _ rfl)
      have y5 := cell_regrown (w := wr) (a := ⟨rb, ro + k * 7 + 5, none⟩) (v := .int .i64 ur) (hrange 5 _ rfl)
      have y6 := cell_regrown (w := wr) (a := ⟨rb, ro + k * 7 + 6, none⟩) (v := .slice oA ops.length oc) (hrange 6 _ rfl)
      have z0 := cell_regrown (w := wr) (a := ⟨rb2, ro2 + k * 7, none⟩) (v := .int .i64 t2) (hrange2 0 _ rfl)
      have z1 := cell_regrown (w := wr) (a := ⟨rb2, ro2 + k * 7 + 1, none⟩) (v := .int .i64 r2) (hrange2 1 _ rfl)
      have z2 := cell_regrown (w := wr) (a := ⟨rb2, ro2 + k * 7 + 2, none⟩) (v := .int .i64 n2) (hrange2 2 _ rfl)
      have z3 := cell_regrown (w := wr) (a := ⟨rb2, ro2 + k * 7 + 3, none⟩) (v := .slice dA2 u2.length dc2) (hrange2 3 _ rfl)
      have z4 := cell_regrown (w := wr) (a := ⟨rb2, ro2 + k * 7 + 4, none⟩) (v := .int .i64 ut2) (hrange2 4 _ rfl)
      have z5 := cell_regrown (w := wr) (a := ⟨rb2, ro2 + k * 7 + 5, none⟩) (v := .int .i64 ur2) (hrange2 5 _ rfl)
      have z6 := cell_regrown (w := wr) (a := ⟨rb2, ro2 + k * 7 + 6, none⟩) (v := .slice oA2 ops2.length oc2) (hrange2 6 _ rfl)
      have cA := fun d os => Calls.regrown_of (HSM.out (grow (redrawn wr d) os) (below_regrown wr d os))
      clear hrange hrange2 hg1 hg2 hee
      go_upto_region 6 with fail
      refine wp_region_quiet_below (by kernel_rfl) (by kernel_rfl) ?_
      repeat (any_goals (first | go_big_quiet_step (with_reducible exact cA _ _) | quiet_step (with_reducible exact cA _ _)))
      refine wpQuiet_nil ?_
      intro _ hw'
      obtain ⟨⟨dq, osq⟩, hw''⟩ := hw'
      subst hw''
      have hBq := below_regrown wr dq osq
      generalize grow (redrawn wr dq) osq = wq at *
      go_wp2
      go_roundw
      case rel => exact ⟨k + 1, by go_num, by omega, Lib.hid (HBr.out.trans (hBq.mono HBr.out.size))⟩
      case measure => (simp [RowKit.intOf]; omega)
    · obtain rfl : k = L.length := by omega
      have i1 : ¬ (L.length : Int) < (L.length : Int) := by omega
      go_wp2
      go_ret
      exact ⟨rfl, HBr.out⟩
end Go.Proofs.YtalgbcgiiphoaaaGreatDoor
