/- What a box has and somebody has not: the reference's. Conditions: lengths in reach. | The law's question whether two boxes have the same. Conditions: lengths in reach. | Boxes that hear of groups, one of each kind. Conditions: lengths in reach; the tables of utf8. -/
import Derived.Test.YtalgbcgiiphoaaaGreatDoorTwo
import Derived.Test.YtalgbcgiiphoaaaGreatDoorBM
import Derived.Test.YtalgbcgiiphoaaaGreatDoorSAll
import Derived.Test.YtalgbcgiiphoaaaGreatDoorFew21
import Derived.Test.YtalgbcgiiphoaaaGreatDoorAw21
section
namespace Go.Proofs.YtalgbcgiiphoaaaGreatDoor
open Go.RowKit Go.Lib Go.Sort
set_option linter.unusedVariables false
attribute [local go_sem ↓] Go.wp_at_zero Go.wp_at_succ
set_option maxRecDepth 100000 in
set_option maxHeartbeats 8000000 in
theorem rbmissing_any {B P : Nat} {S : Nat → Prop} {dn wt : List Grp} {X : RbX} {w : World} (h : RbIn B P S dn wt X w) (hl : dn.length ≤ 100000) (vA : Option Addr) (vc : Nat) (v : List Int) (hv : v.length ≤ 1000) (hV : VecR w vA v) :
    Calls Tryz.prog 58 #[.pointer (some ⟨P, 0, none⟩), .slice vA v.length vc] w fun e w' => ∃ A' c', e = .returned (.slice A' (missL v X.L).length c') ∧ w'.ownsRow w.heap.size 40 7 (.slice A' (missL v X.L).length c') (missL v X.L).length ((missL v X.L).flatMap grC_) ∧ Below w.heap.size w w' := by
  obtain ⟨i0, hi, hz0, hz1, hz2⟩ := info_parts infogrC_
  obtain ⟨A0, c0, hdv⟩ := row_slice h.done
  have hLl : X.L.length ≤ 100000 := by rw [h.dlen]; exact hl
  have HX := Lib.hid h
  have HDV := Lib.hid hdv
  have HV := Lib.hid hV
  clear h hdv hV hl
  go_enter Tryz.func58, Tryz.ntmps58
  go_upto_region 3 with fail
  go_loopw [5, 6] (fun o i wr => ∃ (k : Nat) (A' : Option Addr) (c' : Nat) (ln : Nat), k ≤ X.L.length ∧ i = .int .i64 k ∧ o = .slice A' ln c' ∧ Hid (ln = (missL v (X.L.take k)).length) ∧ Hid (wr.ownsRow w.heap.size 40 7 (.slice A' ln c') ln ((missL v (X.L.take k)).flatMap grC_)) ∧ Hid (Below w.heap.size w wr)) (fun o i _ => X.L.length - (RowKit.intOf i).toNat)
  case atStart => exact ⟨0, none, 0, 0, Nat.zero_le _, rfl, rfl, Lib.hid rfl, Lib.hid (World.ownsRow_nil _ _ _ _), Lib.hid (Below.refl _ _)⟩
  case round =>
    obtain ⟨k, A', c', ln, hk, rfl, rfl, HLN, HO, HBr⟩ := hrel
    have HXr := Lib.hid (HX.out.below HBr.out)
    have p0 : wr.cell? ⟨P, 0, none⟩ = some (.slice A0 X.L.length c0) := by rw [HXr.out.cell, HDV.out]; rfl
    have hsz := HBr.out.size
    by_cases hlt : k < X.L.length
    · have i1 : (0 : Int) ≤ (k : Int) := by omega
      have i2 : (k : Int) < (X.L.length : Int) := by omega
      have hrow := HXr.out.done
      rw [HDV.out] at hrow
      obtain ⟨rb, ro, hA0, hrb, hrange⟩ := RowGr.range (RowGr.own hrow) hlt
      subst hA0
      have HSU := Lib.hid (missL_succ (v := v) hlt)
      generalize X.L.getD k gp0 = p at *
      obtain ⟨⟨⟨t, r⟩, n, dv, ⟨ut, ur⟩, ops⟩, ⟨dA, dc, oA, oc⟩⟩ := p
      obtain ⟨z, hz⟩ : ∃ z, z = atV v r := ⟨_, rfl⟩
      obtain ⟨od, hod⟩ : ∃ z, z = oldB v ⟨⟨t, r⟩, n, dv, ⟨ut, ur⟩, ops⟩ := ⟨_, rfl⟩
      have HAT := Lib.hid (fun W (hB : Below w.heap.size w W) => show Calls Tryz.prog 55 #[.slice vA v.length vc, .int .i64 r] W fun e w' => e = .returned (.int .i64 z) ∧ Below W.heap.size W w' from by
        have h9 := refat_any vA vc v r W (by omega) (fun q hq => by
          obtain ⟨a, e1, e2, e3⟩ := HV.out q hq
          exact ⟨a, e1, Nat.lt_of_lt_of_le e2 hB.size, (World.cell?_of_block (w := w) (w' := W) (a := a.add q) (by rw [show (a.add q).block = a.block from by unfold Addr.add; split <;> rfl]; exact hB.block _ e2)).trans e3⟩)
        rw [hz]
        exact h9.mono (by rintro e w' ⟨rfl, rfl⟩; exact ⟨rfl, Below.refl _ _⟩))
      have hzo : decide (n ≤ z) = od := by rw [hod, hz]; rfl
      have HRG := Lib.hid (show wr.rangeAt rb (ro + k * 7) [.int .i64 t, .int .i64 r, .int .i64 n, .slice dA dv.length dc, .int .i64 ut, .int .i64 ur, .slice oA ops.length oc] from hrange)
      have HSO := Lib.hid (show missL v (X.L.take (k + 1)) = missL v (X.L.take k) ++ (if od = true then [] else [((⟨⟨t, r⟩, n, dv, ⟨ut, ur⟩, ops⟩ : Grp), (⟨dA, dc, oA, oc⟩ : GrX))]) by rw [hod]; exact HSU.out)
      have y1 := cell_regrown (w := wr) (a := ⟨rb, ro + k * 7 + 1, none⟩) (v := .int .i64 r) (HRG.out 1 _ rfl)
      have y2 := cell_regrown (w := wr) (a := ⟨rb, ro + k * 7 + 2, none⟩) (v := .int .i64 n) (HRG.out 2 _ rfl)
      have yp := cell_regrown p0
      have cA := fun d os => Calls.regrown_of (HAT.out (grow (redrawn wr d) os) (bx_grow HBr.out hsz d os))
      have P0 := Lib.hid p0
      have hPr : P < wr.heap.size := lt_of_block HXr.out.obj
      clear hrange hrow hz hod HSU
      cases od with
      | true =>
        have hzg : decide (z < n) = false := by simp only [decide_eq_true_eq, decide_eq_false_iff_not] at hzo ⊢; omega
        have hzh : ¬ z < n := by simpa using hzg
        go_upto_region 5 with fail
        refine wp_region_quiet_below (by kernel_rfl) (by kernel_rfl) ?_
        repeat (any_goals (first | go_big_quiet_step (with_reducible exact cA _ _) | quiet_step (with_reducible exact cA _ _)))
        refine wpQuiet_nil ?_
        intro _ hw'
        obtain ⟨⟨dq, osq⟩, hw''⟩ := hw'
        subst hw''
        have hBq := below_regrown wr dq osq
        generalize grow (redrawn wr dq) osq = wq at *
        go_wp2
        go_roundw
        case rel => exact ⟨k + 1, A', c', ln, by omega, by go_num, rfl, Lib.hid (by rw [HSO.out]; simpa using HLN.out), Lib.hid (by rw [HSO.out]; simpa using HO.out.kept (gby_below (r := none) hBq) (Classical.em _)), Lib.hid (HBr.out.trans (hBq.mono hsz))⟩
        case measure => (simp [RowKit.intOf]; omega)
      | false =>
        have hzg : decide (z < n) = true := by simp only [decide_eq_true_eq, decide_eq_false_iff_not] at hzo ⊢; omega
        have hzh : z < n := by simpa using hzg
        have hln : ln ≤ 100000 := by have h9 := missL_len v (X.L.take k); rw [← HLN.out, List.length_take] at h9; omega
        go_upto_region 5 with fail
        refine wp_region_quiet_below (by kernel_rfl) (by kernel_rfl) ?_
        repeat (any_goals (first | go_big_quiet_step (with_reducible exact cA _ _) | quiet_step (with_reducible exact cA _ _)))
        refine wpQuiet_nil ?_
        intro _ hw'
        obtain ⟨⟨dq, osq⟩, hw''⟩ := hw'
        subst hw''
        have hBq := below_regrown wr dq osq
        generalize grow (redrawn wr dq) osq = wq at *
        have HRGq := Lib.hid (show wq.rangeAt rb (ro + k * 7) [.int .i64 t, .int .i64 r, .int .i64 n, .slice dA dv.length dc, .int .i64 ut, .int .i64 ur, .slice oA ops.length oc] from fun j v hv => (World.cell?_of_block (w := wr) (w' := wq) (a := ⟨rb, ro + k * 7 + j, none⟩) (hBq.block rb hrb)).trans (HRG.out j v hv))
        have p9 : wq.cell? ⟨P, 0, none⟩ = some (.slice (some ⟨rb, ro, none⟩) X.L.length c0) := (World.cell?_of_block (w := wr) (w' := wq) (a := ⟨P, 0, none⟩) (hBq.block P hPr)).trans P0.out
        have HO2 := Lib.hid (HO.out.kept (gby_below (r := none) hBq) (Classical.em _))
        have HBw2 := Lib.hid (HBr.out.trans (hBq.mono hsz))
        clear y1 y2 yp cA hBq
        go_wp2_with (first | (refine wpList_load_mid rfl _ _ rfl rb (ro + k * 7) rfl [.int .i64 t, .int .i64 r, .int .i64 n, .slice dA dv.length dc, .int .i64 ut, .int .i64 ur, .slice oA ops.length oc] _ HRGq.out Tryz.underlying40 rfl (by kernel_rfl) ?_) | (at_builtin; refine wpList_append_own _ rfl _ _ 23 rfl w.heap.size 40 i0 (.agg #[.int .i64 0, .int .i64 0, .int .i64 0, .slice none 0 0, .int .i64 0, .int .i64 0, .slice none 0 0]) 7 88 Tryz.underlying23 hi hz0 hz1 hz2 rfl (by decide) _ _ _ rfl (by exact HO2.out.alloc _) ⟨wq.heap.size, 0, none⟩ 1 1 [.int .i64 t, .int .i64 r, .int .i64 n, .slice dA dv.length dc, .int .i64 ut, .int .i64 ur, .slice oA ops.length oc] rfl rfl (fun j y h => cellsN wq [.int .i64 t, .int .i64 r, .int .i64 n, .slice dA dv.length dc, .int .i64 ut, .int .i64 ur, .slice oA ops.length oc] 40 j y h) (ocgrC_ (⟨⟨t, r⟩, n, dv, ⟨ut, ur⟩, ops⟩, ⟨dA, dc, oA, oc⟩)) (by unfold maxLen; omega) (by omega) (by have := HBw2.out.size; simp; omega) ?_; intro v' w3 hown hgrow hnil))
        obtain ⟨A3, c3, rfl⟩ := row_slice hown
        have HO3 := Lib.hid (show w3.ownsRow w.heap.size 40 7 (.slice A3 (ln + 1) c3) (ln + 1) ((missL v (X.L.take (k + 1))).flatMap grC_) by rw [HSO.out, if_neg (by decide), List.flatMap_append, List.flatMap_singleton]; exact hown)
        have HB3 := Lib.hid ((HBw2.out.alloc HBw2.out.size _).grown hgrow (by simp; have := HBw2.out.size; omega) (fun b hb => HO.out.lt b hb |>.1))
        clear hown hgrow hnil
        go_roundw
        case rel => exact ⟨k + 1, A3, c3, ln + 1, by omega, by go_num, rfl, Lib.hid (by rw [HSO.out, if_neg (by decide), List.length_append, List.length_singleton, ← HLN.out]), HO3, HB3⟩
        case measure => (simp [RowKit.intOf]; omega)
    · obtain rfl : k = X.L.length := by omega
      have i2 : ¬ (X.L.length : Int) < (X.L.length : Int) := by omega
      have HO9 := Lib.hid (show wr.ownsRow w.heap.size 40 7 (.slice A' ln c') (missL v X.L).length ((missL v X.L).flatMap grC_) by have h9 := HO.out; have h8 := HLN.out; rw [List.take_length] at h9 h8; rw [← h8]; exact h9)
      have HL9 := Lib.hid (show ln = (missL v X.L).length by have h8 := HLN.out; rw [List.take_length] at h8; exact h8)
      go_wp2
      go_ret
      refine ⟨A', c', by rw [← HL9.out]; rfl, by rw [← HL9.out]; have := HO9.out; rw [← HL9.out] at this; exact this, HBr.out⟩
end Go.Proofs.YtalgbcgiiphoaaaGreatDoor
end
section
namespace Go.Proofs.YtalgbcgiiphoaaaGreatDoor
open Go.RowKit Go.Lib Go.Sort
set_option linter.unusedVariables false
attribute [local go_sem ↓] Go.wp_at_zero Go.wp_at_succ
theorem missL_mem {v : List Int} {L : List (Grp × GrX)} {p : Grp × GrX} (h : p ∈ missL v L) : p ∈ L := (List.mem_filter.1 h).1
set_option maxRecDepth 100000 in
set_option maxHeartbeats 8000000 in
theorem same21_any {B P Q n : Nat} {w1 wr : World} {b : Bx} (h : Two B P Q n w1 b b wr) (hn : n ≤ 99998) (vA : Option Addr) (vc : Nat) (v : List Int) (S3 : Nat → Prop) (hv : v.length ≤ 1000) (hV : VecS wr S3 vA v) :
    Calls Tryz.prog 30 #[.pointer (some ⟨P, 0, none⟩), .pointer (some ⟨Q, 0, none⟩), .slice vA v.length vc] wr fun e w' => e = .returned (.bool true) ∧ Below wr.heap.size wr w' := by
  obtain ⟨X, S, XR, h1, h2, -, -, -⟩ := h.box
  have hlen := h.lenc
  have hok := h.okr
  obtain ⟨dA, dc, hdv⟩ := row_slice h2.done
  obtain ⟨wA, wc, hwv⟩ := row_slice h2.wait
  have hobj := h2.obj
  have hrd := h2.done
  have hrw := h2.wait
  rw [hdv] at hrd
  rw [hwv] at hrw
  rw [hdv, hwv] at hobj
  have hQr : Q < wr.heap.size := lt_of_block hobj
  have hdl : X.L.map Prod.fst = XR.L.map Prod.fst := by rw [h1.dl, h2.dl]
  have hwl : X.M.map Prod.fst = XR.M.map Prod.fst := by rw [h1.wl, h2.wl]
  have hld := h1.dlen
  have hlw := h1.wlen
  have hld2 := h2.dlen
  have HQO := Lib.hid hobj
  have HDN := Lib.hid (fun W (hB : Below wr.heap.size wr W) => show Calls Tryz.prog 23 #[.pointer (some ⟨P, 0, none⟩)] W fun e w' => ∃ A c, e = .returned (.slice A X.L.length c) ∧ RowGr w' A X.L ∧ Below W.heap.size W w' from (bxdone_any (h1.below hB) (by omega)).mono (by rintro e w' ⟨A, c, rfl, h8, h9⟩; exact ⟨A, c, by rw [hld], RowGr.own h8, h9⟩))
  have HWT := Lib.hid (fun W (hB : Below wr.heap.size wr W) => show Calls Tryz.prog 26 #[.pointer (some ⟨P, 0, none⟩)] W fun e w' => ∃ A c, e = .returned (.slice A X.M.length c) ∧ RowGr w' A X.M ∧ Below W.heap.size W w' from (bxwait_any (h1.below hB) (by omega)).mono (by rintro e w' ⟨A, c, rfl, h8, h9⟩; exact ⟨A, c, by rw [hlw], RowGr.own h8, h9⟩))
  have HS1 := Lib.hid (fun W (hB : Below wr.heap.size wr W) (A : Option Addr) (c : Nat) (hA : RowGr W A X.L) => show Calls Tryz.prog 10 #[.slice A X.L.length c, .slice dA XR.L.length dc] W fun e w' => e = .returned (.bool true) ∧ Below W.heap.size W w' from sameall_any X.L XR.L A dA c dc S _ W (by omega) hA (fun p hp => (h1.below hB).good p (List.mem_append.2 (.inl hp))) ((RowGr.own hrd).below hB) (fun p hp => (h2.below hB).good p (List.mem_append.2 (.inl hp))) hdl)
  have HS2 := Lib.hid (fun W (hB : Below wr.heap.size wr W) (A : Option Addr) (c : Nat) (hA : RowGr W A X.M) => show Calls Tryz.prog 10 #[.slice A X.M.length c, .slice wA XR.M.length wc] W fun e w' => e = .returned (.bool true) ∧ Below W.heap.size W w' from sameall_any X.M XR.M A wA c wc S _ W (by omega) hA (fun p hp => (h1.below hB).good p (List.mem_append.2 (.inr hp))) ((RowGr.own hrw).below hB) (fun p hp => (h2.below hB).good p (List.mem_append.2 (.inr hp))) hwl)
  have HVC := Lib.hid (fun W (hB : Below wr.heap.size wr W) => show Calls Tryz.prog 28 #[.pointer (some ⟨P, 0, none⟩)] W fun e w' => ∃ A c, e = .returned (.slice A b.v.length c) ∧ VecR w' A b.v ∧ Below W.heap.size W w' from (bxvec_any (h1.below hB)).mono (by rintro e w' ⟨A, c, rfl, h8, -, h9⟩; exact ⟨A, c, rfl, VecS.vec h8, h9⟩))
  have HRV := Lib.hid (fun W (hB : Below wr.heap.size wr W) => show Calls Tryz.prog 56 #[.pointer (some ⟨Q, 0, none⟩)] W fun e w' => ∃ A c, e = .returned (.slice A b.v.length c) ∧ VecR w' A b.v ∧ Below W.heap.size W w' from (rbvec_any (h2.below hB) hok).mono (by rintro e w' ⟨A, c, rfl, h8, -, h9⟩; exact ⟨A, c, rfl, VecS.vec h8, h9⟩))
  have hvl := h1.vlen
  have HS3 := Lib.hid (fun W (A A' : Option Addr) (c c' : Nat) (hA : VecR W A b.v) (hA' : VecR W A' b.v) => show Calls Tryz.prog 27 #[.slice A b.v.length c, .slice A' b.v.length c'] W fun e w' => e = .returned (.bool true) ∧ Below W.heap.size W w' from (same_any A A' c c' b.v b.v W (by omega) hA hA').mono (by rintro e w' ⟨rfl, h9⟩; exact ⟨by rw [decide_eq_true rfl], h9⟩))
  have HMI := Lib.hid (fun W (hB : Below wr.heap.size wr W) => show Calls Tryz.prog 57 #[.pointer (some ⟨P, 0, none⟩), .slice vA v.length vc] W fun e w' => ∃ A c, e = .returned (.slice A (missL v X.L).length c) ∧ RowGr w' A (missL v X.L) ∧ Below W.heap.size W w' from (bxmissing_any (h1.below hB) (by omega) vA vc v hv (RowG.agr (vec_low hV) (Agr.below hB))).mono (by rintro e w' ⟨A, c, rfl, h8, h9⟩; exact ⟨A, c, rfl, RowGr.own h8, h9⟩))
  have HRM := Lib.hid (fun W (hB : Below wr.heap.size wr W) => show Calls Tryz.prog 58 #[.pointer (some ⟨Q, 0, none⟩), .slice vA v.length vc] W fun e w' => ∃ A c, e = .returned (.slice A (missL v XR.L).length c) ∧ RowGr w' A (missL v XR.L) ∧ Below W.heap.size W w' from (rbmissing_any (h2.below hB) (by omega) vA vc v hv (VecS.vec (RowG.agr (vec_low hV) (Agr.below hB)))).mono (by rintro e w' ⟨A, c, rfl, h8, h9⟩; exact ⟨A, c, rfl, RowGr.own h8, h9⟩))
  have hml := missL_len v X.L
  have HS4 := Lib.hid (fun W (hB : Below wr.heap.size wr W) (A A' : Option Addr) (c c' : Nat) (hA : RowGr W A (missL v X.L)) (hA' : RowGr W A' (missL v XR.L)) => show Calls Tryz.prog 10 #[.slice A (missL v X.L).length c, .slice A' (missL v XR.L).length c'] W fun e w' => e = .returned (.bool true) ∧ Below W.heap.size W w' from sameall_any (missL v X.L) (missL v XR.L) A A' c c' S _ W (by omega) hA (fun p hp => (h1.below hB).good p (List.mem_append.2 (.inl (missL_mem hp)))) hA' (fun p hp => (h2.below hB).good p (List.mem_append.2 (.inl (missL_mem hp)))) (by rw [missL_map, missL_map, hdl]))
  generalize missL v X.L = ML at *
  generalize missL v XR.L = MR at *
  clear h1 h2 hlen hok hdv hwv hobj hrd hrw hdl hwl hld hlw hld2 hvl hml h hV hv
  go_enter Tryz.func30, Tryz.ntmps30
  go_upto_region 1 with fail
  refine wp_region_held (S := fun w' => w'.heap[Q]? = some (.cells #[.slice dA XR.L.length dc, .slice wA XR.M.length wc] 63 (0, 0))) (by kernel_rfl) ?_
  try (change wpAnyH _ _ _ _ _ _ _ _ (World.drew _))
  refine wpAnyH_take (i := 0) (v := .pointer (some ⟨P, 0, none⟩)) rfl (by kernel_rfl) (by kernel_rfl) (by kernel_rfl) (fun _ _ _ h => h) (Or.inl ⟨by rfl, fun W' hW' => by go_simp⟩) ((show wr.drew.heap[Q]? = _ from HQO.out)) ?_
  go_simp
  refine wpAnyH_take (i := 2) (v := .pointer (some ⟨Q, 0, none⟩)) rfl (by kernel_rfl) (by kernel_rfl) (by kernel_rfl) (fun _ _ _ h => h) (Or.inl ⟨by rfl, fun W' hW' => by go_simp⟩) ((show wr.drew.heap[Q]? = _ from HQO.out)) ?_
  go_simp
  refine wpAnyH_take (i := 3) (v := .pointer (some ⟨Q, 0, none⟩)) rfl (by kernel_rfl) (by kernel_rfl) (by kernel_rfl) (fun _ _ _ h => h) (Or.inl ⟨by rfl, fun W' hW' => by go_simp⟩) ((show wr.drew.heap[Q]? = _ from HQO.out)) ?_
  go_simp
  refine wpAnyH_take (i := 4) (v := .pointer (some ⟨Q, 0, none⟩)) rfl (by kernel_rfl) (by kernel_rfl) (by kernel_rfl) (fun _ _ _ h => h) (Or.inl ⟨by rfl, fun W' hW' => by go_simp⟩) ((show wr.drew.heap[Q]? = _ from HQO.out)) ?_
  go_simp
  refine wpAnyH_take (i := 5) (v := .slice dA XR.L.length dc) rfl (by kernel_rfl) (by kernel_rfl) (by kernel_rfl) (fun _ _ _ h => h) (Or.inl ⟨by rfl, fun W' hW' => by (have c_ : W'.cell? ⟨Q, 0, none⟩ = some (.slice dA XR.L.length dc) := (by rw [cell_of_row _ _ _ _ _ _ hW']; rfl); go_simp)⟩) ((show wr.drew.heap[Q]? = _ from HQO.out)) ?_
  go_simp
  have HB0 := Lib.hid (show Below wr.heap.size wr wr.drew from ⟨rfl, rfl, rfl, Nat.le_refl _, fun _ _ => rfl⟩)
  refine wpAnyH_ready (rs := [1]) (by kernel_rfl) (by simp) ?_
  refine AllReadyH.cons rfl (fun K hK => ?_) AllReadyH.nil
  go_simp
  refine (HDN.out wr.drew HB0.out).mono ?_
  rintro e w11 ⟨A1, c1, rfl, hR, hB1⟩
  have HR1 := Lib.hid hR
  clear hR
  have HB11 := Lib.hid (HB0.out.trans (hB1.mono HB0.out.size))
  have HQ11 := Lib.hid ((HB11.out.block Q hQr).trans HQO.out)
  clear hB1
  go_simp
  refine hK.out _ _ (HQ11.out) (fun _ => ?_)
  clear hK K
  refine wpAnyH_ready (rs := [6]) (by kernel_rfl) (by simp) ?_
  refine AllReadyH.cons rfl (fun K hK => ?_) AllReadyH.nil
  go_simp
  refine (HS1.out w11 HB11.out A1 c1 HR1.out).mono ?_
  rintro e w12 ⟨rfl, hB2⟩
  have HB12 := Lib.hid (HB11.out.trans (hB2.mono HB11.out.size))
  have HQ12 := Lib.hid ((HB12.out.block Q hQr).trans HQO.out)
  clear hB2
  go_simp
  refine hK.out _ _ (HQ12.out) (fun _ => ?_)
  clear hK K
  refine wpAnyH_take (i := 7) (v := .bool true) rfl (by kernel_rfl) (by kernel_rfl) (by kernel_rfl) (fun _ _ _ h => h) (Or.inl ⟨by rfl, fun W' hW' => by go_simp⟩) (HQ12.out) ?_
  go_simp
  refine wpAnyH_take (i := 8) (v := .pointer (some ⟨P, 0, none⟩)) rfl (by kernel_rfl) (by kernel_rfl) (by kernel_rfl) (fun _ _ _ h => h) (Or.inl ⟨by rfl, fun W' hW' => by go_simp⟩) (HQ12.out) ?_
  go_simp
  refine wpAnyH_take (i := 10) (v := .pointer (some ⟨Q, 0, none⟩)) rfl (by kernel_rfl) (by kernel_rfl) (by kernel_rfl) (fun _ _ _ h => h) (Or.inl ⟨by rfl, fun W' hW' => by go_simp⟩) (HQ12.out) ?_
  go_simp
  refine wpAnyH_take (i := 11) (v := .pointer (some ⟨Q, 0, none⟩)) rfl (by kernel_rfl) (by kernel_rfl) (by kernel_rfl) (fun _ _ _ h => h) (Or.inl ⟨by rfl, fun W' hW' => by go_simp⟩) (HQ12.out) ?_
  go_simp
  refine wpAnyH_take (i := 12) (v := .pointer (some ⟨Q, 1, none⟩)) rfl (by kernel_rfl) (by kernel_rfl) (by kernel_rfl) (fun _ _ _ h => h) (Or.inl ⟨by rfl, fun W' hW' => by go_simp⟩) (HQ12.out) ?_
  go_simp
  refine wpAnyH_take (i := 13) (v := .slice wA XR.M.length wc) rfl (by kernel_rfl) (by kernel_rfl) (by kernel_rfl) (fun _ _ _ h => h) (Or.inl ⟨by rfl, fun W' hW' => by (have c_ : W'.cell? ⟨Q, 1, none⟩ = some (.slice wA XR.M.length wc) := (by rw [cell_of_row _ _ _ _ _ _ hW']; rfl); go_simp)⟩) (HQ12.out) ?_
  go_simp
  refine wpAnyH_ready (rs := [9]) (by kernel_rfl) (by simp) ?_
  refine AllReadyH.cons rfl (fun K hK => ?_) AllReadyH.nil
  go_simp
  refine (HWT.out w12 HB12.out).mono ?_
  rintro e w13 ⟨A2, c2, rfl, hR, hB3⟩
  have HR2 := Lib.hid hR
  clear hR
  have HB13 := Lib.hid (HB12.out.trans (hB3.mono HB12.out.size))
  have HQ13 := Lib.hid ((HB13.out.block Q hQr).trans HQO.out)
  clear hB3
  go_simp
  refine hK.out _ _ (HQ13.out) (fun _ => ?_)
  clear hK K
  refine wpAnyH_ready (rs := [14]) (by kernel_rfl) (by simp) ?_
  refine AllReadyH.cons rfl (fun K hK => ?_) AllReadyH.nil
  go_simp
  refine (HS2.out w13 HB13.out A2 c2 HR2.out).mono ?_
  rintro e w14 ⟨rfl, hB4⟩
  have HB14 := Lib.hid (HB13.out.trans (hB4.mono HB13.out.size))
  have HQ14 := Lib.hid ((HB14.out.block Q hQr).trans HQO.out)
  clear hB4
  go_simp
  refine hK.out _ _ (HQ14.out) (fun _ => ?_)
  clear hK K
  refine wpAnyH_take (i := 15) (v := .bool true) rfl (by kernel_rfl) (by kernel_rfl) (by kernel_rfl) (fun _ _ _ h => h) (Or.inl ⟨by rfl, fun W' hW' => by go_simp⟩) (HQ14.out) ?_
  go_simp
  refine wpAnyH_take (i := 16) (v := .bool true) rfl (by kernel_rfl) (by kernel_rfl) (by kernel_rfl) (fun _ _ _ h => h) (Or.inl ⟨by rfl, fun W' hW' => by go_simp⟩) (HQ14.out) ?_
  go_simp
  refine wpAnyH_take (i := 17) (v := .pointer (some ⟨P, 0, none⟩)) rfl (by kernel_rfl) (by kernel_rfl) (by kernel_rfl) (fun _ _ _ h => h) (Or.inl ⟨by rfl, fun W' hW' => by go_simp⟩) (HQ14.out) ?_
  go_simp
  refine wpAnyH_take (i := 19) (v := .pointer (some ⟨Q, 0, none⟩)) rfl (by kernel_rfl) (by kernel_rfl) (by kernel_rfl) (fun _ _ _ h => h) (Or.inl ⟨by rfl, fun W' hW' => by go_simp⟩) (HQ14.out) ?_
  go_simp
  refine wpAnyH_ready (rs := [18]) (by kernel_rfl) (by simp) ?_
  refine AllReadyH.cons rfl (fun K hK => ?_) AllReadyH.nil
  go_simp
  refine (HVC.out w14 HB14.out).mono ?_
  rintro e w15 ⟨A3, c3, rfl, hR, hB5⟩
  have HR3 := Lib.hid hR
  clear hR
  have HB15 := Lib.hid (HB14.out.trans (hB5.mono HB14.out.size))
  have HQ15 := Lib.hid ((HB15.out.block Q hQr).trans HQO.out)
  clear hB5
  go_simp
  refine hK.out _ _ (HQ15.out) (fun _ => ?_)
  clear hK K
  refine wpAnyH_ready (rs := [20]) (by kernel_rfl) (by simp) ?_
  refine AllReadyH.cons rfl (fun K hK => ?_) AllReadyH.nil
  go_simp
  refine (HRV.out w15 HB15.out).mono ?_
  rintro e w16 ⟨A4, c4, rfl, hR, hB6⟩
  have HR4 := Lib.hid hR
  clear hR
  have HB16 := Lib.hid (HB15.out.trans (hB6.mono HB15.out.size))
  have HQ16 := Lib.hid ((HB16.out.block Q hQr).trans HQO.out)
  have HR3_6 := Lib.hid (HR3.out.below hB6)
  clear hB6
  go_simp
  refine hK.out _ _ (HQ16.out) (fun _ => ?_)
  clear hK K
  refine wpAnyH_ready (rs := [21]) (by kernel_rfl) (by simp) ?_
  refine AllReadyH.cons rfl (fun K hK => ?_) AllReadyH.nil
  go_simp
  refine (HS3.out w16 A3 A4 c3 c4 HR3_6.out HR4.out).mono ?_
  rintro e w17 ⟨rfl, hB7⟩
  have HB17 := Lib.hid (HB16.out.trans (hB7.mono HB16.out.size))
  have HQ17 := Lib.hid ((HB17.out.block Q hQr).trans HQO.out)
  clear hB7
  go_simp
  refine hK.out _ _ (HQ17.out) (fun _ => ?_)
  clear hK K
  refine wpAnyH_take (i := 22) (v := .bool true) rfl (by kernel_rfl) (by kernel_rfl) (by kernel_rfl) (fun _ _ _ h => h) (Or.inl ⟨by rfl, fun W' hW' => by go_simp⟩) (HQ17.out) ?_
  go_simp
  refine wpAnyH_take (i := 23) (v := .bool true) rfl (by kernel_rfl) (by kernel_rfl) (by kernel_rfl) (fun _ _ _ h => h) (Or.inl ⟨by rfl, fun W' hW' => by go_simp⟩) (HQ17.out) ?_
  go_simp
  refine wpAnyH_take (i := 24) (v := .pointer (some ⟨P, 0, none⟩)) rfl (by kernel_rfl) (by kernel_rfl) (by kernel_rfl) (fun _ _ _ h => h) (Or.inl ⟨by rfl, fun W' hW' => by go_simp⟩) (HQ17.out) ?_
  go_simp
  refine wpAnyH_take (i := 25) (v := .slice vA v.length vc) rfl (by kernel_rfl) (by kernel_rfl) (by kernel_rfl) (fun _ _ _ h => h) (Or.inl ⟨by rfl, fun W' hW' => by go_simp⟩) (HQ17.out) ?_
  go_simp
  refine wpAnyH_take (i := 27) (v := .pointer (some ⟨Q, 0, none⟩)) rfl (by kernel_rfl) (by kernel_rfl) (by kernel_rfl) (fun _ _ _ h => h) (Or.inl ⟨by rfl, fun W' hW' => by go_simp⟩) (HQ17.out) ?_
  go_simp
  refine wpAnyH_take (i := 28) (v := .slice vA v.length vc) rfl (by kernel_rfl) (by kernel_rfl) (by kernel_rfl) (fun _ _ _ h => h) (Or.inl ⟨by rfl, fun W' hW' => by go_simp⟩) (HQ17.out) ?_
  go_simp
  refine wpAnyH_ready (rs := [26]) (by kernel_rfl) (by simp) ?_
  refine AllReadyH.cons rfl (fun K hK => ?_) AllReadyH.nil
  go_simp
  refine (HMI.out w17 HB17.out).mono ?_
  rintro e w18 ⟨A5, c5, rfl, hR, hB8⟩
  have HR5 := Lib.hid hR
  clear hR
  have HB18 := Lib.hid (HB17.out.trans (hB8.mono HB17.out.size))
  have HQ18 := Lib.hid ((HB18.out.block Q hQr).trans HQO.out)
  clear hB8
  go_simp
  refine hK.out _ _ (HQ18.out) (fun _ => ?_)
  clear hK K
  refine wpAnyH_ready (rs := [29]) (by kernel_rfl) (by simp) ?_
  refine AllReadyH.cons rfl (fun K hK => ?_) AllReadyH.nil
  go_simp
  refine (HRM.out w18 HB18.out).mono ?_
  rintro e w19 ⟨A6, c6, rfl, hR, hB9⟩
  have HR6 := Lib.hid hR
  clear hR
  have HB19 := Lib.hid (HB18.out.trans (hB9.mono HB18.out.size))
  have HQ19 := Lib.hid ((HB19.out.block Q hQr).trans HQO.out)
  have HR5_9 := Lib.hid (HR5.out.below hB9)
  clear hB9
  go_simp
  refine hK.out _ _ (HQ19.out) (fun _ => ?_)
  clear hK K
  refine wpAnyH_ready (rs := [30]) (by kernel_rfl) (by simp) ?_
  refine AllReadyH.cons rfl (fun K hK => ?_) AllReadyH.nil
  go_simp
  refine (HS4.out w19 HB19.out A5 A6 c5 c6 HR5_9.out HR6.out).mono ?_
  rintro e w20 ⟨rfl, hB10⟩
  have HB20 := Lib.hid (HB19.out.trans (hB10.mono HB19.out.size))
  have HQ20 := Lib.hid ((HB20.out.block Q hQr).trans HQO.out)
  clear hB10
  go_simp
  refine hK.out _ _ (HQ20.out) (fun _ => ?_)
  clear hK K
  refine wpAnyH_take (i := 31) (v := .bool true) rfl (by kernel_rfl) (by kernel_rfl) (by kernel_rfl) (fun _ _ _ h => h) (Or.inl ⟨by rfl, fun W' hW' => by go_simp⟩) (HQ20.out) ?_
  go_simp
  refine wpAnyH_take (i := 32) (v := .bool true) rfl (by kernel_rfl) (by kernel_rfl) (by kernel_rfl) (fun _ _ _ h => h) (Or.inl ⟨by rfl, fun W' hW' => by go_simp⟩) (HQ20.out) ?_
  go_simp
  refine wpAnyH_done (by kernel_rfl) ?_ _
  go_simp
  go_wp2
  go_ret
  exact ⟨rfl, HB20.out⟩
end Go.Proofs.YtalgbcgiiphoaaaGreatDoor
end
section
namespace Go.Proofs.YtalgbcgiiphoaaaGreatDoor
open Go.RowKit Go.Lib Go.Sort
set_option linter.unusedVariables false
attribute [local go_sem ↓] Go.wp_at_zero Go.wp_at_succ
theorem range_low {w w' : World} {b o : Nat} {cs : List Value} (h : w.rangeAt b o cs) (hb : b < w.heap.size) (hB : Below w.heap.size w w') : w'.rangeAt b o cs := fun j v hv => (World.cell?_of_block (w := w) (w' := w') (a := ⟨b, o + j, none⟩) (hB.block b hb)).trans (h j v hv)
set_option maxRecDepth 100000 in
set_option maxHeartbeats 8000000 in
theorem played_any (L : List (Grp × GrX)) (A : Option Addr) (c : Nat) (v : List Int) (vA : Option Addr) (vc : Nat) (w : World) (hl : L.length ≤ 40000) (hR : RowGr w A L) (hG : ∀ p ∈ L, GrG w (fun k => k < w.heap.size) p) (hT : ∀ p ∈ L, ∀ o ∈ p.1.ops, o.text.size ≤ 1000000) (hv : v.length ≤ 1000) (hV : VecS w (fun k => k < w.heap.size) vA v) (htab : Tabs w) :
    Calls Tryz.prog 13 #[.slice A L.length c, .slice vA v.length vc] w fun e w' => e = .returned (.bool true) ∧ Below w.heap.size w w' := by
  have HR := Lib.hid hR
  have HG := Lib.hid hG
  have HT := Lib.hid hT
  have HV := Lib.hid hV
  have HVL := Lib.hid hv
  have HTB := Lib.hid htab
  clear hR hG hT hV hv htab
  go_enter Tryz.func13, Tryz.ntmps13
  go_upto_region 4 with (go_at_call 19; refine (bxnew_any w).mono ?_; rintro e w1 ⟨rfl, hw1⟩; have HW1 := Lib.hid hw1; clear hw1)
  have hnew := Two.new (w := w) (w1 := w1) (w2 := w1.alloc (.cells #[.slice none 0 0, .slice none 0 0] 63)) HW1.out rfl
  generalize hW2 : w1.alloc (.cells #[.slice none 0 0, .slice none 0 0] 63) = w2 at *
  clear hW2
  have HN := Lib.hid hnew
  clear hnew HW1
  generalize w1.heap.size = Q at *
  go_wp2
  go_loopw [7] (fun i wr => ∃ (j : Nat) (b : Bx), j ≤ L.length ∧ i = .int .i64 j ∧ Hid (Two w.heap.size (w.heap.size + 1) Q (2 * j) w b b wr)) (fun i _ => L.length - (RowKit.intOf i).toNat)
  case atStart => exact ⟨0, Bx.new, by omega, rfl, HN⟩
  case round =>
    obtain ⟨j, b, hj, rfl, HJ⟩ := hrel
    by_cases hlt : j < L.length
    · have i0 : (0 : Int) ≤ (j : Int) := by omega
      have i1 : (j : Int) < (L.length : Int) := by omega
      obtain ⟨rb, ro, rfl, hrb, hrg⟩ := HR.out.range hlt
      have hm : L.getD j gp0 ∈ L := by rw [List.getD_eq_getElem?_getD, List.getElem?_eq_getElem hlt]; exact List.getElem_mem hlt
      have HE := Lib.hid (HJ.out.hear (by omega) (Nat.le_refl _) (L.getD j gp0) (HG.out _ hm) (HT.out _ hm) (HTB.out.below HJ.out.low))
      have HRH := Lib.hid (fun (W : World) (b1 : Bx) (h : Two w.heap.size (w.heap.size + 1) Q (2 * j + 1) w b1 b W) => h.rhear (by omega) (Nat.le_refl _) (L.getD j gp0) (HG.out _ hm) (HT.out _ hm))
      generalize L.getD j gp0 = p at *
      obtain ⟨GA, hGA⟩ : ∃ l : List Value, l = grL p.1 p.2 := ⟨_, rfl⟩
      rw [show grA p.1 p.2.dA p.2.dc p.2.oA p.2.oc = GA.toArray by rw [hGA]; rfl] at HE HRH
      obtain ⟨b2, hb2⟩ : ∃ q, q = (hearB b p.1).1 := ⟨_, rfl⟩
      obtain ⟨nn, hnn⟩ : ∃ q, q = (hearB b p.1).2.1 := ⟨_, rfl⟩
      obtain ⟨ee, hee⟩ : ∃ q, q = (hearB b p.1).2.2 := ⟨_, rfl⟩
      rw [← hb2, ← hnn, ← hee] at HE HRH
      have HRG := Lib.hid (fun (W : World) (hB : Below w.heap.size w W) => show W.rangeAt rb (ro + j * 7) GA from by rw [hGA]; exact range_low hrg hrb hB)
      have HN := Lib.hid (show (Tryz.prog.info? 40).map (·.size) = some GA.length by rw [hGA]; kernel_rfl)
      have HRG0 := Lib.hid (HRG.out wr HJ.out.low)
      clear hb2 hnn hee hGA hrg hrb hm
      have e1 : ((nn : Int) != (nn : Int)) = false := bne_self_eq_false _
      have e2 : (ee != ee) = false := bne_self_eq_false _
      go_wp2_with (first
        | (refine wpList_load_mid rfl _ _ rfl rb (ro + j * 7) rfl GA _ HRG0.out Tryz.underlying40 rfl HN.out ?_)
        | (refine wpList_load_mid rfl _ _ rfl rb (ro + j * 7) rfl GA _ HRG5.out Tryz.underlying40 rfl HN.out ?_)
        | (go_at_call 22; refine HE.out.mono ?_; rintro e w5 ⟨rfl, hT5⟩; have HT5 := Lib.hid hT5; have HRG5 := Lib.hid (HRG.out w5 hT5.low); clear hT5)
        | (go_at_call 29; refine (HRH.out w5 b2 HT5.out).mono ?_; rintro e w6 ⟨rfl, hT6⟩; have HT6 := Lib.hid hT6; clear hT6)
        | (go_at_call 30; refine (same21_any HT6.out (by omega) vA vc v _ HVL.out (RowG.agr HV.out (Agr.below HT6.out.low))).mono ?_; rintro e w7 ⟨rfl, hB7⟩; have HT7 := Lib.hid (HT6.out.below HT6.out.low.size hB7); clear hB7))
      go_roundw
      case rel => exact ⟨j + 1, b2, by omega, by go_num, HT7⟩
      case measure => (simp [RowKit.intOf]; omega)
    · obtain rfl : j = L.length := by omega
      have i1 : ¬ (L.length : Int) < (L.length : Int) := by omega
      have HL9 := Lib.hid HJ.out.low
      go_wp2
      go_ret
      exact ⟨rfl, HL9.out⟩
set_option maxRecDepth 100000 in
set_option maxHeartbeats 8000000 in
theorem causalany_any (L : List (Grp × GrX)) (A : Option Addr) (c : Nat) (v : List Int) (vA : Option Addr) (vc : Nat) (W : World) (hc : L.length ≤ c) (hm : c ≤ maxLen) (hG : GrsS W (Here W) A L) (hT : ∀ p ∈ L, ∀ o ∈ p.1.ops, o.text.size < 9223372036854775807) (hvc : v.length ≤ vc) (hvm : vc ≤ maxLen) (hV : VecS W (Here W) vA v) (hY : ∀ x ∈ v, i63 x) (htab : Tabs W) :
    Calls Tryz.prog 4 #[.slice A L.length c, .slice vA v.length vc] W fun e w' => e = .returned (.bool true) ∧ Below W.heap.size W w' := by
  have HTB := Lib.hid htab
  have HG := Lib.hid hG
  have HV := Lib.hid hV
  have HFW := Lib.hid (few21_any L A c W hc hm hG)
  have HAW := Lib.hid (fun W' (h : Below W.heap.size W W') => awake21_any W' (htab.below h))
  have hvl9 : v.length ≤ 9223372036854775807 := by unfold maxLen at hvm; omega
  clear hG hT htab hV hY
  cases hf : fewL (L.map Prod.fst) with
  | false =>
    rw [hf] at HFW
    clear hf
    go_enter Tryz.func4, Tryz.ntmps4
    go_wp2_with (first
      | (go_at_call 11; refine HFW.out.mono ?_; rintro e w1 ⟨rfl, hB1⟩; have HB1 := Lib.hid hB1; clear hB1)
      | (go_at_call 12; refine (HAW.out w1 HB1.out).mono ?_; rintro e w2 ⟨rfl, hB2⟩; have HB2 := Lib.hid (HB1.out.trans (hB2.mono HB1.out.size)); clear hB2))
    go_ret
    exact ⟨rfl, HB2.out⟩
  | true =>
    obtain ⟨hl20, hfw⟩ := fewL_of hf
    rw [hf] at HFW
    have HFX := Lib.hid (show ∀ p ∈ L, ∀ o ∈ p.1.ops, o.text.size ≤ 1000000 from fun p hp o ho => by
      have h1 := hfw p.1 (List.mem_map.2 ⟨p, hp, rfl⟩)
      have := ((fewG_text h1.1 (by omega)).2 o ho).1
      omega)
    rw [List.length_map] at hl20
    clear hf hfw
    by_cases hv30 : 30 < v.length
    · have i1 : (30 : Int) < (v.length : Int) := by omega
      go_enter Tryz.func4, Tryz.ntmps4
      go_wp2_with (first
        | (go_at_call 11; refine HFW.out.mono ?_; rintro e w1 ⟨rfl, hB1⟩; have HB1 := Lib.hid hB1; clear hB1)
        | (go_at_call 12; refine (HAW.out w1 HB1.out).mono ?_; rintro e w2 ⟨rfl, hB2⟩; have HB2 := Lib.hid (HB1.out.trans (hB2.mono HB1.out.size)); clear hB2))
      go_ret
      exact ⟨rfl, HB2.out⟩
    · have i1 : ¬ (30 : Int) < (v.length : Int) := by omega
      have HPL := Lib.hid (fun W' (h : Below W.heap.size W W') => played_any L A c v vA vc W' (by omega) ((HG.out.row).below h) (fun p hp => ((HG.out.good p hp).agr (Agr.below h)).sub fun k hk _ => hk) HFX.out (by omega) (RowG.sub (RowG.agr HV.out (Agr.below h)) fun k hk _ => hk) (HTB.out.below h))
      go_enter Tryz.func4, Tryz.ntmps4
      go_wp2_with (first
        | (go_at_call 11; refine HFW.out.mono ?_; rintro e w1 ⟨rfl, hB1⟩; have HB1 := Lib.hid hB1; clear hB1)
        | (go_at_call 12; refine (HAW.out w1 HB1.out).mono ?_; rintro e w2 ⟨rfl, hB2⟩; have HB2 := Lib.hid (HB1.out.trans (hB2.mono HB1.out.size)); clear hB2)
        | (go_at_call 13; refine (HPL.out w2 HB2.out).mono ?_; rintro e w3 ⟨rfl, hB3⟩; have HB3 := Lib.hid (HB2.out.trans (hB3.mono HB2.out.size)); clear hB3))
      go_ret
      exact ⟨rfl, HB3.out⟩
end Go.Proofs.YtalgbcgiiphoaaaGreatDoor
end
