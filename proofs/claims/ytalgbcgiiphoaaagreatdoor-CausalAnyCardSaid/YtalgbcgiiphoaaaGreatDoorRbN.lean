/- Which group the reference's box takes next. Conditions: lengths in reach. -/
import Derived.Test.YtalgbcgiiphoaaaGreatDoorRbS
import Derived.Test.YtalgbcgiiphoaaaGreatDoorBxDr
import Derived.Test.YtalgbcgiiphoaaaGreatDoorQA
namespace Go.Proofs.YtalgbcgiiphoaaaGreatDoor
open Go.RowKit Go.Lib Go.Sort
set_option linter.unusedVariables false
attribute [local go_sem ↓] Go.wp_at_zero Go.wp_at_succ
set_option maxRecDepth 100000 in
set_option maxHeartbeats 16000000 in
theorem rbnext_any {B P : Nat} {S : Nat → Prop} {b : Bx} {X : RbX} {w : World} (h : RbIn B P S b.done b.wait X w) (ho : RbOk b) :
    Calls Tryz.prog 54 #[.pointer (some ⟨P, 0, none⟩)] w fun e w' => e = .returned (.int .i64 (bestI (bestN b.v b.wait b.wait.length))) ∧ Below w.heap.size w w' := by
  obtain ⟨mw, hmw⟩ : ∃ m, m = b.wait.length := ⟨_, rfl⟩
  rw [← hmw]
  have hmwl : mw ≤ 100000 := by have := ho.len; omega
  obtain ⟨wA, wc, hwv⟩ := row_slice h.wait
  have hXM : X.M.length = mw := by rw [h.wlen, hmw]
  rw [hXM] at hwv
  have HMW := Lib.hid hmw
  have HXM := Lib.hid hXM
  have HWV := Lib.hid hwv
  have HRow := Lib.hid (show RowGr w wA X.M from RowGr.own (c := wc) (by have := h.wait; rw [hwv, ← hXM] at this; exact this))
  have HX := Lib.hid h
  have HO := Lib.hid ho
  clear h ho hmw hXM hwv
  go_enter Tryz.func54, Tryz.ntmps54
  go_upto_region 3 with fail
  go_loopw [3, 4] (fun c i wr => ∃ (k : Nat) (z : Int), k ≤ mw ∧ i = .int .i64 k ∧ c = .int .i64 z ∧ Hid (z = bestI (bestN b.v b.wait k)) ∧ Hid (Below w.heap.size w wr)) (fun c i _ => mw - (RowKit.intOf i).toNat)
  case atStart => exact ⟨0, -1, by omega, rfl, rfl, Lib.hid rfl, Lib.hid (Below.refl _ _)⟩
  case round =>
    obtain ⟨k, z, hk, rfl, rfl, HZ, HBr⟩ := hrel
    have HBk := Lib.hid (HX.out.below HBr.out)
    have p1 : wr.cell? ⟨P, 1, none⟩ = some (.slice wA mw wc) := by rw [HBk.out.cell, HWV.out]; rfl
    by_cases hlt : k < mw
    · obtain ⟨rb, ro, rfl, hrb, hrange⟩ := RowGr.range (RowGr.below HRow.out HBr.out) (k := k) (by rw [HXM.out]; exact hlt)
      have i1 : (0 : Int) ≤ (k : Int) := by omega
      have i2 : (k : Int) < (mw : Int) := by omega
      obtain ⟨p, hp⟩ : ∃ p, p = X.M.getD k gp0 := ⟨_, rfl⟩
      have HGp := Lib.hid (show GrG wr S p by rw [hp]; exact HBk.out.good _ (List.mem_append.2 (.inr (getD_memP (by rw [HXM.out]; exact hlt)))))
      have HPW := Lib.hid (show p.1 = b.wait.getD k gz by rw [hp]; exact getD_fst _ _ HBk.out.wl k)
      have HDL := Lib.hid (show p.1.deps.length ≤ 1000 from chk_dl (HO.out.ok.chk _ (by rw [HPW.out]; exact List.mem_append.2 (.inr (getD_mem (by rw [← HMW.out]; exact hlt))))))
      rw [← hp] at hrange
      clear hp
      obtain ⟨ga, x⟩ := p
      obtain ⟨rdy, hrdy⟩ : ∃ z, z = readyB b.v ga := ⟨_, rfl⟩
      have HRDc := Lib.hid (show ∀ W, Below wr.heap.size wr W → Calls Tryz.prog 53 #[.pointer (some ⟨P, 0, none⟩), .agg (grA ga x.dA x.dc x.oA x.oc)] W fun e w' => e = .returned (.bool rdy) ∧ Below W.heap.size W w' from fun W hB => by rw [hrdy]; exact rbready_any (HBk.out.below hB) HO.out ga x (HGp.out.agr (Agr.below hB)) HDL.out)
      have HST := Lib.hid (show bestN b.v b.wait (k + 1) = if rdy && behB b.wait ga (bestN b.v b.wait k) then some k else bestN b.v b.wait k by rw [hrdy, show ga = b.wait.getD k gz from HPW.out]; rfl)
      clear hrdy HDL
      obtain ⟨⟨t, r⟩, n, u, ⟨ut, ur⟩, ops⟩ := ga
      obtain ⟨dA, dc, oA, oc⟩ := x
      have HRD2 : Hid (∀ W, Below wr.heap.size wr W → Calls Tryz.prog 53 #[.pointer (some ⟨P, 0, none⟩), .agg #[.int .i64 t, .int .i64 r, .int .i64 n, .slice dA u.length dc, .int .i64 ut, .int .i64 ur, .slice oA ops.length oc]] W fun e w' => e = .returned (.bool rdy) ∧ Below W.heap.size W w') := HRDc
      have x0 := cell_regrown (w := wr) (a := ⟨rb, ro + k * 7, none⟩) (v := .int .i64 t) (hrange 0 _ rfl)
      have x1 := cell_regrown (w := wr) (a := ⟨rb, ro + k * 7 + 1, none⟩) (v := .int .i64 r) (hrange 1 _ rfl)
      have x2 := cell_regrown (w := wr) (a := ⟨rb, ro + k * 7 + 2, none⟩) (v := .int .i64 n) (hrange 2 _ rfl)
      have x3 := cell_regrown (w := wr) (a := ⟨rb, ro + k * 7 + 3, none⟩) (v := .slice dA u.length dc) (hrange 3 _ rfl)
      have x4 := cell_regrown (w := wr) (a := ⟨rb, ro + k * 7 + 4, none⟩) (v := .int .i64 ut) (hrange 4 _ rfl)
      have x5 := cell_regrown (w := wr) (a := ⟨rb, ro + k * 7 + 5, none⟩) (v := .int .i64 ur) (hrange 5 _ rfl)
      have x6 := cell_regrown (w := wr) (a := ⟨rb, ro + k * 7 + 6, none⟩) (v := .slice oA ops.length oc) (hrange 6 _ rfl)
      have pp := cell_regrown p1
      have cA := fun d os => Calls.regrown_of (HRD2.out (grow (redrawn wr d) os) (below_regrown wr d os))
      clear hrange HRDc
      cases rdy with
      | false =>
        go_upto_region 5 with fail
        refine wp_region_quiet_below (by kernel_rfl) (by kernel_rfl) ?_
        repeat (any_goals (first | go_big_quiet_step (with_reducible exact cA _ _) | quiet_step (with_reducible exact cA _ _)))
        refine wpQuiet_nil ?_
        intro _ hw'
        obtain ⟨⟨dq, osq⟩, hw''⟩ := hw'
        subst hw''
        have hBq := below_regrown wr dq osq
        generalize grow (redrawn wr dq) osq = wq at *
        go_wp2
        go_roundw
        case rel => exact ⟨k + 1, z, by omega, by go_num, rfl, Lib.hid (by rw [HST.out]; simpa using HZ.out), Lib.hid (HBr.out.trans (hBq.mono HBr.out.size))⟩
        case measure => (simp [RowKit.intOf]; omega)
      | true =>
        cases hbn : bestN b.v b.wait k with
        | none =>
          obtain rfl : z = -1 := by rw [HZ.out, hbn]; rfl
          rw [hbn] at HST
          go_upto_region 5 with fail
          refine wp_region_quiet_below (by kernel_rfl) (by kernel_rfl) ?_
          repeat (any_goals (first | go_big_quiet_step (with_reducible exact cA _ _) | quiet_step (with_reducible exact cA _ _)))
          refine wpQuiet_nil ?_
          intro _ hw'
          obtain ⟨⟨dq, osq⟩, hw''⟩ := hw'
          subst hw''
          have hBq := below_regrown wr dq osq
          generalize grow (redrawn wr dq) osq = wq at *
          go_wp2
          go_roundw
          case rel => exact ⟨k + 1, (k : Int), by omega, by go_num, rfl, Lib.hid (by rw [HST.out]; simp [behB, bestI]), Lib.hid (HBr.out.trans (hBq.mono HBr.out.size))⟩
          case measure => (simp [RowKit.intOf]; omega)
        | some j =>
          obtain rfl : z = (j : Int) := by rw [HZ.out, hbn]; rfl
          rw [hbn] at HST
          have hjk := (bestN_lt hbn).1
          obtain ⟨rb2, ro2, he2, hrb2, hrange2⟩ := RowGr.range (RowGr.below HRow.out HBr.out) (k := j) (by rw [HXM.out]; omega)
          cases he2
          obtain ⟨q, hq⟩ : ∃ q, q = X.M.getD j gp0 := ⟨_, rfl⟩
          have HQW := Lib.hid (show q.1 = b.wait.getD j gz by rw [hq]; exact getD_fst _ _ HBk.out.wl j)
          rw [← hq] at hrange2
          clear hq hbn
          obtain ⟨gb, y⟩ := q
          obtain ⟨⟨t2, r2⟩, n2, u2, ⟨ut2, ur2⟩, ops2⟩ := gb
          obtain ⟨dA2, dc2, oA2, oc2⟩ := y
          have y0 := cell_regrown (w := wr) (a := ⟨rb, ro + j * 7, none⟩) (v := .int .i64 t2) (hrange2 0 _ rfl)
          have y1 := cell_regrown (w := wr) (a := ⟨rb, ro + j * 7 + 1, none⟩) (v := .int .i64 r2) (hrange2 1 _ rfl)
          have i3 : (0 : Int) ≤ (j : Int) := by omega
          have i4 : (j : Int) < (mw : Int) := by omega
          have i5 : ¬ (j : Int) < 0 := by omega
          have i6 : decide ((j : Int) < 0) = false := decide_eq_false i5
          obtain ⟨lt, hlt2⟩ : ∃ z, z = (⟨t, r⟩ : Gst).lt ⟨t2, r2⟩ := ⟨_, rfl⟩
          have cC := fun d os => Calls.regrown_of (show Calls Tryz.prog 87 #[.agg #[.int .i64 t, .int .i64 r], .agg #[.int .i64 t2, .int .i64 r2]] (grow (redrawn wr d) os) fun e w' => e = .returned (.bool lt) ∧ Below (grow (redrawn wr d) os).heap.size (grow (redrawn wr d) os) w' by rw [hlt2]; exact before_any t r t2 r2 _)
          have HY := Lib.hid (show behB b.wait ⟨⟨t, r⟩, n, u, ⟨ut, ur⟩, ops⟩ (some j) = lt by rw [hlt2]; show (⟨t, r⟩ : Gst).lt (b.wait.getD j gz).s = _; rw [← HQW.out])
          clear hlt2 hrange2
          cases lt with
          | true =>
            go_upto_region 5 with fail
            refine wp_region_quiet_below (by kernel_rfl) (by kernel_rfl) ?_
            repeat (any_goals (first | go_big_quiet_step (first | with_reducible exact cA _ _ | with_reducible exact cC _ _) | quiet_step (first | with_reducible exact cA _ _ | with_reducible exact cC _ _)))
            refine wpQuiet_nil ?_
            intro _ hw'
            obtain ⟨⟨dq, osq⟩, hw''⟩ := hw'
            subst hw''
            have hBq := below_regrown wr dq osq
            generalize grow (redrawn wr dq) osq = wq at *
            go_wp2
            go_roundw
            case rel => exact ⟨k + 1, (k : Int), by omega, by go_num, rfl, Lib.hid (by rw [HST.out]; rw [HY.out]; rfl), Lib.hid (HBr.out.trans (hBq.mono HBr.out.size))⟩
            case measure => (simp [RowKit.intOf]; omega)
          | false =>
            go_upto_region 5 with fail
            refine wp_region_quiet_below (by kernel_rfl) (by kernel_rfl) ?_
            repeat (any_goals (first | go_big_quiet_step (first | with_reducible exact cA _ _ | with_reducible exact cC _ _) | quiet_step (first | with_reducible exact cA _ _ | with_reducible exact cC _ _)))
            refine wpQuiet_nil ?_
            intro _ hw'
            obtain ⟨⟨dq, osq⟩, hw''⟩ := hw'
            subst hw''
            have hBq := below_regrown wr dq osq
            generalize grow (redrawn wr dq) osq = wq at *
            go_wp2
            go_roundw
            case rel => exact ⟨k + 1, (j : Int), by omega, by go_num, rfl, Lib.hid (by rw [HST.out]; rw [HY.out]; rfl), Lib.hid (HBr.out.trans (hBq.mono HBr.out.size))⟩
            case measure => (simp [RowKit.intOf]; omega)
    · obtain rfl : k = mw := by omega
      have i2 : ¬ (k : Int) < (k : Int) := by omega
      have i2d : decide ((k : Int) < (k : Int)) = false := decide_eq_false i2
      have HZ2 := Lib.hid (show Value.int .i64 z = .int .i64 (bestI (bestN b.v b.wait k)) by rw [HZ.out])
      go_wp2
      go_ret
      exact ⟨congrArg Ending.returned HZ2.out, HBr.out⟩
end Go.Proofs.YtalgbcgiiphoaaaGreatDoor
