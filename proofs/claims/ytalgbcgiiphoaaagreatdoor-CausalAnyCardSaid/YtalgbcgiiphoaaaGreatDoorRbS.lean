/- Is a group stale for the reference's box? Conditions: lengths in reach. -/
import Derived.Test.YtalgbcgiiphoaaaGreatDoorRbQ
namespace Go.Proofs.YtalgbcgiiphoaaaGreatDoor
open Go.RowKit Go.Lib Go.Sort
set_option linter.unusedVariables false
attribute [local go_sem ↓] Go.wp_at_zero Go.wp_at_succ
theorem any_at {l : List (Grp × GrX)} {f : Grp → Bool} {k : Nat} (hk : k < l.length) (h : f (l.getD k gp0).1 = true) : (l.map Prod.fst).any f = true := by
  rw [List.any_eq_true]
  refine ⟨_, List.mem_map.2 ⟨l.getD k gp0, ?_, rfl⟩, h⟩
  rw [List.getD_eq_getElem?_getD, List.getElem?_eq_getElem hk]; exact List.getElem_mem hk
theorem any_none {l : List (Grp × GrX)} {f : Grp → Bool} (h : ∀ k, k < l.length → f (l.getD k gp0).1 = false) : (l.map Prod.fst).any f = false := by
  rw [List.any_eq_false]
  intro x hx e
  obtain ⟨p, hp, rfl⟩ := List.mem_map.1 hx
  obtain ⟨k, hk, rfl⟩ := List.getElem_of_mem hp
  have := h k hk
  rw [List.getD_eq_getElem?_getD, List.getElem?_eq_getElem hk] at this
  exact absurd e (by simp only [Option.getD_some] at this; rw [this]; decide)
set_option maxRecDepth 100000 in
set_option maxHeartbeats 16000000 in
theorem rbstale_any {B P : Nat} {S : Nat → Prop} {b : Bx} {X : RbX} {w : World} (h : RbIn B P S b.done b.wait X w) (ho : RbOk b) (g : Grp) (x : GrX) :
    Calls Tryz.prog 52 #[.pointer (some ⟨P, 0, none⟩), .agg (grA g x.dA x.dc x.oA x.oc)] w fun e w' => e = .returned (.bool (knownB b g)) ∧ Below w.heap.size w w' := by
  obtain ⟨⟨t, r⟩, n, u, ⟨ut, ur⟩, ops⟩ := g
  obtain ⟨dA, dc, oA, oc⟩ := x
  obtain ⟨ans, hans⟩ : ∃ z, z = knownB b ⟨⟨t, r⟩, n, u, ⟨ut, ur⟩, ops⟩ := ⟨_, rfl⟩
  rw [← hans]
  obtain ⟨old, hold⟩ : ∃ z, z = oldB b.v ⟨⟨t, r⟩, n, u, ⟨ut, ur⟩, ops⟩ := ⟨_, rfl⟩
  obtain ⟨z, hz⟩ : ∃ z, z = atV b.v r := ⟨_, rfl⟩
  have q1 : decide (n ≤ z) = old := by rw [hold, hz]; rfl
  have HANS := Lib.hid (show ans = ((X.L.map Prod.fst).any (fun d => d.s.eqb ⟨t, r⟩) || old || (X.M.map Prod.fst).any (fun a => clashB a ⟨⟨t, r⟩, n, u, ⟨ut, ur⟩, ops⟩)) by rw [hans, hold, h.dl, h.wl]; rfl)
  have hb0 : Below w.heap.size w (w.alloc (.cells #[.int .i64 t, .int .i64 r, .int .i64 n, .slice dA u.length dc, .int .i64 ut, .int .i64 ur, .slice oA ops.length oc] 40)) := (Below.refl _ _).alloc (Nat.le_refl _) _
  have hVC : ∀ W, Below w.heap.size w W → Calls Tryz.prog 56 #[.pointer (some ⟨P, 0, none⟩)] W fun e w' => ∃ A' c', e = .returned (.slice A' b.v.length c') ∧ VecS w' (fun _ => True) A' b.v ∧ b.v.length ≤ 16 ∧ Below W.heap.size W w' := fun W hB => rbvec_any (h.below hB) ho
  have hAT : ∀ W A' c', VecS W (fun _ => True) A' b.v → b.v.length ≤ 16 → Calls Tryz.prog 55 #[.slice A' b.v.length c', .int .i64 r] W fun e w' => e = .returned (.int .i64 z) ∧ w' = W := fun W A' c' hv hl => by
    rw [hz]; exact refat_any A' c' b.v r W (by omega) hv.vec
  have HVC := Lib.hid hVC
  have HAT := Lib.hid hAT
  have HC := Lib.hid (heap_alloc_new w (.cells #[.int .i64 t, .int .i64 r, .int .i64 n, .slice dA u.length dc, .int .i64 ut, .int .i64 ur, .slice oA ops.length oc] 40))
  have HX := Lib.hid (h.below hb0)
  have HB := Lib.hid hb0
  obtain ⟨dA0, dc0, hdv⟩ := row_slice h.done
  obtain ⟨wA0, wc0, hwv⟩ := row_slice h.wait
  have HDV := Lib.hid hdv
  have HWV := Lib.hid hwv
  have hLl : X.L.length ≤ 100000 := by have := ho.len; have := h.dlen; omega
  have hMl : X.M.length ≤ 100000 := by have := ho.len; have := h.wlen; omega
  show Calls _ _ #[.pointer (some ⟨P, 0, none⟩), .agg #[.int .i64 t, .int .i64 r, .int .i64 n, .slice dA u.length dc, .int .i64 ut, .int .i64 ur, .slice oA ops.length oc]] _ _
  clear hVC hAT h ho hans hold hb0 hz hdv hwv
  cases old with
  | true =>
    obtain rfl : ans = true := by rw [HANS.out]; simp
    go_enter Tryz.func52, Tryz.ntmps52
    go_upto_region 1 with fail
    generalize hW : w.alloc (.cells #[.int .i64 t, .int .i64 r, .int .i64 n, .slice dA u.length dc, .int .i64 ut, .int .i64 ur, .slice oA ops.length oc] 40) = W at *
    clear hW
    have hwW : w.heap.size < W.heap.size := lt_of_block HC.out
    refine wp_region_held (S := fun w' => w'.heap[w.heap.size]? = some (.cells #[.int .i64 t, .int .i64 r, .int .i64 n, .slice dA u.length dc, .int .i64 ut, .int .i64 ur, .slice oA ops.length oc] 40 (0, 0))) (by kernel_rfl) ?_
    try (change wpAnyH _ _ _ _ _ _ _ _ (World.drew _))
    refine wpAnyH_take (i := 0) (v := .pointer (some ⟨w.heap.size, 2, none⟩)) rfl (by kernel_rfl) (by kernel_rfl) (by kernel_rfl) (fun _ _ _ h => h) (Or.inl ⟨by rfl, fun W' hW' => by go_simp⟩) ((show W.drew.heap[w.heap.size]? = _ from HC.out)) ?_
    go_simp
    refine wpAnyH_take (i := 1) (v := .int .i64 n) rfl (by kernel_rfl) (by kernel_rfl) (by kernel_rfl) (fun _ _ _ h => h) (Or.inl ⟨by rfl, fun W' hW' => by (have c_ : W'.cell? ⟨w.heap.size, 2, none⟩ = some (.int .i64 n) := (by rw [cell_of_row _ _ _ _ _ _ hW']; rfl); go_simp)⟩) ((show W.drew.heap[w.heap.size]? = _ from HC.out)) ?_
    go_simp
    refine wpAnyH_take (i := 2) (v := .pointer (some ⟨P, 0, none⟩)) rfl (by kernel_rfl) (by kernel_rfl) (by kernel_rfl) (fun _ _ _ h => h) (Or.inl ⟨by rfl, fun W' hW' => by go_simp⟩) ((show W.drew.heap[w.heap.size]? = _ from HC.out)) ?_
    go_simp
    refine wpAnyH_take (i := 4) (v := .pointer (some ⟨w.heap.size, 0, none⟩)) rfl (by kernel_rfl) (by kernel_rfl) (by kernel_rfl) (fun _ _ _ h => h) (Or.inl ⟨by rfl, fun W' hW' => by go_simp⟩) ((show W.drew.heap[w.heap.size]? = _ from HC.out)) ?_
    go_simp
    refine wpAnyH_take (i := 5) (v := .pointer (some ⟨w.heap.size, 1, none⟩)) rfl (by kernel_rfl) (by kernel_rfl) (by kernel_rfl) (fun _ _ _ h => h) (Or.inl ⟨by rfl, fun W' hW' => by go_simp⟩) ((show W.drew.heap[w.heap.size]? = _ from HC.out)) ?_
    go_simp
    refine wpAnyH_take (i := 6) (v := .int .i64 r) rfl (by kernel_rfl) (by kernel_rfl) (by kernel_rfl) (fun _ _ _ h => h) (Or.inl ⟨by rfl, fun W' hW' => by (have c_ : W'.cell? ⟨w.heap.size, 1, none⟩ = some (.int .i64 r) := (by rw [cell_of_row _ _ _ _ _ _ hW']; rfl); go_simp)⟩) ((show W.drew.heap[w.heap.size]? = _ from HC.out)) ?_
    go_simp
    refine wpAnyH_ready (rs := [3]) (by kernel_rfl) (by simp) ?_
    refine AllReadyH.cons rfl (fun K hK => ?_) AllReadyH.nil
    go_simp
    have hbd : Below W.heap.size W W.drew := ⟨rfl, rfl, rfl, Nat.le_refl _, fun _ _ => rfl⟩
    refine (HVC.out W.drew (HB.out.trans (hbd.mono HB.out.size))).mono ?_
    rintro e w1 ⟨A1, c1, rfl, hv1, hl1, hB1⟩
    have HW1 := Lib.hid (hbd.trans hB1)
    have HC1 := Lib.hid ((HW1.out.block w.heap.size hwW).trans HC.out)
    have HB1 := Lib.hid (HB.out.trans (HW1.out.mono HB.out.size))
    have HV1 := Lib.hid hv1
    clear hB1 hv1 hbd
    go_simp
    refine hK.out _ _ (HC1.out) (fun _ => ?_)
    clear hK K
    refine wpAnyH_ready (rs := [7]) (by kernel_rfl) (by simp) ?_
    refine AllReadyH.cons rfl (fun K hK => ?_) AllReadyH.nil
    go_simp
    refine (HAT.out w1 A1 c1 HV1.out hl1).mono ?_
    rintro e w2 ⟨rfl, hw2⟩
    replace hw2 := hw2.symm
    subst hw2
    go_simp
    refine hK.out _ _ (HC1.out) (fun _ => ?_)
    clear hK K
    refine wpAnyH_take (i := 8) (v := .bool true) rfl (by kernel_rfl) (by kernel_rfl) (by kernel_rfl) (fun _ _ _ h => h) (Or.inl ⟨by rfl, fun W' hW' => by go_simp⟩) (HC1.out) ?_
    go_simp
    refine wpAnyH_done (by kernel_rfl) ?_ _
    go_simp
    go_wp2
    go_ret
    exact ⟨rfl, HB1.out⟩
  | false =>
    go_enter Tryz.func52, Tryz.ntmps52
    go_upto_region 1 with fail
    generalize hW : w.alloc (.cells #[.int .i64 t, .int .i64 r, .int .i64 n, .slice dA u.length dc, .int .i64 ut, .int .i64 ur, .slice oA ops.length oc] 40) = W at *
    clear hW
    have hwW : w.heap.size < W.heap.size := lt_of_block HC.out
    refine wp_region_held (S := fun w' => w'.heap[w.heap.size]? = some (.cells #[.int .i64 t, .int .i64 r, .int .i64 n, .slice dA u.length dc, .int .i64 ut, .int .i64 ur, .slice oA ops.length oc] 40 (0, 0))) (by kernel_rfl) ?_
    try (change wpAnyH _ _ _ _ _ _ _ _ (World.drew _))
    refine wpAnyH_take (i := 0) (v := .pointer (some ⟨w.heap.size, 2, none⟩)) rfl (by kernel_rfl) (by kernel_rfl) (by kernel_rfl) (fun _ _ _ h => h) (Or.inl ⟨by rfl, fun W' hW' => by go_simp⟩) ((show W.drew.heap[w.heap.size]? = _ from HC.out)) ?_
    go_simp
    refine wpAnyH_take (i := 1) (v := .int .i64 n) rfl (by kernel_rfl) (by kernel_rfl) (by kernel_rfl) (fun _ _ _ h => h) (Or.inl ⟨by rfl, fun W' hW' => by (have c_ : W'.cell? ⟨w.heap.size, 2, none⟩ = some (.int .i64 n) := (by rw [cell_of_row _ _ _ _ _ _ hW']; rfl); go_simp)⟩) ((show W.drew.heap[w.heap.size]? = _ from HC.out)) ?_
    go_simp
    refine wpAnyH_take (i := 2) (v := .pointer (some ⟨P, 0, none⟩)) rfl (by kernel_rfl) (by kernel_rfl) (by kernel_rfl) (fun _ _ _ h => h) (Or.inl ⟨by rfl, fun W' hW' => by go_simp⟩) ((show W.drew.heap[w.heap.size]? = _ from HC.out)) ?_
    go_simp
    refine wpAnyH_take (i := 4) (v := .pointer (some ⟨w.heap.size, 0, none⟩)) rfl (by kernel_rfl) (by kernel_rfl) (by kernel_rfl) (fun _ _ _ h => h) (Or.inl ⟨by rfl, fun W' hW' => by go_simp⟩) ((show W.drew.heap[w.heap.size]? = _ from HC.out)) ?_
    go_simp
    refine wpAnyH_take (i := 5) (v := .pointer (some ⟨w.heap.size, 1, none⟩)) rfl (by kernel_rfl) (by kernel_rfl) (by kernel_rfl) (fun _ _ _ h => h) (Or.inl ⟨by rfl, fun W' hW' => by go_simp⟩) ((show W.drew.heap[w.heap.size]? = _ from HC.out)) ?_
    go_simp
    refine wpAnyH_take (i := 6) (v := .int .i64 r) rfl (by kernel_rfl) (by kernel_rfl) (by kernel_rfl) (fun _ _ _ h => h) (Or.inl ⟨by rfl, fun W' hW' => by (have c_ : W'.cell? ⟨w.heap.size, 1, none⟩ = some (.int .i64 r) := (by rw [cell_of_row _ _ _ _ _ _ hW']; rfl); go_simp)⟩) ((show W.drew.heap[w.heap.size]? = _ from HC.out)) ?_
    go_simp
    refine wpAnyH_ready (rs := [3]) (by kernel_rfl) (by simp) ?_
    refine AllReadyH.cons rfl (fun K hK => ?_) AllReadyH.nil
    go_simp
    have hbd : Below W.heap.size W W.drew := ⟨rfl, rfl, rfl, Nat.le_refl _, fun _ _ => rfl⟩
    refine (HVC.out W.drew (HB.out.trans (hbd.mono HB.out.size))).mono ?_
    rintro e w1 ⟨A1, c1, rfl, hv1, hl1, hB1⟩
    have HW1 := Lib.hid (hbd.trans hB1)
    have HC1 := Lib.hid ((HW1.out.block w.heap.size hwW).trans HC.out)
    have HB1 := Lib.hid (HB.out.trans (HW1.out.mono HB.out.size))
    have HV1 := Lib.hid hv1
    clear hB1 hv1 hbd
    go_simp
    refine hK.out _ _ (HC1.out) (fun _ => ?_)
    clear hK K
    refine wpAnyH_ready (rs := [7]) (by kernel_rfl) (by simp) ?_
    refine AllReadyH.cons rfl (fun K hK => ?_) AllReadyH.nil
    go_simp
    refine (HAT.out w1 A1 c1 HV1.out hl1).mono ?_
    rintro e w2 ⟨rfl, hw2⟩
    replace hw2 := hw2.symm
    subst hw2
    go_simp
    refine hK.out _ _ (HC1.out) (fun _ => ?_)
    clear hK K
    refine wpAnyH_take (i := 8) (v := .bool false) rfl (by kernel_rfl) (by kernel_rfl) (by kernel_rfl) (fun _ _ _ h => h) (Or.inl ⟨by rfl, fun W' hW' => by go_simp⟩) (HC1.out) ?_
    go_simp
    refine wpAnyH_done (by kernel_rfl) ?_ _
    go_simp
    go_upto_region 4 with (fail)
    have HX1 := Lib.hid ((HX.out.below HW1.out))
    go_loopw [5] (fun i wr => ∃ k : Nat, i = .int .i64 k ∧ k ≤ X.M.length ∧ Hid (Below w1.heap.size w1 wr) ∧ Hid (∀ j, j < k → clashB (X.M.getD j gp0).1 ⟨⟨t, r⟩, n, u, ⟨ut, ur⟩, ops⟩ = false)) (fun i _ => X.M.length - (RowKit.intOf i).toNat)
    case atStart => exact ⟨0, rfl, Nat.zero_le _, Lib.hid (Below.refl _ _), Lib.hid (fun j hj => absurd hj (Nat.not_lt_zero j))⟩
    case round =>
      obtain ⟨k, rfl, hk, HBr, HK⟩ := hrel
      have HXr := Lib.hid (HX1.out.below HBr.out)
      have HBw := Lib.hid (HB1.out.trans (HBr.out.mono HB1.out.size))
      have HCr := Lib.hid ((HBr.out.block w.heap.size (lt_of_block HC1.out)).trans HC1.out)
      have p1 : wr.cell? ⟨P, 1, none⟩ = some (.slice wA0 X.M.length wc0) := by rw [HXr.out.cell, HWV.out]; rfl
      by_cases hlt : k < X.M.length
      · have i0 : (0 : Int) ≤ (k : Int) := by omega
        have i1 : (k : Int) < (X.M.length : Int) := by omega
        have hrow := HXr.out.wait
        rw [HWV.out] at hrow
        obtain ⟨rb, ro, hwA, hrb, hrange⟩ := RowGr.range (RowGr.own hrow) hlt
        subst hwA
        obtain ⟨cl, hcl⟩ : ∃ z, z = clashB (X.M.getD k gp0).1 ⟨⟨t, r⟩, n, u, ⟨ut, ur⟩, ops⟩ := ⟨_, rfl⟩
        have HCL := Lib.hid hcl
        generalize X.M.getD k gp0 = p at hcl hrange
        obtain ⟨⟨⟨t2, r2⟩, n2, dv, ⟨ut2, ur2⟩, ops2⟩, ⟨dA2, dc2, oA2, oc2⟩⟩ := p
        obtain ⟨b1, h1⟩ : ∃ b, b = decide (r2 = r) := ⟨_, rfl⟩
        obtain ⟨b2, h2⟩ : ∃ b, b = decide (n2 = n) := ⟨_, rfl⟩
        obtain ⟨b3, h3⟩ : ∃ b, Gst.eqb ⟨t2, r2⟩ ⟨t, r⟩ = b := ⟨_, rfl⟩
        have k1 : (r2 == r) = b1 := by rw [h1]; rfl
        have k2 : (n2 == n) = b2 := by rw [h2]; rfl
        have k3 := eq_st t2 r2 t r b3 h3
        have HCB := Lib.hid (show cl = ((b1 && b2) || b3) by rw [hcl, h1, h2, ← h3]; rfl)
        have x0 := cell_regrown (w := wr) (a := ⟨w.heap.size, 0, none⟩) (v := .int .i64 t) (by rw [cell_of_row _ _ _ _ _ _ HCr.out]; rfl)
        have x1 := cell_regrown (w := wr) (a := ⟨w.heap.size, 1, none⟩) (v := .int .i64 r) (by rw [cell_of_row _ _ _ _ _ _ HCr.out]; rfl)
        have x2 := cell_regrown (w := wr) (a := ⟨w.heap.size, 2, none⟩) (v := .int .i64 n) (by rw [cell_of_row _ _ _ _ _ _ HCr.out]; rfl)
        have y0 := cell_regrown (w := wr) (a := ⟨rb, ro + k * 7, none⟩) (v := .int .i64 t2) (hrange 0 _ rfl)
        have y1 := cell_regrown (w := wr) (a := ⟨rb, ro + k * 7 + 1, none⟩) (v := .int .i64 r2) (hrange 1 _ rfl)
        have y2 := cell_regrown (w := wr) (a := ⟨rb, ro + k * 7 + 2, none⟩) (v := .int .i64 n2) (hrange 2 _ rfl)
        have yp := cell_regrown p1
        have hMK : X.M.length ≤ 9223372036854775807 := by omega
        clear h1 h2 h3 hcl hrange hrow
        cases b1
        all_goals
          cases b2
          all_goals
            cases b3
            all_goals
              go_upto_region 6 with (fail)
              refine wp_region_quiet_below (by kernel_rfl) (by kernel_rfl) ?_
              repeat (any_goals (first | go_big_quiet_step (fail) | quiet_step (fail)))
              refine wpQuiet_nil ?_
              intro _ hw'
              obtain ⟨⟨dq, osq⟩, hw''⟩ := hw'
              subst hw''
              have hBq := below_regrown wr dq osq
              generalize grow (redrawn wr dq) osq = wq at *
              first
                | (obtain rfl : cl = true := HCB.out
                   obtain rfl : ans = true := by rw [HANS.out, any_at hlt HCL.out.symm]; simp
                   go_wp2
                   go_ret
                   exact ⟨rfl, HBw.out.trans (hBq.mono HBw.out.size)⟩)
                | (obtain rfl : cl = false := HCB.out
                   go_wp2
                   go_roundw
                   (case rel => exact ⟨k + 1, by go_num, by omega, Lib.hid (HBr.out.trans (hBq.mono HBr.out.size)), Lib.hid (fun j hj => by by_cases e : j = k; (rw [e]; exact HCL.out.symm); exact HK.out j (by omega))⟩)
                   (case measure => (simp [RowKit.intOf]; omega)))
      · obtain rfl : k = X.M.length := by omega
        have i1 : ¬ (X.M.length : Int) < (X.M.length : Int) := by omega
        have HNW := Lib.hid (any_none (f := fun a => clashB a ⟨⟨t, r⟩, n, u, ⟨ut, ur⟩, ops⟩) HK.out)
        have HXr2 := HXr
        have HCr2 := HCr
        have HBw2 := HBw
        clear HX1 HC1 HB1 HK HBr
        go_upto_region 9 with (fail)
        generalize wr = w2 at *
        go_loopw [6] (fun i wr => ∃ k : Nat, i = .int .i64 k ∧ k ≤ X.L.length ∧ Hid (Below w2.heap.size w2 wr) ∧ Hid (∀ j, j < k → (X.L.getD j gp0).1.s.eqb ⟨t, r⟩ = false)) (fun i _ => X.L.length - (RowKit.intOf i).toNat)
        case atStart => exact ⟨0, rfl, Nat.zero_le _, Lib.hid (Below.refl _ _), Lib.hid (fun j hj => absurd hj (Nat.not_lt_zero j))⟩
        case round =>
          obtain ⟨k, rfl, hk, HBr, HK⟩ := hrel
          have HXr := Lib.hid (HXr2.out.below HBr.out)
          have HBw := Lib.hid (HBw2.out.trans (HBr.out.mono HBw2.out.size))
          have HCr := Lib.hid ((HBr.out.block w.heap.size (lt_of_block HCr2.out)).trans HCr2.out)
          have p1 : wr.cell? ⟨P, 0, none⟩ = some (.slice dA0 X.L.length dc0) := by rw [HXr.out.cell, HDV.out]; rfl
          by_cases hlt : k < X.L.length
          · have i0 : (0 : Int) ≤ (k : Int) := by omega
            have i1 : (k : Int) < (X.L.length : Int) := by omega
            have hrow := HXr.out.done
            rw [HDV.out] at hrow
            obtain ⟨rb, ro, hwA, hrb, hrange⟩ := RowGr.range (RowGr.own hrow) hlt
            subst hwA
            obtain ⟨cl, hcl⟩ : ∃ z, z = (X.L.getD k gp0).1.s.eqb ⟨t, r⟩ := ⟨_, rfl⟩
            have HCL := Lib.hid hcl
            generalize X.L.getD k gp0 = p at hcl hrange
            obtain ⟨⟨⟨t2, r2⟩, n2, dv, ⟨ut2, ur2⟩, ops2⟩, ⟨dA2, dc2, oA2, oc2⟩⟩ := p
            have k3 := eq_st t2 r2 t r cl hcl.symm
            have x0 := cell_regrown (w := wr) (a := ⟨w.heap.size, 0, none⟩) (v := .int .i64 t) (by rw [cell_of_row _ _ _ _ _ _ HCr.out]; rfl)
            have x1 := cell_regrown (w := wr) (a := ⟨w.heap.size, 1, none⟩) (v := .int .i64 r) (by rw [cell_of_row _ _ _ _ _ _ HCr.out]; rfl)
            have y0 := cell_regrown (w := wr) (a := ⟨rb, ro + k * 7, none⟩) (v := .int .i64 t2) (hrange 0 _ rfl)
            have y1 := cell_regrown (w := wr) (a := ⟨rb, ro + k * 7 + 1, none⟩) (v := .int .i64 r2) (hrange 1 _ rfl)
            have yp := cell_regrown p1
            clear hcl hrange hrow
            cases cl with
            | true =>
              obtain rfl : ans = true := by rw [HANS.out, any_at (f := fun d => d.s.eqb ⟨t, r⟩) hlt HCL.out.symm]; simp
              go_upto_region 11 with (fail)
              refine wp_region_quiet_below (by kernel_rfl) (by kernel_rfl) ?_
              repeat (any_goals (first | go_big_quiet_step (fail) | quiet_step (fail)))
              refine wpQuiet_nil ?_
              intro _ hw'
              obtain ⟨⟨dq, osq⟩, hw''⟩ := hw'
              subst hw''
              have hBq := below_regrown wr dq osq
              generalize grow (redrawn wr dq) osq = wq at *
              go_wp2
              go_ret
              exact ⟨rfl, HBw.out.trans (hBq.mono HBw.out.size)⟩
            | false =>
              go_upto_region 11 with (fail)
              refine wp_region_quiet_below (by kernel_rfl) (by kernel_rfl) ?_
              repeat (any_goals (first | go_big_quiet_step (fail) | quiet_step (fail)))
              refine wpQuiet_nil ?_
              intro _ hw'
              obtain ⟨⟨dq, osq⟩, hw''⟩ := hw'
              subst hw''
              have hBq := below_regrown wr dq osq
              generalize grow (redrawn wr dq) osq = wq at *
              go_wp2
              go_roundw
              case rel => exact ⟨k + 1, by go_num, by omega, Lib.hid (HBr.out.trans (hBq.mono HBr.out.size)), Lib.hid (fun j hj => by by_cases e : j = k; (rw [e]; exact HCL.out.symm); exact HK.out j (by omega))⟩
              case measure => (simp [RowKit.intOf]; omega)
          · obtain rfl : k = X.L.length := by omega
            have i1 : ¬ (X.L.length : Int) < (X.L.length : Int) := by omega
            obtain rfl : ans = false := by rw [HANS.out, HNW.out, any_none (f := fun d => d.s.eqb ⟨t, r⟩) HK.out]; rfl
            go_wp2
            go_ret
            exact ⟨rfl, HBw.out⟩
end Go.Proofs.YtalgbcgiiphoaaaGreatDoor
