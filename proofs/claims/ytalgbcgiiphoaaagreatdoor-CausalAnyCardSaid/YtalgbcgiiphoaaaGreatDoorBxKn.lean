/- Does a box know a group? Conditions: lengths in reach. -/
import Derived.Test.YtalgbcgiiphoaaaGreatDoorBxW
import Derived.Maps.OwnSet
import Derived.Deep.RegionLaw
namespace Go.Proofs.YtalgbcgiiphoaaaGreatDoor
open Go.RowKit Go.Lib Go.Sort
set_option linter.unusedVariables false
attribute [local go_sem ↓] Go.wp_at_zero Go.wp_at_succ
set_option maxRecDepth 100000 in
set_option maxHeartbeats 4000000 in
theorem bxclash_any (a g : Grp) (x y : GrX) (gb : Nat) (w : World) (hC : w.heap[gb]? = some (.cells (grA g y.dA y.dc y.oA y.oc) 40 (0, 0))) :
    Calls Tryz.prog 79 #[.agg (grA a x.dA x.dc x.oA x.oc), .pointer (some ⟨gb, 0, none⟩)] w fun e w' => e = .returned (.bool (clashB a g)) ∧ Below w.heap.size w w' := by
  obtain ⟨⟨t, r⟩, n, u, ⟨ut, ur⟩, ops⟩ := a
  obtain ⟨⟨t2, r2⟩, n2, u2, ⟨ut2, ur2⟩, ops2⟩ := g
  obtain ⟨dA, dc, oA, oc⟩ := x
  obtain ⟨dA2, dc2, oA2, oc2⟩ := y
  obtain ⟨b1, h1⟩ : ∃ b, b = decide (r = r2) := ⟨_, rfl⟩
  obtain ⟨b2, h2⟩ : ∃ b, b = decide (n = n2) := ⟨_, rfl⟩
  obtain ⟨b3, h3⟩ : ∃ b, Gst.eqb ⟨t, r⟩ ⟨t2, r2⟩ = b := ⟨_, rfl⟩
  have q1 : (r == r2) = b1 := by rw [h1]; rfl
  have q2 : (n == n2) = b2 := by rw [h2]; rfl
  have q3 := eq_st t r t2 r2 b3 h3
  obtain ⟨ans, hans⟩ : ∃ b, b = clashB ⟨⟨t, r⟩, n, u, ⟨ut, ur⟩, ops⟩ ⟨⟨t2, r2⟩, n2, u2, ⟨ut2, ur2⟩, ops2⟩ := ⟨_, rfl⟩
  have HANS := Lib.hid (show ans = ((b1 && b2) || b3) by rw [hans, h1, h2, ← h3]; rfl)
  rw [← hans]
  have HB := Lib.hid (show Below w.heap.size w (w.alloc (.cells #[.int .i64 t, .int .i64 r, .int .i64 n, .slice dA u.length dc, .int .i64 ut, .int .i64 ur, .slice oA ops.length oc] 40)) from (Below.refl _ _).alloc (Nat.le_refl _) _)
  have HC1 := Lib.hid (heap_alloc_new w (.cells #[.int .i64 t, .int .i64 r, .int .i64 n, .slice dA u.length dc, .int .i64 ut, .int .i64 ur, .slice oA ops.length oc] 40))
  have HC2 := Lib.hid ((Below.heap_alloc w (.cells #[.int .i64 t, .int .i64 r, .int .i64 n, .slice dA u.length dc, .int .i64 ut, .int .i64 ur, .slice oA ops.length oc] 40) _ (lt_of_block hC)).trans hC)
  show Calls _ _ #[.agg #[.int .i64 t, .int .i64 r, .int .i64 n, .slice dA u.length dc, .int .i64 ut, .int .i64 ur, .slice oA ops.length oc], .pointer (some ⟨gb, 0, none⟩)] _ _
  clear hans h1 h2 h3 hC
  cases b1
  all_goals
    cases b2
    all_goals
      cases b3
      all_goals
        go_enter Tryz.func79, Tryz.ntmps79
        go_upto_region 1 with fail
        generalize hW : w.alloc (.cells #[.int .i64 t, .int .i64 r, .int .i64 n, .slice dA u.length dc, .int .i64 ut, .int .i64 ur, .slice oA ops.length oc] 40) = W at *
        clear hW
        have x0 : W.cell? ⟨w.heap.size, 0, none⟩ = some (.int .i64 t) := by rw [cell_of_row _ _ _ _ _ _ HC1.out]; rfl
        have x1 : W.cell? ⟨w.heap.size, 1, none⟩ = some (.int .i64 r) := by rw [cell_of_row _ _ _ _ _ _ HC1.out]; rfl
        have x2 : W.cell? ⟨w.heap.size, 2, none⟩ = some (.int .i64 n) := by rw [cell_of_row _ _ _ _ _ _ HC1.out]; rfl
        have y0 : W.cell? ⟨gb, 0, none⟩ = some (.int .i64 t2) := by rw [cell_of_row _ _ _ _ _ _ HC2.out]; rfl
        have y1 : W.cell? ⟨gb, 1, none⟩ = some (.int .i64 r2) := by rw [cell_of_row _ _ _ _ _ _ HC2.out]; rfl
        have y2 : W.cell? ⟨gb, 2, none⟩ = some (.int .i64 n2) := by rw [cell_of_row _ _ _ _ _ _ HC2.out]; rfl
        go_wp2
        go_ret
        exact ⟨ret_bool (by rw [HANS.out]; rfl), HB.out⟩
set_option maxRecDepth 100000 in
set_option maxHeartbeats 4000000 in
/-- the first one that clashes -/
theorem bxindex_any (A : Option Addr) (c : Nat) (M : List (Grp × GrX)) (g : Grp) (y : GrX) (gb : Nat) (w : World) (hl : M.length ≤ 1000000) (hR : RowGr w A M) (hC : w.heap[gb]? = some (.cells (grA g y.dA y.dc y.oA y.oc) 40 (0, 0))) :
    Calls Tryz.prog 114 #[.slice A M.length c, .func (Fn.func 79) #[] #[.pointer (some ⟨gb, 0, none⟩)]] w fun e w' => (∃ z : Int, e = .returned (.int .i64 z) ∧ decide (0 ≤ z) = (M.map Prod.fst).any (fun a => clashB a g)) ∧ Below w.heap.size w w' := by
  obtain ⟨m, hm⟩ : ∃ m, m = M.length := ⟨_, rfl⟩
  rw [← hm]
  obtain ⟨ans, hans⟩ : ∃ b, b = (M.map Prod.fst).any (fun a => clashB a g) := ⟨_, rfl⟩
  rw [← hans]
  have HANS := Lib.hid hans
  clear hans
  have HR := Lib.hid hR
  have HC := Lib.hid hC
  have HM := Lib.hid hm
  have hm63 : m ≤ 1000000 := by omega
  clear hR hC hm hl
  go_enter Tryz.func114, Tryz.ntmps114
  go_wp2
  go_loopw [8] (fun i wr => ∃ k : Nat, i = .int .i64 k ∧ k ≤ m ∧ Hid (Below w.heap.size w wr) ∧ Hid (∀ j, j < k → clashB (M.getD j gp0).1 g = false)) (fun i _ => m - (RowKit.intOf i).toNat)
  case atStart => exact ⟨0, rfl, Nat.zero_le _, Lib.hid (Below.refl _ _), Lib.hid (fun j hj => absurd hj (Nat.not_lt_zero j))⟩
  case round =>
    obtain ⟨k, rfl, hk, HB, HK⟩ := hrel
    by_cases hlt : k < m
    · obtain ⟨rb, ro, rfl, hrb, hrange⟩ := RowGr.range (RowGr.below HR.out HB.out) (k := k) (by rw [← HM.out]; exact hlt)
      have i1 : (0 : Int) ≤ (k : Int) := by omega
      have i2 : (k : Int) < (m : Int) := by omega
      obtain ⟨p, hp⟩ : ∃ p, p = M.getD k gp0 := ⟨_, rfl⟩
      rw [← hp] at hrange
      have HP := Lib.hid hp
      obtain ⟨a, x⟩ := p
      obtain ⟨b, hb⟩ : ∃ b, b = clashB a g := ⟨_, rfl⟩
      have HCL := Lib.hid (bxclash_any a g x y gb wr ((HB.out.block gb (lt_of_block HC.out)).trans HC.out))
      rw [← hb] at HCL
      have HBB := Lib.hid (show clashB (M.getD k gp0).1 g = b by rw [← hp, hb])
      clear hb hp
      obtain ⟨⟨t, r⟩, n, u, ⟨ut, ur⟩, ops⟩ := a
      obtain ⟨dA, dc, oA, oc⟩ := x
      have HRG := Lib.hid (show wr.rangeAt rb (ro + k * 7) [.int .i64 t, .int .i64 r, .int .i64 n, .slice dA u.length dc, .int .i64 ut, .int .i64 ur, .slice oA ops.length oc] from hrange)
      have HCL2 : Hid (Calls Tryz.prog 79 #[.agg #[.int .i64 t, .int .i64 r, .int .i64 n, .slice dA u.length dc, .int .i64 ut, .int .i64 ur, .slice oA ops.length oc], .pointer (some ⟨gb, 0, none⟩)] wr fun e w' => e = .returned (.bool b) ∧ Below wr.heap.size wr w') := HCL
      clear hrange HCL
      cases b with
      | true =>
        go_wp2_with (first
          | (refine wpList_load_mid rfl _ _ rfl rb (ro + k * 7) rfl [.int .i64 t, .int .i64 r, .int .i64 n, .slice dA u.length dc, .int .i64 ut, .int .i64 ur, .slice oA ops.length oc] _ HRG.out Tryz.underlying40 rfl (by kernel_rfl) ?_)
          | (go_at_call 79; refine HCL2.out.mono ?_; rintro e w2 ⟨rfl, hB2⟩))
        have HB2 := Lib.hid (HB.out.trans (hB2.mono HB.out.size))
        clear hB2
        go_ret
        refine ⟨⟨(k : Int), rfl, ?_⟩, HB2.out⟩
        rw [decide_eq_true i1, HANS.out]
        symm
        rw [List.any_eq_true]
        refine ⟨(M.getD k gp0).1, List.mem_map.2 ⟨M.getD k gp0, ?_, rfl⟩, HBB.out⟩
        rw [List.getD_eq_getElem?_getD, List.getElem?_eq_getElem (by rw [← HM.out]; exact hlt)]
        exact List.getElem_mem _
      | false =>
        have HK2 := Lib.hid (show ∀ j, j < k + 1 → clashB (M.getD j gp0).1 g = false from fun j hj => if h : j < k then HK.out j h else (by (obtain rfl : j = k := (by omega)); exact HBB.out))
        go_wp2_with (first
          | (refine wpList_load_mid rfl _ _ rfl rb (ro + k * 7) rfl [.int .i64 t, .int .i64 r, .int .i64 n, .slice dA u.length dc, .int .i64 ut, .int .i64 ur, .slice oA ops.length oc] _ HRG.out Tryz.underlying40 rfl (by kernel_rfl) ?_)
          | (go_at_call 79; refine HCL2.out.mono ?_; rintro e w2 ⟨rfl, hB2⟩))
        have HB2 := Lib.hid (HB.out.trans (hB2.mono HB.out.size))
        clear hB2
        exact ⟨⟨k + 1, by go_num, by omega, HB2, HK2⟩, by simp [RowKit.intOf]; omega⟩
    · obtain rfl : k = m := by omega
      have i2 : ¬ (k : Int) < (k : Int) := by omega
      go_wp2
      go_ret
      refine ⟨⟨-1, by rfl, ?_⟩, HB.out⟩
      rw [show decide ((0 : Int) ≤ -1) = false from rfl, HANS.out]
      symm
      rw [List.any_eq_false]
      intro a ha
      obtain ⟨q, hq, rfl⟩ := List.mem_map.1 ha
      obtain ⟨j, hj, rfl⟩ := List.mem_iff_getElem.1 hq
      have := HK.out j (by rw [HM.out]; exact hj)
      rw [List.getD_eq_getElem?_getD, List.getElem?_eq_getElem hj] at this
      rw [show (M[j]).1 = ((some M[j]).getD gp0).1 from rfl, this]
      decide
set_option maxRecDepth 100000 in
set_option maxHeartbeats 4000000 in
theorem bxcontains_any (A : Option Addr) (c : Nat) (M : List (Grp × GrX)) (g : Grp) (y : GrX) (gb : Nat) (w : World) (hl : M.length ≤ 1000000) (hR : RowGr w A M) (hC : w.heap[gb]? = some (.cells (grA g y.dA y.dc y.oA y.oc) 40 (0, 0))) :
    Calls Tryz.prog 78 #[.slice A M.length c, .func (Fn.func 79) #[] #[.pointer (some ⟨gb, 0, none⟩)]] w fun e w' => e = .returned (.bool ((M.map Prod.fst).any (fun a => clashB a g))) ∧ Below w.heap.size w w' := by
  have HI := Lib.hid (bxindex_any A c M g y gb w hl hR hC)
  generalize (M.map Prod.fst).any (fun a => clashB a g) = ans at *
  clear hl hR hC
  go_enter Tryz.func78, Tryz.ntmps78
  go_wp2_with fail
  refine HI.out.mono ?_
  rintro e w1 ⟨⟨z, rfl, hz⟩, hB⟩
  go_wp2
  go_ret
  exact ⟨rfl, hB⟩
end Go.Proofs.YtalgbcgiiphoaaaGreatDoor
