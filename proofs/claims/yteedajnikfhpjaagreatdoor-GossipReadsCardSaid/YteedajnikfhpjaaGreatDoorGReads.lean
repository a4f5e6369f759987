/- The law GossipReads, at every text. Conditions: lengths in reach; the tables of utf8. -/
import Derived.Test.YteedajnikfhpjaaGreatDoorRRead
import Derived.Test.YteedajnikfhpjaaGreatDoorGBack
namespace Go.Proofs.YteedajnikfhpjaaGreatDoor
open Go.RowKit Go.Lib Go.Sort
set_option linter.unusedVariables false
attribute [local go_sem ↓] Go.wp_at_zero Go.wp_at_succ
set_option maxRecDepth 100000 in
set_option maxHeartbeats 8000000 in
theorem greads_any (s : ByteArray) (w : World) (hs : s.size ≤ 9223372036854775807) (hTb : Tabs w) :
    Calls Tryz.prog 6 #[.string s] w fun e w' => e = .returned (.bool true) ∧ Below w.heap.size w w' := by
  have HAW := Lib.hid (show ∀ W, Below w.heap.size w W → Calls Tryz.prog 20 #[] W fun e w' => e = .returned (.bool true) ∧ Below W.heap.size W w' from fun W hB => awake23_any W (hTb.below hB))
  have HTB := Lib.hid hTb
  clear hTb
  by_cases hl : 5000 < s.size
  · have i1 : (5000 : Int) < (s.size : Int) := by omega
    go_enter Tryz.func6, Tryz.ntmps6
    go_wp2_with (go_at_call 20; refine (HAW.out _ (Below.refl _ _)).mono ?_; rintro e w2 ⟨rfl, hB2⟩)
    go_ret
    exact ⟨rfl, hB2⟩
  · have i1 : ¬ (5000 : Int) < (s.size : Int) := by omega
    obtain ⟨d, hd⟩ : ∃ d, d = readZ s.data.toList := ⟨_, rfl⟩
    have HD := Lib.hid (fun W (hT : Tabs W) => (read_any s W (by omega) hT).mono fun e w' h => (show ReadQ (readZ s.data.toList) W e w' from h).uni)
    have HR := Lib.hid (fun W => refread_any s W (by omega))
    rw [← hd] at HD HR
    unfold ReadU at HD HR
    obtain ⟨z, hz⟩ : ∃ z, z = rgE d := ⟨_, rfl⟩
    obtain ⟨g, hg⟩ : ∃ g, g = rgG d := ⟨_, rfl⟩
    obtain ⟨q, hq⟩ : ∃ q, q = rgV d := ⟨_, rfl⟩
    obtain ⟨ba, hba⟩ : ∃ b, b = rgA d := ⟨_, rfl⟩
    rw [← hz, ← hg, ← hq, ← hba] at HD HR
    clear hd hz hg hq hba
    have e1 : (z == z) = true := beq_self_eq_true z
    have e0 : (ba == ba) = true := beq_self_eq_true ba
    obtain ⟨⟨t, r⟩, n, v, ⟨ut, ur⟩, ops⟩ := g
    have HSM := Lib.hid (fun dA1 dA2 oA1 oA2 dc1 dc2 oc1 oc2 S1 S2 W hI1 hI2 => sameg_any ⟨⟨t, r⟩, n, v, ⟨ut, ur⟩, ops⟩ ⟨⟨t, r⟩, n, v, ⟨ut, ur⟩, ops⟩ dA1 dA2 oA1 oA2 dc1 dc2 oc1 oc2 S1 S2 W hI1 hI2)
    have HSG := Lib.hid (show sameG ⟨⟨t, r⟩, n, v, ⟨ut, ur⟩, ops⟩ ⟨⟨t, r⟩, n, v, ⟨ut, ur⟩, ops⟩ = true from sameG_iff.2 rfl)
    rw [HSG.out] at HSM
    have HSI := Lib.hid (fun A B c d W h1 h2 h3 => same_any A B c d q q W h1 h2 h3)
    have HQQ := Lib.hid (show decide (q = q) = true from decide_eq_true rfl)
    rw [HQQ.out] at HSI
    go_enter Tryz.func6, Tryz.ntmps6
    go_wp2_with fail
    refine (HD.out _ HTB.out).mono ?_
    rintro e w1 ⟨hB1, A1, c1, dA1, dc1, oA1, oc1, he, hR1, hq1, hm1, hI1⟩
    obtain rfl : e = .returned (.tuple #[.bool ba, .slice A1 q.length c1, .agg #[.int .i64 t, .int .i64 r, .int .i64 n, .slice dA1 v.length dc1, .int .i64 ut, .int .i64 ur, .slice oA1 ops.length oc1], .int .i64 z]) := he
    have hql : q.length ≤ 9223372036854775807 := by unfold maxLen at hm1; omega
    have HB1 := Lib.hid hB1
    have HI1 := Lib.hid hI1
    have HR1 := Lib.hid hR1
    clear hB1 hI1 hR1 hq1 hm1
    go_upto_region 4 with (first | (refine store_last rfl _ _ _ rfl _ _ _ _ rfl ?_ rfl ?_ ?_ ?_ ?_; (focus (simp; done)); kernel_rfl; rfl; rfl))
    have HB2 := Lib.hid (HB1.out.alloc HB1.out.size (.cells #[.int .i64 t, .int .i64 r, .int .i64 n, .slice dA1 v.length dc1, .int .i64 ut, .int .i64 ur, .slice oA1 ops.length oc1] 40))
    have HC2 := Lib.hid (heap_alloc_new w1 (.cells #[.int .i64 t, .int .i64 r, .int .i64 n, .slice dA1 v.length dc1, .int .i64 ut, .int .i64 ur, .slice oA1 ops.length oc1] 40))
    have HI2 := Lib.hid (HI1.out.agr (Agr.below ((Below.refl _ _).alloc (Nat.le_refl _) (.cells #[.int .i64 t, .int .i64 r, .int .i64 n, .slice dA1 v.length dc1, .int .i64 ut, .int .i64 ur, .slice oA1 ops.length oc1] 40))))
    have HR2 := Lib.hid (HR1.out.below ((Below.refl _ _).alloc (Nat.le_refl _) (.cells #[.int .i64 t, .int .i64 r, .int .i64 n, .slice dA1 v.length dc1, .int .i64 ut, .int .i64 ur, .slice oA1 ops.length oc1] 40)))
    generalize hV : w1.alloc (.cells #[.int .i64 t, .int .i64 r, .int .i64 n, .slice dA1 v.length dc1, .int .i64 ut, .int .i64 ur, .slice oA1 ops.length oc1] 40) = V2 at *
    clear hV
    go_wp2_with fail
    refine (HR.out V2).mono ?_
    rintro e w3 ⟨hB3, A2, c2, dA2, dc2, oA2, oc2, he, hR3, hq2, hm2, hI3⟩
    obtain rfl : e = .returned (.tuple #[.bool ba, .slice A2 q.length c2, .agg #[.int .i64 t, .int .i64 r, .int .i64 n, .slice dA2 v.length dc2, .int .i64 ut, .int .i64 ur, .slice oA2 ops.length oc2], .int .i64 z]) := he
    have HC3 := Lib.hid ((hB3.block w1.heap.size (lt_of_block HC2.out)).trans HC2.out)
    have HI3 := Lib.hid (HI2.out.agr (Agr.below hB3))
    have HR3 := Lib.hid (HR2.out.below hB3)
    have HJ3 := Lib.hid hI3
    have HS3 := Lib.hid hR3
    have HB3 := Lib.hid (HB2.out.trans (hB3.mono HB2.out.size))
    clear hB3 hI3 HI2 HC2 HR2 hR3 hq2 hm2
    go_upto_region 5 with (first | (refine store_last rfl _ _ _ rfl _ _ _ _ rfl ?_ rfl ?_ ?_ ?_ ?_; (focus (simp; done)); kernel_rfl; rfl; rfl))
    have hal := (Below.refl w3.heap.size w3).alloc (Nat.le_refl _) (.cells #[.int .i64 t, .int .i64 r, .int .i64 n, .slice dA2 v.length dc2, .int .i64 ut, .int .i64 ur, .slice oA2 ops.length oc2] 40)
    have HB4 := Lib.hid (HB3.out.alloc HB3.out.size (.cells #[.int .i64 t, .int .i64 r, .int .i64 n, .slice dA2 v.length dc2, .int .i64 ut, .int .i64 ur, .slice oA2 ops.length oc2] 40))
    have HC4 := Lib.hid ((Below.heap_alloc w3 (.cells #[.int .i64 t, .int .i64 r, .int .i64 n, .slice dA2 v.length dc2, .int .i64 ut, .int .i64 ur, .slice oA2 ops.length oc2] 40) _ (lt_of_block HC3.out)).trans HC3.out)
    have HE4 := Lib.hid (heap_alloc_new w3 (.cells #[.int .i64 t, .int .i64 r, .int .i64 n, .slice dA2 v.length dc2, .int .i64 ut, .int .i64 ur, .slice oA2 ops.length oc2] 40))
    have HI4 := Lib.hid (HI3.out.agr (Agr.below hal))
    have HJ4 := Lib.hid (HJ3.out.agr (Agr.below hal))
    have HR4 := Lib.hid (HR3.out.below hal)
    have HS4 := Lib.hid (HS3.out.below hal)
    clear hal
    generalize hV : w3.alloc (.cells #[.int .i64 t, .int .i64 r, .int .i64 n, .slice dA2 v.length dc2, .int .i64 ut, .int .i64 ur, .slice oA2 ops.length oc2] 40) = V4 at *
    clear hV
    go_wp2_with fail
    refine (HAW.out V4 HB4.out).mono ?_
    rintro e w5 ⟨rfl, hB5⟩
    have HC5 := Lib.hid ((hB5.block w1.heap.size (lt_of_block HC4.out)).trans HC4.out)
    have HE5 := Lib.hid ((hB5.block w3.heap.size (lt_of_block HE4.out)).trans HE4.out)
    have HI5 := Lib.hid (HI4.out.agr (Agr.below hB5))
    have HJ5 := Lib.hid (HJ4.out.agr (Agr.below hB5))
    have HR5 := Lib.hid (HR4.out.below hB5)
    have HS5 := Lib.hid (HS4.out.below hB5)
    have HB5 := Lib.hid (HB4.out.trans (hB5.mono HB4.out.size))
    clear hB5
    go_wp2_with fail
    refine (HSI.out A1 A2 c1 c2 w5 hql HR5.out HS5.out).mono ?_
    rintro e w6 ⟨rfl, hB6⟩
    have HC6 := Lib.hid ((hB6.block w1.heap.size (lt_of_block HC5.out)).trans HC5.out)
    have HE6 := Lib.hid ((hB6.block w3.heap.size (lt_of_block HE5.out)).trans HE5.out)
    have HI6 := Lib.hid (HI5.out.agr (Agr.below hB6))
    have HJ6 := Lib.hid (HJ5.out.agr (Agr.below hB6))
    have HB6 := Lib.hid (HB5.out.trans (hB6.mono HB5.out.size))
    clear hB6
    have a00 : w6.cell? ⟨w1.heap.size, 0, none⟩ = some (.int .i64 t) := by rw [cell_of_row _ _ _ _ _ _ HC6.out]; rfl
    have a01 : w6.cell? ⟨w1.heap.size, 1, none⟩ = some (.int .i64 r) := by rw [cell_of_row _ _ _ _ _ _ HC6.out]; rfl
    have a02 : w6.cell? ⟨w1.heap.size, 2, none⟩ = some (.int .i64 n) := by rw [cell_of_row _ _ _ _ _ _ HC6.out]; rfl
    have a03 : w6.cell? ⟨w1.heap.size, 3, none⟩ = some (.slice dA1 v.length dc1) := by rw [cell_of_row _ _ _ _ _ _ HC6.out]; rfl
    have a04 : w6.cell? ⟨w1.heap.size, 4, none⟩ = some (.int .i64 ut) := by rw [cell_of_row _ _ _ _ _ _ HC6.out]; rfl
    have a05 : w6.cell? ⟨w1.heap.size, 5, none⟩ = some (.int .i64 ur) := by rw [cell_of_row _ _ _ _ _ _ HC6.out]; rfl
    have a06 : w6.cell? ⟨w1.heap.size, 6, none⟩ = some (.slice oA1 ops.length oc1) := by rw [cell_of_row _ _ _ _ _ _ HC6.out]; rfl
    have a10 : w6.cell? ⟨w3.heap.size, 0, none⟩ = some (.int .i64 t) := by rw [cell_of_row _ _ _ _ _ _ HE6.out]; rfl
    have a11 : w6.cell? ⟨w3.heap.size, 1, none⟩ = some (.int .i64 r) := by rw [cell_of_row _ _ _ _ _ _ HE6.out]; rfl
    have a12 : w6.cell? ⟨w3.heap.size, 2, none⟩ = some (.int .i64 n) := by rw [cell_of_row _ _ _ _ _ _ HE6.out]; rfl
    have a13 : w6.cell? ⟨w3.heap.size, 3, none⟩ = some (.slice dA2 v.length dc2) := by rw [cell_of_row _ _ _ _ _ _ HE6.out]; rfl
    have a14 : w6.cell? ⟨w3.heap.size, 4, none⟩ = some (.int .i64 ut) := by rw [cell_of_row _ _ _ _ _ _ HE6.out]; rfl
    have a15 : w6.cell? ⟨w3.heap.size, 5, none⟩ = some (.int .i64 ur) := by rw [cell_of_row _ _ _ _ _ _ HE6.out]; rfl
    have a16 : w6.cell? ⟨w3.heap.size, 6, none⟩ = some (.slice oA2 ops.length oc2) := by rw [cell_of_row _ _ _ _ _ _ HE6.out]; rfl
    go_wp2_with (first
      | (refine load_at rfl _ _ rfl w1.heap.size _ _ _ rfl HC6.out Tryz.underlying40 rfl ?_ ?_; kernel_rfl)
      | (refine load_at rfl _ _ rfl w3.heap.size _ _ _ rfl HE6.out Tryz.underlying40 rfl ?_ ?_; kernel_rfl)
      | (go_at_call 19; refine (HSM.out dA1 dA2 oA1 oA2 dc1 dc2 oc1 oc2 _ _ w6 HI6.out HJ6.out).mono ?_; rintro e w7 ⟨rfl, hB7⟩))
    go_ret
    exact ⟨rfl, HB6.out.trans (hB7.mono HB6.out.size)⟩
end Go.Proofs.YteedajnikfhpjaaGreatDoor
