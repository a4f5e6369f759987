/- Whether two groups are the same. Conditions: lengths in reach. -/
import Derived.Test.YtooaodgamakoeaaDoorSameOp
import Derived.Test.YtooaodgamakoeaaDoorHead
import Derived.Test.YtooaodgamakoeaaDoorMid
namespace Go.Proofs.YtooaodgamakoeaaDoor
open Go.RowKit Go.Lib Go.Sort
set_option linter.unusedVariables false
attribute [local go_sem ↓] Go.wp_at_zero Go.wp_at_succ
def sameOps (a b : List Gop) : Bool := decide (a.length = b.length) && allIx a.length (fun i => sameOp (a.getD i (opO 0 .zero)) (b.getD i (opO 0 .zero)))
theorem sameOps_iff {u v : List Gop} : sameOps u v = true ↔ u = v := by
  unfold sameOps
  rw [Bool.and_eq_true, decide_eq_true_eq]
  refine ⟨fun ⟨h1, h2⟩ => List.ext_getElem h1 fun i hi hj => ?_, fun h => ⟨by rw [h], allIx_true fun i _ => by rw [h, sameOp_iff]⟩⟩
  have := allIx_of h2 i hi
  rw [sameOp_iff, List.getD_eq_getElem?_getD, List.getD_eq_getElem?_getD, List.getElem?_eq_getElem hi, List.getElem?_eq_getElem hj] at this
  exact this
def sameG (a b : Grp) : Bool := a.s.eqb b.s && decide (a.n = b.n) && decide (a.deps = b.deps) && a.u.eqb b.u && sameOps a.ops b.ops
theorem sameG_iff {a b : Grp} : sameG a b = true ↔ a = b := by
  obtain ⟨a1, a2, a3, a4, a5⟩ := a
  obtain ⟨b1, b2, b3, b4, b5⟩ := b
  simp only [sameG, Bool.and_eq_true, decide_eq_true_eq, Gst.eqb_iff, sameOps_iff, Grp.mk.injEq]
  constructor
  · rintro ⟨⟨⟨⟨h1, h2⟩, h3⟩, h4⟩, h5⟩; exact ⟨h1, h2, h3, h4, h5⟩
  · rintro ⟨h1, h2, h3, h4, h5⟩; exact ⟨⟨⟨⟨h1, h2⟩, h3⟩, h4⟩, h5⟩
set_option maxRecDepth 100000 in
set_option maxHeartbeats 16000000 in
theorem sameg_loop (t1 r1 n1 : Int) (v1 : List Int) (ut1 ur1 : Int) (ops1 : List Gop) (t2 r2 n2 : Int) (v2 : List Int) (ut2 ur2 : Int) (ops2 : List Gop) (dA1 dA2 oA1 oA2 : Option Addr) (dc1 dc2 oc1 oc2 : Nat) (S1 S2 : Nat → Prop) (w : World) (ans : Bool)
    (q0 : ∀ w, (binOp .neq 25 (.agg #[.int .i64 t1, .int .i64 r1]) (.agg #[.int .i64 t2, .int .i64 r2])).run Tryd.prog w = .ok (.bool !true) w) (e1 : (n1 != n2) = false)
    (q3 : ∀ w, (binOp .neq 25 (.agg #[.int .i64 ut1, .int .i64 ur1]) (.agg #[.int .i64 ut2, .int .i64 ur2])).run Tryd.prog w = .ok (.bool !true) w) (hv1 : v1.length ≤ 9223372036854775807) (ho1 : ops1.length ≤ 9223372036854775807) (hl0 : ops1.length = ops2.length)
    (hans : ans = allIx ops1.length (fun i => sameOp (ops1.getD i (opO 0 .zero)) (ops2.getD i (opO 0 .zero))))
    (hD : ∀ W, Below w.heap.size w W → Calls Tryd.prog 27 #[.slice dA1 v1.length dc1, .slice dA2 v2.length dc2] W fun e w' => e = .returned (.bool true) ∧ Below W.heap.size W w') (hI1 : OpsS w S1 oA1 ops1) (hI2 : OpsS w S2 oA2 ops2) :
    Calls Tryd.prog 21 #[.agg #[.int .i64 t1, .int .i64 r1, .int .i64 n1, .slice dA1 v1.length dc1, .int .i64 ut1, .int .i64 ur1, .slice oA1 ops1.length oc1], .agg #[.int .i64 t2, .int .i64 r2, .int .i64 n2, .slice dA2 v2.length dc2, .int .i64 ut2, .int .i64 ur2, .slice oA2 ops2.length oc2]] w fun e w' => e = .returned (.bool ans) ∧ Below w.heap.size w w' := by
  have HB2 := Lib.hid (show Below w.heap.size w ((w.alloc (.cells #[.int .i64 t1, .int .i64 r1, .int .i64 n1, .slice dA1 v1.length dc1, .int .i64 ut1, .int .i64 ur1, .slice oA1 ops1.length oc1] 34)).alloc (.cells #[.int .i64 t2, .int .i64 r2, .int .i64 n2, .slice dA2 v2.length dc2, .int .i64 ut2, .int .i64 ur2, .slice oA2 ops2.length oc2] 34)) from ((Below.refl _ _).alloc (Nat.le_refl _) _).alloc (by simp) _)
  have HC1 := Lib.hid ((Below.heap_alloc (w.alloc (.cells #[.int .i64 t1, .int .i64 r1, .int .i64 n1, .slice dA1 v1.length dc1, .int .i64 ut1, .int .i64 ur1, .slice oA1 ops1.length oc1] 34)) (.cells #[.int .i64 t2, .int .i64 r2, .int .i64 n2, .slice dA2 v2.length dc2, .int .i64 ut2, .int .i64 ur2, .slice oA2 ops2.length oc2] 34) w.heap.size (by simp)).trans (heap_alloc_new w _))
  have HC2 := Lib.hid (heap_alloc_newC (n := w.heap.size + 1) (w.alloc (.cells #[.int .i64 t1, .int .i64 r1, .int .i64 n1, .slice dA1 v1.length dc1, .int .i64 ut1, .int .i64 ur1, .slice oA1 ops1.length oc1] 34)) (.cells #[.int .i64 t2, .int .i64 r2, .int .i64 n2, .slice dA2 v2.length dc2, .int .i64 ut2, .int .i64 ur2, .slice oA2 ops2.length oc2] 34) (by simp))
  have hl : ops1.length = ops2.length := hl0
  have e4 : ((ops1.length : Int) != (ops2.length : Int)) = false := by rw [bne_eq_false_iff_eq, hl]
  have HL := Lib.hid hl
  have HANS := Lib.hid hans
  have HD := Lib.hid hD
  have HI1 := Lib.hid hI1
  have HI2 := Lib.hid hI2
  clear hl hans hD hI1 hI2 hl0
  go_enter Tryd.func21, Tryd.ntmps21
  go_upto_region 3 with (go_at_call 27; refine (HD.out _ HB2.out).mono ?_; rintro e w3 ⟨rfl, hB3⟩; have HE1 := Lib.hid ((hB3.block w.heap.size (by simp; omega)).trans HC1.out); have HE2 := Lib.hid ((hB3.block (w.heap.size + 1) (by simp)).trans HC2.out); have HB3 := Lib.hid (HB2.out.trans (hB3.mono HB2.out.size)); clear hB3; have f14 : w3.cell? ⟨w.heap.size, 4, none⟩ = some (.int .i64 ut1) := by { rw [cell_of_row _ _ _ _ _ _ HE1.out]; rfl }; have f15 : w3.cell? ⟨w.heap.size, 5, none⟩ = some (.int .i64 ur1) := by { rw [cell_of_row _ _ _ _ _ _ HE1.out]; rfl }; have f16 : w3.cell? ⟨w.heap.size, 6, none⟩ = some (.slice oA1 ops1.length oc1) := by { rw [cell_of_row _ _ _ _ _ _ HE1.out]; rfl }; have f24 : w3.cell? ⟨w.heap.size + 1, 4, none⟩ = some (.int .i64 ut2) := by { rw [cell_of_row _ _ _ _ _ _ HE2.out]; rfl }; have f25 : w3.cell? ⟨w.heap.size + 1, 5, none⟩ = some (.int .i64 ur2) := by { rw [cell_of_row _ _ _ _ _ _ HE2.out]; rfl }; have f26 : w3.cell? ⟨w.heap.size + 1, 6, none⟩ = some (.slice oA2 ops2.length oc2) := by { rw [cell_of_row _ _ _ _ _ _ HE2.out]; rfl })
  have hlt3 : w.heap.size + 1 < w3.heap.size := lt_of_block HE2.out
  obtain ⟨X1, hX1, hX1i⟩ := HI1.out
  obtain ⟨X2, hX2, hX2i⟩ := HI2.out
  have HX1 := Lib.hid hX1
  have HX1i := Lib.hid hX1i
  have HX2 := Lib.hid hX2
  have HX2i := Lib.hid hX2i
  clear hX1 hX1i hX2 hX2i q0 q3 e1 e4 f14 f15 f24 f25 f16 f26
  obtain ⟨m, hm⟩ : ∃ m, m = ops1.length := ⟨_, rfl⟩
  have HM := Lib.hid hm
  go_upto_region 4 with (fail)
  go_loopw [5] (fun i wr => ∃ j : Nat, j ≤ m ∧ i = .int .i64 j ∧ Below w3.heap.size w3 wr ∧ Hid (∀ i, i < j → sameOp (ops1.getD i (opO 0 .zero)) (ops2.getD i (opO 0 .zero)) = true)) (fun i _ => m - (RowKit.intOf i).toNat)
  case atStart => exact ⟨0, by omega, rfl, Below.refl _ _, Lib.hid (fun i hi => absurd hi (by omega))⟩
  case round =>
    obtain ⟨j, hj, rfl, hBr, HK⟩ := hrel
    have f16 : wr.cell? ⟨w.heap.size, 6, none⟩ = some (.slice oA1 ops1.length oc1) := by rw [cell_of_row _ _ _ _ _ _ ((hBr.block w.heap.size (by omega)).trans HE1.out)]; rfl
    have f26 : wr.cell? ⟨w.heap.size + 1, 6, none⟩ = some (.slice oA2 ops2.length oc2) := by rw [cell_of_row _ _ _ _ _ _ ((hBr.block (w.heap.size + 1) hlt3).trans HE2.out)]; rfl
    have HBw := Lib.hid (HB3.out.trans (hBr.mono HB3.out.size))
    by_cases hlt : j < m
    · have hj1 : j < ops1.length := by omega
      have hj2 : j < ops2.length := by have := HL.out; omega
      obtain ⟨ab, ao, rfl, -, hab, hc⟩ := (RowG.agr HX1.out (Agr.below HBw.out)) j hj1
      obtain ⟨bb, bo, rfl, -, hbb, hd⟩ := (RowG.agr HX2.out (Agr.below HBw.out)) j hj2
      have hi1 := (HX1i.out j hj1).agr (Agr.below HBw.out)
      have hi2 := (HX2i.out j hj2).agr (Agr.below HBw.out)
      obtain ⟨o1, ho1⟩ : ∃ o, o = ops1.getD j (opO 0 .zero) := ⟨_, rfl⟩
      obtain ⟨o2, ho2⟩ : ∃ o, o = ops2.getD j (opO 0 .zero) := ⟨_, rfl⟩
      obtain ⟨x1, hx1⟩ : ∃ x, x = X1 j := ⟨_, rfl⟩
      obtain ⟨x2, hx2⟩ : ∃ x, x = X2 j := ⟨_, rfl⟩
      simp only [← ho1, ← hx1] at hc hi1
      simp only [← ho2, ← hx2] at hd hi2
      obtain ⟨bs, hbs⟩ : ∃ b, b = sameOp o1 o2 := ⟨_, rfl⟩
      have HS := Lib.hid (show sameOp (ops1.getD j (opO 0 .zero)) (ops2.getD j (opO 0 .zero)) = bs by rw [← ho1, ← ho2, hbs])
      have hr1 := range_regrown (op_range hc)
      have hr2 := range_regrown (op_range hd)
      have hl1 : (opL o1 x1).length = 18 := rfl
      have hl2 : (opL o2 x2).length = 18 := rfl
      have hsm : ∀ d os, Calls Tryd.prog 54 #[.agg (opL o1 x1).toArray, .agg (opL o2 x2).toArray] (grow (redrawn wr d) os) fun e w'' => e = .returned (.bool bs) ∧ Below (grow (redrawn wr d) os).heap.size (grow (redrawn wr d) os) w'' := fun d os => by
        rw [hbs]; exact sameop_any o1 o2 x1 x2 S1 S2 (grow (redrawn wr d) os) (hi1.agr (Agr.below (below_regrown wr d os))) (hi2.agr (Agr.below (below_regrown wr d os)))
      have cS := fun d os => Calls.regrown_of (hsm d os)
      clear hsm
      generalize opL o1 x1 = k1 at *
      generalize opL o2 x2 = k2 at *
      have hn1 : (Tryd.prog.info? 31).map (·.size) = some k1.length := by rw [hl1]; kernel_rfl
      have hn2 : (Tryd.prog.info? 31).map (·.size) = some k2.length := by rw [hl2]; kernel_rfl
      have HR1 := Lib.hid hr1
      have HR2 := Lib.hid hr2
      have HN1 := Lib.hid hn1
      have HN2 := Lib.hid hn2
      clear hr1 hr2 hn1 hn2 hl1 hl2
      have g16 := cell_regrown f16
      have g26 := cell_regrown f26
      clear hc hd hi1 hi2 ho1 ho2 hx1 hx2 hbs
      have i1 : (0 : Int) ≤ (j : Int) := by omega
      have i2 : (j : Int) < (ops1.length : Int) := by omega
      have i3 : (j : Int) < (ops2.length : Int) := by omega
      have i4 : j < ops1.length := hj1
      have i5 : j < ops2.length := hj2
      go_wp2
      refine wp_region_quiet_below (by kernel_rfl) (by kernel_rfl) ?_
      repeat (any_goals (first | (refine quiet_load_mid rfl _ _ rfl ab (ao + j * 18) rfl k1 _ HR1.out Tryd.underlying31 rfl HN1.out ?_) | (refine quiet_load_mid rfl _ _ rfl bb (bo + j * 18) rfl k2 _ HR2.out Tryd.underlying31 rfl HN2.out ?_) | go_big_quiet_step (with_reducible exact cS _ _) | quiet_step (with_reducible exact cS _ _)))
      refine wpQuiet_nil ?_
      intro _ hw'
      obtain ⟨⟨dq, osq⟩, hw''⟩ := hw'
      subst hw''
      have hBq := below_regrown wr dq osq
      generalize grow (redrawn wr dq) osq = wq at *
      cases bs with
      | false =>
        obtain rfl : ans = false := by rw [HANS.out, allIx_false hj1 HS.out]
        go_wp2
        go_ret
        exact ⟨rfl, HBw.out.trans (hBq.mono HBw.out.size)⟩
      | true =>
        have HK2 := Lib.hid (show ∀ i, i < j + 1 → sameOp (ops1.getD i (opO 0 .zero)) (ops2.getD i (opO 0 .zero)) = true from fun i hi => if h : i < j then HK.out i h else (by (obtain rfl : i = j := (by omega)); exact HS.out))
        go_wp2
        go_roundw
        case rel => exact ⟨j + 1, by omega, by go_num, hBr.trans (hBq.mono hBr.size), HK2⟩
        case measure => simp [RowKit.intOf]; omega
    · obtain rfl : j = m := by omega
      obtain rfl : ans = true := by rw [HANS.out, ← HM.out, allIx_true HK.out]
      have i6 : ¬ j < ops1.length := by omega
      have i7 : decide (j < ops1.length) = false := decide_eq_false i6
      go_wp2
      go_ret
      exact ⟨rfl, HBw.out⟩
set_option maxRecDepth 100000 in
set_option maxHeartbeats 16000000 in
theorem sameg_any (a b : Grp) (dA1 dA2 oA1 oA2 : Option Addr) (dc1 dc2 oc1 oc2 : Nat) (S1 S2 : Nat → Prop) (w : World) (hI1 : GrIn w S1 a dA1 dc1 oA1 oc1) (hI2 : GrIn w S2 b dA2 dc2 oA2 oc2) :
    Calls Tryd.prog 21 #[.agg (grA a dA1 dc1 oA1 oc1), .agg (grA b dA2 dc2 oA2 oc2)] w fun e w' => e = .returned (.bool (sameG a b)) ∧ Below w.heap.size w w' := by
  obtain ⟨ans, hans⟩ : ∃ r, r = sameG a b := ⟨_, rfl⟩
  rw [← hans]
  obtain ⟨⟨t1, r1⟩, n1, v1, ⟨ut1, ur1⟩, ops1⟩ := a
  obtain ⟨⟨t2, r2⟩, n2, v2, ⟨ut2, ur2⟩, ops2⟩ := b
  obtain ⟨b0, h0⟩ : ∃ b, Gst.eqb ⟨t1, r1⟩ ⟨t2, r2⟩ = b := ⟨_, rfl⟩
  obtain ⟨b1, h1⟩ : ∃ b, decide (n1 = n2) = b := ⟨_, rfl⟩
  obtain ⟨b2, h2⟩ : ∃ b, decide (v1 = v2) = b := ⟨_, rfl⟩
  obtain ⟨b3, h3⟩ : ∃ b, Gst.eqb ⟨ut1, ur1⟩ ⟨ut2, ur2⟩ = b := ⟨_, rfl⟩
  obtain ⟨b4, h4⟩ : ∃ b, decide (ops1.length = ops2.length) = b := ⟨_, rfl⟩
  have HANS := Lib.hid (show ans = (b0 && b1 && b2 && b3 && (b4 && allIx ops1.length (fun i => sameOp (ops1.getD i (opO 0 .zero)) (ops2.getD i (opO 0 .zero))))) by rw [hans, ← h0, ← h1, ← h2, ← h3, ← h4]; rfl)
  have q0 := ne_st t1 r1 t2 r2 b0 h0
  have q3 := ne_st ut1 ur1 ut2 ur2 b3 h3
  have hv1 : v1.length ≤ 9223372036854775807 := by have := hI1.dle; have := hI1.dmax; unfold maxLen at this; simp only at *; omega
  have ho1 : ops1.length ≤ 9223372036854775807 := by have := hI1.ole; have := hI1.omax; unfold maxLen at this; simp only at *; omega
  have HD := Lib.hid (show ∀ W, Below w.heap.size w W → Calls Tryd.prog 27 #[.slice dA1 v1.length dc1, .slice dA2 v2.length dc2] W fun e w' => e = .returned (.bool b2) ∧ Below W.heap.size W w' from fun W hB => by
    rw [← h2]; exact same_any dA1 dA2 dc1 dc2 v1 v2 W hv1 (hI1.deps.vec.below hB) (hI2.deps.vec.below hB))
  have HI1 := Lib.hid hI1.ops
  have HI2 := Lib.hid hI2.ops
  have H4 := Lib.hid h4
  clear h0 h2 h3 hI1 hI2 hans
  show Calls _ _ #[.agg #[.int .i64 t1, .int .i64 r1, .int .i64 n1, .slice dA1 v1.length dc1, .int .i64 ut1, .int .i64 ur1, .slice oA1 ops1.length oc1], .agg #[.int .i64 t2, .int .i64 r2, .int .i64 n2, .slice dA2 v2.length dc2, .int .i64 ut2, .int .i64 ur2, .slice oA2 ops2.length oc2]] _ _
  have HB2 := Lib.hid (show Below w.heap.size w ((w.alloc (.cells #[.int .i64 t1, .int .i64 r1, .int .i64 n1, .slice dA1 v1.length dc1, .int .i64 ut1, .int .i64 ur1, .slice oA1 ops1.length oc1] 34)).alloc (.cells #[.int .i64 t2, .int .i64 r2, .int .i64 n2, .slice dA2 v2.length dc2, .int .i64 ut2, .int .i64 ur2, .slice oA2 ops2.length oc2] 34)) from ((Below.refl _ _).alloc (Nat.le_refl _) _).alloc (by simp) _)
  have HC1 := Lib.hid ((Below.heap_alloc (w.alloc (.cells #[.int .i64 t1, .int .i64 r1, .int .i64 n1, .slice dA1 v1.length dc1, .int .i64 ut1, .int .i64 ur1, .slice oA1 ops1.length oc1] 34)) (.cells #[.int .i64 t2, .int .i64 r2, .int .i64 n2, .slice dA2 v2.length dc2, .int .i64 ut2, .int .i64 ur2, .slice oA2 ops2.length oc2] 34) w.heap.size (by simp)).trans (heap_alloc_new w _))
  have HC2 := Lib.hid (heap_alloc_newC (n := w.heap.size + 1) (w.alloc (.cells #[.int .i64 t1, .int .i64 r1, .int .i64 n1, .slice dA1 v1.length dc1, .int .i64 ut1, .int .i64 ur1, .slice oA1 ops1.length oc1] 34)) (.cells #[.int .i64 t2, .int .i64 r2, .int .i64 n2, .slice dA2 v2.length dc2, .int .i64 ut2, .int .i64 ur2, .slice oA2 ops2.length oc2] 34) (by simp))
  cases b0 with
  | false =>
    obtain rfl : ans = false := by rw [HANS.out]; simp
    go_enter Tryd.func21, Tryd.ntmps21
    go_wp2_with (go_at_call 27; refine (HD.out _ HB2.out).mono ?_; rintro e w3 ⟨rfl, hB3⟩; have HE1 := Lib.hid ((hB3.block w.heap.size (by simp; omega)).trans HC1.out); have HE2 := Lib.hid ((hB3.block (w.heap.size + 1) (by simp)).trans HC2.out); have HB3 := Lib.hid (HB2.out.trans (hB3.mono HB2.out.size)); clear hB3; have f14 : w3.cell? ⟨w.heap.size, 4, none⟩ = some (.int .i64 ut1) := by { rw [cell_of_row _ _ _ _ _ _ HE1.out]; rfl }; have f15 : w3.cell? ⟨w.heap.size, 5, none⟩ = some (.int .i64 ur1) := by { rw [cell_of_row _ _ _ _ _ _ HE1.out]; rfl }; have f16 : w3.cell? ⟨w.heap.size, 6, none⟩ = some (.slice oA1 ops1.length oc1) := by { rw [cell_of_row _ _ _ _ _ _ HE1.out]; rfl }; have f24 : w3.cell? ⟨w.heap.size + 1, 4, none⟩ = some (.int .i64 ut2) := by { rw [cell_of_row _ _ _ _ _ _ HE2.out]; rfl }; have f25 : w3.cell? ⟨w.heap.size + 1, 5, none⟩ = some (.int .i64 ur2) := by { rw [cell_of_row _ _ _ _ _ _ HE2.out]; rfl }; have f26 : w3.cell? ⟨w.heap.size + 1, 6, none⟩ = some (.slice oA2 ops2.length oc2) := by { rw [cell_of_row _ _ _ _ _ _ HE2.out]; rfl })
    go_ret
    exact ⟨rfl, HB2.out⟩
  | true =>
  cases b1 with
  | false =>
    have e1 : (n1 != n2) = true := by rw [bne_iff_ne]; exact of_decide_eq_false h1
    clear h1
    obtain rfl : ans = false := by rw [HANS.out]; simp
    go_enter Tryd.func21, Tryd.ntmps21
    go_wp2_with (go_at_call 27; refine (HD.out _ HB2.out).mono ?_; rintro e w3 ⟨rfl, hB3⟩; have HE1 := Lib.hid ((hB3.block w.heap.size (by simp; omega)).trans HC1.out); have HE2 := Lib.hid ((hB3.block (w.heap.size + 1) (by simp)).trans HC2.out); have HB3 := Lib.hid (HB2.out.trans (hB3.mono HB2.out.size)); clear hB3; have f14 : w3.cell? ⟨w.heap.size, 4, none⟩ = some (.int .i64 ut1) := by { rw [cell_of_row _ _ _ _ _ _ HE1.out]; rfl }; have f15 : w3.cell? ⟨w.heap.size, 5, none⟩ = some (.int .i64 ur1) := by { rw [cell_of_row _ _ _ _ _ _ HE1.out]; rfl }; have f16 : w3.cell? ⟨w.heap.size, 6, none⟩ = some (.slice oA1 ops1.length oc1) := by { rw [cell_of_row _ _ _ _ _ _ HE1.out]; rfl }; have f24 : w3.cell? ⟨w.heap.size + 1, 4, none⟩ = some (.int .i64 ut2) := by { rw [cell_of_row _ _ _ _ _ _ HE2.out]; rfl }; have f25 : w3.cell? ⟨w.heap.size + 1, 5, none⟩ = some (.int .i64 ur2) := by { rw [cell_of_row _ _ _ _ _ _ HE2.out]; rfl }; have f26 : w3.cell? ⟨w.heap.size + 1, 6, none⟩ = some (.slice oA2 ops2.length oc2) := by { rw [cell_of_row _ _ _ _ _ _ HE2.out]; rfl })
    go_ret
    exact ⟨rfl, HB2.out⟩
  | true =>
  have e1 : (n1 != n2) = false := by rw [bne_eq_false_iff_eq]; exact of_decide_eq_true h1
  clear h1
  cases b2 with
  | false =>
    obtain rfl : ans = false := by rw [HANS.out]; simp
    go_enter Tryd.func21, Tryd.ntmps21
    go_wp2_with (go_at_call 27; refine (HD.out _ HB2.out).mono ?_; rintro e w3 ⟨rfl, hB3⟩; have HE1 := Lib.hid ((hB3.block w.heap.size (by simp; omega)).trans HC1.out); have HE2 := Lib.hid ((hB3.block (w.heap.size + 1) (by simp)).trans HC2.out); have HB3 := Lib.hid (HB2.out.trans (hB3.mono HB2.out.size)); clear hB3; have f14 : w3.cell? ⟨w.heap.size, 4, none⟩ = some (.int .i64 ut1) := by { rw [cell_of_row _ _ _ _ _ _ HE1.out]; rfl }; have f15 : w3.cell? ⟨w.heap.size, 5, none⟩ = some (.int .i64 ur1) := by { rw [cell_of_row _ _ _ _ _ _ HE1.out]; rfl }; have f16 : w3.cell? ⟨w.heap.size, 6, none⟩ = some (.slice oA1 ops1.length oc1) := by { rw [cell_of_row _ _ _ _ _ _ HE1.out]; rfl }; have f24 : w3.cell? ⟨w.heap.size + 1, 4, none⟩ = some (.int .i64 ut2) := by { rw [cell_of_row _ _ _ _ _ _ HE2.out]; rfl }; have f25 : w3.cell? ⟨w.heap.size + 1, 5, none⟩ = some (.int .i64 ur2) := by { rw [cell_of_row _ _ _ _ _ _ HE2.out]; rfl }; have f26 : w3.cell? ⟨w.heap.size + 1, 6, none⟩ = some (.slice oA2 ops2.length oc2) := by { rw [cell_of_row _ _ _ _ _ _ HE2.out]; rfl })
    go_ret
    exact ⟨rfl, HB3.out⟩
  | true =>
  cases b3 with
  | false =>
    obtain rfl : ans = false := by rw [HANS.out]; simp
    go_enter Tryd.func21, Tryd.ntmps21
    go_wp2_with (go_at_call 27; refine (HD.out _ HB2.out).mono ?_; rintro e w3 ⟨rfl, hB3⟩; have HE1 := Lib.hid ((hB3.block w.heap.size (by simp; omega)).trans HC1.out); have HE2 := Lib.hid ((hB3.block (w.heap.size + 1) (by simp)).trans HC2.out); have HB3 := Lib.hid (HB2.out.trans (hB3.mono HB2.out.size)); clear hB3; have f14 : w3.cell? ⟨w.heap.size, 4, none⟩ = some (.int .i64 ut1) := by { rw [cell_of_row _ _ _ _ _ _ HE1.out]; rfl }; have f15 : w3.cell? ⟨w.heap.size, 5, none⟩ = some (.int .i64 ur1) := by { rw [cell_of_row _ _ _ _ _ _ HE1.out]; rfl }; have f16 : w3.cell? ⟨w.heap.size, 6, none⟩ = some (.slice oA1 ops1.length oc1) := by { rw [cell_of_row _ _ _ _ _ _ HE1.out]; rfl }; have f24 : w3.cell? ⟨w.heap.size + 1, 4, none⟩ = some (.int .i64 ut2) := by { rw [cell_of_row _ _ _ _ _ _ HE2.out]; rfl }; have f25 : w3.cell? ⟨w.heap.size + 1, 5, none⟩ = some (.int .i64 ur2) := by { rw [cell_of_row _ _ _ _ _ _ HE2.out]; rfl }; have f26 : w3.cell? ⟨w.heap.size + 1, 6, none⟩ = some (.slice oA2 ops2.length oc2) := by { rw [cell_of_row _ _ _ _ _ _ HE2.out]; rfl })
    go_ret
    exact ⟨rfl, HB3.out⟩
  | true =>
  cases b4 with
  | false =>
    have e4 : ((ops1.length : Int) != (ops2.length : Int)) = true := by rw [bne_iff_ne]; have := of_decide_eq_false h4; omega
    clear h4
    obtain rfl : ans = false := by rw [HANS.out]; simp
    go_enter Tryd.func21, Tryd.ntmps21
    go_wp2_with (go_at_call 27; refine (HD.out _ HB2.out).mono ?_; rintro e w3 ⟨rfl, hB3⟩; have HE1 := Lib.hid ((hB3.block w.heap.size (by simp; omega)).trans HC1.out); have HE2 := Lib.hid ((hB3.block (w.heap.size + 1) (by simp)).trans HC2.out); have HB3 := Lib.hid (HB2.out.trans (hB3.mono HB2.out.size)); clear hB3; have f14 : w3.cell? ⟨w.heap.size, 4, none⟩ = some (.int .i64 ut1) := by { rw [cell_of_row _ _ _ _ _ _ HE1.out]; rfl }; have f15 : w3.cell? ⟨w.heap.size, 5, none⟩ = some (.int .i64 ur1) := by { rw [cell_of_row _ _ _ _ _ _ HE1.out]; rfl }; have f16 : w3.cell? ⟨w.heap.size, 6, none⟩ = some (.slice oA1 ops1.length oc1) := by { rw [cell_of_row _ _ _ _ _ _ HE1.out]; rfl }; have f24 : w3.cell? ⟨w.heap.size + 1, 4, none⟩ = some (.int .i64 ut2) := by { rw [cell_of_row _ _ _ _ _ _ HE2.out]; rfl }; have f25 : w3.cell? ⟨w.heap.size + 1, 5, none⟩ = some (.int .i64 ur2) := by { rw [cell_of_row _ _ _ _ _ _ HE2.out]; rfl }; have f26 : w3.cell? ⟨w.heap.size + 1, 6, none⟩ = some (.slice oA2 ops2.length oc2) := by { rw [cell_of_row _ _ _ _ _ _ HE2.out]; rfl })
    go_ret
    exact ⟨rfl, HB3.out⟩
  | true =>
    exact sameg_loop t1 r1 n1 v1 ut1 ur1 ops1 t2 r2 n2 v2 ut2 ur2 ops2 dA1 dA2 oA1 oA2 dc1 dc2 oc1 oc2 S1 S2 w ans q0 e1 q3 hv1 ho1 (of_decide_eq_true h4) (by rw [HANS.out]; rfl) HD.out HI1.out HI2.out
end Go.Proofs.YtooaodgamakoeaaDoor
