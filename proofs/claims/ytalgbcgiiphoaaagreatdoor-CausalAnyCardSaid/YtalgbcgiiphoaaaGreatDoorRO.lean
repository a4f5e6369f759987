/- What the reference answers at an operation. Conditions: lengths in reach. | What the reference's Check answers. Conditions: lengths in reach. -/
import Derived.Test.YtalgbcgiiphoaaaGreatDoorRC
import Derived.Test.YtalgbcgiiphoaaaGreatDoorRD
import Derived.Test.YtalgbcgiiphoaaaGreatDoorRE
import Derived.Test.YtalgbcgiiphoaaaGreatDoorQA
import Derived.Test.YtalgbcgiiphoaaaGreatDoorSM
import Derived.Test.YtalgbcgiiphoaaaGreatDoorCO
section
namespace Go.Proofs.YtalgbcgiiphoaaaGreatDoor
open Go.RowKit Go.Lib Go.Sort
set_option linter.unusedVariables false
attribute [local go_sem ↓] Go.wp_at_zero Go.wp_at_succ
/-- what the reference's op answers -/
def refV (g : Gst) (o : Gop) (k : Nat) : Int := if (kindB g o k && bareB o) = true then (moreOf o : Int) else -1
theorem refV_no {g : Gst} {o : Gop} {k : Nat} (h : (kindB g o k && bareB o) = false) : refV g o k = -1 := by unfold refV; rw [h]; rfl
theorem refV_yes {g : Gst} {o : Gop} {k : Nat} (h : (kindB g o k && bareB o) = true) : refV g o k = (moreOf o : Int) := by unfold refV; rw [h]; rfl
theorem row_range {W : World} {b : Nat} {T : TypeId} {cs : List Value} (h : W.heap[b]? = some (.cells cs.toArray T (0, 0))) : W.rangeAt b 0 cs := fun j v hv => by
  rw [Nat.zero_add, cell_of_row _ _ _ _ _ _ h]
  simpa using hv
theorem below_alloc2 {B : Nat} {a w : World} (h : Below B a w) (hB : B ≤ w.heap.size) (ob : Obj) : Below B a (w.alloc ob) := h.alloc hB ob
set_option maxRecDepth 100000 in
set_option maxHeartbeats 8000000 in
theorem refop_0 (gt gr : Int) (n' : Int) (dA' : Option Addr) (dn' dc' : Nat) (ut ur : Int) (oA : Option Addr) (on oc : Nat) (k : Nat) (nt nr ni pt pr pi : Int) (name : ByteArray) (dir : Bool) (dots : List Gst) (at_ ar ai et er ei : Int) (text : ByteArray) (elems : List Gid) (dA : Option Addr) (dc : Nat) (eA : Option Addr) (ec : Nat) (S : Nat → Prop) (w : World) (hn : name.size ≤ 9223372036854775807) (hdl : dots.length ≤ 9223372036854775807) (hel : elems.length ≤ 9223372036854775807) (hD : StsS w S dA dots) (hE : IdsS w S eA elems) :
    Calls Tryz.prog 88 #[.agg #[.int .i64 gt, .int .i64 gr, .int .i64 n', .slice dA' dn' dc', .int .i64 ut, .int .i64 ur, .slice oA on oc], .agg #[.int .i64 0, .int .i64 nt, .int .i64 nr, .int .i64 ni, .int .i64 pt, .int .i64 pr, .int .i64 pi, .string name, .bool dir, .slice dA dots.length dc, .int .i64 at_, .int .i64 ar, .int .i64 ai, .int .i64 et, .int .i64 er, .int .i64 ei, .string text, .slice eA elems.length ec], .int .i64 k] w fun e w' => e = .returned (.int .i64 (refV ⟨gt, gr⟩ (⟨0, ⟨⟨nt, nr⟩, ni⟩, ⟨⟨pt, pr⟩, pi⟩, name, dir, dots, ⟨⟨at_, ar⟩, ai⟩, ⟨⟨et, er⟩, ei⟩, text, elems⟩ : Gop) k)) ∧ Below w.heap.size w w' := by
  obtain ⟨ans, hans⟩ : ∃ v, v = refV ⟨gt, gr⟩ (⟨0, ⟨⟨nt, nr⟩, ni⟩, ⟨⟨pt, pr⟩, pi⟩, name, dir, dots, ⟨⟨at_, ar⟩, ai⟩, ⟨⟨et, er⟩, ei⟩, text, elems⟩ : Gop) k := ⟨_, rfl⟩
  rw [← hans]
  obtain ⟨bb, hbb⟩ : ∃ b, b = bareB (⟨0, ⟨⟨nt, nr⟩, ni⟩, ⟨⟨pt, pr⟩, pi⟩, name, dir, dots, ⟨⟨at_, ar⟩, ai⟩, ⟨⟨et, er⟩, ei⟩, text, elems⟩ : Gop) := ⟨_, rfl⟩
  have HBB := Lib.hid hbb
  have HBA := Lib.hid (show ∀ W, Calls Tryz.prog 119 #[.agg #[.int .i64 0, .int .i64 nt, .int .i64 nr, .int .i64 ni, .int .i64 pt, .int .i64 pr, .int .i64 pi, .string name, .bool dir, .slice dA dots.length dc, .int .i64 at_, .int .i64 ar, .int .i64 ai, .int .i64 et, .int .i64 er, .int .i64 ei, .string text, .slice eA elems.length ec], .bool true, .bool true, .bool false, .bool false, .bool false] W fun e w' => e = .returned (.bool bb) ∧ Below W.heap.size W w' from fun W => by
    refine (refbare_0 0 nt nr ni pt pr pi name dir dA dots.length dc at_ ar ai et er ei text eA elems.length ec W).mono ?_
    rintro e w' ⟨rfl, hB⟩
    refine ⟨?_, hB⟩
    congr 2
    rw [hbb]
    simp [bareB, Bool.and_assoc])
  have HK : Hid (kindB ⟨gt, gr⟩ (⟨0, ⟨⟨nt, nr⟩, ni⟩, ⟨⟨pt, pr⟩, pi⟩, name, dir, dots, ⟨⟨at_, ar⟩, ai⟩, ⟨⟨et, er⟩, ei⟩, text, elems⟩ : Gop) k = (Gid.eqb ⟨⟨nt, nr⟩, ni⟩ ⟨⟨gt, gr⟩, (k : Int)⟩ && parentB ⟨gt, gr⟩ ⟨⟨pt, pr⟩, pi⟩ k && nameB name)) := Lib.hid (by simp [kindB])
  have HMO : Hid ((moreOf (⟨0, ⟨⟨nt, nr⟩, ni⟩, ⟨⟨pt, pr⟩, pi⟩, name, dir, dots, ⟨⟨at_, ar⟩, ai⟩, ⟨⟨et, er⟩, ei⟩, text, elems⟩ : Gop) : Int) = 1) := Lib.hid (by simp [moreOf])
  have HANS := Lib.hid hans
  clear hans hbb
  go_enter Tryz.func88, Tryz.ntmps88
  go_upto_region 2 with fail
  generalize hW : (((w.alloc (.cells #[.int .i64 gt, .int .i64 gr, .int .i64 n', .slice dA' dn' dc', .int .i64 ut, .int .i64 ur, .slice oA on oc] 40)).alloc (.cells #[.int .i64 0, .int .i64 nt, .int .i64 nr, .int .i64 ni, .int .i64 pt, .int .i64 pr, .int .i64 pi, .string name, .bool dir, .slice dA dots.length dc, .int .i64 at_, .int .i64 ar, .int .i64 ai, .int .i64 et, .int .i64 er, .int .i64 ei, .string text, .slice eA elems.length ec] 70)).alloc (.cells #[.int .i64 gt, .int .i64 gr, .int .i64 k] 66)) = W
  have HG := Lib.hid (show W.heap[w.heap.size]? = some (.cells #[.int .i64 gt, .int .i64 gr, .int .i64 n', .slice dA' dn' dc', .int .i64 ut, .int .i64 ur, .slice oA on oc] 40 (0, 0)) by rw [← hW]; exact (Below.heap_alloc _ _ _ (by simp; omega)).trans ((Below.heap_alloc _ _ _ (by simp)).trans (heap_alloc_new _ _)))
  have HO := Lib.hid (show W.heap[w.heap.size + 1]? = some (.cells #[.int .i64 0, .int .i64 nt, .int .i64 nr, .int .i64 ni, .int .i64 pt, .int .i64 pr, .int .i64 pi, .string name, .bool dir, .slice dA dots.length dc, .int .i64 at_, .int .i64 ar, .int .i64 ai, .int .i64 et, .int .i64 er, .int .i64 ei, .string text, .slice eA elems.length ec] 70 (0, 0)) by rw [← hW]; exact (Below.heap_alloc _ _ _ (by simp)).trans (heap_alloc_new' _ _ (by simp)))
  have HJ := Lib.hid (show W.heap[w.heap.size + 2]? = some (.cells #[.int .i64 gt, .int .i64 gr, .int .i64 k] 66 (0, 0)) by rw [← hW]; exact heap_alloc_new' _ _ (by simp))
  have HBW := Lib.hid (show Below w.heap.size w W by rw [← hW]; exact (((Below.refl _ _).alloc (Nat.le_refl _) _).alloc (by simp) _).alloc (by simp; omega) _)
  clear hW
  have r0 : W.cell? ⟨w.heap.size + 1, 0, none⟩ = some (.int .i64 0) := by rw [cell_of_row _ _ _ _ _ _ HO.out]; rfl
  go_upto_region 4 with fail
  clear r0
  have hBW0 := HBW.out
  have x1 := cell_regrown (w := W) (a := ⟨w.heap.size + 1, 1, none⟩) (v := .int .i64 nt) (by rw [cell_of_row _ _ _ _ _ _ HO.out]; rfl)
  have x2 := cell_regrown (w := W) (a := ⟨w.heap.size + 1, 2, none⟩) (v := .int .i64 nr) (by rw [cell_of_row _ _ _ _ _ _ HO.out]; rfl)
  have x3 := cell_regrown (w := W) (a := ⟨w.heap.size + 1, 3, none⟩) (v := .int .i64 ni) (by rw [cell_of_row _ _ _ _ _ _ HO.out]; rfl)
  have x4 := cell_regrown (w := W) (a := ⟨w.heap.size + 1, 4, none⟩) (v := .int .i64 pt) (by rw [cell_of_row _ _ _ _ _ _ HO.out]; rfl)
  have x5 := cell_regrown (w := W) (a := ⟨w.heap.size + 1, 5, none⟩) (v := .int .i64 pr) (by rw [cell_of_row _ _ _ _ _ _ HO.out]; rfl)
  have x6 := cell_regrown (w := W) (a := ⟨w.heap.size + 1, 6, none⟩) (v := .int .i64 pi) (by rw [cell_of_row _ _ _ _ _ _ HO.out]; rfl)
  have x7 := cell_regrown (w := W) (a := ⟨w.heap.size + 1, 7, none⟩) (v := .string name) (by rw [cell_of_row _ _ _ _ _ _ HO.out]; rfl)
  have y0 := cell_regrown (w := W) (a := ⟨w.heap.size, 0, none⟩) (v := .int .i64 gt) (by rw [cell_of_row _ _ _ _ _ _ HG.out]; rfl)
  have y1 := cell_regrown (w := W) (a := ⟨w.heap.size, 1, none⟩) (v := .int .i64 gr) (by rw [cell_of_row _ _ _ _ _ _ HG.out]; rfl)
  have y2 := cell_regrown (w := W) (a := ⟨w.heap.size, 2, none⟩) (v := .int .i64 n') (by rw [cell_of_row _ _ _ _ _ _ HG.out]; rfl)
  have y3 := cell_regrown (w := W) (a := ⟨w.heap.size, 3, none⟩) (v := .slice dA' dn' dc') (by rw [cell_of_row _ _ _ _ _ _ HG.out]; rfl)
  have y4 := cell_regrown (w := W) (a := ⟨w.heap.size, 4, none⟩) (v := .int .i64 ut) (by rw [cell_of_row _ _ _ _ _ _ HG.out]; rfl)
  have y5 := cell_regrown (w := W) (a := ⟨w.heap.size, 5, none⟩) (v := .int .i64 ur) (by rw [cell_of_row _ _ _ _ _ _ HG.out]; rfl)
  have y6 := cell_regrown (w := W) (a := ⟨w.heap.size, 6, none⟩) (v := .slice oA on oc) (by rw [cell_of_row _ _ _ _ _ _ HG.out]; rfl)
  have z0 := cell_regrown (w := W) (a := ⟨w.heap.size + 2, 0, none⟩) (v := .int .i64 gt) (by rw [cell_of_row _ _ _ _ _ _ HJ.out]; rfl)
  have z1 := cell_regrown (w := W) (a := ⟨w.heap.size + 2, 1, none⟩) (v := .int .i64 gr) (by rw [cell_of_row _ _ _ _ _ _ HJ.out]; rfl)
  have z2 := cell_regrown (w := W) (a := ⟨w.heap.size + 2, 2, none⟩) (v := .int .i64 k) (by rw [cell_of_row _ _ _ _ _ _ HJ.out]; rfl)
  obtain ⟨opl, hol⟩ : ∃ l : List Value, l = [.int .i64 0, .int .i64 nt, .int .i64 nr, .int .i64 ni, .int .i64 pt, .int .i64 pr, .int .i64 pi, .string name, .bool dir, .slice dA dots.length dc, .int .i64 at_, .int .i64 ar, .int .i64 ai, .int .i64 et, .int .i64 er, .int .i64 ei, .string text, .slice eA elems.length ec] := ⟨_, rfl⟩
  have HOL := Lib.hid hol
  have HRR := Lib.hid (range_regrown (show W.rangeAt (w.heap.size + 1) 0 opl by rw [hol]; exact row_range HO.out))
  have HNL := Lib.hid (show (Tryz.prog.info? 70).map (·.size) = some opl.length by rw [hol]; kernel_rfl)
  clear hol
  have cP := fun d os => Calls.regrown_of (refparent_any ⟨gt, gr⟩ ⟨n', dA', dn', dc', ut, ur, oA, on, oc⟩ ⟨⟨pt, pr⟩, pi⟩ k (grow (redrawn W d) os))
  have cN := fun d os => Calls.regrown_same (refname_any name (grow (redrawn W d) os) hn)
  have cB := fun d os => Calls.regrown_of (HBA.out (grow (redrawn W d) os))
  simp only [gxV, idV] at cP
  clear hBW0 hD hE HBA hn hdl hel HG HO HJ
  cases h0 : Gid.eqb ⟨⟨nt, nr⟩, ni⟩ ⟨⟨gt, gr⟩, (k : Int)⟩ with
  | false =>
    have he := eq_id nt nr ni gt gr k false h0
    obtain rfl : ans = -1 := by rw [HANS.out]; exact refV_no (by rw [HK.out, h0]; simp)
    clear h0
    refine wp_plain_quiet_below ?_
    repeat (any_goals (first | (refine quiet_load_mid rfl _ _ rfl (w.heap.size + 1) 0 rfl opl _ HRR.out Tryz.underlying70 rfl HNL.out ?_; rw [HOL.out]) | go_big_quiet_step (first | with_reducible exact cP _ _ | with_reducible exact cN _ _ | with_reducible exact cB _ _) | quiet_step (first | with_reducible exact cP _ _ | with_reducible exact cN _ _ | with_reducible exact cB _ _)))
    refine wpQuiet_nil ?_
    intro _ hw'
    obtain ⟨⟨dq, osq⟩, hw''⟩ := hw'
    subst hw''
    have hBq := below_regrown W dq osq
    generalize grow (redrawn W dq) osq = wq at *
    go_wp2
    go_ret
    exact ⟨rfl, HBW.out.trans (hBq.mono HBW.out.size)⟩
  | true =>
    have he := eq_id nt nr ni gt gr k true h0
    have H0 := Lib.hid h0
    clear h0
    cases h1 : parentB ⟨gt, gr⟩ ⟨⟨pt, pr⟩, pi⟩ k with
    | false =>
      rw [h1] at cP
      obtain rfl : ans = -1 := by rw [HANS.out]; exact refV_no (by rw [HK.out, H0.out, h1]; simp)
      clear h1
      refine wp_plain_quiet_below ?_
      repeat (any_goals (first | (refine quiet_load_mid rfl _ _ rfl (w.heap.size + 1) 0 rfl opl _ HRR.out Tryz.underlying70 rfl HNL.out ?_; rw [HOL.out]) | go_big_quiet_step (first | with_reducible exact cP _ _ | with_reducible exact cN _ _ | with_reducible exact cB _ _) | quiet_step (first | with_reducible exact cP _ _ | with_reducible exact cN _ _ | with_reducible exact cB _ _)))
      refine wpQuiet_nil ?_
      intro _ hw'
      obtain ⟨⟨dq, osq⟩, hw''⟩ := hw'
      subst hw''
      have hBq := below_regrown W dq osq
      generalize grow (redrawn W dq) osq = wq at *
      go_wp2
      go_ret
      exact ⟨rfl, HBW.out.trans (hBq.mono HBW.out.size)⟩
    | true =>
      rw [h1] at cP
      have H1 := Lib.hid h1
      clear h1
      cases h2 : nameB name with
      | false =>
        rw [h2] at cN
        obtain rfl : ans = -1 := by rw [HANS.out]; exact refV_no (by rw [HK.out, H0.out, H1.out, h2]; simp)
        clear h2
        refine wp_plain_quiet_below ?_
        repeat (any_goals (first | (refine quiet_load_mid rfl _ _ rfl (w.heap.size + 1) 0 rfl opl _ HRR.out Tryz.underlying70 rfl HNL.out ?_; rw [HOL.out]) | go_big_quiet_step (first | with_reducible exact cP _ _ | with_reducible exact cN _ _ | with_reducible exact cB _ _) | quiet_step (first | with_reducible exact cP _ _ | with_reducible exact cN _ _ | with_reducible exact cB _ _)))
        refine wpQuiet_nil ?_
        intro _ hw'
        obtain ⟨⟨dq, osq⟩, hw''⟩ := hw'
        subst hw''
        have hBq := below_regrown W dq osq
        generalize grow (redrawn W dq) osq = wq at *
        go_wp2
        go_ret
        exact ⟨rfl, HBW.out.trans (hBq.mono HBW.out.size)⟩
      | true =>
        rw [h2] at cN
        have H2 := Lib.hid h2
        clear h2
        cases bb with
        | false =>
          obtain rfl : ans = -1 := by rw [HANS.out]; exact refV_no (by rw [← HBB.out]; simp)
          refine wp_plain_quiet_below ?_
          repeat (any_goals (first | (refine quiet_load_mid rfl _ _ rfl (w.heap.size + 1) 0 rfl opl _ HRR.out Tryz.underlying70 rfl HNL.out ?_; rw [HOL.out]) | go_big_quiet_step (first | with_reducible exact cP _ _ | with_reducible exact cN _ _ | with_reducible exact cB _ _) | quiet_step (first | with_reducible exact cP _ _ | with_reducible exact cN _ _ | with_reducible exact cB _ _)))
          refine wpQuiet_nil ?_
          intro _ hw'
          obtain ⟨⟨dq, osq⟩, hw''⟩ := hw'
          subst hw''
          have hBq := below_regrown W dq osq
          generalize grow (redrawn W dq) osq = wq at *
          go_wp2
          go_ret
          exact ⟨rfl, HBW.out.trans (hBq.mono HBW.out.size)⟩
        | true =>
          obtain rfl : ans = 1 := by rw [HANS.out, refV_yes (by rw [← HBB.out, HK.out, H0.out, H1.out, H2.out]; simp), HMO.out]
          refine wp_plain_quiet_below ?_
          repeat (any_goals (first | (refine quiet_load_mid rfl _ _ rfl (w.heap.size + 1) 0 rfl opl _ HRR.out Tryz.underlying70 rfl HNL.out ?_; rw [HOL.out]) | go_big_quiet_step (first | with_reducible exact cP _ _ | with_reducible exact cN _ _ | with_reducible exact cB _ _) | quiet_step (first | with_reducible exact cP _ _ | with_reducible exact cN _ _ | with_reducible exact cB _ _)))
          refine wpQuiet_nil ?_
          intro _ hw'
          obtain ⟨⟨dq, osq⟩, hw''⟩ := hw'
          subst hw''
          have hBq := below_regrown W dq osq
          generalize grow (redrawn W dq) osq = wq at *
          go_wp2
          go_ret
          exact ⟨rfl, HBW.out.trans (hBq.mono HBW.out.size)⟩
set_option maxRecDepth 100000 in
set_option maxHeartbeats 8000000 in
theorem refop_1 (gt gr : Int) (n' : Int) (dA' : Option Addr) (dn' dc' : Nat) (ut ur : Int) (oA : Option Addr) (on oc : Nat) (k : Nat) (nt nr ni pt pr pi : Int) (name : ByteArray) (dir : Bool) (dots : List Gst) (at_ ar ai et er ei : Int) (text : ByteArray) (elems : List Gid) (dA : Option Addr) (dc : Nat) (eA : Option Addr) (ec : Nat) (S : Nat → Prop) (w : World) (hn : name.size ≤ 9223372036854775807) (hdl : dots.length ≤ 9223372036854775807) (hel : elems.length ≤ 9223372036854775807) (hD : StsS w S dA dots) (hE : IdsS w S eA elems) :
    Calls Tryz.prog 88 #[.agg #[.int .i64 gt, .int .i64 gr, .int .i64 n', .slice dA' dn' dc', .int .i64 ut, .int .i64 ur, .slice oA on oc], .agg #[.int .i64 1, .int .i64 nt, .int .i64 nr, .int .i64 ni, .int .i64 pt, .int .i64 pr, .int .i64 pi, .string name, .bool dir, .slice dA dots.length dc, .int .i64 at_, .int .i64 ar, .int .i64 ai, .int .i64 et, .int .i64 er, .int .i64 ei, .string text, .slice eA elems.length ec], .int .i64 k] w fun e w' => e = .returned (.int .i64 (refV ⟨gt, gr⟩ (⟨1, ⟨⟨nt, nr⟩, ni⟩, ⟨⟨pt, pr⟩, pi⟩, name, dir, dots, ⟨⟨at_, ar⟩, ai⟩, ⟨⟨et, er⟩, ei⟩, text, elems⟩ : Gop) k)) ∧ Below w.heap.size w w' := by
  obtain ⟨ans, hans⟩ : ∃ v, v = refV ⟨gt, gr⟩ (⟨1, ⟨⟨nt, nr⟩, ni⟩, ⟨⟨pt, pr⟩, pi⟩, name, dir, dots, ⟨⟨at_, ar⟩, ai⟩, ⟨⟨et, er⟩, ei⟩, text, elems⟩ : Gop) k := ⟨_, rfl⟩
  rw [← hans]
  obtain ⟨bb, hbb⟩ : ∃ b, b = bareB (⟨1, ⟨⟨nt, nr⟩, ni⟩, ⟨⟨pt, pr⟩, pi⟩, name, dir, dots, ⟨⟨at_, ar⟩, ai⟩, ⟨⟨et, er⟩, ei⟩, text, elems⟩ : Gop) := ⟨_, rfl⟩
  have HBB := Lib.hid hbb
  have HBA := Lib.hid (show ∀ W, Calls Tryz.prog 119 #[.agg #[.int .i64 1, .int .i64 nt, .int .i64 nr, .int .i64 ni, .int .i64 pt, .int .i64 pr, .int .i64 pi, .string name, .bool dir, .slice dA dots.length dc, .int .i64 at_, .int .i64 ar, .int .i64 ai, .int .i64 et, .int .i64 er, .int .i64 ei, .string text, .slice eA elems.length ec], .bool true, .bool false, .bool false, .bool false, .bool false] W fun e w' => e = .returned (.bool bb) ∧ Below W.heap.size W w' from fun W => by
    refine (refbare_1 1 nt nr ni pt pr pi name dir dA dots.length dc at_ ar ai et er ei text eA elems.length ec W).mono ?_
    rintro e w' ⟨rfl, hB⟩
    refine ⟨?_, hB⟩
    congr 2
    rw [hbb]
    simp [bareB, Bool.and_assoc])
  have HK : Hid (kindB ⟨gt, gr⟩ (⟨1, ⟨⟨nt, nr⟩, ni⟩, ⟨⟨pt, pr⟩, pi⟩, name, dir, dots, ⟨⟨at_, ar⟩, ai⟩, ⟨⟨et, er⟩, ei⟩, text, elems⟩ : Gop) k = (aheadB ⟨gt, gr⟩ ⟨⟨nt, nr⟩, ni⟩ k && parentB ⟨gt, gr⟩ ⟨⟨pt, pr⟩, pi⟩ k && nameB name)) := Lib.hid (by simp [kindB])
  have HMO : Hid ((moreOf (⟨1, ⟨⟨nt, nr⟩, ni⟩, ⟨⟨pt, pr⟩, pi⟩, name, dir, dots, ⟨⟨at_, ar⟩, ai⟩, ⟨⟨et, er⟩, ei⟩, text, elems⟩ : Gop) : Int) = 0) := Lib.hid (by simp [moreOf])
  have HANS := Lib.hid hans
  clear hans hbb
  go_enter Tryz.func88, Tryz.ntmps88
  go_upto_region 2 with fail
  generalize hW : (((w.alloc (.cells #[.int .i64 gt, .int .i64 gr, .int .i64 n', .slice dA' dn' dc', .int .i64 ut, .int .i64 ur, .slice oA on oc] 40)).alloc (.cells #[.int .i64 1, .int .i64 nt, .int .i64 nr, .int .i64 ni, .int .i64 pt, .int .i64 pr, .int .i64 pi, .string name, .bool dir, .slice dA dots.length dc, .int .i64 at_, .int .i64 ar, .int .i64 ai, .int .i64 et, .int .i64 er, .int .i64 ei, .string text, .slice eA elems.length ec] 70)).alloc (.cells #[.int .i64 gt, .int .i64 gr, .int .i64 k] 66)) = W
  have HG := Lib.hid (show W.heap[w.heap.size]? = some (.cells #[.int .i64 gt, .int .i64 gr, .int .i64 n', .slice dA' dn' dc', .int .i64 ut, .int .i64 ur, .slice oA on oc] 40 (0, 0)) by rw [← hW]; exact (Below.heap_alloc _ _ _ (by simp; omega)).trans ((Below.heap_alloc _ _ _ (by simp)).trans (heap_alloc_new _ _)))
  have HO := Lib.hid (show W.heap[w.heap.size + 1]? = some (.cells #[.int .i64 1, .int .i64 nt, .int .i64 nr, .int .i64 ni, .int .i64 pt, .int .i64 pr, .int .i64 pi, .string name, .bool dir, .slice dA dots.length dc, .int .i64 at_, .int .i64 ar, .int .i64 ai, .int .i64 et, .int .i64 er, .int .i64 ei, .string text, .slice eA elems.length ec] 70 (0, 0)) by rw [← hW]; exact (Below.heap_alloc _ _ _ (by simp)).trans (heap_alloc_new' _ _ (by simp)))
  have HJ := Lib.hid (show W.heap[w.heap.size + 2]? = some (.cells #[.int .i64 gt, .int .i64 gr, .int .i64 k] 66 (0, 0)) by rw [← hW]; exact heap_alloc_new' _ _ (by simp))
  have HBW := Lib.hid (show Below w.heap.size w W by rw [← hW]; exact (((Below.refl _ _).alloc (Nat.le_refl _) _).alloc (by simp) _).alloc (by simp; omega) _)
  clear hW
  have r0 : W.cell? ⟨w.heap.size + 1, 0, none⟩ = some (.int .i64 1) := by rw [cell_of_row _ _ _ _ _ _ HO.out]; rfl
  go_upto_region 7 with fail
  clear r0
  have hBW0 := HBW.out
  have x1 := cell_regrown (w := W) (a := ⟨w.heap.size + 1, 1, none⟩) (v := .int .i64 nt) (by rw [cell_of_row _ _ _ _ _ _ HO.out]; rfl)
  have x2 := cell_regrown (w := W) (a := ⟨w.heap.size + 1, 2, none⟩) (v := .int .i64 nr) (by rw [cell_of_row _ _ _ _ _ _ HO.out]; rfl)
  have x3 := cell_regrown (w := W) (a := ⟨w.heap.size + 1, 3, none⟩) (v := .int .i64 ni) (by rw [cell_of_row _ _ _ _ _ _ HO.out]; rfl)
  have x4 := cell_regrown (w := W) (a := ⟨w.heap.size + 1, 4, none⟩) (v := .int .i64 pt) (by rw [cell_of_row _ _ _ _ _ _ HO.out]; rfl)
  have x5 := cell_regrown (w := W) (a := ⟨w.heap.size + 1, 5, none⟩) (v := .int .i64 pr) (by rw [cell_of_row _ _ _ _ _ _ HO.out]; rfl)
  have x6 := cell_regrown (w := W) (a := ⟨w.heap.size + 1, 6, none⟩) (v := .int .i64 pi) (by rw [cell_of_row _ _ _ _ _ _ HO.out]; rfl)
  have x7 := cell_regrown (w := W) (a := ⟨w.heap.size + 1, 7, none⟩) (v := .string name) (by rw [cell_of_row _ _ _ _ _ _ HO.out]; rfl)
  have y0 := cell_regrown (w := W) (a := ⟨w.heap.size, 0, none⟩) (v := .int .i64 gt) (by rw [cell_of_row _ _ _ _ _ _ HG.out]; rfl)
  have y1 := cell_regrown (w := W) (a := ⟨w.heap.size, 1, none⟩) (v := .int .i64 gr) (by rw [cell_of_row _ _ _ _ _ _ HG.out]; rfl)
  have y2 := cell_regrown (w := W) (a := ⟨w.heap.size, 2, none⟩) (v := .int .i64 n') (by rw [cell_of_row _ _ _ _ _ _ HG.out]; rfl)
  have y3 := cell_regrown (w := W) (a := ⟨w.heap.size, 3, none⟩) (v := .slice dA' dn' dc') (by rw [cell_of_row _ _ _ _ _ _ HG.out]; rfl)
  have y4 := cell_regrown (w := W) (a := ⟨w.heap.size, 4, none⟩) (v := .int .i64 ut) (by rw [cell_of_row _ _ _ _ _ _ HG.out]; rfl)
  have y5 := cell_regrown (w := W) (a := ⟨w.heap.size, 5, none⟩) (v := .int .i64 ur) (by rw [cell_of_row _ _ _ _ _ _ HG.out]; rfl)
  have y6 := cell_regrown (w := W) (a := ⟨w.heap.size, 6, none⟩) (v := .slice oA on oc) (by rw [cell_of_row _ _ _ _ _ _ HG.out]; rfl)
  obtain ⟨opl, hol⟩ : ∃ l : List Value, l = [.int .i64 1, .int .i64 nt, .int .i64 nr, .int .i64 ni, .int .i64 pt, .int .i64 pr, .int .i64 pi, .string name, .bool dir, .slice dA dots.length dc, .int .i64 at_, .int .i64 ar, .int .i64 ai, .int .i64 et, .int .i64 er, .int .i64 ei, .string text, .slice eA elems.length ec] := ⟨_, rfl⟩
  have HOL := Lib.hid hol
  have HRR := Lib.hid (range_regrown (show W.rangeAt (w.heap.size + 1) 0 opl by rw [hol]; exact row_range HO.out))
  have HNL := Lib.hid (show (Tryz.prog.info? 70).map (·.size) = some opl.length by rw [hol]; kernel_rfl)
  clear hol
  have cA := fun d os => Calls.regrown_of (refahead_any ⟨gt, gr⟩ ⟨n', dA', dn', dc', ut, ur, oA, on, oc⟩ ⟨⟨nt, nr⟩, ni⟩ k (grow (redrawn W d) os))
  have cP := fun d os => Calls.regrown_of (refparent_any ⟨gt, gr⟩ ⟨n', dA', dn', dc', ut, ur, oA, on, oc⟩ ⟨⟨pt, pr⟩, pi⟩ k (grow (redrawn W d) os))
  have cN := fun d os => Calls.regrown_same (refname_any name (grow (redrawn W d) os) hn)
  have cB := fun d os => Calls.regrown_of (HBA.out (grow (redrawn W d) os))
  simp only [gxV, idV] at cA cP
  clear hBW0 hD hE HBA hn hdl hel HG HO HJ
  cases h0 : aheadB ⟨gt, gr⟩ ⟨⟨nt, nr⟩, ni⟩ k with
  | false =>
    rw [h0] at cA
    obtain rfl : ans = -1 := by rw [HANS.out]; exact refV_no (by rw [HK.out, h0]; simp)
    clear h0
    refine wp_plain_quiet_below ?_
    repeat (any_goals (first | (refine quiet_load_mid rfl _ _ rfl (w.heap.size + 1) 0 rfl opl _ HRR.out Tryz.underlying70 rfl HNL.out ?_; rw [HOL.out]) | go_big_quiet_step (first | with_reducible exact cA _ _ | with_reducible exact cP _ _ | with_reducible exact cN _ _ | with_reducible exact cB _ _) | quiet_step (first | with_reducible exact cA _ _ | with_reducible exact cP _ _ | with_reducible exact cN _ _ | with_reducible exact cB _ _)))
    refine wpQuiet_nil ?_
    intro _ hw'
    obtain ⟨⟨dq, osq⟩, hw''⟩ := hw'
    subst hw''
    have hBq := below_regrown W dq osq
    generalize grow (redrawn W dq) osq = wq at *
    go_wp2
    go_ret
    exact ⟨rfl, HBW.out.trans (hBq.mono HBW.out.size)⟩
  | true =>
    rw [h0] at cA
    have H0 := Lib.hid h0
    clear h0
    cases h1 : parentB ⟨gt, gr⟩ ⟨⟨pt, pr⟩, pi⟩ k with
    | false =>
      rw [h1] at cP
      obtain rfl : ans = -1 := by rw [HANS.out]; exact refV_no (by rw [HK.out, H0.out, h1]; simp)
      clear h1
      refine wp_plain_quiet_below ?_
      repeat (any_goals (first | (refine quiet_load_mid rfl _ _ rfl (w.heap.size + 1) 0 rfl opl _ HRR.out Tryz.underlying70 rfl HNL.out ?_; rw [HOL.out]) | go_big_quiet_step (first | with_reducible exact cA _ _ | with_reducible exact cP _ _ | with_reducible exact cN _ _ | with_reducible exact cB _ _) | quiet_step (first | with_reducible exact cA _ _ | with_reducible exact cP _ _ | with_reducible exact cN _ _ | with_reducible exact cB _ _)))
      refine wpQuiet_nil ?_
      intro _ hw'
      obtain ⟨⟨dq, osq⟩, hw''⟩ := hw'
      subst hw''
      have hBq := below_regrown W dq osq
      generalize grow (redrawn W dq) osq = wq at *
      go_wp2
      go_ret
      exact ⟨rfl, HBW.out.trans (hBq.mono HBW.out.size)⟩
    | true =>
      rw [h1] at cP
      have H1 := Lib.hid h1
      clear h1
      cases h2 : nameB name with
      | false =>
        rw [h2] at cN
        obtain rfl : ans = -1 := by rw [HANS.out]; exact refV_no (by rw [HK.out, H0.out, H1.out, h2]; simp)
        clear h2
        refine wp_plain_quiet_below ?_
        repeat (any_goals (first | (refine quiet_load_mid rfl _ _ rfl (w.heap.size + 1) 0 rfl opl _ HRR.out Tryz.underlying70 rfl HNL.out ?_; rw [HOL.out]) | go_big_quiet_step (first | with_reducible exact cA _ _ | with_reducible exact cP _ _ | with_reducible exact cN _ _ | with_reducible exact cB _ _) | quiet_step (first | with_reducible exact cA _ _ | with_reducible exact cP _ _ | with_reducible exact cN _ _ | with_reducible exact cB _ _)))
        refine wpQuiet_nil ?_
        intro _ hw'
        obtain ⟨⟨dq, osq⟩, hw''⟩ := hw'
        subst hw''
        have hBq := below_regrown W dq osq
        generalize grow (redrawn W dq) osq = wq at *
        go_wp2
        go_ret
        exact ⟨rfl, HBW.out.trans (hBq.mono HBW.out.size)⟩
      | true =>
        rw [h2] at cN
        have H2 := Lib.hid h2
        clear h2
        cases bb with
        | false =>
          obtain rfl : ans = -1 := by rw [HANS.out]; exact refV_no (by rw [← HBB.out]; simp)
          refine wp_plain_quiet_below ?_
          repeat (any_goals (first | (refine quiet_load_mid rfl _ _ rfl (w.heap.size + 1) 0 rfl opl _ HRR.out Tryz.underlying70 rfl HNL.out ?_; rw [HOL.out]) | go_big_quiet_step (first | with_reducible exact cA _ _ | with_reducible exact cP _ _ | with_reducible exact cN _ _ | with_reducible exact cB _ _) | quiet_step (first | with_reducible exact cA _ _ | with_reducible exact cP _ _ | with_reducible exact cN _ _ | with_reducible exact cB _ _)))
          refine wpQuiet_nil ?_
          intro _ hw'
          obtain ⟨⟨dq, osq⟩, hw''⟩ := hw'
          subst hw''
          have hBq := below_regrown W dq osq
          generalize grow (redrawn W dq) osq = wq at *
          go_wp2
          go_ret
          exact ⟨rfl, HBW.out.trans (hBq.mono HBW.out.size)⟩
        | true =>
          obtain rfl : ans = 0 := by rw [HANS.out, refV_yes (by rw [← HBB.out, HK.out, H0.out, H1.out, H2.out]; simp), HMO.out]
          refine wp_plain_quiet_below ?_
          repeat (any_goals (first | (refine quiet_load_mid rfl _ _ rfl (w.heap.size + 1) 0 rfl opl _ HRR.out Tryz.underlying70 rfl HNL.out ?_; rw [HOL.out]) | go_big_quiet_step (first | with_reducible exact cA _ _ | with_reducible exact cP _ _ | with_reducible exact cN _ _ | with_reducible exact cB _ _) | quiet_step (first | with_reducible exact cA _ _ | with_reducible exact cP _ _ | with_reducible exact cN _ _ | with_reducible exact cB _ _)))
          refine wpQuiet_nil ?_
          intro _ hw'
          obtain ⟨⟨dq, osq⟩, hw''⟩ := hw'
          subst hw''
          have hBq := below_regrown W dq osq
          generalize grow (redrawn W dq) osq = wq at *
          go_wp2
          go_ret
          exact ⟨rfl, HBW.out.trans (hBq.mono HBW.out.size)⟩
set_option maxRecDepth 100000 in
set_option maxHeartbeats 8000000 in
theorem refop_2 (gt gr : Int) (n' : Int) (dA' : Option Addr) (dn' dc' : Nat) (ut ur : Int) (oA : Option Addr) (on oc : Nat) (k : Nat) (nt nr ni pt pr pi : Int) (name : ByteArray) (dir : Bool) (dots : List Gst) (at_ ar ai et er ei : Int) (text : ByteArray) (elems : List Gid) (dA : Option Addr) (dc : Nat) (eA : Option Addr) (ec : Nat) (S : Nat → Prop) (w : World) (hn : name.size ≤ 9223372036854775807) (hdl : dots.length ≤ 9223372036854775807) (hel : elems.length ≤ 9223372036854775807) (hD : StsS w S dA dots) (hE : IdsS w S eA elems) :
    Calls Tryz.prog 88 #[.agg #[.int .i64 gt, .int .i64 gr, .int .i64 n', .slice dA' dn' dc', .int .i64 ut, .int .i64 ur, .slice oA on oc], .agg #[.int .i64 2, .int .i64 nt, .int .i64 nr, .int .i64 ni, .int .i64 pt, .int .i64 pr, .int .i64 pi, .string name, .bool dir, .slice dA dots.length dc, .int .i64 at_, .int .i64 ar, .int .i64 ai, .int .i64 et, .int .i64 er, .int .i64 ei, .string text, .slice eA elems.length ec], .int .i64 k] w fun e w' => e = .returned (.int .i64 (refV ⟨gt, gr⟩ (⟨2, ⟨⟨nt, nr⟩, ni⟩, ⟨⟨pt, pr⟩, pi⟩, name, dir, dots, ⟨⟨at_, ar⟩, ai⟩, ⟨⟨et, er⟩, ei⟩, text, elems⟩ : Gop) k)) ∧ Below w.heap.size w w' := by
  obtain ⟨ans, hans⟩ : ∃ v, v = refV ⟨gt, gr⟩ (⟨2, ⟨⟨nt, nr⟩, ni⟩, ⟨⟨pt, pr⟩, pi⟩, name, dir, dots, ⟨⟨at_, ar⟩, ai⟩, ⟨⟨et, er⟩, ei⟩, text, elems⟩ : Gop) k := ⟨_, rfl⟩
  rw [← hans]
  obtain ⟨bb, hbb⟩ : ∃ b, b = bareB (⟨2, ⟨⟨nt, nr⟩, ni⟩, ⟨⟨pt, pr⟩, pi⟩, name, dir, dots, ⟨⟨at_, ar⟩, ai⟩, ⟨⟨et, er⟩, ei⟩, text, elems⟩ : Gop) := ⟨_, rfl⟩
  have HBB := Lib.hid hbb
  have HBA := Lib.hid (show ∀ W, Calls Tryz.prog 119 #[.agg #[.int .i64 2, .int .i64 nt, .int .i64 nr, .int .i64 ni, .int .i64 pt, .int .i64 pr, .int .i64 pi, .string name, .bool dir, .slice dA dots.length dc, .int .i64 at_, .int .i64 ar, .int .i64 ai, .int .i64 et, .int .i64 er, .int .i64 ei, .string text, .slice eA elems.length ec], .bool false, .bool false, .bool true, .bool false, .bool false] W fun e w' => e = .returned (.bool bb) ∧ Below W.heap.size W w' from fun W => by
    refine (refbare_2 2 nt nr ni pt pr pi name dir dA dots.length dc at_ ar ai et er ei text eA elems.length ec W).mono ?_
    rintro e w' ⟨rfl, hB⟩
    refine ⟨?_, hB⟩
    congr 2
    rw [hbb]
    simp [bareB, Bool.and_assoc])
  have HK : Hid (kindB ⟨gt, gr⟩ (⟨2, ⟨⟨nt, nr⟩, ni⟩, ⟨⟨pt, pr⟩, pi⟩, name, dir, dots, ⟨⟨at_, ar⟩, ai⟩, ⟨⟨et, er⟩, ei⟩, text, elems⟩ : Gop) k = (aheadB ⟨gt, gr⟩ ⟨⟨nt, nr⟩, ni⟩ k && dotsB ⟨gt, gr⟩ dots)) := Lib.hid (by simp [kindB])
  have HMO : Hid ((moreOf (⟨2, ⟨⟨nt, nr⟩, ni⟩, ⟨⟨pt, pr⟩, pi⟩, name, dir, dots, ⟨⟨at_, ar⟩, ai⟩, ⟨⟨et, er⟩, ei⟩, text, elems⟩ : Gop) : Int) = 0) := Lib.hid (by simp [moreOf])
  have HANS := Lib.hid hans
  clear hans hbb
  go_enter Tryz.func88, Tryz.ntmps88
  go_upto_region 2 with fail
  generalize hW : (((w.alloc (.cells #[.int .i64 gt, .int .i64 gr, .int .i64 n', .slice dA' dn' dc', .int .i64 ut, .int .i64 ur, .slice oA on oc] 40)).alloc (.cells #[.int .i64 2, .int .i64 nt, .int .i64 nr, .int .i64 ni, .int .i64 pt, .int .i64 pr, .int .i64 pi, .string name, .bool dir, .slice dA dots.length dc, .int .i64 at_, .int .i64 ar, .int .i64 ai, .int .i64 et, .int .i64 er, .int .i64 ei, .string text, .slice eA elems.length ec] 70)).alloc (.cells #[.int .i64 gt, .int .i64 gr, .int .i64 k] 66)) = W
  have HG := Lib.hid (show W.heap[w.heap.size]? = some (.cells #[.int .i64 gt, .int .i64 gr, .int .i64 n', .slice dA' dn' dc', .int .i64 ut, .int .i64 ur, .slice oA on oc] 40 (0, 0)) by rw [← hW]; exact (Below.heap_alloc _ _ _ (by simp; omega)).trans ((Below.heap_alloc _ _ _ (by simp)).trans (heap_alloc_new _ _)))
  have HO := Lib.hid (show W.heap[w.heap.size + 1]? = some (.cells #[.int .i64 2, .int .i64 nt, .int .i64 nr, .int .i64 ni, .int .i64 pt, .int .i64 pr, .int .i64 pi, .string name, .bool dir, .slice dA dots.length dc, .int .i64 at_, .int .i64 ar, .int .i64 ai, .int .i64 et, .int .i64 er, .int .i64 ei, .string text, .slice eA elems.length ec] 70 (0, 0)) by rw [← hW]; exact (Below.heap_alloc _ _ _ (by simp)).trans (heap_alloc_new' _ _ (by simp)))
  have HJ := Lib.hid (show W.heap[w.heap.size + 2]? = some (.cells #[.int .i64 gt, .int .i64 gr, .int .i64 k] 66 (0, 0)) by rw [← hW]; exact heap_alloc_new' _ _ (by simp))
  have HBW := Lib.hid (show Below w.heap.size w W by rw [← hW]; exact (((Below.refl _ _).alloc (Nat.le_refl _) _).alloc (by simp) _).alloc (by simp; omega) _)
  clear hW
  have r0 : W.cell? ⟨w.heap.size + 1, 0, none⟩ = some (.int .i64 2) := by rw [cell_of_row _ _ _ _ _ _ HO.out]; rfl
  go_upto_region 10 with fail
  clear r0
  have hBW0 := HBW.out
  have x1 := cell_regrown (w := W) (a := ⟨w.heap.size + 1, 1, none⟩) (v := .int .i64 nt) (by rw [cell_of_row _ _ _ _ _ _ HO.out]; rfl)
  have x2 := cell_regrown (w := W) (a := ⟨w.heap.size + 1, 2, none⟩) (v := .int .i64 nr) (by rw [cell_of_row _ _ _ _ _ _ HO.out]; rfl)
  have x3 := cell_regrown (w := W) (a := ⟨w.heap.size + 1, 3, none⟩) (v := .int .i64 ni) (by rw [cell_of_row _ _ _ _ _ _ HO.out]; rfl)
  have x9 := cell_regrown (w := W) (a := ⟨w.heap.size + 1, 9, none⟩) (v := .slice dA dots.length dc) (by rw [cell_of_row _ _ _ _ _ _ HO.out]; rfl)
  have y0 := cell_regrown (w := W) (a := ⟨w.heap.size, 0, none⟩) (v := .int .i64 gt) (by rw [cell_of_row _ _ _ _ _ _ HG.out]; rfl)
  have y1 := cell_regrown (w := W) (a := ⟨w.heap.size, 1, none⟩) (v := .int .i64 gr) (by rw [cell_of_row _ _ _ _ _ _ HG.out]; rfl)
  have y2 := cell_regrown (w := W) (a := ⟨w.heap.size, 2, none⟩) (v := .int .i64 n') (by rw [cell_of_row _ _ _ _ _ _ HG.out]; rfl)
  have y3 := cell_regrown (w := W) (a := ⟨w.heap.size, 3, none⟩) (v := .slice dA' dn' dc') (by rw [cell_of_row _ _ _ _ _ _ HG.out]; rfl)
  have y4 := cell_regrown (w := W) (a := ⟨w.heap.size, 4, none⟩) (v := .int .i64 ut) (by rw [cell_of_row _ _ _ _ _ _ HG.out]; rfl)
  have y5 := cell_regrown (w := W) (a := ⟨w.heap.size, 5, none⟩) (v := .int .i64 ur) (by rw [cell_of_row _ _ _ _ _ _ HG.out]; rfl)
  have y6 := cell_regrown (w := W) (a := ⟨w.heap.size, 6, none⟩) (v := .slice oA on oc) (by rw [cell_of_row _ _ _ _ _ _ HG.out]; rfl)
  obtain ⟨opl, hol⟩ : ∃ l : List Value, l = [.int .i64 2, .int .i64 nt, .int .i64 nr, .int .i64 ni, .int .i64 pt, .int .i64 pr, .int .i64 pi, .string name, .bool dir, .slice dA dots.length dc, .int .i64 at_, .int .i64 ar, .int .i64 ai, .int .i64 et, .int .i64 er, .int .i64 ei, .string text, .slice eA elems.length ec] := ⟨_, rfl⟩
  have HOL := Lib.hid hol
  have HRR := Lib.hid (range_regrown (show W.rangeAt (w.heap.size + 1) 0 opl by rw [hol]; exact row_range HO.out))
  have HNL := Lib.hid (show (Tryz.prog.info? 70).map (·.size) = some opl.length by rw [hol]; kernel_rfl)
  clear hol
  have cA := fun d os => Calls.regrown_of (refahead_any ⟨gt, gr⟩ ⟨n', dA', dn', dc', ut, ur, oA, on, oc⟩ ⟨⟨nt, nr⟩, ni⟩ k (grow (redrawn W d) os))
  have cD := fun d os => Calls.regrown_of (refdots_any ⟨gt, gr⟩ ⟨n', dA', dn', dc', ut, ur, oA, on, oc⟩ dA dc dots S (grow (redrawn W d) os) hdl (hD.agr (Agr.below (hBW0.trans ((below_regrown W d os).mono hBW0.size)))))
  have cB := fun d os => Calls.regrown_of (HBA.out (grow (redrawn W d) os))
  simp only [gxV, idV] at cA cD
  clear hBW0 hD hE HBA hn hdl hel HG HO HJ
  cases h0 : aheadB ⟨gt, gr⟩ ⟨⟨nt, nr⟩, ni⟩ k with
  | false =>
    rw [h0] at cA
    obtain rfl : ans = -1 := by rw [HANS.out]; exact refV_no (by rw [HK.out, h0]; simp)
    clear h0
    refine wp_plain_quiet_below ?_
    repeat (any_goals (first | (refine quiet_load_mid rfl _ _ rfl (w.heap.size + 1) 0 rfl opl _ HRR.out Tryz.underlying70 rfl HNL.out ?_; rw [HOL.out]) | go_big_quiet_step (first | with_reducible exact cA _ _ | with_reducible exact cD _ _ | with_reducible exact cB _ _) | quiet_step (first | with_reducible exact cA _ _ | with_reducible exact cD _ _ | with_reducible exact cB _ _)))
    refine wpQuiet_nil ?_
    intro _ hw'
    obtain ⟨⟨dq, osq⟩, hw''⟩ := hw'
    subst hw''
    have hBq := below_regrown W dq osq
    generalize grow (redrawn W dq) osq = wq at *
    go_wp2
    go_ret
    exact ⟨rfl, HBW.out.trans (hBq.mono HBW.out.size)⟩
  | true =>
    rw [h0] at cA
    have H0 := Lib.hid h0
    clear h0
    cases h1 : dotsB ⟨gt, gr⟩ dots with
    | false =>
      rw [h1] at cD
      obtain rfl : ans = -1 := by rw [HANS.out]; exact refV_no (by rw [HK.out, H0.out, h1]; simp)
      clear h1
      refine wp_plain_quiet_below ?_
      repeat (any_goals (first | (refine quiet_load_mid rfl _ _ rfl (w.heap.size + 1) 0 rfl opl _ HRR.out Tryz.underlying70 rfl HNL.out ?_; rw [HOL.out]) | go_big_quiet_step (first | with_reducible exact cA _ _ | with_reducible exact cD _ _ | with_reducible exact cB _ _) | quiet_step (first | with_reducible exact cA _ _ | with_reducible exact cD _ _ | with_reducible exact cB _ _)))
      refine wpQuiet_nil ?_
      intro _ hw'
      obtain ⟨⟨dq, osq⟩, hw''⟩ := hw'
      subst hw''
      have hBq := below_regrown W dq osq
      generalize grow (redrawn W dq) osq = wq at *
      go_wp2
      go_ret
      exact ⟨rfl, HBW.out.trans (hBq.mono HBW.out.size)⟩
    | true =>
      rw [h1] at cD
      have H1 := Lib.hid h1
      clear h1
      cases bb with
      | false =>
        obtain rfl : ans = -1 := by rw [HANS.out]; exact refV_no (by rw [← HBB.out]; simp)
        refine wp_plain_quiet_below ?_
        repeat (any_goals (first | (refine quiet_load_mid rfl _ _ rfl (w.heap.size + 1) 0 rfl opl _ HRR.out Tryz.underlying70 rfl HNL.out ?_; rw [HOL.out]) | go_big_quiet_step (first | with_reducible exact cA _ _ | with_reducible exact cD _ _ | with_reducible exact cB _ _) | quiet_step (first | with_reducible exact cA _ _ | with_reducible exact cD _ _ | with_reducible exact cB _ _)))
        refine wpQuiet_nil ?_
        intro _ hw'
        obtain ⟨⟨dq, osq⟩, hw''⟩ := hw'
        subst hw''
        have hBq := below_regrown W dq osq
        generalize grow (redrawn W dq) osq = wq at *
        go_wp2
        go_ret
        exact ⟨rfl, HBW.out.trans (hBq.mono HBW.out.size)⟩
      | true =>
        obtain rfl : ans = 0 := by rw [HANS.out, refV_yes (by rw [← HBB.out, HK.out, H0.out, H1.out]; simp), HMO.out]
        refine wp_plain_quiet_below ?_
        repeat (any_goals (first | (refine quiet_load_mid rfl _ _ rfl (w.heap.size + 1) 0 rfl opl _ HRR.out Tryz.underlying70 rfl HNL.out ?_; rw [HOL.out]) | go_big_quiet_step (first | with_reducible exact cA _ _ | with_reducible exact cD _ _ | with_reducible exact cB _ _) | quiet_step (first | with_reducible exact cA _ _ | with_reducible exact cD _ _ | with_reducible exact cB _ _)))
        refine wpQuiet_nil ?_
        intro _ hw'
        obtain ⟨⟨dq, osq⟩, hw''⟩ := hw'
        subst hw''
        have hBq := below_regrown W dq osq
        generalize grow (redrawn W dq) osq = wq at *
        go_wp2
        go_ret
        exact ⟨rfl, HBW.out.trans (hBq.mono HBW.out.size)⟩
set_option maxRecDepth 100000 in
set_option maxHeartbeats 8000000 in
theorem refop_4 (gt gr : Int) (n' : Int) (dA' : Option Addr) (dn' dc' : Nat) (ut ur : Int) (oA : Option Addr) (on oc : Nat) (k : Nat) (nt nr ni pt pr pi : Int) (name : ByteArray) (dir : Bool) (dots : List Gst) (at_ ar ai et er ei : Int) (text : ByteArray) (elems : List Gid) (dA : Option Addr) (dc : Nat) (eA : Option Addr) (ec : Nat) (S : Nat → Prop) (w : World) (hn : name.size ≤ 9223372036854775807) (hdl : dots.length ≤ 9223372036854775807) (hel : elems.length ≤ 9223372036854775807) (hD : StsS w S dA dots) (hE : IdsS w S eA elems) :
    Calls Tryz.prog 88 #[.agg #[.int .i64 gt, .int .i64 gr, .int .i64 n', .slice dA' dn' dc', .int .i64 ut, .int .i64 ur, .slice oA on oc], .agg #[.int .i64 4, .int .i64 nt, .int .i64 nr, .int .i64 ni, .int .i64 pt, .int .i64 pr, .int .i64 pi, .string name, .bool dir, .slice dA dots.length dc, .int .i64 at_, .int .i64 ar, .int .i64 ai, .int .i64 et, .int .i64 er, .int .i64 ei, .string text, .slice eA elems.length ec], .int .i64 k] w fun e w' => e = .returned (.int .i64 (refV ⟨gt, gr⟩ (⟨4, ⟨⟨nt, nr⟩, ni⟩, ⟨⟨pt, pr⟩, pi⟩, name, dir, dots, ⟨⟨at_, ar⟩, ai⟩, ⟨⟨et, er⟩, ei⟩, text, elems⟩ : Gop) k)) ∧ Below w.heap.size w w' := by
  obtain ⟨ans, hans⟩ : ∃ v, v = refV ⟨gt, gr⟩ (⟨4, ⟨⟨nt, nr⟩, ni⟩, ⟨⟨pt, pr⟩, pi⟩, name, dir, dots, ⟨⟨at_, ar⟩, ai⟩, ⟨⟨et, er⟩, ei⟩, text, elems⟩ : Gop) k := ⟨_, rfl⟩
  rw [← hans]
  obtain ⟨bb, hbb⟩ : ∃ b, b = bareB (⟨4, ⟨⟨nt, nr⟩, ni⟩, ⟨⟨pt, pr⟩, pi⟩, name, dir, dots, ⟨⟨at_, ar⟩, ai⟩, ⟨⟨et, er⟩, ei⟩, text, elems⟩ : Gop) := ⟨_, rfl⟩
  have HBB := Lib.hid hbb
  have HBA := Lib.hid (show ∀ W, Calls Tryz.prog 119 #[.agg #[.int .i64 4, .int .i64 nt, .int .i64 nr, .int .i64 ni, .int .i64 pt, .int .i64 pr, .int .i64 pi, .string name, .bool dir, .slice dA dots.length dc, .int .i64 at_, .int .i64 ar, .int .i64 ai, .int .i64 et, .int .i64 er, .int .i64 ei, .string text, .slice eA elems.length ec], .bool false, .bool false, .bool false, .bool false, .bool true] W fun e w' => e = .returned (.bool bb) ∧ Below W.heap.size W w' from fun W => by
    refine (refbare_4 4 nt nr ni pt pr pi name dir dA dots.length dc at_ ar ai et er ei text eA elems.length ec W).mono ?_
    rintro e w' ⟨rfl, hB⟩
    refine ⟨?_, hB⟩
    congr 2
    rw [hbb]
    simp [bareB, Bool.and_assoc])
  have HK : Hid (kindB ⟨gt, gr⟩ (⟨4, ⟨⟨nt, nr⟩, ni⟩, ⟨⟨pt, pr⟩, pi⟩, name, dir, dots, ⟨⟨at_, ar⟩, ai⟩, ⟨⟨et, er⟩, ei⟩, text, elems⟩ : Gop) k = (aheadB ⟨gt, gr⟩ ⟨⟨nt, nr⟩, ni⟩ k && elemsB ⟨gt, gr⟩ elems k)) := Lib.hid (by simp [kindB])
  have HMO : Hid ((moreOf (⟨4, ⟨⟨nt, nr⟩, ni⟩, ⟨⟨pt, pr⟩, pi⟩, name, dir, dots, ⟨⟨at_, ar⟩, ai⟩, ⟨⟨et, er⟩, ei⟩, text, elems⟩ : Gop) : Int) = 0) := Lib.hid (by simp [moreOf])
  have HANS := Lib.hid hans
  clear hans hbb
  go_enter Tryz.func88, Tryz.ntmps88
  go_upto_region 2 with fail
  generalize hW : (((w.alloc (.cells #[.int .i64 gt, .int .i64 gr, .int .i64 n', .slice dA' dn' dc', .int .i64 ut, .int .i64 ur, .slice oA on oc] 40)).alloc (.cells #[.int .i64 4, .int .i64 nt, .int .i64 nr, .int .i64 ni, .int .i64 pt, .int .i64 pr, .int .i64 pi, .string name, .bool dir, .slice dA dots.length dc, .int .i64 at_, .int .i64 ar, .int .i64 ai, .int .i64 et, .int .i64 er, .int .i64 ei, .string text, .slice eA elems.length ec] 70)).alloc (.cells #[.int .i64 gt, .int .i64 gr, .int .i64 k] 66)) = W
  have HG := Lib.hid (show W.heap[w.heap.size]? = some (.cells #[.int .i64 gt, .int .i64 gr, .int .i64 n', .slice dA' dn' dc', .int .i64 ut, .int .i64 ur, .slice oA on oc] 40 (0, 0)) by rw [← hW]; exact (Below.heap_alloc _ _ _ (by simp; omega)).trans ((Below.heap_alloc _ _ _ (by simp)).trans (heap_alloc_new _ _)))
  have HO := Lib.hid (show W.heap[w.heap.size + 1]? = some (.cells #[.int .i64 4, .int .i64 nt, .int .i64 nr, .int .i64 ni, .int .i64 pt, .int .i64 pr, .int .i64 pi, .string name, .bool dir, .slice dA dots.length dc, .int .i64 at_, .int .i64 ar, .int .i64 ai, .int .i64 et, .int .i64 er, .int .i64 ei, .string text, .slice eA elems.length ec] 70 (0, 0)) by rw [← hW]; exact (Below.heap_alloc _ _ _ (by simp)).trans (heap_alloc_new' _ _ (by simp)))
  have HJ := Lib.hid (show W.heap[w.heap.size + 2]? = some (.cells #[.int .i64 gt, .int .i64 gr, .int .i64 k] 66 (0, 0)) by rw [← hW]; exact heap_alloc_new' _ _ (by simp))
  have HBW := Lib.hid (show Below w.heap.size w W by rw [← hW]; exact (((Below.refl _ _).alloc (Nat.le_refl _) _).alloc (by simp) _).alloc (by simp; omega) _)
  clear hW
  have r0 : W.cell? ⟨w.heap.size + 1, 0, none⟩ = some (.int .i64 4) := by rw [cell_of_row _ _ _ _ _ _ HO.out]; rfl
  go_upto_region 17 with fail
  clear r0
  have hBW0 := HBW.out
  have x1 := cell_regrown (w := W) (a := ⟨w.heap.size + 1, 1, none⟩) (v := .int .i64 nt) (by rw [cell_of_row _ _ _ _ _ _ HO.out]; rfl)
  have x2 := cell_regrown (w := W) (a := ⟨w.heap.size + 1, 2, none⟩) (v := .int .i64 nr) (by rw [cell_of_row _ _ _ _ _ _ HO.out]; rfl)
  have x3 := cell_regrown (w := W) (a := ⟨w.heap.size + 1, 3, none⟩) (v := .int .i64 ni) (by rw [cell_of_row _ _ _ _ _ _ HO.out]; rfl)
  have x17 := cell_regrown (w := W) (a := ⟨w.heap.size + 1, 17, none⟩) (v := .slice eA elems.length ec) (by rw [cell_of_row _ _ _ _ _ _ HO.out]; rfl)
  have y0 := cell_regrown (w := W) (a := ⟨w.heap.size, 0, none⟩) (v := .int .i64 gt) (by rw [cell_of_row _ _ _ _ _ _ HG.out]; rfl)
  have y1 := cell_regrown (w := W) (a := ⟨w.heap.size, 1, none⟩) (v := .int .i64 gr) (by rw [cell_of_row _ _ _ _ _ _ HG.out]; rfl)
  have y2 := cell_regrown (w := W) (a := ⟨w.heap.size, 2, none⟩) (v := .int .i64 n') (by rw [cell_of_row _ _ _ _ _ _ HG.out]; rfl)
  have y3 := cell_regrown (w := W) (a := ⟨w.heap.size, 3, none⟩) (v := .slice dA' dn' dc') (by rw [cell_of_row _ _ _ _ _ _ HG.out]; rfl)
  have y4 := cell_regrown (w := W) (a := ⟨w.heap.size, 4, none⟩) (v := .int .i64 ut) (by rw [cell_of_row _ _ _ _ _ _ HG.out]; rfl)
  have y5 := cell_regrown (w := W) (a := ⟨w.heap.size, 5, none⟩) (v := .int .i64 ur) (by rw [cell_of_row _ _ _ _ _ _ HG.out]; rfl)
  have y6 := cell_regrown (w := W) (a := ⟨w.heap.size, 6, none⟩) (v := .slice oA on oc) (by rw [cell_of_row _ _ _ _ _ _ HG.out]; rfl)
  obtain ⟨opl, hol⟩ : ∃ l : List Value, l = [.int .i64 4, .int .i64 nt, .int .i64 nr, .int .i64 ni, .int .i64 pt, .int .i64 pr, .int .i64 pi, .string name, .bool dir, .slice dA dots.length dc, .int .i64 at_, .int .i64 ar, .int .i64 ai, .int .i64 et, .int .i64 er, .int .i64 ei, .string text, .slice eA elems.length ec] := ⟨_, rfl⟩
  have HOL := Lib.hid hol
  have HRR := Lib.hid (range_regrown (show W.rangeAt (w.heap.size + 1) 0 opl by rw [hol]; exact row_range HO.out))
  have HNL := Lib.hid (show (Tryz.prog.info? 70).map (·.size) = some opl.length by rw [hol]; kernel_rfl)
  clear hol
  have cA := fun d os => Calls.regrown_of (refahead_any ⟨gt, gr⟩ ⟨n', dA', dn', dc', ut, ur, oA, on, oc⟩ ⟨⟨nt, nr⟩, ni⟩ k (grow (redrawn W d) os))
  have cE := fun d os => Calls.regrown_of (refelems_any ⟨gt, gr⟩ ⟨n', dA', dn', dc', ut, ur, oA, on, oc⟩ k eA ec elems S (grow (redrawn W d) os) hel (hE.agr (Agr.below (hBW0.trans ((below_regrown W d os).mono hBW0.size)))))
  have cB := fun d os => Calls.regrown_of (HBA.out (grow (redrawn W d) os))
  simp only [gxV, idV] at cA cE
  clear hBW0 hD hE HBA hn hdl hel HG HO HJ
  cases h0 : aheadB ⟨gt, gr⟩ ⟨⟨nt, nr⟩, ni⟩ k with
  | false =>
    rw [h0] at cA
    obtain rfl : ans = -1 := by rw [HANS.out]; exact refV_no (by rw [HK.out, h0]; simp)
    clear h0
    refine wp_plain_quiet_below ?_
    repeat (any_goals (first | (refine quiet_load_mid rfl _ _ rfl (w.heap.size + 1) 0 rfl opl _ HRR.out Tryz.underlying70 rfl HNL.out ?_; rw [HOL.out]) | go_big_quiet_step (first | with_reducible exact cA _ _ | with_reducible exact cE _ _ | with_reducible exact cB _ _) | quiet_step (first | with_reducible exact cA _ _ | with_reducible exact cE _ _ | with_reducible exact cB _ _)))
    refine wpQuiet_nil ?_
    intro _ hw'
    obtain ⟨⟨dq, osq⟩, hw''⟩ := hw'
    subst hw''
    have hBq := below_regrown W dq osq
    generalize grow (redrawn W dq) osq = wq at *
    go_wp2
    go_ret
    exact ⟨rfl, HBW.out.trans (hBq.mono HBW.out.size)⟩
  | true =>
    rw [h0] at cA
    have H0 := Lib.hid h0
    clear h0
    cases h1 : elemsB ⟨gt, gr⟩ elems k with
    | false =>
      rw [h1] at cE
      obtain rfl : ans = -1 := by rw [HANS.out]; exact refV_no (by rw [HK.out, H0.out, h1]; simp)
      clear h1
      refine wp_plain_quiet_below ?_
      repeat (any_goals (first | (refine quiet_load_mid rfl _ _ rfl (w.heap.size + 1) 0 rfl opl _ HRR.out Tryz.underlying70 rfl HNL.out ?_; rw [HOL.out]) | go_big_quiet_step (first | with_reducible exact cA _ _ | with_reducible exact cE _ _ | with_reducible exact cB _ _) | quiet_step (first | with_reducible exact cA _ _ | with_reducible exact cE _ _ | with_reducible exact cB _ _)))
      refine wpQuiet_nil ?_
      intro _ hw'
      obtain ⟨⟨dq, osq⟩, hw''⟩ := hw'
      subst hw''
      have hBq := below_regrown W dq osq
      generalize grow (redrawn W dq) osq = wq at *
      go_wp2
      go_ret
      exact ⟨rfl, HBW.out.trans (hBq.mono HBW.out.size)⟩
    | true =>
      rw [h1] at cE
      have H1 := Lib.hid h1
      clear h1
      cases bb with
      | false =>
        obtain rfl : ans = -1 := by rw [HANS.out]; exact refV_no (by rw [← HBB.out]; simp)
        refine wp_plain_quiet_below ?_
        repeat (any_goals (first | (refine quiet_load_mid rfl _ _ rfl (w.heap.size + 1) 0 rfl opl _ HRR.out Tryz.underlying70 rfl HNL.out ?_; rw [HOL.out]) | go_big_quiet_step (first | with_reducible exact cA _ _ | with_reducible exact cE _ _ | with_reducible exact cB _ _) | quiet_step (first | with_reducible exact cA _ _ | with_reducible exact cE _ _ | with_reducible exact cB _ _)))
        refine wpQuiet_nil ?_
        intro _ hw'
        obtain ⟨⟨dq, osq⟩, hw''⟩ := hw'
        subst hw''
        have hBq := below_regrown W dq osq
        generalize grow (redrawn W dq) osq = wq at *
        go_wp2
        go_ret
        exact ⟨rfl, HBW.out.trans (hBq.mono HBW.out.size)⟩
      | true =>
        obtain rfl : ans = 0 := by rw [HANS.out, refV_yes (by rw [← HBB.out, HK.out, H0.out, H1.out]; simp), HMO.out]
        refine wp_plain_quiet_below ?_
        repeat (any_goals (first | (refine quiet_load_mid rfl _ _ rfl (w.heap.size + 1) 0 rfl opl _ HRR.out Tryz.underlying70 rfl HNL.out ?_; rw [HOL.out]) | go_big_quiet_step (first | with_reducible exact cA _ _ | with_reducible exact cE _ _ | with_reducible exact cB _ _) | quiet_step (first | with_reducible exact cA _ _ | with_reducible exact cE _ _ | with_reducible exact cB _ _)))
        refine wpQuiet_nil ?_
        intro _ hw'
        obtain ⟨⟨dq, osq⟩, hw''⟩ := hw'
        subst hw''
        have hBq := below_regrown W dq osq
        generalize grow (redrawn W dq) osq = wq at *
        go_wp2
        go_ret
        exact ⟨rfl, HBW.out.trans (hBq.mono HBW.out.size)⟩
set_option maxRecDepth 100000 in
set_option maxHeartbeats 8000000 in
theorem refop_3n (gt gr : Int) (n' : Int) (dA' : Option Addr) (dn' dc' : Nat) (ut ur : Int) (oA : Option Addr) (on oc : Nat) (k : Nat) (nt nr ni pt pr pi : Int) (name : ByteArray) (dir : Bool) (dots : List Gst) (at_ ar ai et er ei : Int) (text : ByteArray) (elems : List Gid) (dA : Option Addr) (dc : Nat) (eA : Option Addr) (ec : Nat) (S : Nat → Prop) (w : World) (hn : name.size ≤ 9223372036854775807) (hdl : dots.length ≤ 9223372036854775807) (hel : elems.length ≤ 9223372036854775807) (hD : StsS w S dA dots) (hE : IdsS w S eA elems) (htx : text.size ≤ 1000000) (hcnt : cnt text.data.toList = none) :
    Calls Tryz.prog 88 #[.agg #[.int .i64 gt, .int .i64 gr, .int .i64 n', .slice dA' dn' dc', .int .i64 ut, .int .i64 ur, .slice oA on oc], .agg #[.int .i64 3, .int .i64 nt, .int .i64 nr, .int .i64 ni, .int .i64 pt, .int .i64 pr, .int .i64 pi, .string name, .bool dir, .slice dA dots.length dc, .int .i64 at_, .int .i64 ar, .int .i64 ai, .int .i64 et, .int .i64 er, .int .i64 ei, .string text, .slice eA elems.length ec], .int .i64 k] w fun e w' => e = .returned (.int .i64 (refV ⟨gt, gr⟩ (⟨3, ⟨⟨nt, nr⟩, ni⟩, ⟨⟨pt, pr⟩, pi⟩, name, dir, dots, ⟨⟨at_, ar⟩, ai⟩, ⟨⟨et, er⟩, ei⟩, text, elems⟩ : Gop) k)) ∧ Below w.heap.size w w' := by
  obtain ⟨ans, hans⟩ : ∃ v, v = refV ⟨gt, gr⟩ (⟨3, ⟨⟨nt, nr⟩, ni⟩, ⟨⟨pt, pr⟩, pi⟩, name, dir, dots, ⟨⟨at_, ar⟩, ai⟩, ⟨⟨et, er⟩, ei⟩, text, elems⟩ : Gop) k := ⟨_, rfl⟩
  rw [← hans]
  obtain ⟨bb, hbb⟩ : ∃ b, b = bareB (⟨3, ⟨⟨nt, nr⟩, ni⟩, ⟨⟨pt, pr⟩, pi⟩, name, dir, dots, ⟨⟨at_, ar⟩, ai⟩, ⟨⟨et, er⟩, ei⟩, text, elems⟩ : Gop) := ⟨_, rfl⟩
  have HBB := Lib.hid hbb
  have HBA := Lib.hid (show ∀ W, Calls Tryz.prog 119 #[.agg #[.int .i64 3, .int .i64 nt, .int .i64 nr, .int .i64 ni, .int .i64 pt, .int .i64 pr, .int .i64 pi, .string name, .bool dir, .slice dA dots.length dc, .int .i64 at_, .int .i64 ar, .int .i64 ai, .int .i64 et, .int .i64 er, .int .i64 ei, .string text, .slice eA elems.length ec], .bool false, .bool false, .bool false, .bool true, .bool false] W fun e w' => e = .returned (.bool bb) ∧ Below W.heap.size W w' from fun W => by
    refine (refbare_3 3 nt nr ni pt pr pi name dir dA dots.length dc at_ ar ai et er ei text eA elems.length ec W).mono ?_
    rintro e w' ⟨rfl, hB⟩
    refine ⟨?_, hB⟩
    congr 2
    rw [hbb]
    simp [bareB, Bool.and_assoc])
  have HK : Hid (kindB ⟨gt, gr⟩ (⟨3, ⟨⟨nt, nr⟩, ni⟩, ⟨⟨pt, pr⟩, pi⟩, name, dir, dots, ⟨⟨at_, ar⟩, ai⟩, ⟨⟨et, er⟩, ei⟩, text, elems⟩ : Gop) k = false) := Lib.hid (by simp [kindB, textB, cnt_valid, hcnt])
  have HLe : Hid (∀ w, Calls Tryz.prog 122 #[.string text] w fun e w' => e = .returned (.tuple #[.int .i64 0, .int .i64 60]) ∧ Below w.heap.size w w') := Lib.hid (fun w => reflen_bad text w htx hcnt)
  have HANS := Lib.hid hans
  clear hans hbb hcnt htx
  go_enter Tryz.func88, Tryz.ntmps88
  go_upto_region 2 with fail
  generalize hW : (((w.alloc (.cells #[.int .i64 gt, .int .i64 gr, .int .i64 n', .slice dA' dn' dc', .int .i64 ut, .int .i64 ur, .slice oA on oc] 40)).alloc (.cells #[.int .i64 3, .int .i64 nt, .int .i64 nr, .int .i64 ni, .int .i64 pt, .int .i64 pr, .int .i64 pi, .string name, .bool dir, .slice dA dots.length dc, .int .i64 at_, .int .i64 ar, .int .i64 ai, .int .i64 et, .int .i64 er, .int .i64 ei, .string text, .slice eA elems.length ec] 70)).alloc (.cells #[.int .i64 gt, .int .i64 gr, .int .i64 k] 66)) = V
  have HGV := Lib.hid (show V.heap[w.heap.size]? = some (.cells #[.int .i64 gt, .int .i64 gr, .int .i64 n', .slice dA' dn' dc', .int .i64 ut, .int .i64 ur, .slice oA on oc] 40 (0, 0)) by rw [← hW]; exact (Below.heap_alloc _ _ _ (by simp; omega)).trans ((Below.heap_alloc _ _ _ (by simp)).trans (heap_alloc_new _ _)))
  have HOV := Lib.hid (show V.heap[w.heap.size + 1]? = some (.cells #[.int .i64 3, .int .i64 nt, .int .i64 nr, .int .i64 ni, .int .i64 pt, .int .i64 pr, .int .i64 pi, .string name, .bool dir, .slice dA dots.length dc, .int .i64 at_, .int .i64 ar, .int .i64 ai, .int .i64 et, .int .i64 er, .int .i64 ei, .string text, .slice eA elems.length ec] 70 (0, 0)) by rw [← hW]; exact (Below.heap_alloc _ _ _ (by simp)).trans (heap_alloc_new' _ _ (by simp)))
  have HJV := Lib.hid (show V.heap[w.heap.size + 2]? = some (.cells #[.int .i64 gt, .int .i64 gr, .int .i64 k] 66 (0, 0)) by rw [← hW]; exact heap_alloc_new' _ _ (by simp))
  have HBV := Lib.hid (show Below w.heap.size w V by rw [← hW]; exact (((Below.refl _ _).alloc (Nat.le_refl _) _).alloc (by simp) _).alloc (by simp; omega) _)
  clear hW
  have r0 : V.cell? ⟨w.heap.size + 1, 0, none⟩ = some (.int .i64 3) := by rw [cell_of_row _ _ _ _ _ _ HOV.out]; rfl
  have r16 : V.cell? ⟨w.heap.size + 1, 16, none⟩ = some (.string text) := by rw [cell_of_row _ _ _ _ _ _ HOV.out]; rfl
  go_upto_region 14 with (go_at_call 122; refine (HLe.out _).mono ?_; rintro e W ⟨rfl, hB2⟩)
  have HG := Lib.hid ((hB2.block _ (lt_of_block HGV.out)).trans HGV.out)
  have HO := Lib.hid ((hB2.block _ (lt_of_block HOV.out)).trans HOV.out)
  have HJ := Lib.hid ((hB2.block _ (lt_of_block HJV.out)).trans HJV.out)
  have HBW := Lib.hid (HBV.out.trans (hB2.mono HBV.out.size))
  clear r0 r16 hB2 HGV HOV HJV HBV
  have hBW0 := HBW.out
  have x1 := cell_regrown (w := W) (a := ⟨w.heap.size + 1, 1, none⟩) (v := .int .i64 nt) (by rw [cell_of_row _ _ _ _ _ _ HO.out]; rfl)
  have x2 := cell_regrown (w := W) (a := ⟨w.heap.size + 1, 2, none⟩) (v := .int .i64 nr) (by rw [cell_of_row _ _ _ _ _ _ HO.out]; rfl)
  have x3 := cell_regrown (w := W) (a := ⟨w.heap.size + 1, 3, none⟩) (v := .int .i64 ni) (by rw [cell_of_row _ _ _ _ _ _ HO.out]; rfl)
  have x10 := cell_regrown (w := W) (a := ⟨w.heap.size + 1, 10, none⟩) (v := .int .i64 at_) (by rw [cell_of_row _ _ _ _ _ _ HO.out]; rfl)
  have x11 := cell_regrown (w := W) (a := ⟨w.heap.size + 1, 11, none⟩) (v := .int .i64 ar) (by rw [cell_of_row _ _ _ _ _ _ HO.out]; rfl)
  have x12 := cell_regrown (w := W) (a := ⟨w.heap.size + 1, 12, none⟩) (v := .int .i64 ai) (by rw [cell_of_row _ _ _ _ _ _ HO.out]; rfl)
  have x13 := cell_regrown (w := W) (a := ⟨w.heap.size + 1, 13, none⟩) (v := .int .i64 et) (by rw [cell_of_row _ _ _ _ _ _ HO.out]; rfl)
  have x14 := cell_regrown (w := W) (a := ⟨w.heap.size + 1, 14, none⟩) (v := .int .i64 er) (by rw [cell_of_row _ _ _ _ _ _ HO.out]; rfl)
  have x15 := cell_regrown (w := W) (a := ⟨w.heap.size + 1, 15, none⟩) (v := .int .i64 ei) (by rw [cell_of_row _ _ _ _ _ _ HO.out]; rfl)
  have y0 := cell_regrown (w := W) (a := ⟨w.heap.size, 0, none⟩) (v := .int .i64 gt) (by rw [cell_of_row _ _ _ _ _ _ HG.out]; rfl)
  have y1 := cell_regrown (w := W) (a := ⟨w.heap.size, 1, none⟩) (v := .int .i64 gr) (by rw [cell_of_row _ _ _ _ _ _ HG.out]; rfl)
  have y2 := cell_regrown (w := W) (a := ⟨w.heap.size, 2, none⟩) (v := .int .i64 n') (by rw [cell_of_row _ _ _ _ _ _ HG.out]; rfl)
  have y3 := cell_regrown (w := W) (a := ⟨w.heap.size, 3, none⟩) (v := .slice dA' dn' dc') (by rw [cell_of_row _ _ _ _ _ _ HG.out]; rfl)
  have y4 := cell_regrown (w := W) (a := ⟨w.heap.size, 4, none⟩) (v := .int .i64 ut) (by rw [cell_of_row _ _ _ _ _ _ HG.out]; rfl)
  have y5 := cell_regrown (w := W) (a := ⟨w.heap.size, 5, none⟩) (v := .int .i64 ur) (by rw [cell_of_row _ _ _ _ _ _ HG.out]; rfl)
  have y6 := cell_regrown (w := W) (a := ⟨w.heap.size, 6, none⟩) (v := .slice oA on oc) (by rw [cell_of_row _ _ _ _ _ _ HG.out]; rfl)
  have z0 := cell_regrown (w := W) (a := ⟨w.heap.size + 2, 0, none⟩) (v := .int .i64 gt) (by rw [cell_of_row _ _ _ _ _ _ HJ.out]; rfl)
  have z1 := cell_regrown (w := W) (a := ⟨w.heap.size + 2, 1, none⟩) (v := .int .i64 gr) (by rw [cell_of_row _ _ _ _ _ _ HJ.out]; rfl)
  have z2 := cell_regrown (w := W) (a := ⟨w.heap.size + 2, 2, none⟩) (v := .int .i64 k) (by rw [cell_of_row _ _ _ _ _ _ HJ.out]; rfl)
  obtain ⟨opl, hol⟩ : ∃ l : List Value, l = [.int .i64 3, .int .i64 nt, .int .i64 nr, .int .i64 ni, .int .i64 pt, .int .i64 pr, .int .i64 pi, .string name, .bool dir, .slice dA dots.length dc, .int .i64 at_, .int .i64 ar, .int .i64 ai, .int .i64 et, .int .i64 er, .int .i64 ei, .string text, .slice eA elems.length ec] := ⟨_, rfl⟩
  have HOL := Lib.hid hol
  have HRR := Lib.hid (range_regrown (show W.rangeAt (w.heap.size + 1) 0 opl by rw [hol]; exact row_range HO.out))
  have HNL := Lib.hid (show (Tryz.prog.info? 70).map (·.size) = some opl.length by rw [hol]; kernel_rfl)
  clear hol
  have cA := fun d os => Calls.regrown_of (refahead_any ⟨gt, gr⟩ ⟨n', dA', dn', dc', ut, ur, oA, on, oc⟩ ⟨⟨nt, nr⟩, ni⟩ k (grow (redrawn W d) os))
  have cQ := fun d os => Calls.regrown_of (refparent_any ⟨gt, gr⟩ ⟨n', dA', dn', dc', ut, ur, oA, on, oc⟩ ⟨⟨at_, ar⟩, ai⟩ k (grow (redrawn W d) os))
  have cB := fun d os => Calls.regrown_of (HBA.out (grow (redrawn W d) os))
  simp only [gxV, idV] at cA cQ
  clear hBW0 hD hE HBA hn hdl hel HG HO HJ
  cases h0 : aheadB ⟨gt, gr⟩ ⟨⟨nt, nr⟩, ni⟩ k with
  | false =>
    rw [h0] at cA
    obtain rfl : ans = -1 := by rw [HANS.out]; exact refV_no (by rw [HK.out]; simp)
    clear h0
    refine wp_plain_quiet_below ?_
    repeat (any_goals (first | (refine quiet_load_mid rfl _ _ rfl (w.heap.size + 1) 0 rfl opl _ HRR.out Tryz.underlying70 rfl HNL.out ?_; rw [HOL.out]) | go_big_quiet_step (first | with_reducible exact cA _ _ | with_reducible exact cQ _ _ | with_reducible exact cB _ _) | quiet_step (first | with_reducible exact cA _ _ | with_reducible exact cQ _ _ | with_reducible exact cB _ _)))
    refine wpQuiet_nil ?_
    intro _ hw'
    obtain ⟨⟨dq, osq⟩, hw''⟩ := hw'
    subst hw''
    have hBq := below_regrown W dq osq
    generalize grow (redrawn W dq) osq = wq at *
    go_wp2
    go_ret
    exact ⟨rfl, HBW.out.trans (hBq.mono HBW.out.size)⟩
  | true =>
    rw [h0] at cA
    have H0 := Lib.hid h0
    clear h0
    cases h1 : parentB ⟨gt, gr⟩ ⟨⟨at_, ar⟩, ai⟩ k with
    | false =>
      rw [h1] at cQ
      obtain rfl : ans = -1 := by rw [HANS.out]; exact refV_no (by rw [HK.out]; simp)
      clear h1
      refine wp_plain_quiet_below ?_
      repeat (any_goals (first | (refine quiet_load_mid rfl _ _ rfl (w.heap.size + 1) 0 rfl opl _ HRR.out Tryz.underlying70 rfl HNL.out ?_; rw [HOL.out]) | go_big_quiet_step (first | with_reducible exact cA _ _ | with_reducible exact cQ _ _ | with_reducible exact cB _ _) | quiet_step (first | with_reducible exact cA _ _ | with_reducible exact cQ _ _ | with_reducible exact cB _ _)))
      refine wpQuiet_nil ?_
      intro _ hw'
      obtain ⟨⟨dq, osq⟩, hw''⟩ := hw'
      subst hw''
      have hBq := below_regrown W dq osq
      generalize grow (redrawn W dq) osq = wq at *
      go_wp2
      go_ret
      exact ⟨rfl, HBW.out.trans (hBq.mono HBW.out.size)⟩
    | true =>
      rw [h1] at cQ
      have H1 := Lib.hid h1
      clear h1
      cases h2 : Gid.eqb ⟨⟨et, er⟩, ei⟩ ⟨⟨gt, gr⟩, (k : Int)⟩ with
      | false =>
        have he := eq_id et er ei gt gr k false h2
        obtain rfl : ans = -1 := by rw [HANS.out]; exact refV_no (by rw [HK.out]; simp)
        clear h2
        refine wp_plain_quiet_below ?_
        repeat (any_goals (first | (refine quiet_load_mid rfl _ _ rfl (w.heap.size + 1) 0 rfl opl _ HRR.out Tryz.underlying70 rfl HNL.out ?_; rw [HOL.out]) | go_big_quiet_step (first | with_reducible exact cA _ _ | with_reducible exact cQ _ _ | with_reducible exact cB _ _) | quiet_step (first | with_reducible exact cA _ _ | with_reducible exact cQ _ _ | with_reducible exact cB _ _)))
        refine wpQuiet_nil ?_
        intro _ hw'
        obtain ⟨⟨dq, osq⟩, hw''⟩ := hw'
        subst hw''
        have hBq := below_regrown W dq osq
        generalize grow (redrawn W dq) osq = wq at *
        go_wp2
        go_ret
        exact ⟨rfl, HBW.out.trans (hBq.mono HBW.out.size)⟩
      | true =>
        have he := eq_id et er ei gt gr k true h2
        have H2 := Lib.hid h2
        clear h2
        obtain rfl : ans = -1 := by rw [HANS.out]; exact refV_no (by rw [HK.out]; simp)
        refine wp_plain_quiet_below ?_
        repeat (any_goals (first | (refine quiet_load_mid rfl _ _ rfl (w.heap.size + 1) 0 rfl opl _ HRR.out Tryz.underlying70 rfl HNL.out ?_; rw [HOL.out]) | go_big_quiet_step (first | with_reducible exact cA _ _ | with_reducible exact cQ _ _ | with_reducible exact cB _ _) | quiet_step (first | with_reducible exact cA _ _ | with_reducible exact cQ _ _ | with_reducible exact cB _ _)))
        refine wpQuiet_nil ?_
        intro _ hw'
        obtain ⟨⟨dq, osq⟩, hw''⟩ := hw'
        subst hw''
        have hBq := below_regrown W dq osq
        generalize grow (redrawn W dq) osq = wq at *
        go_wp2
        go_ret
        exact ⟨rfl, HBW.out.trans (hBq.mono HBW.out.size)⟩
set_option maxRecDepth 100000 in
set_option maxHeartbeats 8000000 in
theorem refop_3s (gt gr : Int) (n' : Int) (dA' : Option Addr) (dn' dc' : Nat) (ut ur : Int) (oA : Option Addr) (on oc : Nat) (k : Nat) (nt nr ni pt pr pi : Int) (name : ByteArray) (dir : Bool) (dots : List Gst) (at_ ar ai et er ei : Int) (text : ByteArray) (elems : List Gid) (dA : Option Addr) (dc : Nat) (eA : Option Addr) (ec : Nat) (S : Nat → Prop) (w : World) (hn : name.size ≤ 9223372036854775807) (hdl : dots.length ≤ 9223372036854775807) (hel : elems.length ≤ 9223372036854775807) (hD : StsS w S dA dots) (hE : IdsS w S eA elems) (htx : text.size ≤ 1000000) (m : Nat) (hcnt : cnt text.data.toList = some m) :
    Calls Tryz.prog 88 #[.agg #[.int .i64 gt, .int .i64 gr, .int .i64 n', .slice dA' dn' dc', .int .i64 ut, .int .i64 ur, .slice oA on oc], .agg #[.int .i64 3, .int .i64 nt, .int .i64 nr, .int .i64 ni, .int .i64 pt, .int .i64 pr, .int .i64 pi, .string name, .bool dir, .slice dA dots.length dc, .int .i64 at_, .int .i64 ar, .int .i64 ai, .int .i64 et, .int .i64 er, .int .i64 ei, .string text, .slice eA elems.length ec], .int .i64 k] w fun e w' => e = .returned (.int .i64 (refV ⟨gt, gr⟩ (⟨3, ⟨⟨nt, nr⟩, ni⟩, ⟨⟨pt, pr⟩, pi⟩, name, dir, dots, ⟨⟨at_, ar⟩, ai⟩, ⟨⟨et, er⟩, ei⟩, text, elems⟩ : Gop) k)) ∧ Below w.heap.size w w' := by
  obtain ⟨ans, hans⟩ : ∃ v, v = refV ⟨gt, gr⟩ (⟨3, ⟨⟨nt, nr⟩, ni⟩, ⟨⟨pt, pr⟩, pi⟩, name, dir, dots, ⟨⟨at_, ar⟩, ai⟩, ⟨⟨et, er⟩, ei⟩, text, elems⟩ : Gop) k := ⟨_, rfl⟩
  rw [← hans]
  obtain ⟨bb, hbb⟩ : ∃ b, b = bareB (⟨3, ⟨⟨nt, nr⟩, ni⟩, ⟨⟨pt, pr⟩, pi⟩, name, dir, dots, ⟨⟨at_, ar⟩, ai⟩, ⟨⟨et, er⟩, ei⟩, text, elems⟩ : Gop) := ⟨_, rfl⟩
  have HBB := Lib.hid hbb
  have HBA := Lib.hid (show ∀ W, Calls Tryz.prog 119 #[.agg #[.int .i64 3, .int .i64 nt, .int .i64 nr, .int .i64 ni, .int .i64 pt, .int .i64 pr, .int .i64 pi, .string name, .bool dir, .slice dA dots.length dc, .int .i64 at_, .int .i64 ar, .int .i64 ai, .int .i64 et, .int .i64 er, .int .i64 ei, .string text, .slice eA elems.length ec], .bool false, .bool false, .bool false, .bool true, .bool false] W fun e w' => e = .returned (.bool bb) ∧ Below W.heap.size W w' from fun W => by
    refine (refbare_3 3 nt nr ni pt pr pi name dir dA dots.length dc at_ ar ai et er ei text eA elems.length ec W).mono ?_
    rintro e w' ⟨rfl, hB⟩
    refine ⟨?_, hB⟩
    congr 2
    rw [hbb]
    simp [bareB, Bool.and_assoc])
  have HK : Hid (kindB ⟨gt, gr⟩ (⟨3, ⟨⟨nt, nr⟩, ni⟩, ⟨⟨pt, pr⟩, pi⟩, name, dir, dots, ⟨⟨at_, ar⟩, ai⟩, ⟨⟨et, er⟩, ei⟩, text, elems⟩ : Gop) k = (aheadB ⟨gt, gr⟩ ⟨⟨nt, nr⟩, ni⟩ k && parentB ⟨gt, gr⟩ ⟨⟨at_, ar⟩, ai⟩ k && Gid.eqb ⟨⟨et, er⟩, ei⟩ ⟨⟨gt, gr⟩, (k : Int)⟩ && (decide (1 ≤ m) && decide (m ≤ 2000)))) := Lib.hid (by simp [kindB, textB, cnt_valid, hcnt, cnt_count hcnt])
  have HMO : Hid ((moreOf (⟨3, ⟨⟨nt, nr⟩, ni⟩, ⟨⟨pt, pr⟩, pi⟩, name, dir, dots, ⟨⟨at_, ar⟩, ai⟩, ⟨⟨et, er⟩, ei⟩, text, elems⟩ : Gop) : Int) = m) := Lib.hid (by simp [moreOf, cnt_count hcnt])
  have HLe : Hid (∀ w, Calls Tryz.prog 122 #[.string text] w fun e w' => e = .returned (.tuple #[.int .i64 m, .int .i64 0]) ∧ Below w.heap.size w w') := Lib.hid (fun w => reflen_ok text m w htx hcnt)
  have HANS := Lib.hid hans
  clear hans hbb hcnt htx
  go_enter Tryz.func88, Tryz.ntmps88
  go_upto_region 2 with fail
  generalize hW : (((w.alloc (.cells #[.int .i64 gt, .int .i64 gr, .int .i64 n', .slice dA' dn' dc', .int .i64 ut, .int .i64 ur, .slice oA on oc] 40)).alloc (.cells #[.int .i64 3, .int .i64 nt, .int .i64 nr, .int .i64 ni, .int .i64 pt, .int .i64 pr, .int .i64 pi, .string name, .bool dir, .slice dA dots.length dc, .int .i64 at_, .int .i64 ar, .int .i64 ai, .int .i64 et, .int .i64 er, .int .i64 ei, .string text, .slice eA elems.length ec] 70)).alloc (.cells #[.int .i64 gt, .int .i64 gr, .int .i64 k] 66)) = V
  have HGV := Lib.hid (show V.heap[w.heap.size]? = some (.cells #[.int .i64 gt, .int .i64 gr, .int .i64 n', .slice dA' dn' dc', .int .i64 ut, .int .i64 ur, .slice oA on oc] 40 (0, 0)) by rw [← hW]; exact (Below.heap_alloc _ _ _ (by simp; omega)).trans ((Below.heap_alloc _ _ _ (by simp)).trans (heap_alloc_new _ _)))
  have HOV := Lib.hid (show V.heap[w.heap.size + 1]? = some (.cells #[.int .i64 3, .int .i64 nt, .int .i64 nr, .int .i64 ni, .int .i64 pt, .int .i64 pr, .int .i64 pi, .string name, .bool dir, .slice dA dots.length dc, .int .i64 at_, .int .i64 ar, .int .i64 ai, .int .i64 et, .int .i64 er, .int .i64 ei, .string text, .slice eA elems.length ec] 70 (0, 0)) by rw [← hW]; exact (Below.heap_alloc _ _ _ (by simp)).trans (heap_alloc_new' _ _ (by simp)))
  have HJV := Lib.hid (show V.heap[w.heap.size + 2]? = some (.cells #[.int .i64 gt, .int .i64 gr, .int .i64 k] 66 (0, 0)) by rw [← hW]; exact heap_alloc_new' _ _ (by simp))
  have HBV := Lib.hid (show Below w.heap.size w V by rw [← hW]; exact (((Below.refl _ _).alloc (Nat.le_refl _) _).alloc (by simp) _).alloc (by simp; omega) _)
  clear hW
  have r0 : V.cell? ⟨w.heap.size + 1, 0, none⟩ = some (.int .i64 3) := by rw [cell_of_row _ _ _ _ _ _ HOV.out]; rfl
  have r16 : V.cell? ⟨w.heap.size + 1, 16, none⟩ = some (.string text) := by rw [cell_of_row _ _ _ _ _ _ HOV.out]; rfl
  go_upto_region 14 with (go_at_call 122; refine (HLe.out _).mono ?_; rintro e W ⟨rfl, hB2⟩)
  have HG := Lib.hid ((hB2.block _ (lt_of_block HGV.out)).trans HGV.out)
  have HO := Lib.hid ((hB2.block _ (lt_of_block HOV.out)).trans HOV.out)
  have HJ := Lib.hid ((hB2.block _ (lt_of_block HJV.out)).trans HJV.out)
  have HBW := Lib.hid (HBV.out.trans (hB2.mono HBV.out.size))
  clear r0 r16 hB2 HGV HOV HJV HBV
  have hBW0 := HBW.out
  have x1 := cell_regrown (w := W) (a := ⟨w.heap.size + 1, 1, none⟩) (v := .int .i64 nt) (by rw [cell_of_row _ _ _ _ _ _ HO.out]; rfl)
  have x2 := cell_regrown (w := W) (a := ⟨w.heap.size + 1, 2, none⟩) (v := .int .i64 nr) (by rw [cell_of_row _ _ _ _ _ _ HO.out]; rfl)
  have x3 := cell_regrown (w := W) (a := ⟨w.heap.size + 1, 3, none⟩) (v := .int .i64 ni) (by rw [cell_of_row _ _ _ _ _ _ HO.out]; rfl)
  have x10 := cell_regrown (w := W) (a := ⟨w.heap.size + 1, 10, none⟩) (v := .int .i64 at_) (by rw [cell_of_row _ _ _ _ _ _ HO.out]; rfl)
  have x11 := cell_regrown (w := W) (a := ⟨w.heap.size + 1, 11, none⟩) (v := .int .i64 ar) (by rw [cell_of_row _ _ _ _ _ _ HO.out]; rfl)
  have x12 := cell_regrown (w := W) (a := ⟨w.heap.size + 1, 12, none⟩) (v := .int .i64 ai) (by rw [cell_of_row _ _ _ _ _ _ HO.out]; rfl)
  have x13 := cell_regrown (w := W) (a := ⟨w.heap.size + 1, 13, none⟩) (v := .int .i64 et) (by rw [cell_of_row _ _ _ _ _ _ HO.out]; rfl)
  have x14 := cell_regrown (w := W) (a := ⟨w.heap.size + 1, 14, none⟩) (v := .int .i64 er) (by rw [cell_of_row _ _ _ _ _ _ HO.out]; rfl)
  have x15 := cell_regrown (w := W) (a := ⟨w.heap.size + 1, 15, none⟩) (v := .int .i64 ei) (by rw [cell_of_row _ _ _ _ _ _ HO.out]; rfl)
  have y0 := cell_regrown (w := W) (a := ⟨w.heap.size, 0, none⟩) (v := .int .i64 gt) (by rw [cell_of_row _ _ _ _ _ _ HG.out]; rfl)
  have y1 := cell_regrown (w := W) (a := ⟨w.heap.size, 1, none⟩) (v := .int .i64 gr) (by rw [cell_of_row _ _ _ _ _ _ HG.out]; rfl)
  have y2 := cell_regrown (w := W) (a := ⟨w.heap.size, 2, none⟩) (v := .int .i64 n') (by rw [cell_of_row _ _ _ _ _ _ HG.out]; rfl)
  have y3 := cell_regrown (w := W) (a := ⟨w.heap.size, 3, none⟩) (v := .slice dA' dn' dc') (by rw [cell_of_row _ _ _ _ _ _ HG.out]; rfl)
  have y4 := cell_regrown (w := W) (a := ⟨w.heap.size, 4, none⟩) (v := .int .i64 ut) (by rw [cell_of_row _ _ _ _ _ _ HG.out]; rfl)
  have y5 := cell_regrown (w := W) (a := ⟨w.heap.size, 5, none⟩) (v := .int .i64 ur) (by rw [cell_of_row _ _ _ _ _ _ HG.out]; rfl)
  have y6 := cell_regrown (w := W) (a := ⟨w.heap.size, 6, none⟩) (v := .slice oA on oc) (by rw [cell_of_row _ _ _ _ _ _ HG.out]; rfl)
  have z0 := cell_regrown (w := W) (a := ⟨w.heap.size + 2, 0, none⟩) (v := .int .i64 gt) (by rw [cell_of_row _ _ _ _ _ _ HJ.out]; rfl)
  have z1 := cell_regrown (w := W) (a := ⟨w.heap.size + 2, 1, none⟩) (v := .int .i64 gr) (by rw [cell_of_row _ _ _ _ _ _ HJ.out]; rfl)
  have z2 := cell_regrown (w := W) (a := ⟨w.heap.size + 2, 2, none⟩) (v := .int .i64 k) (by rw [cell_of_row _ _ _ _ _ _ HJ.out]; rfl)
  obtain ⟨opl, hol⟩ : ∃ l : List Value, l = [.int .i64 3, .int .i64 nt, .int .i64 nr, .int .i64 ni, .int .i64 pt, .int .i64 pr, .int .i64 pi, .string name, .bool dir, .slice dA dots.length dc, .int .i64 at_, .int .i64 ar, .int .i64 ai, .int .i64 et, .int .i64 er, .int .i64 ei, .string text, .slice eA elems.length ec] := ⟨_, rfl⟩
  have HOL := Lib.hid hol
  have HRR := Lib.hid (range_regrown (show W.rangeAt (w.heap.size + 1) 0 opl by rw [hol]; exact row_range HO.out))
  have HNL := Lib.hid (show (Tryz.prog.info? 70).map (·.size) = some opl.length by rw [hol]; kernel_rfl)
  clear hol
  have cA := fun d os => Calls.regrown_of (refahead_any ⟨gt, gr⟩ ⟨n', dA', dn', dc', ut, ur, oA, on, oc⟩ ⟨⟨nt, nr⟩, ni⟩ k (grow (redrawn W d) os))
  have cQ := fun d os => Calls.regrown_of (refparent_any ⟨gt, gr⟩ ⟨n', dA', dn', dc', ut, ur, oA, on, oc⟩ ⟨⟨at_, ar⟩, ai⟩ k (grow (redrawn W d) os))
  have cB := fun d os => Calls.regrown_of (HBA.out (grow (redrawn W d) os))
  simp only [gxV, idV] at cA cQ
  clear hBW0 hD hE HBA hn hdl hel HG HO HJ
  cases h0 : aheadB ⟨gt, gr⟩ ⟨⟨nt, nr⟩, ni⟩ k with
  | false =>
    rw [h0] at cA
    obtain rfl : ans = -1 := by rw [HANS.out]; exact refV_no (by rw [HK.out, h0]; simp)
    clear h0
    refine wp_plain_quiet_below ?_
    repeat (any_goals (first | (refine quiet_load_mid rfl _ _ rfl (w.heap.size + 1) 0 rfl opl _ HRR.out Tryz.underlying70 rfl HNL.out ?_; rw [HOL.out]) | go_big_quiet_step (first | with_reducible exact cA _ _ | with_reducible exact cQ _ _ | with_reducible exact cB _ _) | quiet_step (first | with_reducible exact cA _ _ | with_reducible exact cQ _ _ | with_reducible exact cB _ _)))
    refine wpQuiet_nil ?_
    intro _ hw'
    obtain ⟨⟨dq, osq⟩, hw''⟩ := hw'
    subst hw''
    have hBq := below_regrown W dq osq
    generalize grow (redrawn W dq) osq = wq at *
    go_wp2
    go_ret
    exact ⟨rfl, HBW.out.trans (hBq.mono HBW.out.size)⟩
  | true =>
    rw [h0] at cA
    have H0 := Lib.hid h0
    clear h0
    cases h1 : parentB ⟨gt, gr⟩ ⟨⟨at_, ar⟩, ai⟩ k with
    | false =>
      rw [h1] at cQ
      obtain rfl : ans = -1 := by rw [HANS.out]; exact refV_no (by rw [HK.out, H0.out, h1]; simp)
      clear h1
      refine wp_plain_quiet_below ?_
      repeat (any_goals (first | (refine quiet_load_mid rfl _ _ rfl (w.heap.size + 1) 0 rfl opl _ HRR.out Tryz.underlying70 rfl HNL.out ?_; rw [HOL.out]) | go_big_quiet_step (first | with_reducible exact cA _ _ | with_reducible exact cQ _ _ | with_reducible exact cB _ _) | quiet_step (first | with_reducible exact cA _ _ | with_reducible exact cQ _ _ | with_reducible exact cB _ _)))
      refine wpQuiet_nil ?_
      intro _ hw'
      obtain ⟨⟨dq, osq⟩, hw''⟩ := hw'
      subst hw''
      have hBq := below_regrown W dq osq
      generalize grow (redrawn W dq) osq = wq at *
      go_wp2
      go_ret
      exact ⟨rfl, HBW.out.trans (hBq.mono HBW.out.size)⟩
    | true =>
      rw [h1] at cQ
      have H1 := Lib.hid h1
      clear h1
      cases h2 : Gid.eqb ⟨⟨et, er⟩, ei⟩ ⟨⟨gt, gr⟩, (k : Int)⟩ with
      | false =>
        have he := eq_id et er ei gt gr k false h2
        obtain rfl : ans = -1 := by rw [HANS.out]; exact refV_no (by rw [HK.out, H0.out, H1.out, h2]; simp)
        clear h2
        refine wp_plain_quiet_below ?_
        repeat (any_goals (first | (refine quiet_load_mid rfl _ _ rfl (w.heap.size + 1) 0 rfl opl _ HRR.out Tryz.underlying70 rfl HNL.out ?_; rw [HOL.out]) | go_big_quiet_step (first | with_reducible exact cA _ _ | with_reducible exact cQ _ _ | with_reducible exact cB _ _) | quiet_step (first | with_reducible exact cA _ _ | with_reducible exact cQ _ _ | with_reducible exact cB _ _)))
        refine wpQuiet_nil ?_
        intro _ hw'
        obtain ⟨⟨dq, osq⟩, hw''⟩ := hw'
        subst hw''
        have hBq := below_regrown W dq osq
        generalize grow (redrawn W dq) osq = wq at *
        go_wp2
        go_ret
        exact ⟨rfl, HBW.out.trans (hBq.mono HBW.out.size)⟩
      | true =>
        have he := eq_id et er ei gt gr k true h2
        have H2 := Lib.hid h2
        clear h2
        by_cases m1 : 1 ≤ m
        rotate_left
        · obtain rfl : m = 0 := by omega
          obtain rfl : ans = -1 := by rw [HANS.out]; exact refV_no (by rw [HK.out, H0.out, H1.out, H2.out]; simp)
          refine wp_plain_quiet_below ?_
          repeat (any_goals (first | (refine quiet_load_mid rfl _ _ rfl (w.heap.size + 1) 0 rfl opl _ HRR.out Tryz.underlying70 rfl HNL.out ?_; rw [HOL.out]) | go_big_quiet_step (first | with_reducible exact cA _ _ | with_reducible exact cQ _ _ | with_reducible exact cB _ _) | quiet_step (first | with_reducible exact cA _ _ | with_reducible exact cQ _ _ | with_reducible exact cB _ _)))
          refine wpQuiet_nil ?_
          intro _ hw'
          obtain ⟨⟨dq, osq⟩, hw''⟩ := hw'
          subst hw''
          have hBq := below_regrown W dq osq
          generalize grow (redrawn W dq) osq = wq at *
          go_wp2
          go_ret
          exact ⟨rfl, HBW.out.trans (hBq.mono HBW.out.size)⟩
        have b1 : decide ((m : Int) ≥ 1) = true := by rw [decide_eq_true_eq]; omega
        have b2 : (m : Int) ≥ 1 := by omega
        have b4 : (1 : Int) ≤ (m : Int) := by omega
        by_cases m2 : m ≤ 2000
        rotate_left
        · have b3 : ¬ (m : Int) ≤ 2000 := by omega
          obtain rfl : ans = -1 := by rw [HANS.out]; exact refV_no (by rw [HK.out, H0.out, H1.out, H2.out]; simp [m2])
          clear m1 m2
          refine wp_plain_quiet_below ?_
          repeat (any_goals (first | (refine quiet_load_mid rfl _ _ rfl (w.heap.size + 1) 0 rfl opl _ HRR.out Tryz.underlying70 rfl HNL.out ?_; rw [HOL.out]) | go_big_quiet_step (first | with_reducible exact cA _ _ | with_reducible exact cQ _ _ | with_reducible exact cB _ _) | quiet_step (first | with_reducible exact cA _ _ | with_reducible exact cQ _ _ | with_reducible exact cB _ _)))
          refine wpQuiet_nil ?_
          intro _ hw'
          obtain ⟨⟨dq, osq⟩, hw''⟩ := hw'
          subst hw''
          have hBq := below_regrown W dq osq
          generalize grow (redrawn W dq) osq = wq at *
          go_wp2
          go_ret
          exact ⟨rfl, HBW.out.trans (hBq.mono HBW.out.size)⟩
        have b3 : (m : Int) ≤ 2000 := by omega
        have HM1 := Lib.hid m1
        have HM2 := Lib.hid m2
        clear m1 m2
        cases bb with
        | false =>
          obtain rfl : ans = -1 := by rw [HANS.out]; exact refV_no (by rw [← HBB.out]; simp)
          refine wp_plain_quiet_below ?_
          repeat (any_goals (first | (refine quiet_load_mid rfl _ _ rfl (w.heap.size + 1) 0 rfl opl _ HRR.out Tryz.underlying70 rfl HNL.out ?_; rw [HOL.out]) | go_big_quiet_step (first | with_reducible exact cA _ _ | with_reducible exact cQ _ _ | with_reducible exact cB _ _) | quiet_step (first | with_reducible exact cA _ _ | with_reducible exact cQ _ _ | with_reducible exact cB _ _)))
          refine wpQuiet_nil ?_
          intro _ hw'
          obtain ⟨⟨dq, osq⟩, hw''⟩ := hw'
          subst hw''
          have hBq := below_regrown W dq osq
          generalize grow (redrawn W dq) osq = wq at *
          go_wp2
          go_ret
          exact ⟨rfl, HBW.out.trans (hBq.mono HBW.out.size)⟩
        | true =>
          obtain rfl : ans = m := by rw [HANS.out, refV_yes (by rw [← HBB.out, HK.out, H0.out, H1.out, H2.out]; simp [HM1.out, HM2.out]), HMO.out]
          refine wp_plain_quiet_below ?_
          repeat (any_goals (first | (refine quiet_load_mid rfl _ _ rfl (w.heap.size + 1) 0 rfl opl _ HRR.out Tryz.underlying70 rfl HNL.out ?_; rw [HOL.out]) | go_big_quiet_step (first | with_reducible exact cA _ _ | with_reducible exact cQ _ _ | with_reducible exact cB _ _) | quiet_step (first | with_reducible exact cA _ _ | with_reducible exact cQ _ _ | with_reducible exact cB _ _)))
          refine wpQuiet_nil ?_
          intro _ hw'
          obtain ⟨⟨dq, osq⟩, hw''⟩ := hw'
          subst hw''
          have hBq := below_regrown W dq osq
          generalize grow (redrawn W dq) osq = wq at *
          go_wp2
          go_ret
          exact ⟨rfl, HBW.out.trans (hBq.mono HBW.out.size)⟩
set_option maxRecDepth 100000 in
set_option maxHeartbeats 4000000 in
theorem refop_x (gt gr : Int) (n' : Int) (dA' : Option Addr) (dn' dc' : Nat) (ut ur : Int) (oA : Option Addr) (on oc : Nat) (k : Nat) (kind : Int) (h0 : ¬ kind = 0) (h1 : ¬ kind = 1) (h2 : ¬ kind = 2) (h3 : ¬ kind = 3) (h4 : ¬ kind = 4) (nt nr ni pt pr pi : Int) (name : ByteArray) (dir : Bool) (dots : List Gst) (at_ ar ai et er ei : Int) (text : ByteArray) (elems : List Gid) (dA : Option Addr) (dc : Nat) (eA : Option Addr) (ec : Nat) (w : World) :
    Calls Tryz.prog 88 #[.agg #[.int .i64 gt, .int .i64 gr, .int .i64 n', .slice dA' dn' dc', .int .i64 ut, .int .i64 ur, .slice oA on oc], .agg #[.int .i64 kind, .int .i64 nt, .int .i64 nr, .int .i64 ni, .int .i64 pt, .int .i64 pr, .int .i64 pi, .string name, .bool dir, .slice dA dots.length dc, .int .i64 at_, .int .i64 ar, .int .i64 ai, .int .i64 et, .int .i64 er, .int .i64 ei, .string text, .slice eA elems.length ec], .int .i64 k] w fun e w' => e = .returned (.int .i64 (refV ⟨gt, gr⟩ (⟨kind, ⟨⟨nt, nr⟩, ni⟩, ⟨⟨pt, pr⟩, pi⟩, name, dir, dots, ⟨⟨at_, ar⟩, ai⟩, ⟨⟨et, er⟩, ei⟩, text, elems⟩ : Gop) k)) ∧ Below w.heap.size w w' := by
  rw [refV_no (by simp [kindB, h0, h1, h2, h3, h4])]
  have t0 : (kind == 0) = false := by rw [beq_eq_false_iff_ne]; exact h0
  have t1 : (kind == 1) = false := by rw [beq_eq_false_iff_ne]; exact h1
  have t2 : (kind == 2) = false := by rw [beq_eq_false_iff_ne]; exact h2
  have t3 : (kind == 3) = false := by rw [beq_eq_false_iff_ne]; exact h3
  have t4 : (kind == 4) = false := by rw [beq_eq_false_iff_ne]; exact h4
  go_enter Tryz.func88, Tryz.ntmps88
  go_upto_region 2 with fail
  generalize hW : (((w.alloc (.cells #[.int .i64 gt, .int .i64 gr, .int .i64 n', .slice dA' dn' dc', .int .i64 ut, .int .i64 ur, .slice oA on oc] 40)).alloc (.cells #[.int .i64 kind, .int .i64 nt, .int .i64 nr, .int .i64 ni, .int .i64 pt, .int .i64 pr, .int .i64 pi, .string name, .bool dir, .slice dA dots.length dc, .int .i64 at_, .int .i64 ar, .int .i64 ai, .int .i64 et, .int .i64 er, .int .i64 ei, .string text, .slice eA elems.length ec] 70)).alloc (.cells #[.int .i64 gt, .int .i64 gr, .int .i64 k] 66)) = W
  have HG := Lib.hid (show W.heap[w.heap.size]? = some (.cells #[.int .i64 gt, .int .i64 gr, .int .i64 n', .slice dA' dn' dc', .int .i64 ut, .int .i64 ur, .slice oA on oc] 40 (0, 0)) by rw [← hW]; exact (Below.heap_alloc _ _ _ (by simp; omega)).trans ((Below.heap_alloc _ _ _ (by simp)).trans (heap_alloc_new _ _)))
  have HO := Lib.hid (show W.heap[w.heap.size + 1]? = some (.cells #[.int .i64 kind, .int .i64 nt, .int .i64 nr, .int .i64 ni, .int .i64 pt, .int .i64 pr, .int .i64 pi, .string name, .bool dir, .slice dA dots.length dc, .int .i64 at_, .int .i64 ar, .int .i64 ai, .int .i64 et, .int .i64 er, .int .i64 ei, .string text, .slice eA elems.length ec] 70 (0, 0)) by rw [← hW]; exact (Below.heap_alloc _ _ _ (by simp)).trans (heap_alloc_new' _ _ (by simp)))
  have HJ := Lib.hid (show W.heap[w.heap.size + 2]? = some (.cells #[.int .i64 gt, .int .i64 gr, .int .i64 k] 66 (0, 0)) by rw [← hW]; exact heap_alloc_new' _ _ (by simp))
  have HBW := Lib.hid (show Below w.heap.size w W by rw [← hW]; exact (((Below.refl _ _).alloc (Nat.le_refl _) _).alloc (by simp) _).alloc (by simp; omega) _)
  clear hW
  have r0 : W.cell? ⟨w.heap.size + 1, 0, none⟩ = some (.int .i64 kind) := by rw [cell_of_row _ _ _ _ _ _ HO.out]; rfl
  go_wp2
  go_ret
  exact ⟨rfl, HBW.out⟩
end Go.Proofs.YtalgbcgiiphoaaaGreatDoor
end
section
namespace Go.Proofs.YtalgbcgiiphoaaaGreatDoor
open Go.RowKit Go.Lib Go.Sort
set_option linter.unusedVariables false
attribute [local go_sem ↓] Go.wp_at_zero Go.wp_at_succ
theorem refop_any (gt gr : Int) (n' : Int) (dA' : Option Addr) (dn' dc' : Nat) (ut ur : Int) (oA : Option Addr) (on oc : Nat) (k : Nat) (o : Gop) (x : OpX) (S : Nat → Prop) (w : World) (hI : OpIn w S o x) (ht : o.text.size ≤ 1000000) :
    Calls Tryz.prog 88 #[.agg #[.int .i64 gt, .int .i64 gr, .int .i64 n', .slice dA' dn' dc', .int .i64 ut, .int .i64 ur, .slice oA on oc], .agg (opA o x), .int .i64 k] w fun e w' => e = .returned (.int .i64 (refV ⟨gt, gr⟩ o k)) ∧ Below w.heap.size w w' := by
  obtain ⟨kind, ⟨⟨nt, nr⟩, ni⟩, ⟨⟨pt, pr⟩, pi⟩, name, dir, dots, ⟨⟨at_, ar⟩, ai⟩, ⟨⟨et, er⟩, ei⟩, text, elems⟩ := o
  obtain ⟨dA, dc, eA, ec⟩ := x
  have hdl := Nat.le_trans hI.dle hI.dmax
  have hel := Nat.le_trans hI.ele hI.emax
  have hna := hI.name
  have hDo := hI.dots
  have hEl := hI.elems
  simp only [maxLen] at hdl hel hna hDo hEl ht
  by_cases k0 : kind = 0
  · subst k0
    exact refop_0 gt gr n' dA' dn' dc' ut ur oA on oc k nt nr ni pt pr pi name dir dots at_ ar ai et er ei text elems dA dc eA ec S w (by omega) (by omega) (by omega) hDo hEl
  by_cases k1 : kind = 1
  · subst k1
    exact refop_1 gt gr n' dA' dn' dc' ut ur oA on oc k nt nr ni pt pr pi name dir dots at_ ar ai et er ei text elems dA dc eA ec S w (by omega) (by omega) (by omega) hDo hEl
  by_cases k2 : kind = 2
  · subst k2
    exact refop_2 gt gr n' dA' dn' dc' ut ur oA on oc k nt nr ni pt pr pi name dir dots at_ ar ai et er ei text elems dA dc eA ec S w (by omega) (by omega) (by omega) hDo hEl
  by_cases k4 : kind = 4
  · subst k4
    exact refop_4 gt gr n' dA' dn' dc' ut ur oA on oc k nt nr ni pt pr pi name dir dots at_ ar ai et er ei text elems dA dc eA ec S w (by omega) (by omega) (by omega) hDo hEl
  by_cases k3 : kind = 3
  · subst k3
    cases hc : cnt text.data.toList with
    | none => exact refop_3n gt gr n' dA' dn' dc' ut ur oA on oc k nt nr ni pt pr pi name dir dots at_ ar ai et er ei text elems dA dc eA ec S w (by omega) (by omega) (by omega) hDo hEl ht hc
    | some m => exact refop_3s gt gr n' dA' dn' dc' ut ur oA on oc k nt nr ni pt pr pi name dir dots at_ ar ai et er ei text elems dA dc eA ec S w (by omega) (by omega) (by omega) hDo hEl ht m hc
  exact refop_x gt gr n' dA' dn' dc' ut ur oA on oc k kind k0 k1 k2 k3 k4 nt nr ni pt pr pi name dir dots at_ ar ai et er ei text elems dA dc eA ec w
set_option maxRecDepth 100000 in
set_option maxHeartbeats 8000000 in
theorem refchk_head (t r n : Int) (v : List Int) (ut ur : Int) (ops : List Gop) (dA : Option Addr) (dc : Nat) (oA : Option Addr) (oc : Nat) (w : World) (hl : v.length ≤ dc) (hc : dc ≤ 9223372036854775807) (hn : i63 n) (hD : VecR w dA v) (hh : headB ⟨⟨t, r⟩, n, v, ⟨ut, ur⟩, ops⟩ = false) :
    Calls Tryz.prog 51 #[.agg #[.int .i64 t, .int .i64 r, .int .i64 n, .slice dA v.length dc, .int .i64 ut, .int .i64 ur, .slice oA ops.length oc]] w fun e w' => e = .returned (.int .i64 80) ∧ Below w.heap.size w w' := by
  have hn2 := hn
  unfold i63 at hn2
  obtain ⟨W, hW⟩ : ∃ W, W = w.alloc (.cells #[.int .i64 t, .int .i64 r, .int .i64 n, .slice dA v.length dc, .int .i64 ut, .int .i64 ur, .slice oA ops.length oc] 40) := ⟨_, rfl⟩
  have hBW : Below w.heap.size w W := by subst hW; exact (Below.refl _ _).alloc (Nat.le_refl _) _
  have hD2 := hD.below hBW
  have hA : W.heap[w.heap.size]? = some (.cells #[.int .i64 t, .int .i64 r, .int .i64 n, .slice dA v.length dc, .int .i64 ut, .int .i64 ur, .slice oA ops.length oc] 40 (0, 0)) := by subst hW; exact heap_alloc_new _ _
  have x0 := cell_regrown (w := W) (a := ⟨w.heap.size, 0, none⟩) (v := .int .i64 t) (by rw [cell_of_row _ _ _ _ _ _ hA]; rfl)
  have x1 := cell_regrown (w := W) (a := ⟨w.heap.size, 1, none⟩) (v := .int .i64 r) (by rw [cell_of_row _ _ _ _ _ _ hA]; rfl)
  have x2 := cell_regrown (w := W) (a := ⟨w.heap.size, 2, none⟩) (v := .int .i64 n) (by rw [cell_of_row _ _ _ _ _ _ hA]; rfl)
  have x3 := cell_regrown (w := W) (a := ⟨w.heap.size, 3, none⟩) (v := .slice dA v.length dc) (by rw [cell_of_row _ _ _ _ _ _ hA]; rfl)
  have cR := fun d os => Calls.regrown_of (refright_any t r (grow (redrawn W d) os))
  have cV := fun d os => Calls.regrown_of (refvector_any dA dc v (grow (redrawn W d) os) hl (by omega) (hD2.regrown d os))
  have cA := fun d os => Calls.regrown_same (refat_any dA dc v r (grow (redrawn W d) os) (by omega) (hD2.regrown d os))
  have HW := Lib.hid hW
  have HA := Lib.hid hA
  have HBW := Lib.hid hBW
  clear hA hD2 hW hBW
  have HH := Lib.hid hh
  clear hh hD hn
  cases hR : Gst.right ⟨t, r⟩ with
  | false =>
    rw [hR] at cR
    clear hR cV cA hn2 hl hc
    go_enter Tryz.func51, Tryz.ntmps51
    go_upto_region 1 with fail
    rw [← HW.out]
    refine wp_region_quiet_below (by kernel_rfl) (by kernel_rfl) ?_
    repeat (any_goals (first | go_big_quiet_step (first | with_reducible exact cR _ _ | with_reducible exact cV _ _ | with_reducible exact cA _ _) | quiet_step (first | with_reducible exact cR _ _ | with_reducible exact cV _ _ | with_reducible exact cA _ _)))
    refine wpQuiet_nil ?_
    intro _ hw'
    obtain ⟨⟨dq, osq⟩, hw''⟩ := hw'
    subst hw''
    have hBq := below_regrown W dq osq
    generalize grow (redrawn W dq) osq = wq at *
    go_wp2
    go_ret
    exact ⟨rfl, HBW.out.trans (hBq.mono HBW.out.size)⟩
  | true =>
  rw [hR] at cR
  by_cases h1 : n < 1
  · have t1 : decide (n < 1) = true := decide_eq_true h1
    clear hR cV cA hl hc
    go_enter Tryz.func51, Tryz.ntmps51
    go_upto_region 1 with fail
    rw [← HW.out]
    refine wp_region_quiet_below (by kernel_rfl) (by kernel_rfl) ?_
    repeat (any_goals (first | go_big_quiet_step (first | with_reducible exact cR _ _ | with_reducible exact cV _ _ | with_reducible exact cA _ _) | quiet_step (first | with_reducible exact cR _ _ | with_reducible exact cV _ _ | with_reducible exact cA _ _)))
    refine wpQuiet_nil ?_
    intro _ hw'
    obtain ⟨⟨dq, osq⟩, hw''⟩ := hw'
    subst hw''
    have hBq := below_regrown W dq osq
    generalize grow (redrawn W dq) osq = wq at *
    go_wp2
    go_ret
    exact ⟨rfl, HBW.out.trans (hBq.mono HBW.out.size)⟩
  have t1 : decide (n < 1) = false := decide_eq_false h1
  by_cases h2 : 1099511627776 < n
  · have t2 : decide (1099511627776 < n) = true := decide_eq_true h2
    clear hR cV cA hl hc
    go_enter Tryz.func51, Tryz.ntmps51
    go_upto_region 1 with fail
    rw [← HW.out]
    refine wp_region_quiet_below (by kernel_rfl) (by kernel_rfl) ?_
    repeat (any_goals (first | go_big_quiet_step (first | with_reducible exact cR _ _ | with_reducible exact cV _ _ | with_reducible exact cA _ _) | quiet_step (first | with_reducible exact cR _ _ | with_reducible exact cV _ _ | with_reducible exact cA _ _)))
    refine wpQuiet_nil ?_
    intro _ hw'
    obtain ⟨⟨dq, osq⟩, hw''⟩ := hw'
    subst hw''
    have hBq := below_regrown W dq osq
    generalize grow (redrawn W dq) osq = wq at *
    go_wp2
    go_ret
    exact ⟨rfl, HBW.out.trans (hBq.mono HBW.out.size)⟩
  have t2 : decide (1099511627776 < n) = false := decide_eq_false h2
  have hw : IntKind.i64.wrap (n - 1) = n - 1 := IntWalk.i64_in _ (by omega)
  cases hV : vecB v with
  | false =>
    rw [hV] at cV
    clear hV cA hR hl hc hw
    go_enter Tryz.func51, Tryz.ntmps51
    go_upto_region 1 with fail
    rw [← HW.out]
    refine wp_region_quiet_below (by kernel_rfl) (by kernel_rfl) ?_
    repeat (any_goals (first | go_big_quiet_step (first | with_reducible exact cR _ _ | with_reducible exact cV _ _ | with_reducible exact cA _ _) | quiet_step (first | with_reducible exact cR _ _ | with_reducible exact cV _ _ | with_reducible exact cA _ _)))
    refine wpQuiet_nil ?_
    intro _ hw'
    obtain ⟨⟨dq, osq⟩, hw''⟩ := hw'
    subst hw''
    have hBq := below_regrown W dq osq
    generalize grow (redrawn W dq) osq = wq at *
    go_wp2
    go_ret
    exact ⟨rfl, HBW.out.trans (hBq.mono HBW.out.size)⟩
  | true =>
  rw [hV] at cV
  have h3 : ¬ atV v r = n - 1 := fun h3 => by
    have := HH.out
    simp only [headB, hR, hV, h3, decide_true, Bool.and_true, Bool.true_and] at this
    rw [decide_eq_true (show 1 ≤ n by omega), decide_eq_true (show n ≤ 1099511627776 by omega)] at this
    cases this
  generalize atV v r = a at *
  have t3 : (a == n - 1) = false := by rw [beq_eq_false_iff_ne]; exact h3
  have t4 : (a != n - 1) = true := by rw [bne_iff_ne]; exact h3
  clear h3 hV hR hl hc HH
  go_enter Tryz.func51, Tryz.ntmps51
  go_upto_region 1 with fail
  rw [← HW.out]
  refine wp_region_quiet_below (by kernel_rfl) (by kernel_rfl) ?_
  repeat (any_goals (first | go_big_quiet_step (first | with_reducible exact cR _ _ | with_reducible exact cV _ _ | with_reducible exact cA _ _) | quiet_step (first | with_reducible exact cR _ _ | with_reducible exact cV _ _ | with_reducible exact cA _ _)))
  refine wpQuiet_nil ?_
  intro _ hw'
  obtain ⟨⟨dq, osq⟩, hw''⟩ := hw'
  subst hw''
  have hBq := below_regrown W dq osq
  generalize grow (redrawn W dq) osq = wq at *
  go_wp2
  go_ret
  exact ⟨rfl, HBW.out.trans (hBq.mono HBW.out.size)⟩
theorem head_parts {t r n : Int} {v : List Int} {ut ur : Int} {ops : List Gop} (h : headB ⟨⟨t, r⟩, n, v, ⟨ut, ur⟩, ops⟩ = true) : Gst.right ⟨t, r⟩ = true ∧ 1 ≤ n ∧ n ≤ 1099511627776 ∧ vecB v = true ∧ atV v r = n - 1 := by
  simp only [headB, Bool.and_eq_true, decide_eq_true_eq] at h
  exact ⟨h.1.1.1.1, h.1.1.1.2, h.1.1.2, h.1.2, h.2⟩
set_option maxRecDepth 100000 in
set_option maxHeartbeats 8000000 in
theorem refchk_undo (t r n : Int) (v : List Int) (ut ur : Int) (ops : List Gop) (dA : Option Addr) (dc : Nat) (oA : Option Addr) (oc : Nat) (w : World) (hl : v.length ≤ dc) (hc : dc ≤ 9223372036854775807) (hn : i63 n) (hD : VecR w dA v) (hh : headB ⟨⟨t, r⟩, n, v, ⟨ut, ur⟩, ops⟩ = true) (hu : Gst.eqb ⟨ut, ur⟩ ⟨0, 0⟩ = false) (z : Int) (hz : z = if (Gst.right ⟨ut, ur⟩ && Gst.lt ⟨ut, ur⟩ ⟨t, r⟩ && decide (ops.length = 0)) = true then 0 else 80) :
    Calls Tryz.prog 51 #[.agg #[.int .i64 t, .int .i64 r, .int .i64 n, .slice dA v.length dc, .int .i64 ut, .int .i64 ur, .slice oA ops.length oc]] w fun e w' => e = .returned (.int .i64 z) ∧ Below w.heap.size w w' := by
  have HZ := Lib.hid hz
  clear hz
  obtain ⟨hR, h1, h2, hV, h3⟩ := head_parts hh
  have hn2 := hn
  unfold i63 at hn2
  obtain ⟨W, hW⟩ : ∃ W, W = w.alloc (.cells #[.int .i64 t, .int .i64 r, .int .i64 n, .slice dA v.length dc, .int .i64 ut, .int .i64 ur, .slice oA ops.length oc] 40) := ⟨_, rfl⟩
  have hBW : Below w.heap.size w W := by subst hW; exact (Below.refl _ _).alloc (Nat.le_refl _) _
  have hD2 := hD.below hBW
  have hA : W.heap[w.heap.size]? = some (.cells #[.int .i64 t, .int .i64 r, .int .i64 n, .slice dA v.length dc, .int .i64 ut, .int .i64 ur, .slice oA ops.length oc] 40 (0, 0)) := by subst hW; exact heap_alloc_new _ _
  have x0 := cell_regrown (w := W) (a := ⟨w.heap.size, 0, none⟩) (v := .int .i64 t) (by rw [cell_of_row _ _ _ _ _ _ hA]; rfl)
  have x1 := cell_regrown (w := W) (a := ⟨w.heap.size, 1, none⟩) (v := .int .i64 r) (by rw [cell_of_row _ _ _ _ _ _ hA]; rfl)
  have x2 := cell_regrown (w := W) (a := ⟨w.heap.size, 2, none⟩) (v := .int .i64 n) (by rw [cell_of_row _ _ _ _ _ _ hA]; rfl)
  have x3 := cell_regrown (w := W) (a := ⟨w.heap.size, 3, none⟩) (v := .slice dA v.length dc) (by rw [cell_of_row _ _ _ _ _ _ hA]; rfl)
  have cR := fun d os => Calls.regrown_of (refright_any t r (grow (redrawn W d) os))
  have cV := fun d os => Calls.regrown_of (refvector_any dA dc v (grow (redrawn W d) os) hl (by omega) (hD2.regrown d os))
  have cA := fun d os => Calls.regrown_same (refat_any dA dc v r (grow (redrawn W d) os) (by omega) (hD2.regrown d os))
  have HW := Lib.hid hW
  have HA := Lib.hid hA
  have HBW := Lib.hid hBW
  clear hA hD2 hW hBW
  rw [hR] at cR
  rw [hV] at cV
  have t1 : decide (n < 1) = false := decide_eq_false (by omega)
  have s1 : ¬ n < 1 := by omega
  have t2 : decide (1099511627776 < n) = false := decide_eq_false (by omega)
  have s2 : ¬ 1099511627776 < n := by omega
  have hw : IntKind.i64.wrap (n - 1) = n - 1 := IntWalk.i64_in _ (by omega)
  have HD := Lib.hid hD
  rw [h3] at cA
  have t3 : (n - 1 == n - 1) = true := beq_self_eq_true _
  have t4 : (n - 1 != n - 1) = false := by rw [bne_eq_false_iff_eq]
  have hne := ne_st ut ur 0 0 false hu
  clear hh h3 hV hR hl hc hn hn2 hD hu h1 h2
  go_enter Tryz.func51, Tryz.ntmps51
  go_upto_region 1 with fail
  rw [← HW.out]
  refine wp_region_quiet_below (by kernel_rfl) (by kernel_rfl) ?_
  repeat (any_goals (first | go_big_quiet_step (first | with_reducible exact cR _ _ | with_reducible exact cV _ _ | with_reducible exact cA _ _) | quiet_step (first | with_reducible exact cR _ _ | with_reducible exact cV _ _ | with_reducible exact cA _ _)))
  refine wpQuiet_nil ?_
  intro _ hw'
  obtain ⟨⟨dq, osq⟩, hw''⟩ := hw'
  subst hw''
  have hBq := below_regrown W dq osq
  generalize grow (redrawn W dq) osq = wq at *
  have HA2 := Lib.hid ((hBq.block w.heap.size (lt_of_block HA.out)).trans HA.out)
  have HB2 := Lib.hid (HBW.out.trans (hBq.mono HBW.out.size))
  clear hBq x0 x1 x2 x3 cR cV cA t1 t2 s1 s2 hw t3 t4 HW HA HBW
  have r0 : wq.cell? ⟨w.heap.size, 0, none⟩ = some (.int .i64 t) := by rw [cell_of_row _ _ _ _ _ _ HA2.out]; rfl
  have r1 : wq.cell? ⟨w.heap.size, 1, none⟩ = some (.int .i64 r) := by rw [cell_of_row _ _ _ _ _ _ HA2.out]; rfl
  have r2 : wq.cell? ⟨w.heap.size, 2, none⟩ = some (.int .i64 n) := by rw [cell_of_row _ _ _ _ _ _ HA2.out]; rfl
  have r3 : wq.cell? ⟨w.heap.size, 3, none⟩ = some (.slice dA v.length dc) := by rw [cell_of_row _ _ _ _ _ _ HA2.out]; rfl
  have r4 : wq.cell? ⟨w.heap.size, 4, none⟩ = some (.int .i64 ut) := by rw [cell_of_row _ _ _ _ _ _ HA2.out]; rfl
  have r5 : wq.cell? ⟨w.heap.size, 5, none⟩ = some (.int .i64 ur) := by rw [cell_of_row _ _ _ _ _ _ HA2.out]; rfl
  have r6 : wq.cell? ⟨w.heap.size, 6, none⟩ = some (.slice oA ops.length oc) := by rw [cell_of_row _ _ _ _ _ _ HA2.out]; rfl
  go_upto_region 4 with fail
  clear hne
  have x0 := cell_regrown (w := wq) (a := ⟨w.heap.size, 0, none⟩) (v := .int .i64 t) (by rw [cell_of_row _ _ _ _ _ _ HA2.out]; rfl)
  have x1 := cell_regrown (w := wq) (a := ⟨w.heap.size, 1, none⟩) (v := .int .i64 r) (by rw [cell_of_row _ _ _ _ _ _ HA2.out]; rfl)
  have x4 := cell_regrown (w := wq) (a := ⟨w.heap.size, 4, none⟩) (v := .int .i64 ut) (by rw [cell_of_row _ _ _ _ _ _ HA2.out]; rfl)
  have x5 := cell_regrown (w := wq) (a := ⟨w.heap.size, 5, none⟩) (v := .int .i64 ur) (by rw [cell_of_row _ _ _ _ _ _ HA2.out]; rfl)
  have x6 := cell_regrown (w := wq) (a := ⟨w.heap.size, 6, none⟩) (v := .slice oA ops.length oc) (by rw [cell_of_row _ _ _ _ _ _ HA2.out]; rfl)
  have cU := fun d os => Calls.regrown_of (refright_any ut ur (grow (redrawn wq d) os))
  have cB := fun d os => Calls.regrown_of (before_any ut ur t r (grow (redrawn wq d) os))
  clear r0 r1 r2 r3 r4 r5 r6 HA2 HD
  cases hU : Gst.right ⟨ut, ur⟩ with
  | false =>
    obtain rfl : z = 80 := by rw [HZ.out, hU]; simp
    rw [hU] at cU
    clear hU
    refine wp_plain_quiet_below ?_
    repeat (any_goals (first | go_big_quiet_step (first | with_reducible exact cU _ _ | with_reducible exact cB _ _) | quiet_step (first | with_reducible exact cU _ _ | with_reducible exact cB _ _)))
    refine wpQuiet_nil ?_
    intro _ hw'
    obtain ⟨⟨dq, osq⟩, hw''⟩ := hw'
    subst hw''
    have hBq := below_regrown wq dq osq
    generalize grow (redrawn wq dq) osq = wq at *
    go_wp2
    go_ret
    exact ⟨rfl, HB2.out.trans (hBq.mono HB2.out.size)⟩
  | true =>
  have HU := Lib.hid hU
  rw [hU] at cU
  clear hU
  cases hL : Gst.lt ⟨ut, ur⟩ ⟨t, r⟩ with
  | false =>
    obtain rfl : z = 80 := by rw [HZ.out, hL]; simp
    rw [hL] at cB
    clear hL
    refine wp_plain_quiet_below ?_
    repeat (any_goals (first | go_big_quiet_step (first | with_reducible exact cU _ _ | with_reducible exact cB _ _) | quiet_step (first | with_reducible exact cU _ _ | with_reducible exact cB _ _)))
    refine wpQuiet_nil ?_
    intro _ hw'
    obtain ⟨⟨dq, osq⟩, hw''⟩ := hw'
    subst hw''
    have hBq := below_regrown wq dq osq
    generalize grow (redrawn wq dq) osq = wq at *
    go_wp2
    go_ret
    exact ⟨rfl, HB2.out.trans (hBq.mono HB2.out.size)⟩
  | true =>
  have HL := Lib.hid hL
  rw [hL] at cB
  clear hL
  by_cases h0 : ops.length = 0
  · obtain rfl : z = 0 := by rw [HZ.out, HU.out, HL.out, h0]; simp
    have e1 : ops = [] := List.eq_nil_of_length_eq_zero h0
    subst e1
    clear h0
    refine wp_plain_quiet_below ?_
    repeat (any_goals (first | go_big_quiet_step (first | with_reducible exact cU _ _ | with_reducible exact cB _ _) | quiet_step (first | with_reducible exact cU _ _ | with_reducible exact cB _ _)))
    refine wpQuiet_nil ?_
    intro _ hw'
    obtain ⟨⟨dq, osq⟩, hw''⟩ := hw'
    subst hw''
    have hBq := below_regrown wq dq osq
    generalize grow (redrawn wq dq) osq = wq at *
    go_wp2
    go_ret
    exact ⟨rfl, HB2.out.trans (hBq.mono HB2.out.size)⟩
  · obtain rfl : z = 80 := by rw [HZ.out, decide_eq_false h0]; simp
    have b1 : 0 < (ops.length : Int) := by omega
    have b2 : decide (0 < ops.length) = true := by rw [decide_eq_true_eq]; omega
    have b3 : 0 < ops.length := by omega
    have b7 : ¬ ops = [] := by intro e; rw [e] at h0; simp at h0
    clear h0
    refine wp_plain_quiet_below ?_
    repeat (any_goals (first | go_big_quiet_step (first | with_reducible exact cU _ _ | with_reducible exact cB _ _) | quiet_step (first | with_reducible exact cU _ _ | with_reducible exact cB _ _)))
    refine wpQuiet_nil ?_
    intro _ hw'
    obtain ⟨⟨dq, osq⟩, hw''⟩ := hw'
    subst hw''
    have hBq := below_regrown wq dq osq
    generalize grow (redrawn wq dq) osq = wq at *
    go_wp2
    go_ret
    exact ⟨rfl, HB2.out.trans (hBq.mono HB2.out.size)⟩
set_option maxRecDepth 100000 in
set_option maxHeartbeats 8000000 in
theorem refchk_few (t r n : Int) (v : List Int) (ut ur : Int) (ops : List Gop) (dA : Option Addr) (dc : Nat) (oA : Option Addr) (oc : Nat) (w : World) (hl : v.length ≤ dc) (hc : dc ≤ 9223372036854775807) (hn : i63 n) (hD : VecR w dA v) (hh : headB ⟨⟨t, r⟩, n, v, ⟨ut, ur⟩, ops⟩ = true) (hu : Gst.eqb ⟨ut, ur⟩ ⟨0, 0⟩ = true) (hz : ¬ (1 ≤ ops.length ∧ ops.length ≤ 200)) :
    Calls Tryz.prog 51 #[.agg #[.int .i64 t, .int .i64 r, .int .i64 n, .slice dA v.length dc, .int .i64 ut, .int .i64 ur, .slice oA ops.length oc]] w fun e w' => e = .returned (.int .i64 80) ∧ Below w.heap.size w w' := by
  obtain ⟨hR, h1, h2, hV, h3⟩ := head_parts hh
  have hn2 := hn
  unfold i63 at hn2
  obtain ⟨W, hW⟩ : ∃ W, W = w.alloc (.cells #[.int .i64 t, .int .i64 r, .int .i64 n, .slice dA v.length dc, .int .i64 ut, .int .i64 ur, .slice oA ops.length oc] 40) := ⟨_, rfl⟩
  have hBW : Below w.heap.size w W := by subst hW; exact (Below.refl _ _).alloc (Nat.le_refl _) _
  have hD2 := hD.below hBW
  have hA : W.heap[w.heap.size]? = some (.cells #[.int .i64 t, .int .i64 r, .int .i64 n, .slice dA v.length dc, .int .i64 ut, .int .i64 ur, .slice oA ops.length oc] 40 (0, 0)) := by subst hW; exact heap_alloc_new _ _
  have x0 := cell_regrown (w := W) (a := ⟨w.heap.size, 0, none⟩) (v := .int .i64 t) (by rw [cell_of_row _ _ _ _ _ _ hA]; rfl)
  have x1 := cell_regrown (w := W) (a := ⟨w.heap.size, 1, none⟩) (v := .int .i64 r) (by rw [cell_of_row _ _ _ _ _ _ hA]; rfl)
  have x2 := cell_regrown (w := W) (a := ⟨w.heap.size, 2, none⟩) (v := .int .i64 n) (by rw [cell_of_row _ _ _ _ _ _ hA]; rfl)
  have x3 := cell_regrown (w := W) (a := ⟨w.heap.size, 3, none⟩) (v := .slice dA v.length dc) (by rw [cell_of_row _ _ _ _ _ _ hA]; rfl)
  have cR := fun d os => Calls.regrown_of (refright_any t r (grow (redrawn W d) os))
  have cV := fun d os => Calls.regrown_of (refvector_any dA dc v (grow (redrawn W d) os) hl (by omega) (hD2.regrown d os))
  have cA := fun d os => Calls.regrown_same (refat_any dA dc v r (grow (redrawn W d) os) (by omega) (hD2.regrown d os))
  have HW := Lib.hid hW
  have HA := Lib.hid hA
  have HBW := Lib.hid hBW
  clear hA hD2 hW hBW
  rw [hR] at cR
  rw [hV] at cV
  have t1 : decide (n < 1) = false := decide_eq_false (by omega)
  have s1 : ¬ n < 1 := by omega
  have t2 : decide (1099511627776 < n) = false := decide_eq_false (by omega)
  have s2 : ¬ 1099511627776 < n := by omega
  have hw : IntKind.i64.wrap (n - 1) = n - 1 := IntWalk.i64_in _ (by omega)
  have HD := Lib.hid hD
  rw [h3] at cA
  have t3 : (n - 1 == n - 1) = true := beq_self_eq_true _
  have t4 : (n - 1 != n - 1) = false := by rw [bne_eq_false_iff_eq]
  have hne := ne_st ut ur 0 0 true hu
  clear hh h3 hV hR hl hc hn hn2 hD hu h1 h2
  go_enter Tryz.func51, Tryz.ntmps51
  go_upto_region 1 with fail
  rw [← HW.out]
  refine wp_region_quiet_below (by kernel_rfl) (by kernel_rfl) ?_
  repeat (any_goals (first | go_big_quiet_step (first | with_reducible exact cR _ _ | with_reducible exact cV _ _ | with_reducible exact cA _ _) | quiet_step (first | with_reducible exact cR _ _ | with_reducible exact cV _ _ | with_reducible exact cA _ _)))
  refine wpQuiet_nil ?_
  intro _ hw'
  obtain ⟨⟨dq, osq⟩, hw''⟩ := hw'
  subst hw''
  have hBq := below_regrown W dq osq
  generalize grow (redrawn W dq) osq = wq at *
  have HA2 := Lib.hid ((hBq.block w.heap.size (lt_of_block HA.out)).trans HA.out)
  have HB2 := Lib.hid (HBW.out.trans (hBq.mono HBW.out.size))
  clear hBq x0 x1 x2 x3 cR cV cA t1 t2 s1 s2 hw t3 t4 HW HA HBW
  have r0 : wq.cell? ⟨w.heap.size, 0, none⟩ = some (.int .i64 t) := by rw [cell_of_row _ _ _ _ _ _ HA2.out]; rfl
  have r1 : wq.cell? ⟨w.heap.size, 1, none⟩ = some (.int .i64 r) := by rw [cell_of_row _ _ _ _ _ _ HA2.out]; rfl
  have r2 : wq.cell? ⟨w.heap.size, 2, none⟩ = some (.int .i64 n) := by rw [cell_of_row _ _ _ _ _ _ HA2.out]; rfl
  have r3 : wq.cell? ⟨w.heap.size, 3, none⟩ = some (.slice dA v.length dc) := by rw [cell_of_row _ _ _ _ _ _ HA2.out]; rfl
  have r4 : wq.cell? ⟨w.heap.size, 4, none⟩ = some (.int .i64 ut) := by rw [cell_of_row _ _ _ _ _ _ HA2.out]; rfl
  have r5 : wq.cell? ⟨w.heap.size, 5, none⟩ = some (.int .i64 ur) := by rw [cell_of_row _ _ _ _ _ _ HA2.out]; rfl
  have r6 : wq.cell? ⟨w.heap.size, 6, none⟩ = some (.slice oA ops.length oc) := by rw [cell_of_row _ _ _ _ _ _ HA2.out]; rfl
  by_cases h1 : 1 ≤ ops.length
  · have b1 : decide (ops.length < 1) = false := by rw [decide_eq_false_iff_not]; omega
    have b2 : ¬ (ops.length : Int) < 1 := by omega
    have b3 : decide (200 < ops.length) = true := by rw [decide_eq_true_eq]; omega
    have b4 : 200 < (ops.length : Int) := by omega
    have b5 : decide (ops.length = 0) = false := by rw [decide_eq_false_iff_not]; omega
    have b6 : decide (0 < ops.length) = true := by rw [decide_eq_true_eq]; omega
    have b7 : ¬ ops = [] := by intro e; rw [e] at h1; simp at h1
    clear h1 hz
    go_wp2
    go_ret
    exact ⟨rfl, HB2.out⟩
  · have b6 : ops = [] := List.eq_nil_of_length_eq_zero (by omega)
    clear h1 hz
    subst b6
    go_wp2
    go_ret
    exact ⟨rfl, HB2.out⟩
theorem refV_opB {g : Gst} {o : Gop} {k : Nat} (b : Bool) (h : b = opB g o k) : refV g o k = if b = true then (moreOf o : Int) else -1 := by
  unfold refV
  rw [h]
  unfold opB
  rw [Bool.and_comm]
set_option maxRecDepth 100000 in
set_option maxHeartbeats 8000000 in
theorem refchk_ops (t r n : Int) (v : List Int) (ut ur : Int) (ops : List Gop) (dA : Option Addr) (dc : Nat) (oA : Option Addr) (oc : Nat) (w : World) (hl : v.length ≤ dc) (hc : dc ≤ 9223372036854775807) (hn : i63 n) (hD : VecR w dA v) (hh : headB ⟨⟨t, r⟩, n, v, ⟨ut, ur⟩, ops⟩ = true) (hu : Gst.eqb ⟨ut, ur⟩ ⟨0, 0⟩ = true) (h1 : 1 ≤ ops.length) (h2 : ops.length ≤ 200) (S : Nat → Prop) (hO : OpsS w S oA ops) (hTx : ∀ o ∈ ops, o.text.size ≤ 1000000) (z : Int) (hz : z = if opsB ⟨t, r⟩ ops 0 = true then 0 else 80) :
    Calls Tryz.prog 51 #[.agg #[.int .i64 t, .int .i64 r, .int .i64 n, .slice dA v.length dc, .int .i64 ut, .int .i64 ur, .slice oA ops.length oc]] w fun e w' => e = .returned (.int .i64 z) ∧ Below w.heap.size w w' := by
  have HO := Lib.hid hO
  have HTx := Lib.hid hTx
  have HZ := Lib.hid hz
  have H1 := Lib.hid h1
  have H2 := Lib.hid h2
  clear hO hTx hz h1 h2
  obtain ⟨hR, h1, h2, hV, h3⟩ := head_parts hh
  have hn2 := hn
  unfold i63 at hn2
  obtain ⟨W, hW⟩ : ∃ W, W = w.alloc (.cells #[.int .i64 t, .int .i64 r, .int .i64 n, .slice dA v.length dc, .int .i64 ut, .int .i64 ur, .slice oA ops.length oc] 40) := ⟨_, rfl⟩
  have hBW : Below w.heap.size w W := by subst hW; exact (Below.refl _ _).alloc (Nat.le_refl _) _
  have hD2 := hD.below hBW
  have hA : W.heap[w.heap.size]? = some (.cells #[.int .i64 t, .int .i64 r, .int .i64 n, .slice dA v.length dc, .int .i64 ut, .int .i64 ur, .slice oA ops.length oc] 40 (0, 0)) := by subst hW; exact heap_alloc_new _ _
  have x0 := cell_regrown (w := W) (a := ⟨w.heap.size, 0, none⟩) (v := .int .i64 t) (by rw [cell_of_row _ _ _ _ _ _ hA]; rfl)
  have x1 := cell_regrown (w := W) (a := ⟨w.heap.size, 1, none⟩) (v := .int .i64 r) (by rw [cell_of_row _ _ _ _ _ _ hA]; rfl)
  have x2 := cell_regrown (w := W) (a := ⟨w.heap.size, 2, none⟩) (v := .int .i64 n) (by rw [cell_of_row _ _ _ _ _ _ hA]; rfl)
  have x3 := cell_regrown (w := W) (a := ⟨w.heap.size, 3, none⟩) (v := .slice dA v.length dc) (by rw [cell_of_row _ _ _ _ _ _ hA]; rfl)
  have cR := fun d os => Calls.regrown_of (refright_any t r (grow (redrawn W d) os))
  have cV := fun d os => Calls.regrown_of (refvector_any dA dc v (grow (redrawn W d) os) hl (by omega) (hD2.regrown d os))
  have cA := fun d os => Calls.regrown_same (refat_any dA dc v r (grow (redrawn W d) os) (by omega) (hD2.regrown d os))
  have HW := Lib.hid hW
  have HA := Lib.hid hA
  have HBW := Lib.hid hBW
  clear hA hD2 hW hBW
  rw [hR] at cR
  rw [hV] at cV
  have t1 : decide (n < 1) = false := decide_eq_false (by omega)
  have s1 : ¬ n < 1 := by omega
  have t2 : decide (1099511627776 < n) = false := decide_eq_false (by omega)
  have s2 : ¬ 1099511627776 < n := by omega
  have hw : IntKind.i64.wrap (n - 1) = n - 1 := IntWalk.i64_in _ (by omega)
  have HD := Lib.hid hD
  rw [h3] at cA
  have t3 : (n - 1 == n - 1) = true := beq_self_eq_true _
  have t4 : (n - 1 != n - 1) = false := by rw [bne_eq_false_iff_eq]
  have hne := ne_st ut ur 0 0 true hu
  clear hh h3 hV hR hl hc hn hn2 hD hu h1 h2
  go_enter Tryz.func51, Tryz.ntmps51
  go_upto_region 1 with fail
  rw [← HW.out]
  refine wp_region_quiet_below (by kernel_rfl) (by kernel_rfl) ?_
  repeat (any_goals (first | go_big_quiet_step (first | with_reducible exact cR _ _ | with_reducible exact cV _ _ | with_reducible exact cA _ _) | quiet_step (first | with_reducible exact cR _ _ | with_reducible exact cV _ _ | with_reducible exact cA _ _)))
  refine wpQuiet_nil ?_
  intro _ hw'
  obtain ⟨⟨dq, osq⟩, hw''⟩ := hw'
  subst hw''
  have hBq := below_regrown W dq osq
  generalize grow (redrawn W dq) osq = wq at *
  have HA2 := Lib.hid ((hBq.block w.heap.size (lt_of_block HA.out)).trans HA.out)
  have HB2 := Lib.hid (HBW.out.trans (hBq.mono HBW.out.size))
  clear hBq x0 x1 x2 x3 cR cV cA t1 t2 s1 s2 hw t3 t4 HW HA HBW
  have r0 : wq.cell? ⟨w.heap.size, 0, none⟩ = some (.int .i64 t) := by rw [cell_of_row _ _ _ _ _ _ HA2.out]; rfl
  have r1 : wq.cell? ⟨w.heap.size, 1, none⟩ = some (.int .i64 r) := by rw [cell_of_row _ _ _ _ _ _ HA2.out]; rfl
  have r2 : wq.cell? ⟨w.heap.size, 2, none⟩ = some (.int .i64 n) := by rw [cell_of_row _ _ _ _ _ _ HA2.out]; rfl
  have r3 : wq.cell? ⟨w.heap.size, 3, none⟩ = some (.slice dA v.length dc) := by rw [cell_of_row _ _ _ _ _ _ HA2.out]; rfl
  have r4 : wq.cell? ⟨w.heap.size, 4, none⟩ = some (.int .i64 ut) := by rw [cell_of_row _ _ _ _ _ _ HA2.out]; rfl
  have r5 : wq.cell? ⟨w.heap.size, 5, none⟩ = some (.int .i64 ur) := by rw [cell_of_row _ _ _ _ _ _ HA2.out]; rfl
  have r6 : wq.cell? ⟨w.heap.size, 6, none⟩ = some (.slice oA ops.length oc) := by rw [cell_of_row _ _ _ _ _ _ HA2.out]; rfl
  have b1 : decide (ops.length < 1) = false := by rw [decide_eq_false_iff_not]; have := H1.out; omega
  have b2 : ¬ (ops.length : Int) < 1 := by have := H1.out; omega
  have b3 : decide (200 < ops.length) = false := by rw [decide_eq_false_iff_not]; have := H2.out; omega
  have b4 : ¬ 200 < (ops.length : Int) := by have := H2.out; omega
  have b5 : decide (ops.length = 0) = false := by rw [decide_eq_false_iff_not]; have := H1.out; omega
  have b6 : decide (0 < ops.length) = true := by rw [decide_eq_true_eq]; have := H1.out; omega
  have b7 : ¬ ops = [] := by intro e; have := H1.out; rw [e] at this; simp at this
  go_upto_region 11 with (fail)
  clear b1 b2 b3 b4 b5 b6 b7 hne
  go_loopw [3, 4] (fun k i wr => ∃ j kk : Nat, j ≤ ops.length ∧ i = .int .i64 j ∧ k = .int .i64 kk ∧ kk ≤ 2000 * j ∧ Hid (opsB ⟨t, r⟩ ops 0 = opsB ⟨t, r⟩ (ops.drop j) kk) ∧ Hid (Below w.heap.size w wr) ∧ Hid (wr.heap[w.heap.size]? = some (.cells #[.int .i64 t, .int .i64 r, .int .i64 n, .slice dA v.length dc, .int .i64 ut, .int .i64 ur, .slice oA ops.length oc] 40 (0, 0)))) (fun _ i _ => ops.length - (RowKit.intOf i).toNat)
  case atStart => exact ⟨0, 0, by omega, rfl, rfl, by omega, Lib.hid rfl, HB2, HA2⟩
  case round =>
    clear r0 r1 r2 r3 r4 r5 r6
    obtain ⟨j, kk, hj, rfl, rfl, hkk, HK, HBr, HAr⟩ := hrel
    have r6 : wr.cell? ⟨w.heap.size, 6, none⟩ = some (.slice oA ops.length oc) := by rw [cell_of_row _ _ _ _ _ _ HAr.out]; rfl
    by_cases hjl : j < ops.length
    · have hl1 : (j : Int) < (ops.length : Int) := by omega
      have hl2 : decide ((j : Int) < (ops.length : Int)) = true := decide_eq_true hl1
      go_upto_region 13 with fail
      obtain ⟨X, hX1, hX2⟩ := OpsS.agr HO.out (Agr.below HBr.out)
      obtain ⟨ob, oo, rfl, hS, hob, hc⟩ := hX1 j hjl
      have hIn := hX2 j hjl
      obtain ⟨o, ho⟩ : ∃ o, o = ops.getD j (opO 0 .zero) := ⟨_, rfl⟩
      obtain ⟨x, hx⟩ : ∃ x, x = X j := ⟨_, rfl⟩
      rw [← ho] at hIn
      simp only [← ho, ← hx] at hIn hc
      have hot : o.text.size ≤ 1000000 := HTx.out o (by rw [ho]; simp [List.getD, hjl])
      have HST := Lib.hid (show opsB ⟨t, r⟩ (ops.drop j) kk = (opB ⟨t, r⟩ o kk && opsB ⟨t, r⟩ (ops.drop (j + 1)) (kk + moreOf o)) by rw [ho]; exact opsB_step (g := ⟨t, r⟩) (k := kk) hjl (opO 0 .zero))
      have hmo := fun h => more_le (g := ⟨t, r⟩) (o := o) (k := kk) h
      obtain ⟨bb, hbb⟩ : ∃ m, m = opB ⟨t, r⟩ o kk := ⟨_, rfl⟩
      have hOp := fun d os => Calls.regrown_of (refop_any t r n dA v.length dc ut ur (some ⟨ob, oo, none⟩) ops.length oc kk o x S (grow (redrawn wr d) os) (hIn.agr (Agr.below (below_regrown wr d os))) hot)
      rw [refV_opB bb hbb] at hOp
      obtain ⟨mo, hmo2⟩ : ∃ m, m = moreOf o := ⟨_, rfl⟩
      simp only [← hmo2, ← hbb] at hOp hmo
      have HST2 : Hid (opsB ⟨t, r⟩ (ops.drop j) kk = (bb && opsB ⟨t, r⟩ (ops.drop (j + 1)) (kk + mo))) := Lib.hid (by rw [hbb, hmo2]; exact HST.out)
      have HRR := Lib.hid (range_regrown (op_range hc))
      obtain ⟨opl, hol⟩ : ∃ l, l = opL o x := ⟨_, rfl⟩
      rw [← hol] at HRR
      have HNL := Lib.hid (show (Tryz.prog.info? 70).map (·.size) = some opl.length by rw [hol]; kernel_rfl)
      clear HST hmo2 hbb ho hx hIn hot hX1 hX2 hc r6
      have HMo := Lib.hid hmo
      clear hmo
      have HOL := Lib.hid (show (.agg opl.toArray : Value) = .agg (opA o x) by rw [hol]; rfl)
      clear hol
      have x0 := cell_regrown (w := wr) (a := ⟨w.heap.size, 0, none⟩) (v := .int .i64 t) (by rw [cell_of_row _ _ _ _ _ _ HAr.out]; rfl)
      have x1 := cell_regrown (w := wr) (a := ⟨w.heap.size, 1, none⟩) (v := .int .i64 r) (by rw [cell_of_row _ _ _ _ _ _ HAr.out]; rfl)
      have x2 := cell_regrown (w := wr) (a := ⟨w.heap.size, 2, none⟩) (v := .int .i64 n) (by rw [cell_of_row _ _ _ _ _ _ HAr.out]; rfl)
      have x3 := cell_regrown (w := wr) (a := ⟨w.heap.size, 3, none⟩) (v := .slice dA v.length dc) (by rw [cell_of_row _ _ _ _ _ _ HAr.out]; rfl)
      have x4 := cell_regrown (w := wr) (a := ⟨w.heap.size, 4, none⟩) (v := .int .i64 ut) (by rw [cell_of_row _ _ _ _ _ _ HAr.out]; rfl)
      have x5 := cell_regrown (w := wr) (a := ⟨w.heap.size, 5, none⟩) (v := .int .i64 ur) (by rw [cell_of_row _ _ _ _ _ _ HAr.out]; rfl)
      have x6 := cell_regrown (w := wr) (a := ⟨w.heap.size, 6, none⟩) (v := .slice (some ⟨ob, oo, none⟩) ops.length oc) (by rw [cell_of_row _ _ _ _ _ _ HAr.out]; rfl)
      have hwk : IntKind.i64.wrap ((j : Int) + 1) = (j : Int) + 1 := IntWalk.i64_in _ (by have := H2.out; omega)
      have hix : j < ops.length := hjl
      cases bb with
      | false =>
        obtain rfl : z = 80 := by rw [HZ.out, HK.out, HST2.out]; rfl
        simp only [Bool.false_eq_true, if_false] at hOp
        refine wp_region_quiet_below (by kernel_rfl) (by kernel_rfl) ?_
        repeat (any_goals (first | (refine quiet_load_mid rfl _ _ rfl ob (oo + j * 18) rfl opl _ HRR.out Tryz.underlying70 rfl HNL.out ?_; rw [HOL.out]) | go_big_quiet_step (with_reducible exact hOp _ _) | quiet_step (with_reducible exact hOp _ _)))
        refine wpQuiet_nil ?_
        intro _ hw'
        obtain ⟨⟨dq, osq⟩, hw''⟩ := hw'
        subst hw''
        have hBq := below_regrown wr dq osq
        generalize grow (redrawn wr dq) osq = wq2 at *
        go_wp2
        go_ret
        exact ⟨rfl, HBr.out.trans (hBq.mono HBr.out.size)⟩
      | true =>
        simp only [if_true] at hOp
        have hwm : IntKind.i64.wrap ((kk : Int) + (mo : Int)) = (kk : Int) + (mo : Int) := IntWalk.i64_in _ (by have := H2.out; have := HMo.out rfl; omega)
        have m1 : ¬ (mo : Int) < 0 := by omega
        have m2 : decide ((mo : Int) < 0) = false := decide_eq_false m1
        refine wp_region_quiet_below (by kernel_rfl) (by kernel_rfl) ?_
        repeat (any_goals (first | (refine quiet_load_mid rfl _ _ rfl ob (oo + j * 18) rfl opl _ HRR.out Tryz.underlying70 rfl HNL.out ?_; rw [HOL.out]) | go_big_quiet_step (with_reducible exact hOp _ _) | quiet_step (with_reducible exact hOp _ _)))
        refine wpQuiet_nil ?_
        intro _ hw'
        obtain ⟨⟨dq, osq⟩, hw''⟩ := hw'
        subst hw''
        have hBq := below_regrown wr dq osq
        generalize grow (redrawn wr dq) osq = wq2 at *
        have HA3 := Lib.hid ((hBq.block w.heap.size (lt_of_block HAr.out)).trans HAr.out)
        have HB3 := Lib.hid (HBr.out.trans (hBq.mono HBr.out.size))
        clear hBq hOp x0 x1 x2 x3 x4 x5 x6
        go_wp2
        go_roundw
        case rel => exact ⟨j + 1, kk + mo, by omega, by go_num, by go_num, by have := HMo.out rfl; omega, Lib.hid (by rw [HK.out, HST2.out]; rfl), HB3, HA3⟩
        case measure => simp [RowKit.intOf]; omega
    · obtain rfl : j = ops.length := by omega
      obtain rfl : z = 0 := by rw [HZ.out, HK.out, List.drop_length]; rfl
      go_wp2
      go_ret
      exact ⟨rfl, HBr.out⟩
theorem refchk_any (g : Grp) (dA : Option Addr) (dc : Nat) (oA : Option Addr) (oc : Nat) (S : Nat → Prop) (w : World) (hI : GrIn w S g dA dc oA oc) (hTx : g.ops.length ≤ 200 → ∀ o ∈ g.ops, o.text.size ≤ 1000000) :
    Calls Tryz.prog 51 #[.agg (grA g dA dc oA oc)] w fun e w' => e = .returned (.int .i64 (if chkB g = true then 0 else 80)) ∧ Below w.heap.size w w' := by
  obtain ⟨⟨t, r⟩, n, v, ⟨ut, ur⟩, ops⟩ := g
  have hl := hI.dle
  have hc : dc ≤ 9223372036854775807 := by have := hI.dmax; simp only [maxLen] at this; omega
  have hn := hI.nin
  have hD := hI.deps.vec
  simp only at hl hn hD hTx
  cases hh : headB ⟨⟨t, r⟩, n, v, ⟨ut, ur⟩, ops⟩ with
  | false =>
    have : chkB ⟨⟨t, r⟩, n, v, ⟨ut, ur⟩, ops⟩ = false := by unfold chkB; rw [hh]; rfl
    rw [this]
    exact refchk_head t r n v ut ur ops dA dc oA oc w hl hc hn hD hh
  | true =>
    cases hu : Gst.eqb ⟨ut, ur⟩ ⟨0, 0⟩ with
    | false =>
      refine refchk_undo t r n v ut ur ops dA dc oA oc w hl hc hn hD hh hu _ ?_
      have : Gst.eqb ⟨ut, ur⟩ .zero = false := hu
      simp only [chkB, hh, this, Bool.true_and, Bool.false_eq_true, if_false]
    | true =>
      have hu2 : Gst.eqb ⟨ut, ur⟩ .zero = true := hu
      by_cases h1 : 1 ≤ ops.length ∧ ops.length ≤ 200
      · refine refchk_ops t r n v ut ur ops dA dc oA oc w hl hc hn hD hh hu h1.1 h1.2 S hI.ops (hTx h1.2) _ ?_
        simp only [chkB, hh, hu2, Bool.true_and, if_true, decide_eq_true h1.1, decide_eq_true h1.2]
      · have : chkB ⟨⟨t, r⟩, n, v, ⟨ut, ur⟩, ops⟩ = false := by
          simp only [chkB, hh, hu2, Bool.true_and, if_true]
          by_cases h2 : 1 ≤ ops.length
          · have : ¬ ops.length ≤ 200 := fun h => h1 ⟨h2, h⟩
            simp [this]
          · simp [h2]
        rw [this]
        exact refchk_few t r n v ut ur ops dA dc oA oc w hl hc hn hD hh hu h1
end Go.Proofs.YtalgbcgiiphoaaaGreatDoor
end
