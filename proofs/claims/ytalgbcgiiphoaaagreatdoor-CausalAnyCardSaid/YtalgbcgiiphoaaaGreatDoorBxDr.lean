/- A box drains what waits. Conditions: lengths in reach. -/
import Derived.Test.YtalgbcgiiphoaaaGreatDoorBxDl
import Derived.Test.YtalgbcgiiphoaaaGreatDoorSM
import Derived.Deep.LoopGhost
import Derived.WalkMore
namespace Go.Proofs.YtalgbcgiiphoaaaGreatDoor
open Go.RowKit Go.Lib Go.Sort
set_option linter.unusedVariables false
attribute [local go_sem ↓] Go.wp_at_zero Go.wp_at_succ
def bestI : Option Nat → Int
  | none => -1
  | some k => (k : Int)
theorem BxOk.step {b : Bx} (h : BxOk b) {k : Nat} (hb : bestN b.v b.wait b.wait.length = some k) (ho : oldB b.v (b.wait.getD k gz) = false) : BxOk (Bx.put ⟨b.done, b.wait.eraseIdx k, b.v⟩ (b.wait.getD k gz)) := by
  obtain ⟨hk, hr⟩ := bestN_lt hb
  refine (h.drop k).put (h.chk _ (List.mem_append.2 (.inr (getD_mem hk)))) hr ho fun x hx => ?_
  have hn := h.apart
  rw [List.map_append, List.nodup_append] at hn
  rcases List.mem_append.1 hx with hx | hx
  · exact fun e => hn.2.2 _ (List.mem_map.2 ⟨x, hx, rfl⟩) _ (List.mem_map.2 ⟨_, getD_mem hk, rfl⟩) e
  · exact erase_ne hk hn.2.1 x hx
theorem map_erase {α β : Type} (f : α → β) (l : List α) (k : Nat) : (l.eraseIdx k).map f = (l.map f).eraseIdx k := by rw [List.eraseIdx_eq_take_drop_succ, List.eraseIdx_eq_take_drop_succ, List.map_append, List.map_take, List.map_drop]
/-- how many wait, by the memory -/
def waitN (P : Nat) (w : World) : Nat := match w.cell? ⟨P, 1, none⟩ with
  | some (.slice _ n _) => n
  | _ => 0
theorem waitN_of {P : Nat} {w : World} {A : Option Addr} {n c : Nat} (h : w.cell? ⟨P, 1, none⟩ = some (.slice A n c)) : waitN P w = n := by unfold waitN; rw [h]
theorem getD_fst (M : List (Grp × GrX)) (wt : List Grp) (h : M.map Prod.fst = wt) (k : Nat) : (M.getD k gp0).1 = wt.getD k gz := by
  subst h
  rw [List.getD_eq_getElem?_getD, List.getD_eq_getElem?_getD, List.getElem?_map]
  cases M[k]? <;> rfl
theorem getD_memP {M : List (Grp × GrX)} {k : Nat} (hk : k < M.length) : M.getD k gp0 ∈ M := by
  rw [List.getD_eq_getElem?_getD, List.getElem?_eq_getElem hk]; exact List.getElem_mem hk
theorem chk_dl {g : Grp} (h : chkB g = true) : g.deps.length ≤ 1000 := by
  simp only [chkB, headB, Bool.and_eq_true] at h
  have := (vecB_nn h.1.1.2).2
  omega
set_option maxRecDepth 100000 in
set_option maxHeartbeats 16000000 in
theorem bxdrain_any {B P : Nat} {S : Nat → Prop} {b : Bx} {X : BoxX} {w : World} (h : BoxIn B P S b.done b.done b.wait b.v X w) (hok : BxOk b) (hwl : b.wait.length ≤ 1000) (hlen : b.done.length + b.wait.length ≤ 1000000) :
    Calls Tryz.prog 47 #[.pointer (some ⟨P, 0, none⟩)] w fun e w' => e = .returned (.int .i64 ((drainF b.wait.length b).2 : Nat)) ∧ ∃ X' S', BoxIn B P S' (drainF b.wait.length b).1.done (drainF b.wait.length b).1.done (drainF b.wait.length b).1.wait (drainF b.wait.length b).1.v X' w' ∧ BTo P X S w X' S' w' := by
  obtain ⟨R, hR⟩ : ∃ R, R = drainF b.wait.length b := ⟨_, rfl⟩
  rw [← hR]
  have HRR := Lib.hid hR
  have H0 := Lib.hid h
  have HOK := Lib.hid hok
  obtain ⟨m, hm⟩ : ∃ m, m = b.wait.length := ⟨_, rfl⟩
  have HM := Lib.hid hm
  have HLEN := Lib.hid hlen
  have hm63 : m ≤ 1000 := by omega
  clear h hok hR hm hwl hlen
  go_enter Tryz.func47, Tryz.ntmps47
  go_wp2
  go_step3
  go_wp2
  go_step3
  go_wp2
  go_loopg [3] m (fun g c wr => ∃ (bk : Bx) (nk : Nat) (Xk : BoxX) (Sk : Nat → Prop), c = .int .i64 nk ∧ bk.wait.length = g ∧ nk + g ≤ m ∧ Hid (BoxIn B P Sk bk.done bk.done bk.wait bk.v Xk wr) ∧ Hid (BTo P X S w Xk Sk wr) ∧ Hid (BxOk bk) ∧ Hid (R = ((drainF bk.wait.length bk).1, (drainF bk.wait.length bk).2 + nk)) ∧ Hid (bk.done.length + bk.wait.length ≤ 1000000))
  case atStart => exact ⟨b, 0, X, S, rfl, HM.out.symm, by omega, H0, Lib.hid BTo.refl, HOK, Lib.hid (by rw [HRR.out]; rfl), HLEN⟩
  case round =>
    obtain ⟨bk, nk, Xk, Sk, rfl, hmw, hnk, HB, HT, HK, HE, HL⟩ := hrel
    generalize gk = mw at *
    have hmwl : mw ≤ 1000 := by omega
    have HMW := Lib.hid hmw
    obtain ⟨wA, wc, hwv⟩ := row_slice HB.out.wait
    have hXM : Xk.M.length = mw := by rw [HB.out.wlen, hmw]
    rw [hXM] at hwv
    have HXM := Lib.hid hXM
    have HWV := Lib.hid hwv
    have HRow := Lib.hid (show RowGr wr wA Xk.M from RowGr.own (c := wc) (by have := HB.out.wait; rw [hwv, ← hXM] at this; exact this))
    have p1 : wr.cell? ⟨P, 1, none⟩ = some (.slice wA mw wc) := by rw [HB.out.cell, hwv]; rfl
    clear hwv hmw hXM
    generalize wr = wo at *
    go_wp2
    go_loopg [4, 13] mw (fun g2 c i wx => ∃ (k : Nat) (z : Int), k + g2 = mw ∧ i = .int .i64 k ∧ c = .int .i64 z ∧ Hid (z = bestI (bestN bk.v bk.wait k)) ∧ Hid (Below wo.heap.size wo wx))
    case atStart => exact ⟨0, -1, by omega, rfl, rfl, Lib.hid rfl, Lib.hid (Below.refl _ _)⟩
    case round =>
      obtain ⟨k, z, hkg, rfl, rfl, HZ, HBx⟩ := hrel
      have HBk := Lib.hid (HB.out.below HBx.out)
      by_cases hlt : k < mw
      · obtain ⟨g3, rfl⟩ : ∃ g3, gk = g3 + 1 := ⟨gk - 1, by omega⟩
        obtain ⟨rb, ro, rfl, hrb, hrange⟩ := RowGr.range (RowGr.below HRow.out HBx.out) (k := k) (by rw [HXM.out]; exact hlt)
        have i1 : (0 : Int) ≤ (k : Int) := by omega
        have i2 : (k : Int) < (mw : Int) := by omega
        obtain ⟨p, hp⟩ : ∃ p, p = Xk.M.getD k gp0 := ⟨_, rfl⟩
        have HGp := Lib.hid (show GrG wr Sk p by rw [hp]; exact HBk.out.good _ (List.mem_append.2 (.inr (getD_memP (by rw [HXM.out]; exact hlt)))))
        have HPW := Lib.hid (show p.1 = bk.wait.getD k gz by rw [hp]; exact getD_fst _ _ HBk.out.wl k)
        have HDL := Lib.hid (show p.1.deps.length ≤ 1000 from chk_dl (HK.out.chk _ (by rw [HPW.out]; exact List.mem_append.2 (.inr (getD_mem (by rw [HMW.out]; exact hlt))))))
        rw [← hp] at hrange
        clear hp
        obtain ⟨ga, x⟩ := p
        obtain ⟨rdy, hrdy⟩ : ∃ b, b = readyB bk.v ga := ⟨_, rfl⟩
        have HRDc := Lib.hid (show ∀ W, Below wr.heap.size wr W → Calls Tryz.prog 45 #[.pointer (some ⟨P, 0, none⟩), .agg (grA ga x.dA x.dc x.oA x.oc)] W fun e w' => e = .returned (.bool rdy) ∧ Below W.heap.size W w' from fun W hB => by rw [hrdy]; exact bxready_any (HBk.out.below hB) ga x (HGp.out.agr (Agr.below hB)) HDL.out)
        have HST := Lib.hid (show bestN bk.v bk.wait (k + 1) = if rdy && behB bk.wait ga (bestN bk.v bk.wait k) then some k else bestN bk.v bk.wait k by rw [hrdy, show ga = bk.wait.getD k gz from HPW.out]; rfl)
        clear hrdy HDL
        obtain ⟨⟨t, r⟩, n, u, ⟨ut, ur⟩, ops⟩ := ga
        obtain ⟨dA, dc, oA, oc⟩ := x
        have HRG := Lib.hid (show wr.rangeAt rb (ro + k * 7) [.int .i64 t, .int .i64 r, .int .i64 n, .slice dA u.length dc, .int .i64 ut, .int .i64 ur, .slice oA ops.length oc] from hrange)
        have HRD2 : Hid (∀ W, Below wr.heap.size wr W → Calls Tryz.prog 45 #[.pointer (some ⟨P, 0, none⟩), .agg #[.int .i64 t, .int .i64 r, .int .i64 n, .slice dA u.length dc, .int .i64 ut, .int .i64 ur, .slice oA ops.length oc]] W fun e w' => e = .returned (.bool rdy) ∧ Below W.heap.size W w') := HRDc
        clear hrange HRDc
        go_upto_region 6 with (first
          | (refine wpList_load_mid rfl _ _ rfl rb (ro + k * 7) rfl [.int .i64 t, .int .i64 r, .int .i64 n, .slice dA u.length dc, .int .i64 ut, .int .i64 ur, .slice oA ops.length oc] _ HRG.out Tryz.underlying40 rfl (by kernel_rfl) ?_)
          | (refine store_last rfl _ _ _ rfl _ _ _ _ rfl ?_ rfl ?_ ?_ ?_ ?_; (focus (simp; done)); kernel_rfl; rfl; rfl))
        have hba : Below wr.heap.size wr (wr.alloc (.cells #[.int .i64 t, .int .i64 r, .int .i64 n, .slice dA u.length dc, .int .i64 ut, .int .i64 ur, .slice oA ops.length oc] 40)) := (Below.refl _ _).alloc (Nat.le_refl _) _
        have HC := Lib.hid (heap_alloc_new wr (.cells #[.int .i64 t, .int .i64 r, .int .i64 n, .slice dA u.length dc, .int .i64 ut, .int .i64 ur, .slice oA ops.length oc] 40))
        generalize hW : wr.alloc (.cells #[.int .i64 t, .int .i64 r, .int .i64 n, .slice dA u.length dc, .int .i64 ut, .int .i64 ur, .slice oA ops.length oc] 40) = W at *
        clear hW
        have HBA := Lib.hid hba
        have HOW := Lib.hid ((HBk.out.below hba).cell 1)
        clear hba
        have x0 := cell_regrown (w := W) (a := ⟨wr.heap.size, 0, none⟩) (v := .int .i64 t) (by rw [cell_of_row _ _ _ _ _ _ HC.out]; rfl)
        have x1 := cell_regrown (w := W) (a := ⟨wr.heap.size, 1, none⟩) (v := .int .i64 r) (by rw [cell_of_row _ _ _ _ _ _ HC.out]; rfl)
        have x2 := cell_regrown (w := W) (a := ⟨wr.heap.size, 2, none⟩) (v := .int .i64 n) (by rw [cell_of_row _ _ _ _ _ _ HC.out]; rfl)
        have x3 := cell_regrown (w := W) (a := ⟨wr.heap.size, 3, none⟩) (v := .slice dA u.length dc) (by rw [cell_of_row _ _ _ _ _ _ HC.out]; rfl)
        have x4 := cell_regrown (w := W) (a := ⟨wr.heap.size, 4, none⟩) (v := .int .i64 ut) (by rw [cell_of_row _ _ _ _ _ _ HC.out]; rfl)
        have x5 := cell_regrown (w := W) (a := ⟨wr.heap.size, 5, none⟩) (v := .int .i64 ur) (by rw [cell_of_row _ _ _ _ _ _ HC.out]; rfl)
        have x6 := cell_regrown (w := W) (a := ⟨wr.heap.size, 6, none⟩) (v := .slice oA ops.length oc) (by rw [cell_of_row _ _ _ _ _ _ HC.out]; rfl)
        have cA := fun d os => Calls.regrown_of (HRD2.out (grow (redrawn W d) os) (bx_grow HBA.out HBA.out.size d os))
        have HBW := Lib.hid (HBx.out.trans (HBA.out.mono HBx.out.size))
        cases rdy with
        | false =>
          refine wp_region_quiet_below (by kernel_rfl) (by kernel_rfl) ?_
          repeat (any_goals (first | go_big_quiet_step (with_reducible exact cA _ _) | quiet_step (with_reducible exact cA _ _)))
          refine wpQuiet_nil ?_
          intro _ hw'
          obtain ⟨⟨dq, osq⟩, hw''⟩ := hw'
          subst hw''
          have hBq := below_regrown W dq osq
          generalize grow (redrawn W dq) osq = wq at *
          go_wp2
          go_roundg g3
          case measure => omega
          case rel => exact ⟨k + 1, z, by omega, by go_num, rfl, Lib.hid (by rw [HST.out]; simpa using HZ.out), Lib.hid (HBW.out.trans (hBq.mono HBW.out.size))⟩
        | true =>
          cases hbn : bestN bk.v bk.wait k with
          | none =>
            obtain rfl : z = -1 := by rw [HZ.out, hbn]; rfl
            rw [hbn] at HST
            refine wp_region_quiet_below (by kernel_rfl) (by kernel_rfl) ?_
            repeat (any_goals (first | go_big_quiet_step (with_reducible exact cA _ _) | quiet_step (with_reducible exact cA _ _)))
            refine wpQuiet_nil ?_
            intro _ hw'
            obtain ⟨⟨dq, osq⟩, hw''⟩ := hw'
            subst hw''
            have hBq := below_regrown W dq osq
            generalize grow (redrawn W dq) osq = wq at *
            go_wp2
            go_roundg g3
            case measure => omega
            case rel => exact ⟨k + 1, (k : Int), by omega, by go_num, rfl, Lib.hid (by rw [HST.out]; simp [behB, bestI]), Lib.hid (HBW.out.trans (hBq.mono HBW.out.size))⟩
          | some j =>
            obtain rfl : z = (j : Int) := by rw [HZ.out, hbn]; rfl
            rw [hbn] at HST
            have hjk := (bestN_lt hbn).1
            obtain ⟨rb2, ro2, he2, hrb2, hrange2⟩ := RowGr.range (RowGr.below HRow.out HBW.out) (k := j) (by rw [HXM.out]; omega)
            cases he2
            obtain ⟨q, hq⟩ : ∃ q, q = Xk.M.getD j gp0 := ⟨_, rfl⟩
            have HQW := Lib.hid (show q.1 = bk.wait.getD j gz by rw [hq]; exact getD_fst _ _ HBk.out.wl j)
            rw [← hq] at hrange2
            clear hq hbn
            obtain ⟨gb, y⟩ := q
            obtain ⟨⟨t2, r2⟩, n2, u2, ⟨ut2, ur2⟩, ops2⟩ := gb
            obtain ⟨dA2, dc2, oA2, oc2⟩ := y
            have y0 := cell_regrown (w := W) (a := ⟨rb, ro + j * 7, none⟩) (v := .int .i64 t2) (hrange2 0 _ rfl)
            have y1 := cell_regrown (w := W) (a := ⟨rb, ro + j * 7 + 1, none⟩) (v := .int .i64 r2) (hrange2 1 _ rfl)
            have pp := cell_regrown (w := W) (a := ⟨P, 1, none⟩) (v := .slice (some ⟨rb, ro, none⟩) mw wc) (by rw [HOW.out, HWV.out]; rfl)
            have i3 : (0 : Int) ≤ (j : Int) := by omega
            have i4 : (j : Int) < (mw : Int) := by omega
            have i5 : ¬ (j : Int) < 0 := by omega
            have i6 : decide ((j : Int) < 0) = false := decide_eq_false i5
            obtain ⟨zc, hzc⟩ : ∃ zc, zc = cmpS (⟨t, r⟩ : Gst) ⟨t2, r2⟩ := ⟨_, rfl⟩
            have HLT := Lib.hid (show decide (zc < 0) = (⟨t, r⟩ : Gst).lt ⟨t2, r2⟩ by rw [hzc]; exact cmpS_lt _ _)
            have cC := fun d os => Calls.regrown_of (show Calls Tryz.prog 75 #[.agg #[.int .i64 t, .int .i64 r], .agg #[.int .i64 t2, .int .i64 r2]] (grow (redrawn W d) os) fun e w' => e = .returned (.int .i64 zc) ∧ Below (grow (redrawn W d) os).heap.size (grow (redrawn W d) os) w' by rw [hzc]; exact cmp_any t r t2 r2 _)
            have HBH := Lib.hid (show behB bk.wait ⟨⟨t, r⟩, n, u, ⟨ut, ur⟩, ops⟩ (some j) = (⟨t, r⟩ : Gst).lt ⟨t2, r2⟩ by show (⟨t, r⟩ : Gst).lt (bk.wait.getD j gz).s = _; rw [← HQW.out])
            clear hzc hrange2
            by_cases hz0 : zc < 0
            · have hz1 : decide (zc < 0) = true := decide_eq_true hz0
              have HY := Lib.hid (show behB bk.wait ⟨⟨t, r⟩, n, u, ⟨ut, ur⟩, ops⟩ (some j) = true by rw [HBH.out, ← HLT.out, hz1])
              refine wp_region_quiet_below (by kernel_rfl) (by kernel_rfl) ?_
              repeat (any_goals (first | go_big_quiet_step (first | with_reducible exact cA _ _ | with_reducible exact cC _ _) | quiet_step (first | with_reducible exact cA _ _ | with_reducible exact cC _ _)))
              refine wpQuiet_nil ?_
              intro _ hw'
              obtain ⟨⟨dq, osq⟩, hw''⟩ := hw'
              subst hw''
              have hBq := below_regrown W dq osq
              generalize grow (redrawn W dq) osq = wq at *
              go_wp2
              go_roundg g3
              case measure => omega
              case rel => exact ⟨k + 1, (k : Int), by omega, by go_num, rfl, Lib.hid (by rw [HST.out]; rw [HY.out]; rfl), Lib.hid (HBW.out.trans (hBq.mono HBW.out.size))⟩
            · have hz1 : decide (zc < 0) = false := decide_eq_false hz0
              have HY := Lib.hid (show behB bk.wait ⟨⟨t, r⟩, n, u, ⟨ut, ur⟩, ops⟩ (some j) = false by rw [HBH.out, ← HLT.out, hz1])
              refine wp_region_quiet_below (by kernel_rfl) (by kernel_rfl) ?_
              repeat (any_goals (first | go_big_quiet_step (first | with_reducible exact cA _ _ | with_reducible exact cC _ _) | quiet_step (first | with_reducible exact cA _ _ | with_reducible exact cC _ _)))
              refine wpQuiet_nil ?_
              intro _ hw'
              obtain ⟨⟨dq, osq⟩, hw''⟩ := hw'
              subst hw''
              have hBq := below_regrown W dq osq
              generalize grow (redrawn W dq) osq = wq at *
              go_wp2
              go_roundg g3
              case measure => omega
              case rel => exact ⟨k + 1, (j : Int), by omega, by go_num, rfl, Lib.hid (by rw [HST.out]; rw [HY.out]; rfl), Lib.hid (HBW.out.trans (hBq.mono HBW.out.size))⟩
      · have hkm : k = mw := by omega
        subst hkm
        have i2 : ¬ (k : Int) < (k : Int) := by omega
        have i2d : decide ((k : Int) < (k : Int)) = false := decide_eq_false i2
        cases hbn : bestN bk.v bk.wait k with
        | none =>
          obtain rfl : z = -1 := by rw [HZ.out, hbn]; rfl
          have hdr := drainF_none (f := bk.wait.length) (b := bk) (by rw [HMW.out]; exact hbn)
          have HR1 := Lib.hid (show R = (bk, nk) by rw [HE.out, hdr]; simp)
          clear hbn hdr
          go_wp2
          try rw [Exit.noGoto_ret]
          go_ret
          rw [HR1.out]
          exact ⟨rfl, Xk, Sk, HBk.out, HT.out.trans (BTo.of_below HBx.out)⟩
        | some j =>
          obtain rfl : z = (j : Int) := by rw [HZ.out, hbn]; rfl
          obtain ⟨hjk, -⟩ := bestN_lt hbn
          obtain ⟨f, hf⟩ : ∃ f, k = f + 1 := ⟨k - 1, by omega⟩
          have HF := Lib.hid hf
          clear hf
          obtain ⟨rb, ro, rfl, hrb, hrange⟩ := RowGr.range (RowGr.below HRow.out HBx.out) (k := j) (by rw [HXM.out]; exact hjk)
          have i3 : (0 : Int) ≤ (j : Int) := by omega
          have i4 : (j : Int) < (k : Int) := by omega
          have i5 : ¬ (j : Int) < 0 := by omega
          have i6 : decide ((j : Int) < 0) = false := decide_eq_false i5
          obtain ⟨p, hp⟩ : ∃ p, p = Xk.M.getD j gp0 := ⟨_, rfl⟩
          have HGp := Lib.hid (show GrG wr Sk p by rw [hp]; exact HBk.out.good _ (List.mem_append.2 (.inr (getD_memP (by rw [HXM.out]; exact hjk)))))
          have HPW := Lib.hid (show p.1 = bk.wait.getD j gz by rw [hp]; exact getD_fst _ _ HBk.out.wl j)
          have HCK := Lib.hid (show chkB p.1 = true from HK.out.chk _ (by rw [HPW.out]; exact List.mem_append.2 (.inr (getD_mem (by rw [HMW.out]; exact hjk)))))
          rw [← hp] at hrange
          clear hp
          obtain ⟨ga, x⟩ := p
          obtain ⟨od, hod⟩ : ∃ b, b = oldB bk.v ga := ⟨_, rfl⟩
          have HOD := Lib.hid (show oldB bk.v (bk.wait.getD j gz) = od by rw [hod, show ga = bk.wait.getD j gz from HPW.out])
          have HBN := Lib.hid (show bestN bk.v bk.wait bk.wait.length = some j by rw [HMW.out]; exact hbn)
          have hel : (bk.wait.eraseIdx j).length = f := by rw [List.length_eraseIdx, if_pos (by rw [HMW.out]; exact hjk), HMW.out, HF.out]; rfl
          have HEL := Lib.hid hel
          have HEM := Lib.hid (show (Xk.M.eraseIdx j).map Prod.fst = bk.wait.eraseIdx j by rw [← HBk.out.wl]; exact map_erase _ _ _)
          clear hbn hel
          obtain ⟨GA, hGA⟩ : ∃ l, l = grL ga x := ⟨_, rfl⟩
          have hGA7 : GA.length = 7 := by rw [hGA]; rfl
          have HGA := Lib.hid hGA
          have HGA7 := Lib.hid hGA7
          have HG1 := Lib.hid (show GA.toArray.toList.all (·.oneCell') = true by rw [hGA]; rfl)
          rw [← hGA] at hrange
          have HRG := Lib.hid hrange
          clear hGA hGA7 hrange hod
          have HINF := Lib.hid (show (Tryz.prog.info? 40).map (·.size) = some GA.length by rw [HGA7.out]; kernel_rfl)
          have pp : wr.cell? ⟨P, 1, none⟩ = some (.slice (some ⟨rb, ro, none⟩) k wc) := by rw [HBk.out.cell, HWV.out]; rfl
          go_upto_region 12 with (first
            | (refine wpList_load_mid rfl _ _ rfl rb (ro + j * 7) rfl GA _ HRG.out Tryz.underlying40 rfl HINF.out ?_)
            | (refine store_last rfl _ _ _ rfl _ _ _ _ rfl ?_ rfl HINF.out ?_ HG1.out ?_; (focus (simp; done)); (focus (simp [HGA7.out]; done))))
          have hba : Below wr.heap.size wr (wr.alloc (.cells GA.toArray 40)) := (Below.refl _ _).alloc (Nat.le_refl _) _
          have HCW := Lib.hid (heap_alloc_new wr (.cells GA.toArray 40))
          generalize hW : wr.alloc (.cells GA.toArray 40) = W at *
          clear hW
          have HXW := Lib.hid (HBk.out.below hba)
          have HTW := Lib.hid ((HT.out.trans (BTo.of_below HBx.out)).trans (BTo.of_below hba))
          have HGW := Lib.hid (HGp.out.agr (Agr.below hba))
          have hwW : wr.heap.size < W.heap.size := lt_of_block HCW.out
          have HOL := Lib.hid (fun q hq => (HBk.out.own_lt (k := q) hq).2)
          have pw : W.cell? ⟨P, 1, none⟩ = some (.slice (some ⟨rb, ro, none⟩) k wc) := by rw [HXW.out.cell, HWV.out]; rfl
          have HDLc := Lib.hid (show Calls Tryz.prog 82 #[.slice (some ⟨rb, ro, none⟩) k wc, .int .i64 (j : Int), .int .i64 ((j : Int) + 1)] W fun e w' => ∃ wv', e = .returned wv' ∧ w'.ownsRow B 40 7 wv' (Xk.M.eraseIdx j).length ((Xk.M.eraseIdx j).flatMap grC_) ∧ W.grownBy w' Xk.wv.ownBlock ∧ wv'.ownBlock = Xk.wv.ownBlock by
            have := bxdelete_any (B := B) (wv := Xk.wv) (M := Xk.M) (w := W) j HXW.out.wait (by rw [HXM.out]; exact hjk) (by rw [HXM.out]; omega)
            rw [HWV.out] at this ⊢
            exact this)
          clear hba pp
          go_wp2_with fail
          refine HDLc.out.mono ?_
          rintro e w5 ⟨wv', rfl, hO5, hg5, hat5⟩
          obtain ⟨A5, c5, rfl⟩ := row_slice hO5
          have hPw : some P ≠ Xk.wv.ownBlock := fun e => HXW.out.wP e.symm
          have hob := (hg5.block P (lt_of_block HXW.out.obj) hPw).trans HXW.out.obj
          have q5 : w5.cell? ⟨P, 1, none⟩ = some (.slice (some ⟨rb, ro, none⟩) k wc) := by rw [cell_of_row _ _ _ _ _ _ hob, HWV.out]; rfl
          have f5 : w5.frozen? ⟨P, 1, none⟩ = false := frozen_of_row _ _ _ _ _ hob
          have HC5 := Lib.hid ((hg5.block wr.heap.size hwW (fun e => by have := HOL.out _ (.inr (.inr (.inr e.symm))); omega)).trans HCW.out)
          have HPP := Lib.hid (HOL.out P (.inl rfl))
          have HPUT := Lib.hid (HXW.out.wset (Below.refl _ _) hg5 hO5 (.inl hat5) (fun p hp => HXW.out.good p (List.mem_append.2 (.inr (List.eraseIdx_subset hp)))))
          clear hO5 hg5 hat5 hPw hob
          go_upto_region 13 with fail
          have HC6 := Lib.hid ((Below.heap_setCell w5 ⟨P, 1, none⟩ (.slice A5 (Xk.M.eraseIdx j).length c5) wr.heap.size (by show wr.heap.size ≠ P; have := HPP.out; omega)).trans HC5.out)
          obtain ⟨hX6, hT6⟩ := HPUT.out
          rw [HEM.out] at hX6
          generalize hV : w5.setCell ⟨P, 1, none⟩ (.slice A5 (Xk.M.eraseIdx j).length c5) = V at *
          clear hV q5 f5 HPUT HC5
          generalize hXe : ({ Xk with wv := .slice A5 (Xk.M.eraseIdx j).length c5, M := Xk.M.eraseIdx j } : BoxX) = X2 at *
          clear hXe
          have HX6 := Lib.hid hX6
          have HT6 := Lib.hid (HTW.out.trans hT6)
          have HG6 := Lib.hid (HGW.out.agr (hT6.gr.agr (fun i _ hs => (HXW.out.sep i hs).2)))
          clear hX6 hT6
          have HOLD := Lib.hid (bxold_any (S2 := Sk) HX6.out ga x)
          have HAG := Lib.hid (show GA.toArray = grA ga x.dA x.dc x.oA x.oc by rw [HGA.out]; rfl)
          rw [← HAG.out] at HOLD
          have HGOLD := Lib.hid (show Calls Tryz.prog 77 #[.pointer (some ⟨P, 0, none⟩), .agg GA.toArray] V fun e w' => e = .returned (.bool od) ∧ Below V.heap.size V w' by have h1 := HOLD.out; rw [show oldB bk.v ga = od from by rw [show ga = bk.wait.getD j gz from HPW.out]; exact HOD.out] at h1; exact h1)
          clear HOLD
          cases od with
          | true =>
            have hdr := drainF_old (f := f) HBN.out HOD.out
            go_wp2_with (first
              | (refine load_at rfl _ _ rfl wr.heap.size _ _ _ rfl HC6.out Tryz.underlying40 rfl HINF.out ?_)
              | (go_at_call 77; refine HGOLD.out.mono ?_; rintro e w7 ⟨rfl, hB7⟩))
            go_roundg f
            case measure => have := HF.out; omega
            case rel => exact ⟨⟨bk.done, bk.wait.eraseIdx j, bk.v⟩, nk, X2, Sk, rfl, HEL.out, by have := HF.out; omega, Lib.hid (HX6.out.below hB7), Lib.hid (HT6.out.trans (BTo.of_below hB7)), Lib.hid (HK.out.drop j), Lib.hid (by rw [HE.out, HMW.out, HF.out, hdr]; show _ = ((drainF (bk.wait.eraseIdx j).length _).1, _); rw [HEL.out]), Lib.hid (by have h1 := HL.out; show bk.done.length + (bk.wait.eraseIdx j).length ≤ 1000000; rw [HEL.out]; rw [HMW.out] at h1; have := HF.out; omega)⟩
          | false =>
            have hdr := drainF_put (f := f) HBN.out HOD.out
            have HKS := Lib.hid (HK.out.step HBN.out HOD.out)
            have HDEc := Lib.hid (show ∀ W7, Below V.heap.size V W7 → Calls Tryz.prog 46 #[.pointer (some ⟨P, 0, none⟩), .agg GA.toArray] W7 fun e w' => e = .returned (.tuple #[]) ∧ ∃ X' S', BoxIn B P S' (bk.done ++ [ga]) (bk.done ++ [ga]) (bk.wait.eraseIdx j) (withV bk.v ga.s.r ga.n) X' w' ∧ BTo P X2 Sk W7 X' S' w' from fun W7 hB => by
              rw [HAG.out]
              exact bxdeliver_any (HX6.out.below hB) ga x (HG6.out.agr (Agr.below hB)) (chk_right HCK.out).1 (by have := HL.out; omega) (by have := HL.out; omega))
            go_wp2_with (first
              | (refine load_at rfl _ _ rfl wr.heap.size _ _ _ rfl HC6.out Tryz.underlying40 rfl HINF.out ?_)
              | (refine load_at rfl _ _ rfl wr.heap.size _ _ _ rfl HC7.out Tryz.underlying40 rfl HINF.out ?_)
              | (go_at_call 77; refine HGOLD.out.mono ?_; rintro e w7 ⟨rfl, hB7⟩; have HB7 := Lib.hid hB7; have HC7 := Lib.hid ((hB7.block wr.heap.size (lt_of_block HC6.out)).trans HC6.out); clear hB7)
              | (go_at_call 46; refine (HDEc.out w7 HB7.out).mono ?_; rintro e w8 ⟨rfl, X8, S8, hX8, hT8⟩))
            go_roundg f
            case measure => have := HF.out; omega
            case rel => exact ⟨Bx.put ⟨bk.done, bk.wait.eraseIdx j, bk.v⟩ (bk.wait.getD j gz), nk + 1, X8, S8, by go_num, HEL.out, by have := HF.out; omega, Lib.hid (by rw [← show ga = bk.wait.getD j gz from HPW.out]; exact hX8), Lib.hid ((HT6.out.trans (BTo.of_below HB7.out)).trans hT8), HKS, Lib.hid (by rw [HE.out, HMW.out, HF.out, hdr]; show _ = ((drainF (bk.wait.eraseIdx j).length _).1, (drainF (bk.wait.eraseIdx j).length _).2 + (nk + 1)); rw [HEL.out, Nat.add_comm nk 1, ← Nat.add_assoc]), Lib.hid (by have h1 := HL.out; show (bk.done ++ [bk.wait.getD j gz]).length + (bk.wait.eraseIdx j).length ≤ 1000000; rw [HEL.out, List.length_append, List.length_singleton]; rw [HMW.out] at h1; have := HF.out; omega)⟩
end Go.Proofs.YtalgbcgiiphoaaaGreatDoor
