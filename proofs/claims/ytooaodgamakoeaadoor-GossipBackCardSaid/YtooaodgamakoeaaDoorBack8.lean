/- WireBack: groups come back from their bytes, and bytes that are a group's from it. Conditions: lengths in reach; the tables of utf8. -/
import Derived.Test.YtooaodgamakoeaaDoorAwake8
import Derived.Test.YtooaodgamakoeaaDoorFA
import Derived.Test.YtooaodgamakoeaaDoorOpn
import Derived.Test.YtooaodgamakoeaaDoorPA
import Derived.Test.YtooaodgamakoeaaDoorQA
namespace Go.Proofs.YtooaodgamakoeaaDoor
open Go.RowKit Go.Lib Go.Sort
set_option linter.unusedVariables false
attribute [local go_sem ↓] Go.wp_at_zero Go.wp_at_succ
theorem GrIn.gz {w : World} {S : Nat → Prop} : GrIn w S gz none 0 none 0 :=
  ⟨RowG.zero, ⟨fun _ => ⟨none, 0, none, 0⟩, RowG.zero, fun k hk => absurd hk (Nat.not_lt_zero k)⟩, Nat.le_refl _, Nat.le_refl _, Nat.zero_le _, Nat.zero_le _, ⟨by decide, by decide⟩, fun x hx => (by cases hx)⟩
theorem same_gz (w : World) : Calls Tryd.prog 21 #[.agg #[.int .i64 0, .int .i64 0, .int .i64 0, .slice none 0 0, .int .i64 0, .int .i64 0, .slice none 0 0], .agg #[.int .i64 0, .int .i64 0, .int .i64 0, .slice none 0 0, .int .i64 0, .int .i64 0, .slice none 0 0]] w fun e w' => e = .returned (.bool true) ∧ Below w.heap.size w w' := by
  have := sameg_any gz gz none none none none 0 0 0 0 (fun _ => True) (fun _ => True) w GrIn.gz GrIn.gz
  rw [sameG_iff.2 rfl] at this
  exact this
theorem below_grow {w W : World} {B : Nat} (h : Below B w W) (hB : B ≤ W.heap.size) (d : Nat) (os : Array Obj) : Below B w (grow (redrawn W d) os) := h.trans ((below_regrown W d os).mono hB)
theorem encV_ok {g : Grp} (h : chkB g = true) : encV g = .tuple #[.string ⟨(grpZ g).toArray⟩, .int .i64 0] := by unfold encV; rw [if_pos h]
theorem encV_no {g : Grp} (h : chkB g = false) : encV g = .tuple #[.string ⟨#[]⟩, .int .i64 80] := by unfold encV; rw [if_neg (by rw [h]; decide)]
set_option maxRecDepth 100000 in
set_option maxHeartbeats 16000000 in
theorem back_any (g : Grp) (dA oA : Option Addr) (dc oc : Nat) (s : ByteArray) (w : World) (hI : GrIn w (Here w) g dA dc oA oc) (hT1 : ∀ o ∈ g.ops, o.text.size < 9223372036854775807) (hs : s.size ≤ 9223372036854775807) (hTb : Tabs w) :
    Calls Tryd.prog 5 #[.agg (grA g dA dc oA oc), .string s] w fun e w' => e = .returned (.bool true) ∧ Below w.heap.size w w' := by
  have HFIT := Lib.hid (fit_of hI)
  obtain ⟨fw, hfw⟩ : ∃ b, b = fewG g := ⟨_, rfl⟩
  obtain ⟨ck, hck⟩ : ∃ b, b = chkB g := ⟨_, rfl⟩
  have HFW := Lib.hid hfw
  have HCK := Lib.hid hck
  have HTB := Lib.hid hTb
  have hAW : ∀ W, Below w.heap.size w W → Calls Tryd.prog 17 #[] W fun e w' => e = .returned (.bool true) ∧ Below W.heap.size W w' := fun W hB => awake8_any W (hTb.below hB)
  have hFE : ∀ W, Below w.heap.size w W → Calls Tryd.prog 18 #[.agg (grA g dA dc oA oc)] W fun e w' => e = .returned (.bool fw) ∧ Below W.heap.size W w' := fun W hB => by
    rw [hfw]; exact few_any g dA oA dc oc (Here w) W (hI.agr (Agr.below hB))
  have hEN : ∀ W, Below w.heap.size w W → fw = true → Calls Tryd.prog 19 #[.agg (grA g dA dc oA oc)] W fun e w' => e = .returned (encV g) ∧ Below W.heap.size W w' := fun W hB h =>
    encode_any g dA dc oA oc (Here w) W (hI.agr (Agr.below hB)) hT1 (few_text (by rw [← hfw]; exact h)) (hTb.below hB)
  have hSA : ∀ W, Below w.heap.size w W → ∀ (A B : Option Addr) (c d : Nat) (S : Nat → Prop), GrIn W S g A c B d → Calls Tryd.prog 21 #[.agg (grA g dA dc oA oc), .agg (grA g A c B d)] W fun e w' => e = .returned (.bool true) ∧ Below W.heap.size W w' := fun W hB A B c d S h => by
    have := sameg_any g g dA A oA B dc c oc d (Here w) S W (hI.agr (Agr.below hB)) h
    rw [sameG_iff.2 rfl] at this
    exact this
  obtain ⟨⟨t, r⟩, n, v, ⟨ut, ur⟩, ops⟩ := g
  show Calls _ _ #[.agg #[.int .i64 t, .int .i64 r, .int .i64 n, .slice dA v.length dc, .int .i64 ut, .int .i64 ur, .slice oA ops.length oc], .string s] _ _
  have HAW := Lib.hid hAW
  have HFE : Hid (∀ W, Below w.heap.size w W → Calls Tryd.prog 18 #[.agg #[.int .i64 t, .int .i64 r, .int .i64 n, .slice dA v.length dc, .int .i64 ut, .int .i64 ur, .slice oA ops.length oc]] W fun e w' => e = .returned (.bool fw) ∧ Below W.heap.size W w') := Lib.hid hFE
  have HEN : Hid (∀ W, Below w.heap.size w W → fw = true → Calls Tryd.prog 19 #[.agg #[.int .i64 t, .int .i64 r, .int .i64 n, .slice dA v.length dc, .int .i64 ut, .int .i64 ur, .slice oA ops.length oc]] W fun e w' => e = .returned (encV ⟨⟨t, r⟩, n, v, ⟨ut, ur⟩, ops⟩) ∧ Below W.heap.size W w') := Lib.hid hEN
  have HSA := Lib.hid hSA
  clear hfw hck hTb hAW hFE hEN hSA hI hT1
  have HB0 := Lib.hid (show Below w.heap.size w (w.alloc (.cells #[.int .i64 t, .int .i64 r, .int .i64 n, .slice dA v.length dc, .int .i64 ut, .int .i64 ur, .slice oA ops.length oc] 34)) from (Below.refl _ _).alloc (Nat.le_refl _) _)
  go_enter Tryd.func5, Tryd.ntmps5
  go_wp2_with fail
  refine (HAW.out _ HB0.out).mono ?_
  rintro e w1 ⟨rfl, hB1⟩
  have HG1 := Lib.hid ((hB1.block w.heap.size (by simp)).trans (heap_alloc_new w _))
  have HB1 := Lib.hid (HB0.out.trans (hB1.mono (by simp)))
  clear hB1
  go_upto_if 18 with (first | (refine load_at rfl _ _ rfl w.heap.size _ _ _ rfl HG1.out Tryd.underlying34 rfl ?_ ?_; kernel_rfl) | (go_at_call 18; refine (HFE.out _ HB1.out).mono ?_; rintro e w2 ⟨rfl, hB2⟩))
  have HG2 := Lib.hid ((hB2.block w.heap.size (lt_of_block HG1.out)).trans HG1.out)
  have HB2 := Lib.hid (HB1.out.trans (hB2.mono HB1.out.size))
  clear hB2
  go_cut [] (fun wx => Below w.heap.size w wx)
  case first =>
    cases fw with
    | false =>
      go_wp2
      go_meet
      exact HB2.out
    | true =>
      cases ck with
      | false =>
        have HE : Hid (∀ W, Below w.heap.size w W → Calls Tryd.prog 19 #[.agg #[.int .i64 t, .int .i64 r, .int .i64 n, .slice dA v.length dc, .int .i64 ut, .int .i64 ur, .slice oA ops.length oc]] W fun e w' => e = .returned (.tuple #[.string ⟨#[]⟩, .int .i64 80]) ∧ Below W.heap.size W w') := Lib.hid (by have := HEN.out; rw [encV_no HCK.out.symm] at this; exact fun W hB => this W hB rfl)
        go_wp2_with (first | (refine load_at rfl _ _ rfl w.heap.size _ _ _ rfl HG2.out Tryd.underlying34 rfl ?_ ?_; kernel_rfl) | (go_at_call 19; refine (HE.out _ HB2.out).mono ?_; rintro e w3 ⟨rfl, hB3⟩))
        go_meet
        exact HB2.out.trans (hB3.mono HB2.out.size)
      | true =>
        obtain ⟨Z, hZ⟩ : ∃ Z : ByteArray, Z = ⟨(grpZ ⟨⟨t, r⟩, n, v, ⟨ut, ur⟩, ops⟩).toArray⟩ := ⟨_, rfl⟩
        have HE : Hid (∀ W, Below w.heap.size w W → Calls Tryd.prog 19 #[.agg #[.int .i64 t, .int .i64 r, .int .i64 n, .slice dA v.length dc, .int .i64 ut, .int .i64 ur, .slice oA ops.length oc]] W fun e w' => e = .returned (.tuple #[.string Z, .int .i64 0]) ∧ Below W.heap.size W w') := Lib.hid (by have := HEN.out; rw [encV_ok HCK.out.symm, ← hZ] at this; exact fun W hB => this W hB rfl)
        have HZL := Lib.hid (show Z.data.toList = grpZ ⟨⟨t, r⟩, n, v, ⟨ut, ur⟩, ops⟩ by rw [hZ])
        have HZD := Lib.hid (show decZ Z.data.toList = some ⟨⟨t, r⟩, n, v, ⟨ut, ur⟩, ops⟩ by rw [HZL.out]; exact dec_enc HFIT.out HCK.out.symm)
        have hzs : Z.size ≤ 1000000 := by
          have h1 := grpZ_few HFIT.out HFW.out.symm HCK.out.symm
          rw [← HZL.out] at h1
          have h2 : Z.data.toList.length = Z.size := by simp
          omega
        clear hZ
        go_wp2_with (first | (refine load_at rfl _ _ rfl w.heap.size _ _ _ rfl HG2.out Tryd.underlying34 rfl ?_ ?_; kernel_rfl) | (go_at_call 19; refine (HE.out _ HB2.out).mono ?_; rintro e w3 ⟨rfl, hB3⟩))
        have HG3 := Lib.hid ((hB3.block w.heap.size (lt_of_block HG2.out)).trans HG2.out)
        have HB3 := Lib.hid (HB2.out.trans (hB3.mono HB2.out.size))
        clear hB3
        refine (decode_any Z w3 hzs (HTB.out.below HB3.out)).mono ?_
        rintro e w4 hq
        obtain ⟨hB4, A, c, B, d, he, hI4, -⟩ := DecQ.some HZD.out hq
        obtain rfl : e = .returned (.tuple #[.agg #[.int .i64 t, .int .i64 r, .int .i64 n, .slice A v.length c, .int .i64 ut, .int .i64 ur, .slice B ops.length d], .int .i64 0]) := he
        have HG4 := Lib.hid ((hB4.block w.heap.size (lt_of_block HG3.out)).trans HG3.out)
        have HB4 := Lib.hid (HB3.out.trans (hB4.mono HB3.out.size))
        have HI4 := Lib.hid hI4
        clear hI4 hB4 hq
        go_upto_region 8 with fail
        generalize hW : w4.alloc (.cells #[.int .i64 t, .int .i64 r, .int .i64 n, .slice A v.length c, .int .i64 ut, .int .i64 ur, .slice B ops.length d] 34) = W
        have hGW : W.heap[w.heap.size]? = some (.cells #[.int .i64 t, .int .i64 r, .int .i64 n, .slice dA v.length dc, .int .i64 ut, .int .i64 ur, .slice oA ops.length oc] 34 (0, 0)) := by rw [← hW]; exact (Below.heap_alloc _ _ _ (lt_of_block HG4.out)).trans HG4.out
        have hHW : W.heap[w4.heap.size]? = some (.cells #[.int .i64 t, .int .i64 r, .int .i64 n, .slice A v.length c, .int .i64 ut, .int .i64 ur, .slice B ops.length d] 34 (0, 0)) := by rw [← hW]; exact heap_alloc_new _ _
        have hBW : Below w.heap.size w W := by rw [← hW]; exact HB4.out.alloc HB4.out.size _
        have hIW : GrIn W (fun k => w3.heap.size ≤ k) ⟨⟨t, r⟩, n, v, ⟨ut, ur⟩, ops⟩ A c B d := by rw [← hW]; exact HI4.out.agr (Agr.below ((Below.refl _ _).alloc (Nat.le_refl _) _))
        clear hW
        have x0 := cell_regrown (w := W) (a := ⟨w.heap.size, 0, none⟩) (v := .int .i64 t) (by rw [cell_of_row _ _ _ _ _ _ hGW]; rfl)
        have x1 := cell_regrown (w := W) (a := ⟨w.heap.size, 1, none⟩) (v := .int .i64 r) (by rw [cell_of_row _ _ _ _ _ _ hGW]; rfl)
        have x2 := cell_regrown (w := W) (a := ⟨w.heap.size, 2, none⟩) (v := .int .i64 n) (by rw [cell_of_row _ _ _ _ _ _ hGW]; rfl)
        have x3 := cell_regrown (w := W) (a := ⟨w.heap.size, 3, none⟩) (v := .slice dA v.length dc) (by rw [cell_of_row _ _ _ _ _ _ hGW]; rfl)
        have x4 := cell_regrown (w := W) (a := ⟨w.heap.size, 4, none⟩) (v := .int .i64 ut) (by rw [cell_of_row _ _ _ _ _ _ hGW]; rfl)
        have x5 := cell_regrown (w := W) (a := ⟨w.heap.size, 5, none⟩) (v := .int .i64 ur) (by rw [cell_of_row _ _ _ _ _ _ hGW]; rfl)
        have x6 := cell_regrown (w := W) (a := ⟨w.heap.size, 6, none⟩) (v := .slice oA ops.length oc) (by rw [cell_of_row _ _ _ _ _ _ hGW]; rfl)
        have y0 := cell_regrown (w := W) (a := ⟨w4.heap.size, 0, none⟩) (v := .int .i64 t) (by rw [cell_of_row _ _ _ _ _ _ hHW]; rfl)
        have y1 := cell_regrown (w := W) (a := ⟨w4.heap.size, 1, none⟩) (v := .int .i64 r) (by rw [cell_of_row _ _ _ _ _ _ hHW]; rfl)
        have y2 := cell_regrown (w := W) (a := ⟨w4.heap.size, 2, none⟩) (v := .int .i64 n) (by rw [cell_of_row _ _ _ _ _ _ hHW]; rfl)
        have y3 := cell_regrown (w := W) (a := ⟨w4.heap.size, 3, none⟩) (v := .slice A v.length c) (by rw [cell_of_row _ _ _ _ _ _ hHW]; rfl)
        have y4 := cell_regrown (w := W) (a := ⟨w4.heap.size, 4, none⟩) (v := .int .i64 ut) (by rw [cell_of_row _ _ _ _ _ _ hHW]; rfl)
        have y5 := cell_regrown (w := W) (a := ⟨w4.heap.size, 5, none⟩) (v := .int .i64 ur) (by rw [cell_of_row _ _ _ _ _ _ hHW]; rfl)
        have y6 := cell_regrown (w := W) (a := ⟨w4.heap.size, 6, none⟩) (v := .slice B ops.length d) (by rw [cell_of_row _ _ _ _ _ _ hHW]; rfl)
        have cS : ∀ d1 os, Calls Tryd.prog 21 #[.agg #[.int .i64 t, .int .i64 r, .int .i64 n, .slice dA v.length dc, .int .i64 ut, .int .i64 ur, .slice oA ops.length oc], .agg #[.int .i64 t, .int .i64 r, .int .i64 n, .slice A v.length c, .int .i64 ut, .int .i64 ur, .slice B ops.length d]] (grow (redrawn W d1) os) fun e w'' => e = .returned (.bool true) ∧ ∃ p : Regrown, w'' = grow (redrawn W p.d) p.os := fun d1 os => Calls.regrown_of (HSA.out (grow (redrawn W d1) os) (below_grow hBW hBW.size d1 os) A B c d _ (hIW.agr (Agr.below (below_regrown W d1 os))))
        have HBW := Lib.hid hBW
        clear hGW hHW hBW hIW
        refine wp_plain_quiet_below ?_
        repeat (any_goals (first | go_big_quiet_step (with_reducible exact cS _ _) | quiet_step (with_reducible exact cS _ _)))
        refine wpQuiet_nil ?_
        intro _ hw'
        obtain ⟨⟨dq, osq⟩, hw''⟩ := hw'
        subst hw''
        have hBq := below_regrown W dq osq
        generalize grow (redrawn W dq) osq = wq at *
        have HBQ := Lib.hid hBq
        clear hBq
        go_wp2
        go_meet
        exact HBW.out.trans (HBQ.out.mono HBW.out.size)
  case rest =>
    have HBC := Lib.hid hcut
    clear hcut HG1 HB1 HG2 HB2 HFW HCK HEN HSA HFE HAW HFIT
    by_cases hlen : 5000 < s.size
    · go_wp2
      go_ret
      exact ⟨rfl, HBC.out⟩
    · have hs2 : s.size ≤ 1000000 := by omega
      cases hr : decZ s.data.toList with
      | none =>
        have HR := Lib.hid hr
        clear hr
        go_wp2_with fail
        refine (decode_any s wc hs2 (HTB.out.below HBC.out)).mono ?_
        rintro e w4 hq
        obtain ⟨hB4, rfl⟩ := DecQ.none HR.out hq
        have HB4 := Lib.hid (HBC.out.trans (hB4.mono HBC.out.size))
        clear hB4 hq
        go_upto_region 14 with fail
        generalize hW : w4.alloc (.cells #[.int .i64 0, .int .i64 0, .int .i64 0, .slice none 0 0, .int .i64 0, .int .i64 0, .slice none 0 0] 34) = W
        have hHW : W.heap[w4.heap.size]? = some (.cells #[.int .i64 0, .int .i64 0, .int .i64 0, .slice none 0 0, .int .i64 0, .int .i64 0, .slice none 0 0] 34 (0, 0)) := by rw [← hW]; exact heap_alloc_new _ _
        have hBW : Below w.heap.size w W := by rw [← hW]; exact HB4.out.alloc HB4.out.size _
        clear hW
        have y0 := cell_regrown (w := W) (a := ⟨w4.heap.size, 0, none⟩) (v := .int .i64 0) (by rw [cell_of_row _ _ _ _ _ _ hHW]; rfl)
        have y1 := cell_regrown (w := W) (a := ⟨w4.heap.size, 1, none⟩) (v := .int .i64 0) (by rw [cell_of_row _ _ _ _ _ _ hHW]; rfl)
        have y2 := cell_regrown (w := W) (a := ⟨w4.heap.size, 2, none⟩) (v := .int .i64 0) (by rw [cell_of_row _ _ _ _ _ _ hHW]; rfl)
        have y3 := cell_regrown (w := W) (a := ⟨w4.heap.size, 3, none⟩) (v := .slice none 0 0) (by rw [cell_of_row _ _ _ _ _ _ hHW]; rfl)
        have y4 := cell_regrown (w := W) (a := ⟨w4.heap.size, 4, none⟩) (v := .int .i64 0) (by rw [cell_of_row _ _ _ _ _ _ hHW]; rfl)
        have y5 := cell_regrown (w := W) (a := ⟨w4.heap.size, 5, none⟩) (v := .int .i64 0) (by rw [cell_of_row _ _ _ _ _ _ hHW]; rfl)
        have y6 := cell_regrown (w := W) (a := ⟨w4.heap.size, 6, none⟩) (v := .slice none 0 0) (by rw [cell_of_row _ _ _ _ _ _ hHW]; rfl)
        have cS := fun d1 os => Calls.regrown_of (same_gz (grow (redrawn W d1) os))
        have HBW := Lib.hid hBW
        clear hHW hBW
        refine wp_plain_quiet_below ?_
        repeat (any_goals (first | go_big_quiet_step (with_reducible exact cS _ _) | quiet_step (with_reducible exact cS _ _)))
        refine wpQuiet_nil ?_
        intro _ hw'
        obtain ⟨⟨dq, osq⟩, hw''⟩ := hw'
        subst hw''
        have hBq := below_regrown W dq osq
        generalize grow (redrawn W dq) osq = wq at *
        have HBQ := Lib.hid hBq
        clear hBq
        go_wp2
        go_ret
        exact ⟨rfl, HBW.out.trans (HBQ.out.mono HBW.out.size)⟩
      | some x =>
        have HR := Lib.hid hr
        clear hr
        obtain ⟨hx1, hx2, hx3⟩ := enc_dec HR.out
        have HX2 := Lib.hid hx2
        have HSZ := Lib.hid (show (⟨(grpZ x).toArray⟩ : ByteArray) = s by rw [← hx1])
        clear hx1 hx2 hx3
        go_wp2_with fail
        refine (decode_any s wc hs2 (HTB.out.below HBC.out)).mono ?_
        rintro e w4 hq
        obtain ⟨hB4, A, c, B, d, he, hI4, hT4⟩ := DecQ.some HR.out hq
        have hEX : ∀ W, Below w4.heap.size w4 W → Calls Tryd.prog 19 #[.agg (grA x A c B d)] W fun e w' => e = .returned (.tuple #[.string s, .int .i64 0]) ∧ Below W.heap.size W w' := fun W hB => by
          have := encode_any x A c B d _ W (hI4.agr (Agr.below hB)) (fun o ho => by have := (hT4 o ho).1; omega) (fun _ o ho => (hT4 o ho).1) ((HTB.out.below (HBC.out.trans (hB4.mono HBC.out.size))).below hB)
          rw [encV_ok HX2.out, HSZ.out] at this
          exact this
        have hCX : ∀ W, Below w4.heap.size w4 W → Calls Tryd.prog 22 #[.agg (grA x A c B d)] W fun e w' => e = .returned (.int .i64 0) ∧ Below W.heap.size W w' := fun W hB => by
          have := check_any x A c B d _ W (hI4.agr (Agr.below hB)) (fun o ho => by have := (hT4 o ho).1; omega) ((HTB.out.below (HBC.out.trans (hB4.mono HBC.out.size))).below hB)
          rw [HX2.out] at this
          exact this
        have HB4 := Lib.hid (HBC.out.trans (hB4.mono HBC.out.size))
        clear hI4 hT4 hB4 hq HR HX2 HSZ
        obtain ⟨⟨xt, xr⟩, xn, xv, ⟨xut, xur⟩, xops⟩ := x
        have HEX : Hid (∀ W, Below w4.heap.size w4 W → Calls Tryd.prog 19 #[.agg #[.int .i64 xt, .int .i64 xr, .int .i64 xn, .slice A xv.length c, .int .i64 xut, .int .i64 xur, .slice B xops.length d]] W fun e w' => e = .returned (.tuple #[.string s, .int .i64 0]) ∧ Below W.heap.size W w') := Lib.hid hEX
        have HCX : Hid (∀ W, Below w4.heap.size w4 W → Calls Tryd.prog 22 #[.agg #[.int .i64 xt, .int .i64 xr, .int .i64 xn, .slice A xv.length c, .int .i64 xut, .int .i64 xur, .slice B xops.length d]] W fun e w' => e = .returned (.int .i64 0) ∧ Below W.heap.size W w') := Lib.hid hCX
        obtain rfl : e = .returned (.tuple #[.agg #[.int .i64 xt, .int .i64 xr, .int .i64 xn, .slice A xv.length c, .int .i64 xut, .int .i64 xur, .slice B xops.length d], .int .i64 0]) := he
        clear hEX hCX
        go_upto_region 16 with (first | (refine load_last rfl _ _ rfl _ _ _ _ rfl ?_ Tryd.underlying34 rfl ?_ ?_; (focus (simp; done)); kernel_rfl) | (go_at_call 19; refine (HEX.out _ ((Below.refl _ _).alloc (Nat.le_refl _) _)).mono ?_; rintro e w5 ⟨rfl, hB5⟩))
        have hHW := (hB5.block w4.heap.size (by simp)).trans (heap_alloc_new w4 (.cells #[.int .i64 xt, .int .i64 xr, .int .i64 xn, .slice A xv.length c, .int .i64 xut, .int .i64 xur, .slice B xops.length d] 34))
        have hB45 : Below w4.heap.size w4 w5 := ((Below.refl _ _).alloc (Nat.le_refl _) _).trans (hB5.mono (by simp))
        have HBW := Lib.hid (HB4.out.trans (hB45.mono HB4.out.size))
        clear hB5
        have y0 := cell_regrown (w := w5) (a := ⟨w4.heap.size, 0, none⟩) (v := .int .i64 xt) (by rw [cell_of_row _ _ _ _ _ _ hHW]; rfl)
        have y1 := cell_regrown (w := w5) (a := ⟨w4.heap.size, 1, none⟩) (v := .int .i64 xr) (by rw [cell_of_row _ _ _ _ _ _ hHW]; rfl)
        have y2 := cell_regrown (w := w5) (a := ⟨w4.heap.size, 2, none⟩) (v := .int .i64 xn) (by rw [cell_of_row _ _ _ _ _ _ hHW]; rfl)
        have y3 := cell_regrown (w := w5) (a := ⟨w4.heap.size, 3, none⟩) (v := .slice A xv.length c) (by rw [cell_of_row _ _ _ _ _ _ hHW]; rfl)
        have y4 := cell_regrown (w := w5) (a := ⟨w4.heap.size, 4, none⟩) (v := .int .i64 xut) (by rw [cell_of_row _ _ _ _ _ _ hHW]; rfl)
        have y5 := cell_regrown (w := w5) (a := ⟨w4.heap.size, 5, none⟩) (v := .int .i64 xur) (by rw [cell_of_row _ _ _ _ _ _ hHW]; rfl)
        have y6 := cell_regrown (w := w5) (a := ⟨w4.heap.size, 6, none⟩) (v := .slice B xops.length d) (by rw [cell_of_row _ _ _ _ _ _ hHW]; rfl)
        have cK : ∀ d1 os, Calls Tryd.prog 22 #[.agg #[.int .i64 xt, .int .i64 xr, .int .i64 xn, .slice A xv.length c, .int .i64 xut, .int .i64 xur, .slice B xops.length d]] (grow (redrawn w5 d1) os) fun e w'' => e = .returned (.int .i64 0) ∧ ∃ p : Regrown, w'' = grow (redrawn w5 p.d) p.os := fun d1 os => Calls.regrown_of (HCX.out (grow (redrawn w5 d1) os) (below_grow hB45 hB45.size d1 os))
        clear hHW hB45
        refine wp_plain_quiet_below ?_
        repeat (any_goals (first | go_big_quiet_step (with_reducible exact cK _ _) | quiet_step (with_reducible exact cK _ _)))
        refine wpQuiet_nil ?_
        intro _ hw'
        obtain ⟨⟨dq, osq⟩, hw''⟩ := hw'
        subst hw''
        have hBq := below_regrown w5 dq osq
        generalize grow (redrawn w5 dq) osq = wq at *
        have HBQ := Lib.hid hBq
        clear hBq
        go_wp2
        go_ret
        exact ⟨rfl, HBW.out.trans (HBQ.out.mono HBW.out.size)⟩
end Go.Proofs.YtooaodgamakoeaaDoor
