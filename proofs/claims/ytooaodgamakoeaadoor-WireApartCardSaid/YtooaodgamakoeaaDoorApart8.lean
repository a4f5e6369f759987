/- WireApart: unlike groups have unlike bytes; no beginning of a group's bytes is a group's. Conditions: lengths in reach; the tables of utf8. -/
import Derived.Test.YtooaodgamakoeaaDoorBack8
import Derived.Test.YtooaodgamakoeaaDoorSameOp
namespace Go.Proofs.YtooaodgamakoeaaDoor
open Go.RowKit Go.Lib Go.Sort
set_option linter.unusedVariables false
attribute [local go_sem ↓] Go.wp_at_zero Go.wp_at_succ
theorem and_low8 (n : Int) (M : Nat) (hM : M < 4611686018427387904) : ∃ m : Nat, bits .and .i64 n (M : Int) = (m : Int) ∧ m ≤ M := by
  have hle : (BitVec.ofInt 64 n &&& BitVec.ofInt 64 (M : Int)).toNat ≤ M := by
    rw [BitVec.toNat_and, ofInt_63 M (by omega)]
    exact Nat.and_le_right
  refine ⟨(BitVec.ofInt 64 n &&& BitVec.ofInt 64 (M : Int)).toNat, ?_, hle⟩
  show IntKind.i64.wrap ((BitVec.ofInt 64 n &&& BitVec.ofInt 64 (M : Int)).toNat : Int) = _
  rw [IntKind.wrap_i64]
  omega
theorem take_pre8 (s : ByteArray) (k : Nat) : (s.extract 0 k).data.toList = s.data.toList.take k := by
  rw [ByteArray.data_extract, Array.toList_extract, List.extract_eq_take_drop, List.drop_zero, Nat.sub_zero]
theorem uv_pos (n : Nat) : 0 < (uvarint n).length := by
  unfold uvarint; split <;> simp
theorem grpZ_pos {g : Grp} (h : chkB g = true) : 0 < (grpZ g).length := by
  have h1 := (chk_right h).1
  simp only [Gst.right, Bool.and_eq_true, decide_eq_true_eq] at h1
  have h2 := uv_pos g.s.t.toNat
  unfold grpZ
  rw [natZ_of (by omega)]
  simp only [List.length_append]
  omega
set_option maxRecDepth 100000 in
set_option maxHeartbeats 16000000 in
theorem apart_any (g : Grp) (dA oA : Option Addr) (dc oc : Nat) (h : Grp) (dA2 oA2 : Option Addr) (dc2 oc2 : Nat) (cut : Int) (w : World) (hI : GrIn w (Here w) g dA dc oA oc) (hT1 : ∀ o ∈ g.ops, o.text.size < 9223372036854775807) (hJ : GrIn w (Here w) h dA2 dc2 oA2 oc2) (hT2 : ∀ o ∈ h.ops, o.text.size < 9223372036854775807) (wc : (Lit.int .i64 cut).wf = true) (hTb : Tabs w) :
    Calls Tryd.prog 6 #[.agg (grA g dA dc oA oc), .agg (grA h dA2 dc2 oA2 oc2), .int .i64 cut] w fun e w' => e = .returned (.bool true) ∧ Below w.heap.size w w' := by
  have HFIT := Lib.hid (fit_of hI)
  have HFIT2 := Lib.hid (fit_of hJ)
  obtain ⟨fg, hfg⟩ : ∃ b, b = fewG g := ⟨_, rfl⟩
  obtain ⟨cg, hcg⟩ : ∃ b, b = chkB g := ⟨_, rfl⟩
  obtain ⟨fh, hfh⟩ : ∃ b, b = fewG h := ⟨_, rfl⟩
  obtain ⟨ch, hch⟩ : ∃ b, b = chkB h := ⟨_, rfl⟩
  have HFG := Lib.hid hfg
  have HCG := Lib.hid hcg
  have HFH := Lib.hid hfh
  have HCH := Lib.hid hch
  have HTB := Lib.hid hTb
  have hAW : ∀ W, Below w.heap.size w W → Calls Tryd.prog 17 #[] W fun e w' => e = .returned (.bool true) ∧ Below W.heap.size W w' := fun W hB => awake8_any W (hTb.below hB)
  have hF1 : ∀ W, Below w.heap.size w W → Calls Tryd.prog 18 #[.agg (grA g dA dc oA oc)] W fun e w' => e = .returned (.bool fg) ∧ Below W.heap.size W w' := fun W hB => by
    rw [hfg]; exact few_any g dA oA dc oc (Here w) W (hI.agr (Agr.below hB))
  have hF2 : ∀ W, Below w.heap.size w W → Calls Tryd.prog 18 #[.agg (grA h dA2 dc2 oA2 oc2)] W fun e w' => e = .returned (.bool fh) ∧ Below W.heap.size W w' := fun W hB => by
    rw [hfh]; exact few_any h dA2 oA2 dc2 oc2 (Here w) W (hJ.agr (Agr.below hB))
  have hE1 : fg = true → ∀ W, Below w.heap.size w W → Calls Tryd.prog 19 #[.agg (grA g dA dc oA oc)] W fun e w' => e = .returned (encV g) ∧ Below W.heap.size W w' := fun h1 W hB =>
    encode_any g dA dc oA oc (Here w) W (hI.agr (Agr.below hB)) hT1 (few_text (by rw [← hfg]; exact h1)) (hTb.below hB)
  have hE2 : fh = true → ∀ W, Below w.heap.size w W → Calls Tryd.prog 19 #[.agg (grA h dA2 dc2 oA2 oc2)] W fun e w' => e = .returned (encV h) ∧ Below W.heap.size W w' := fun h1 W hB =>
    encode_any h dA2 dc2 oA2 oc2 (Here w) W (hJ.agr (Agr.below hB)) hT2 (few_text (by rw [← hfh]; exact h1)) (hTb.below hB)
  have hSA : ∀ W, Below w.heap.size w W → Calls Tryd.prog 21 #[.agg (grA g dA dc oA oc), .agg (grA h dA2 dc2 oA2 oc2)] W fun e w' => e = .returned (.bool (sameG g h)) ∧ Below W.heap.size W w' := fun W hB =>
    sameg_any g h dA dA2 oA oA2 dc dc2 oc oc2 (Here w) (Here w) W (hI.agr (Agr.below hB)) (hJ.agr (Agr.below hB))
  have hinj : cg = true → ch = true → grpZ g = grpZ h → g = h := fun a b e => enc_inj (fit_of hI) (fit_of hJ) (by rw [← hcg, a]) (by rw [← hch, b]) e
  have HINJ := Lib.hid hinj
  obtain ⟨m1, e1, l1⟩ := and_low8 cut 65535 (by decide)
  replace e1 : bits .and .i64 cut 65535 = (m1 : Int) := e1
  obtain ⟨⟨t, r⟩, n, v, ⟨ut, ur⟩, ops⟩ := g
  obtain ⟨⟨t2, r2⟩, n2, v2, ⟨ut2, ur2⟩, ops2⟩ := h
  show Calls _ _ #[.agg #[.int .i64 t, .int .i64 r, .int .i64 n, .slice dA v.length dc, .int .i64 ut, .int .i64 ur, .slice oA ops.length oc], .agg #[.int .i64 t2, .int .i64 r2, .int .i64 n2, .slice dA2 v2.length dc2, .int .i64 ut2, .int .i64 ur2, .slice oA2 ops2.length oc2], .int .i64 cut] _ _
  have HAW := Lib.hid hAW
  have HE1 := Lib.hid hE1
  have HE2 := Lib.hid hE2
  have HF1 : Hid (∀ W, Below w.heap.size w W → Calls Tryd.prog 18 #[.agg #[.int .i64 t, .int .i64 r, .int .i64 n, .slice dA v.length dc, .int .i64 ut, .int .i64 ur, .slice oA ops.length oc]] W fun e w' => e = .returned (.bool fg) ∧ Below W.heap.size W w') := Lib.hid (hF1)
  have HF2 : Hid (∀ W, Below w.heap.size w W → Calls Tryd.prog 18 #[.agg #[.int .i64 t2, .int .i64 r2, .int .i64 n2, .slice dA2 v2.length dc2, .int .i64 ut2, .int .i64 ur2, .slice oA2 ops2.length oc2]] W fun e w' => e = .returned (.bool fh) ∧ Below W.heap.size W w') := Lib.hid (hF2)
  have HSA : Hid (∀ W, Below w.heap.size w W → Calls Tryd.prog 21 #[.agg #[.int .i64 t, .int .i64 r, .int .i64 n, .slice dA v.length dc, .int .i64 ut, .int .i64 ur, .slice oA ops.length oc], .agg #[.int .i64 t2, .int .i64 r2, .int .i64 n2, .slice dA2 v2.length dc2, .int .i64 ut2, .int .i64 ur2, .slice oA2 ops2.length oc2]] W fun e w' => e = .returned (.bool (sameG (⟨⟨t, r⟩, n, v, ⟨ut, ur⟩, ops⟩ : Grp) (⟨⟨t2, r2⟩, n2, v2, ⟨ut2, ur2⟩, ops2⟩ : Grp))) ∧ Below W.heap.size W w') := Lib.hid (hSA)
  clear hfg hcg hfh hch hTb hAW hF1 hF2 hE1 hE2 hSA hinj hI hJ hT1 hT2 wc
  have HB0 := Lib.hid (show Below w.heap.size w ((w.alloc (.cells #[.int .i64 t, .int .i64 r, .int .i64 n, .slice dA v.length dc, .int .i64 ut, .int .i64 ur, .slice oA ops.length oc] 34)).alloc (.cells #[.int .i64 t2, .int .i64 r2, .int .i64 n2, .slice dA2 v2.length dc2, .int .i64 ut2, .int .i64 ur2, .slice oA2 ops2.length oc2] 34)) from ((Below.refl _ _).alloc (Nat.le_refl _) _).alloc (by simp) _)
  have HG0 := Lib.hid ((Below.heap_alloc (w.alloc (.cells #[.int .i64 t, .int .i64 r, .int .i64 n, .slice dA v.length dc, .int .i64 ut, .int .i64 ur, .slice oA ops.length oc] 34)) (.cells #[.int .i64 t2, .int .i64 r2, .int .i64 n2, .slice dA2 v2.length dc2, .int .i64 ut2, .int .i64 ur2, .slice oA2 ops2.length oc2] 34) w.heap.size (by simp)).trans (heap_alloc_new w (.cells #[.int .i64 t, .int .i64 r, .int .i64 n, .slice dA v.length dc, .int .i64 ut, .int .i64 ur, .slice oA ops.length oc] 34)))
  have HH0 := Lib.hid (heap_alloc_newC (n := w.heap.size + 1) (w.alloc (.cells #[.int .i64 t, .int .i64 r, .int .i64 n, .slice dA v.length dc, .int .i64 ut, .int .i64 ur, .slice oA ops.length oc] 34)) (.cells #[.int .i64 t2, .int .i64 r2, .int .i64 n2, .slice dA2 v2.length dc2, .int .i64 ut2, .int .i64 ur2, .slice oA2 ops2.length oc2] 34) (by simp))
  go_enter Tryd.func6, Tryd.ntmps6
  go_wp2_with fail
  refine (HAW.out _ HB0.out).mono ?_
  rintro e w1 ⟨rfl, hB1⟩
  have hG1 := (hB1.block w.heap.size (by simp; omega)).trans HG0.out
  have hH1 := (hB1.block (w.heap.size + 1) (by simp)).trans HH0.out
  have HG1 := Lib.hid hG1
  have HH1 := Lib.hid hH1
  have hW1 : Below w.heap.size w w1 := HB0.out.trans (hB1.mono (by simp; omega))
  have HB1 := Lib.hid hW1
  clear hB1
  go_upto_region 4 with fail
  have x0 := cell_regrown (w := w1) (a := ⟨w.heap.size, 0, none⟩) (v := .int .i64 t) (by rw [cell_of_row _ _ _ _ _ _ hG1]; rfl)
  have x1 := cell_regrown (w := w1) (a := ⟨w.heap.size, 1, none⟩) (v := .int .i64 r) (by rw [cell_of_row _ _ _ _ _ _ hG1]; rfl)
  have x2 := cell_regrown (w := w1) (a := ⟨w.heap.size, 2, none⟩) (v := .int .i64 n) (by rw [cell_of_row _ _ _ _ _ _ hG1]; rfl)
  have x3 := cell_regrown (w := w1) (a := ⟨w.heap.size, 3, none⟩) (v := .slice dA v.length dc) (by rw [cell_of_row _ _ _ _ _ _ hG1]; rfl)
  have x4 := cell_regrown (w := w1) (a := ⟨w.heap.size, 4, none⟩) (v := .int .i64 ut) (by rw [cell_of_row _ _ _ _ _ _ hG1]; rfl)
  have x5 := cell_regrown (w := w1) (a := ⟨w.heap.size, 5, none⟩) (v := .int .i64 ur) (by rw [cell_of_row _ _ _ _ _ _ hG1]; rfl)
  have x6 := cell_regrown (w := w1) (a := ⟨w.heap.size, 6, none⟩) (v := .slice oA ops.length oc) (by rw [cell_of_row _ _ _ _ _ _ hG1]; rfl)
  have y0 := cell_regrown (w := w1) (a := ⟨(w.heap.size + 1), 0, none⟩) (v := .int .i64 t2) (by rw [cell_of_row _ _ _ _ _ _ hH1]; rfl)
  have y1 := cell_regrown (w := w1) (a := ⟨(w.heap.size + 1), 1, none⟩) (v := .int .i64 r2) (by rw [cell_of_row _ _ _ _ _ _ hH1]; rfl)
  have y2 := cell_regrown (w := w1) (a := ⟨(w.heap.size + 1), 2, none⟩) (v := .int .i64 n2) (by rw [cell_of_row _ _ _ _ _ _ hH1]; rfl)
  have y3 := cell_regrown (w := w1) (a := ⟨(w.heap.size + 1), 3, none⟩) (v := .slice dA2 v2.length dc2) (by rw [cell_of_row _ _ _ _ _ _ hH1]; rfl)
  have y4 := cell_regrown (w := w1) (a := ⟨(w.heap.size + 1), 4, none⟩) (v := .int .i64 ut2) (by rw [cell_of_row _ _ _ _ _ _ hH1]; rfl)
  have y5 := cell_regrown (w := w1) (a := ⟨(w.heap.size + 1), 5, none⟩) (v := .int .i64 ur2) (by rw [cell_of_row _ _ _ _ _ _ hH1]; rfl)
  have y6 := cell_regrown (w := w1) (a := ⟨(w.heap.size + 1), 6, none⟩) (v := .slice oA2 ops2.length oc2) (by rw [cell_of_row _ _ _ _ _ _ hH1]; rfl)
  have cF : ∀ d1 os, Calls Tryd.prog 18 #[.agg #[.int .i64 t, .int .i64 r, .int .i64 n, .slice dA v.length dc, .int .i64 ut, .int .i64 ur, .slice oA ops.length oc]] (grow (redrawn w1 d1) os) fun e w'' => e = .returned (.bool fg) ∧ ∃ p : Regrown, w'' = grow (redrawn w1 p.d) p.os := fun d1 os => Calls.regrown_of (HF1.out (grow (redrawn w1 d1) os) (below_grow HB1.out HB1.out.size d1 os))
  have cH : ∀ d1 os, Calls Tryd.prog 18 #[.agg #[.int .i64 t2, .int .i64 r2, .int .i64 n2, .slice dA2 v2.length dc2, .int .i64 ut2, .int .i64 ur2, .slice oA2 ops2.length oc2]] (grow (redrawn w1 d1) os) fun e w'' => e = .returned (.bool fh) ∧ ∃ p : Regrown, w'' = grow (redrawn w1 p.d) p.os := fun d1 os => Calls.regrown_of (HF2.out (grow (redrawn w1 d1) os) (below_grow HB1.out HB1.out.size d1 os))
  clear hG1 hH1 hW1
  cases fg with
  | false =>
    refine wp_plain_quiet_below ?_
    repeat (any_goals (first | go_big_quiet_step (first | with_reducible exact cF _ _) | quiet_step (first | with_reducible exact cF _ _)))
    refine wpQuiet_nil ?_
    intro _ hw'
    obtain ⟨⟨dq, osq⟩, hw''⟩ := hw'
    subst hw''
    have hBq := below_regrown w1 dq osq
    generalize grow (redrawn w1 dq) osq = wq at *
    have HBQ := Lib.hid hBq
    clear hBq
    go_wp2
    go_ret
    exact ⟨rfl, HB1.out.trans (HBQ.out.mono HB1.out.size)⟩
  | true =>
  cases fh with
  | false =>
    refine wp_plain_quiet_below ?_
    repeat (any_goals (first | go_big_quiet_step (first | with_reducible exact cF _ _ | with_reducible exact cH _ _) | quiet_step (first | with_reducible exact cF _ _ | with_reducible exact cH _ _)))
    refine wpQuiet_nil ?_
    intro _ hw'
    obtain ⟨⟨dq, osq⟩, hw''⟩ := hw'
    subst hw''
    have hBq := below_regrown w1 dq osq
    generalize grow (redrawn w1 dq) osq = wq at *
    have HBQ := Lib.hid hBq
    clear hBq
    go_wp2
    go_ret
    exact ⟨rfl, HB1.out.trans (HBQ.out.mono HB1.out.size)⟩
  | true =>
  refine wp_plain_quiet_below ?_
  repeat (any_goals (first | go_big_quiet_step (first | with_reducible exact cF _ _ | with_reducible exact cH _ _) | quiet_step (first | with_reducible exact cF _ _ | with_reducible exact cH _ _)))
  refine wpQuiet_nil ?_
  intro _ hw'
  obtain ⟨⟨dq, osq⟩, hw''⟩ := hw'
  subst hw''
  have hBq := below_regrown w1 dq osq
  generalize grow (redrawn w1 dq) osq = wq at *
  have HG2 := Lib.hid ((hBq.block w.heap.size (lt_of_block HG1.out)).trans HG1.out)
  have HH2 := Lib.hid ((hBq.block (w.heap.size + 1) (lt_of_block HH1.out)).trans HH1.out)
  have HB2 := Lib.hid (HB1.out.trans (hBq.mono HB1.out.size))
  clear hBq cF cH x0 x1 x2 x3 x4 x5 x6 y0 y1 y2 y3 y4 y5 y6
  cases cg with
  | false =>
    cases ch with
    | false =>
      have HV1 : Hid (encV (⟨⟨t, r⟩, n, v, ⟨ut, ur⟩, ops⟩ : Grp) = .tuple #[.string ⟨#[]⟩, .int .i64 80]) := Lib.hid (by exact encV_no HCG.out.symm)
      have HV2 : Hid (encV (⟨⟨t2, r2⟩, n2, v2, ⟨ut2, ur2⟩, ops2⟩ : Grp) = .tuple #[.string ⟨#[]⟩, .int .i64 80]) := Lib.hid (by exact encV_no HCH.out.symm)
      have HX1 : Hid (∀ W, Below w.heap.size w W → Calls Tryd.prog 19 #[.agg #[.int .i64 t, .int .i64 r, .int .i64 n, .slice dA v.length dc, .int .i64 ut, .int .i64 ur, .slice oA ops.length oc]] W fun e w' => e = .returned (.tuple #[.string ⟨#[]⟩, .int .i64 80]) ∧ Below W.heap.size W w') := Lib.hid (by have := HE1.out rfl; rw [HV1.out] at this; exact this)
      have HX2 : Hid (∀ W, Below w.heap.size w W → Calls Tryd.prog 19 #[.agg #[.int .i64 t2, .int .i64 r2, .int .i64 n2, .slice dA2 v2.length dc2, .int .i64 ut2, .int .i64 ur2, .slice oA2 ops2.length oc2]] W fun e w' => e = .returned (.tuple #[.string ⟨#[]⟩, .int .i64 80]) ∧ Below W.heap.size W w') := Lib.hid (by have := HE2.out rfl; rw [HV2.out] at this; exact this)
      clear HE1 HE2
      go_upto_region 7 with (first | (refine load_at rfl _ _ rfl w.heap.size _ _ _ rfl HG2.out Tryd.underlying34 rfl ?_ ?_; kernel_rfl) | (go_at_call 19; refine (HX1.out _ HB2.out).mono ?_; rintro e w3 ⟨rfl, hB3⟩))
      have HG3 := Lib.hid ((hB3.block w.heap.size (lt_of_block HG2.out)).trans HG2.out)
      have HH3 := Lib.hid ((hB3.block (w.heap.size + 1) (lt_of_block HH2.out)).trans HH2.out)
      have HB3 := Lib.hid (HB2.out.trans (hB3.mono HB2.out.size))
      clear hB3
      go_upto_region 8 with (first | (refine load_at rfl _ _ rfl (w.heap.size + 1) _ _ _ rfl HH3.out Tryd.underlying34 rfl ?_ ?_; kernel_rfl) | (go_at_call 19; refine (HX2.out _ HB3.out).mono ?_; rintro e w4 ⟨rfl, hB4⟩))
      have hG4 := (hB4.block w.heap.size (lt_of_block HG3.out)).trans HG3.out
      have hH4 := (hB4.block (w.heap.size + 1) (lt_of_block HH3.out)).trans HH3.out
      have HB4 := Lib.hid (HB3.out.trans (hB4.mono HB3.out.size))
      clear hB4 HX1 HX2 HV1 HV2
      refine wp_plain_quiet_below ?_
      repeat (any_goals (first | go_big_quiet_step (fail) | quiet_step (fail)))
      refine wpQuiet_nil ?_
      intro _ hw'
      obtain ⟨⟨dq, osq⟩, hw''⟩ := hw'
      subst hw''
      have hBq := below_regrown w4 dq osq
      generalize grow (redrawn w4 dq) osq = wq at *
      have HB5 := Lib.hid (HB4.out.trans (hBq.mono HB4.out.size))
      clear hBq
      go_wp2
      go_ret
      exact ⟨rfl, HB5.out⟩
    | true =>
      obtain ⟨Z2, hZ2⟩ : ∃ Z : ByteArray, Z = ⟨(grpZ (⟨⟨t2, r2⟩, n2, v2, ⟨ut2, ur2⟩, ops2⟩ : Grp)).toArray⟩ := ⟨_, rfl⟩
      have HV1 : Hid (encV (⟨⟨t, r⟩, n, v, ⟨ut, ur⟩, ops⟩ : Grp) = .tuple #[.string ⟨#[]⟩, .int .i64 80]) := Lib.hid (by exact encV_no HCG.out.symm)
      have HV2 : Hid (encV (⟨⟨t2, r2⟩, n2, v2, ⟨ut2, ur2⟩, ops2⟩ : Grp) = .tuple #[.string Z2, .int .i64 0]) := Lib.hid (by rw [hZ2]; exact encV_ok HCH.out.symm)
      have HX1 : Hid (∀ W, Below w.heap.size w W → Calls Tryd.prog 19 #[.agg #[.int .i64 t, .int .i64 r, .int .i64 n, .slice dA v.length dc, .int .i64 ut, .int .i64 ur, .slice oA ops.length oc]] W fun e w' => e = .returned (.tuple #[.string ⟨#[]⟩, .int .i64 80]) ∧ Below W.heap.size W w') := Lib.hid (by have := HE1.out rfl; rw [HV1.out] at this; exact this)
      have HX2 : Hid (∀ W, Below w.heap.size w W → Calls Tryd.prog 19 #[.agg #[.int .i64 t2, .int .i64 r2, .int .i64 n2, .slice dA2 v2.length dc2, .int .i64 ut2, .int .i64 ur2, .slice oA2 ops2.length oc2]] W fun e w' => e = .returned (.tuple #[.string Z2, .int .i64 0]) ∧ Below W.heap.size W w') := Lib.hid (by have := HE2.out rfl; rw [HV2.out] at this; exact this)
      have HL2 := Lib.hid (show Z2.data.toList = grpZ (⟨⟨t2, r2⟩, n2, v2, ⟨ut2, ur2⟩, ops2⟩ : Grp) by rw [hZ2])
      clear HE1 HE2 hZ2
      go_upto_region 7 with (first | (refine load_at rfl _ _ rfl w.heap.size _ _ _ rfl HG2.out Tryd.underlying34 rfl ?_ ?_; kernel_rfl) | (go_at_call 19; refine (HX1.out _ HB2.out).mono ?_; rintro e w3 ⟨rfl, hB3⟩))
      have HG3 := Lib.hid ((hB3.block w.heap.size (lt_of_block HG2.out)).trans HG2.out)
      have HH3 := Lib.hid ((hB3.block (w.heap.size + 1) (lt_of_block HH2.out)).trans HH2.out)
      have HB3 := Lib.hid (HB2.out.trans (hB3.mono HB2.out.size))
      clear hB3
      go_upto_region 8 with (first | (refine load_at rfl _ _ rfl (w.heap.size + 1) _ _ _ rfl HH3.out Tryd.underlying34 rfl ?_ ?_; kernel_rfl) | (go_at_call 19; refine (HX2.out _ HB3.out).mono ?_; rintro e w4 ⟨rfl, hB4⟩))
      have hG4 := (hB4.block w.heap.size (lt_of_block HG3.out)).trans HG3.out
      have hH4 := (hB4.block (w.heap.size + 1) (lt_of_block HH3.out)).trans HH3.out
      have HB4 := Lib.hid (HB3.out.trans (hB4.mono HB3.out.size))
      clear hB4 HX1 HX2 HV1 HV2
      refine wp_plain_quiet_below ?_
      repeat (any_goals (first | go_big_quiet_step (fail) | quiet_step (fail)))
      refine wpQuiet_nil ?_
      intro _ hw'
      obtain ⟨⟨dq, osq⟩, hw''⟩ := hw'
      subst hw''
      have hBq := below_regrown w4 dq osq
      generalize grow (redrawn w4 dq) osq = wq at *
      have HB5 := Lib.hid (HB4.out.trans (hBq.mono HB4.out.size))
      clear hBq
      go_wp2
      go_ret
      exact ⟨rfl, HB5.out⟩
  | true =>
    cases ch with
    | false =>
      obtain ⟨Z1, hZ1⟩ : ∃ Z : ByteArray, Z = ⟨(grpZ (⟨⟨t, r⟩, n, v, ⟨ut, ur⟩, ops⟩ : Grp)).toArray⟩ := ⟨_, rfl⟩
      have HV1 : Hid (encV (⟨⟨t, r⟩, n, v, ⟨ut, ur⟩, ops⟩ : Grp) = .tuple #[.string Z1, .int .i64 0]) := Lib.hid (by rw [hZ1]; exact encV_ok HCG.out.symm)
      have HV2 : Hid (encV (⟨⟨t2, r2⟩, n2, v2, ⟨ut2, ur2⟩, ops2⟩ : Grp) = .tuple #[.string ⟨#[]⟩, .int .i64 80]) := Lib.hid (by exact encV_no HCH.out.symm)
      have HX1 : Hid (∀ W, Below w.heap.size w W → Calls Tryd.prog 19 #[.agg #[.int .i64 t, .int .i64 r, .int .i64 n, .slice dA v.length dc, .int .i64 ut, .int .i64 ur, .slice oA ops.length oc]] W fun e w' => e = .returned (.tuple #[.string Z1, .int .i64 0]) ∧ Below W.heap.size W w') := Lib.hid (by have := HE1.out rfl; rw [HV1.out] at this; exact this)
      have HX2 : Hid (∀ W, Below w.heap.size w W → Calls Tryd.prog 19 #[.agg #[.int .i64 t2, .int .i64 r2, .int .i64 n2, .slice dA2 v2.length dc2, .int .i64 ut2, .int .i64 ur2, .slice oA2 ops2.length oc2]] W fun e w' => e = .returned (.tuple #[.string ⟨#[]⟩, .int .i64 80]) ∧ Below W.heap.size W w') := Lib.hid (by have := HE2.out rfl; rw [HV2.out] at this; exact this)
      have HL1 := Lib.hid (show Z1.data.toList = grpZ (⟨⟨t, r⟩, n, v, ⟨ut, ur⟩, ops⟩ : Grp) by rw [hZ1])
      have z1 : Z1.size ≤ 1000000 ∧ 0 < Z1.size := by
        have h1 := grpZ_few HFIT.out HFG.out.symm HCG.out.symm
        have h3 := grpZ_pos HCG.out.symm
        rw [← HL1.out] at h1 h3
        have h2 : Z1.data.toList.length = Z1.size := by simp
        omega
      obtain ⟨z1, z2⟩ := z1
      clear HE1 HE2 hZ1
      go_upto_region 7 with (first | (refine load_at rfl _ _ rfl w.heap.size _ _ _ rfl HG2.out Tryd.underlying34 rfl ?_ ?_; kernel_rfl) | (go_at_call 19; refine (HX1.out _ HB2.out).mono ?_; rintro e w3 ⟨rfl, hB3⟩))
      have HG3 := Lib.hid ((hB3.block w.heap.size (lt_of_block HG2.out)).trans HG2.out)
      have HH3 := Lib.hid ((hB3.block (w.heap.size + 1) (lt_of_block HH2.out)).trans HH2.out)
      have HB3 := Lib.hid (HB2.out.trans (hB3.mono HB2.out.size))
      clear hB3
      go_upto_region 8 with (first | (refine load_at rfl _ _ rfl (w.heap.size + 1) _ _ _ rfl HH3.out Tryd.underlying34 rfl ?_ ?_; kernel_rfl) | (go_at_call 19; refine (HX2.out _ HB3.out).mono ?_; rintro e w4 ⟨rfl, hB4⟩))
      have hG4 := (hB4.block w.heap.size (lt_of_block HG3.out)).trans HG3.out
      have hH4 := (hB4.block (w.heap.size + 1) (lt_of_block HH3.out)).trans HH3.out
      have HB4 := Lib.hid (HB3.out.trans (hB4.mono HB3.out.size))
      clear hB4 HX1 HX2 HV1 HV2
      refine wp_plain_quiet_below ?_
      repeat (any_goals (first | go_big_quiet_step (fail) | quiet_step (fail)))
      refine wpQuiet_nil ?_
      intro _ hw'
      obtain ⟨⟨dq, osq⟩, hw''⟩ := hw'
      subst hw''
      have hBq := below_regrown w4 dq osq
      generalize grow (redrawn w4 dq) osq = wq at *
      have HB5 := Lib.hid (HB4.out.trans (hBq.mono HB4.out.size))
      clear hBq hG4 hH4
      have q0 : ¬ Z1.size = 0 := by omega
      have q1 : ¬ Z1.toList = [] := by rw [str_nil]; intro e; exact q0 (by rw [ByteArray.size, ← Array.length_toList, e]; rfl)
      have q2 : Z1.toList.isEmpty = false := by rw [List.isEmpty_eq_false_iff]; exact q1
      obtain ⟨k, hk⟩ : ∃ k, k = m1 % Z1.size := ⟨_, rfl⟩
      have q3 : (m1 : Int) % (Z1.size : Int) = (k : Int) := by rw [hk]; simp
      have q4 : k < Z1.size := by rw [hk]; exact Nat.mod_lt _ z2
      have q5 : ((Z1.size : Int) == 0) = false := by rw [beq_eq_false_iff_ne]; omega
      have q6 : (k : Int) ≤ (Z1.size : Int) := by omega
      have HDN := Lib.hid (show decZ (Z1.extract 0 k).data.toList = none by
        rw [take_pre8, HL1.out]
        refine dec_cut HFIT.out HCG.out.symm k ?_
        have h2 : Z1.data.toList.length = Z1.size := by simp
        rw [← HL1.out]; omega)
      have hzs : (Z1.extract 0 k).size ≤ 1000000 := by rw [ByteArray.size_extract]; omega
      have HZS := Lib.hid hzs
      clear hk hzs q0
      go_wp2_with fail
      refine (decode_any (Z1.extract 0 k) _ HZS.out (HTB.out.below HB5.out)).mono ?_
      rintro e w6 hq
      obtain ⟨hB6, rfl⟩ := DecQ.none HDN.out hq
      have HB6 := Lib.hid (HB5.out.trans (hB6.mono HB5.out.size))
      clear hB6 hq
      go_wp2
      go_ret
      exact ⟨rfl, HB6.out.alloc HB6.out.size _⟩
    | true =>
      obtain ⟨Z1, hZ1⟩ : ∃ Z : ByteArray, Z = ⟨(grpZ (⟨⟨t, r⟩, n, v, ⟨ut, ur⟩, ops⟩ : Grp)).toArray⟩ := ⟨_, rfl⟩
      obtain ⟨Z2, hZ2⟩ : ∃ Z : ByteArray, Z = ⟨(grpZ (⟨⟨t2, r2⟩, n2, v2, ⟨ut2, ur2⟩, ops2⟩ : Grp)).toArray⟩ := ⟨_, rfl⟩
      have HV1 : Hid (encV (⟨⟨t, r⟩, n, v, ⟨ut, ur⟩, ops⟩ : Grp) = .tuple #[.string Z1, .int .i64 0]) := Lib.hid (by rw [hZ1]; exact encV_ok HCG.out.symm)
      have HV2 : Hid (encV (⟨⟨t2, r2⟩, n2, v2, ⟨ut2, ur2⟩, ops2⟩ : Grp) = .tuple #[.string Z2, .int .i64 0]) := Lib.hid (by rw [hZ2]; exact encV_ok HCH.out.symm)
      have HX1 : Hid (∀ W, Below w.heap.size w W → Calls Tryd.prog 19 #[.agg #[.int .i64 t, .int .i64 r, .int .i64 n, .slice dA v.length dc, .int .i64 ut, .int .i64 ur, .slice oA ops.length oc]] W fun e w' => e = .returned (.tuple #[.string Z1, .int .i64 0]) ∧ Below W.heap.size W w') := Lib.hid (by have := HE1.out rfl; rw [HV1.out] at this; exact this)
      have HX2 : Hid (∀ W, Below w.heap.size w W → Calls Tryd.prog 19 #[.agg #[.int .i64 t2, .int .i64 r2, .int .i64 n2, .slice dA2 v2.length dc2, .int .i64 ut2, .int .i64 ur2, .slice oA2 ops2.length oc2]] W fun e w' => e = .returned (.tuple #[.string Z2, .int .i64 0]) ∧ Below W.heap.size W w') := Lib.hid (by have := HE2.out rfl; rw [HV2.out] at this; exact this)
      have HL1 := Lib.hid (show Z1.data.toList = grpZ (⟨⟨t, r⟩, n, v, ⟨ut, ur⟩, ops⟩ : Grp) by rw [hZ1])
      have HL2 := Lib.hid (show Z2.data.toList = grpZ (⟨⟨t2, r2⟩, n2, v2, ⟨ut2, ur2⟩, ops2⟩ : Grp) by rw [hZ2])
      have z1 : Z1.size ≤ 1000000 ∧ 0 < Z1.size := by
        have h1 := grpZ_few HFIT.out HFG.out.symm HCG.out.symm
        have h3 := grpZ_pos HCG.out.symm
        rw [← HL1.out] at h1 h3
        have h2 : Z1.data.toList.length = Z1.size := by simp
        omega
      obtain ⟨z1, z2⟩ := z1
      clear HE1 HE2 hZ1 hZ2
      go_upto_region 7 with (first | (refine load_at rfl _ _ rfl w.heap.size _ _ _ rfl HG2.out Tryd.underlying34 rfl ?_ ?_; kernel_rfl) | (go_at_call 19; refine (HX1.out _ HB2.out).mono ?_; rintro e w3 ⟨rfl, hB3⟩))
      have HG3 := Lib.hid ((hB3.block w.heap.size (lt_of_block HG2.out)).trans HG2.out)
      have HH3 := Lib.hid ((hB3.block (w.heap.size + 1) (lt_of_block HH2.out)).trans HH2.out)
      have HB3 := Lib.hid (HB2.out.trans (hB3.mono HB2.out.size))
      clear hB3
      go_upto_region 8 with (first | (refine load_at rfl _ _ rfl (w.heap.size + 1) _ _ _ rfl HH3.out Tryd.underlying34 rfl ?_ ?_; kernel_rfl) | (go_at_call 19; refine (HX2.out _ HB3.out).mono ?_; rintro e w4 ⟨rfl, hB4⟩))
      have hG4 := (hB4.block w.heap.size (lt_of_block HG3.out)).trans HG3.out
      have hH4 := (hB4.block (w.heap.size + 1) (lt_of_block HH3.out)).trans HH3.out
      have HB4 := Lib.hid (HB3.out.trans (hB4.mono HB3.out.size))
      clear hB4 HX1 HX2 HV1 HV2
      have x0 := cell_regrown (w := w4) (a := ⟨w.heap.size, 0, none⟩) (v := .int .i64 t) (by rw [cell_of_row _ _ _ _ _ _ hG4]; rfl)
      have x1 := cell_regrown (w := w4) (a := ⟨w.heap.size, 1, none⟩) (v := .int .i64 r) (by rw [cell_of_row _ _ _ _ _ _ hG4]; rfl)
      have x2 := cell_regrown (w := w4) (a := ⟨w.heap.size, 2, none⟩) (v := .int .i64 n) (by rw [cell_of_row _ _ _ _ _ _ hG4]; rfl)
      have x3 := cell_regrown (w := w4) (a := ⟨w.heap.size, 3, none⟩) (v := .slice dA v.length dc) (by rw [cell_of_row _ _ _ _ _ _ hG4]; rfl)
      have x4 := cell_regrown (w := w4) (a := ⟨w.heap.size, 4, none⟩) (v := .int .i64 ut) (by rw [cell_of_row _ _ _ _ _ _ hG4]; rfl)
      have x5 := cell_regrown (w := w4) (a := ⟨w.heap.size, 5, none⟩) (v := .int .i64 ur) (by rw [cell_of_row _ _ _ _ _ _ hG4]; rfl)
      have x6 := cell_regrown (w := w4) (a := ⟨w.heap.size, 6, none⟩) (v := .slice oA ops.length oc) (by rw [cell_of_row _ _ _ _ _ _ hG4]; rfl)
      have y0 := cell_regrown (w := w4) (a := ⟨(w.heap.size + 1), 0, none⟩) (v := .int .i64 t2) (by rw [cell_of_row _ _ _ _ _ _ hH4]; rfl)
      have y1 := cell_regrown (w := w4) (a := ⟨(w.heap.size + 1), 1, none⟩) (v := .int .i64 r2) (by rw [cell_of_row _ _ _ _ _ _ hH4]; rfl)
      have y2 := cell_regrown (w := w4) (a := ⟨(w.heap.size + 1), 2, none⟩) (v := .int .i64 n2) (by rw [cell_of_row _ _ _ _ _ _ hH4]; rfl)
      have y3 := cell_regrown (w := w4) (a := ⟨(w.heap.size + 1), 3, none⟩) (v := .slice dA2 v2.length dc2) (by rw [cell_of_row _ _ _ _ _ _ hH4]; rfl)
      have y4 := cell_regrown (w := w4) (a := ⟨(w.heap.size + 1), 4, none⟩) (v := .int .i64 ut2) (by rw [cell_of_row _ _ _ _ _ _ hH4]; rfl)
      have y5 := cell_regrown (w := w4) (a := ⟨(w.heap.size + 1), 5, none⟩) (v := .int .i64 ur2) (by rw [cell_of_row _ _ _ _ _ _ hH4]; rfl)
      have y6 := cell_regrown (w := w4) (a := ⟨(w.heap.size + 1), 6, none⟩) (v := .slice oA2 ops2.length oc2) (by rw [cell_of_row _ _ _ _ _ _ hH4]; rfl)
      by_cases hgh : (⟨⟨t, r⟩, n, v, ⟨ut, ur⟩, ops⟩ : Grp) = (⟨⟨t2, r2⟩, n2, v2, ⟨ut2, ur2⟩, ops2⟩ : Grp)
      · obtain rfl : Z1 = Z2 := ByteArray.ext (Array.toList_inj.1 (by rw [HL1.out, HL2.out, hgh]))
        have hsm : sameG (⟨⟨t, r⟩, n, v, ⟨ut, ur⟩, ops⟩ : Grp) (⟨⟨t2, r2⟩, n2, v2, ⟨ut2, ur2⟩, ops2⟩ : Grp) = true := sameG_iff.2 hgh
        have cS : ∀ d1 os, Calls Tryd.prog 21 #[.agg #[.int .i64 t, .int .i64 r, .int .i64 n, .slice dA v.length dc, .int .i64 ut, .int .i64 ur, .slice oA ops.length oc], .agg #[.int .i64 t2, .int .i64 r2, .int .i64 n2, .slice dA2 v2.length dc2, .int .i64 ut2, .int .i64 ur2, .slice oA2 ops2.length oc2]] (grow (redrawn w4 d1) os) fun e w'' => e = .returned (.bool true) ∧ ∃ p : Regrown, w'' = grow (redrawn w4 p.d) p.os := fun d1 os => Calls.regrown_of (by have := HSA.out (grow (redrawn w4 d1) os) (below_grow HB4.out HB4.out.size d1 os); rw [hsm] at this; exact this)
        clear hgh hsm hG4 hH4
        refine wp_plain_quiet_below ?_
        repeat (any_goals (first | go_big_quiet_step (with_reducible exact cS _ _) | quiet_step (with_reducible exact cS _ _)))
        refine wpQuiet_nil ?_
        intro _ hw'
        obtain ⟨⟨dq, osq⟩, hw''⟩ := hw'
        subst hw''
        have hBq := below_regrown w4 dq osq
        generalize grow (redrawn w4 dq) osq = wq at *
        have HB5 := Lib.hid (HB4.out.trans (hBq.mono HB4.out.size))
        clear hBq cS x0 x1 x2 x3 x4 x5 x6 y0 y1 y2 y3 y4 y5 y6
        have q0 : ¬ Z1.size = 0 := by omega
        have q1 : ¬ Z1.toList = [] := by rw [str_nil]; intro e; exact q0 (by rw [ByteArray.size, ← Array.length_toList, e]; rfl)
        have q2 : Z1.toList.isEmpty = false := by rw [List.isEmpty_eq_false_iff]; exact q1
        obtain ⟨k, hk⟩ : ∃ k, k = m1 % Z1.size := ⟨_, rfl⟩
        have q3 : (m1 : Int) % (Z1.size : Int) = (k : Int) := by rw [hk]; simp
        have q4 : k < Z1.size := by rw [hk]; exact Nat.mod_lt _ z2
        have q5 : ((Z1.size : Int) == 0) = false := by rw [beq_eq_false_iff_ne]; omega
        have q6 : (k : Int) ≤ (Z1.size : Int) := by omega
        have HDN := Lib.hid (show decZ (Z1.extract 0 k).data.toList = none by
          rw [take_pre8, HL1.out]
          refine dec_cut HFIT.out HCG.out.symm k ?_
          have h2 : Z1.data.toList.length = Z1.size := by simp
          rw [← HL1.out]; omega)
        have hzs : (Z1.extract 0 k).size ≤ 1000000 := by rw [ByteArray.size_extract]; omega
        have HZS := Lib.hid hzs
        clear hk hzs q0
        go_wp2_with fail
        refine (decode_any (Z1.extract 0 k) _ HZS.out (HTB.out.below HB5.out)).mono ?_
        rintro e w6 hq
        obtain ⟨hB6, rfl⟩ := DecQ.none HDN.out hq
        have HB6 := Lib.hid (HB5.out.trans (hB6.mono HB5.out.size))
        clear hB6 hq
        go_wp2
        go_ret
        exact ⟨rfl, HB6.out.alloc HB6.out.size _⟩
      · have hst : (Z1.toList == Z2.toList) = false := beq_str (decide_eq_false (fun e => hgh (HINJ.out (by first | rfl | trivial) (by first | rfl | trivial) (by rw [← HL1.out, ← HL2.out, e]))))
        have hsm : sameG (⟨⟨t, r⟩, n, v, ⟨ut, ur⟩, ops⟩ : Grp) (⟨⟨t2, r2⟩, n2, v2, ⟨ut2, ur2⟩, ops2⟩ : Grp) = false := by
          cases e : sameG (⟨⟨t, r⟩, n, v, ⟨ut, ur⟩, ops⟩ : Grp) (⟨⟨t2, r2⟩, n2, v2, ⟨ut2, ur2⟩, ops2⟩ : Grp) with
          | false => rfl
          | true => exact absurd (sameG_iff.1 e) hgh
        have cS : ∀ d1 os, Calls Tryd.prog 21 #[.agg #[.int .i64 t, .int .i64 r, .int .i64 n, .slice dA v.length dc, .int .i64 ut, .int .i64 ur, .slice oA ops.length oc], .agg #[.int .i64 t2, .int .i64 r2, .int .i64 n2, .slice dA2 v2.length dc2, .int .i64 ut2, .int .i64 ur2, .slice oA2 ops2.length oc2]] (grow (redrawn w4 d1) os) fun e w'' => e = .returned (.bool false) ∧ ∃ p : Regrown, w'' = grow (redrawn w4 p.d) p.os := fun d1 os => Calls.regrown_of (by have := HSA.out (grow (redrawn w4 d1) os) (below_grow HB4.out HB4.out.size d1 os); rw [hsm] at this; exact this)
        clear hgh hsm hG4 hH4
        refine wp_plain_quiet_below ?_
        repeat (any_goals (first | go_big_quiet_step (with_reducible exact cS _ _) | quiet_step (with_reducible exact cS _ _)))
        refine wpQuiet_nil ?_
        intro _ hw'
        obtain ⟨⟨dq, osq⟩, hw''⟩ := hw'
        subst hw''
        have hBq := below_regrown w4 dq osq
        generalize grow (redrawn w4 dq) osq = wq at *
        have HB5 := Lib.hid (HB4.out.trans (hBq.mono HB4.out.size))
        clear hBq cS hst x0 x1 x2 x3 x4 x5 x6 y0 y1 y2 y3 y4 y5 y6
        have q0 : ¬ Z1.size = 0 := by omega
        have q1 : ¬ Z1.toList = [] := by rw [str_nil]; intro e; exact q0 (by rw [ByteArray.size, ← Array.length_toList, e]; rfl)
        have q2 : Z1.toList.isEmpty = false := by rw [List.isEmpty_eq_false_iff]; exact q1
        obtain ⟨k, hk⟩ : ∃ k, k = m1 % Z1.size := ⟨_, rfl⟩
        have q3 : (m1 : Int) % (Z1.size : Int) = (k : Int) := by rw [hk]; simp
        have q4 : k < Z1.size := by rw [hk]; exact Nat.mod_lt _ z2
        have q5 : ((Z1.size : Int) == 0) = false := by rw [beq_eq_false_iff_ne]; omega
        have q6 : (k : Int) ≤ (Z1.size : Int) := by omega
        have HDN := Lib.hid (show decZ (Z1.extract 0 k).data.toList = none by
          rw [take_pre8, HL1.out]
          refine dec_cut HFIT.out HCG.out.symm k ?_
          have h2 : Z1.data.toList.length = Z1.size := by simp
          rw [← HL1.out]; omega)
        have hzs : (Z1.extract 0 k).size ≤ 1000000 := by rw [ByteArray.size_extract]; omega
        have HZS := Lib.hid hzs
        clear hk hzs q0
        go_wp2_with fail
        refine (decode_any (Z1.extract 0 k) _ HZS.out (HTB.out.below HB5.out)).mono ?_
        rintro e w6 hq
        obtain ⟨hB6, rfl⟩ := DecQ.none HDN.out hq
        have HB6 := Lib.hid (HB5.out.trans (hB6.mono HB5.out.size))
        clear hB6 hq
        go_wp2
        go_ret
        exact ⟨rfl, HB6.out.alloc HB6.out.size _⟩
end Go.Proofs.YtooaodgamakoeaaDoor
