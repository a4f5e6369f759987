/- The reference's Ask and Tell; the law GossipAsks. Conditions: lengths in reach; the tables of utf8. -/
import Derived.Test.YtbjnhkoofndgeaaGreatDoorGBack
import Derived.Test.YtbjnhkoofndgeaaGreatDoorRefEnc
namespace Go.Proofs.YtbjnhkoofndgeaaGreatDoor
open Go.RowKit Go.Lib Go.Sort
set_option linter.unusedVariables false
attribute [local go_sem ↓] Go.wp_at_zero Go.wp_at_succ
set_option maxRecDepth 100000 in
set_option maxHeartbeats 4000000 in
theorem refask_any (v : List Int) (A : Option Addr) (c : Nat) (w : World) (hc0 : v.length ≤ c) (hl : c ≤ 9223372036854775807) (hR : VecR w A v) (hi : ∀ x ∈ v, i63 x) :
    Calls Tryz.prog 29 #[.slice A v.length c] w fun e w' => e = .returned (askV v) ∧ Below w.heap.size w w' := by
  have HV := Lib.hid (refvector_any A c v w hc0 (by omega) hR)
  cases hv : vecB v with
  | false =>
    obtain ⟨ev, hev⟩ : ∃ x, x = askV v := ⟨_, rfl⟩
    rw [← hev]
    obtain rfl : ev = .tuple #[.string ⟨#[]⟩, .int .i64 1] := by rw [hev]; unfold askV; rw [if_neg (by rw [hv]; decide)]
    have HVV := Lib.hid hv
    clear hv hev hR hi
    go_enter Tryz.func29, Tryz.ntmps29
    go_wp2_with fail
    refine HV.out.mono ?_
    rw [HVV.out]
    rintro e w1 ⟨rfl, hB1⟩
    go_wp2
    go_ret2
    exact ⟨rfl, hB1⟩
  | true =>
    obtain ⟨n1, n2⟩ := vecB_nn hv
    have HN := Lib.hid (fun (W : World) (h : VecR W A v) => refnats_ok A v.length c (fun i => v.getD i 0) (by omega) (fun i hi' => by
      have hm : v.getD i 0 ∈ v := by rw [List.getD_eq_getElem?_getD, List.getElem?_eq_getElem hi']; exact List.getElem_mem hi'
      exact ⟨n1 _ hm, (hi _ hm).2⟩) W h)
    obtain ⟨Z, hZ⟩ : ∃ Z, Z = natsS (fun i => v.getD i 0) v.length := ⟨_, rfl⟩
    have hZl : Z.data.toList = numsZ v := by rw [hZ]; exact natsS_Z v n1
    have hzs : Z.size ≤ 1000 := by
      have h1 : Z.data.toList.length = Z.size := by simp
      have h2 := flat_le (z := natZ) (l := v) fun x hx => natZ_le (hi x hx).2
      have h3 : (natZ (v.length : Int)).length ≤ 10 := natZ_le (by omega)
      rw [hZl] at h1
      unfold numsZ at h1
      rw [List.length_append] at h1
      omega
    have hc2 : ¬ maxLen < 1 + Z.size := by unfold maxLen; omega
    obtain ⟨ev, hev⟩ : ∃ x, x = askV v := ⟨_, rfl⟩
    rw [← hev]
    obtain rfl : ev = .tuple #[.string ((⟨#[63]⟩ : ByteArray) ++ Z), .int .i64 0] := by rw [hev]; unfold askV; rw [if_pos hv, cat_ask Z v hZl]
    have HVV := Lib.hid hv
    have HZ := Lib.hid hZ
    have HR := Lib.hid hR
    clear hv hev hR hi hZ hZl n1
    go_enter Tryz.func29, Tryz.ntmps29
    go_wp2_with fail
    refine HV.out.mono ?_
    rw [HVV.out]
    rintro e w1 ⟨rfl, hB1⟩
    have HB1 := Lib.hid hB1
    clear hB1
    go_wp2_with fail
    refine (HN.out _ (HR.out.below HB1.out)).mono ?_
    rw [← HZ.out]
    rintro e w2 ⟨rfl, hB⟩
    go_wp2
    go_ret2
    exact ⟨rfl, HB1.out.trans (hB.mono HB1.out.size)⟩
set_option maxRecDepth 100000 in
set_option maxHeartbeats 4000000 in
theorem reftell_any (g : Grp) (dA : Option Addr) (dc : Nat) (oA : Option Addr) (oc : Nat) (S : Nat → Prop) (w : World) (hI : GrIn w S g dA dc oA oc) (hTx : g.ops.length ≤ 200 → ∀ o ∈ g.ops, o.text.size ≤ 1000000) :
    Calls Tryz.prog 31 #[.agg (grA g dA dc oA oc)] w fun e w' => e = .returned (tellV g) ∧ Below w.heap.size w w' := by
  have hE : ∀ W, Below w.heap.size w W → Calls Tryz.prog 21 #[.agg (grA g dA dc oA oc)] W fun e w' => e = .returned (encV g) ∧ Below W.heap.size W w' := fun W hB => refencode_any g dA dc oA oc S W (hI.agr (Agr.below hB)) hTx
  have HFIT := Lib.hid (fit_of hI)
  have HB0 := Lib.hid (show Below w.heap.size w (w.alloc (.cells (grA g dA dc oA oc) 40)) from (Below.refl _ _).alloc (Nat.le_refl _) _)
  cases hc : chkB g with
  | false =>
    obtain ⟨ev, hev⟩ : ∃ x, x = tellV g := ⟨_, rfl⟩
    rw [← hev]
    obtain rfl : ev = .tuple #[.string ⟨#[]⟩, .int .i64 80] := by rw [hev]; unfold tellV; rw [if_neg (by rw [hc]; decide)]
    rw [encV_no hc] at hE
    obtain ⟨⟨t, r⟩, n, v, ⟨ut, ur⟩, ops⟩ := g
    have HE : Hid (∀ W, Below w.heap.size w W → Calls Tryz.prog 21 #[.agg #[.int .i64 t, .int .i64 r, .int .i64 n, .slice dA v.length dc, .int .i64 ut, .int .i64 ur, .slice oA ops.length oc]] W fun e w' => e = .returned (.tuple #[.string ⟨#[]⟩, .int .i64 80]) ∧ Below W.heap.size W w') := Lib.hid hE
    show Calls _ _ #[.agg #[.int .i64 t, .int .i64 r, .int .i64 n, .slice dA v.length dc, .int .i64 ut, .int .i64 ur, .slice oA ops.length oc]] _ _
    clear hc hev hE hI hTx
    go_enter Tryz.func31, Tryz.ntmps31
    go_wp2_with (first | (go_at_call 21; refine (HE.out _ HB0.out).mono ?_; rintro e w1 ⟨rfl, hB1⟩))
    go_ret2
    exact ⟨rfl, HB0.out.trans (hB1.mono (by simp))⟩
  | true =>
    obtain ⟨Z, hZ⟩ : ∃ Z : ByteArray, Z = ⟨(grpZ g).toArray⟩ := ⟨_, rfl⟩
    have hzs : Z.size ≤ 300 + (61000 + 140737488355328) * 200 := by
      have h1 : Z.data.toList.length = Z.size := by simp
      have h2 := grpZ_le HFIT.out hc (M := 140737488355328) (fun o ho => by have := hTx (chk_sho hc).1 o ho; omega)
      have h3 : Z.data.toList = grpZ g := by rw [hZ]
      rw [h3] at h1
      omega
    have hc2 : ¬ maxLen < 1 + Z.size := by unfold maxLen; omega
    obtain ⟨ev, hev⟩ : ∃ x, x = tellV g := ⟨_, rfl⟩
    rw [← hev]
    obtain rfl : ev = .tuple #[.string ((⟨#[33]⟩ : ByteArray) ++ Z), .int .i64 0] := by rw [hev]; unfold tellV; rw [if_pos hc, hZ, cat_tell]
    rw [encV_ok hc, ← hZ] at hE
    obtain ⟨⟨t, r⟩, n, v, ⟨ut, ur⟩, ops⟩ := g
    have HE : Hid (∀ W, Below w.heap.size w W → Calls Tryz.prog 21 #[.agg #[.int .i64 t, .int .i64 r, .int .i64 n, .slice dA v.length dc, .int .i64 ut, .int .i64 ur, .slice oA ops.length oc]] W fun e w' => e = .returned (.tuple #[.string Z, .int .i64 0]) ∧ Below W.heap.size W w') := Lib.hid hE
    show Calls _ _ #[.agg #[.int .i64 t, .int .i64 r, .int .i64 n, .slice dA v.length dc, .int .i64 ut, .int .i64 ur, .slice oA ops.length oc]] _ _
    clear hc hev hE hI hTx hZ hzs
    go_enter Tryz.func31, Tryz.ntmps31
    go_wp2_with (first | (go_at_call 21; refine (HE.out _ HB0.out).mono ?_; rintro e w1 ⟨rfl, hB1⟩))
    go_ret2
    exact ⟨rfl, HB0.out.trans (hB1.mono (by simp))⟩
set_option maxRecDepth 100000 in
set_option maxHeartbeats 8000000 in
theorem gasks_any (v0 : List Int) (vA : Option Addr) (vc : Nat) (g : Grp) (dA oA : Option Addr) (dc oc : Nat) (w : World) (hv1 : v0.length ≤ vc) (hv2 : vc ≤ maxLen) (hv3 : VecS w (Here w) vA v0) (hv4 : ∀ y ∈ v0, i63 y) (hI : GrIn w (Here w) g dA dc oA oc) (hT1 : ∀ o ∈ g.ops, o.text.size < 9223372036854775807) (hTb : Tabs w) :
    Calls Tryz.prog 7 #[.slice vA v0.length vc, .agg (grA g dA dc oA oc)] w fun e w' => e = .returned (.bool true) ∧ Below w.heap.size w w' := by
  have hvc : vc ≤ 9223372036854775807 := by unfold maxLen at hv2; omega
  obtain ⟨fg, hfg⟩ : ∃ b, b = fewG g := ⟨_, rfl⟩
  obtain ⟨z1, hz1⟩ : ∃ z : Int, z = if vecB v0 = true then 0 else 1 := ⟨_, rfl⟩
  obtain ⟨Z1, hZ1⟩ : ∃ Z : ByteArray, Z = if vecB v0 = true then ⟨(63 :: numsZ v0).toArray⟩ else ⟨#[]⟩ := ⟨_, rfl⟩
  have hE1 : askV v0 = .tuple #[.string Z1, .int .i64 z1] := by
    rw [hz1, hZ1]; unfold askV
    cases h : vecB v0 <;> rfl
  obtain ⟨z2, hz2⟩ : ∃ z : Int, z = if chkB g = true then 0 else 80 := ⟨_, rfl⟩
  obtain ⟨Z2, hZ2⟩ : ∃ Z : ByteArray, Z = if chkB g = true then ⟨(33 :: grpZ g).toArray⟩ else ⟨#[]⟩ := ⟨_, rfl⟩
  have hE2 : tellV g = .tuple #[.string Z2, .int .i64 z2] := by
    rw [hz2, hZ2]; unfold tellV
    cases h : chkB g <;> rfl
  have HVS := Lib.hid hv3.vec
  have HAW := Lib.hid (show ∀ W, Below w.heap.size w W → Calls Tryz.prog 27 #[] W fun e w' => e = .returned (.bool true) ∧ Below W.heap.size W w' from fun W hB => awake23_any W (hTb.below hB))
  have HAK := Lib.hid (show ∀ W, Below w.heap.size w W → Calls Tryz.prog 28 #[.slice vA v0.length vc] W fun e w' => e = .returned (.tuple #[.string Z1, .int .i64 z1]) ∧ Below W.heap.size W w' from fun W hB => by rw [← hE1]; exact ask_any v0 vA vc W hv1 hvc (HVS.out.below hB) hv4)
  have HRK := Lib.hid (show ∀ W, Below w.heap.size w W → Calls Tryz.prog 29 #[.slice vA v0.length vc] W fun e w' => e = .returned (.tuple #[.string Z1, .int .i64 z1]) ∧ Below W.heap.size W w' from fun W hB => by rw [← hE1]; exact refask_any v0 vA vc W hv1 hvc (HVS.out.below hB) hv4)
  have hF1 : ∀ W, Below w.heap.size w W → Calls Tryz.prog 18 #[.agg (grA g dA dc oA oc)] W fun e w' => e = .returned (.bool fg) ∧ Below W.heap.size W w' := fun W hB => by
    rw [hfg]; exact few_any g dA oA dc oc (Here w) W (hI.agr (Agr.below hB))
  have hTE : fg = true → ∀ W, Below w.heap.size w W → Calls Tryz.prog 30 #[.agg (grA g dA dc oA oc)] W fun e w' => e = .returned (.tuple #[.string Z2, .int .i64 z2]) ∧ Below W.heap.size W w' := fun h1 W hB => by
    rw [← hE2]; exact tell_any g dA dc oA oc (Here w) W (hI.agr (Agr.below hB)) hT1 (few_text (by rw [← hfg]; exact h1)) (hTb.below hB)
  have hRT : fg = true → ∀ W, Below w.heap.size w W → Calls Tryz.prog 31 #[.agg (grA g dA dc oA oc)] W fun e w' => e = .returned (.tuple #[.string Z2, .int .i64 z2]) ∧ Below W.heap.size W w' := fun h1 W hB => by
    rw [← hE2]; exact reftell_any g dA dc oA oc (Here w) W (hI.agr (Agr.below hB)) (few_text (by rw [← hfg]; exact h1))
  obtain ⟨⟨t, r⟩, n, v, ⟨ut, ur⟩, ops⟩ := g
  show Calls _ _ #[.slice vA v0.length vc, .agg #[.int .i64 t, .int .i64 r, .int .i64 n, .slice dA v.length dc, .int .i64 ut, .int .i64 ur, .slice oA ops.length oc]] _ _
  have HF1 : Hid (∀ W, Below w.heap.size w W → Calls Tryz.prog 18 #[.agg #[.int .i64 t, .int .i64 r, .int .i64 n, .slice dA v.length dc, .int .i64 ut, .int .i64 ur, .slice oA ops.length oc]] W fun e w' => e = .returned (.bool fg) ∧ Below W.heap.size W w') := Lib.hid hF1
  have HTE : Hid (fg = true → ∀ W, Below w.heap.size w W → Calls Tryz.prog 30 #[.agg #[.int .i64 t, .int .i64 r, .int .i64 n, .slice dA v.length dc, .int .i64 ut, .int .i64 ur, .slice oA ops.length oc]] W fun e w' => e = .returned (.tuple #[.string Z2, .int .i64 z2]) ∧ Below W.heap.size W w') := Lib.hid hTE
  have HRT : Hid (fg = true → ∀ W, Below w.heap.size w W → Calls Tryz.prog 31 #[.agg #[.int .i64 t, .int .i64 r, .int .i64 n, .slice dA v.length dc, .int .i64 ut, .int .i64 ur, .slice oA ops.length oc]] W fun e w' => e = .returned (.tuple #[.string Z2, .int .i64 z2]) ∧ Below W.heap.size W w') := Lib.hid hRT
  clear hfg hz1 hZ1 hE1 hz2 hZ2 hE2 hTb hv3 hv4 hF1 hTE hRT hI hT1
  have HB0 := Lib.hid (show Below w.heap.size w (w.alloc (.cells #[.int .i64 t, .int .i64 r, .int .i64 n, .slice dA v.length dc, .int .i64 ut, .int .i64 ur, .slice oA ops.length oc] 40)) from (Below.refl _ _).alloc (Nat.le_refl _) _)
  by_cases h100 : 100 < v0.length
  · have t100 : (100 : Int) < (v0.length : Int) := by omega
    clear HF1 HTE HRT HAK HRK
    go_enter Tryz.func7, Tryz.ntmps7
    go_wp2_with fail
    refine (HAW.out _ HB0.out).mono ?_
    rintro e w1 ⟨rfl, hB1⟩
    go_wp2
    go_ret
    exact ⟨rfl, HB0.out.trans (hB1.mono (by simp))⟩
  have t100 : ¬ (100 : Int) < (v0.length : Int) := by omega
  have t101 : decide ((100 : Int) < (v0.length : Int)) = false := decide_eq_false t100
  cases fg with
  | false =>
    clear HTE HRT HAK HRK
    go_enter Tryz.func7, Tryz.ntmps7
    go_upto_region 2 with (go_at_call 18; refine (HF1.out _ HB0.out).mono ?_; rintro e w1 ⟨rfl, hB1⟩)
    have HB1 := Lib.hid (HB0.out.trans (hB1.mono (by simp)))
    clear hB1
    go_wp2_with (go_at_call 27; refine (HAW.out _ HB1.out).mono ?_; rintro e w2 ⟨rfl, hB2⟩)
    go_ret
    exact ⟨rfl, HB1.out.trans (hB2.mono HB1.out.size)⟩
  | true =>
    go_enter Tryz.func7, Tryz.ntmps7
    go_upto_region 3 with (go_at_call 18; refine (HF1.out _ HB0.out).mono ?_; rintro e w1 ⟨rfl, hB1⟩)
    have HG1 := Lib.hid ((hB1.block w.heap.size (by simp)).trans (heap_alloc_new w (.cells #[.int .i64 t, .int .i64 r, .int .i64 n, .slice dA v.length dc, .int .i64 ut, .int .i64 ur, .slice oA ops.length oc] 40)))
    have HB1 := Lib.hid (HB0.out.trans (hB1.mono (by simp)))
    clear hB1
    go_upto_region 4 with (go_at_call 28; refine (HAK.out _ HB1.out).mono ?_; rintro e w2 ⟨rfl, hB2⟩)
    have HG2 := Lib.hid ((hB2.block w.heap.size (lt_of_block HG1.out)).trans HG1.out)
    have HB2 := Lib.hid (HB1.out.trans (hB2.mono HB1.out.size))
    clear hB2
    go_upto_region 5 with (go_at_call 29; refine (HRK.out _ HB2.out).mono ?_; rintro e w3 ⟨rfl, hB3⟩)
    have HG3 := Lib.hid ((hB3.block w.heap.size (lt_of_block HG2.out)).trans HG2.out)
    have HB3 := Lib.hid (HB2.out.trans (hB3.mono HB2.out.size))
    clear hB3
    go_upto_region 6 with (first | (refine load_at rfl _ _ rfl w.heap.size _ _ _ rfl HG3.out Tryz.underlying40 rfl ?_ ?_; kernel_rfl) | (go_at_call 30; refine (HTE.out (by first | rfl | trivial) _ HB3.out).mono ?_; rintro e w4 ⟨rfl, hB4⟩))
    have HG4 := Lib.hid ((hB4.block w.heap.size (lt_of_block HG3.out)).trans HG3.out)
    have HB4 := Lib.hid (HB3.out.trans (hB4.mono HB3.out.size))
    clear hB4
    go_upto_region 7 with (first | (refine load_at rfl _ _ rfl w.heap.size _ _ _ rfl HG4.out Tryz.underlying40 rfl ?_ ?_; kernel_rfl) | (go_at_call 31; refine (HRT.out (by first | rfl | trivial) _ HB4.out).mono ?_; rintro e w5 ⟨rfl, hB5⟩))
    have hB5' := HB4.out.trans (hB5.mono HB4.out.size)
    have cA := fun d os => Calls.regrown_of (HAW.out (grow (redrawn w5 d) os) (below_grow hB5' hB5'.size d os))
    have HB5 := Lib.hid hB5'
    have e1 : (z1 == z1) = true := beq_self_eq_true _
    have e2 : (Z1.toList == Z1.toList) = true := beq_self_eq_true _
    have e3 : (z2 == z2) = true := beq_self_eq_true _
    have e4 : (Z2.toList == Z2.toList) = true := beq_self_eq_true _
    clear hB5 hB5'
    refine wp_plain_quiet_below ?_
    repeat (any_goals (first | go_big_quiet_step (with_reducible exact cA _ _) | quiet_step (with_reducible exact cA _ _)))
    refine wpQuiet_nil ?_
    intro _ hw'
    obtain ⟨⟨dq, osq⟩, hw''⟩ := hw'
    subst hw''
    have hBq := below_regrown w5 dq osq
    generalize grow (redrawn w5 dq) osq = wq at *
    go_wp2
    go_ret
    exact ⟨rfl, HB5.out.trans (hBq.mono HB5.out.size)⟩
end Go.Proofs.YtbjnhkoofndgeaaGreatDoor
