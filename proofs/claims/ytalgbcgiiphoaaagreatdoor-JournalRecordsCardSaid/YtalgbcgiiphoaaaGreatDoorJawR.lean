/- The law JournalRecords, at every group. Conditions: lengths in reach; the tables of utf8. -/
import Derived.Test.YtalgbcgiiphoaaaGreatDoorJaw
namespace Go.Proofs.YtalgbcgiiphoaaaGreatDoor
open Go.RowKit Go.Lib Go.Sort
set_option linter.unusedVariables false
attribute [local go_sem ↓] Go.wp_at_zero Go.wp_at_succ
set_option maxRecDepth 100000 in
set_option maxHeartbeats 8000000 in
theorem journalrecords_any (odd : Bool) (g : Grp) (dA oA : Option Addr) (dc oc : Nat) (w : World) (hI : GrIn w (Here w) g dA dc oA oc) (hT1 : ∀ o ∈ g.ops, o.text.size < 9223372036854775807) (hTb : Tabs w) :
    Calls Tryz.prog 5 #[.bool odd, .agg (grA g dA dc oA oc)] w fun e w' => e = .returned (.bool true) ∧ Below w.heap.size w w' := by
  have HTB := Lib.hid hTb
  obtain ⟨fg, hfg⟩ : ∃ b, b = fewG g := ⟨_, rfl⟩
  have hFW : ∀ W, Below w.heap.size w W → Calls Tryz.prog 14 #[.agg (grA g dA dc oA oc)] W fun e w' => e = .returned (.bool fg) ∧ Below W.heap.size W w' := fun W hB => by
    rw [hfg]; exact few_any g dA oA dc oc (Here w) W (hI.agr (Agr.below hB))
  have hAW : ∀ W, Below w.heap.size w W → Calls Tryz.prog 6 #[] W fun e w' => e = .returned (.bool true) ∧ Below W.heap.size W w' := fun W hB => awake25_any W (HTB.out.below hB)
  have HAW := Lib.hid hAW
  obtain ⟨RB, hRB⟩ : ∃ q, q = (recV odd g).1 := ⟨_, rfl⟩
  obtain ⟨RZ, hRZ⟩ : ∃ q, q = (recV odd g).2 := ⟨_, rfl⟩
  have hRC : fg = true → ∀ W, Below w.heap.size w W → ∀ (A : Option Addr) (m cap : Nat), TabOf odd m A W → Calls Tryz.prog 15 #[.slice A m cap, .agg (grA g dA dc oA oc)] W fun e w' => e = .returned (.tuple #[.string RB, .int .i64 RZ]) ∧ Below W.heap.size W w' := fun h1 W hB A m cap hT => by
    rw [hRB, hRZ]; exact record_any (w := W) odd A m cap hT g dA dc oA oc (Here w) (hI.agr (Agr.below hB)) hT1 (few_text (by rw [← hfg]; exact h1)) (HTB.out.below hB)
  have hRR : fg = true → ∀ W, Below w.heap.size w W → ∀ (A : Option Addr) (m cap : Nat), TabOf odd m A W → Calls Tryz.prog 17 #[.slice A m cap, .agg (grA g dA dc oA oc)] W fun e w' => e = .returned (.tuple #[.string RB, .int .i64 RZ]) ∧ Below W.heap.size W w' := fun h1 W hB A m cap hT => by
    rw [hRB, hRZ]; exact refrecord_any (w := W) odd A m cap hT g dA dc oA oc (Here w) (hI.agr (Agr.below hB)) hT1 (few_text (by rw [← hfg]; exact h1)) (HTB.out.below hB)
  obtain ⟨⟨t, r⟩, n, u, ⟨ut, ur⟩, ops⟩ := g
  show Calls _ _ #[.bool odd, .agg #[.int .i64 t, .int .i64 r, .int .i64 n, .slice dA u.length dc, .int .i64 ut, .int .i64 ur, .slice oA ops.length oc]] _ _
  have HFW : Hid (∀ W, Below w.heap.size w W → Calls Tryz.prog 14 #[.agg #[.int .i64 t, .int .i64 r, .int .i64 n, .slice dA u.length dc, .int .i64 ut, .int .i64 ur, .slice oA ops.length oc]] W fun e w' => e = .returned (.bool fg) ∧ Below W.heap.size W w') := Lib.hid hFW
  have HRC : Hid (fg = true → ∀ W, Below w.heap.size w W → ∀ (A : Option Addr) (m cap : Nat), TabOf odd m A W → Calls Tryz.prog 15 #[.slice A m cap, .agg #[.int .i64 t, .int .i64 r, .int .i64 n, .slice dA u.length dc, .int .i64 ut, .int .i64 ur, .slice oA ops.length oc]] W fun e w' => e = .returned (.tuple #[.string RB, .int .i64 RZ]) ∧ Below W.heap.size W w') := Lib.hid hRC
  have HRR : Hid (fg = true → ∀ W, Below w.heap.size w W → ∀ (A : Option Addr) (m cap : Nat), TabOf odd m A W → Calls Tryz.prog 17 #[.slice A m cap, .agg #[.int .i64 t, .int .i64 r, .int .i64 n, .slice dA u.length dc, .int .i64 ut, .int .i64 ur, .slice oA ops.length oc]] W fun e w' => e = .returned (.tuple #[.string RB, .int .i64 RZ]) ∧ Below W.heap.size W w') := Lib.hid hRR
  have HB0 := Lib.hid (show Below w.heap.size w (w.alloc (.cells #[.int .i64 t, .int .i64 r, .int .i64 n, .slice dA u.length dc, .int .i64 ut, .int .i64 ur, .slice oA ops.length oc] 40)) from (Below.refl _ _).alloc (Nat.le_refl _) _)
  have HC0 := Lib.hid (heap_alloc_new w (.cells #[.int .i64 t, .int .i64 r, .int .i64 n, .slice dA u.length dc, .int .i64 ut, .int .i64 ur, .slice oA ops.length oc] 40))
  clear hFW hRC hRR hAW hRB hRZ hfg hI hT1 hTb
  cases fg with
  | false =>
    clear HRC HRR
    go_enter Tryz.func5, Tryz.ntmps5
    go_upto_region 1 with fail
    generalize hW : w.alloc (.cells #[.int .i64 t, .int .i64 r, .int .i64 n, .slice dA u.length dc, .int .i64 ut, .int .i64 ur, .slice oA ops.length oc] 40) = W at *
    clear hW
    go_wp2_with (first
      | (refine load_at rfl _ _ rfl w.heap.size _ _ _ rfl HC0.out Tryz.underlying40 rfl ?_ ?_; kernel_rfl)
      | (go_at_call 14; refine (HFW.out W HB0.out).mono ?_; rintro e w1 ⟨rfl, hB1⟩; have HB1 := Lib.hid (HB0.out.trans (hB1.mono HB0.out.size)); clear hB1)
      | (go_at_call 6; refine (HAW.out w1 HB1.out).mono ?_; rintro e w2 ⟨rfl, hB2⟩))
    go_ret
    exact ⟨rfl, HB1.out.trans (hB2.mono HB1.out.size)⟩
  | true =>
    go_enter Tryz.func5, Tryz.ntmps5
    go_upto_region 1 with fail
    generalize hW : w.alloc (.cells #[.int .i64 t, .int .i64 r, .int .i64 n, .slice dA u.length dc, .int .i64 ut, .int .i64 ur, .slice oA ops.length oc] 40) = W at *
    clear hW
    go_upto_region 3 with (first
      | (refine load_at rfl _ _ rfl w.heap.size _ _ _ rfl HC0.out Tryz.underlying40 rfl ?_ ?_; kernel_rfl)
      | (go_at_call 14; refine (HFW.out W HB0.out).mono ?_; rintro e w1 ⟨rfl, hB1⟩; have HB1 := Lib.hid (HB0.out.trans (hB1.mono HB0.out.size)); have HC1 := Lib.hid ((hB1.block _ (lt_of_block HC0.out)).trans HC0.out); clear hB1))
    refine wp_region_held (S := fun w' => w'.heap[w.heap.size]? = some (.cells #[.int .i64 t, .int .i64 r, .int .i64 n, .slice dA u.length dc, .int .i64 ut, .int .i64 ur, .slice oA ops.length oc] 40 (0, 0))) (by kernel_rfl) ?_
    try (change wpAnyH _ _ _ _ _ _ _ _ (World.drew _))
    refine wpAnyH_take (i := 0) (v := .bool odd) rfl (by kernel_rfl) (by kernel_rfl) (by kernel_rfl) (fun _ _ _ h => h) (Or.inl ⟨by rfl, fun W' hW' => by go_simp⟩) ((show w1.drew.heap[w.heap.size]? = _ from HC1.out)) ?_
    go_simp
    refine wpAnyH_take (i := 2) (v := .agg ([.int .i64 t, .int .i64 r, .int .i64 n, .slice dA u.length dc, .int .i64 ut, .int .i64 ur, .slice oA ops.length oc] : List Value).toArray) rfl (by kernel_rfl) (by kernel_rfl) (by kernel_rfl) (fun _ _ _ h => h) (yieldsIf_load_mid (by rfl) _ _ rfl w.heap.size 0 rfl [.int .i64 t, .int .i64 r, .int .i64 n, .slice dA u.length dc, .int .i64 ut, .int .i64 ur, .slice oA ops.length oc] _ (fun W' hW' => range_of_block hW') Tryz.underlying40 rfl (by kernel_rfl)) ((show w1.drew.heap[w.heap.size]? = _ from HC1.out)) ?_
    go_simp
    refine wpAnyH_ready (rs := [1]) (by kernel_rfl) (by simp) ?_
    refine AllReadyH.cons rfl (fun K hK => ?_) AllReadyH.nil
    go_simp
    have hbd : Below w1.heap.size w1 w1.drew := ⟨rfl, rfl, rfl, Nat.le_refl _, fun _ _ => rfl⟩
    refine (lawtable_any odd w1.drew).mono ?_
    rintro e waa ⟨TAa, tma, tca, rfl, hT, hBa⟩
    have hba2 := hbd.trans hBa
    have HBaa := Lib.hid (HB1.out.trans (hba2.mono HB1.out.size))
    have HTaa := Lib.hid hT
    have HCaa := Lib.hid ((hba2.block _ (lt_of_block HC1.out)).trans HC1.out)
    clear hba2 hbd hBa hT
    go_simp
    refine hK.out _ _ (HCaa.out) (fun _ => ?_)
    clear hK K
    refine wpAnyH_ready (rs := [3]) (by kernel_rfl) (by simp) ?_
    refine AllReadyH.cons rfl (fun K hK => ?_) AllReadyH.nil
    go_simp
    refine (HRC.out (by first | rfl | trivial) waa HBaa.out TAa tma tca HTaa.out).mono ?_
    rintro e w3 ⟨rfl, hBb⟩
    have HB3 := Lib.hid (HBaa.out.trans (hBb.mono HBaa.out.size))
    have HC3 := Lib.hid ((hBb.block _ (lt_of_block HCaa.out)).trans HCaa.out)
    clear hBb
    go_simp
    refine hK.out _ _ (HC3.out) (fun _ => ?_)
    clear hK K
    refine wpAnyH_take (i := 4) (v := .tuple #[.string RB, .int .i64 RZ]) rfl (by kernel_rfl) (by kernel_rfl) (by kernel_rfl) (fun _ _ _ h => h) (Or.inl ⟨by rfl, fun W' hW' => by go_simp⟩) (HC3.out) ?_
    go_simp
    refine wpAnyH_take (i := 5) (v := .string RB) rfl (by kernel_rfl) (by kernel_rfl) (by kernel_rfl) (fun _ _ _ h => h) (Or.inl ⟨by rfl, fun W' hW' => by go_simp⟩) (HC3.out) ?_
    go_simp
    refine wpAnyH_take (i := 6) (v := .int .i64 RZ) rfl (by kernel_rfl) (by kernel_rfl) (by kernel_rfl) (fun _ _ _ h => h) (Or.inl ⟨by rfl, fun W' hW' => by go_simp⟩) (HC3.out) ?_
    go_simp
    refine wpAnyH_take (i := 7) (v := .string RB) rfl (by kernel_rfl) (by kernel_rfl) (by kernel_rfl) (fun _ _ _ h => h) (Or.inl ⟨by rfl, fun W' hW' => by go_simp⟩) (HC3.out) ?_
    go_simp
    refine wpAnyH_take (i := 8) (v := .int .i64 RZ) rfl (by kernel_rfl) (by kernel_rfl) (by kernel_rfl) (fun _ _ _ h => h) (Or.inl ⟨by rfl, fun W' hW' => by go_simp⟩) (HC3.out) ?_
    go_simp
    refine wpAnyH_done (by kernel_rfl) ?_ _
    go_simp
    go_upto_region 4 with fail
    refine wp_region_held (S := fun w' => w'.heap[w.heap.size]? = some (.cells #[.int .i64 t, .int .i64 r, .int .i64 n, .slice dA u.length dc, .int .i64 ut, .int .i64 ur, .slice oA ops.length oc] 40 (0, 0))) (by kernel_rfl) ?_
    try (change wpAnyH _ _ _ _ _ _ _ _ (World.drew _))
    refine wpAnyH_take (i := 0) (v := .bool odd) rfl (by kernel_rfl) (by kernel_rfl) (by kernel_rfl) (fun _ _ _ h => h) (Or.inl ⟨by rfl, fun W' hW' => by go_simp⟩) ((show w3.drew.heap[w.heap.size]? = _ from HC3.out)) ?_
    go_simp
    refine wpAnyH_take (i := 2) (v := .agg ([.int .i64 t, .int .i64 r, .int .i64 n, .slice dA u.length dc, .int .i64 ut, .int .i64 ur, .slice oA ops.length oc] : List Value).toArray) rfl (by kernel_rfl) (by kernel_rfl) (by kernel_rfl) (fun _ _ _ h => h) (yieldsIf_load_mid (by rfl) _ _ rfl w.heap.size 0 rfl [.int .i64 t, .int .i64 r, .int .i64 n, .slice dA u.length dc, .int .i64 ut, .int .i64 ur, .slice oA ops.length oc] _ (fun W' hW' => range_of_block hW') Tryz.underlying40 rfl (by kernel_rfl)) ((show w3.drew.heap[w.heap.size]? = _ from HC3.out)) ?_
    go_simp
    refine wpAnyH_ready (rs := [1]) (by kernel_rfl) (by simp) ?_
    refine AllReadyH.cons rfl (fun K hK => ?_) AllReadyH.nil
    go_simp
    have hbd : Below w3.heap.size w3 w3.drew := ⟨rfl, rfl, rfl, Nat.le_refl _, fun _ _ => rfl⟩
    refine (lawtable_any odd w3.drew).mono ?_
    rintro e wab ⟨TAb, tmb, tcb, rfl, hT, hBa⟩
    have hba2 := hbd.trans hBa
    have HBab := Lib.hid (HB3.out.trans (hba2.mono HB3.out.size))
    have HTab := Lib.hid hT
    have HCab := Lib.hid ((hba2.block _ (lt_of_block HC3.out)).trans HC3.out)
    clear hba2 hbd hBa hT
    go_simp
    refine hK.out _ _ (HCab.out) (fun _ => ?_)
    clear hK K
    refine wpAnyH_ready (rs := [3]) (by kernel_rfl) (by simp) ?_
    refine AllReadyH.cons rfl (fun K hK => ?_) AllReadyH.nil
    go_simp
    refine (HRR.out (by first | rfl | trivial) wab HBab.out TAb tmb tcb HTab.out).mono ?_
    rintro e w5 ⟨rfl, hBb⟩
    have HB5 := Lib.hid (HBab.out.trans (hBb.mono HBab.out.size))
    have HC5 := Lib.hid ((hBb.block _ (lt_of_block HCab.out)).trans HCab.out)
    clear hBb
    go_simp
    refine hK.out _ _ (HC5.out) (fun _ => ?_)
    clear hK K
    refine wpAnyH_take (i := 4) (v := .tuple #[.string RB, .int .i64 RZ]) rfl (by kernel_rfl) (by kernel_rfl) (by kernel_rfl) (fun _ _ _ h => h) (Or.inl ⟨by rfl, fun W' hW' => by go_simp⟩) (HC5.out) ?_
    go_simp
    refine wpAnyH_take (i := 5) (v := .string RB) rfl (by kernel_rfl) (by kernel_rfl) (by kernel_rfl) (fun _ _ _ h => h) (Or.inl ⟨by rfl, fun W' hW' => by go_simp⟩) (HC5.out) ?_
    go_simp
    refine wpAnyH_take (i := 6) (v := .int .i64 RZ) rfl (by kernel_rfl) (by kernel_rfl) (by kernel_rfl) (fun _ _ _ h => h) (Or.inl ⟨by rfl, fun W' hW' => by go_simp⟩) (HC5.out) ?_
    go_simp
    refine wpAnyH_take (i := 7) (v := .string RB) rfl (by kernel_rfl) (by kernel_rfl) (by kernel_rfl) (fun _ _ _ h => h) (Or.inl ⟨by rfl, fun W' hW' => by go_simp⟩) (HC5.out) ?_
    go_simp
    refine wpAnyH_take (i := 8) (v := .int .i64 RZ) rfl (by kernel_rfl) (by kernel_rfl) (by kernel_rfl) (fun _ _ _ h => h) (Or.inl ⟨by rfl, fun W' hW' => by go_simp⟩) (HC5.out) ?_
    go_simp
    refine wpAnyH_done (by kernel_rfl) ?_ _
    go_simp
    have e1 : (RB.toList == RB.toList) = true := beq_self_eq_true _
    have e2 : (RZ == RZ) = true := beq_self_eq_true _
    go_wp2_with (go_at_call 6; refine (HAW.out w5 HB5.out).mono ?_; rintro e w6 ⟨rfl, hB6⟩)
    go_ret
    exact ⟨rfl, HB5.out.trans (hB6.mono HB5.out.size)⟩
end Go.Proofs.YtalgbcgiiphoaaaGreatDoor
