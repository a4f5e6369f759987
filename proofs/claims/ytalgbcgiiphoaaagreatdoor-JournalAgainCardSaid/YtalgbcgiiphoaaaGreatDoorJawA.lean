/- The law JournalAgain, at every text. Conditions: lengths in reach; the tables of utf8. -/
import Derived.Test.YtalgbcgiiphoaaaGreatDoorJaw
namespace Go.Proofs.YtalgbcgiiphoaaaGreatDoor
open Go.RowKit Go.Lib Go.Sort
set_option linter.unusedVariables false
attribute [local go_sem ↓] Go.wp_at_zero Go.wp_at_succ
set_option maxRecDepth 100000 in
set_option maxHeartbeats 8000000 in
theorem journalagain_any (s : ByteArray) (w : World) (hs : s.size ≤ 9223372036854775807) (hTb : Tabs w) :
    Calls Tryz.prog 3 #[.string s] w fun e w' => e = .returned (.bool true) ∧ Below w.heap.size w w' := by
  have HTB := Lib.hid hTb
  clear hTb
  by_cases hl : 3000 < s.size
  · have i1 : (3000 : Int) < (s.size : Int) := by omega
    go_enter Tryz.func3, Tryz.ntmps3
    go_wp2_with (go_at_call 6; refine (awake25_any w HTB.out).mono ?_; rintro e w1 ⟨rfl, hB1⟩)
    go_ret
    exact ⟨rfl, hB1⟩
  · have i1 : ¬ (3000 : Int) < (s.size : Int) := by omega
    have hs9 : s.size ≤ 3000 := by omega
    clear hl hs
    go_enter Tryz.func3, Tryz.ntmps3
    go_upto_region 7 with (first
      | (go_at_call 6; refine (awake25_any w HTB.out).mono ?_; rintro e w1 ⟨rfl, hB1⟩; have HB1 := Lib.hid hB1; clear hB1)
      | (go_at_call 8; refine (reftable_any _).mono ?_; rintro e w2 ⟨v, rfl, hO, hB2⟩; obtain ⟨TA, tc, rfl, hT⟩ := tab25 hO; have HT2 := Lib.hid hT; have HB2 := Lib.hid (HB1.out.trans (hB2.mono HB1.out.size)); clear hO hT hB2)
      | (go_at_call 7; refine (recover_any TA tc s w2 (by omega) HT2.out.2 (HTB.out.below HB2.out)).mono ?_; rintro e w3 ⟨b3, r3, L, A3, c3, hr3, hL3, rfl, hO3, hG3, hx3, hB3⟩; have HB3 := Lib.hid (HB2.out.trans (hB3.mono HB2.out.size)); have HRR := Lib.hid hr3; have HL3 := Lib.hid hL3; have HO3 := Lib.hid (RowGr.own hO3); have HG3 := Lib.hid hG3; have HX3 := Lib.hid hx3; clear hr3 hL3 hO3 hG3 hx3 hB3))
    obtain ⟨ha1, ha2, ha3, b5, ha4, ha5⟩ := HRR.out.again
    obtain ⟨un, hun⟩ : ∃ n, n = s.size - r3.size := ⟨_, rfl⟩
    obtain ⟨T5, hT5⟩ : ∃ B, B = catR b3.done := ⟨_, rfl⟩
    rw [← hun]
    rw [← hun, ← hT5] at ha2
    rw [← hT5] at ha4
    have huns : un ≤ s.size := by omega
    have hT5s : T5.size = un := by rw [← ha2, ByteArray.size_extract]; omega
    have HA2 := Lib.hid ha2
    have HA4 := Lib.hid ha4
    have HA5 := Lib.hid ha5
    have HTC := Lib.hid (show catR (L.map Prod.fst) = T5 by rw [HL3.out, hT5])
    have HLS := Lib.hid (show L.length ≤ 1000000 from by
      have h9 := catR_len ha3
      have h8 := congrArg List.length HL3.out
      rw [List.length_map] at h8
      rw [← hT5, hT5s] at h9
      omega)
    have j1 : (0 : Int) ≤ (un : Int) := by omega
    have j2 : ¬ (un : Int) < 0 := by omega
    have j3 : ¬ (s.size : Int) < (un : Int) := by omega
    have j4 : (un : Int) ≤ (s.size : Int) := by omega
    have HUS := Lib.hid hT5s
    clear hun hT5 ha1 ha2 ha3 ha4 ha5 hT5s HRR
    go_upto_region 10 with (go_at_call 9; refine (records_any A3 c3 L (fun k => w2.heap.size ≤ k) w3 HLS.out (by rw [HTC.out, HUS.out]; omega) HO3.out HG3.out HX3.out (HTB.out.below HB3.out)).mono ?_; rw [HTC.out]; rintro e w4 ⟨v4, rfl, hO4, hB4⟩; have HB4 := Lib.hid (HB3.out.trans (hB4.mono HB3.out.size)); have HBx := Lib.hid hB4; clear hO4 hB4)
    refine wp_region_held (S := fun _ => True) (by kernel_rfl) ?_
    try (change wpAnyH _ _ _ _ _ _ _ _ (World.drew _))
    refine wpAnyH_take (i := 1) (v := .string s) rfl (by kernel_rfl) (by kernel_rfl) (by kernel_rfl) (fun _ _ _ h => h) (Or.inl ⟨by rfl, fun W' hW' => by go_simp⟩) (trivial) ?_
    go_simp
    refine wpAnyH_take (i := 2) (v := .int .i64 (un : Int)) rfl (by kernel_rfl) (by kernel_rfl) (by kernel_rfl) (fun _ _ _ h => h) (Or.inl ⟨by rfl, fun W' hW' => by go_simp⟩) (trivial) ?_
    go_simp
    refine wpAnyH_take (i := 3) (v := .string (s.extract 0 un)) rfl (by kernel_rfl) (by kernel_rfl) (by kernel_rfl) (fun _ _ _ h => h) (Or.inl ⟨by rfl, fun W' hW' => by go_simp⟩) (trivial) ?_
    go_simp
    refine wpAnyH_ready (rs := [0]) (by kernel_rfl) (by simp) ?_
    refine AllReadyH.cons rfl (fun K hK => ?_) AllReadyH.nil
    go_simp
    have hbd : Below w4.heap.size w4 w4.drew := ⟨rfl, rfl, rfl, Nat.le_refl _, fun _ _ => rfl⟩
    refine (reftable_any w4.drew).mono ?_
    rintro e w5 ⟨v, rfl, hO, hBa⟩
    obtain ⟨TB, tb, rfl, hT⟩ := tab25 hO
    have HT5 := Lib.hid hT
    have hba2 := hbd.trans hBa
    have HB5 := Lib.hid (HB4.out.trans (hba2.mono HB4.out.size))
    have HB35 := Lib.hid (HBx.out.trans (hba2.mono HBx.out.size))
    clear hba2 hbd hBa hT hO
    go_simp
    refine hK.out _ _ (trivial) (fun _ => ?_)
    clear hK K
    refine wpAnyH_ready (rs := [4]) (by kernel_rfl) (by simp) ?_
    refine AllReadyH.cons rfl (fun K hK => ?_) AllReadyH.nil
    go_simp
    rw [HA2.out]
    refine (recover_any TB tb T5 w5 (by rw [HUS.out]; omega) HT5.out.2 (HTB.out.below HB5.out)).mono ?_
    rintro e w6 ⟨b6, r6, L6, A6, c6, hr6, hL6, rfl, hO6, hG6, hx6, hB6⟩
    obtain ⟨hd1, hd2⟩ := hr6.det HA4.out
    have HLE := Lib.hid (show L.map Prod.fst = L6.map Prod.fst by rw [hL6, hd1, HA5.out, HL3.out])
    have HUN := Lib.hid (show T5.size - r6.size = un by rw [hd2, HUS.out]; rfl)
    have HO6 := Lib.hid (RowGr.own hO6)
    have HG6 := Lib.hid hG6
    have HB6 := Lib.hid (HB5.out.trans (hB6.mono HB5.out.size))
    have HB36 := Lib.hid (HB35.out.trans (hB6.mono HB35.out.size))
    clear hd1 hd2 hr6 hL6 hO6 hG6 hx6 hB6
    rw [HUN.out]
    go_simp
    refine hK.out _ _ (trivial) (fun _ => ?_)
    clear hK K
    refine wpAnyH_take (i := 5) (v := .tuple #[.slice A6 L6.length c6, .int .i64 (un : Int), .int .i64 0]) rfl (by kernel_rfl) (by kernel_rfl) (by kernel_rfl) (fun _ _ _ h => h) (Or.inl ⟨by rfl, fun W' hW' => by go_simp⟩) (trivial) ?_
    go_simp
    refine wpAnyH_take (i := 6) (v := .slice A6 L6.length c6) rfl (by kernel_rfl) (by kernel_rfl) (by kernel_rfl) (fun _ _ _ h => h) (Or.inl ⟨by rfl, fun W' hW' => by go_simp⟩) (trivial) ?_
    go_simp
    refine wpAnyH_take (i := 7) (v := .int .i64 (un : Int)) rfl (by kernel_rfl) (by kernel_rfl) (by kernel_rfl) (fun _ _ _ h => h) (Or.inl ⟨by rfl, fun W' hW' => by go_simp⟩) (trivial) ?_
    go_simp
    refine wpAnyH_take (i := 8) (v := .int .i64 0) rfl (by kernel_rfl) (by kernel_rfl) (by kernel_rfl) (fun _ _ _ h => h) (Or.inl ⟨by rfl, fun W' hW' => by go_simp⟩) (trivial) ?_
    go_simp
    refine wpAnyH_take (i := 9) (v := .slice A6 L6.length c6) rfl (by kernel_rfl) (by kernel_rfl) (by kernel_rfl) (fun _ _ _ h => h) (Or.inl ⟨by rfl, fun W' hW' => by go_simp⟩) (trivial) ?_
    go_simp
    refine wpAnyH_take (i := 10) (v := .int .i64 (un : Int)) rfl (by kernel_rfl) (by kernel_rfl) (by kernel_rfl) (fun _ _ _ h => h) (Or.inl ⟨by rfl, fun W' hW' => by go_simp⟩) (trivial) ?_
    go_simp
    refine wpAnyH_take (i := 11) (v := .int .i64 0) rfl (by kernel_rfl) (by kernel_rfl) (by kernel_rfl) (fun _ _ _ h => h) (Or.inl ⟨by rfl, fun W' hW' => by go_simp⟩) (trivial) ?_
    go_simp
    refine wpAnyH_done (by kernel_rfl) ?_ _
    go_simp
    have e1 : (T5.toList == (s.extract 0 un).toList) = true := by rw [HA2.out]; exact beq_self_eq_true _
    have e2 : ((un : Int) == (un : Int)) = true := beq_self_eq_true _
    go_wp2_with (go_at_call 10; refine (sameall_any L L6 A3 A6 c3 c6 (fun k => w2.heap.size ≤ k) (fun k => w5.heap.size ≤ k) w6 HLS.out (HO3.out.below HB36.out) (fun p hp => (HG3.out p hp).agr (Agr.below HB36.out)) HO6.out HG6.out HLE.out).mono ?_; rintro e w7 ⟨rfl, hB7⟩)
    go_ret
    exact ⟨rfl, HB6.out.trans (hB7.mono HB6.out.size)⟩
end Go.Proofs.YtalgbcgiiphoaaaGreatDoor
