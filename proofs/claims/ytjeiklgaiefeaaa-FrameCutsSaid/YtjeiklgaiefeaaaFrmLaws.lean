/- The laws FrameFrames and FrameSplits. Conditions: bounds on sizes. -/
import Derived.Test.YtjeiklgaiefeaaaFrmAll
namespace Go.Proofs.Ytjeiklgaiefeaaa
open Go.RowKit Go.Lib Go.Shelf
set_option linter.unusedVariables false
set_option maxRecDepth 100000 in
set_option maxHeartbeats 4000000 in
theorem law_FrameFrames (odd : Bool) (s : ByteArray) (hs : s.size ≤ maxLen) (w : World) :
    Calls Try.prog 16 #[.bool odd, .string s] w fun e w' => e = .returned (.bool true) ∧ Below w.heap.size w w' := by
  by_cases l2 : 1048576 < s.size
  · have t1 : (3000 : Int) < (s.size : Int) := by omega
    have t2 : ¬ (s.size : Int) ≤ 1048576 := by omega
    have t3 : (1048576 : Int) < (s.size : Int) := by omega
    clear hs
    cases odd with
    | true =>
      go_enter Try.func16, Try.ntmps16
      go_wp2_with fail
      refine (table_t _).mono ?_
      rintro e w1 ⟨A, cap, rfl, hB1⟩
      go_wp2_with fail
      refine (of_long A 255 cap s l2 _).mono ?_
      rintro e w2 ⟨rfl, rfl⟩
      go_wp2_with fail
      refine (refof_long A 255 cap s l2 _).mono ?_
      rintro e w2 ⟨rfl, rfl⟩
      go_wp2_with fail
      refine (awake3_any _).mono ?_
      rintro e w2 ⟨rfl, hB2⟩
      have hB := bt hB1 hB2
      clear hB1 hB2
      go_wp2
      go_ret
      exact ⟨rfl, hB⟩
    | false =>
      go_enter Try.func16, Try.ntmps16
      go_wp2_with fail
      refine (table_f _).mono ?_
      rintro e w1 ⟨A, cap, rfl, _, hB1⟩
      go_wp2_with fail
      refine (of_long A 256 cap s l2 _).mono ?_
      rintro e w2 ⟨rfl, rfl⟩
      go_wp2_with fail
      refine (refof_long A 256 cap s l2 _).mono ?_
      rintro e w2 ⟨rfl, rfl⟩
      go_wp2_with fail
      refine (awake3_any _).mono ?_
      rintro e w2 ⟨rfl, hB2⟩
      have hB := bt hB1 hB2
      clear hB1 hB2
      go_wp2
      go_ret
      exact ⟨rfl, hB⟩
  by_cases l1 : 3000 < s.size
  · have t1 : (3000 : Int) < (s.size : Int) := by omega
    have t2 : (s.size : Int) ≤ 1048576 := by omega
    clear hs
    go_enter Try.func16, Try.ntmps16
    go_wp2_with fail
    refine (awake3_any _).mono ?_
    rintro e w2 ⟨rfl, hB2⟩
    go_wp2
    go_ret
    exact ⟨rfl, hB2⟩
  have t1 : ¬ (3000 : Int) < (s.size : Int) := by omega
  have t3 : ¬ (1048576 : Int) < (s.size : Int) := by omega
  have l3 : s.size ≤ 1048576 := by omega
  have l4 : s.size ≤ 281474976710656 := by omega
  cases odd with
  | true =>
    have l5 : ¬ maxLen < (⟨#[]⟩ : ByteArray).size + s.size := by show ¬ maxLen < 0 + s.size; omega
    clear l1 l2 hs
    go_enter Try.func16, Try.ntmps16
    go_wp2_with fail
    refine (table_t _).mono ?_
    rintro e w1 ⟨A, cap, rfl, hB1⟩
    go_wp2_with (first
      | (go_at_call 50; refine (of_bad A 255 cap (by decide) s l3 _).mono ?_; rintro e w2 ⟨rfl, rfl⟩)
      | (go_at_call 51; refine (refof_bad A 255 cap (by decide) s l3 _).mono ?_; rintro e w2 ⟨rfl, rfl⟩)
      | (go_at_call 52; refine (next_bad A 255 cap (by decide) _ _).mono ?_; rintro e w2 ⟨rfl, rfl⟩)
      | (go_at_call 53; refine (refnext_bad A 255 cap (by decide) _ _).mono ?_; rintro e w2 ⟨rfl, rfl⟩)
      | (go_at_call 48; refine (awake3_any _).mono ?_; rintro e w2 ⟨rfl, hB2⟩))
    have hB := bt hB1 hB2
    clear hB1 hB2
    go_ret
    exact ⟨rfl, hB⟩
  | false =>
    obtain ⟨F, hF⟩ : ∃ F, F = frameS Crc.tab s := ⟨_, rfl⟩
    have hFs : F.size ≤ s.size + 14 := by rw [hF]; exact frame_le s (by omega)
    have hN : nextS Crc.tab (F ++ s) = .ok s s := by rw [hF]; exact next_frame Crc.tab s s l3
    have l5 : ¬ maxLen < F.size + s.size := by unfold maxLen; omega
    have l6 : (F ++ s).size ≤ 281474976710656 := by rw [ByteArray.size_append]; omega
    obtain ⟨a, ha⟩ : ∃ a, a = nextS Crc.tab s := ⟨_, rfl⟩
    have HF := Lib.hid hF
    have HN := Lib.hid hN
    have HA := Lib.hid ha
    clear hF hN ha l1 l2 hs hFs
    go_enter Try.func16, Try.ntmps16
    go_wp2_with fail
    refine (table_f _).mono ?_
    rintro e w1 ⟨A, cap, rfl, hT, hB1⟩
    have HT := Lib.hid hT
    clear hT
    go_wp2_with fail
    refine (of_ok A cap Crc.tab tabIs s l3 _ HT.out).mono ?_
    rw [← HF.out]
    rintro e w2 ⟨rfl, hB2⟩
    have HT2 := Lib.hid (TabRow.go HT.out hB2)
    go_wp2_with fail
    refine (refof_ok A cap Crc.tab tabIs s l3 _ HT2.out).mono ?_
    rw [← HF.out]
    rintro e w3 ⟨rfl, hB3⟩
    have HT3 := Lib.hid (TabRow.go HT2.out hB3)
    have hB := bt hB1 (bt hB2 hB3)
    clear hB1 hB2 hB3 HT HT2
    go_wp2_with fail
    refine (next_any A cap Crc.tab tabIs s l4 _ HT3.out).mono ?_
    rw [← HA.out]
    intro e w4 hq
    cases a with
    | ok x q =>
      obtain ⟨rfl, hB4⟩ := hq
      have HT4 := Lib.hid (TabRow.go HT3.out hB4)
      go_wp2_with fail
      refine (refnext_any A cap Crc.tab tabIs s l4 _ HT4.out).mono ?_
      rw [← HA.out]
      rintro e w5 ⟨rfl, hB5⟩
      have HT5 := Lib.hid (TabRow.go HT4.out hB5)
      go_wp2_with fail
      refine (next_any A cap Crc.tab tabIs _ l6 _ HT5.out).mono ?_
      rw [HN.out]
      rintro e w6 ⟨rfl, hB6⟩
      have HT6 := Lib.hid (TabRow.go HT5.out hB6)
      go_wp2_with fail
      refine (refnext_any A cap Crc.tab tabIs _ l6 _ HT6.out).mono ?_
      rw [HN.out]
      rintro e w7 ⟨rfl, hB7⟩
      go_wp2_with fail
      refine (awake3_any _).mono ?_
      rintro e w8 ⟨rfl, hB8⟩
      have hBB := bt (bt hB (bt hB4 hB5)) (bt (bt hB6 hB7) hB8)
      clear hB hB4 hB5 hB6 hB7 hB8
      go_wp2
      go_ret
      exact ⟨rfl, hBB⟩
    | err c =>
      obtain ⟨rfl, hB4⟩ := hq
      have HT4 := Lib.hid (TabRow.go HT3.out hB4)
      go_wp2_with fail
      refine (refnext_any A cap Crc.tab tabIs s l4 _ HT4.out).mono ?_
      rw [← HA.out]
      rintro e w5 ⟨rfl, hB5⟩
      have HT5 := Lib.hid (TabRow.go HT4.out hB5)
      go_wp2_with fail
      refine (next_any A cap Crc.tab tabIs _ l6 _ HT5.out).mono ?_
      rw [HN.out]
      rintro e w6 ⟨rfl, hB6⟩
      have HT6 := Lib.hid (TabRow.go HT5.out hB6)
      go_wp2_with fail
      refine (refnext_any A cap Crc.tab tabIs _ l6 _ HT6.out).mono ?_
      rw [HN.out]
      rintro e w7 ⟨rfl, hB7⟩
      go_wp2_with fail
      refine (awake3_any _).mono ?_
      rintro e w8 ⟨rfl, hB8⟩
      have hBB := bt (bt hB (bt hB4 hB5)) (bt (bt hB6 hB7) hB8)
      clear hB hB4 hB5 hB6 hB7 hB8
      go_wp2
      go_ret
      exact ⟨rfl, hBB⟩
theorem SplitIs.uniq {xs l l' : List (ByteArray × Nat)} {c c' : Nat} (h : SplitIs xs l c) (h' : SplitIs xs l' c') : l = l' ∧ c = c' := by
  obtain ⟨h0, h⟩ := h
  obtain ⟨k0, k⟩ := h'
  rcases h with ⟨rfl, rfl⟩ | ⟨hc, y, rfl⟩ <;> rcases k with ⟨rfl, k⟩ | ⟨kc, z, k⟩
  · exact ⟨k, rfl⟩
  · exact absurd (h0 (z, c') (by rw [k]; simp)) kc
  · exact absurd (k0 (y, c) (by rw [← k]; simp)) hc
  · have h1 := congrArg List.reverse k
    simp at h1
    obtain ⟨⟨_, h2⟩, h3⟩ := h1
    have h4 := congrArg List.reverse h3
    simp at h4
    exact ⟨h4, h2⟩
theorem usedOf_le {t : Nat → Nat} {s : ByteArray} {xs l : List (ByteArray × Nat)} {c : Nat} (hF : Frs t s xs) (h : SplitIs xs l c) : usedOf l ≤ s.size := by
  refine hF.used l ?_ h.1
  rcases h.2 with ⟨_, rfl⟩ | ⟨_, y, rfl⟩
  · exact List.prefix_refl _
  · exact List.prefix_append _ _
set_option maxRecDepth 100000 in
set_option maxHeartbeats 4000000 in
theorem law_FrameSplits (odd : Bool) (s : ByteArray) (hs : s.size ≤ maxLen) (w : World) :
    Calls Try.prog 17 #[.bool odd, .string s] w fun e w' => e = .returned (.bool true) ∧ Below w.heap.size w w' := by
  by_cases l1 : 3000 < s.size
  · have t1 : (3000 : Int) < (s.size : Int) := by omega
    clear hs
    go_enter Try.func17, Try.ntmps17
    go_wp2_with fail
    refine (awake3_any _).mono ?_
    rintro e w2 ⟨rfl, hB2⟩
    go_wp2
    go_ret
    exact ⟨rfl, hB2⟩
  have t1 : ¬ (3000 : Int) < (s.size : Int) := by omega
  have l3 : s.size ≤ 3000 := by omega
  have l4 : s.size ≤ 1000000 := by omega
  clear hs l1
  cases odd with
  | true =>
    go_enter Try.func17, Try.ntmps17
    go_wp2_with fail
    refine (table_t _).mono ?_
    rintro e w1 ⟨A, cap, rfl, hB1⟩
    go_wp2_with fail
    refine (split_bad A 255 cap (by decide) s _).mono ?_
    rintro e w2 ⟨rfl, hB2⟩
    go_wp2_with fail
    refine (table_t _).mono ?_
    rintro e w3 ⟨A3, cap3, rfl, hB3⟩
    go_wp2_with fail
    refine (refsplit_bad A3 255 cap3 (by decide) s l3 _).mono ?_
    rintro e w4 ⟨rfl, hB4⟩
    go_wp2_with fail
    refine (awake3_any _).mono ?_
    rintro e w5 ⟨rfl, hB5⟩
    go_wp2_with fail
    refine (texts_yes none none 0 0 0 (fun _ => ⟨#[]⟩) (fun _ => ⟨#[]⟩) (by omega) (fun _ _ => rfl) _ Row1.nil Row1.nil).mono ?_
    rintro e w6 ⟨rfl, hB6⟩
    have hB := bt (bt hB1 (bt hB2 hB3)) (bt hB4 (bt hB5 hB6))
    clear hB1 hB2 hB3 hB4 hB5 hB6
    go_wp2
    go_ret
    exact ⟨rfl, hB⟩
  | false =>
    obtain ⟨xs, hF⟩ := Frs.exists Crc.tab _ s (Nat.le_refl _)
    have HF := Lib.hid hF
    clear hF
    go_enter Try.func17, Try.ntmps17
    go_wp2_with fail
    refine (table_f _).mono ?_
    rintro e w1 ⟨A, cap, rfl, hT, hB1⟩
    go_wp2_with fail
    refine (split_any A cap Crc.tab tabIs s l4 xs HF.out _ hT).mono ?_
    rintro e w2 ⟨v2, l, c, rfl, hS, ⟨m, hO⟩, hB2⟩
    obtain ⟨A2, c2, rfl, hR⟩ := row_str hO
    have HS := Lib.hid hS
    have HR := Lib.hid hR
    clear hS hR hO hT
    go_wp2_with fail
    refine (table_f _).mono ?_
    rintro e w3 ⟨A3, cap3, rfl, hT, hB3⟩
    go_wp2_with fail
    refine (refsplit_any A3 cap3 Crc.tab tabIs s l4 xs HF.out _ hT).mono ?_
    rintro e w4 ⟨v4, l', c', rfl, hS, ⟨m', hO⟩, hB4⟩
    obtain ⟨A4, c4, rfl, hR⟩ := row_str hO
    obtain ⟨rfl, rfl⟩ := HS.out.uniq hS
    have HR2 := Lib.hid ((HR.out.below (bt hB3 hB4)).more (bt hB3 hB4).size)
    have HR4 := Lib.hid hR
    clear hS hR hO hT
    go_wp2_with fail
    refine (awake3_any _).mono ?_
    rintro e w5 ⟨rfl, hB5⟩
    have hll : l.length ≤ 3000 := by
      have h1 := used_len l
      have h2 := usedOf_le HF.out HS.out
      omega
    go_wp2_with fail
    refine (texts_yes A2 A4 l.length c2 c4 _ _ (by omega) (fun _ _ => rfl) _ ((HR2.out.below hB5).more hB5.size) ((HR4.out.below hB5).more hB5.size)).mono ?_
    rintro e w6 ⟨rfl, hB6⟩
    have hB := bt (bt hB1 (bt hB2 hB3)) (bt hB4 (bt hB5 hB6))
    clear hB1 hB2 hB3 hB4 hB5 hB6
    go_wp2
    go_ret
    exact ⟨rfl, hB⟩
end Go.Proofs.Ytjeiklgaiefeaaa
