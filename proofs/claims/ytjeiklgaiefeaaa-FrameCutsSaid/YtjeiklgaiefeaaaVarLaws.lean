/- The walks of VarintNats, VarintInts, VarintTexts: each call returns true, and writes nothing that was there. VarintTexts: texts within the form's own reach. -/
import Derived.Test.YtjeiklgaiefeaaaVarWalk
namespace Go.Proofs.Ytjeiklgaiefeaaa
open Go.RowKit Go.Lib
set_option linter.unusedVariables false
theorem wf_i64 {c : Int} (wf : (Lit.int .i64 c).wf = true) : -9223372036854775808 ≤ c ∧ c < 9223372036854775808 := by
  have : -9223372036854775808 ≤ c ∧ c ≤ 9223372036854775807 := by simpa [Lit.wf, IntKind.min, IntKind.max, IntKind.bits, IntKind.signed] using wf
  omega
set_option maxRecDepth 100000 in
set_option maxHeartbeats 2000000 in
theorem law_VarintNats (n : Int) (s : ByteArray) (wf : (Lit.int .i64 n).wf = true) (hs : s.size ≤ maxLen) (w : World) :
    Calls Try.prog 9 #[.int .i64 n, .string s] w fun e w' => e = .returned (.bool true) ∧ Below w.heap.size w w' := by
  have hn := (wf_i64 wf).2
  have HS := Lib.hid hs
  obtain ⟨x, R, c, h⟩ := tkIs s.data.toList
  have H := Lib.hid h
  clear wf hs h
  by_cases h0 : 0 ≤ n
  · obtain ⟨P, hP⟩ : ∃ P, P = putS n.toNat := ⟨_, rfl⟩
    have HP := Lib.hid hP
    clear hP
    go_enter Try.func9, Try.ntmps9
    go_wp2_with fail
    refine (nat_ok n h0 hn _).mono ?_
    rw [← HP.out]
    rintro e w1 ⟨rfl, hB1⟩
    go_wp2_with fail
    refine (refnat_ok n h0 hn _).mono ?_
    rw [← HP.out]
    rintro e w2 ⟨rfl, hB2⟩
    go_wp2_with fail
    refine (take_is s HS.out x R c H.out _).mono ?_
    rintro e w3 ⟨rfl, k, rfl⟩
    go_wp2_with fail
    refine (reftake_is s HS.out x R c H.out _).mono ?_
    rintro e w3 ⟨rfl, k2, rfl⟩
    go_wp2_with fail
    refine (awake1_any _).mono ?_
    rintro e w4 ⟨rfl, hB4⟩
    have hB := bt (below_drewN' (bt hB1 hB2) _) hB4
    clear hB1 hB2 hB4
    go_wp2
    go_ret
    exact ⟨rfl, hB⟩
  · have h0' : n < 0 := by omega
    go_enter Try.func9, Try.ntmps9
    go_wp2_with fail
    refine (nat_bad n h0' _).mono ?_
    rintro e w1 ⟨rfl, rfl⟩
    go_wp2_with fail
    refine (refnat_bad n h0' _).mono ?_
    rintro e w2 ⟨rfl, rfl⟩
    go_wp2_with fail
    refine (take_is s HS.out x R c H.out _).mono ?_
    rintro e w3 ⟨rfl, k, rfl⟩
    go_wp2_with fail
    refine (reftake_is s HS.out x R c H.out _).mono ?_
    rintro e w3 ⟨rfl, k2, rfl⟩
    go_wp2_with fail
    refine (awake1_any _).mono ?_
    rintro e w4 ⟨rfl, hB4⟩
    have hB := bt (below_drewN' (Below.refl w.heap.size w) _) hB4
    clear hB4
    go_wp2
    go_ret
    exact ⟨rfl, hB⟩
theorem takeint_is (s : ByteArray) (hs : s.size ≤ maxLen) (n : Nat) (R : ByteArray) (c : Nat) (h : TkIs s.data.toList n R c) (w : World) :
    Calls Try.prog 37 #[.string s] w fun e w' => e = .returned (.tuple #[.int .i64 (Vr.zag n), .string R, .int .i64 c]) ∧ ∃ k, w' = w.drewN k := by
  obtain ⟨rfl, rfl, rfl⟩ := h
  exact takeint_any s hs w
theorem reftakeint_is (s : ByteArray) (hs : s.size ≤ maxLen) (n : Nat) (R : ByteArray) (c : Nat) (h : TkIs s.data.toList n R c) (w : World) :
    Calls Try.prog 38 #[.string s] w fun e w' => e = .returned (.tuple #[.int .i64 (Vr.zag n), .string R, .int .i64 c]) ∧ ∃ k, w' = w.drewN k := by
  obtain ⟨rfl, rfl, rfl⟩ := h
  exact reftakeint_any s hs w
set_option maxRecDepth 100000 in
set_option maxHeartbeats 2000000 in
theorem law_VarintInts (n : Int) (s : ByteArray) (wf : (Lit.int .i64 n).wf = true) (hs : s.size ≤ maxLen) (w : World) :
    Calls Try.prog 10 #[.int .i64 n, .string s] w fun e w' => e = .returned (.bool true) ∧ Below w.heap.size w w' := by
  have hn := wf_i64 wf
  have HS := Lib.hid hs
  obtain ⟨x, R, c, h⟩ := tkIs s.data.toList
  have H := Lib.hid h
  clear wf hs h
  by_cases h0 : -4611686018427387904 ≤ n ∧ n < 4611686018427387904
  · obtain ⟨P, hP⟩ : ∃ P, P = putS (Vr.zig n) := ⟨_, rfl⟩
    have HP := Lib.hid hP
    clear hP
    go_enter Try.func10, Try.ntmps10
    go_wp2_with fail
    refine (int_ok n h0.1 h0.2 _).mono ?_
    rw [← HP.out]
    rintro e w1 ⟨rfl, hB1⟩
    go_wp2_with fail
    refine (refint_ok n h0.1 h0.2 _).mono ?_
    rw [← HP.out]
    rintro e w2 ⟨rfl, hB2⟩
    go_wp2_with fail
    refine (takeint_is s HS.out x R c H.out _).mono ?_
    rintro e w3 ⟨rfl, k, rfl⟩
    go_wp2_with fail
    refine (reftakeint_is s HS.out x R c H.out _).mono ?_
    rintro e w3 ⟨rfl, k2, rfl⟩
    go_wp2_with fail
    refine (awake1_any _).mono ?_
    rintro e w4 ⟨rfl, hB4⟩
    have hB := bt (below_drewN' (bt hB1 hB2) _) hB4
    clear hB1 hB2 hB4
    go_wp2
    go_ret
    exact ⟨rfl, hB⟩
  · have h0' : n < -4611686018427387904 ∨ 4611686018427387904 ≤ n := by omega
    have H0 := Lib.hid h0'
    clear h0 h0' hn
    go_enter Try.func10, Try.ntmps10
    go_wp2_with fail
    refine (int_bad n H0.out _).mono ?_
    rintro e w1 ⟨rfl, rfl⟩
    go_wp2_with fail
    refine (refint_bad n H0.out _).mono ?_
    rintro e w2 ⟨rfl, rfl⟩
    go_wp2_with fail
    refine (takeint_is s HS.out x R c H.out _).mono ?_
    rintro e w3 ⟨rfl, k, rfl⟩
    go_wp2_with fail
    refine (reftakeint_is s HS.out x R c H.out _).mono ?_
    rintro e w3 ⟨rfl, k2, rfl⟩
    go_wp2_with fail
    refine (awake1_any _).mono ?_
    rintro e w4 ⟨rfl, hB4⟩
    have hB := bt (below_drewN' (Below.refl w.heap.size w) _) hB4
    clear hB4
    go_wp2
    go_ret
    exact ⟨rfl, hB⟩
set_option maxRecDepth 100000 in
set_option maxHeartbeats 2000000 in
theorem law_VarintTexts (t : ByteArray) (s : ByteArray) (ht : t.size ≤ 140737488351232) (hs : s.size ≤ 140737488351232) (w : World) :
    Calls Try.prog 11 #[.string t, .string s] w fun e w' => e = .returned (.bool true) ∧ Below w.heap.size w w' := by
  have HT := Lib.hid ht
  have HS : Hid (s.size ≤ maxLen) := Lib.hid (by unfold maxLen; omega)
  obtain ⟨x, R, c, h⟩ := tkIs s.data.toList
  have H := Lib.hid h
  obtain ⟨P, hP⟩ : ∃ P, P = putS t.size ++ t := ⟨_, rfl⟩
  have HP := Lib.hid hP
  obtain ⟨e1, he1⟩ : ∃ y, y = tbT x R c := ⟨_, rfl⟩
  obtain ⟨e2, he2⟩ : ∃ y, y = tbR x R c := ⟨_, rfl⟩
  obtain ⟨e3, he3⟩ : ∃ y, y = tbE x R c := ⟨_, rfl⟩
  have H1 := Lib.hid he1
  have H2 := Lib.hid he2
  have H3 := Lib.hid he3
  clear ht hs h hP he1 he2 he3
  go_enter Try.func11, Try.ntmps11
  go_wp2_with fail
  refine (takebytes_any s HS.out x R c H.out _).mono ?_
  rw [← H1.out, ← H2.out, ← H3.out]
  rintro e w1 ⟨rfl, k, rfl⟩
  go_wp2_with fail
  refine (reftakebytes_any s HS.out x R c H.out _).mono ?_
  rw [← H1.out, ← H2.out, ← H3.out]
  rintro e w2 ⟨rfl, k2, rfl⟩
  go_wp2_with fail
  refine (awake1_any _).mono ?_
  rintro e w3 ⟨rfl, hB3⟩
  go_wp2_with fail
  refine (bytes1_any t HT.out _).mono ?_
  rw [← HP.out]
  rintro e w4 ⟨rfl, hB4⟩
  go_wp2_with fail
  refine (refbytes1_any t HT.out _).mono ?_
  rw [← HP.out]
  rintro e w5 ⟨rfl, hB5⟩
  have hB := bt (below_drewN' (Below.refl w.heap.size w) _) (bt hB3 (bt hB4 hB5))
  clear hB3 hB4 hB5
  go_wp2
  go_ret
  exact ⟨rfl, hB⟩
end Go.Proofs.Ytjeiklgaiefeaaa
