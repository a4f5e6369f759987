/- The walk of VarintCuts: the call returns true, and writes nothing that was there. Texts within the form's own reach. -/
import Derived.Test.YtjeiklgaiefeaaaVarLaws
namespace Go.Proofs.Ytjeiklgaiefeaaa
open Go.RowKit Go.Lib
set_option linter.unusedVariables false
theorem and_low (n : Int) (M : Nat) (hM : M < 4611686018427387904) : ∃ m : Nat, bits .and .i64 n (M : Int) = (m : Int) ∧ m ≤ M := by
  have hle : (BitVec.ofInt 64 n &&& BitVec.ofInt 64 (M : Int)).toNat ≤ M := by
    rw [BitVec.toNat_and, ofInt_63 M (by omega)]
    exact Nat.and_le_right
  refine ⟨(BitVec.ofInt 64 n &&& BitVec.ofInt 64 (M : Int)).toNat, ?_, hle⟩
  show IntKind.i64.wrap ((BitVec.ofInt 64 n &&& BitVec.ofInt 64 (M : Int)).toNat : Int) = _
  rw [IntKind.wrap_i64]
  omega
theorem take_pre (s : ByteArray) (k : Nat) : (s.extract 0 k).data.toList = s.data.toList.take k := by
  rw [ByteArray.data_extract, Array.toList_extract, List.extract_eq_take_drop, List.drop_zero, Nat.sub_zero]
theorem tk_cut (m : Nat) (h : m < 9223372036854775808) (k : Nat) (hk : k < (putS m).size) : TkIs ((putS m).extract 0 k).data.toList 0 ⟨#[]⟩ 10 := by
  rw [take_pre]
  have hk' : k < (uvarint m).length := by rwa [putS_size] at hk
  obtain ⟨h1, h2, h3⟩ := tk_err (Vr.take_cut m h k hk')
  exact ⟨h1, by rw [show (putS m).data.toList = uvarint m from rfl, h2], h3⟩
theorem size_mk (l : List UInt8) : (⟨l.toArray⟩ : ByteArray).size = l.length := by simp [ByteArray.size]
theorem tb_cut (t : ByteArray) (k : Nat) (ht : t.size < 9223372036854775808) (hk : k < (putS t.size ++ t).size) (n : Nat) (R : ByteArray) (c : Nat) (h : TkIs ((putS t.size ++ t).extract 0 k).data.toList n R c) : tbE n R c = 10 := by
  rw [take_pre, ByteArray.data_append, Array.toList_append, show (putS t.size).data.toList = uvarint t.size from rfl, List.take_append] at h
  rw [ByteArray.size_append, putS_size] at hk
  by_cases hl : k < (uvarint t.size).length
  · rw [show k - (uvarint t.size).length = 0 by omega, List.take_zero, List.append_nil] at h
    obtain ⟨h1, h2, h3⟩ := tk_err (Vr.take_cut _ ht k hl)
    obtain ⟨rfl, rfl, rfl⟩ := h
    rw [h3]; rfl
  · rw [List.take_of_length_le (by omega)] at h
    obtain ⟨h1, h2, h3⟩ := tk_ok (Vr.take_put _ ht (List.take (k - (uvarint t.size).length) t.data.toList))
    obtain ⟨rfl, rfl, rfl⟩ := h
    unfold tbE
    rw [h3, h1, if_neg (by simp), size_mk, h2, if_pos (by
      rw [List.length_take]
      have : t.data.toList.length = t.size := by simp
      omega)]
theorem putS_pos (m : Nat) : 0 < (putS m).size := by rw [putS_size]; exact uvarint_pos m
set_option maxRecDepth 100000 in
set_option maxHeartbeats 2000000 in
theorem law_VarintCuts (n : Int) (t : ByteArray) (cut : Int) (wf : (Lit.int .i64 n).wf = true) (ht : t.size ≤ 140737488351232) (wc : (Lit.int .i64 cut).wf = true) (w : World) :
    Calls Try.prog 12 #[.int .i64 n, .string t, .int .i64 cut] w fun e w' => e = .returned (.bool true) ∧ Below w.heap.size w w' := by
  have hn := (wf_i64 wf).2
  clear wf wc
  by_cases h0 : n < 0
  · go_enter Try.func12, Try.ntmps12
    go_wp2_with fail
    refine (awake1_any _).mono ?_
    rintro e w1 ⟨rfl, hB1⟩
    go_wp2_with fail
    refine (nat_bad n h0 _).mono ?_
    rintro e w2 ⟨rfl, rfl⟩
    go_wp2
    go_ret
    exact ⟨rfl, hB1⟩
  have h1 : 0 ≤ n := by omega
  have hnn : n.toNat < 9223372036854775808 := by omega
  obtain ⟨P, hP⟩ : ∃ P, P = putS n.toNat := ⟨_, rfl⟩
  obtain ⟨Q, hQ⟩ : ∃ Q, Q = putS t.size ++ t := ⟨_, rfl⟩
  have hPs : P.size ≤ 10 := by rw [hP]; exact putS_le _ (by omega)
  have hPp : 0 < P.size := by rw [hP]; exact putS_pos _
  have hQs : Q.size ≤ 140737488351242 := by rw [hQ, ByteArray.size_append]; have := putS_le t.size (by omega); omega
  have hQp : 0 < Q.size := by rw [hQ, ByteArray.size_append]; have := putS_pos t.size; omega
  obtain ⟨m1, e1, l1⟩ := and_low cut 1023 (by decide)
  obtain ⟨m2, e2, l2⟩ := and_low cut 1048575 (by decide)
  obtain ⟨k1, hk1⟩ : ∃ k, k = m1 % P.size := ⟨_, rfl⟩
  obtain ⟨k2, hk2⟩ : ∃ k, k = m2 % Q.size := ⟨_, rfl⟩
  have q1 : (m1 : Int) % (P.size : Int) = (k1 : Int) := by rw [hk1]; simp
  have q2 : (m2 : Int) % (Q.size : Int) = (k2 : Int) := by rw [hk2]; simp
  have z1 : k1 < P.size := by rw [hk1]; exact Nat.mod_lt _ hPp
  have z2 : k2 < Q.size := by rw [hk2]; exact Nat.mod_lt _ hQp
  have T1 := Lib.hid (hP ▸ tk_cut n.toNat hnn k1 (hP ▸ z1) : TkIs (P.extract 0 k1).data.toList 0 ⟨#[]⟩ 10)
  obtain ⟨x, R, c, h⟩ := tkIs (Q.extract 0 k2).data.toList
  have T2 := Lib.hid h
  have T3 := Lib.hid (tb_cut t k2 (by omega) (hQ ▸ z2) x R c (hQ ▸ h))
  have S1 : Hid ((P.extract 0 k1).size ≤ maxLen) := Lib.hid (by rw [ByteArray.size_extract]; unfold maxLen; omega)
  have S2 : Hid ((Q.extract 0 k2).size ≤ maxLen) := Lib.hid (by rw [ByteArray.size_extract]; unfold maxLen; omega)
  have HT := Lib.hid ht
  have HP := Lib.hid hP
  have HQ := Lib.hid hQ
  obtain ⟨tT, htT⟩ : ∃ y, y = tbT x R c := ⟨_, rfl⟩
  obtain ⟨tR, htR⟩ : ∃ y, y = tbR x R c := ⟨_, rfl⟩
  have HTT := Lib.hid htT
  have HTR := Lib.hid htR
  have y1 : ((Q.size : Int) == 0) = false := by rw [beq_eq_false_iff_ne]; omega
  replace e1 : bits .and .i64 cut 1023 = (m1 : Int) := e1
  replace e2 : bits .and .i64 cut 1048575 = (m2 : Int) := e2
  clear ht hP hQ h hk1 hk2 htT htR l1 l2 hnn h0
  go_enter Try.func12, Try.ntmps12
  go_wp2_with fail
  refine (awake1_any _).mono ?_
  rintro e w1 ⟨rfl, hB1⟩
  go_wp2_with fail
  refine (nat_ok n h1 hn _).mono ?_
  rw [← HP.out]
  rintro e w2 ⟨rfl, hB2⟩
  go_wp2_with fail
  refine (take_is _ S1.out 0 ⟨#[]⟩ 10 T1.out _).mono ?_
  rintro e w3 ⟨rfl, k, rfl⟩
  go_wp2_with fail
  refine (bytes1_any t HT.out _).mono ?_
  rw [← HQ.out]
  rintro e w4 ⟨rfl, hB4⟩
  go_wp2_with fail
  refine (takebytes_any _ S2.out x R c T2.out _).mono ?_
  rw [T3.out, ← HTT.out, ← HTR.out]
  rintro e w5 ⟨rfl, k', rfl⟩
  have hB := bt (below_drewN' (bt hB1 hB2) k) hB4
  clear hB1 hB2 hB4
  go_wp2
  go_ret
  exact ⟨rfl, below_drewN' hB _⟩
end Go.Proofs.Ytjeiklgaiefeaaa
