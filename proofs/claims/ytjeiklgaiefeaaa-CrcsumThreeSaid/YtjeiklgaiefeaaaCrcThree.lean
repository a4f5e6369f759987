/- The walk of CrcsumThree: the call returns true, and writes nothing that was there. No condition. -/
import Derived.Test.YtjeiklgaiefeaaaCrcLaws
namespace Go.Proofs.Ytjeiklgaiefeaaa
open Go.RowKit
set_option linter.unusedVariables false
theorem turned_is (a b : ByteArray) (ha : a.size ≤ 65536) (T : ByteArray) (hT : Hid (T.data.toList = List.zipWith (· ^^^ ·) a.data.toList b.data.toList)) (w : World) :
    Calls Try.prog 29 #[.string a, .string b] w fun e w' => e = .returned (.string T) ∧ Below w.heap.size w w' := by
  have : T = ⟨(List.zipWith (· ^^^ ·) a.data.toList b.data.toList).toArray⟩ := by
    rw [← hT.out]
  rw [this]
  exact turned_any a b ha w
theorem len_of (a : ByteArray) : a.data.toList.length = a.size := by simp
theorem size_of (a : ByteArray) (l : List UInt8) (h : a.data.toList = l) : a.size = l.length := by rw [← h]; simp
theorem crc_three (a b c T U : ByteArray) (h1 : a.size = b.size) (h2 : b.size = c.size) (hT : T.data.toList = List.zipWith (· ^^^ ·) a.data.toList b.data.toList) (hU : U.data.toList = List.zipWith (· ^^^ ·) T.data.toList c.data.toList) :
    crcOf Crc.tab a.data.toList ^^^ crcOf Crc.tab b.data.toList ^^^ crcOf Crc.tab c.data.toList = crcOf Crc.tab U.data.toList := by
  simp only [crc_tab, plainOf]
  rw [hU, hT]
  have h := Crc.plain_three a.data.toList b.data.toList c.data.toList 4294967295 4294967295 4294967295 (by rw [len_of, len_of, h1]) (by rw [len_of, len_of, h2])
  rw [show 4294967295 ^^^ 4294967295 ^^^ 4294967295 = 4294967295 from by decide] at h
  rw [← h]
  generalize Crc.plain a.data.toList 4294967295 = x
  generalize Crc.plain b.data.toList 4294967295 = y
  generalize Crc.plain c.data.toList 4294967295 = z
  rw [show (x ^^^ 4294967295) ^^^ (y ^^^ 4294967295) ^^^ (z ^^^ 4294967295) = (x ^^^ y ^^^ z) ^^^ (4294967295 ^^^ 4294967295 ^^^ 4294967295) from by ac_rfl]
  rfl
theorem size_pre (a : ByteArray) (n : Nat) (h : n ≤ a.size) : (a.extract 0 n).size = n := by simp; omega
set_option maxRecDepth 100000 in
set_option maxHeartbeats 2000000 in
theorem law_CrcsumThree (a b c : ByteArray) (ha : a.size ≤ maxLen) (hb : b.size ≤ maxLen) (hc : c.size ≤ maxLen) (w : World) :
    Calls Try.prog 8 #[.string a, .string b, .string c] w fun e w' => e = .returned (.bool true) ∧ Below w.heap.size w w' := by
  obtain ⟨m, hm⟩ : ∃ m, m = min b.size c.size := ⟨_, rfl⟩
  obtain ⟨n, hn⟩ : ∃ n, n = min a.size m := ⟨_, rfl⟩
  have n1 : n ≤ a.size := by omega
  have n2 : n ≤ b.size := by omega
  have n3 : n ≤ c.size := by omega
  have g2 : (if c.size < b.size then (c.size : Int) else (b.size : Int)) = (m : Int) := by rw [hm]; split <;> omega
  have g3 : (if m < a.size then (m : Int) else (a.size : Int)) = (n : Int) := by rw [hn]; split <;> omega
  clear hn hm
  by_cases hl : 2000 < n
  · have hl' : (2000 : Int) < (n : Int) := by omega
    go_enter Try.func8, Try.ntmps8
    go_wp2_with fail
    refine (awake2_any _).mono ?_
    rintro e w1 ⟨rfl, hB1⟩
    go_wp2
    go_ret
    exact ⟨rfl, hB1⟩
  have hl' : ¬ (2000 : Int) < (n : Int) := by omega
  have m0 : (0 : Int) ≤ (n : Int) := by omega
  have m1 : (n : Int) ≤ (a.size : Int) := by omega
  have m2 : (n : Int) ≤ (b.size : Int) := by omega
  have m3 : (n : Int) ≤ (c.size : Int) := by omega
  have sa := size_pre a n n1
  have sb := size_pre b n n2
  have sc := size_pre c n n3
  obtain ⟨T, hT⟩ : ∃ T : ByteArray, T.data.toList = List.zipWith (· ^^^ ·) (a.extract 0 n).data.toList (b.extract 0 n).data.toList := ⟨⟨(List.zipWith (· ^^^ ·) (a.extract 0 n).data.toList (b.extract 0 n).data.toList).toArray⟩, rfl⟩
  obtain ⟨U, hU⟩ : ∃ U : ByteArray, U.data.toList = List.zipWith (· ^^^ ·) T.data.toList (c.extract 0 n).data.toList := ⟨⟨(List.zipWith (· ^^^ ·) T.data.toList (c.extract 0 n).data.toList).toArray⟩, rfl⟩
  have hx := crc_three _ _ _ T U (sa.trans sb.symm) (sb.trans sc.symm) hT hU
  have sT : T.size ≤ 65536 := by
    rw [size_of T _ hT, List.length_zipWith, len_of, sa]; omega
  have sU : U.size ≤ 65536 := by
    rw [size_of U _ hU, List.length_zipWith, len_of]; omega
  have l1 := crcOf_lt tabok (a.extract 0 n).data.toList
  have l2 := crcOf_lt tabok (b.extract 0 n).data.toList
  have l3 := crcOf_lt tabok (c.extract 0 n).data.toList
  obtain ⟨A, hA⟩ : ∃ A, A = crcOf Crc.tab (a.extract 0 n).data.toList := ⟨_, rfl⟩
  obtain ⟨B, hB⟩ : ∃ A, A = crcOf Crc.tab (b.extract 0 n).data.toList := ⟨_, rfl⟩
  obtain ⟨C, hC⟩ : ∃ A, A = crcOf Crc.tab (c.extract 0 n).data.toList := ⟨_, rfl⟩
  obtain ⟨D, hD⟩ : ∃ A, A = crcOf Crc.tab U.data.toList := ⟨_, rfl⟩
  rw [← hA, ← hB, ← hC, ← hD] at hx
  rw [← hA] at l1
  rw [← hB] at l2
  rw [← hC] at l3
  obtain ⟨E, hE⟩ : ∃ E, E = A ^^^ B := ⟨_, rfl⟩
  have x1 : bits .xor .u32 (A : Int) (B : Int) = (E : Int) := by rw [hE]; exact u32_xor_nat _ _ l1 l2
  have x2 : bits .xor .u32 (E : Int) (C : Int) = (D : Int) := by
    rw [← hx, ← hE]; exact u32_xor_nat _ _ (by rw [hE]; exact Crc.xor32 l1 l2) l3
  have HA := Lib.hid hA
  have HB := Lib.hid hB
  have HC := Lib.hid hC
  have HD := Lib.hid hD
  have HT := Lib.hid hT
  have HU := Lib.hid hU
  have SA : Hid ((a.extract 0 n).size ≤ 65536 ∧ (b.extract 0 n).size ≤ 65536 ∧ (c.extract 0 n).size ≤ 65536) := by
    rw [sa, sb, sc]; exact Lib.hid ⟨by omega, by omega, by omega⟩
  have SB := Lib.hid sT
  have SC := Lib.hid sU
  have hML : Hid (65536 ≤ maxLen) := Lib.hid (by unfold maxLen; omega)
  clear hA hB hC hD hT hU hE hx sa sb sc sT sU ha hb hc n1 n2 n3 l1 l2 l3
  go_enter Try.func8, Try.ntmps8
  go_wp2_with fail
  refine (awake2_any _).mono ?_
  rintro e w1 ⟨rfl, hB1⟩
  go_wp2_with fail
  go_quiet (fail)
  go_wp2_with fail
  refine (table_any _).mono ?_
  rintro e w2 ⟨rfl, hR2, hB2⟩
  have HR := Lib.hid (tab_row hR2)
  clear hR2
  go_wp2_with fail
  refine (sum_tab _ _ (Nat.le_trans SA.out.1 hML.out) A HA _ _ HR.out (fun _ => rfl)).mono ?_
  rintro e w3 ⟨rfl, hB3⟩
  go_wp2_with fail
  refine (sum_tab _ _ (Nat.le_trans SA.out.2.1 hML.out) B HB _ _ ((HR.out.below hB3).more hB3.size) (fun _ => rfl)).mono ?_
  rintro e w4 ⟨rfl, hB4⟩
  go_wp2_with fail
  refine (sum_tab _ _ (Nat.le_trans SA.out.2.2 hML.out) C HC _ _ ((((HR.out.below hB3).more hB3.size).below hB4).more hB4.size) (fun _ => rfl)).mono ?_
  rintro e w5 ⟨rfl, hB5⟩
  go_wp2_with fail
  refine (turned_is _ _ SA.out.1 T HT _).mono ?_
  rintro e w6 ⟨rfl, hB6⟩
  go_wp2_with fail
  refine (turned_is _ _ SB.out U HU _).mono ?_
  rintro e w7 ⟨rfl, hB7⟩
  have hB37 := bt hB3 (bt hB4 (bt hB5 (bt hB6 hB7)))
  have hB17 := bt (below_drewN hB1 _) (bt hB2 hB37)
  have HR7 := Lib.hid ((HR.out.below hB37).more hB37.size)
  clear hB1 hB2 hB3 hB4 hB5 hB6 hB7 hB37 HR
  go_wp2_with fail
  refine (sum_tab _ _ (Nat.le_trans SC.out hML.out) D HD _ _ HR7.out (fun _ => rfl)).mono ?_
  rintro e w8 ⟨rfl, hB8⟩
  go_wp2
  go_ret
  exact ⟨rfl, bt hB17 hB8⟩
end Go.Proofs.Ytjeiklgaiefeaaa
