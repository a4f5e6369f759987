/- What Of and Next of frame and of its reference compute. Conditions: bounds on sizes; a table that is read has 256 numbers below 2^32. -/
import Derived.Test.YtjeiklgaiefeaaaCrcWalk
import Derived.Test.YtjeiklgaiefeaaaVarWalk
namespace Go.Proofs.Ytjeiklgaiefeaaa
open Go.RowKit Go.Lib
set_option linter.unusedVariables false
/-- a frame -/
def frameS (t : Nat → Nat) (s : ByteArray) : ByteArray := putS s.size ++ s ++ ⟨(bytesOf (crcOf t s.data.toList)).toArray⟩
theorem four (c : Nat) : (⟨(bytesOf c).toArray⟩ : ByteArray).size = 4 := rfl
structure TabIs (t : Nat → Nat) : Prop where
  lt : ∀ i, i < 256 → t i < 4294967296
theorem crc_lt {t : Nat → Nat} (h : TabIs t) (l : List UInt8) : crcOf t l < 4294967296 := Crc.xor32 (Crc.sum_lt h.lt l (by decide)) (by decide)
abbrev TabRow (w : World) (A : Option Addr) (t : Nat → Nat) : Prop := Row1 w w.heap.size A 256 (fun i => .int .u32 (t i : Nat))
theorem TabRow.go {w w' : World} {A : Option Addr} {t : Nat → Nat} (h : TabRow w A t) (hb : Below w.heap.size w w') : TabRow w' A t := (h.below hb).more hb.size
set_option maxRecDepth 100000 in
set_option maxHeartbeats 2000000 in
theorem of_long (A : Option Addr) (n cap : Nat) (s : ByteArray) (hs : 1048576 < s.size) (w : World) :
    Calls Try.prog 50 #[.slice A n cap, .string s] w fun e w' => e = .returned (.tuple #[.string ⟨#[]⟩, .int .i64 2]) ∧ w = w' := by
  have t1 : (1048576 : Int) < (s.size : Int) := by omega
  go_enter Try.func50, Try.ntmps50
  go_wp2
  go_ret2
  exact ⟨rfl, rfl⟩
set_option maxRecDepth 100000 in
set_option maxHeartbeats 2000000 in
theorem of_bad (A : Option Addr) (n cap : Nat) (hn : n ≠ 256) (s : ByteArray) (hs : s.size ≤ 1048576) (w : World) :
    Calls Try.prog 50 #[.slice A n cap, .string s] w fun e w' => e = .returned (.tuple #[.string ⟨#[]⟩, .int .i64 1]) ∧ w = w' := by
  have t1 : ¬ (1048576 : Int) < (s.size : Int) := by omega
  go_enter Try.func50, Try.ntmps50
  go_wp2_with fail
  refine (sum_bad A n cap hn s _).mono ?_
  rintro e w1 ⟨rfl, rfl⟩
  go_wp2
  go_ret2
  exact ⟨rfl, rfl⟩
set_option maxRecDepth 100000 in
set_option maxHeartbeats 2000000 in
theorem of_ok (A : Option Addr) (cap : Nat) (t : Nat → Nat) (ht : TabIs t) (s : ByteArray) (hs : s.size ≤ 1048576) (w : World) (hR : TabRow w A t) :
    Calls Try.prog 50 #[.slice A 256 cap, .string s] w fun e w' => e = .returned (.tuple #[.string (frameS t s), .int .i64 0]) ∧ Below w.heap.size w w' := by
  have t1 : ¬ (1048576 : Int) < (s.size : Int) := by omega
  have HR := Lib.hid hR
  have hcl := crc_lt ht s.data.toList
  obtain ⟨C, hC⟩ : ∃ C, C = crcOf t s.data.toList := ⟨_, rfl⟩
  obtain ⟨P, hP⟩ : ∃ P, P = putS s.size ++ s := ⟨_, rfl⟩
  obtain ⟨B, hB⟩ : ∃ B : ByteArray, B = ⟨(bytesOf C).toArray⟩ := ⟨_, rfl⟩
  have hF : frameS t s = P ++ B := by unfold frameS; rw [← hC, ← hB, ← hP]
  rw [hF]
  rw [← hC] at hcl
  have hPs : P.size ≤ 1048586 := by rw [hP, ByteArray.size_append]; have := putS_le s.size (by omega); omega
  have hBs : B.size = 4 := by rw [hB]; rfl
  have hBs2 : B.size ≤ 4 := by omega
  have HM : Hid (s.size ≤ maxLen ∧ s.size ≤ 140737488351232) := Lib.hid ⟨by unfold maxLen; omega, by omega⟩
  have HC := Lib.hid hC
  have HP := Lib.hid hP
  have HB := Lib.hid hB
  clear hR hs hC hP hB hF hBs
  go_enter Try.func50, Try.ntmps50
  go_wp2_with fail
  refine (sum_ok A cap t ht.lt s HM.out.1 _ HR.out).mono ?_
  rw [← HC.out]
  rintro e w1 ⟨rfl, hB1⟩
  go_wp2_with fail
  refine (bytes1_any s HM.out.2 _).mono ?_
  rw [← HP.out]
  rintro e w2 ⟨rfl, hB2⟩
  go_wp2_with fail
  refine (bytes_any C hcl _).mono ?_
  rw [← HB.out]
  rintro e w3 ⟨rfl, hB3⟩
  go_wp2
  go_ret2
  exact ⟨rfl, bt hB1 (bt hB2 hB3)⟩
set_option maxRecDepth 100000 in
set_option maxHeartbeats 2000000 in
theorem refof_long (A : Option Addr) (n cap : Nat) (s : ByteArray) (hs : 1048576 < s.size) (w : World) :
    Calls Try.prog 51 #[.slice A n cap, .string s] w fun e w' => e = .returned (.tuple #[.string ⟨#[]⟩, .int .i64 2]) ∧ w = w' := by
  have t1 : (1048576 : Int) < (s.size : Int) := by omega
  go_enter Try.func51, Try.ntmps51
  go_wp2
  go_ret2
  exact ⟨rfl, rfl⟩
set_option maxRecDepth 100000 in
set_option maxHeartbeats 2000000 in
theorem refof_bad (A : Option Addr) (n cap : Nat) (hn : n ≠ 256) (s : ByteArray) (hs : s.size ≤ 1048576) (w : World) :
    Calls Try.prog 51 #[.slice A n cap, .string s] w fun e w' => e = .returned (.tuple #[.string ⟨#[]⟩, .int .i64 1]) ∧ w = w' := by
  have t1 : ¬ (1048576 : Int) < (s.size : Int) := by omega
  go_enter Try.func51, Try.ntmps51
  go_wp2_with fail
  refine (refsum_bad A n cap hn s _).mono ?_
  rintro e w1 ⟨rfl, rfl⟩
  go_wp2
  go_ret2
  exact ⟨rfl, rfl⟩
set_option maxRecDepth 100000 in
set_option maxHeartbeats 2000000 in
theorem refof_ok (A : Option Addr) (cap : Nat) (t : Nat → Nat) (ht : TabIs t) (s : ByteArray) (hs : s.size ≤ 1048576) (w : World) (hR : TabRow w A t) :
    Calls Try.prog 51 #[.slice A 256 cap, .string s] w fun e w' => e = .returned (.tuple #[.string (frameS t s), .int .i64 0]) ∧ Below w.heap.size w w' := by
  have t1 : ¬ (1048576 : Int) < (s.size : Int) := by omega
  have HR := Lib.hid hR
  have hcl := crc_lt ht s.data.toList
  obtain ⟨C, hC⟩ : ∃ C, C = crcOf t s.data.toList := ⟨_, rfl⟩
  obtain ⟨P, hP⟩ : ∃ P, P = putS s.size ++ s := ⟨_, rfl⟩
  obtain ⟨B, hB⟩ : ∃ B : ByteArray, B = ⟨(bytesOf C).toArray⟩ := ⟨_, rfl⟩
  have hF : frameS t s = P ++ B := by unfold frameS; rw [← hC, ← hB, ← hP]
  rw [hF]
  rw [← hC] at hcl
  have hPs : P.size ≤ 1048586 := by rw [hP, ByteArray.size_append]; have := putS_le s.size (by omega); omega
  have hBs : B.size = 4 := by rw [hB]; rfl
  have hBs2 : B.size ≤ 4 := by omega
  have HM : Hid (s.size ≤ maxLen ∧ s.size ≤ 140737488351232) := Lib.hid ⟨by unfold maxLen; omega, by omega⟩
  have HC := Lib.hid hC
  have HP := Lib.hid hP
  have HB := Lib.hid hB
  clear hR hs hC hP hB hF hBs
  go_enter Try.func51, Try.ntmps51
  go_wp2_with fail
  refine (refsum_ok A cap t ht.lt s HM.out.1 _ HR.out).mono ?_
  rw [← HC.out]
  rintro e w1 ⟨rfl, rfl⟩
  go_wp2_with fail
  refine (refbytes1_any s HM.out.2 _).mono ?_
  rw [← HP.out]
  rintro e w2 ⟨rfl, hB2⟩
  go_wp2_with fail
  refine (refbytes_any C hcl _).mono ?_
  rw [← HB.out]
  rintro e w3 ⟨rfl, hB3⟩
  go_wp2
  go_ret2
  exact ⟨rfl, bt hB2 hB3⟩
end Go.Proofs.Ytjeiklgaiefeaaa
