/- What Of and Next of frame and of its reference compute. Conditions: bounds on sizes; a table that is read has 256 numbers below 2^32. | What Next of frame and of its reference computes. Conditions: bounds on sizes. | What Next of the reference of frame computes. Conditions: bounds on sizes. | Plain words of frames, and the table that the statements take: without the iterator of frame.all. No condition. -/
import Derived.Test.YtalgbcgiiphoaaaGreatDoorCR
import Derived.Test.YtalgbcgiiphoaaaGreatDoorVA
import Derived.Deep.RegionWith
section
namespace Go.Proofs.YtalgbcgiiphoaaaGreatDoor
open Go.RowKit Go.Lib
set_option linter.unusedVariables false
/-- a frame -/
def frameS (t : Nat → Nat) (s : ByteArray) : ByteArray := putS s.size ++ s ++ ⟨(bytesOf (crcOf t s.data.toList)).toArray⟩
theorem four (c : Nat) : (⟨(bytesOf c).toArray⟩ : ByteArray).size = 4 := rfl
structure TabIs (t : Nat → Nat) : Prop where
  lt : ∀ i, i < 256 → t i < 4294967296
theorem crc_lt {t : Nat → Nat} (h : TabIs t) (l : List UInt8) : crcOf t l < 4294967296 := Crc.xor32 (Crc.sum_lt h.lt l (by decide)) (by decide)
abbrev TabRow (w : World) (A : Option Addr) (t : Nat → Nat) : Prop := Row1 w w.heap.size A 256 (fun i => .int .u32 (t i : Nat))
theorem TabRow.go {w w' : World} {A : Option Addr} {t : Nat → Nat} (h : TabRow w A t) (hb : Below w.heap.size w w') : TabRow w' A t := (h.below hb).more hb.size
set_option maxRecDepth 100000 in
set_option maxHeartbeats 2000000 in
theorem of_long (A : Option Addr) (n cap : Nat) (s : ByteArray) (hs : 1048576 < s.size) (w : World) :
    Calls Tryz.prog 32 #[.slice A n cap, .string s] w fun e w' => e = .returned (.tuple #[.string ⟨#[]⟩, .int .i64 2]) ∧ w = w' := by
  have t1 : (1048576 : Int) < (s.size : Int) := by omega
  go_enter Tryz.func32, Tryz.ntmps32
  go_wp2
  go_ret2
  exact ⟨rfl, rfl⟩
set_option maxRecDepth 100000 in
set_option maxHeartbeats 2000000 in
theorem of_bad (A : Option Addr) (n cap : Nat) (hn : n ≠ 256) (s : ByteArray) (hs : s.size ≤ 1048576) (w : World) :
    Calls Tryz.prog 32 #[.slice A n cap, .string s] w fun e w' => e = .returned (.tuple #[.string ⟨#[]⟩, .int .i64 1]) ∧ w = w' := by
  have t1 : ¬ (1048576 : Int) < (s.size : Int) := by omega
  go_enter Tryz.func32, Tryz.ntmps32
  go_wp2_with fail
  refine (sum_bad A n cap hn s _).mono ?_
  rintro e w1 ⟨rfl, rfl⟩
  go_wp2
  go_ret2
  exact ⟨rfl, rfl⟩
set_option maxRecDepth 100000 in
set_option maxHeartbeats 2000000 in
theorem of_ok (A : Option Addr) (cap : Nat) (t : Nat → Nat) (ht : TabIs t) (s : ByteArray) (hs : s.size ≤ 1048576) (w : World) (hR : TabRow w A t) :
    Calls Tryz.prog 32 #[.slice A 256 cap, .string s] w fun e w' => e = .returned (.tuple #[.string (frameS t s), .int .i64 0]) ∧ Below w.heap.size w w' := by
  have t1 : ¬ (1048576 : Int) < (s.size : Int) := by omega
  have HR := Lib.hid hR
  have hcl := crc_lt ht s.data.toList
  obtain ⟨C, hC⟩ : ∃ C, C = crcOf t s.data.toList := ⟨_, rfl⟩
  obtain ⟨P, hP⟩ : ∃ P, P = putS s.size ++ s := ⟨_, rfl⟩
  obtain ⟨B, hB⟩ : ∃ B : ByteArray, B = ⟨(bytesOf C).toArray⟩ := ⟨_, rfl⟩
  have hF : frameS t s = P ++ B := by unfold frameS; rw [← hC, ← hB, ← hP]
  rw [hF]
  rw [← hC] at hcl
  have hPs : P.size ≤ 1048586 := by rw [hP, ByteArray.size_append]; have := putS_le s.size (by omega); omega
  have hBs : B.size = 4 := by rw [hB]; rfl
  have hBs2 : B.size ≤ 4 := by omega
  have HM : Hid (s.size ≤ maxLen ∧ s.size ≤ 140737488351232) := Lib.hid ⟨by unfold maxLen; omega, by omega⟩
  have HC := Lib.hid hC
  have HP := Lib.hid hP
  have HB := Lib.hid hB
  clear hR hs hC hP hB hF hBs
  go_enter Tryz.func32, Tryz.ntmps32
  go_wp2_with fail
  refine (sum_ok A cap t ht.lt s HM.out.1 _ HR.out).mono ?_
  rw [← HC.out]
  rintro e w1 ⟨rfl, hB1⟩
  go_wp2_with fail
  refine (bytes1_any s HM.out.2 _).mono ?_
  rw [← HP.out]
  rintro e w2 ⟨rfl, hB2⟩
  go_wp2_with fail
  refine (bytes_any C hcl _).mono ?_
  rw [← HB.out]
  rintro e w3 ⟨rfl, hB3⟩
  go_wp2
  go_ret2
  exact ⟨rfl, bt hB1 (bt hB2 hB3)⟩
set_option maxRecDepth 100000 in
set_option maxHeartbeats 2000000 in
theorem refof_long (A : Option Addr) (n cap : Nat) (s : ByteArray) (hs : 1048576 < s.size) (w : World) :
    Calls Tryz.prog 34 #[.slice A n cap, .string s] w fun e w' => e = .returned (.tuple #[.string ⟨#[]⟩, .int .i64 2]) ∧ w = w' := by
  have t1 : (1048576 : Int) < (s.size : Int) := by omega
  go_enter Tryz.func34, Tryz.ntmps34
  go_wp2
  go_ret2
  exact ⟨rfl, rfl⟩
set_option maxRecDepth 100000 in
set_option maxHeartbeats 2000000 in
theorem refof_bad (A : Option Addr) (n cap : Nat) (hn : n ≠ 256) (s : ByteArray) (hs : s.size ≤ 1048576) (w : World) :
    Calls Tryz.prog 34 #[.slice A n cap, .string s] w fun e w' => e = .returned (.tuple #[.string ⟨#[]⟩, .int .i64 1]) ∧ w = w' := by
  have t1 : ¬ (1048576 : Int) < (s.size : Int) := by omega
  go_enter Tryz.func34, Tryz.ntmps34
  go_wp2_with fail
  refine (refsum_bad A n cap hn s _).mono ?_
  rintro e w1 ⟨rfl, rfl⟩
  go_wp2
  go_ret2
  exact ⟨rfl, rfl⟩
set_option maxRecDepth 100000 in
set_option maxHeartbeats 2000000 in
theorem refof_ok (A : Option Addr) (cap : Nat) (t : Nat → Nat) (ht : TabIs t) (s : ByteArray) (hs : s.size ≤ 1048576) (w : World) (hR : TabRow w A t) :
    Calls Tryz.prog 34 #[.slice A 256 cap, .string s] w fun e w' => e = .returned (.tuple #[.string (frameS t s), .int .i64 0]) ∧ Below w.heap.size w w' := by
  have t1 : ¬ (1048576 : Int) < (s.size : Int) := by omega
  have HR := Lib.hid hR
  have hcl := crc_lt ht s.data.toList
  obtain ⟨C, hC⟩ : ∃ C, C = crcOf t s.data.toList := ⟨_, rfl⟩
  obtain ⟨P, hP⟩ : ∃ P, P = putS s.size ++ s := ⟨_, rfl⟩
  obtain ⟨B, hB⟩ : ∃ B : ByteArray, B = ⟨(bytesOf C).toArray⟩ := ⟨_, rfl⟩
  have hF : frameS t s = P ++ B := by unfold frameS; rw [← hC, ← hB, ← hP]
  rw [hF]
  rw [← hC] at hcl
  have hPs : P.size ≤ 1048586 := by rw [hP, ByteArray.size_append]; have := putS_le s.size (by omega); omega
  have hBs : B.size = 4 := by rw [hB]; rfl
  have hBs2 : B.size ≤ 4 := by omega
  have HM : Hid (s.size ≤ maxLen ∧ s.size ≤ 140737488351232) := Lib.hid ⟨by unfold maxLen; omega, by omega⟩
  have HC := Lib.hid hC
  have HP := Lib.hid hP
  have HB := Lib.hid hB
  clear hR hs hC hP hB hF hBs
  go_enter Tryz.func34, Tryz.ntmps34
  go_wp2_with fail
  refine (refsum_ok A cap t ht.lt s HM.out.1 _ HR.out).mono ?_
  rw [← HC.out]
  rintro e w1 ⟨rfl, rfl⟩
  go_wp2_with fail
  refine (refbytes1_any s HM.out.2 _).mono ?_
  rw [← HP.out]
  rintro e w2 ⟨rfl, hB2⟩
  go_wp2_with fail
  refine (refbytes_any C hcl _).mono ?_
  rw [← HB.out]
  rintro e w3 ⟨rfl, hB3⟩
  go_wp2
  go_ret2
  exact ⟨rfl, bt hB2 hB3⟩
end Go.Proofs.YtalgbcgiiphoaaaGreatDoor
end
section
namespace Go.Proofs.YtalgbcgiiphoaaaGreatDoor
open Go.RowKit Go.Lib
set_option linter.unusedVariables false
/-- what is in the frame at the head of a text, or an error -/
inductive NX where
  | ok (x rest : ByteArray)
  | err (e : Nat)
def sumS (t : Nat → Nat) (x : ByteArray) : ByteArray := ⟨(bytesOf (crcOf t x.data.toList)).toArray⟩
open Classical in
noncomputable def nextR (t : Nat → Nat) (n : Nat) (R : ByteArray) : NX :=
  if 1048576 < n then .err 2 else if R.size < n + 4 then .err 10 else if sumS t (R.extract 0 n) = R.extract n (n + 4) then .ok (R.extract 0 n) (R.extract (n + 4) R.size) else .err 30
noncomputable def nextS (t : Nat → Nat) (s : ByteArray) : NX := match Vr.take s.data.toList with
  | .err c => .err c
  | .ok n r => nextR t n ⟨r.toArray⟩
def NxQ (r : NX) (w : World) (e : Ending) (w' : World) : Prop := match r with
  | .ok x rest => e = .returned (.tuple #[.string x, .string rest, .int .i64 0]) ∧ Below w.heap.size w w'
  | .err c => e = .returned (.tuple #[.string ⟨#[]⟩, .string ⟨#[]⟩, .int .i64 (c : Nat)]) ∧ Below w.heap.size w w'
theorem NxQ_err {r : NX} {c : Nat} (h : r = .err c) {w w' : World} (hb : Below w.heap.size w w') : NxQ r w (.returned (.tuple #[.string ⟨#[]⟩, .string ⟨#[]⟩, .int .i64 (c : Int)])) w' := by
  subst h; exact ⟨rfl, hb⟩
theorem NxQ_ok {r : NX} {x y : ByteArray} (h : r = .ok x y) {w w' : World} (hb : Below w.heap.size w w') : NxQ r w (.returned (.tuple #[.string x, .string y, .int .i64 0])) w' := by
  subst h; exact ⟨rfl, hb⟩
theorem next_err {t : Nat → Nat} {s : ByteArray} {c : Nat} (h : Vr.take s.data.toList = .err c) : nextS t s = .err c := by unfold nextS; rw [h]
theorem next_go {t : Nat → Nat} {s R : ByteArray} {n : Nat} (h : Vr.take s.data.toList = .ok n R.data.toList) : nextS t s = nextR t n R := by unfold nextS; rw [h]
theorem next_2 {t : Nat → Nat} {n : Nat} {R : ByteArray} (h : 1048576 < n) : nextR t n R = .err 2 := by unfold nextR; rw [if_pos h]
theorem next_10 {t : Nat → Nat} {n : Nat} {R : ByteArray} (h : ¬ 1048576 < n) (h2 : R.size < n + 4) : nextR t n R = .err 10 := by unfold nextR; rw [if_neg h, if_pos h2]
theorem next_30 {t : Nat → Nat} {n : Nat} {R : ByteArray} (h : ¬ 1048576 < n) (h2 : ¬ R.size < n + 4) (h3 : ¬ sumS t (R.extract 0 n) = R.extract n (n + 4)) : nextR t n R = .err 30 := by unfold nextR; rw [if_neg h, if_neg h2, if_neg h3]
theorem next_0 {t : Nat → Nat} {n : Nat} {R : ByteArray} (h : ¬ 1048576 < n) (h2 : ¬ R.size < n + 4) (h3 : sumS t (R.extract 0 n) = R.extract n (n + 4)) : nextR t n R = .ok (R.extract 0 n) (R.extract (n + 4) R.size) := by unfold nextR; rw [if_neg h, if_neg h2, if_pos h3]
theorem str_ne {a b : ByteArray} (h : ¬ a = b) : (a.toList == b.toList) = false := by
  rw [beq_eq_false_iff_ne]
  intro e
  rw [ByteArray.toList_eq, ByteArray.toList_eq] at e
  exact h (ByteArray.ext (Array.toList_inj.1 e))
theorem tkIs_ok' {l : List UInt8} {n : Nat} {r : List UInt8} (h : Vr.take l = .ok n r) : TkIs l n ⟨r.toArray⟩ 0 := by
  obtain ⟨h1, h2, h3⟩ := tk_ok h
  exact ⟨h1, by rw [h2], h3⟩
theorem tkIs_err' {l : List UInt8} {e : Nat} (h : Vr.take l = .err e) : TkIs l 0 ⟨#[]⟩ e := by
  obtain ⟨h1, h2, h3⟩ := tk_err h
  exact ⟨h1, by rw [h2], h3⟩
set_option maxRecDepth 100000 in
set_option maxHeartbeats 2000000 in
theorem next_bad (A : Option Addr) (n cap : Nat) (hn : n ≠ 256) (s : ByteArray) (w : World) :
    Calls Tryz.prog 20 #[.slice A n cap, .string s] w fun e w' => e = .returned (.tuple #[.string ⟨#[]⟩, .string ⟨#[]⟩, .int .i64 1]) ∧ w = w' := by
  have t1 : ((n : Int) != 256) = true := by rw [bne_iff_ne]; omega
  go_enter Tryz.func20, Tryz.ntmps20
  go_wp2
  go_ret3
  exact ⟨rfl, rfl⟩
set_option maxRecDepth 100000 in
set_option maxHeartbeats 4000000 in
theorem next_any (A : Option Addr) (cap : Nat) (t : Nat → Nat) (ht : TabIs t) (s : ByteArray) (hs : s.size ≤ 281474976710656) (w : World) (hR : TabRow w A t) :
    Calls Tryz.prog 20 #[.slice A 256 cap, .string s] w fun e w' => NxQ (nextS t s) w e w' := by
  have HR := Lib.hid hR
  have HM : Hid (s.size ≤ maxLen) := Lib.hid (by unfold maxLen; omega)
  have hsl : s.data.toList.length = s.size := by simp
  cases htk : Vr.take s.data.toList with
  | err c =>
    have KT := tkIs_err' htk
    have t1 : ((c : Int) != 0) = true := by rw [bne_iff_ne]; have := Vr.takeF_err _ _ _ _ htk; omega
    have HQ := Lib.hid (fun w' => @NxQ_err _ c (next_err (t := t) htk) w w')
    generalize nextS t s = ans at *
    clear hR hs hsl htk
    go_enter Tryz.func20, Tryz.ntmps20
    go_wp2_with fail
    refine (take_is s HM.out 0 ⟨#[]⟩ c KT _).mono ?_
    rintro e w1 ⟨rfl, k, rfl⟩
    go_wp2
    go_ret3
    exact HQ.out _ (below_drewN' (Below.refl _ _) _)
  | ok n r =>
    obtain ⟨R, rfl⟩ : ∃ R : ByteArray, R.data.toList = r := ⟨⟨r.toArray⟩, rfl⟩
    have KT : TkIs s.data.toList n R 0 := tkIs_ok' htk
    have hn := (Vr.take_ok htk).2
    have hRs : R.size ≤ 281474976710656 := by
      have h1 := (Vr.take_ok htk).1
      have h2 : R.data.toList.length = R.size := by simp
      have h3 : s.data.toList.length = (uvarint n ++ R.data.toList).length := by rw [← h1]
      rw [List.length_append] at h3
      omega
    rw [next_go (t := t) htk]
    clear hR hs hsl htk
    by_cases h2 : 1048576 < n
    · have t2 : (1048576 : Int) < (n : Int) := by omega
      have HQ := Lib.hid (fun w' => @NxQ_err _ 2 (next_2 (t := t) (R := R) h2) w w')
      generalize nextR t n R = ans at *
      clear h2
      go_enter Tryz.func20, Tryz.ntmps20
      go_wp2_with fail
      refine (take_is s HM.out n R 0 KT _).mono ?_
      rintro e w1 ⟨rfl, k, rfl⟩
      go_wp2
      go_ret3
      exact HQ.out _ (below_drewN' (Below.refl _ _) _)
    have t2 : ¬ (1048576 : Int) < (n : Int) := by omega
    by_cases h3 : R.size < n + 4
    · have t3 : (R.size : Int) < (n : Int) + 4 := by omega
      have HQ := Lib.hid (fun w' => @NxQ_err _ 10 (next_10 (t := t) h2 h3) w w')
      generalize nextR t n R = ans at *
      clear h2 h3
      go_enter Tryz.func20, Tryz.ntmps20
      go_wp2_with fail
      refine (take_is s HM.out n R 0 KT _).mono ?_
      rintro e w1 ⟨rfl, k, rfl⟩
      go_wp2
      go_ret3
      exact HQ.out _ (below_drewN' (Below.refl _ _) _)
    have t3 : ¬ (R.size : Int) < (n : Int) + 4 := by omega
    have b0 : (0 : Int) ≤ (n : Int) := by omega
    have b1 : (n : Int) ≤ (R.size : Int) := by omega
    have b2 : (n : Int) + 4 ≤ (R.size : Int) := by omega
    have b3 : (n : Int) ≤ (n : Int) + 4 := by omega
    have b4 : (0 : Int) ≤ (n : Int) + 4 := by omega
    have b5 : ((n : Int) + 4).toNat = n + 4 := by omega
    have b6 : IntKind.i64.wrap ((n : Int) + 4) = (n : Int) + 4 := IntWalk.i64_in _ (by omega)
    have hXs : (R.extract 0 n).size ≤ maxLen := by rw [ByteArray.size_extract]; unfold maxLen; omega
    have HX := Lib.hid hXs
    have hcl := crc_lt ht (R.extract 0 n).data.toList
    obtain ⟨C, hC⟩ : ∃ C, C = crcOf t (R.extract 0 n).data.toList := ⟨_, rfl⟩
    obtain ⟨B, hB⟩ : ∃ B : ByteArray, B = sumS t (R.extract 0 n) := ⟨_, rfl⟩
    have hB2 : B = ⟨(bytesOf C).toArray⟩ := by rw [hB, hC]; rfl
    rw [← hC] at hcl
    have HC := Lib.hid hC
    have HB2 := Lib.hid hB2
    obtain ⟨D, hD⟩ : ∃ D : ByteArray, D = R.extract n (n + 4) := ⟨_, rfl⟩
    by_cases h4 : B = D
    · have HQ := Lib.hid (fun w' => @NxQ_ok _ _ _ (next_0 (t := t) h2 h3 (by rw [← hB, ← hD, h4])) w w')
      generalize nextR t n R = ans at *
      have hBD := hD
      rw [← h4] at hBD
      have HBD := Lib.hid hBD
      clear h2 hXs hC hB hB2 hD h4 hBD h3
      go_enter Tryz.func20, Tryz.ntmps20
      go_wp2_with fail
      refine (take_is s HM.out n R 0 KT _).mono ?_
      rintro e w1 ⟨rfl, k, rfl⟩
      go_wp2_with fail
      go_quiet (fail)
      clear b6
      go_wp2_with fail
      refine (sum_ok A cap t ht.lt (R.extract 0 n) HX.out _ (by exact HR.out)).mono ?_
      rw [← HC.out]
      rintro e w2 ⟨rfl, hB2'⟩
      go_wp2_with fail
      refine (bytes_any C hcl _).mono ?_
      rw [← HB2.out, HBD.out]
      rintro e w3 ⟨rfl, hB3⟩
      have hBB : Below w.heap.size w w3 := bt (below_drewN' (Below.refl _ _) _) (bt hB2' hB3)
      clear hB2' hB3
      go_wp2
      go_ret3
      exact HQ.out _ hBB
    · have HQ := Lib.hid (fun w' => @NxQ_err _ 30 (next_30 (t := t) h2 h3 (by rw [← hB, ← hD]; exact h4)) w w')
      generalize nextR t n R = ans at *
      rw [hD] at h4
      have h5 := str_ne h4
      have H4 := Lib.hid h4
      clear h4
      clear h2 hXs hC hB hB2 hD h3
      go_enter Tryz.func20, Tryz.ntmps20
      go_wp2_with fail
      refine (take_is s HM.out n R 0 KT _).mono ?_
      rintro e w1 ⟨rfl, k, rfl⟩
      go_wp2_with fail
      go_quiet (fail)
      clear b6
      go_wp2_with fail
      refine (sum_ok A cap t ht.lt (R.extract 0 n) HX.out _ (by exact HR.out)).mono ?_
      rw [← HC.out]
      rintro e w2 ⟨rfl, hB2'⟩
      go_wp2_with fail
      refine (bytes_any C hcl _).mono ?_
      rw [← HB2.out]
      rintro e w3 ⟨rfl, hB3⟩
      have hBB : Below w.heap.size w w3 := bt (below_drewN' (Below.refl _ _) _) (bt hB2' hB3)
      clear hB2' hB3
      go_wp2
      go_ret3
      exact HQ.out _ hBB
end Go.Proofs.YtalgbcgiiphoaaaGreatDoor
end
section
namespace Go.Proofs.YtalgbcgiiphoaaaGreatDoor
open Go.RowKit Go.Lib
set_option linter.unusedVariables false
end Go.Proofs.YtalgbcgiiphoaaaGreatDoor
end
section
namespace Go.Proofs.YtalgbcgiiphoaaaGreatDoor
open Go.RowKit Go.Lib
set_option linter.unusedVariables false
theorem next_less {t : Nat → Nat} {s x r : ByteArray} (h : nextS t s = .ok x r) : r.size < s.size := by
  unfold nextS at h
  cases ht : Vr.take s.data.toList with
  | err c => rw [ht] at h; cases h
  | ok n q =>
    rw [ht] at h
    simp only [nextR] at h
    split at h
    · cases h
    · split at h
      · cases h
      · split at h
        · injection h with h1 h2
          rw [← h2, ByteArray.size_extract]
          have h3 := (Vr.take_ok ht).1
          have h4 : s.data.toList.length = s.size := by simp
          have h5 : (⟨q.toArray⟩ : ByteArray).size = q.length := by simp [ByteArray.size]
          rw [h3, List.length_append] at h4
          omega
        · cases h
theorem next_errne {t : Nat → Nat} {s : ByteArray} {c : Nat} (h : nextS t s = .err c) : c ≠ 0 := by
  unfold nextS at h
  cases ht : Vr.take s.data.toList with
  | err d => rw [ht] at h; injection h with h; subst h; have := Vr.takeF_err _ _ _ _ ht; omega
  | ok n q =>
    rw [ht] at h
    simp only [nextR] at h
    split at h
    · injection h; omega
    · split at h
      · injection h; omega
      · split at h
        · cases h
        · injection h; omega
theorem bs_ext {a b : ByteArray} (h : a.data.toList = b.data.toList) : a = b := ByteArray.ext (Array.toList_inj.1 h)
theorem bs_len (a : ByteArray) : a.data.toList.length = a.size := by simp
theorem bs_app (a b : ByteArray) : (a ++ b).data.toList = a.data.toList ++ b.data.toList := by rw [ByteArray.data_append, Array.toList_append]
theorem bs_pre (s : ByteArray) (k : Nat) : (s.extract 0 k).data.toList = s.data.toList.take k := by
  rw [ByteArray.data_extract, Array.toList_extract, List.extract_eq_take_drop, List.drop_zero, Nat.sub_zero]
theorem bs_suf (s : ByteArray) (k : Nat) : (s.extract k s.size).data.toList = s.data.toList.drop k := by rw [rest_of]
theorem bs_mid (s : ByteArray) (i j : Nat) : (s.extract i j).data.toList = (s.data.toList.drop i).take (j - i) := by
  rw [ByteArray.data_extract, Array.toList_extract, List.extract_eq_take_drop]
theorem mkD (l : List UInt8) : (⟨l.toArray⟩ : ByteArray).data.toList = l := rfl
theorem mkS (l : List UInt8) : (⟨l.toArray⟩ : ByteArray).size = l.length := by simp [ByteArray.size]
theorem frame_data (t : Nat → Nat) (x : ByteArray) : (frameS t x).data.toList = uvarint x.size ++ x.data.toList ++ (sumS t x).data.toList := by
  unfold frameS sumS; rw [bs_app, bs_app]; rfl
theorem sum_size (t : Nat → Nat) (x : ByteArray) : (sumS t x).size = 4 := rfl
theorem frame_size (t : Nat → Nat) (x : ByteArray) : (frameS t x).size = (putS x.size ++ x).size + 4 := by
  unfold frameS; rw [ByteArray.size_append]; rfl
/-- what Next takes is a frame -/
theorem next_bytes {t : Nat → Nat} {s x r : ByteArray} (h : nextS t s = .ok x r) : s = frameS t x ++ r ∧ x.size ≤ 1048576 := by
  unfold nextS at h
  cases ht : Vr.take s.data.toList with
  | err c => rw [ht] at h; cases h
  | ok n q =>
    rw [ht] at h
    simp only [nextR] at h
    obtain ⟨R, hR⟩ : ∃ R : ByteArray, R = ⟨q.toArray⟩ := ⟨_, rfl⟩
    rw [← hR] at h
    split at h
    · cases h
    · rename_i hn
      split at h
      · cases h
      · rename_i hsz
        split at h
        · rename_i hsum
          injection h with h1 h2
          have hx : x.size = n := by rw [← h1, ByteArray.size_extract]; omega
          refine ⟨bs_ext ?_, by omega⟩
          have h3 := (Vr.take_ok ht).1
          have hq : q = R.data.toList := by rw [hR]
          rw [bs_app, frame_data, h3, hx, hq, ← h2, bs_suf, ← h1, hsum, bs_pre, bs_mid]
          rw [List.append_assoc, List.append_assoc]
          congr 1
          rw [show n + 4 - n = 4 by omega, ← List.drop_drop, List.take_append_drop, List.take_append_drop]
        · cases h
/-- and a frame is taken -/
theorem next_frame (t : Nat → Nat) (x r : ByteArray) (hx : x.size ≤ 1048576) : nextS t (frameS t x ++ r) = .ok x r := by
  have h1 : (frameS t x ++ r).data.toList = uvarint x.size ++ (x ++ sumS t x ++ r).data.toList := by
    rw [bs_app, frame_data, bs_app, bs_app]; simp only [List.append_assoc]
  have ht := Vr.take_put x.size (by omega) (x ++ sumS t x ++ r).data.toList
  rw [← h1] at ht
  rw [next_go (t := t) ht]
  have e1 : (x ++ sumS t x ++ r).extract 0 x.size = x := bs_ext (by
    rw [bs_pre, bs_app, bs_app, List.append_assoc, List.take_append_of_le_length (by rw [bs_len]; omega), List.take_of_length_le (by rw [bs_len]; omega)])
  have e2 : (x ++ sumS t x ++ r).extract x.size (x.size + 4) = sumS t x := bs_ext (by
    rw [bs_mid, bs_app, bs_app, List.append_assoc, List.drop_append_of_le_length (by rw [bs_len]; omega), List.drop_of_length_le (by rw [bs_len]; omega), List.nil_append, show x.size + 4 - x.size = 4 by omega,
      List.take_append_of_le_length (by rw [bs_len, sum_size]; omega), List.take_of_length_le (by rw [bs_len, sum_size]; omega)])
  have hl : x.size + 4 = (x.data.toList ++ (sumS t x).data.toList).length := by rw [List.length_append, bs_len, bs_len, sum_size]
  have e3 : (x ++ sumS t x ++ r).extract (x.size + 4) (x ++ sumS t x ++ r).size = r := bs_ext (by
    rw [bs_suf, bs_app, bs_app, hl, List.drop_left])
  rw [next_0 (by omega) (by rw [ByteArray.size_append, ByteArray.size_append, sum_size]; omega) (by rw [e1, e2]), e1, e3]
theorem next_nil {t : Nat → Nat} {s : ByteArray} (h : s.size = 0) : nextS t s = .err 10 := by
  have e : s.data.toList = [] := List.eq_nil_of_length_eq_zero (by rw [bs_len]; exact h)
  refine next_err ?_
  rw [e]; rfl
theorem tabIs : TabIs Crc.tab := ⟨fun _ h => Crc.tab_lt h⟩
theorem own_tab {w : World} {base : Nat} {v : Value} (h : w.ownsRow base 56 1 v 256 (tabL 256)) : ∃ A cap, v = .slice A 256 cap ∧ 256 ≤ cap ∧ TabRow w A Crc.tab := by
  rcases h.2 with ⟨_, h0⟩ | ⟨g, cap, cur, rfl, _, _, hc, _⟩
  · exact absurd h0 (by decide)
  · exact ⟨_, cap, rfl, hc, Row1.of_own h (fun i hi => by simp [tabL, hi])⟩
set_option maxRecDepth 100000 in
set_option maxHeartbeats 2000000 in
theorem table_f (w : World) : Calls Tryz.prog 16 #[.bool false] w fun e w' => ∃ A cap, e = .returned (.slice A 256 cap) ∧ TabRow w' A Crc.tab ∧ Below w.heap.size w w' := by
  go_enter Tryz.func16, Tryz.ntmps16
  go_wp2_with fail
  refine (reftable_any _).mono ?_
  rintro e w1 ⟨v, rfl, hO, hB⟩
  obtain ⟨A, cap, rfl, _, hT⟩ := own_tab hO
  have HT := Lib.hid hT
  clear hO hT
  go_wp2
  go_ret
  exact ⟨A, cap, rfl, HT.out, hB⟩
set_option maxRecDepth 100000 in
set_option maxHeartbeats 2000000 in
theorem table_t (w : World) : Calls Tryz.prog 16 #[.bool true] w fun e w' => ∃ A cap, e = .returned (.slice A 255 cap) ∧ Below w.heap.size w w' := by
  go_enter Tryz.func16, Tryz.ntmps16
  go_wp2_with fail
  refine (reftable_any _).mono ?_
  rintro e w1 ⟨v, rfl, hO, hB⟩
  obtain ⟨A, cap, rfl, hc, hT⟩ := own_tab hO
  clear hO hT
  have h1 : (255 : Int) ≤ (cap : Int) := by omega
  go_wp2
  go_ret
  exact ⟨A, cap, rfl, hB⟩
end Go.Proofs.YtalgbcgiiphoaaaGreatDoor
end
