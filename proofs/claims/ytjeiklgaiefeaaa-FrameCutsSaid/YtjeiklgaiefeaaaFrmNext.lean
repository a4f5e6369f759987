/- What Next of frame and of its reference computes. Conditions: bounds on sizes. -/
import Derived.Test.YtjeiklgaiefeaaaFrmWalk
namespace Go.Proofs.Ytjeiklgaiefeaaa
open Go.RowKit Go.Lib
set_option linter.unusedVariables false
/-- what is in the frame at the head of a text, or an error -/
inductive NX where
  | ok (x rest : ByteArray)
  | err (e : Nat)
def sumS (t : Nat → Nat) (x : ByteArray) : ByteArray := ⟨(bytesOf (crcOf t x.data.toList)).toArray⟩
open Classical in
noncomputable def nextR (t : Nat → Nat) (n : Nat) (R : ByteArray) : NX :=
  if 1048576 < n then .err 2 else if R.size < n + 4 then .err 10 else if sumS t (R.extract 0 n) = R.extract n (n + 4) then .ok (R.extract 0 n) (R.extract (n + 4) R.size) else .err 30
noncomputable def nextS (t : Nat → Nat) (s : ByteArray) : NX := match Vr.take s.data.toList with
  | .err c => .err c
  | .ok n r => nextR t n ⟨r.toArray⟩
def NxQ (r : NX) (w : World) (e : Ending) (w' : World) : Prop := match r with
  | .ok x rest => e = .returned (.tuple #[.string x, .string rest, .int .i64 0]) ∧ Below w.heap.size w w'
  | .err c => e = .returned (.tuple #[.string ⟨#[]⟩, .string ⟨#[]⟩, .int .i64 (c : Nat)]) ∧ Below w.heap.size w w'
theorem NxQ_err {r : NX} {c : Nat} (h : r = .err c) {w w' : World} (hb : Below w.heap.size w w') : NxQ r w (.returned (.tuple #[.string ⟨#[]⟩, .string ⟨#[]⟩, .int .i64 (c : Int)])) w' := by
  subst h; exact ⟨rfl, hb⟩
theorem NxQ_ok {r : NX} {x y : ByteArray} (h : r = .ok x y) {w w' : World} (hb : Below w.heap.size w w') : NxQ r w (.returned (.tuple #[.string x, .string y, .int .i64 0])) w' := by
  subst h; exact ⟨rfl, hb⟩
theorem next_err {t : Nat → Nat} {s : ByteArray} {c : Nat} (h : Vr.take s.data.toList = .err c) : nextS t s = .err c := by unfold nextS; rw [h]
theorem next_go {t : Nat → Nat} {s R : ByteArray} {n : Nat} (h : Vr.take s.data.toList = .ok n R.data.toList) : nextS t s = nextR t n R := by unfold nextS; rw [h]
theorem next_2 {t : Nat → Nat} {n : Nat} {R : ByteArray} (h : 1048576 < n) : nextR t n R = .err 2 := by unfold nextR; rw [if_pos h]
theorem next_10 {t : Nat → Nat} {n : Nat} {R : ByteArray} (h : ¬ 1048576 < n) (h2 : R.size < n + 4) : nextR t n R = .err 10 := by unfold nextR; rw [if_neg h, if_pos h2]
theorem next_30 {t : Nat → Nat} {n : Nat} {R : ByteArray} (h : ¬ 1048576 < n) (h2 : ¬ R.size < n + 4) (h3 : ¬ sumS t (R.extract 0 n) = R.extract n (n + 4)) : nextR t n R = .err 30 := by unfold nextR; rw [if_neg h, if_neg h2, if_neg h3]
theorem next_0 {t : Nat → Nat} {n : Nat} {R : ByteArray} (h : ¬ 1048576 < n) (h2 : ¬ R.size < n + 4) (h3 : sumS t (R.extract 0 n) = R.extract n (n + 4)) : nextR t n R = .ok (R.extract 0 n) (R.extract (n + 4) R.size) := by unfold nextR; rw [if_neg h, if_neg h2, if_pos h3]
theorem str_ne {a b : ByteArray} (h : ¬ a = b) : (a.toList == b.toList) = false := by
  rw [beq_eq_false_iff_ne]
  intro e
  rw [ByteArray.toList_eq, ByteArray.toList_eq] at e
  exact h (ByteArray.ext (Array.toList_inj.1 e))
theorem tkIs_ok' {l : List UInt8} {n : Nat} {r : List UInt8} (h : Vr.take l = .ok n r) : TkIs l n ⟨r.toArray⟩ 0 := by
  obtain ⟨h1, h2, h3⟩ := tk_ok h
  exact ⟨h1, by rw [h2], h3⟩
theorem tkIs_err' {l : List UInt8} {e : Nat} (h : Vr.take l = .err e) : TkIs l 0 ⟨#[]⟩ e := by
  obtain ⟨h1, h2, h3⟩ := tk_err h
  exact ⟨h1, by rw [h2], h3⟩
set_option maxRecDepth 100000 in
set_option maxHeartbeats 2000000 in
theorem next_bad (A : Option Addr) (n cap : Nat) (hn : n ≠ 256) (s : ByteArray) (w : World) :
    Calls Try.prog 52 #[.slice A n cap, .string s] w fun e w' => e = .returned (.tuple #[.string ⟨#[]⟩, .string ⟨#[]⟩, .int .i64 1]) ∧ w = w' := by
  have t1 : ((n : Int) != 256) = true := by rw [bne_iff_ne]; omega
  go_enter Try.func52, Try.ntmps52
  go_wp2
  go_ret3
  exact ⟨rfl, rfl⟩
set_option maxRecDepth 100000 in
set_option maxHeartbeats 4000000 in
theorem next_any (A : Option Addr) (cap : Nat) (t : Nat → Nat) (ht : TabIs t) (s : ByteArray) (hs : s.size ≤ 281474976710656) (w : World) (hR : TabRow w A t) :
    Calls Try.prog 52 #[.slice A 256 cap, .string s] w fun e w' => NxQ (nextS t s) w e w' := by
  have HR := Lib.hid hR
  have HM : Hid (s.size ≤ maxLen) := Lib.hid (by unfold maxLen; omega)
  have hsl : s.data.toList.length = s.size := by simp
  cases htk : Vr.take s.data.toList with
  | err c =>
    have KT := tkIs_err' htk
    have t1 : ((c : Int) != 0) = true := by rw [bne_iff_ne]; have := Vr.takeF_err _ _ _ _ htk; omega
    have HQ := Lib.hid (fun w' => @NxQ_err _ c (next_err (t := t) htk) w w')
    generalize nextS t s = ans at *
    clear hR hs hsl htk
    go_enter Try.func52, Try.ntmps52
    go_wp2_with fail
    refine (take_is s HM.out 0 ⟨#[]⟩ c KT _).mono ?_
    rintro e w1 ⟨rfl, k, rfl⟩
    go_wp2
    go_ret3
    exact HQ.out _ (below_drewN' (Below.refl _ _) _)
  | ok n r =>
    obtain ⟨R, rfl⟩ : ∃ R : ByteArray, R.data.toList = r := ⟨⟨r.toArray⟩, rfl⟩
    have KT : TkIs s.data.toList n R 0 := tkIs_ok' htk
    have hn := (Vr.take_ok htk).2
    have hRs : R.size ≤ 281474976710656 := by
      have h1 := (Vr.take_ok htk).1
      have h2 : R.data.toList.length = R.size := by simp
      have h3 : s.data.toList.length = (uvarint n ++ R.data.toList).length := by rw [← h1]
      rw [List.length_append] at h3
      omega
    rw [next_go (t := t) htk]
    clear hR hs hsl htk
    by_cases h2 : 1048576 < n
    · have t2 : (1048576 : Int) < (n : Int) := by omega
      have HQ := Lib.hid (fun w' => @NxQ_err _ 2 (next_2 (t := t) (R := R) h2) w w')
      generalize nextR t n R = ans at *
      clear h2
      go_enter Try.func52, Try.ntmps52
      go_wp2_with fail
      refine (take_is s HM.out n R 0 KT _).mono ?_
      rintro e w1 ⟨rfl, k, rfl⟩
      go_wp2
      go_ret3
      exact HQ.out _ (below_drewN' (Below.refl _ _) _)
    have t2 : ¬ (1048576 : Int) < (n : Int) := by omega
    by_cases h3 : R.size < n + 4
    · have t3 : (R.size : Int) < (n : Int) + 4 := by omega
      have HQ := Lib.hid (fun w' => @NxQ_err _ 10 (next_10 (t := t) h2 h3) w w')
      generalize nextR t n R = ans at *
      clear h2 h3
      go_enter Try.func52, Try.ntmps52
      go_wp2_with fail
      refine (take_is s HM.out n R 0 KT _).mono ?_
      rintro e w1 ⟨rfl, k, rfl⟩
      go_wp2
      go_ret3
      exact HQ.out _ (below_drewN' (Below.refl _ _) _)
    have t3 : ¬ (R.size : Int) < (n : Int) + 4 := by omega
    have b0 : (0 : Int) ≤ (n : Int) := by omega
    have b1 : (n : Int) ≤ (R.size : Int) := by omega
    have b2 : (n : Int) + 4 ≤ (R.size : Int) := by omega
    have b3 : (n : Int) ≤ (n : Int) + 4 := by omega
    have b4 : (0 : Int) ≤ (n : Int) + 4 := by omega
    have b5 : ((n : Int) + 4).toNat = n + 4 := by omega
    have b6 : IntKind.i64.wrap ((n : Int) + 4) = (n : Int) + 4 := IntWalk.i64_in _ (by omega)
    have hXs : (R.extract 0 n).size ≤ maxLen := by rw [ByteArray.size_extract]; unfold maxLen; omega
    have HX := Lib.hid hXs
    have hcl := crc_lt ht (R.extract 0 n).data.toList
    obtain ⟨C, hC⟩ : ∃ C, C = crcOf t (R.extract 0 n).data.toList := ⟨_, rfl⟩
    obtain ⟨B, hB⟩ : ∃ B : ByteArray, B = sumS t (R.extract 0 n) := ⟨_, rfl⟩
    have hB2 : B = ⟨(bytesOf C).toArray⟩ := by rw [hB, hC]; rfl
    rw [← hC] at hcl
    have HC := Lib.hid hC
    have HB2 := Lib.hid hB2
    obtain ⟨D, hD⟩ : ∃ D : ByteArray, D = R.extract n (n + 4) := ⟨_, rfl⟩
    by_cases h4 : B = D
    · have HQ := Lib.hid (fun w' => @NxQ_ok _ _ _ (next_0 (t := t) h2 h3 (by rw [← hB, ← hD, h4])) w w')
      generalize nextR t n R = ans at *
      have hBD := hD
      rw [← h4] at hBD
      have HBD := Lib.hid hBD
      clear h2 hXs hC hB hB2 hD h4 hBD h3
      go_enter Try.func52, Try.ntmps52
      go_wp2_with fail
      refine (take_is s HM.out n R 0 KT _).mono ?_
      rintro e w1 ⟨rfl, k, rfl⟩
      go_wp2_with fail
      go_quiet (fail)
      clear b6
      go_wp2_with fail
      refine (sum_ok A cap t ht.lt (R.extract 0 n) HX.out _ (by exact HR.out)).mono ?_
      rw [← HC.out]
      rintro e w2 ⟨rfl, hB2'⟩
      go_wp2_with fail
      refine (bytes_any C hcl _).mono ?_
      rw [← HB2.out, HBD.out]
      rintro e w3 ⟨rfl, hB3⟩
      have hBB : Below w.heap.size w w3 := bt (below_drewN' (Below.refl _ _) _) (bt hB2' hB3)
      clear hB2' hB3
      go_wp2
      go_ret3
      exact HQ.out _ hBB
    · have HQ := Lib.hid (fun w' => @NxQ_err _ 30 (next_30 (t := t) h2 h3 (by rw [← hB, ← hD]; exact h4)) w w')
      generalize nextR t n R = ans at *
      rw [hD] at h4
      have h5 := str_ne h4
      have H4 := Lib.hid h4
      clear h4
      clear h2 hXs hC hB hB2 hD h3
      go_enter Try.func52, Try.ntmps52
      go_wp2_with fail
      refine (take_is s HM.out n R 0 KT _).mono ?_
      rintro e w1 ⟨rfl, k, rfl⟩
      go_wp2_with fail
      go_quiet (fail)
      clear b6
      go_wp2_with fail
      refine (sum_ok A cap t ht.lt (R.extract 0 n) HX.out _ (by exact HR.out)).mono ?_
      rw [← HC.out]
      rintro e w2 ⟨rfl, hB2'⟩
      go_wp2_with fail
      refine (bytes_any C hcl _).mono ?_
      rw [← HB2.out]
      rintro e w3 ⟨rfl, hB3⟩
      have hBB : Below w.heap.size w w3 := bt (below_drewN' (Below.refl _ _) _) (bt hB2' hB3)
      clear hB2' hB3
      go_wp2
      go_ret3
      exact HQ.out _ hBB
end Go.Proofs.Ytjeiklgaiefeaaa
