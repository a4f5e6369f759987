/- What Next of frame and of its reference computes. Conditions: bounds on sizes. -/
/- What Next of the reference of frame computes. Conditions: bounds on sizes. -/
import Derived.Test.YtjeiklgaiefeaaaFrmNext
import Derived.Deep.RegionWith
namespace Go.Proofs.Ytjeiklgaiefeaaa
open Go.RowKit Go.Lib
set_option linter.unusedVariables false
set_option maxRecDepth 100000 in
set_option maxHeartbeats 2000000 in
theorem refnext_bad (A : Option Addr) (n cap : Nat) (hn : n ≠ 256) (s : ByteArray) (w : World) :
    Calls Try.prog 53 #[.slice A n cap, .string s] w fun e w' => e = .returned (.tuple #[.string ⟨#[]⟩, .string ⟨#[]⟩, .int .i64 1]) ∧ w = w' := by
  have t1 : ((n : Int) != 256) = true := by rw [bne_iff_ne]; omega
  go_enter Try.func53, Try.ntmps53
  go_wp2
  go_ret3
  exact ⟨rfl, rfl⟩
set_option maxRecDepth 100000 in
set_option maxHeartbeats 4000000 in
theorem refnext_any (A : Option Addr) (cap : Nat) (t : Nat → Nat) (ht : TabIs t) (s : ByteArray) (hs : s.size ≤ 281474976710656) (w : World) (hR : TabRow w A t) :
    Calls Try.prog 53 #[.slice A 256 cap, .string s] w fun e w' => NxQ (nextS t s) w e w' := by
  have HR := Lib.hid hR
  have HM : Hid (s.size ≤ maxLen) := Lib.hid (by unfold maxLen; omega)
  have hsl : s.data.toList.length = s.size := by simp
  cases htk : Vr.take s.data.toList with
  | err c =>
    have KT := tkIs_err' htk
    have t1 : ((c : Int) != 0) = true := by rw [bne_iff_ne]; have := Vr.takeF_err _ _ _ _ htk; omega
    have HQ := Lib.hid (fun w' => @NxQ_err _ c (next_err (t := t) htk) w w')
    generalize nextS t s = ans at *
    clear hR hs hsl htk
    go_enter Try.func53, Try.ntmps53
    go_wp2_with fail
    refine (reftake_is s HM.out 0 ⟨#[]⟩ c KT _).mono ?_
    rintro e w1 ⟨rfl, k, rfl⟩
    go_wp2
    go_ret3
    exact HQ.out _ (below_drewN' (Below.refl _ _) _)
  | ok n r =>
    obtain ⟨R, rfl⟩ : ∃ R : ByteArray, R.data.toList = r := ⟨⟨r.toArray⟩, rfl⟩
    have KT : TkIs s.data.toList n R 0 := tkIs_ok' htk
    have hn := (Vr.take_ok htk).2
    have hRs : R.size ≤ 281474976710656 := by
      have h1 := (Vr.take_ok htk).1
      have h2 : R.data.toList.length = R.size := by simp
      have h3 : s.data.toList.length = (uvarint n ++ R.data.toList).length := by rw [← h1]
      rw [List.length_append] at h3
      omega
    rw [next_go (t := t) htk]
    clear hR hs hsl htk
    by_cases h2 : 1048576 < n
    · have t2 : (1048576 : Int) < (n : Int) := by omega
      have HQ := Lib.hid (fun w' => @NxQ_err _ 2 (next_2 (t := t) (R := R) h2) w w')
      generalize nextR t n R = ans at *
      clear h2
      go_enter Try.func53, Try.ntmps53
      go_wp2_with fail
      refine (reftake_is s HM.out n R 0 KT _).mono ?_
      rintro e w1 ⟨rfl, k, rfl⟩
      go_wp2
      go_ret3
      exact HQ.out _ (below_drewN' (Below.refl _ _) _)
    have t2 : ¬ (1048576 : Int) < (n : Int) := by omega
    by_cases h3 : R.size < n + 4
    · have t3 : (R.size : Int) < (n : Int) + 4 := by omega
      have HQ := Lib.hid (fun w' => @NxQ_err _ 10 (next_10 (t := t) h2 h3) w w')
      generalize nextR t n R = ans at *
      clear h2 h3
      go_enter Try.func53, Try.ntmps53
      go_wp2_with fail
      refine (reftake_is s HM.out n R 0 KT _).mono ?_
      rintro e w1 ⟨rfl, k, rfl⟩
      go_wp2
      go_ret3
      exact HQ.out _ (below_drewN' (Below.refl _ _) _)
    have t3 : ¬ (R.size : Int) < (n : Int) + 4 := by omega
    have b0 : (0 : Int) ≤ (n : Int) := by omega
    have b1 : (n : Int) ≤ (R.size : Int) := by omega
    have b2 : (n : Int) + 4 ≤ (R.size : Int) := by omega
    have b3 : (n : Int) ≤ (n : Int) + 4 := by omega
    have b4 : (0 : Int) ≤ (n : Int) + 4 := by omega
    have b5 : ((n : Int) + 4).toNat = n + 4 := by omega
    have b6 : IntKind.i64.wrap ((n : Int) + 4) = (n : Int) + 4 := IntWalk.i64_in _ (by omega)
    have hXs : (R.extract 0 n).size ≤ maxLen := by rw [ByteArray.size_extract]; unfold maxLen; omega
    have HX := Lib.hid hXs
    have hcl := crc_lt ht (R.extract 0 n).data.toList
    obtain ⟨C, hC⟩ : ∃ C, C = crcOf t (R.extract 0 n).data.toList := ⟨_, rfl⟩
    obtain ⟨B, hB⟩ : ∃ B : ByteArray, B = sumS t (R.extract 0 n) := ⟨_, rfl⟩
    have hB2 : B = ⟨(bytesOf C).toArray⟩ := by rw [hB, hC]; rfl
    rw [← hC] at hcl
    have HC := Lib.hid hC
    have HB2 := Lib.hid hB2
    obtain ⟨D, hD⟩ : ∃ D : ByteArray, D = R.extract n (n + 4) := ⟨_, rfl⟩
    by_cases h4 : B = D
    · have HQ := Lib.hid (fun w' => @NxQ_ok _ _ _ (next_0 (t := t) h2 h3 (by rw [← hB, ← hD, h4])) w w')
      generalize nextR t n R = ans at *
      have hBD := hD
      rw [← h4] at hBD
      have HBD := Lib.hid hBD
      clear h2 hXs hC hB hB2 hD h4 hBD h3
      go_enter Try.func53, Try.ntmps53
      go_wp2_with fail
      refine (reftake_is s HM.out n R 0 KT _).mono ?_
      rintro e w1 ⟨rfl, k, rfl⟩
      go_wp2_with fail
      refine (refsum_ok A cap t ht.lt (R.extract 0 n) HX.out _ (by exact HR.out)).mono ?_
      rw [← HC.out]
      rintro e w2 ⟨rfl, rfl⟩
      go_wp2_with fail
      go_region_with (go_at_call 28; refine (refbytes_any C hcl _).mono ?_; rw [← HB2.out, HBD.out]; rintro e w3 ⟨rfl, hB3⟩)
      all_goals
        have hBB : Below w.heap.size w w3 := bt (below_drewN' (Below.refl _ _) (k + 1)) hB3
        clear hB3
        go_wp2
        go_quiet (fail)
        clear b6
        go_wp2
        go_ret3
        exact HQ.out _ (below_drewN' hBB _)
    · have HQ := Lib.hid (fun w' => @NxQ_err _ 30 (next_30 (t := t) h2 h3 (by rw [← hB, ← hD]; exact h4)) w w')
      generalize nextR t n R = ans at *
      rw [hD] at h4
      have h5 := str_ne h4
      have H4 := Lib.hid h4
      clear h4
      clear h2 hXs hC hB hB2 hD h3
      go_enter Try.func53, Try.ntmps53
      go_wp2_with fail
      refine (reftake_is s HM.out n R 0 KT _).mono ?_
      rintro e w1 ⟨rfl, k, rfl⟩
      go_wp2_with fail
      refine (refsum_ok A cap t ht.lt (R.extract 0 n) HX.out _ (by exact HR.out)).mono ?_
      rw [← HC.out]
      rintro e w2 ⟨rfl, rfl⟩
      go_wp2_with fail
      go_region_with (go_at_call 28; refine (refbytes_any C hcl _).mono ?_; rw [← HB2.out]; rintro e w3 ⟨rfl, hB3⟩)
      all_goals
        clear b6
        have hBB : Below w.heap.size w w3 := bt (below_drewN' (Below.refl _ _) (k + 1)) hB3
        clear hB3
        go_wp2
        go_ret3
        exact HQ.out _ hBB
end Go.Proofs.Ytjeiklgaiefeaaa
