/- The walk of CrcsumOne: the call returns true, and writes nothing that was there. No condition. -/
import Derived.Test.YtjeiklgaiefeaaaCrcLaws
namespace Go.Proofs.Ytjeiklgaiefeaaa
open Go.RowKit
set_option linter.unusedVariables false
set_option maxRecDepth 100000 in
set_option maxHeartbeats 2000000 in
theorem law_CrcsumOne (s : ByteArray) (at_ : Int) (by_ : Int) (hs : s.size ≤ maxLen) (h1 : (Lit.int .i64 at_).wf = true) (h2 : (Lit.int .u8 by_).wf = true) (w : World) :
    Calls Try.prog 7 #[.string s, .int .i64 at_, .int .u8 by_] w fun e w' => e = .returned (.bool true) ∧ Below w.heap.size w w' := by
  obtain ⟨x, rfl, hxx⟩ : ∃ x : UInt8, by_ = (x.toNat : Int) ∧ True := by
    have hb : 0 ≤ by_ ∧ by_ ≤ 255 := by simpa [Lit.wf, IntKind.min, IntKind.max, IntKind.bits, IntKind.signed] using h2
    refine ⟨UInt8.ofNat by_.toNat, ?_, trivial⟩
    rw [UInt8.toNat_ofNat', Nat.mod_eq_of_lt (by omega)]
    omega
  clear h2 hxx h1
  by_cases hq : s.size = 0 ∨ 2000 < s.size ∨ x.toNat = 0
  · by_cases q1 : s.size = 0
    · have t1 : ((s.size : Int) == 0) = true := by rw [beq_iff_eq]; omega
      clear hq q1
      go_enter Try.func7, Try.ntmps7
      go_wp2_with fail
      refine (awake2_any _).mono ?_
      rintro e w1 ⟨rfl, hB1⟩
      go_wp2
      go_ret
      exact ⟨rfl, hB1⟩
    have t1 : ((s.size : Int) == 0) = false := by rw [beq_eq_false_iff_ne]; omega
    by_cases q2 : 2000 < s.size
    · have t2 : (2000 : Int) < s.size := by omega
      clear hq
      go_enter Try.func7, Try.ntmps7
      go_wp2_with fail
      refine (awake2_any _).mono ?_
      rintro e w1 ⟨rfl, hB1⟩
      go_wp2
      go_ret
      exact ⟨rfl, hB1⟩
    have t2 : ¬ (2000 : Int) < s.size := by omega
    have t3 : ((x.toNat : Int) == 0) = true := by rw [beq_iff_eq]; omega
    clear hq q1 q2
    go_enter Try.func7, Try.ntmps7
    go_wp2_with fail
    refine (awake2_any _).mono ?_
    rintro e w1 ⟨rfl, hB1⟩
    go_wp2
    go_ret
    exact ⟨rfl, hB1⟩
  obtain ⟨hs0, hs1, hx0⟩ : s.size ≠ 0 ∧ s.size ≤ 2000 ∧ x.toNat ≠ 0 := by omega
  have t1 : ((s.size : Int) == 0) = false := by rw [beq_eq_false_iff_ne]; omega
  have t2 : ¬ (2000 : Int) < s.size := by omega
  have t3 : ((x.toNat : Int) == 0) = false := by rw [beq_eq_false_iff_ne]; omega
  obtain ⟨m, hm, hm'⟩ := and4095 at_
  obtain ⟨k, hk⟩ : ∃ k, k = m % s.size := ⟨_, rfl⟩
  have hks : k < s.size := by rw [hk]; exact Nat.mod_lt _ (by omega)
  have hmod : (m : Int) % (s.size : Int) = (k : Int) := by rw [hk]; simp
  have HK := Lib.hid hk
  clear hk hq
  have hxor := u8_xor_b s[k] x
  obtain ⟨y, hy⟩ : ∃ y, y = s[k] ^^^ x := ⟨_, rfl⟩
  rw [← hy] at hxor
  have HY := Lib.hid hy
  clear hy
  obtain ⟨A, hA⟩ : ∃ A, A = crcOf Crc.tab s.data.toList := ⟨_, rfl⟩
  obtain ⟨C, hC⟩ : ∃ C, C = crcOf Crc.tab (s.extract 0 k ++ ⟨#[y]⟩ ++ s.extract (k + 1) s.size).data.toList := ⟨_, rfl⟩
  have t4 : ((A : Int) != (C : Int)) = true := by
    have := crc_other s k hks y x hx0 HY.out
    rw [← hA, ← hC] at this
    rw [bne_iff_ne]; omega
  have HA := Lib.hid hA
  have HC := Lib.hid hC
  have HL : Hid ((s.extract 0 k ++ ⟨#[y]⟩ ++ s.extract (k + 1) s.size).size ≤ maxLen) := Lib.hid (by simp only [ByteArray.size_append, ByteArray.size_extract]; rw [show (⟨#[y]⟩ : ByteArray).size = 1 from rfl]; unfold maxLen; omega)
  clear hA hC
  obtain ⟨i0, hi, hz0, hz1, hz2⟩ := info_parts info_u8
  go_enter Try.func7, Try.ntmps7
  go_wp2_with fail
  refine (awake2_any _).mono ?_
  rintro e w1 ⟨rfl, hB1⟩
  go_wp2_with (at_builtin; refine wpList_append_own _ rfl _ _ 33 rfl w.heap.size 5 i0 (.int .u8 0) 1 1 Try.underlying33 hi hz0 hz1 hz2 rfl (by decide) (.slice none 0 0) 0 [] rfl (World.ownsRow_nil _ _ _ _) ⟨w1.heap.size, 0, none⟩ 1 1 [.int .u8 (y.toNat : Int)] rfl rfl (one_cell _ _ _) (fun u hu => by simp at hu; subst hu; rfl) (by unfold maxLen; omega) (by omega) (by have := hB1.size; simp; omega) ?_; intro v' w2 hown' hgrow _)
  refine (table_any _).mono ?_
  rintro e w3 ⟨rfl, hR3, hB3⟩
  go_wp2_with fail
  refine (sum_tab _ s hs A HA _ _ (tab_row hR3) (fun _ => rfl)).mono ?_
  rintro e w4 ⟨rfl, hB4⟩
  go_wp2_with fail
  have hO4 := own_below (own_below hown' hB3) hB4
  have hcv : ∀ W : World, W.ownsRow w.heap.size 5 1 v' 1 [b8 y] → (convert 33 9 v').run Try.prog W = .ok (.string ⟨#[y]⟩) W := fun W h => conv_own (P := Try.prog) W 33 9 5 w.heap.size v' 1 [y] Try.underlying33 Try.underlying5 Try.underlying9 h
  have hO5 : w4.ownsRow w.heap.size 5 1 v' 1 [b8 y] := hO4
  have b1 : (0 : Int) ≤ (k : Int) := by omega
  have b2 : (k : Int) ≤ (s.size : Int) := by omega
  have b4 : IntKind.i64.wrap ((k : Int) + 1) = (k : Int) + 1 := IntWalk.i64_in _ (by omega)
  have b3 : (k : Int) + 1 ≤ (s.size : Int) := by omega
  have HR3 := Lib.hid (((tab_row hR3).below hB4).more hB4.size)
  clear hown' hO4 hR3
  have hcv4 := hcv w4 hO5
  have hcv5 := hcv w4.drew hO5
  clear hcv hO5
  have hB := bt hB1 ((((Below.refl _ _).alloc (Nat.le_refl _) _).grown hgrow (by simp) (fun k h => by cases h)))
  have hB' := bt hB (bt hB3 hB4)
  clear hB hB3 hB4 hgrow
  go_region_with (go_at_call 24; refine (sum_tab _ _ HL.out C HC _ w4 HR3.out (by intro _; rfl)).mono ?_; rintro e w5 ⟨rfl, hB5⟩)
  all_goals
    go_wp2
    go_ret
    exact ⟨rfl, bt hB'.drew hB5⟩
end Go.Proofs.Ytjeiklgaiefeaaa
