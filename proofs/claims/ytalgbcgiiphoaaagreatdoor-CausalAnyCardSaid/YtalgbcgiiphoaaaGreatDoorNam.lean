/- What the functions of names compute, and how many code points a text has, by the program. Conditions: lengths in reach; the tables of utf8 lie as they were laid. -/
import Derived.Test.YtalgbcgiiphoaaaGreatDoorSA
import Derived.Test.YtalgbcgiiphoaaaGreatDoorUtf
import Derived.Test.YtalgbcgiiphoaaaGreatDoorShelf
namespace Go.Proofs.YtalgbcgiiphoaaaGreatDoor
open Go.RowKit Go.Lib Go.Sort Go.Shelf
set_option linter.unusedVariables false
def signsL : List UInt8 := [48, 49, 50, 51, 52, 53, 54, 55, 56, 57, 65, 66, 67, 68, 69, 70, 71, 72, 73, 74, 75, 76, 77, 78, 79, 80, 81, 82, 83, 84, 85, 86, 87, 88, 89, 90, 97, 98, 99, 100, 101, 102, 103, 104, 105, 106, 107, 108, 109, 110, 111, 112, 113, 114, 115, 116, 117, 118, 119, 120, 121, 122, 46, 45, 95]
theorem signs_all : ∀ n : Fin 256, signsL.contains (UInt8.ofNat n.val) = signB (UInt8.ofNat n.val) := by decide +kernel
theorem signs_sign (b : UInt8) : signsL.contains b = signB b := by
  have h := signs_all ⟨b.toNat, b.toNat_lt⟩
  have e : UInt8.ofNat b.toNat = b := by simp
  simp only [e] at h
  exact h
theorem dropWhile_nil {α : Type} (p : α → Bool) : ∀ l : List α, l.dropWhile p = [] ↔ ∀ b ∈ l, p b = true
  | [] => by simp
  | a :: l => by
    rw [List.dropWhile_cons]
    by_cases h : p a = true
    · rw [if_pos h, dropWhile_nil p l]
      simp [h]
    · rw [if_neg h]
      simp [h]
theorem trimS_nil (l : List UInt8) : trimS l signsL = [] ↔ l.all signB = true := by
  unfold trimS trimLeftS trimRightS
  rw [dropWhile_nil, List.all_eq_true]
  constructor
  · intro h b hb
    by_cases hd : l.reverse.dropWhile (signsL.contains ·) = []
    · have := (dropWhile_nil _ _).1 hd b (List.mem_reverse.2 hb)
      rw [signs_sign] at this
      exact this
    · exfalso
      have h1 := List.head_dropWhile_not (signsL.contains ·) (l := l.reverse) hd
      have h2 := h ((l.reverse.dropWhile (signsL.contains ·)).head hd) (List.mem_reverse.2 (List.head_mem hd))
      rw [h2] at h1
      cases h1
  · intro h b hb
    rw [signs_sign]
    refine h b ?_
    have := List.mem_reverse.1 hb
    exact List.mem_reverse.1 ((List.dropWhile_sublist _).subset this)
theorem trim_any (s c : ByteArray) (w : World) (hs : s.size ≤ 9223372036854775807) (hc : c.data.toList = signsL) :
    Calls Tryz.prog 132 #[.string s, .string c] w fun e w' => e = .returned (.string ⟨(trimS s.data.toList signsL).toArray⟩) ∧ Below w.heap.size w w' := by
  rw [← hc]
  refine Any.strings_Trim_laid Tryz.lays160 (by kernel_rfl) s c w hs ?_ ?_
  · have h1 : c.data.toList.length = c.size := by simp
    rw [← h1, hc]; decide
  · rw [hc]; exact ascii_of_all (by decide)
theorem str_nil {s : ByteArray} : s.toList = s.data.toList := ByteArray.toList_eq s
set_option maxRecDepth 100000 in
set_option maxHeartbeats 4000000 in
theorem name_any (s : ByteArray) (w : World) (hs : s.size ≤ 9223372036854775807) :
    Calls Tryz.prog 109 #[.string s] w fun e w' => e = .returned (.bool (nameB s)) ∧ Below w.heap.size w w' := by
  obtain ⟨ans, ha⟩ : ∃ v, v = nameB s := ⟨_, rfl⟩
  have hv : ans = nameB s := ha
  rw [← ha]
  have HV := Lib.hid ha
  clear ha hv
  by_cases h0 : s.data.toList = []
  · obtain rfl : ans = false := by rw [HV.out]; simp [nameB, h0]
    obtain rfl := bs_nil.1 h0
    go_enter Tryz.func109, Tryz.ntmps109
    go_wp2
    go_ret
    exact ⟨rfl, Below.refl _ _⟩
  have t0 : s.toList.isEmpty = false := by
    rw [str_nil]
    cases e : s.data.toList with
    | nil => exact absurd e h0
    | cons a l => rfl
  by_cases h1 : s.size ≤ 32
  · have t1 : (s.size : Int) ≤ 32 := by omega
    by_cases h2 : s.data.toList = [46]
    · obtain rfl : ans = false := by rw [HV.out]; simp [nameB, h2]
      obtain rfl : s = ⟨#[46]⟩ := ByteArray.ext (Array.toList_inj.1 h2)
      go_enter Tryz.func109, Tryz.ntmps109
      go_wp2
      go_ret
      exact ⟨rfl, Below.refl _ _⟩
    have t2 : (s.toList == [46]) = false := by rw [str_nil]; simp [h2]
    by_cases h3 : s.data.toList = [46, 46]
    · obtain rfl : ans = false := by rw [HV.out]; simp [nameB, h3]
      obtain rfl : s = ⟨#[46, 46]⟩ := ByteArray.ext (Array.toList_inj.1 h3)
      go_enter Tryz.func109, Tryz.ntmps109
      go_wp2
      go_ret
      exact ⟨rfl, Below.refl _ _⟩
    have t3 : (s.toList == [46, 46]) = false := by rw [str_nil]; simp [h3]
    by_cases h4 : s.data.toList.all signB = true
    · obtain rfl : ans = true := by rw [HV.out]; simp only [nameB, h4]; simp [h0, h1, h2, h3]
      have hT := fun c w hc => trim_any s c w hs hc
      rw [(trimS_nil _).2 h4] at hT
      have HT := Lib.hid hT
      clear h0 h1 h2 h3 h4 hT
      go_enter Tryz.func109, Tryz.ntmps109
      go_wp2_with fail
      refine (HT.out _ _ (by rfl)).mono ?_
      rintro e w1 ⟨rfl, hB⟩
      go_wp2
      go_ret
      exact ⟨rfl, hB⟩
    · obtain rfl : ans = false := by rw [HV.out]; simp only [nameB, h4]; simp
      have hT := fun c w hc => trim_any s c w hs hc
      obtain ⟨T, hTe⟩ : ∃ T : ByteArray, T = ⟨(trimS s.data.toList signsL).toArray⟩ := ⟨_, rfl⟩
      have t4 : T.toList.isEmpty = false := by
        rw [str_nil, hTe]
        have := mt (trimS_nil s.data.toList).1 h4
        simp [this]
      have t5 : (T.toList == []) = false := by
        rw [str_nil, hTe]
        have := mt (trimS_nil s.data.toList).1 h4
        simp [this]
      rw [← hTe] at hT
      have HT := Lib.hid hT
      clear h0 h1 h2 h3 h4 hT hTe
      go_enter Tryz.func109, Tryz.ntmps109
      go_wp2_with fail
      refine (HT.out _ _ (by rfl)).mono ?_
      rintro e w1 ⟨rfl, hB⟩
      go_wp2
      go_ret
      exact ⟨rfl, hB⟩
  · have t1 : ¬ (s.size : Int) ≤ 32 := by omega
    obtain rfl : ans = false := by rw [HV.out]; simp [nameB, h1]
    go_enter Tryz.func109, Tryz.ntmps109
    go_wp2
    go_ret
    exact ⟨rfl, Below.refl _ _⟩
/-- the tables of utf8 as they were laid -/
def Tabs (w : World) : Prop := Lib.Utf8Tabs (Tryz.lays196_ren.g 3) (Tryz.lays196_ren.g 4) w
theorem Tabs.below {w w' : World} (h : Tabs w) (hb : Below w.heap.size w w') : Tabs w' := Utf8Tabs_below h hb
theorem valid_any (s : ByteArray) (w : World) (hs : s.size ≤ 9223372036854775807) (hT : Tabs w) :
    Calls Tryz.prog 134 #[.string s] w fun e w' => e = .returned (.bool (validD s.data.toList)) ∧ Below w.heap.size w w' :=
  Any.utf8_ValidString Tryz.lays196 s w hs hT
theorem count_any (s : ByteArray) (w : World) (hs : s.size < 9223372036854775807) :
    Calls Tryz.prog 135 #[.string s] w fun e w' => e = .returned (.int .i64 (runeCount s)) ∧ Below w.heap.size w w' :=
  (Any.utf8_RuneCountInString Tryz.lays195 s w hs).mono fun e w' ⟨he, pos, hw⟩ => ⟨he, by rw [hw]; exact (Below.refl _ _).alloc (Nat.le_refl _) _⟩
set_option maxRecDepth 100000 in
set_option maxHeartbeats 4000000 in
theorem len_bad (s : ByteArray) (w : World) (hs : s.size < 9223372036854775807) (hT : Tabs w) (h : cnt s.data.toList = none) :
    Calls Tryz.prog 112 #[.string s] w fun e w' => e = .returned (.tuple #[.int .i64 0, .int .i64 60]) ∧ Below w.heap.size w w' := by
  have hv := valid_any s w (by omega) hT
  rw [cnt_valid, h] at hv
  have HV := Lib.hid hv
  clear hv h hT
  go_enter Tryz.func112, Tryz.ntmps112
  go_wp2_with fail
  refine HV.out.mono ?_
  rintro e w1 ⟨rfl, hB⟩
  go_wp2
  go_ret2
  exact ⟨rfl, hB⟩
set_option maxRecDepth 100000 in
set_option maxHeartbeats 4000000 in
theorem len_ok (s : ByteArray) (m : Nat) (w : World) (hs : s.size < 9223372036854775807) (hT : Tabs w) (h : cnt s.data.toList = some m) :
    Calls Tryz.prog 112 #[.string s] w fun e w' => e = .returned (.tuple #[.int .i64 m, .int .i64 0]) ∧ Below w.heap.size w w' := by
  have hv := valid_any s w (by omega) hT
  rw [cnt_valid, h] at hv
  have hc := fun w => count_any s w hs
  rw [cnt_count h] at hc
  have HV := Lib.hid hv
  have HC := Lib.hid hc
  clear hv hc h hT
  go_enter Tryz.func112, Tryz.ntmps112
  go_wp2_with fail
  refine HV.out.mono ?_
  rintro e w1 ⟨rfl, hB⟩
  go_wp2_with fail
  refine (HC.out _).mono ?_
  rintro e w2 ⟨rfl, hB2⟩
  go_wp2
  go_ret2
  exact ⟨rfl, bt hB hB2⟩
end Go.Proofs.YtalgbcgiiphoaaaGreatDoor
