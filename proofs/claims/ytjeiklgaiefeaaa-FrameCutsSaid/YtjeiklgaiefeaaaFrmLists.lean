/- Lists of texts: that they are the same, few, and what all of them are in frames. Conditions: bounds on sizes. -/
import Derived.Test.YtjeiklgaiefeaaaFrmAwake
namespace Go.Proofs.Ytjeiklgaiefeaaa
open Go.RowKit Go.Lib Go.Shelf
set_option linter.unusedVariables false
attribute [local go_sem] Oper.semAt_some
set_option maxRecDepth 100000 in
set_option maxHeartbeats 2000000 in
theorem texts_yes (A B : Option Addr) (n c d : Nat) (f g : Nat → ByteArray) (hn : n ≤ 9223372036854775807) (hfg : ∀ i, i < n → f i = g i) (w : World) (hA : Row1 w w.heap.size A n (fun i => .string (f i))) (hB : Row1 w w.heap.size B n (fun i => .string (g i))) :
    Calls Try.prog 56 #[.slice A n c, .slice B n d] w fun e w' => e = .returned (.bool true) ∧ Below w.heap.size w w' := by
  have HA := Lib.hid hA
  have HB := Lib.hid hB
  have HE := Lib.hid hfg
  clear hA hB hfg
  go_enter Try.func56, Try.ntmps56
  go_wp2
  go_loopw [5] (fun i wr => ∃ k j : Nat, k ≤ n ∧ i = .int .i64 k ∧ wr = w.drewN j) (fun i _ => n - (intOf i).toNat)
  case atStart => exact ⟨0, 0, by omega, rfl, rfl⟩
  case round =>
    obtain ⟨k, j, hk, rfl, rfl⟩ := hrel
    by_cases hlt : k < n
    · obtain ⟨ad, hA, -, hc⟩ := HA.out k hlt
      obtain ⟨bd, hB, -, hd⟩ := HB.out k hlt
      subst hA hB
      replace hc : w.cell? (ad.add k) = some (.string (f k)) := hc
      replace hd : w.cell? (bd.add k) = some (.string (f k)) := by
        have : w.cell? (bd.add k) = some (.string (g k)) := hd
        rw [HE.out k hlt]; exact this
      generalize f k = x at *
      go_wp2
      go_quiet (fail)
      go_wp2
      go_roundw
      case rel => exact ⟨k + 1, _, by omega, by go_num, rfl⟩
      case measure => simp [intOf]; omega
    · obtain rfl : k = n := by omega
      go_wp2
      go_ret
      exact ⟨rfl, below_drewN' (Below.refl _ _) j⟩
set_option maxRecDepth 100000 in
set_option maxHeartbeats 2000000 in
theorem split_bad (A : Option Addr) (n cap : Nat) (hn : n ≠ 256) (s : ByteArray) (w : World) :
    Calls Try.prog 54 #[.slice A n cap, .string s] w fun e w' => e = .returned (.tuple #[.slice none 0 0, .int .i64 0, .int .i64 1]) ∧ Below w.heap.size w w' := by
  have t1 : ((n : Int) != 256) = true := by rw [bne_iff_ne]; omega
  go_enter Try.func54, Try.ntmps54
  go_wp2
  have c1 : (((w.alloc (.cells #[.slice none 0 0] 59)).alloc (.cells #[.int .i64 0] 3)).alloc (.cells #[.int .i64 1] 26)).cell? ⟨w.heap.size, 0, none⟩ = some (.slice none 0 0) := by
    refine (box_cell (t := 59) ?_).1
    simp only [heap_alloc, Array.getElem?_push, Array.size_push]
    rw [if_neg (by omega), if_neg (by omega), if_pos trivial]
  have c2 : (((w.alloc (.cells #[.slice none 0 0] 59)).alloc (.cells #[.int .i64 0] 3)).alloc (.cells #[.int .i64 1] 26)).cell? ⟨w.heap.size + 1, 0, none⟩ = some (.int .i64 0) := by
    refine (box_cell (t := 3) ?_).1
    simp only [heap_alloc, Array.getElem?_push, Array.size_push]
    simp
  have c3 : (((w.alloc (.cells #[.slice none 0 0] 59)).alloc (.cells #[.int .i64 0] 3)).alloc (.cells #[.int .i64 1] 26)).cell? ⟨w.heap.size + 2, 0, none⟩ = some (.int .i64 1) := by
    refine (box_cell (t := 26) ?_).1
    simp only [heap_alloc, Array.getElem?_push, Array.size_push]
    simp
  refine bodyPost_ret (v := .tuple #[.slice none 0 0, .int .i64 0, .int .i64 1]) ?_ rfl ⟨rfl, ?_⟩
  · simp [results, Try.results54, go_sem, c1, c2, c3]
  · exact (((Below.refl _ w).alloc (by simp) _).alloc (by simp) _).alloc (by simp; omega) _
set_option maxRecDepth 100000 in
set_option maxHeartbeats 2000000 in
theorem refsplit_bad (A : Option Addr) (n cap : Nat) (hn : n ≠ 256) (s : ByteArray) (hs : s.size ≤ 3000) (w : World) :
    Calls Try.prog 55 #[.slice A n cap, .string s] w fun e w' => e = .returned (.tuple #[.slice none 0 0, .int .i64 0, .int .i64 1]) ∧ Below w.heap.size w w' := by
  have h1 : IntKind.i64.wrap ((s.size : Int) - (s.size : Int)) = 0 := by rw [Int.sub_self]; rfl
  go_enter Try.func55, Try.ntmps55
  go_wp2
  go_loopw [7, 8] (fun a b wr => wr = w ∧ a = .slice none 0 0 ∧ b = .string s) (fun _ _ _ => 0)
  case atStart => exact ⟨rfl, rfl, rfl⟩
  case round =>
    obtain ⟨rfl, rfl, rfl⟩ := hrel
    go_wp2_with fail
    refine (refnext_bad A n cap hn s _).mono ?_
    rintro e w1 ⟨rfl, rfl⟩
    go_wp2
    go_ret3
    exact ⟨rfl, Below.refl _ _⟩
/-- all the texts' lengths -/
def lens (l : List ByteArray) : Nat := (l.map ByteArray.size).sum
theorem lens_take {l : List ByteArray} {k : Nat} (hk : k < l.length) : lens (l.take (k + 1)) = lens (l.take k) + (l.getD k ⟨#[]⟩).size := by
  unfold lens
  rw [List.take_add_one, List.getElem?_eq_getElem hk, List.map_append, List.sum_append]
  simp [hk]
theorem lens_le (l : List ByteArray) (k : Nat) : lens (l.take k) ≤ lens l := by
  conv => rhs; rw [← List.take_append_drop k l]
  unfold lens
  rw [List.map_append, List.sum_append]; omega
def fewS (l : List ByteArray) : Bool := decide (lens l ≤ 3000) && decide (l.length ≤ 50)
set_option maxRecDepth 100000 in
set_option maxHeartbeats 2000000 in
theorem few_any (A : Option Addr) (c : Nat) (l : List ByteArray) (hn : l.length ≤ 9223372036854775807) (hl : ∀ x ∈ l, x.size ≤ 140737488351232) (w : World) (hA : Row1 w w.heap.size A l.length (fun i => .string (l.getD i ⟨#[]⟩))) :
    Calls Try.prog 57 #[.slice A l.length c] w fun e w' => e = .returned (.bool (fewS l)) ∧ Below w.heap.size w w' := by
  have HA := Lib.hid hA
  have HL := Lib.hid hl
  obtain ⟨n, hnn⟩ : ∃ n, n = l.length := ⟨_, rfl⟩
  rw [← hnn] at hn ⊢
  have HN := Lib.hid hnn
  clear hA hl hnn
  go_enter Try.func57, Try.ntmps57
  go_wp2
  go_loopw [3, 4] (fun a i wr => ∃ k : Nat, k ≤ n ∧ i = .int .i64 k ∧ a = .int .i64 (lens (l.take k) : Nat) ∧ lens (l.take k) ≤ 3000 ∧ Below w.heap.size w wr) (fun _ i _ => n - (intOf i).toNat)
  case atStart => exact ⟨0, by omega, rfl, rfl, by simp [lens], Below.refl _ _⟩
  case round =>
    obtain ⟨k, hk, rfl, rfl, h3, hB⟩ := hrel
    by_cases hlt : k < n
    · obtain ⟨ad, hA, -, hc⟩ := (HA.out.below hB) k (by have := HN.out; omega)
      subst hA
      replace hc : wr.cell? (ad.add k) = some (.string (l.getD k ⟨#[]⟩)) := hc
      have hx : (l.getD k ⟨#[]⟩).size ≤ 140737488351232 := by
        have := HN.out
        refine HL.out _ ?_
        rw [List.getD_eq_getElem?_getD, List.getElem?_eq_getElem (by omega)]
        exact List.getElem_mem _
      have hs := lens_take (l := l) (k := k) (by have := HN.out; omega)
      obtain ⟨x, hxx⟩ : ∃ x, x = l.getD k ⟨#[]⟩ := ⟨_, rfl⟩
      rw [← hxx] at hc hx hs
      obtain ⟨a, ha⟩ : ∃ a, a = lens (l.take k) := ⟨_, rfl⟩
      rw [← ha] at h3 hs ⊢
      have HS := Lib.hid hs
      have hw : IntKind.i64.wrap ((a : Int) + (x.size : Int)) = (a : Int) + (x.size : Int) := IntWalk.i64_in _ (by omega)
      clear hxx ha hs
      by_cases h4 : 3000 < a + x.size
      · have t1 : (3000 : Int) < (a : Int) + (x.size : Int) := by omega
        have hf : false = fewS l := by
          have h5 := lens_le l (k + 1)
          have h6 := HS.out
          unfold fewS
          rw [decide_eq_false (by omega)]; rfl
        have HF := Lib.hid hf
        clear hf
        go_wp2
        go_ret
        exact ⟨HF.out ▸ rfl, hB⟩
      · have t1 : ¬ (3000 : Int) < (a : Int) + (x.size : Int) := by omega
        have hm : n - (k + 1) < n - k := by omega
        go_wp2
        go_roundw
        case rel => exact ⟨k + 1, by omega, by go_num, by rw [HS.out]; exact congrArg (Value.int .i64) (by omega), by rw [HS.out]; omega, hB⟩
        case measure => simp [intOf]; omega
    · obtain rfl : k = n := by omega
      have hf : decide ((k : Int) ≤ 50) = fewS l := by
        have h5 := HN.out
        unfold fewS
        rw [h5, List.take_length] at h3
        rw [decide_eq_true h3, h5, Bool.true_and]
        exact decide_eq_decide.2 (by omega)
      have HF := Lib.hid hf
      clear hf
      go_wp2
      go_ret
      exact ⟨HF.out ▸ rfl, hB⟩
end Go.Proofs.Ytjeiklgaiefeaaa
