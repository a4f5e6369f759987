/- Whether the reference calls an operation bare. No condition. | Whether the reference calls an operation bare. No condition. -/
import Derived.Test.YtalgbcgiiphoaaaGreatDoorRC
import Derived.Test.YtalgbcgiiphoaaaGreatDoorQA
import Derived.Deep.CutBlock
import Derived.Deep.CutRange
section
namespace Go.Proofs.YtalgbcgiiphoaaaGreatDoor
open Go.RowKit Go.Lib Go.Sort
set_option linter.unusedVariables false
set_option linter.unusedSimpArgs false
set_option maxRecDepth 100000 in
set_option maxHeartbeats 8000000 in
theorem refbare_0 (k nt nr ni pt pr pi : Int) (name : ByteArray) (dir : Bool) (dA : Option Addr) (dn dc : Nat) (at_ ar ai et er ei : Int) (text : ByteArray) (eA : Option Addr) (en ec : Nat) (w : World) :
    Calls Tryz.prog 119 #[.agg #[.int .i64 k, .int .i64 nt, .int .i64 nr, .int .i64 ni, .int .i64 pt, .int .i64 pr, .int .i64 pi, .string name, .bool dir, .slice dA dn dc, .int .i64 at_, .int .i64 ar, .int .i64 ai, .int .i64 et, .int .i64 er, .int .i64 ei, .string text, .slice eA en ec], .bool true, .bool true, .bool false, .bool false, .bool false] w fun e w' => e = .returned (.bool ((decide (dn = 0)) && (Gid.none ⟨⟨at_, ar⟩, ai⟩) && (Gid.none ⟨⟨et, er⟩, ei⟩) && (decide (text.data.toList = [])) && (decide (en = 0)))) ∧ Below w.heap.size w w' := by
  obtain ⟨ans, ha⟩ : ∃ a, a = ((decide (dn = 0)) && (Gid.none ⟨⟨at_, ar⟩, ai⟩) && (Gid.none ⟨⟨et, er⟩, ei⟩) && (decide (text.data.toList = [])) && (decide (en = 0))) := ⟨_, rfl⟩
  rw [← ha]
  have HV := Lib.hid ha
  clear ha
  obtain ⟨W, hW⟩ : ∃ W, W = w.alloc (.cells #[.int .i64 k, .int .i64 nt, .int .i64 nr, .int .i64 ni, .int .i64 pt, .int .i64 pr, .int .i64 pi, .string name, .bool dir, .slice dA dn dc, .int .i64 at_, .int .i64 ar, .int .i64 ai, .int .i64 et, .int .i64 er, .int .i64 ei, .string text, .slice eA en ec] 70) := ⟨_, rfl⟩
  have hBW : Below w.heap.size w W := by subst hW; exact (Below.refl _ _).alloc (Nat.le_refl _) _
  have hA : W.heap[w.heap.size]? = some (.cells #[.int .i64 k, .int .i64 nt, .int .i64 nr, .int .i64 ni, .int .i64 pt, .int .i64 pr, .int .i64 pi, .string name, .bool dir, .slice dA dn dc, .int .i64 at_, .int .i64 ar, .int .i64 ai, .int .i64 et, .int .i64 er, .int .i64 ei, .string text, .slice eA en ec] 70 (0, 0)) := by subst hW; exact heap_alloc_new _ _
  have HW := Lib.hid hW
  have HA := Lib.hid hA
  have hlt : w.heap.size < W.heap.size := by subst hW; simp
  clear hW hA
  by_cases h_dl0 : dn = 0
  rotate_left
  · have h_dl : decide (dn = 0) = false := decide_eq_false h_dl0
    obtain rfl : ans = false := by rw [HV.out]; simp only [h_dl, Bool.and_false, Bool.false_and, Bool.and_true, Bool.true_and]
    have s_dl : decide (0 < dn) = true := decide_eq_true (by omega)
    have hA_W : W.heap[w.heap.size]? = some (.cells #[.int .i64 k, .int .i64 nt, .int .i64 nr, .int .i64 ni, .int .i64 pt, .int .i64 pr, .int .i64 pi, .string name, .bool dir, .slice dA dn dc, .int .i64 at_, .int .i64 ar, .int .i64 ai, .int .i64 et, .int .i64 er, .int .i64 ei, .string text, .slice eA en ec] 70 (0, 0)) := HA.out
    have x4 := cell_regrown (w := W) (a := ⟨w.heap.size, 4, none⟩) (v := .int .i64 pt) (by rw [cell_of_row _ _ _ _ _ _ hA_W]; rfl)
    have x5 := cell_regrown (w := W) (a := ⟨w.heap.size, 5, none⟩) (v := .int .i64 pr) (by rw [cell_of_row _ _ _ _ _ _ hA_W]; rfl)
    have x6 := cell_regrown (w := W) (a := ⟨w.heap.size, 6, none⟩) (v := .int .i64 pi) (by rw [cell_of_row _ _ _ _ _ _ hA_W]; rfl)
    have x7 := cell_regrown (w := W) (a := ⟨w.heap.size, 7, none⟩) (v := .string name) (by rw [cell_of_row _ _ _ _ _ _ hA_W]; rfl)
    have x8 := cell_regrown (w := W) (a := ⟨w.heap.size, 8, none⟩) (v := .bool dir) (by rw [cell_of_row _ _ _ _ _ _ hA_W]; rfl)
    have x9 := cell_regrown (w := W) (a := ⟨w.heap.size, 9, none⟩) (v := .slice dA dn dc) (by rw [cell_of_row _ _ _ _ _ _ hA_W]; rfl)
    have x10 := cell_regrown (w := W) (a := ⟨w.heap.size, 10, none⟩) (v := .int .i64 at_) (by rw [cell_of_row _ _ _ _ _ _ hA_W]; rfl)
    have x11 := cell_regrown (w := W) (a := ⟨w.heap.size, 11, none⟩) (v := .int .i64 ar) (by rw [cell_of_row _ _ _ _ _ _ hA_W]; rfl)
    have x12 := cell_regrown (w := W) (a := ⟨w.heap.size, 12, none⟩) (v := .int .i64 ai) (by rw [cell_of_row _ _ _ _ _ _ hA_W]; rfl)
    have x13 := cell_regrown (w := W) (a := ⟨w.heap.size, 13, none⟩) (v := .int .i64 et) (by rw [cell_of_row _ _ _ _ _ _ hA_W]; rfl)
    have x14 := cell_regrown (w := W) (a := ⟨w.heap.size, 14, none⟩) (v := .int .i64 er) (by rw [cell_of_row _ _ _ _ _ _ hA_W]; rfl)
    have x15 := cell_regrown (w := W) (a := ⟨w.heap.size, 15, none⟩) (v := .int .i64 ei) (by rw [cell_of_row _ _ _ _ _ _ hA_W]; rfl)
    have x16 := cell_regrown (w := W) (a := ⟨w.heap.size, 16, none⟩) (v := .string text) (by rw [cell_of_row _ _ _ _ _ _ hA_W]; rfl)
    have x17 := cell_regrown (w := W) (a := ⟨w.heap.size, 17, none⟩) (v := .slice eA en ec) (by rw [cell_of_row _ _ _ _ _ _ hA_W]; rfl)
    clear hA_W
    clear h_dl0 h_dl
    go_enter Tryz.func119, Tryz.ntmps119
    go_upto_region 1 with (fail)
    rw [← HW.out]
    refine wp_plain_quiet_below ?_
    repeat (any_goals (first | go_big_quiet_step (fail) | quiet_step (fail)))
    refine wpQuiet_nil ?_
    intro _ hw'
    obtain ⟨⟨dq, osq⟩, hw''⟩ := hw'
    subst hw''
    have hBq := below_regrown W dq osq
    generalize grow (redrawn W dq) osq = wq at *
    go_wp2
    go_ret
    exact ⟨rfl, hBW.trans (hBq.mono hBW.size)⟩
  have h_dl : decide (dn = 0) = true := decide_eq_true h_dl0
  cases h_an : Gid.none ⟨⟨at_, ar⟩, ai⟩ with
  | false =>
    obtain rfl : ans = false := by rw [HV.out]; simp only [h_dl, h_an, Bool.and_false, Bool.false_and, Bool.and_true, Bool.true_and]
    have s_dl : decide (0 < dn) = false := decide_eq_false (by omega)
    have hA_W : W.heap[w.heap.size]? = some (.cells #[.int .i64 k, .int .i64 nt, .int .i64 nr, .int .i64 ni, .int .i64 pt, .int .i64 pr, .int .i64 pi, .string name, .bool dir, .slice dA dn dc, .int .i64 at_, .int .i64 ar, .int .i64 ai, .int .i64 et, .int .i64 er, .int .i64 ei, .string text, .slice eA en ec] 70 (0, 0)) := HA.out
    have x4 := cell_regrown (w := W) (a := ⟨w.heap.size, 4, none⟩) (v := .int .i64 pt) (by rw [cell_of_row _ _ _ _ _ _ hA_W]; rfl)
    have x5 := cell_regrown (w := W) (a := ⟨w.heap.size, 5, none⟩) (v := .int .i64 pr) (by rw [cell_of_row _ _ _ _ _ _ hA_W]; rfl)
    have x6 := cell_regrown (w := W) (a := ⟨w.heap.size, 6, none⟩) (v := .int .i64 pi) (by rw [cell_of_row _ _ _ _ _ _ hA_W]; rfl)
    have x7 := cell_regrown (w := W) (a := ⟨w.heap.size, 7, none⟩) (v := .string name) (by rw [cell_of_row _ _ _ _ _ _ hA_W]; rfl)
    have x8 := cell_regrown (w := W) (a := ⟨w.heap.size, 8, none⟩) (v := .bool dir) (by rw [cell_of_row _ _ _ _ _ _ hA_W]; rfl)
    have x9 := cell_regrown (w := W) (a := ⟨w.heap.size, 9, none⟩) (v := .slice dA dn dc) (by rw [cell_of_row _ _ _ _ _ _ hA_W]; rfl)
    have x10 := cell_regrown (w := W) (a := ⟨w.heap.size, 10, none⟩) (v := .int .i64 at_) (by rw [cell_of_row _ _ _ _ _ _ hA_W]; rfl)
    have x11 := cell_regrown (w := W) (a := ⟨w.heap.size, 11, none⟩) (v := .int .i64 ar) (by rw [cell_of_row _ _ _ _ _ _ hA_W]; rfl)
    have x12 := cell_regrown (w := W) (a := ⟨w.heap.size, 12, none⟩) (v := .int .i64 ai) (by rw [cell_of_row _ _ _ _ _ _ hA_W]; rfl)
    have x13 := cell_regrown (w := W) (a := ⟨w.heap.size, 13, none⟩) (v := .int .i64 et) (by rw [cell_of_row _ _ _ _ _ _ hA_W]; rfl)
    have x14 := cell_regrown (w := W) (a := ⟨w.heap.size, 14, none⟩) (v := .int .i64 er) (by rw [cell_of_row _ _ _ _ _ _ hA_W]; rfl)
    have x15 := cell_regrown (w := W) (a := ⟨w.heap.size, 15, none⟩) (v := .int .i64 ei) (by rw [cell_of_row _ _ _ _ _ _ hA_W]; rfl)
    have x16 := cell_regrown (w := W) (a := ⟨w.heap.size, 16, none⟩) (v := .string text) (by rw [cell_of_row _ _ _ _ _ _ hA_W]; rfl)
    have x17 := cell_regrown (w := W) (a := ⟨w.heap.size, 17, none⟩) (v := .slice eA en ec) (by rw [cell_of_row _ _ _ _ _ _ hA_W]; rfl)
    clear hA_W
    have H_an := Lib.hid h_an
    clear h_an h_dl0 h_dl
    go_enter Tryz.func119, Tryz.ntmps119
    go_upto_region 1 with (fail)
    rw [← HW.out]
    refine wp_plain_quiet_below ?_
    repeat (any_goals (first | go_big_quiet_step (fail) | quiet_step (fail)))
    refine wpQuiet_nil ?_
    intro _ hw'
    obtain ⟨⟨dq, osq⟩, hw''⟩ := hw'
    subst hw''
    have hBq := below_regrown W dq osq
    generalize grow (redrawn W dq) osq = wq at *
    have hB1 := hBW.trans (hBq.mono hBW.size)
    have hA1 := (hBq.block _ hlt).trans HA.out
    have HA1 := Lib.hid hA1
    clear hA1 hBq x4 x5 x6 x7 x8 x9 x10 x11 x12 x13 x14 x15 x16 x17
    obtain ⟨W1, hW1⟩ : ∃ W1, W1 = wq := ⟨_, rfl⟩
    rw [← hW1] at hB1 HA1 ⊢
    clear hW1
    go_upto_region 3 with (fail)
    have hA_W1 : W1.heap[w.heap.size]? = some (.cells #[.int .i64 k, .int .i64 nt, .int .i64 nr, .int .i64 ni, .int .i64 pt, .int .i64 pr, .int .i64 pi, .string name, .bool dir, .slice dA dn dc, .int .i64 at_, .int .i64 ar, .int .i64 ai, .int .i64 et, .int .i64 er, .int .i64 ei, .string text, .slice eA en ec] 70 (0, 0)) := HA1.out
    have x4 := cell_regrown (w := W1) (a := ⟨w.heap.size, 4, none⟩) (v := .int .i64 pt) (by rw [cell_of_row _ _ _ _ _ _ hA_W1]; rfl)
    have x5 := cell_regrown (w := W1) (a := ⟨w.heap.size, 5, none⟩) (v := .int .i64 pr) (by rw [cell_of_row _ _ _ _ _ _ hA_W1]; rfl)
    have x6 := cell_regrown (w := W1) (a := ⟨w.heap.size, 6, none⟩) (v := .int .i64 pi) (by rw [cell_of_row _ _ _ _ _ _ hA_W1]; rfl)
    have x7 := cell_regrown (w := W1) (a := ⟨w.heap.size, 7, none⟩) (v := .string name) (by rw [cell_of_row _ _ _ _ _ _ hA_W1]; rfl)
    have x8 := cell_regrown (w := W1) (a := ⟨w.heap.size, 8, none⟩) (v := .bool dir) (by rw [cell_of_row _ _ _ _ _ _ hA_W1]; rfl)
    have x9 := cell_regrown (w := W1) (a := ⟨w.heap.size, 9, none⟩) (v := .slice dA dn dc) (by rw [cell_of_row _ _ _ _ _ _ hA_W1]; rfl)
    have x10 := cell_regrown (w := W1) (a := ⟨w.heap.size, 10, none⟩) (v := .int .i64 at_) (by rw [cell_of_row _ _ _ _ _ _ hA_W1]; rfl)
    have x11 := cell_regrown (w := W1) (a := ⟨w.heap.size, 11, none⟩) (v := .int .i64 ar) (by rw [cell_of_row _ _ _ _ _ _ hA_W1]; rfl)
    have x12 := cell_regrown (w := W1) (a := ⟨w.heap.size, 12, none⟩) (v := .int .i64 ai) (by rw [cell_of_row _ _ _ _ _ _ hA_W1]; rfl)
    have x13 := cell_regrown (w := W1) (a := ⟨w.heap.size, 13, none⟩) (v := .int .i64 et) (by rw [cell_of_row _ _ _ _ _ _ hA_W1]; rfl)
    have x14 := cell_regrown (w := W1) (a := ⟨w.heap.size, 14, none⟩) (v := .int .i64 er) (by rw [cell_of_row _ _ _ _ _ _ hA_W1]; rfl)
    have x15 := cell_regrown (w := W1) (a := ⟨w.heap.size, 15, none⟩) (v := .int .i64 ei) (by rw [cell_of_row _ _ _ _ _ _ hA_W1]; rfl)
    have x16 := cell_regrown (w := W1) (a := ⟨w.heap.size, 16, none⟩) (v := .string text) (by rw [cell_of_row _ _ _ _ _ _ hA_W1]; rfl)
    have x17 := cell_regrown (w := W1) (a := ⟨w.heap.size, 17, none⟩) (v := .slice eA en ec) (by rw [cell_of_row _ _ _ _ _ _ hA_W1]; rfl)
    clear hA_W1
    have h_an := H_an.out
    have c_an := fun d os => Calls.regrown_of (refnone_any at_ ar ai (grow (redrawn W1 d) os))
    rw [h_an] at c_an
    clear h_an
    refine wp_plain_quiet_below ?_
    repeat (any_goals (first | go_big_quiet_step (first | with_reducible exact c_an _ _) | quiet_step (first | with_reducible exact c_an _ _)))
    refine wpQuiet_nil ?_
    intro _ hw'
    obtain ⟨⟨dq, osq⟩, hw''⟩ := hw'
    subst hw''
    have hBq := below_regrown W1 dq osq
    generalize grow (redrawn W1 dq) osq = wq at *
    go_wp2
    go_ret
    exact ⟨rfl, hB1.trans (hBq.mono hB1.size)⟩
  | true =>
  cases h_en_ : Gid.none ⟨⟨et, er⟩, ei⟩ with
  | false =>
    obtain rfl : ans = false := by rw [HV.out]; simp only [h_dl, h_an, h_en_, Bool.and_false, Bool.false_and, Bool.and_true, Bool.true_and]
    have s_dl : decide (0 < dn) = false := decide_eq_false (by omega)
    have hA_W : W.heap[w.heap.size]? = some (.cells #[.int .i64 k, .int .i64 nt, .int .i64 nr, .int .i64 ni, .int .i64 pt, .int .i64 pr, .int .i64 pi, .string name, .bool dir, .slice dA dn dc, .int .i64 at_, .int .i64 ar, .int .i64 ai, .int .i64 et, .int .i64 er, .int .i64 ei, .string text, .slice eA en ec] 70 (0, 0)) := HA.out
    have x4 := cell_regrown (w := W) (a := ⟨w.heap.size, 4, none⟩) (v := .int .i64 pt) (by rw [cell_of_row _ _ _ _ _ _ hA_W]; rfl)
    have x5 := cell_regrown (w := W) (a := ⟨w.heap.size, 5, none⟩) (v := .int .i64 pr) (by rw [cell_of_row _ _ _ _ _ _ hA_W]; rfl)
    have x6 := cell_regrown (w := W) (a := ⟨w.heap.size, 6, none⟩) (v := .int .i64 pi) (by rw [cell_of_row _ _ _ _ _ _ hA_W]; rfl)
    have x7 := cell_regrown (w := W) (a := ⟨w.heap.size, 7, none⟩) (v := .string name) (by rw [cell_of_row _ _ _ _ _ _ hA_W]; rfl)
    have x8 := cell_regrown (w := W) (a := ⟨w.heap.size, 8, none⟩) (v := .bool dir) (by rw [cell_of_row _ _ _ _ _ _ hA_W]; rfl)
    have x9 := cell_regrown (w := W) (a := ⟨w.heap.size, 9, none⟩) (v := .slice dA dn dc) (by rw [cell_of_row _ _ _ _ _ _ hA_W]; rfl)
    have x10 := cell_regrown (w := W) (a := ⟨w.heap.size, 10, none⟩) (v := .int .i64 at_) (by rw [cell_of_row _ _ _ _ _ _ hA_W]; rfl)
    have x11 := cell_regrown (w := W) (a := ⟨w.heap.size, 11, none⟩) (v := .int .i64 ar) (by rw [cell_of_row _ _ _ _ _ _ hA_W]; rfl)
    have x12 := cell_regrown (w := W) (a := ⟨w.heap.size, 12, none⟩) (v := .int .i64 ai) (by rw [cell_of_row _ _ _ _ _ _ hA_W]; rfl)
    have x13 := cell_regrown (w := W) (a := ⟨w.heap.size, 13, none⟩) (v := .int .i64 et) (by rw [cell_of_row _ _ _ _ _ _ hA_W]; rfl)
    have x14 := cell_regrown (w := W) (a := ⟨w.heap.size, 14, none⟩) (v := .int .i64 er) (by rw [cell_of_row _ _ _ _ _ _ hA_W]; rfl)
    have x15 := cell_regrown (w := W) (a := ⟨w.heap.size, 15, none⟩) (v := .int .i64 ei) (by rw [cell_of_row _ _ _ _ _ _ hA_W]; rfl)
    have x16 := cell_regrown (w := W) (a := ⟨w.heap.size, 16, none⟩) (v := .string text) (by rw [cell_of_row _ _ _ _ _ _ hA_W]; rfl)
    have x17 := cell_regrown (w := W) (a := ⟨w.heap.size, 17, none⟩) (v := .slice eA en ec) (by rw [cell_of_row _ _ _ _ _ _ hA_W]; rfl)
    clear hA_W
    have H_an := Lib.hid h_an
    have H_en_ := Lib.hid h_en_
    clear h_an h_en_ h_dl0 h_dl
    go_enter Tryz.func119, Tryz.ntmps119
    go_upto_region 1 with (fail)
    rw [← HW.out]
    refine wp_plain_quiet_below ?_
    repeat (any_goals (first | go_big_quiet_step (fail) | quiet_step (fail)))
    refine wpQuiet_nil ?_
    intro _ hw'
    obtain ⟨⟨dq, osq⟩, hw''⟩ := hw'
    subst hw''
    have hBq := below_regrown W dq osq
    generalize grow (redrawn W dq) osq = wq at *
    have hB1 := hBW.trans (hBq.mono hBW.size)
    have hA1 := (hBq.block _ hlt).trans HA.out
    have HA1 := Lib.hid hA1
    clear hA1 hBq x4 x5 x6 x7 x8 x9 x10 x11 x12 x13 x14 x15 x16 x17
    obtain ⟨W1, hW1⟩ : ∃ W1, W1 = wq := ⟨_, rfl⟩
    rw [← hW1] at hB1 HA1 ⊢
    clear hW1
    go_upto_region 3 with (fail)
    have hA_W1 : W1.heap[w.heap.size]? = some (.cells #[.int .i64 k, .int .i64 nt, .int .i64 nr, .int .i64 ni, .int .i64 pt, .int .i64 pr, .int .i64 pi, .string name, .bool dir, .slice dA dn dc, .int .i64 at_, .int .i64 ar, .int .i64 ai, .int .i64 et, .int .i64 er, .int .i64 ei, .string text, .slice eA en ec] 70 (0, 0)) := HA1.out
    have x4 := cell_regrown (w := W1) (a := ⟨w.heap.size, 4, none⟩) (v := .int .i64 pt) (by rw [cell_of_row _ _ _ _ _ _ hA_W1]; rfl)
    have x5 := cell_regrown (w := W1) (a := ⟨w.heap.size, 5, none⟩) (v := .int .i64 pr) (by rw [cell_of_row _ _ _ _ _ _ hA_W1]; rfl)
    have x6 := cell_regrown (w := W1) (a := ⟨w.heap.size, 6, none⟩) (v := .int .i64 pi) (by rw [cell_of_row _ _ _ _ _ _ hA_W1]; rfl)
    have x7 := cell_regrown (w := W1) (a := ⟨w.heap.size, 7, none⟩) (v := .string name) (by rw [cell_of_row _ _ _ _ _ _ hA_W1]; rfl)
    have x8 := cell_regrown (w := W1) (a := ⟨w.heap.size, 8, none⟩) (v := .bool dir) (by rw [cell_of_row _ _ _ _ _ _ hA_W1]; rfl)
    have x9 := cell_regrown (w := W1) (a := ⟨w.heap.size, 9, none⟩) (v := .slice dA dn dc) (by rw [cell_of_row _ _ _ _ _ _ hA_W1]; rfl)
    have x10 := cell_regrown (w := W1) (a := ⟨w.heap.size, 10, none⟩) (v := .int .i64 at_) (by rw [cell_of_row _ _ _ _ _ _ hA_W1]; rfl)
    have x11 := cell_regrown (w := W1) (a := ⟨w.heap.size, 11, none⟩) (v := .int .i64 ar) (by rw [cell_of_row _ _ _ _ _ _ hA_W1]; rfl)
    have x12 := cell_regrown (w := W1) (a := ⟨w.heap.size, 12, none⟩) (v := .int .i64 ai) (by rw [cell_of_row _ _ _ _ _ _ hA_W1]; rfl)
    have x13 := cell_regrown (w := W1) (a := ⟨w.heap.size, 13, none⟩) (v := .int .i64 et) (by rw [cell_of_row _ _ _ _ _ _ hA_W1]; rfl)
    have x14 := cell_regrown (w := W1) (a := ⟨w.heap.size, 14, none⟩) (v := .int .i64 er) (by rw [cell_of_row _ _ _ _ _ _ hA_W1]; rfl)
    have x15 := cell_regrown (w := W1) (a := ⟨w.heap.size, 15, none⟩) (v := .int .i64 ei) (by rw [cell_of_row _ _ _ _ _ _ hA_W1]; rfl)
    have x16 := cell_regrown (w := W1) (a := ⟨w.heap.size, 16, none⟩) (v := .string text) (by rw [cell_of_row _ _ _ _ _ _ hA_W1]; rfl)
    have x17 := cell_regrown (w := W1) (a := ⟨w.heap.size, 17, none⟩) (v := .slice eA en ec) (by rw [cell_of_row _ _ _ _ _ _ hA_W1]; rfl)
    clear hA_W1
    have h_an := H_an.out
    have h_en_ := H_en_.out
    have c_an := fun d os => Calls.regrown_of (refnone_any at_ ar ai (grow (redrawn W1 d) os))
    rw [h_an] at c_an
    have c_en_ := fun d os => Calls.regrown_of (refnone_any et er ei (grow (redrawn W1 d) os))
    rw [h_en_] at c_en_
    clear h_an h_en_
    refine wp_plain_quiet_below ?_
    repeat (any_goals (first | go_big_quiet_step (first | with_reducible exact c_an _ _ | with_reducible exact c_en_ _ _) | quiet_step (first | with_reducible exact c_an _ _ | with_reducible exact c_en_ _ _)))
    refine wpQuiet_nil ?_
    intro _ hw'
    obtain ⟨⟨dq, osq⟩, hw''⟩ := hw'
    subst hw''
    have hBq := below_regrown W1 dq osq
    generalize grow (redrawn W1 dq) osq = wq at *
    go_wp2
    go_ret
    exact ⟨rfl, hB1.trans (hBq.mono hB1.size)⟩
  | true =>
  by_cases h_tx0 : text.data.toList = []
  rotate_left
  · have h_tx : decide (text.data.toList = []) = false := decide_eq_false h_tx0
    obtain rfl : ans = false := by rw [HV.out]; simp only [h_dl, h_an, h_en_, h_tx, Bool.and_false, Bool.false_and, Bool.and_true, Bool.true_and]
    have s_dl : decide (0 < dn) = false := decide_eq_false (by omega)
    have s_tx : text.toList.isEmpty = false := by rw [ByteArray.toList_eq]; cases e : text.data.toList with
      | nil => exact absurd e h_tx0
      | cons a l => rfl
    have hA_W : W.heap[w.heap.size]? = some (.cells #[.int .i64 k, .int .i64 nt, .int .i64 nr, .int .i64 ni, .int .i64 pt, .int .i64 pr, .int .i64 pi, .string name, .bool dir, .slice dA dn dc, .int .i64 at_, .int .i64 ar, .int .i64 ai, .int .i64 et, .int .i64 er, .int .i64 ei, .string text, .slice eA en ec] 70 (0, 0)) := HA.out
    have x4 := cell_regrown (w := W) (a := ⟨w.heap.size, 4, none⟩) (v := .int .i64 pt) (by rw [cell_of_row _ _ _ _ _ _ hA_W]; rfl)
    have x5 := cell_regrown (w := W) (a := ⟨w.heap.size, 5, none⟩) (v := .int .i64 pr) (by rw [cell_of_row _ _ _ _ _ _ hA_W]; rfl)
    have x6 := cell_regrown (w := W) (a := ⟨w.heap.size, 6, none⟩) (v := .int .i64 pi) (by rw [cell_of_row _ _ _ _ _ _ hA_W]; rfl)
    have x7 := cell_regrown (w := W) (a := ⟨w.heap.size, 7, none⟩) (v := .string name) (by rw [cell_of_row _ _ _ _ _ _ hA_W]; rfl)
    have x8 := cell_regrown (w := W) (a := ⟨w.heap.size, 8, none⟩) (v := .bool dir) (by rw [cell_of_row _ _ _ _ _ _ hA_W]; rfl)
    have x9 := cell_regrown (w := W) (a := ⟨w.heap.size, 9, none⟩) (v := .slice dA dn dc) (by rw [cell_of_row _ _ _ _ _ _ hA_W]; rfl)
    have x10 := cell_regrown (w := W) (a := ⟨w.heap.size, 10, none⟩) (v := .int .i64 at_) (by rw [cell_of_row _ _ _ _ _ _ hA_W]; rfl)
    have x11 := cell_regrown (w := W) (a := ⟨w.heap.size, 11, none⟩) (v := .int .i64 ar) (by rw [cell_of_row _ _ _ _ _ _ hA_W]; rfl)
    have x12 := cell_regrown (w := W) (a := ⟨w.heap.size, 12, none⟩) (v := .int .i64 ai) (by rw [cell_of_row _ _ _ _ _ _ hA_W]; rfl)
    have x13 := cell_regrown (w := W) (a := ⟨w.heap.size, 13, none⟩) (v := .int .i64 et) (by rw [cell_of_row _ _ _ _ _ _ hA_W]; rfl)
    have x14 := cell_regrown (w := W) (a := ⟨w.heap.size, 14, none⟩) (v := .int .i64 er) (by rw [cell_of_row _ _ _ _ _ _ hA_W]; rfl)
    have x15 := cell_regrown (w := W) (a := ⟨w.heap.size, 15, none⟩) (v := .int .i64 ei) (by rw [cell_of_row _ _ _ _ _ _ hA_W]; rfl)
    have x16 := cell_regrown (w := W) (a := ⟨w.heap.size, 16, none⟩) (v := .string text) (by rw [cell_of_row _ _ _ _ _ _ hA_W]; rfl)
    have x17 := cell_regrown (w := W) (a := ⟨w.heap.size, 17, none⟩) (v := .slice eA en ec) (by rw [cell_of_row _ _ _ _ _ _ hA_W]; rfl)
    clear hA_W
    have H_an := Lib.hid h_an
    have H_en_ := Lib.hid h_en_
    clear h_an h_en_ h_tx h_tx0 h_dl0 h_dl
    go_enter Tryz.func119, Tryz.ntmps119
    go_upto_region 1 with (fail)
    rw [← HW.out]
    refine wp_plain_quiet_below ?_
    repeat (any_goals (first | go_big_quiet_step (fail) | quiet_step (fail)))
    refine wpQuiet_nil ?_
    intro _ hw'
    obtain ⟨⟨dq, osq⟩, hw''⟩ := hw'
    subst hw''
    have hBq := below_regrown W dq osq
    generalize grow (redrawn W dq) osq = wq at *
    have hB1 := hBW.trans (hBq.mono hBW.size)
    have hA1 := (hBq.block _ hlt).trans HA.out
    have HA1 := Lib.hid hA1
    clear hA1 hBq x4 x5 x6 x7 x8 x9 x10 x11 x12 x13 x14 x15 x16 x17
    obtain ⟨W1, hW1⟩ : ∃ W1, W1 = wq := ⟨_, rfl⟩
    rw [← hW1] at hB1 HA1 ⊢
    clear hW1
    go_upto_region 3 with (fail)
    have hA_W1 : W1.heap[w.heap.size]? = some (.cells #[.int .i64 k, .int .i64 nt, .int .i64 nr, .int .i64 ni, .int .i64 pt, .int .i64 pr, .int .i64 pi, .string name, .bool dir, .slice dA dn dc, .int .i64 at_, .int .i64 ar, .int .i64 ai, .int .i64 et, .int .i64 er, .int .i64 ei, .string text, .slice eA en ec] 70 (0, 0)) := HA1.out
    have x4 := cell_regrown (w := W1) (a := ⟨w.heap.size, 4, none⟩) (v := .int .i64 pt) (by rw [cell_of_row _ _ _ _ _ _ hA_W1]; rfl)
    have x5 := cell_regrown (w := W1) (a := ⟨w.heap.size, 5, none⟩) (v := .int .i64 pr) (by rw [cell_of_row _ _ _ _ _ _ hA_W1]; rfl)
    have x6 := cell_regrown (w := W1) (a := ⟨w.heap.size, 6, none⟩) (v := .int .i64 pi) (by rw [cell_of_row _ _ _ _ _ _ hA_W1]; rfl)
    have x7 := cell_regrown (w := W1) (a := ⟨w.heap.size, 7, none⟩) (v := .string name) (by rw [cell_of_row _ _ _ _ _ _ hA_W1]; rfl)
    have x8 := cell_regrown (w := W1) (a := ⟨w.heap.size, 8, none⟩) (v := .bool dir) (by rw [cell_of_row _ _ _ _ _ _ hA_W1]; rfl)
    have x9 := cell_regrown (w := W1) (a := ⟨w.heap.size, 9, none⟩) (v := .slice dA dn dc) (by rw [cell_of_row _ _ _ _ _ _ hA_W1]; rfl)
    have x10 := cell_regrown (w := W1) (a := ⟨w.heap.size, 10, none⟩) (v := .int .i64 at_) (by rw [cell_of_row _ _ _ _ _ _ hA_W1]; rfl)
    have x11 := cell_regrown (w := W1) (a := ⟨w.heap.size, 11, none⟩) (v := .int .i64 ar) (by rw [cell_of_row _ _ _ _ _ _ hA_W1]; rfl)
    have x12 := cell_regrown (w := W1) (a := ⟨w.heap.size, 12, none⟩) (v := .int .i64 ai) (by rw [cell_of_row _ _ _ _ _ _ hA_W1]; rfl)
    have x13 := cell_regrown (w := W1) (a := ⟨w.heap.size, 13, none⟩) (v := .int .i64 et) (by rw [cell_of_row _ _ _ _ _ _ hA_W1]; rfl)
    have x14 := cell_regrown (w := W1) (a := ⟨w.heap.size, 14, none⟩) (v := .int .i64 er) (by rw [cell_of_row _ _ _ _ _ _ hA_W1]; rfl)
    have x15 := cell_regrown (w := W1) (a := ⟨w.heap.size, 15, none⟩) (v := .int .i64 ei) (by rw [cell_of_row _ _ _ _ _ _ hA_W1]; rfl)
    have x16 := cell_regrown (w := W1) (a := ⟨w.heap.size, 16, none⟩) (v := .string text) (by rw [cell_of_row _ _ _ _ _ _ hA_W1]; rfl)
    have x17 := cell_regrown (w := W1) (a := ⟨w.heap.size, 17, none⟩) (v := .slice eA en ec) (by rw [cell_of_row _ _ _ _ _ _ hA_W1]; rfl)
    clear hA_W1
    have h_an := H_an.out
    have h_en_ := H_en_.out
    have c_an := fun d os => Calls.regrown_of (refnone_any at_ ar ai (grow (redrawn W1 d) os))
    rw [h_an] at c_an
    have c_en_ := fun d os => Calls.regrown_of (refnone_any et er ei (grow (redrawn W1 d) os))
    rw [h_en_] at c_en_
    clear h_an h_en_
    refine wp_plain_quiet_below ?_
    repeat (any_goals (first | go_big_quiet_step (first | with_reducible exact c_an _ _ | with_reducible exact c_en_ _ _) | quiet_step (first | with_reducible exact c_an _ _ | with_reducible exact c_en_ _ _)))
    refine wpQuiet_nil ?_
    intro _ hw'
    obtain ⟨⟨dq, osq⟩, hw''⟩ := hw'
    subst hw''
    have hBq := below_regrown W1 dq osq
    generalize grow (redrawn W1 dq) osq = wq at *
    go_wp2
    go_ret
    exact ⟨rfl, hB1.trans (hBq.mono hB1.size)⟩
  have h_tx : decide (text.data.toList = []) = true := decide_eq_true h_tx0
  by_cases h_el0 : en = 0
  rotate_left
  · have h_el : decide (en = 0) = false := decide_eq_false h_el0
    obtain rfl : ans = false := by rw [HV.out]; simp only [h_dl, h_an, h_en_, h_tx, h_el, Bool.and_false, Bool.false_and, Bool.and_true, Bool.true_and]
    have s_dl : decide (0 < dn) = false := decide_eq_false (by omega)
    obtain rfl := bs_nil.1 h_tx0
    have s_el : ((en : Int) == 0) = false := by rw [beq_eq_false_iff_ne]; omega
    have s_el2 : decide (en = 0) = false := decide_eq_false h_el0
    have hA_W : W.heap[w.heap.size]? = some (.cells #[.int .i64 k, .int .i64 nt, .int .i64 nr, .int .i64 ni, .int .i64 pt, .int .i64 pr, .int .i64 pi, .string name, .bool dir, .slice dA dn dc, .int .i64 at_, .int .i64 ar, .int .i64 ai, .int .i64 et, .int .i64 er, .int .i64 ei, .string ⟨#[]⟩, .slice eA en ec] 70 (0, 0)) := HA.out
    have x4 := cell_regrown (w := W) (a := ⟨w.heap.size, 4, none⟩) (v := .int .i64 pt) (by rw [cell_of_row _ _ _ _ _ _ hA_W]; rfl)
    have x5 := cell_regrown (w := W) (a := ⟨w.heap.size, 5, none⟩) (v := .int .i64 pr) (by rw [cell_of_row _ _ _ _ _ _ hA_W]; rfl)
    have x6 := cell_regrown (w := W) (a := ⟨w.heap.size, 6, none⟩) (v := .int .i64 pi) (by rw [cell_of_row _ _ _ _ _ _ hA_W]; rfl)
    have x7 := cell_regrown (w := W) (a := ⟨w.heap.size, 7, none⟩) (v := .string name) (by rw [cell_of_row _ _ _ _ _ _ hA_W]; rfl)
    have x8 := cell_regrown (w := W) (a := ⟨w.heap.size, 8, none⟩) (v := .bool dir) (by rw [cell_of_row _ _ _ _ _ _ hA_W]; rfl)
    have x9 := cell_regrown (w := W) (a := ⟨w.heap.size, 9, none⟩) (v := .slice dA dn dc) (by rw [cell_of_row _ _ _ _ _ _ hA_W]; rfl)
    have x10 := cell_regrown (w := W) (a := ⟨w.heap.size, 10, none⟩) (v := .int .i64 at_) (by rw [cell_of_row _ _ _ _ _ _ hA_W]; rfl)
    have x11 := cell_regrown (w := W) (a := ⟨w.heap.size, 11, none⟩) (v := .int .i64 ar) (by rw [cell_of_row _ _ _ _ _ _ hA_W]; rfl)
    have x12 := cell_regrown (w := W) (a := ⟨w.heap.size, 12, none⟩) (v := .int .i64 ai) (by rw [cell_of_row _ _ _ _ _ _ hA_W]; rfl)
    have x13 := cell_regrown (w := W) (a := ⟨w.heap.size, 13, none⟩) (v := .int .i64 et) (by rw [cell_of_row _ _ _ _ _ _ hA_W]; rfl)
    have x14 := cell_regrown (w := W) (a := ⟨w.heap.size, 14, none⟩) (v := .int .i64 er) (by rw [cell_of_row _ _ _ _ _ _ hA_W]; rfl)
    have x15 := cell_regrown (w := W) (a := ⟨w.heap.size, 15, none⟩) (v := .int .i64 ei) (by rw [cell_of_row _ _ _ _ _ _ hA_W]; rfl)
    have x16 := cell_regrown (w := W) (a := ⟨w.heap.size, 16, none⟩) (v := .string ⟨#[]⟩) (by rw [cell_of_row _ _ _ _ _ _ hA_W]; rfl)
    have x17 := cell_regrown (w := W) (a := ⟨w.heap.size, 17, none⟩) (v := .slice eA en ec) (by rw [cell_of_row _ _ _ _ _ _ hA_W]; rfl)
    clear hA_W
    have H_an := Lib.hid h_an
    have H_en_ := Lib.hid h_en_
    clear h_an h_en_ h_tx h_tx0 h_dl0 h_el0 h_dl h_el
    go_enter Tryz.func119, Tryz.ntmps119
    go_upto_region 1 with (fail)
    rw [← HW.out]
    refine wp_plain_quiet_below ?_
    repeat (any_goals (first | go_big_quiet_step (fail) | quiet_step (fail)))
    refine wpQuiet_nil ?_
    intro _ hw'
    obtain ⟨⟨dq, osq⟩, hw''⟩ := hw'
    subst hw''
    have hBq := below_regrown W dq osq
    generalize grow (redrawn W dq) osq = wq at *
    have hB1 := hBW.trans (hBq.mono hBW.size)
    have hA1 := (hBq.block _ hlt).trans HA.out
    have HA1 := Lib.hid hA1
    clear hA1 hBq x4 x5 x6 x7 x8 x9 x10 x11 x12 x13 x14 x15 x16 x17
    obtain ⟨W1, hW1⟩ : ∃ W1, W1 = wq := ⟨_, rfl⟩
    rw [← hW1] at hB1 HA1 ⊢
    clear hW1
    go_upto_region 3 with (fail)
    have hA_W1 : W1.heap[w.heap.size]? = some (.cells #[.int .i64 k, .int .i64 nt, .int .i64 nr, .int .i64 ni, .int .i64 pt, .int .i64 pr, .int .i64 pi, .string name, .bool dir, .slice dA dn dc, .int .i64 at_, .int .i64 ar, .int .i64 ai, .int .i64 et, .int .i64 er, .int .i64 ei, .string ⟨#[]⟩, .slice eA en ec] 70 (0, 0)) := HA1.out
    have x4 := cell_regrown (w := W1) (a := ⟨w.heap.size, 4, none⟩) (v := .int .i64 pt) (by rw [cell_of_row _ _ _ _ _ _ hA_W1]; rfl)
    have x5 := cell_regrown (w := W1) (a := ⟨w.heap.size, 5, none⟩) (v := .int .i64 pr) (by rw [cell_of_row _ _ _ _ _ _ hA_W1]; rfl)
    have x6 := cell_regrown (w := W1) (a := ⟨w.heap.size, 6, none⟩) (v := .int .i64 pi) (by rw [cell_of_row _ _ _ _ _ _ hA_W1]; rfl)
    have x7 := cell_regrown (w := W1) (a := ⟨w.heap.size, 7, none⟩) (v := .string name) (by rw [cell_of_row _ _ _ _ _ _ hA_W1]; rfl)
    have x8 := cell_regrown (w := W1) (a := ⟨w.heap.size, 8, none⟩) (v := .bool dir) (by rw [cell_of_row _ _ _ _ _ _ hA_W1]; rfl)
    have x9 := cell_regrown (w := W1) (a := ⟨w.heap.size, 9, none⟩) (v := .slice dA dn dc) (by rw [cell_of_row _ _ _ _ _ _ hA_W1]; rfl)
    have x10 := cell_regrown (w := W1) (a := ⟨w.heap.size, 10, none⟩) (v := .int .i64 at_) (by rw [cell_of_row _ _ _ _ _ _ hA_W1]; rfl)
    have x11 := cell_regrown (w := W1) (a := ⟨w.heap.size, 11, none⟩) (v := .int .i64 ar) (by rw [cell_of_row _ _ _ _ _ _ hA_W1]; rfl)
    have x12 := cell_regrown (w := W1) (a := ⟨w.heap.size, 12, none⟩) (v := .int .i64 ai) (by rw [cell_of_row _ _ _ _ _ _ hA_W1]; rfl)
    have x13 := cell_regrown (w := W1) (a := ⟨w.heap.size, 13, none⟩) (v := .int .i64 et) (by rw [cell_of_row _ _ _ _ _ _ hA_W1]; rfl)
    have x14 := cell_regrown (w := W1) (a := ⟨w.heap.size, 14, none⟩) (v := .int .i64 er) (by rw [cell_of_row _ _ _ _ _ _ hA_W1]; rfl)
    have x15 := cell_regrown (w := W1) (a := ⟨w.heap.size, 15, none⟩) (v := .int .i64 ei) (by rw [cell_of_row _ _ _ _ _ _ hA_W1]; rfl)
    have x16 := cell_regrown (w := W1) (a := ⟨w.heap.size, 16, none⟩) (v := .string ⟨#[]⟩) (by rw [cell_of_row _ _ _ _ _ _ hA_W1]; rfl)
    have x17 := cell_regrown (w := W1) (a := ⟨w.heap.size, 17, none⟩) (v := .slice eA en ec) (by rw [cell_of_row _ _ _ _ _ _ hA_W1]; rfl)
    clear hA_W1
    have h_an := H_an.out
    have h_en_ := H_en_.out
    have c_an := fun d os => Calls.regrown_of (refnone_any at_ ar ai (grow (redrawn W1 d) os))
    rw [h_an] at c_an
    have c_en_ := fun d os => Calls.regrown_of (refnone_any et er ei (grow (redrawn W1 d) os))
    rw [h_en_] at c_en_
    clear h_an h_en_
    refine wp_plain_quiet_below ?_
    repeat (any_goals (first | go_big_quiet_step (first | with_reducible exact c_an _ _ | with_reducible exact c_en_ _ _) | quiet_step (first | with_reducible exact c_an _ _ | with_reducible exact c_en_ _ _)))
    refine wpQuiet_nil ?_
    intro _ hw'
    obtain ⟨⟨dq, osq⟩, hw''⟩ := hw'
    subst hw''
    have hBq := below_regrown W1 dq osq
    generalize grow (redrawn W1 dq) osq = wq at *
    go_wp2
    go_ret
    exact ⟨rfl, hB1.trans (hBq.mono hB1.size)⟩
  have h_el : decide (en = 0) = true := decide_eq_true h_el0
  obtain rfl : ans = true := by rw [HV.out]; simp only [h_dl, h_an, h_en_, h_tx, h_el, Bool.and_false, Bool.false_and, Bool.and_true, Bool.true_and]
  have s_dl : decide (0 < dn) = false := decide_eq_false (by omega)
  obtain rfl := bs_nil.1 h_tx0
  have s_el : ((en : Int) == 0) = true := by rw [beq_iff_eq]; omega
  have s_el2 : decide (en = 0) = true := decide_eq_true h_el0
  have hA_W : W.heap[w.heap.size]? = some (.cells #[.int .i64 k, .int .i64 nt, .int .i64 nr, .int .i64 ni, .int .i64 pt, .int .i64 pr, .int .i64 pi, .string name, .bool dir, .slice dA dn dc, .int .i64 at_, .int .i64 ar, .int .i64 ai, .int .i64 et, .int .i64 er, .int .i64 ei, .string ⟨#[]⟩, .slice eA en ec] 70 (0, 0)) := HA.out
  have x4 := cell_regrown (w := W) (a := ⟨w.heap.size, 4, none⟩) (v := .int .i64 pt) (by rw [cell_of_row _ _ _ _ _ _ hA_W]; rfl)
  have x5 := cell_regrown (w := W) (a := ⟨w.heap.size, 5, none⟩) (v := .int .i64 pr) (by rw [cell_of_row _ _ _ _ _ _ hA_W]; rfl)
  have x6 := cell_regrown (w := W) (a := ⟨w.heap.size, 6, none⟩) (v := .int .i64 pi) (by rw [cell_of_row _ _ _ _ _ _ hA_W]; rfl)
  have x7 := cell_regrown (w := W) (a := ⟨w.heap.size, 7, none⟩) (v := .string name) (by rw [cell_of_row _ _ _ _ _ _ hA_W]; rfl)
  have x8 := cell_regrown (w := W) (a := ⟨w.heap.size, 8, none⟩) (v := .bool dir) (by rw [cell_of_row _ _ _ _ _ _ hA_W]; rfl)
  have x9 := cell_regrown (w := W) (a := ⟨w.heap.size, 9, none⟩) (v := .slice dA dn dc) (by rw [cell_of_row _ _ _ _ _ _ hA_W]; rfl)
  have x10 := cell_regrown (w := W) (a := ⟨w.heap.size, 10, none⟩) (v := .int .i64 at_) (by rw [cell_of_row _ _ _ _ _ _ hA_W]; rfl)
  have x11 := cell_regrown (w := W) (a := ⟨w.heap.size, 11, none⟩) (v := .int .i64 ar) (by rw [cell_of_row _ _ _ _ _ _ hA_W]; rfl)
  have x12 := cell_regrown (w := W) (a := ⟨w.heap.size, 12, none⟩) (v := .int .i64 ai) (by rw [cell_of_row _ _ _ _ _ _ hA_W]; rfl)
  have x13 := cell_regrown (w := W) (a := ⟨w.heap.size, 13, none⟩) (v := .int .i64 et) (by rw [cell_of_row _ _ _ _ _ _ hA_W]; rfl)
  have x14 := cell_regrown (w := W) (a := ⟨w.heap.size, 14, none⟩) (v := .int .i64 er) (by rw [cell_of_row _ _ _ _ _ _ hA_W]; rfl)
  have x15 := cell_regrown (w := W) (a := ⟨w.heap.size, 15, none⟩) (v := .int .i64 ei) (by rw [cell_of_row _ _ _ _ _ _ hA_W]; rfl)
  have x16 := cell_regrown (w := W) (a := ⟨w.heap.size, 16, none⟩) (v := .string ⟨#[]⟩) (by rw [cell_of_row _ _ _ _ _ _ hA_W]; rfl)
  have x17 := cell_regrown (w := W) (a := ⟨w.heap.size, 17, none⟩) (v := .slice eA en ec) (by rw [cell_of_row _ _ _ _ _ _ hA_W]; rfl)
  clear hA_W
  have H_an := Lib.hid h_an
  have H_en_ := Lib.hid h_en_
  clear h_an h_en_ h_tx h_tx0 h_dl0 h_el0 h_dl h_el
  go_enter Tryz.func119, Tryz.ntmps119
  go_upto_region 1 with (fail)
  rw [← HW.out]
  refine wp_plain_quiet_below ?_
  repeat (any_goals (first | go_big_quiet_step (fail) | quiet_step (fail)))
  refine wpQuiet_nil ?_
  intro _ hw'
  obtain ⟨⟨dq, osq⟩, hw''⟩ := hw'
  subst hw''
  have hBq := below_regrown W dq osq
  generalize grow (redrawn W dq) osq = wq at *
  have hB1 := hBW.trans (hBq.mono hBW.size)
  have hA1 := (hBq.block _ hlt).trans HA.out
  have HA1 := Lib.hid hA1
  clear hA1 hBq x4 x5 x6 x7 x8 x9 x10 x11 x12 x13 x14 x15 x16 x17
  obtain ⟨W1, hW1⟩ : ∃ W1, W1 = wq := ⟨_, rfl⟩
  rw [← hW1] at hB1 HA1 ⊢
  clear hW1
  go_upto_region 3 with (fail)
  have hA_W1 : W1.heap[w.heap.size]? = some (.cells #[.int .i64 k, .int .i64 nt, .int .i64 nr, .int .i64 ni, .int .i64 pt, .int .i64 pr, .int .i64 pi, .string name, .bool dir, .slice dA dn dc, .int .i64 at_, .int .i64 ar, .int .i64 ai, .int .i64 et, .int .i64 er, .int .i64 ei, .string ⟨#[]⟩, .slice eA en ec] 70 (0, 0)) := HA1.out
  have x4 := cell_regrown (w := W1) (a := ⟨w.heap.size, 4, none⟩) (v := .int .i64 pt) (by rw [cell_of_row _ _ _ _ _ _ hA_W1]; rfl)
  have x5 := cell_regrown (w := W1) (a := ⟨w.heap.size, 5, none⟩) (v := .int .i64 pr) (by rw [cell_of_row _ _ _ _ _ _ hA_W1]; rfl)
  have x6 := cell_regrown (w := W1) (a := ⟨w.heap.size, 6, none⟩) (v := .int .i64 pi) (by rw [cell_of_row _ _ _ _ _ _ hA_W1]; rfl)
  have x7 := cell_regrown (w := W1) (a := ⟨w.heap.size, 7, none⟩) (v := .string name) (by rw [cell_of_row _ _ _ _ _ _ hA_W1]; rfl)
  have x8 := cell_regrown (w := W1) (a := ⟨w.heap.size, 8, none⟩) (v := .bool dir) (by rw [cell_of_row _ _ _ _ _ _ hA_W1]; rfl)
  have x9 := cell_regrown (w := W1) (a := ⟨w.heap.size, 9, none⟩) (v := .slice dA dn dc) (by rw [cell_of_row _ _ _ _ _ _ hA_W1]; rfl)
  have x10 := cell_regrown (w := W1) (a := ⟨w.heap.size, 10, none⟩) (v := .int .i64 at_) (by rw [cell_of_row _ _ _ _ _ _ hA_W1]; rfl)
  have x11 := cell_regrown (w := W1) (a := ⟨w.heap.size, 11, none⟩) (v := .int .i64 ar) (by rw [cell_of_row _ _ _ _ _ _ hA_W1]; rfl)
  have x12 := cell_regrown (w := W1) (a := ⟨w.heap.size, 12, none⟩) (v := .int .i64 ai) (by rw [cell_of_row _ _ _ _ _ _ hA_W1]; rfl)
  have x13 := cell_regrown (w := W1) (a := ⟨w.heap.size, 13, none⟩) (v := .int .i64 et) (by rw [cell_of_row _ _ _ _ _ _ hA_W1]; rfl)
  have x14 := cell_regrown (w := W1) (a := ⟨w.heap.size, 14, none⟩) (v := .int .i64 er) (by rw [cell_of_row _ _ _ _ _ _ hA_W1]; rfl)
  have x15 := cell_regrown (w := W1) (a := ⟨w.heap.size, 15, none⟩) (v := .int .i64 ei) (by rw [cell_of_row _ _ _ _ _ _ hA_W1]; rfl)
  have x16 := cell_regrown (w := W1) (a := ⟨w.heap.size, 16, none⟩) (v := .string ⟨#[]⟩) (by rw [cell_of_row _ _ _ _ _ _ hA_W1]; rfl)
  have x17 := cell_regrown (w := W1) (a := ⟨w.heap.size, 17, none⟩) (v := .slice eA en ec) (by rw [cell_of_row _ _ _ _ _ _ hA_W1]; rfl)
  clear hA_W1
  have h_an := H_an.out
  have h_en_ := H_en_.out
  have c_an := fun d os => Calls.regrown_of (refnone_any at_ ar ai (grow (redrawn W1 d) os))
  rw [h_an] at c_an
  have c_en_ := fun d os => Calls.regrown_of (refnone_any et er ei (grow (redrawn W1 d) os))
  rw [h_en_] at c_en_
  clear h_an h_en_
  refine wp_plain_quiet_below ?_
  repeat (any_goals (first | go_big_quiet_step (first | with_reducible exact c_an _ _ | with_reducible exact c_en_ _ _) | quiet_step (first | with_reducible exact c_an _ _ | with_reducible exact c_en_ _ _)))
  refine wpQuiet_nil ?_
  intro _ hw'
  obtain ⟨⟨dq, osq⟩, hw''⟩ := hw'
  subst hw''
  have hBq := below_regrown W1 dq osq
  generalize grow (redrawn W1 dq) osq = wq at *
  go_wp2
  go_ret
  exact ⟨rfl, hB1.trans (hBq.mono hB1.size)⟩
set_option maxRecDepth 100000 in
set_option maxHeartbeats 8000000 in
theorem refbare_1 (k nt nr ni pt pr pi : Int) (name : ByteArray) (dir : Bool) (dA : Option Addr) (dn dc : Nat) (at_ ar ai et er ei : Int) (text : ByteArray) (eA : Option Addr) (en ec : Nat) (w : World) :
    Calls Tryz.prog 119 #[.agg #[.int .i64 k, .int .i64 nt, .int .i64 nr, .int .i64 ni, .int .i64 pt, .int .i64 pr, .int .i64 pi, .string name, .bool dir, .slice dA dn dc, .int .i64 at_, .int .i64 ar, .int .i64 ai, .int .i64 et, .int .i64 er, .int .i64 ei, .string text, .slice eA en ec], .bool true, .bool false, .bool false, .bool false, .bool false] w fun e w' => e = .returned (.bool ((!dir) && (decide (dn = 0)) && (Gid.none ⟨⟨at_, ar⟩, ai⟩) && (Gid.none ⟨⟨et, er⟩, ei⟩) && (decide (text.data.toList = [])) && (decide (en = 0)))) ∧ Below w.heap.size w w' := by
  obtain ⟨ans, ha⟩ : ∃ a, a = ((!dir) && (decide (dn = 0)) && (Gid.none ⟨⟨at_, ar⟩, ai⟩) && (Gid.none ⟨⟨et, er⟩, ei⟩) && (decide (text.data.toList = [])) && (decide (en = 0))) := ⟨_, rfl⟩
  rw [← ha]
  have HV := Lib.hid ha
  clear ha
  obtain ⟨W, hW⟩ : ∃ W, W = w.alloc (.cells #[.int .i64 k, .int .i64 nt, .int .i64 nr, .int .i64 ni, .int .i64 pt, .int .i64 pr, .int .i64 pi, .string name, .bool dir, .slice dA dn dc, .int .i64 at_, .int .i64 ar, .int .i64 ai, .int .i64 et, .int .i64 er, .int .i64 ei, .string text, .slice eA en ec] 70) := ⟨_, rfl⟩
  have hBW : Below w.heap.size w W := by subst hW; exact (Below.refl _ _).alloc (Nat.le_refl _) _
  have hA : W.heap[w.heap.size]? = some (.cells #[.int .i64 k, .int .i64 nt, .int .i64 nr, .int .i64 ni, .int .i64 pt, .int .i64 pr, .int .i64 pi, .string name, .bool dir, .slice dA dn dc, .int .i64 at_, .int .i64 ar, .int .i64 ai, .int .i64 et, .int .i64 er, .int .i64 ei, .string text, .slice eA en ec] 70 (0, 0)) := by subst hW; exact heap_alloc_new _ _
  have HW := Lib.hid hW
  have HA := Lib.hid hA
  have hlt : w.heap.size < W.heap.size := by subst hW; simp
  clear hW hA
  cases h_d : (!dir) with
  | false =>
    obtain rfl : ans = false := by rw [HV.out]; simp only [h_d, Bool.and_false, Bool.false_and, Bool.and_true, Bool.true_and]
    obtain rfl : dir = true := by simpa using h_d
    have hA_W : W.heap[w.heap.size]? = some (.cells #[.int .i64 k, .int .i64 nt, .int .i64 nr, .int .i64 ni, .int .i64 pt, .int .i64 pr, .int .i64 pi, .string name, .bool true, .slice dA dn dc, .int .i64 at_, .int .i64 ar, .int .i64 ai, .int .i64 et, .int .i64 er, .int .i64 ei, .string text, .slice eA en ec] 70 (0, 0)) := HA.out
    have x4 := cell_regrown (w := W) (a := ⟨w.heap.size, 4, none⟩) (v := .int .i64 pt) (by rw [cell_of_row _ _ _ _ _ _ hA_W]; rfl)
    have x5 := cell_regrown (w := W) (a := ⟨w.heap.size, 5, none⟩) (v := .int .i64 pr) (by rw [cell_of_row _ _ _ _ _ _ hA_W]; rfl)
    have x6 := cell_regrown (w := W) (a := ⟨w.heap.size, 6, none⟩) (v := .int .i64 pi) (by rw [cell_of_row _ _ _ _ _ _ hA_W]; rfl)
    have x7 := cell_regrown (w := W) (a := ⟨w.heap.size, 7, none⟩) (v := .string name) (by rw [cell_of_row _ _ _ _ _ _ hA_W]; rfl)
    have x8 := cell_regrown (w := W) (a := ⟨w.heap.size, 8, none⟩) (v := .bool true) (by rw [cell_of_row _ _ _ _ _ _ hA_W]; rfl)
    have x9 := cell_regrown (w := W) (a := ⟨w.heap.size, 9, none⟩) (v := .slice dA dn dc) (by rw [cell_of_row _ _ _ _ _ _ hA_W]; rfl)
    have x10 := cell_regrown (w := W) (a := ⟨w.heap.size, 10, none⟩) (v := .int .i64 at_) (by rw [cell_of_row _ _ _ _ _ _ hA_W]; rfl)
    have x11 := cell_regrown (w := W) (a := ⟨w.heap.size, 11, none⟩) (v := .int .i64 ar) (by rw [cell_of_row _ _ _ _ _ _ hA_W]; rfl)
    have x12 := cell_regrown (w := W) (a := ⟨w.heap.size, 12, none⟩) (v := .int .i64 ai) (by rw [cell_of_row _ _ _ _ _ _ hA_W]; rfl)
    have x13 := cell_regrown (w := W) (a := ⟨w.heap.size, 13, none⟩) (v := .int .i64 et) (by rw [cell_of_row _ _ _ _ _ _ hA_W]; rfl)
    have x14 := cell_regrown (w := W) (a := ⟨w.heap.size, 14, none⟩) (v := .int .i64 er) (by rw [cell_of_row _ _ _ _ _ _ hA_W]; rfl)
    have x15 := cell_regrown (w := W) (a := ⟨w.heap.size, 15, none⟩) (v := .int .i64 ei) (by rw [cell_of_row _ _ _ _ _ _ hA_W]; rfl)
    have x16 := cell_regrown (w := W) (a := ⟨w.heap.size, 16, none⟩) (v := .string text) (by rw [cell_of_row _ _ _ _ _ _ hA_W]; rfl)
    have x17 := cell_regrown (w := W) (a := ⟨w.heap.size, 17, none⟩) (v := .slice eA en ec) (by rw [cell_of_row _ _ _ _ _ _ hA_W]; rfl)
    clear hA_W
    clear h_d
    go_enter Tryz.func119, Tryz.ntmps119
    go_upto_region 1 with (fail)
    rw [← HW.out]
    refine wp_plain_quiet_below ?_
    repeat (any_goals (first | go_big_quiet_step (fail) | quiet_step (fail)))
    refine wpQuiet_nil ?_
    intro _ hw'
    obtain ⟨⟨dq, osq⟩, hw''⟩ := hw'
    subst hw''
    have hBq := below_regrown W dq osq
    generalize grow (redrawn W dq) osq = wq at *
    go_wp2
    go_ret
    exact ⟨rfl, hBW.trans (hBq.mono hBW.size)⟩
  | true =>
  by_cases h_dl0 : dn = 0
  rotate_left
  · have h_dl : decide (dn = 0) = false := decide_eq_false h_dl0
    obtain rfl : ans = false := by rw [HV.out]; simp only [h_d, h_dl, Bool.and_false, Bool.false_and, Bool.and_true, Bool.true_and]
    obtain rfl : dir = false := by simpa using h_d
    have s_dl : decide (0 < dn) = true := decide_eq_true (by omega)
    have hA_W : W.heap[w.heap.size]? = some (.cells #[.int .i64 k, .int .i64 nt, .int .i64 nr, .int .i64 ni, .int .i64 pt, .int .i64 pr, .int .i64 pi, .string name, .bool false, .slice dA dn dc, .int .i64 at_, .int .i64 ar, .int .i64 ai, .int .i64 et, .int .i64 er, .int .i64 ei, .string text, .slice eA en ec] 70 (0, 0)) := HA.out
    have x4 := cell_regrown (w := W) (a := ⟨w.heap.size, 4, none⟩) (v := .int .i64 pt) (by rw [cell_of_row _ _ _ _ _ _ hA_W]; rfl)
    have x5 := cell_regrown (w := W) (a := ⟨w.heap.size, 5, none⟩) (v := .int .i64 pr) (by rw [cell_of_row _ _ _ _ _ _ hA_W]; rfl)
    have x6 := cell_regrown (w := W) (a := ⟨w.heap.size, 6, none⟩) (v := .int .i64 pi) (by rw [cell_of_row _ _ _ _ _ _ hA_W]; rfl)
    have x7 := cell_regrown (w := W) (a := ⟨w.heap.size, 7, none⟩) (v := .string name) (by rw [cell_of_row _ _ _ _ _ _ hA_W]; rfl)
    have x8 := cell_regrown (w := W) (a := ⟨w.heap.size, 8, none⟩) (v := .bool false) (by rw [cell_of_row _ _ _ _ _ _ hA_W]; rfl)
    have x9 := cell_regrown (w := W) (a := ⟨w.heap.size, 9, none⟩) (v := .slice dA dn dc) (by rw [cell_of_row _ _ _ _ _ _ hA_W]; rfl)
    have x10 := cell_regrown (w := W) (a := ⟨w.heap.size, 10, none⟩) (v := .int .i64 at_) (by rw [cell_of_row _ _ _ _ _ _ hA_W]; rfl)
    have x11 := cell_regrown (w := W) (a := ⟨w.heap.size, 11, none⟩) (v := .int .i64 ar) (by rw [cell_of_row _ _ _ _ _ _ hA_W]; rfl)
    have x12 := cell_regrown (w := W) (a := ⟨w.heap.size, 12, none⟩) (v := .int .i64 ai) (by rw [cell_of_row _ _ _ _ _ _ hA_W]; rfl)
    have x13 := cell_regrown (w := W) (a := ⟨w.heap.size, 13, none⟩) (v := .int .i64 et) (by rw [cell_of_row _ _ _ _ _ _ hA_W]; rfl)
    have x14 := cell_regrown (w := W) (a := ⟨w.heap.size, 14, none⟩) (v := .int .i64 er) (by rw [cell_of_row _ _ _ _ _ _ hA_W]; rfl)
    have x15 := cell_regrown (w := W) (a := ⟨w.heap.size, 15, none⟩) (v := .int .i64 ei) (by rw [cell_of_row _ _ _ _ _ _ hA_W]; rfl)
    have x16 := cell_regrown (w := W) (a := ⟨w.heap.size, 16, none⟩) (v := .string text) (by rw [cell_of_row _ _ _ _ _ _ hA_W]; rfl)
    have x17 := cell_regrown (w := W) (a := ⟨w.heap.size, 17, none⟩) (v := .slice eA en ec) (by rw [cell_of_row _ _ _ _ _ _ hA_W]; rfl)
    clear hA_W
    clear h_d h_dl0 h_dl
    go_enter Tryz.func119, Tryz.ntmps119
    go_upto_region 1 with (fail)
    rw [← HW.out]
    refine wp_plain_quiet_below ?_
    repeat (any_goals (first | go_big_quiet_step (fail) | quiet_step (fail)))
    refine wpQuiet_nil ?_
    intro _ hw'
    obtain ⟨⟨dq, osq⟩, hw''⟩ := hw'
    subst hw''
    have hBq := below_regrown W dq osq
    generalize grow (redrawn W dq) osq = wq at *
    go_wp2
    go_ret
    exact ⟨rfl, hBW.trans (hBq.mono hBW.size)⟩
  have h_dl : decide (dn = 0) = true := decide_eq_true h_dl0
  cases h_an : Gid.none ⟨⟨at_, ar⟩, ai⟩ with
  | false =>
    obtain rfl : ans = false := by rw [HV.out]; simp only [h_d, h_dl, h_an, Bool.and_false, Bool.false_and, Bool.and_true, Bool.true_and]
    obtain rfl : dir = false := by simpa using h_d
    have s_dl : decide (0 < dn) = false := decide_eq_false (by omega)
    have hA_W : W.heap[w.heap.size]? = some (.cells #[.int .i64 k, .int .i64 nt, .int .i64 nr, .int .i64 ni, .int .i64 pt, .int .i64 pr, .int .i64 pi, .string name, .bool false, .slice dA dn dc, .int .i64 at_, .int .i64 ar, .int .i64 ai, .int .i64 et, .int .i64 er, .int .i64 ei, .string text, .slice eA en ec] 70 (0, 0)) := HA.out
    have x4 := cell_regrown (w := W) (a := ⟨w.heap.size, 4, none⟩) (v := .int .i64 pt) (by rw [cell_of_row _ _ _ _ _ _ hA_W]; rfl)
    have x5 := cell_regrown (w := W) (a := ⟨w.heap.size, 5, none⟩) (v := .int .i64 pr) (by rw [cell_of_row _ _ _ _ _ _ hA_W]; rfl)
    have x6 := cell_regrown (w := W) (a := ⟨w.heap.size, 6, none⟩) (v := .int .i64 pi) (by rw [cell_of_row _ _ _ _ _ _ hA_W]; rfl)
    have x7 := cell_regrown (w := W) (a := ⟨w.heap.size, 7, none⟩) (v := .string name) (by rw [cell_of_row _ _ _ _ _ _ hA_W]; rfl)
    have x8 := cell_regrown (w := W) (a := ⟨w.heap.size, 8, none⟩) (v := .bool false) (by rw [cell_of_row _ _ _ _ _ _ hA_W]; rfl)
    have x9 := cell_regrown (w := W) (a := ⟨w.heap.size, 9, none⟩) (v := .slice dA dn dc) (by rw [cell_of_row _ _ _ _ _ _ hA_W]; rfl)
    have x10 := cell_regrown (w := W) (a := ⟨w.heap.size, 10, none⟩) (v := .int .i64 at_) (by rw [cell_of_row _ _ _ _ _ _ hA_W]; rfl)
    have x11 := cell_regrown (w := W) (a := ⟨w.heap.size, 11, none⟩) (v := .int .i64 ar) (by rw [cell_of_row _ _ _ _ _ _ hA_W]; rfl)
    have x12 := cell_regrown (w := W) (a := ⟨w.heap.size, 12, none⟩) (v := .int .i64 ai) (by rw [cell_of_row _ _ _ _ _ _ hA_W]; rfl)
    have x13 := cell_regrown (w := W) (a := ⟨w.heap.size, 13, none⟩) (v := .int .i64 et) (by rw [cell_of_row _ _ _ _ _ _ hA_W]; rfl)
    have x14 := cell_regrown (w := W) (a := ⟨w.heap.size, 14, none⟩) (v := .int .i64 er) (by rw [cell_of_row _ _ _ _ _ _ hA_W]; rfl)
    have x15 := cell_regrown (w := W) (a := ⟨w.heap.size, 15, none⟩) (v := .int .i64 ei) (by rw [cell_of_row _ _ _ _ _ _ hA_W]; rfl)
    have x16 := cell_regrown (w := W) (a := ⟨w.heap.size, 16, none⟩) (v := .string text) (by rw [cell_of_row _ _ _ _ _ _ hA_W]; rfl)
    have x17 := cell_regrown (w := W) (a := ⟨w.heap.size, 17, none⟩) (v := .slice eA en ec) (by rw [cell_of_row _ _ _ _ _ _ hA_W]; rfl)
    clear hA_W
    have H_an := Lib.hid h_an
    clear h_d h_an h_dl0 h_dl
    go_enter Tryz.func119, Tryz.ntmps119
    go_upto_region 1 with (fail)
    rw [← HW.out]
    refine wp_plain_quiet_below ?_
    repeat (any_goals (first | go_big_quiet_step (fail) | quiet_step (fail)))
    refine wpQuiet_nil ?_
    intro _ hw'
    obtain ⟨⟨dq, osq⟩, hw''⟩ := hw'
    subst hw''
    have hBq := below_regrown W dq osq
    generalize grow (redrawn W dq) osq = wq at *
    have hB1 := hBW.trans (hBq.mono hBW.size)
    have hA1 := (hBq.block _ hlt).trans HA.out
    have HA1 := Lib.hid hA1
    clear hA1 hBq x4 x5 x6 x7 x8 x9 x10 x11 x12 x13 x14 x15 x16 x17
    obtain ⟨W1, hW1⟩ : ∃ W1, W1 = wq := ⟨_, rfl⟩
    rw [← hW1] at hB1 HA1 ⊢
    clear hW1
    go_upto_region 3 with (fail)
    have hA_W1 : W1.heap[w.heap.size]? = some (.cells #[.int .i64 k, .int .i64 nt, .int .i64 nr, .int .i64 ni, .int .i64 pt, .int .i64 pr, .int .i64 pi, .string name, .bool false, .slice dA dn dc, .int .i64 at_, .int .i64 ar, .int .i64 ai, .int .i64 et, .int .i64 er, .int .i64 ei, .string text, .slice eA en ec] 70 (0, 0)) := HA1.out
    have x4 := cell_regrown (w := W1) (a := ⟨w.heap.size, 4, none⟩) (v := .int .i64 pt) (by rw [cell_of_row _ _ _ _ _ _ hA_W1]; rfl)
    have x5 := cell_regrown (w := W1) (a := ⟨w.heap.size, 5, none⟩) (v := .int .i64 pr) (by rw [cell_of_row _ _ _ _ _ _ hA_W1]; rfl)
    have x6 := cell_regrown (w := W1) (a := ⟨w.heap.size, 6, none⟩) (v := .int .i64 pi) (by rw [cell_of_row _ _ _ _ _ _ hA_W1]; rfl)
    have x7 := cell_regrown (w := W1) (a := ⟨w.heap.size, 7, none⟩) (v := .string name) (by rw [cell_of_row _ _ _ _ _ _ hA_W1]; rfl)
    have x8 := cell_regrown (w := W1) (a := ⟨w.heap.size, 8, none⟩) (v := .bool false) (by rw [cell_of_row _ _ _ _ _ _ hA_W1]; rfl)
    have x9 := cell_regrown (w := W1) (a := ⟨w.heap.size, 9, none⟩) (v := .slice dA dn dc) (by rw [cell_of_row _ _ _ _ _ _ hA_W1]; rfl)
    have x10 := cell_regrown (w := W1) (a := ⟨w.heap.size, 10, none⟩) (v := .int .i64 at_) (by rw [cell_of_row _ _ _ _ _ _ hA_W1]; rfl)
    have x11 := cell_regrown (w := W1) (a := ⟨w.heap.size, 11, none⟩) (v := .int .i64 ar) (by rw [cell_of_row _ _ _ _ _ _ hA_W1]; rfl)
    have x12 := cell_regrown (w := W1) (a := ⟨w.heap.size, 12, none⟩) (v := .int .i64 ai) (by rw [cell_of_row _ _ _ _ _ _ hA_W1]; rfl)
    have x13 := cell_regrown (w := W1) (a := ⟨w.heap.size, 13, none⟩) (v := .int .i64 et) (by rw [cell_of_row _ _ _ _ _ _ hA_W1]; rfl)
    have x14 := cell_regrown (w := W1) (a := ⟨w.heap.size, 14, none⟩) (v := .int .i64 er) (by rw [cell_of_row _ _ _ _ _ _ hA_W1]; rfl)
    have x15 := cell_regrown (w := W1) (a := ⟨w.heap.size, 15, none⟩) (v := .int .i64 ei) (by rw [cell_of_row _ _ _ _ _ _ hA_W1]; rfl)
    have x16 := cell_regrown (w := W1) (a := ⟨w.heap.size, 16, none⟩) (v := .string text) (by rw [cell_of_row _ _ _ _ _ _ hA_W1]; rfl)
    have x17 := cell_regrown (w := W1) (a := ⟨w.heap.size, 17, none⟩) (v := .slice eA en ec) (by rw [cell_of_row _ _ _ _ _ _ hA_W1]; rfl)
    clear hA_W1
    have h_an := H_an.out
    have c_an := fun d os => Calls.regrown_of (refnone_any at_ ar ai (grow (redrawn W1 d) os))
    rw [h_an] at c_an
    clear h_an
    refine wp_plain_quiet_below ?_
    repeat (any_goals (first | go_big_quiet_step (first | with_reducible exact c_an _ _) | quiet_step (first | with_reducible exact c_an _ _)))
    refine wpQuiet_nil ?_
    intro _ hw'
    obtain ⟨⟨dq, osq⟩, hw''⟩ := hw'
    subst hw''
    have hBq := below_regrown W1 dq osq
    generalize grow (redrawn W1 dq) osq = wq at *
    go_wp2
    go_ret
    exact ⟨rfl, hB1.trans (hBq.mono hB1.size)⟩
  | true =>
  cases h_en_ : Gid.none ⟨⟨et, er⟩, ei⟩ with
  | false =>
    obtain rfl : ans = false := by rw [HV.out]; simp only [h_d, h_dl, h_an, h_en_, Bool.and_false, Bool.false_and, Bool.and_true, Bool.true_and]
    obtain rfl : dir = false := by simpa using h_d
    have s_dl : decide (0 < dn) = false := decide_eq_false (by omega)
    have hA_W : W.heap[w.heap.size]? = some (.cells #[.int .i64 k, .int .i64 nt, .int .i64 nr, .int .i64 ni, .int .i64 pt, .int .i64 pr, .int .i64 pi, .string name, .bool false, .slice dA dn dc, .int .i64 at_, .int .i64 ar, .int .i64 ai, .int .i64 et, .int .i64 er, .int .i64 ei, .string text, .slice eA en ec] 70 (0, 0)) := HA.out
    have x4 := cell_regrown (w := W) (a := ⟨w.heap.size, 4, none⟩) (v := .int .i64 pt) (by rw [cell_of_row _ _ _ _ _ _ hA_W]; rfl)
    have x5 := cell_regrown (w := W) (a := ⟨w.heap.size, 5, none⟩) (v := .int .i64 pr) (by rw [cell_of_row _ _ _ _ _ _ hA_W]; rfl)
    have x6 := cell_regrown (w := W) (a := ⟨w.heap.size, 6, none⟩) (v := .int .i64 pi) (by rw [cell_of_row _ _ _ _ _ _ hA_W]; rfl)
    have x7 := cell_regrown (w := W) (a := ⟨w.heap.size, 7, none⟩) (v := .string name) (by rw [cell_of_row _ _ _ _ _ _ hA_W]; rfl)
    have x8 := cell_regrown (w := W) (a := ⟨w.heap.size, 8, none⟩) (v := .bool false) (by rw [cell_of_row _ _ _ _ _ _ hA_W]; rfl)
    have x9 := cell_regrown (w := W) (a := ⟨w.heap.size, 9, none⟩) (v := .slice dA dn dc) (by rw [cell_of_row _ _ _ _ _ _ hA_W]; rfl)
    have x10 := cell_regrown (w := W) (a := ⟨w.heap.size, 10, none⟩) (v := .int .i64 at_) (by rw [cell_of_row _ _ _ _ _ _ hA_W]; rfl)
    have x11 := cell_regrown (w := W) (a := ⟨w.heap.size, 11, none⟩) (v := .int .i64 ar) (by rw [cell_of_row _ _ _ _ _ _ hA_W]; rfl)
    have x12 := cell_regrown (w := W) (a := ⟨w.heap.size, 12, none⟩) (v := .int .i64 ai) (by rw [cell_of_row _ _ _ _ _ _ hA_W]; rfl)
    have x13 := cell_regrown (w := W) (a := ⟨w.heap.size, 13, none⟩) (v := .int .i64 et) (by rw [cell_of_row _ _ _ _ _ _ hA_W]; rfl)
    have x14 := cell_regrown (w := W) (a := ⟨w.heap.size, 14, none⟩) (v := .int .i64 er) (by rw [cell_of_row _ _ _ _ _ _ hA_W]; rfl)
    have x15 := cell_regrown (w := W) (a := ⟨w.heap.size, 15, none⟩) (v := .int .i64 ei) (by rw [cell_of_row _ _ _ _ _ _ hA_W]; rfl)
    have x16 := cell_regrown (w := W) (a := ⟨w.heap.size, 16, none⟩) (v := .string text) (by rw [cell_of_row _ _ _ _ _ _ hA_W]; rfl)
    have x17 := cell_regrown (w := W) (a := ⟨w.heap.size, 17, none⟩) (v := .slice eA en ec) (by rw [cell_of_row _ _ _ _ _ _ hA_W]; rfl)
    clear hA_W
    have H_an := Lib.hid h_an
    have H_en_ := Lib.hid h_en_
    clear h_d h_an h_en_ h_dl0 h_dl
    go_enter Tryz.func119, Tryz.ntmps119
    go_upto_region 1 with (fail)
    rw [← HW.out]
    refine wp_plain_quiet_below ?_
    repeat (any_goals (first | go_big_quiet_step (fail) | quiet_step (fail)))
    refine wpQuiet_nil ?_
    intro _ hw'
    obtain ⟨⟨dq, osq⟩, hw''⟩ := hw'
    subst hw''
    have hBq := below_regrown W dq osq
    generalize grow (redrawn W dq) osq = wq at *
    have hB1 := hBW.trans (hBq.mono hBW.size)
    have hA1 := (hBq.block _ hlt).trans HA.out
    have HA1 := Lib.hid hA1
    clear hA1 hBq x4 x5 x6 x7 x8 x9 x10 x11 x12 x13 x14 x15 x16 x17
    obtain ⟨W1, hW1⟩ : ∃ W1, W1 = wq := ⟨_, rfl⟩
    rw [← hW1] at hB1 HA1 ⊢
    clear hW1
    go_upto_region 3 with (fail)
    have hA_W1 : W1.heap[w.heap.size]? = some (.cells #[.int .i64 k, .int .i64 nt, .int .i64 nr, .int .i64 ni, .int .i64 pt, .int .i64 pr, .int .i64 pi, .string name, .bool false, .slice dA dn dc, .int .i64 at_, .int .i64 ar, .int .i64 ai, .int .i64 et, .int .i64 er, .int .i64 ei, .string text, .slice eA en ec] 70 (0, 0)) := HA1.out
    have x4 := cell_regrown (w := W1) (a := ⟨w.heap.size, 4, none⟩) (v := .int .i64 pt) (by rw [cell_of_row _ _ _ _ _ _ hA_W1]; rfl)
    have x5 := cell_regrown (w := W1) (a := ⟨w.heap.size, 5, none⟩) (v := .int .i64 pr) (by rw [cell_of_row _ _ _ _ _ _ hA_W1]; rfl)
    have x6 := cell_regrown (w := W1) (a := ⟨w.heap.size, 6, none⟩) (v := .int .i64 pi) (by rw [cell_of_row _ _ _ _ _ _ hA_W1]; rfl)
    have x7 := cell_regrown (w := W1) (a := ⟨w.heap.size, 7, none⟩) (v := .string name) (by rw [cell_of_row _ _ _ _ _ _ hA_W1]; rfl)
    have x8 := cell_regrown (w := W1) (a := ⟨w.heap.size, 8, none⟩) (v := .bool false) (by rw [cell_of_row _ _ _ _ _ _ hA_W1]; rfl)
    have x9 := cell_regrown (w := W1) (a := ⟨w.heap.size, 9, none⟩) (v := .slice dA dn dc) (by rw [cell_of_row _ _ _ _ _ _ hA_W1]; rfl)
    have x10 := cell_regrown (w := W1) (a := ⟨w.heap.size, 10, none⟩) (v := .int .i64 at_) (by rw [cell_of_row _ _ _ _ _ _ hA_W1]; rfl)
    have x11 := cell_regrown (w := W1) (a := ⟨w.heap.size, 11, none⟩) (v := .int .i64 ar) (by rw [cell_of_row _ _ _ _ _ _ hA_W1]; rfl)
    have x12 := cell_regrown (w := W1) (a := ⟨w.heap.size, 12, none⟩) (v := .int .i64 ai) (by rw [cell_of_row _ _ _ _ _ _ hA_W1]; rfl)
    have x13 := cell_regrown (w := W1) (a := ⟨w.heap.size, 13, none⟩) (v := .int .i64 et) (by rw [cell_of_row _ _ _ _ _ _ hA_W1]; rfl)
    have x14 := cell_regrown (w := W1) (a := ⟨w.heap.size, 14, none⟩) (v := .int .i64 er) (by rw [cell_of_row _ _ _ _ _ _ hA_W1]; rfl)
    have x15 := cell_regrown (w := W1) (a := ⟨w.heap.size, 15, none⟩) (v := .int .i64 ei) (by rw [cell_of_row _ _ _ _ _ _ hA_W1]; rfl)
    have x16 := cell_regrown (w := W1) (a := ⟨w.heap.size, 16, none⟩) (v := .string text) (by rw [cell_of_row _ _ _ _ _ _ hA_W1]; rfl)
    have x17 := cell_regrown (w := W1) (a := ⟨w.heap.size, 17, none⟩) (v := .slice eA en ec) (by rw [cell_of_row _ _ _ _ _ _ hA_W1]; rfl)
    clear hA_W1
    have h_an := H_an.out
    have h_en_ := H_en_.out
    have c_an := fun d os => Calls.regrown_of (refnone_any at_ ar ai (grow (redrawn W1 d) os))
    rw [h_an] at c_an
    have c_en_ := fun d os => Calls.regrown_of (refnone_any et er ei (grow (redrawn W1 d) os))
    rw [h_en_] at c_en_
    clear h_an h_en_
    refine wp_plain_quiet_below ?_
    repeat (any_goals (first | go_big_quiet_step (first | with_reducible exact c_an _ _ | with_reducible exact c_en_ _ _) | quiet_step (first | with_reducible exact c_an _ _ | with_reducible exact c_en_ _ _)))
    refine wpQuiet_nil ?_
    intro _ hw'
    obtain ⟨⟨dq, osq⟩, hw''⟩ := hw'
    subst hw''
    have hBq := below_regrown W1 dq osq
    generalize grow (redrawn W1 dq) osq = wq at *
    go_wp2
    go_ret
    exact ⟨rfl, hB1.trans (hBq.mono hB1.size)⟩
  | true =>
  by_cases h_tx0 : text.data.toList = []
  rotate_left
  · have h_tx : decide (text.data.toList = []) = false := decide_eq_false h_tx0
    obtain rfl : ans = false := by rw [HV.out]; simp only [h_d, h_dl, h_an, h_en_, h_tx, Bool.and_false, Bool.false_and, Bool.and_true, Bool.true_and]
    obtain rfl : dir = false := by simpa using h_d
    have s_dl : decide (0 < dn) = false := decide_eq_false (by omega)
    have s_tx : text.toList.isEmpty = false := by rw [ByteArray.toList_eq]; cases e : text.data.toList with
      | nil => exact absurd e h_tx0
      | cons a l => rfl
    have hA_W : W.heap[w.heap.size]? = some (.cells #[.int .i64 k, .int .i64 nt, .int .i64 nr, .int .i64 ni, .int .i64 pt, .int .i64 pr, .int .i64 pi, .string name, .bool false, .slice dA dn dc, .int .i64 at_, .int .i64 ar, .int .i64 ai, .int .i64 et, .int .i64 er, .int .i64 ei, .string text, .slice eA en ec] 70 (0, 0)) := HA.out
    have x4 := cell_regrown (w := W) (a := ⟨w.heap.size, 4, none⟩) (v := .int .i64 pt) (by rw [cell_of_row _ _ _ _ _ _ hA_W]; rfl)
    have x5 := cell_regrown (w := W) (a := ⟨w.heap.size, 5, none⟩) (v := .int .i64 pr) (by rw [cell_of_row _ _ _ _ _ _ hA_W]; rfl)
    have x6 := cell_regrown (w := W) (a := ⟨w.heap.size, 6, none⟩) (v := .int .i64 pi) (by rw [cell_of_row _ _ _ _ _ _ hA_W]; rfl)
    have x7 := cell_regrown (w := W) (a := ⟨w.heap.size, 7, none⟩) (v := .string name) (by rw [cell_of_row _ _ _ _ _ _ hA_W]; rfl)
    have x8 := cell_regrown (w := W) (a := ⟨w.heap.size, 8, none⟩) (v := .bool false) (by rw [cell_of_row _ _ _ _ _ _ hA_W]; rfl)
    have x9 := cell_regrown (w := W) (a := ⟨w.heap.size, 9, none⟩) (v := .slice dA dn dc) (by rw [cell_of_row _ _ _ _ _ _ hA_W]; rfl)
    have x10 := cell_regrown (w := W) (a := ⟨w.heap.size, 10, none⟩) (v := .int .i64 at_) (by rw [cell_of_row _ _ _ _ _ _ hA_W]; rfl)
    have x11 := cell_regrown (w := W) (a := ⟨w.heap.size, 11, none⟩) (v := .int .i64 ar) (by rw [cell_of_row _ _ _ _ _ _ hA_W]; rfl)
    have x12 := cell_regrown (w := W) (a := ⟨w.heap.size, 12, none⟩) (v := .int .i64 ai) (by rw [cell_of_row _ _ _ _ _ _ hA_W]; rfl)
    have x13 := cell_regrown (w := W) (a := ⟨w.heap.size, 13, none⟩) (v := .int .i64 et) (by rw [cell_of_row _ _ _ _ _ _ hA_W]; rfl)
    have x14 := cell_regrown (w := W) (a := ⟨w.heap.size, 14, none⟩) (v := .int .i64 er) (by rw [cell_of_row _ _ _ _ _ _ hA_W]; rfl)
    have x15 := cell_regrown (w := W) (a := ⟨w.heap.size, 15, none⟩) (v := .int .i64 ei) (by rw [cell_of_row _ _ _ _ _ _ hA_W]; rfl)
    have x16 := cell_regrown (w := W) (a := ⟨w.heap.size, 16, none⟩) (v := .string text) (by rw [cell_of_row _ _ _ _ _ _ hA_W]; rfl)
    have x17 := cell_regrown (w := W) (a := ⟨w.heap.size, 17, none⟩) (v := .slice eA en ec) (by rw [cell_of_row _ _ _ _ _ _ hA_W]; rfl)
    clear hA_W
    have H_an := Lib.hid h_an
    have H_en_ := Lib.hid h_en_
    clear h_d h_an h_en_ h_tx h_tx0 h_dl0 h_dl
    go_enter Tryz.func119, Tryz.ntmps119
    go_upto_region 1 with (fail)
    rw [← HW.out]
    refine wp_plain_quiet_below ?_
    repeat (any_goals (first | go_big_quiet_step (fail) | quiet_step (fail)))
    refine wpQuiet_nil ?_
    intro _ hw'
    obtain ⟨⟨dq, osq⟩, hw''⟩ := hw'
    subst hw''
    have hBq := below_regrown W dq osq
    generalize grow (redrawn W dq) osq = wq at *
    have hB1 := hBW.trans (hBq.mono hBW.size)
    have hA1 := (hBq.block _ hlt).trans HA.out
    have HA1 := Lib.hid hA1
    clear hA1 hBq x4 x5 x6 x7 x8 x9 x10 x11 x12 x13 x14 x15 x16 x17
    obtain ⟨W1, hW1⟩ : ∃ W1, W1 = wq := ⟨_, rfl⟩
    rw [← hW1] at hB1 HA1 ⊢
    clear hW1
    go_upto_region 3 with (fail)
    have hA_W1 : W1.heap[w.heap.size]? = some (.cells #[.int .i64 k, .int .i64 nt, .int .i64 nr, .int .i64 ni, .int .i64 pt, .int .i64 pr, .int .i64 pi, .string name, .bool false, .slice dA dn dc, .int .i64 at_, .int .i64 ar, .int .i64 ai, .int .i64 et, .int .i64 er, .int .i64 ei, .string text, .slice eA en ec] 70 (0, 0)) := HA1.out
    have x4 := cell_regrown (w := W1) (a := ⟨w.heap.size, 4, none⟩) (v := .int .i64 pt) (by rw [cell_of_row _ _ _ _ _ _ hA_W1]; rfl)
    have x5 := cell_regrown (w := W1) (a := ⟨w.heap.size, 5, none⟩) (v := .int .i64 pr) (by rw [cell_of_row _ _ _ _ _ _ hA_W1]; rfl)
    have x6 := cell_regrown (w := W1) (a := ⟨w.heap.size, 6, none⟩) (v := .int .i64 pi) (by rw [cell_of_row _ _ _ _ _ _ hA_W1]; rfl)
    have x7 := cell_regrown (w := W1) (a := ⟨w.heap.size, 7, none⟩) (v := .string name) (by rw [cell_of_row _ _ _ _ _ _ hA_W1]; rfl)
    have x8 := cell_regrown (w := W1) (a := ⟨w.heap.size, 8, none⟩) (v := .bool false) (by rw [cell_of_row _ _ _ _ _ _ hA_W1]; rfl)
    have x9 := cell_regrown (w := W1) (a := ⟨w.heap.size, 9, none⟩) (v := .slice dA dn dc) (by rw [cell_of_row _ _ _ _ _ _ hA_W1]; rfl)
    have x10 := cell_regrown (w := W1) (a := ⟨w.heap.size, 10, none⟩) (v := .int .i64 at_) (by rw [cell_of_row _ _ _ _ _ _ hA_W1]; rfl)
    have x11 := cell_regrown (w := W1) (a := ⟨w.heap.size, 11, none⟩) (v := .int .i64 ar) (by rw [cell_of_row _ _ _ _ _ _ hA_W1]; rfl)
    have x12 := cell_regrown (w := W1) (a := ⟨w.heap.size, 12, none⟩) (v := .int .i64 ai) (by rw [cell_of_row _ _ _ _ _ _ hA_W1]; rfl)
    have x13 := cell_regrown (w := W1) (a := ⟨w.heap.size, 13, none⟩) (v := .int .i64 et) (by rw [cell_of_row _ _ _ _ _ _ hA_W1]; rfl)
    have x14 := cell_regrown (w := W1) (a := ⟨w.heap.size, 14, none⟩) (v := .int .i64 er) (by rw [cell_of_row _ _ _ _ _ _ hA_W1]; rfl)
    have x15 := cell_regrown (w := W1) (a := ⟨w.heap.size, 15, none⟩) (v := .int .i64 ei) (by rw [cell_of_row _ _ _ _ _ _ hA_W1]; rfl)
    have x16 := cell_regrown (w := W1) (a := ⟨w.heap.size, 16, none⟩) (v := .string text) (by rw [cell_of_row _ _ _ _ _ _ hA_W1]; rfl)
    have x17 := cell_regrown (w := W1) (a := ⟨w.heap.size, 17, none⟩) (v := .slice eA en ec) (by rw [cell_of_row _ _ _ _ _ _ hA_W1]; rfl)
    clear hA_W1
    have h_an := H_an.out
    have h_en_ := H_en_.out
    have c_an := fun d os => Calls.regrown_of (refnone_any at_ ar ai (grow (redrawn W1 d) os))
    rw [h_an] at c_an
    have c_en_ := fun d os => Calls.regrown_of (refnone_any et er ei (grow (redrawn W1 d) os))
    rw [h_en_] at c_en_
    clear h_an h_en_
    refine wp_plain_quiet_below ?_
    repeat (any_goals (first | go_big_quiet_step (first | with_reducible exact c_an _ _ | with_reducible exact c_en_ _ _) | quiet_step (first | with_reducible exact c_an _ _ | with_reducible exact c_en_ _ _)))
    refine wpQuiet_nil ?_
    intro _ hw'
    obtain ⟨⟨dq, osq⟩, hw''⟩ := hw'
    subst hw''
    have hBq := below_regrown W1 dq osq
    generalize grow (redrawn W1 dq) osq = wq at *
    go_wp2
    go_ret
    exact ⟨rfl, hB1.trans (hBq.mono hB1.size)⟩
  have h_tx : decide (text.data.toList = []) = true := decide_eq_true h_tx0
  by_cases h_el0 : en = 0
  rotate_left
  · have h_el : decide (en = 0) = false := decide_eq_false h_el0
    obtain rfl : ans = false := by rw [HV.out]; simp only [h_d, h_dl, h_an, h_en_, h_tx, h_el, Bool.and_false, Bool.false_and, Bool.and_true, Bool.true_and]
    obtain rfl : dir = false := by simpa using h_d
    have s_dl : decide (0 < dn) = false := decide_eq_false (by omega)
    obtain rfl := bs_nil.1 h_tx0
    have s_el : ((en : Int) == 0) = false := by rw [beq_eq_false_iff_ne]; omega
    have s_el2 : decide (en = 0) = false := decide_eq_false h_el0
    have hA_W : W.heap[w.heap.size]? = some (.cells #[.int .i64 k, .int .i64 nt, .int .i64 nr, .int .i64 ni, .int .i64 pt, .int .i64 pr, .int .i64 pi, .string name, .bool false, .slice dA dn dc, .int .i64 at_, .int .i64 ar, .int .i64 ai, .int .i64 et, .int .i64 er, .int .i64 ei, .string ⟨#[]⟩, .slice eA en ec] 70 (0, 0)) := HA.out
    have x4 := cell_regrown (w := W) (a := ⟨w.heap.size, 4, none⟩) (v := .int .i64 pt) (by rw [cell_of_row _ _ _ _ _ _ hA_W]; rfl)
    have x5 := cell_regrown (w := W) (a := ⟨w.heap.size, 5, none⟩) (v := .int .i64 pr) (by rw [cell_of_row _ _ _ _ _ _ hA_W]; rfl)
    have x6 := cell_regrown (w := W) (a := ⟨w.heap.size, 6, none⟩) (v := .int .i64 pi) (by rw [cell_of_row _ _ _ _ _ _ hA_W]; rfl)
    have x7 := cell_regrown (w := W) (a := ⟨w.heap.size, 7, none⟩) (v := .string name) (by rw [cell_of_row _ _ _ _ _ _ hA_W]; rfl)
    have x8 := cell_regrown (w := W) (a := ⟨w.heap.size, 8, none⟩) (v := .bool false) (by rw [cell_of_row _ _ _ _ _ _ hA_W]; rfl)
    have x9 := cell_regrown (w := W) (a := ⟨w.heap.size, 9, none⟩) (v := .slice dA dn dc) (by rw [cell_of_row _ _ _ _ _ _ hA_W]; rfl)
    have x10 := cell_regrown (w := W) (a := ⟨w.heap.size, 10, none⟩) (v := .int .i64 at_) (by rw [cell_of_row _ _ _ _ _ _ hA_W]; rfl)
    have x11 := cell_regrown (w := W) (a := ⟨w.heap.size, 11, none⟩) (v := .int .i64 ar) (by rw [cell_of_row _ _ _ _ _ _ hA_W]; rfl)
    have x12 := cell_regrown (w := W) (a := ⟨w.heap.size, 12, none⟩) (v := .int .i64 ai) (by rw [cell_of_row _ _ _ _ _ _ hA_W]; rfl)
    have x13 := cell_regrown (w := W) (a := ⟨w.heap.size, 13, none⟩) (v := .int .i64 et) (by rw [cell_of_row _ _ _ _ _ _ hA_W]; rfl)
    have x14 := cell_regrown (w := W) (a := ⟨w.heap.size, 14, none⟩) (v := .int .i64 er) (by rw [cell_of_row _ _ _ _ _ _ hA_W]; rfl)
    have x15 := cell_regrown (w := W) (a := ⟨w.heap.size, 15, none⟩) (v := .int .i64 ei) (by rw [cell_of_row _ _ _ _ _ _ hA_W]; rfl)
    have x16 := cell_regrown (w := W) (a := ⟨w.heap.size, 16, none⟩) (v := .string ⟨#[]⟩) (by rw [cell_of_row _ _ _ _ _ _ hA_W]; rfl)
    have x17 := cell_regrown (w := W) (a := ⟨w.heap.size, 17, none⟩) (v := .slice eA en ec) (by rw [cell_of_row _ _ _ _ _ _ hA_W]; rfl)
    clear hA_W
    have H_an := Lib.hid h_an
    have H_en_ := Lib.hid h_en_
    clear h_d h_an h_en_ h_tx h_tx0 h_dl0 h_el0 h_dl h_el
    go_enter Tryz.func119, Tryz.ntmps119
    go_upto_region 1 with (fail)
    rw [← HW.out]
    refine wp_plain_quiet_below ?_
    repeat (any_goals (first | go_big_quiet_step (fail) | quiet_step (fail)))
    refine wpQuiet_nil ?_
    intro _ hw'
    obtain ⟨⟨dq, osq⟩, hw''⟩ := hw'
    subst hw''
    have hBq := below_regrown W dq osq
    generalize grow (redrawn W dq) osq = wq at *
    have hB1 := hBW.trans (hBq.mono hBW.size)
    have hA1 := (hBq.block _ hlt).trans HA.out
    have HA1 := Lib.hid hA1
    clear hA1 hBq x4 x5 x6 x7 x8 x9 x10 x11 x12 x13 x14 x15 x16 x17
    obtain ⟨W1, hW1⟩ : ∃ W1, W1 = wq := ⟨_, rfl⟩
    rw [← hW1] at hB1 HA1 ⊢
    clear hW1
    go_upto_region 3 with (fail)
    have hA_W1 : W1.heap[w.heap.size]? = some (.cells #[.int .i64 k, .int .i64 nt, .int .i64 nr, .int .i64 ni, .int .i64 pt, .int .i64 pr, .int .i64 pi, .string name, .bool false, .slice dA dn dc, .int .i64 at_, .int .i64 ar, .int .i64 ai, .int .i64 et, .int .i64 er, .int .i64 ei, .string ⟨#[]⟩, .slice eA en ec] 70 (0, 0)) := HA1.out
    have x4 := cell_regrown (w := W1) (a := ⟨w.heap.size, 4, none⟩) (v := .int .i64 pt) (by rw [cell_of_row _ _ _ _ _ _ hA_W1]; rfl)
    have x5 := cell_regrown (w := W1) (a := ⟨w.heap.size, 5, none⟩) (v := .int .i64 pr) (by rw [cell_of_row _ _ _ _ _ _ hA_W1]; rfl)
    have x6 := cell_regrown (w := W1) (a := ⟨w.heap.size, 6, none⟩) (v := .int .i64 pi) (by rw [cell_of_row _ _ _ _ _ _ hA_W1]; rfl)
    have x7 := cell_regrown (w := W1) (a := ⟨w.heap.size, 7, none⟩) (v := .string name) (by rw [cell_of_row _ _ _ _ _ _ hA_W1]; rfl)
    have x8 := cell_regrown (w := W1) (a := ⟨w.heap.size, 8, none⟩) (v := .bool false) (by rw [cell_of_row _ _ _ _ _ _ hA_W1]; rfl)
    have x9 := cell_regrown (w := W1) (a := ⟨w.heap.size, 9, none⟩) (v := .slice dA dn dc) (by rw [cell_of_row _ _ _ _ _ _ hA_W1]; rfl)
    have x10 := cell_regrown (w := W1) (a := ⟨w.heap.size, 10, none⟩) (v := .int .i64 at_) (by rw [cell_of_row _ _ _ _ _ _ hA_W1]; rfl)
    have x11 := cell_regrown (w := W1) (a := ⟨w.heap.size, 11, none⟩) (v := .int .i64 ar) (by rw [cell_of_row _ _ _ _ _ _ hA_W1]; rfl)
    have x12 := cell_regrown (w := W1) (a := ⟨w.heap.size, 12, none⟩) (v := .int .i64 ai) (by rw [cell_of_row _ _ _ _ _ _ hA_W1]; rfl)
    have x13 := cell_regrown (w := W1) (a := ⟨w.heap.size, 13, none⟩) (v := .int .i64 et) (by rw [cell_of_row _ _ _ _ _ _ hA_W1]; rfl)
    have x14 := cell_regrown (w := W1) (a := ⟨w.heap.size, 14, none⟩) (v := .int .i64 er) (by rw [cell_of_row _ _ _ _ _ _ hA_W1]; rfl)
    have x15 := cell_regrown (w := W1) (a := ⟨w.heap.size, 15, none⟩) (v := .int .i64 ei) (by rw [cell_of_row _ _ _ _ _ _ hA_W1]; rfl)
    have x16 := cell_regrown (w := W1) (a := ⟨w.heap.size, 16, none⟩) (v := .string ⟨#[]⟩) (by rw [cell_of_row _ _ _ _ _ _ hA_W1]; rfl)
    have x17 := cell_regrown (w := W1) (a := ⟨w.heap.size, 17, none⟩) (v := .slice eA en ec) (by rw [cell_of_row _ _ _ _ _ _ hA_W1]; rfl)
    clear hA_W1
    have h_an := H_an.out
    have h_en_ := H_en_.out
    have c_an := fun d os => Calls.regrown_of (refnone_any at_ ar ai (grow (redrawn W1 d) os))
    rw [h_an] at c_an
    have c_en_ := fun d os => Calls.regrown_of (refnone_any et er ei (grow (redrawn W1 d) os))
    rw [h_en_] at c_en_
    clear h_an h_en_
    refine wp_plain_quiet_below ?_
    repeat (any_goals (first | go_big_quiet_step (first | with_reducible exact c_an _ _ | with_reducible exact c_en_ _ _) | quiet_step (first | with_reducible exact c_an _ _ | with_reducible exact c_en_ _ _)))
    refine wpQuiet_nil ?_
    intro _ hw'
    obtain ⟨⟨dq, osq⟩, hw''⟩ := hw'
    subst hw''
    have hBq := below_regrown W1 dq osq
    generalize grow (redrawn W1 dq) osq = wq at *
    go_wp2
    go_ret
    exact ⟨rfl, hB1.trans (hBq.mono hB1.size)⟩
  have h_el : decide (en = 0) = true := decide_eq_true h_el0
  obtain rfl : ans = true := by rw [HV.out]; simp only [h_d, h_dl, h_an, h_en_, h_tx, h_el, Bool.and_false, Bool.false_and, Bool.and_true, Bool.true_and]
  obtain rfl : dir = false := by simpa using h_d
  have s_dl : decide (0 < dn) = false := decide_eq_false (by omega)
  obtain rfl := bs_nil.1 h_tx0
  have s_el : ((en : Int) == 0) = true := by rw [beq_iff_eq]; omega
  have s_el2 : decide (en = 0) = true := decide_eq_true h_el0
  have hA_W : W.heap[w.heap.size]? = some (.cells #[.int .i64 k, .int .i64 nt, .int .i64 nr, .int .i64 ni, .int .i64 pt, .int .i64 pr, .int .i64 pi, .string name, .bool false, .slice dA dn dc, .int .i64 at_, .int .i64 ar, .int .i64 ai, .int .i64 et, .int .i64 er, .int .i64 ei, .string ⟨#[]⟩, .slice eA en ec] 70 (0, 0)) := HA.out
  have x4 := cell_regrown (w := W) (a := ⟨w.heap.size, 4, none⟩) (v := .int .i64 pt) (by rw [cell_of_row _ _ _ _ _ _ hA_W]; rfl)
  have x5 := cell_regrown (w := W) (a := ⟨w.heap.size, 5, none⟩) (v := .int .i64 pr) (by rw [cell_of_row _ _ _ _ _ _ hA_W]; rfl)
  have x6 := cell_regrown (w := W) (a := ⟨w.heap.size, 6, none⟩) (v := .int .i64 pi) (by rw [cell_of_row _ _ _ _ _ _ hA_W]; rfl)
  have x7 := cell_regrown (w := W) (a := ⟨w.heap.size, 7, none⟩) (v := .string name) (by rw [cell_of_row _ _ _ _ _ _ hA_W]; rfl)
  have x8 := cell_regrown (w := W) (a := ⟨w.heap.size, 8, none⟩) (v := .bool false) (by rw [cell_of_row _ _ _ _ _ _ hA_W]; rfl)
  have x9 := cell_regrown (w := W) (a := ⟨w.heap.size, 9, none⟩) (v := .slice dA dn dc) (by rw [cell_of_row _ _ _ _ _ _ hA_W]; rfl)
  have x10 := cell_regrown (w := W) (a := ⟨w.heap.size, 10, none⟩) (v := .int .i64 at_) (by rw [cell_of_row _ _ _ _ _ _ hA_W]; rfl)
  have x11 := cell_regrown (w := W) (a := ⟨w.heap.size, 11, none⟩) (v := .int .i64 ar) (by rw [cell_of_row _ _ _ _ _ _ hA_W]; rfl)
  have x12 := cell_regrown (w := W) (a := ⟨w.heap.size, 12, none⟩) (v := .int .i64 ai) (by rw [cell_of_row _ _ _ _ _ _ hA_W]; rfl)
  have x13 := cell_regrown (w := W) (a := ⟨w.heap.size, 13, none⟩) (v := .int .i64 et) (by rw [cell_of_row _ _ _ _ _ _ hA_W]; rfl)
  have x14 := cell_regrown (w := W) (a := ⟨w.heap.size, 14, none⟩) (v := .int .i64 er) (by rw [cell_of_row _ _ _ _ _ _ hA_W]; rfl)
  have x15 := cell_regrown (w := W) (a := ⟨w.heap.size, 15, none⟩) (v := .int .i64 ei) (by rw [cell_of_row _ _ _ _ _ _ hA_W]; rfl)
  have x16 := cell_regrown (w := W) (a := ⟨w.heap.size, 16, none⟩) (v := .string ⟨#[]⟩) (by rw [cell_of_row _ _ _ _ _ _ hA_W]; rfl)
  have x17 := cell_regrown (w := W) (a := ⟨w.heap.size, 17, none⟩) (v := .slice eA en ec) (by rw [cell_of_row _ _ _ _ _ _ hA_W]; rfl)
  clear hA_W
  have H_an := Lib.hid h_an
  have H_en_ := Lib.hid h_en_
  clear h_d h_an h_en_ h_tx h_tx0 h_dl0 h_el0 h_dl h_el
  go_enter Tryz.func119, Tryz.ntmps119
  go_upto_region 1 with (fail)
  rw [← HW.out]
  refine wp_plain_quiet_below ?_
  repeat (any_goals (first | go_big_quiet_step (fail) | quiet_step (fail)))
  refine wpQuiet_nil ?_
  intro _ hw'
  obtain ⟨⟨dq, osq⟩, hw''⟩ := hw'
  subst hw''
  have hBq := below_regrown W dq osq
  generalize grow (redrawn W dq) osq = wq at *
  have hB1 := hBW.trans (hBq.mono hBW.size)
  have hA1 := (hBq.block _ hlt).trans HA.out
  have HA1 := Lib.hid hA1
  clear hA1 hBq x4 x5 x6 x7 x8 x9 x10 x11 x12 x13 x14 x15 x16 x17
  obtain ⟨W1, hW1⟩ : ∃ W1, W1 = wq := ⟨_, rfl⟩
  rw [← hW1] at hB1 HA1 ⊢
  clear hW1
  go_upto_region 3 with (fail)
  have hA_W1 : W1.heap[w.heap.size]? = some (.cells #[.int .i64 k, .int .i64 nt, .int .i64 nr, .int .i64 ni, .int .i64 pt, .int .i64 pr, .int .i64 pi, .string name, .bool false, .slice dA dn dc, .int .i64 at_, .int .i64 ar, .int .i64 ai, .int .i64 et, .int .i64 er, .int .i64 ei, .string ⟨#[]⟩, .slice eA en ec] 70 (0, 0)) := HA1.out
  have x4 := cell_regrown (w := W1) (a := ⟨w.heap.size, 4, none⟩) (v := .int .i64 pt) (by rw [cell_of_row _ _ _ _ _ _ hA_W1]; rfl)
  have x5 := cell_regrown (w := W1) (a := ⟨w.heap.size, 5, none⟩) (v := .int .i64 pr) (by rw [cell_of_row _ _ _ _ _ _ hA_W1]; rfl)
  have x6 := cell_regrown (w := W1) (a := ⟨w.heap.size, 6, none⟩) (v := .int .i64 pi) (by rw [cell_of_row _ _ _ _ _ _ hA_W1]; rfl)
  have x7 := cell_regrown (w := W1) (a := ⟨w.heap.size, 7, none⟩) (v := .string name) (by rw [cell_of_row _ _ _ _ _ _ hA_W1]; rfl)
  have x8 := cell_regrown (w := W1) (a := ⟨w.heap.size, 8, none⟩) (v := .bool false) (by rw [cell_of_row _ _ _ _ _ _ hA_W1]; rfl)
  have x9 := cell_regrown (w := W1) (a := ⟨w.heap.size, 9, none⟩) (v := .slice dA dn dc) (by rw [cell_of_row _ _ _ _ _ _ hA_W1]; rfl)
  have x10 := cell_regrown (w := W1) (a := ⟨w.heap.size, 10, none⟩) (v := .int .i64 at_) (by rw [cell_of_row _ _ _ _ _ _ hA_W1]; rfl)
  have x11 := cell_regrown (w := W1) (a := ⟨w.heap.size, 11, none⟩) (v := .int .i64 ar) (by rw [cell_of_row _ _ _ _ _ _ hA_W1]; rfl)
  have x12 := cell_regrown (w := W1) (a := ⟨w.heap.size, 12, none⟩) (v := .int .i64 ai) (by rw [cell_of_row _ _ _ _ _ _ hA_W1]; rfl)
  have x13 := cell_regrown (w := W1) (a := ⟨w.heap.size, 13, none⟩) (v := .int .i64 et) (by rw [cell_of_row _ _ _ _ _ _ hA_W1]; rfl)
  have x14 := cell_regrown (w := W1) (a := ⟨w.heap.size, 14, none⟩) (v := .int .i64 er) (by rw [cell_of_row _ _ _ _ _ _ hA_W1]; rfl)
  have x15 := cell_regrown (w := W1) (a := ⟨w.heap.size, 15, none⟩) (v := .int .i64 ei) (by rw [cell_of_row _ _ _ _ _ _ hA_W1]; rfl)
  have x16 := cell_regrown (w := W1) (a := ⟨w.heap.size, 16, none⟩) (v := .string ⟨#[]⟩) (by rw [cell_of_row _ _ _ _ _ _ hA_W1]; rfl)
  have x17 := cell_regrown (w := W1) (a := ⟨w.heap.size, 17, none⟩) (v := .slice eA en ec) (by rw [cell_of_row _ _ _ _ _ _ hA_W1]; rfl)
  clear hA_W1
  have h_an := H_an.out
  have h_en_ := H_en_.out
  have c_an := fun d os => Calls.regrown_of (refnone_any at_ ar ai (grow (redrawn W1 d) os))
  rw [h_an] at c_an
  have c_en_ := fun d os => Calls.regrown_of (refnone_any et er ei (grow (redrawn W1 d) os))
  rw [h_en_] at c_en_
  clear h_an h_en_
  refine wp_plain_quiet_below ?_
  repeat (any_goals (first | go_big_quiet_step (first | with_reducible exact c_an _ _ | with_reducible exact c_en_ _ _) | quiet_step (first | with_reducible exact c_an _ _ | with_reducible exact c_en_ _ _)))
  refine wpQuiet_nil ?_
  intro _ hw'
  obtain ⟨⟨dq, osq⟩, hw''⟩ := hw'
  subst hw''
  have hBq := below_regrown W1 dq osq
  generalize grow (redrawn W1 dq) osq = wq at *
  go_wp2
  go_ret
  exact ⟨rfl, hB1.trans (hBq.mono hB1.size)⟩
set_option maxRecDepth 100000 in
set_option maxHeartbeats 8000000 in
theorem refbare_2 (k nt nr ni pt pr pi : Int) (name : ByteArray) (dir : Bool) (dA : Option Addr) (dn dc : Nat) (at_ ar ai et er ei : Int) (text : ByteArray) (eA : Option Addr) (en ec : Nat) (w : World) :
    Calls Tryz.prog 119 #[.agg #[.int .i64 k, .int .i64 nt, .int .i64 nr, .int .i64 ni, .int .i64 pt, .int .i64 pr, .int .i64 pi, .string name, .bool dir, .slice dA dn dc, .int .i64 at_, .int .i64 ar, .int .i64 ai, .int .i64 et, .int .i64 er, .int .i64 ei, .string text, .slice eA en ec], .bool false, .bool false, .bool true, .bool false, .bool false] w fun e w' => e = .returned (.bool ((Gid.none ⟨⟨pt, pr⟩, pi⟩) && (decide (name.data.toList = [])) && (!dir) && (Gid.none ⟨⟨at_, ar⟩, ai⟩) && (Gid.none ⟨⟨et, er⟩, ei⟩) && (decide (text.data.toList = [])) && (decide (en = 0)))) ∧ Below w.heap.size w w' := by
  obtain ⟨ans, ha⟩ : ∃ a, a = ((Gid.none ⟨⟨pt, pr⟩, pi⟩) && (decide (name.data.toList = [])) && (!dir) && (Gid.none ⟨⟨at_, ar⟩, ai⟩) && (Gid.none ⟨⟨et, er⟩, ei⟩) && (decide (text.data.toList = [])) && (decide (en = 0))) := ⟨_, rfl⟩
  rw [← ha]
  have HV := Lib.hid ha
  clear ha
  obtain ⟨W, hW⟩ : ∃ W, W = w.alloc (.cells #[.int .i64 k, .int .i64 nt, .int .i64 nr, .int .i64 ni, .int .i64 pt, .int .i64 pr, .int .i64 pi, .string name, .bool dir, .slice dA dn dc, .int .i64 at_, .int .i64 ar, .int .i64 ai, .int .i64 et, .int .i64 er, .int .i64 ei, .string text, .slice eA en ec] 70) := ⟨_, rfl⟩
  have hBW : Below w.heap.size w W := by subst hW; exact (Below.refl _ _).alloc (Nat.le_refl _) _
  have hA : W.heap[w.heap.size]? = some (.cells #[.int .i64 k, .int .i64 nt, .int .i64 nr, .int .i64 ni, .int .i64 pt, .int .i64 pr, .int .i64 pi, .string name, .bool dir, .slice dA dn dc, .int .i64 at_, .int .i64 ar, .int .i64 ai, .int .i64 et, .int .i64 er, .int .i64 ei, .string text, .slice eA en ec] 70 (0, 0)) := by subst hW; exact heap_alloc_new _ _
  have HW := Lib.hid hW
  have HA := Lib.hid hA
  have hlt : w.heap.size < W.heap.size := by subst hW; simp
  clear hW hA
  cases h_pn : Gid.none ⟨⟨pt, pr⟩, pi⟩ with
  | false =>
    obtain rfl : ans = false := by rw [HV.out]; simp only [h_pn, Bool.and_false, Bool.false_and, Bool.and_true, Bool.true_and]
    have hA_W : W.heap[w.heap.size]? = some (.cells #[.int .i64 k, .int .i64 nt, .int .i64 nr, .int .i64 ni, .int .i64 pt, .int .i64 pr, .int .i64 pi, .string name, .bool dir, .slice dA dn dc, .int .i64 at_, .int .i64 ar, .int .i64 ai, .int .i64 et, .int .i64 er, .int .i64 ei, .string text, .slice eA en ec] 70 (0, 0)) := HA.out
    have x4 := cell_regrown (w := W) (a := ⟨w.heap.size, 4, none⟩) (v := .int .i64 pt) (by rw [cell_of_row _ _ _ _ _ _ hA_W]; rfl)
    have x5 := cell_regrown (w := W) (a := ⟨w.heap.size, 5, none⟩) (v := .int .i64 pr) (by rw [cell_of_row _ _ _ _ _ _ hA_W]; rfl)
    have x6 := cell_regrown (w := W) (a := ⟨w.heap.size, 6, none⟩) (v := .int .i64 pi) (by rw [cell_of_row _ _ _ _ _ _ hA_W]; rfl)
    have x7 := cell_regrown (w := W) (a := ⟨w.heap.size, 7, none⟩) (v := .string name) (by rw [cell_of_row _ _ _ _ _ _ hA_W]; rfl)
    have x8 := cell_regrown (w := W) (a := ⟨w.heap.size, 8, none⟩) (v := .bool dir) (by rw [cell_of_row _ _ _ _ _ _ hA_W]; rfl)
    have x9 := cell_regrown (w := W) (a := ⟨w.heap.size, 9, none⟩) (v := .slice dA dn dc) (by rw [cell_of_row _ _ _ _ _ _ hA_W]; rfl)
    have x10 := cell_regrown (w := W) (a := ⟨w.heap.size, 10, none⟩) (v := .int .i64 at_) (by rw [cell_of_row _ _ _ _ _ _ hA_W]; rfl)
    have x11 := cell_regrown (w := W) (a := ⟨w.heap.size, 11, none⟩) (v := .int .i64 ar) (by rw [cell_of_row _ _ _ _ _ _ hA_W]; rfl)
    have x12 := cell_regrown (w := W) (a := ⟨w.heap.size, 12, none⟩) (v := .int .i64 ai) (by rw [cell_of_row _ _ _ _ _ _ hA_W]; rfl)
    have x13 := cell_regrown (w := W) (a := ⟨w.heap.size, 13, none⟩) (v := .int .i64 et) (by rw [cell_of_row _ _ _ _ _ _ hA_W]; rfl)
    have x14 := cell_regrown (w := W) (a := ⟨w.heap.size, 14, none⟩) (v := .int .i64 er) (by rw [cell_of_row _ _ _ _ _ _ hA_W]; rfl)
    have x15 := cell_regrown (w := W) (a := ⟨w.heap.size, 15, none⟩) (v := .int .i64 ei) (by rw [cell_of_row _ _ _ _ _ _ hA_W]; rfl)
    have x16 := cell_regrown (w := W) (a := ⟨w.heap.size, 16, none⟩) (v := .string text) (by rw [cell_of_row _ _ _ _ _ _ hA_W]; rfl)
    have x17 := cell_regrown (w := W) (a := ⟨w.heap.size, 17, none⟩) (v := .slice eA en ec) (by rw [cell_of_row _ _ _ _ _ _ hA_W]; rfl)
    clear hA_W
    have c_pn := fun d os => Calls.regrown_of (refnone_any pt pr pi (grow (redrawn W d) os))
    rw [h_pn] at c_pn
    clear h_pn
    go_enter Tryz.func119, Tryz.ntmps119
    go_upto_region 1 with (fail)
    rw [← HW.out]
    refine wp_plain_quiet_below ?_
    repeat (any_goals (first | go_big_quiet_step (first | with_reducible exact c_pn _ _) | quiet_step (first | with_reducible exact c_pn _ _)))
    refine wpQuiet_nil ?_
    intro _ hw'
    obtain ⟨⟨dq, osq⟩, hw''⟩ := hw'
    subst hw''
    have hBq := below_regrown W dq osq
    generalize grow (redrawn W dq) osq = wq at *
    go_wp2
    go_ret
    exact ⟨rfl, hBW.trans (hBq.mono hBW.size)⟩
  | true =>
  by_cases h_nm0 : name.data.toList = []
  rotate_left
  · have h_nm : decide (name.data.toList = []) = false := decide_eq_false h_nm0
    obtain rfl : ans = false := by rw [HV.out]; simp only [h_pn, h_nm, Bool.and_false, Bool.false_and, Bool.and_true, Bool.true_and]
    have s_nm : name.toList.isEmpty = false := by rw [ByteArray.toList_eq]; cases e : name.data.toList with
      | nil => exact absurd e h_nm0
      | cons a l => rfl
    have hA_W : W.heap[w.heap.size]? = some (.cells #[.int .i64 k, .int .i64 nt, .int .i64 nr, .int .i64 ni, .int .i64 pt, .int .i64 pr, .int .i64 pi, .string name, .bool dir, .slice dA dn dc, .int .i64 at_, .int .i64 ar, .int .i64 ai, .int .i64 et, .int .i64 er, .int .i64 ei, .string text, .slice eA en ec] 70 (0, 0)) := HA.out
    have x4 := cell_regrown (w := W) (a := ⟨w.heap.size, 4, none⟩) (v := .int .i64 pt) (by rw [cell_of_row _ _ _ _ _ _ hA_W]; rfl)
    have x5 := cell_regrown (w := W) (a := ⟨w.heap.size, 5, none⟩) (v := .int .i64 pr) (by rw [cell_of_row _ _ _ _ _ _ hA_W]; rfl)
    have x6 := cell_regrown (w := W) (a := ⟨w.heap.size, 6, none⟩) (v := .int .i64 pi) (by rw [cell_of_row _ _ _ _ _ _ hA_W]; rfl)
    have x7 := cell_regrown (w := W) (a := ⟨w.heap.size, 7, none⟩) (v := .string name) (by rw [cell_of_row _ _ _ _ _ _ hA_W]; rfl)
    have x8 := cell_regrown (w := W) (a := ⟨w.heap.size, 8, none⟩) (v := .bool dir) (by rw [cell_of_row _ _ _ _ _ _ hA_W]; rfl)
    have x9 := cell_regrown (w := W) (a := ⟨w.heap.size, 9, none⟩) (v := .slice dA dn dc) (by rw [cell_of_row _ _ _ _ _ _ hA_W]; rfl)
    have x10 := cell_regrown (w := W) (a := ⟨w.heap.size, 10, none⟩) (v := .int .i64 at_) (by rw [cell_of_row _ _ _ _ _ _ hA_W]; rfl)
    have x11 := cell_regrown (w := W) (a := ⟨w.heap.size, 11, none⟩) (v := .int .i64 ar) (by rw [cell_of_row _ _ _ _ _ _ hA_W]; rfl)
    have x12 := cell_regrown (w := W) (a := ⟨w.heap.size, 12, none⟩) (v := .int .i64 ai) (by rw [cell_of_row _ _ _ _ _ _ hA_W]; rfl)
    have x13 := cell_regrown (w := W) (a := ⟨w.heap.size, 13, none⟩) (v := .int .i64 et) (by rw [cell_of_row _ _ _ _ _ _ hA_W]; rfl)
    have x14 := cell_regrown (w := W) (a := ⟨w.heap.size, 14, none⟩) (v := .int .i64 er) (by rw [cell_of_row _ _ _ _ _ _ hA_W]; rfl)
    have x15 := cell_regrown (w := W) (a := ⟨w.heap.size, 15, none⟩) (v := .int .i64 ei) (by rw [cell_of_row _ _ _ _ _ _ hA_W]; rfl)
    have x16 := cell_regrown (w := W) (a := ⟨w.heap.size, 16, none⟩) (v := .string text) (by rw [cell_of_row _ _ _ _ _ _ hA_W]; rfl)
    have x17 := cell_regrown (w := W) (a := ⟨w.heap.size, 17, none⟩) (v := .slice eA en ec) (by rw [cell_of_row _ _ _ _ _ _ hA_W]; rfl)
    clear hA_W
    have c_pn := fun d os => Calls.regrown_of (refnone_any pt pr pi (grow (redrawn W d) os))
    rw [h_pn] at c_pn
    clear h_pn h_nm h_nm0
    go_enter Tryz.func119, Tryz.ntmps119
    go_upto_region 1 with (fail)
    rw [← HW.out]
    refine wp_plain_quiet_below ?_
    repeat (any_goals (first | go_big_quiet_step (first | with_reducible exact c_pn _ _) | quiet_step (first | with_reducible exact c_pn _ _)))
    refine wpQuiet_nil ?_
    intro _ hw'
    obtain ⟨⟨dq, osq⟩, hw''⟩ := hw'
    subst hw''
    have hBq := below_regrown W dq osq
    generalize grow (redrawn W dq) osq = wq at *
    go_wp2
    go_ret
    exact ⟨rfl, hBW.trans (hBq.mono hBW.size)⟩
  have h_nm : decide (name.data.toList = []) = true := decide_eq_true h_nm0
  cases h_d : (!dir) with
  | false =>
    obtain rfl : ans = false := by rw [HV.out]; simp only [h_pn, h_nm, h_d, Bool.and_false, Bool.false_and, Bool.and_true, Bool.true_and]
    obtain rfl := bs_nil.1 h_nm0
    obtain rfl : dir = true := by simpa using h_d
    have hA_W : W.heap[w.heap.size]? = some (.cells #[.int .i64 k, .int .i64 nt, .int .i64 nr, .int .i64 ni, .int .i64 pt, .int .i64 pr, .int .i64 pi, .string ⟨#[]⟩, .bool true, .slice dA dn dc, .int .i64 at_, .int .i64 ar, .int .i64 ai, .int .i64 et, .int .i64 er, .int .i64 ei, .string text, .slice eA en ec] 70 (0, 0)) := HA.out
    have x4 := cell_regrown (w := W) (a := ⟨w.heap.size, 4, none⟩) (v := .int .i64 pt) (by rw [cell_of_row _ _ _ _ _ _ hA_W]; rfl)
    have x5 := cell_regrown (w := W) (a := ⟨w.heap.size, 5, none⟩) (v := .int .i64 pr) (by rw [cell_of_row _ _ _ _ _ _ hA_W]; rfl)
    have x6 := cell_regrown (w := W) (a := ⟨w.heap.size, 6, none⟩) (v := .int .i64 pi) (by rw [cell_of_row _ _ _ _ _ _ hA_W]; rfl)
    have x7 := cell_regrown (w := W) (a := ⟨w.heap.size, 7, none⟩) (v := .string ⟨#[]⟩) (by rw [cell_of_row _ _ _ _ _ _ hA_W]; rfl)
    have x8 := cell_regrown (w := W) (a := ⟨w.heap.size, 8, none⟩) (v := .bool true) (by rw [cell_of_row _ _ _ _ _ _ hA_W]; rfl)
    have x9 := cell_regrown (w := W) (a := ⟨w.heap.size, 9, none⟩) (v := .slice dA dn dc) (by rw [cell_of_row _ _ _ _ _ _ hA_W]; rfl)
    have x10 := cell_regrown (w := W) (a := ⟨w.heap.size, 10, none⟩) (v := .int .i64 at_) (by rw [cell_of_row _ _ _ _ _ _ hA_W]; rfl)
    have x11 := cell_regrown (w := W) (a := ⟨w.heap.size, 11, none⟩) (v := .int .i64 ar) (by rw [cell_of_row _ _ _ _ _ _ hA_W]; rfl)
    have x12 := cell_regrown (w := W) (a := ⟨w.heap.size, 12, none⟩) (v := .int .i64 ai) (by rw [cell_of_row _ _ _ _ _ _ hA_W]; rfl)
    have x13 := cell_regrown (w := W) (a := ⟨w.heap.size, 13, none⟩) (v := .int .i64 et) (by rw [cell_of_row _ _ _ _ _ _ hA_W]; rfl)
    have x14 := cell_regrown (w := W) (a := ⟨w.heap.size, 14, none⟩) (v := .int .i64 er) (by rw [cell_of_row _ _ _ _ _ _ hA_W]; rfl)
    have x15 := cell_regrown (w := W) (a := ⟨w.heap.size, 15, none⟩) (v := .int .i64 ei) (by rw [cell_of_row _ _ _ _ _ _ hA_W]; rfl)
    have x16 := cell_regrown (w := W) (a := ⟨w.heap.size, 16, none⟩) (v := .string text) (by rw [cell_of_row _ _ _ _ _ _ hA_W]; rfl)
    have x17 := cell_regrown (w := W) (a := ⟨w.heap.size, 17, none⟩) (v := .slice eA en ec) (by rw [cell_of_row _ _ _ _ _ _ hA_W]; rfl)
    clear hA_W
    have c_pn := fun d os => Calls.regrown_of (refnone_any pt pr pi (grow (redrawn W d) os))
    rw [h_pn] at c_pn
    clear h_pn h_nm h_d h_nm0
    go_enter Tryz.func119, Tryz.ntmps119
    go_upto_region 1 with (fail)
    rw [← HW.out]
    refine wp_plain_quiet_below ?_
    repeat (any_goals (first | go_big_quiet_step (first | with_reducible exact c_pn _ _) | quiet_step (first | with_reducible exact c_pn _ _)))
    refine wpQuiet_nil ?_
    intro _ hw'
    obtain ⟨⟨dq, osq⟩, hw''⟩ := hw'
    subst hw''
    have hBq := below_regrown W dq osq
    generalize grow (redrawn W dq) osq = wq at *
    go_wp2
    go_ret
    exact ⟨rfl, hBW.trans (hBq.mono hBW.size)⟩
  | true =>
  cases h_an : Gid.none ⟨⟨at_, ar⟩, ai⟩ with
  | false =>
    obtain rfl : ans = false := by rw [HV.out]; simp only [h_pn, h_nm, h_d, h_an, Bool.and_false, Bool.false_and, Bool.and_true, Bool.true_and]
    obtain rfl := bs_nil.1 h_nm0
    obtain rfl : dir = false := by simpa using h_d
    have hA_W : W.heap[w.heap.size]? = some (.cells #[.int .i64 k, .int .i64 nt, .int .i64 nr, .int .i64 ni, .int .i64 pt, .int .i64 pr, .int .i64 pi, .string ⟨#[]⟩, .bool false, .slice dA dn dc, .int .i64 at_, .int .i64 ar, .int .i64 ai, .int .i64 et, .int .i64 er, .int .i64 ei, .string text, .slice eA en ec] 70 (0, 0)) := HA.out
    have x4 := cell_regrown (w := W) (a := ⟨w.heap.size, 4, none⟩) (v := .int .i64 pt) (by rw [cell_of_row _ _ _ _ _ _ hA_W]; rfl)
    have x5 := cell_regrown (w := W) (a := ⟨w.heap.size, 5, none⟩) (v := .int .i64 pr) (by rw [cell_of_row _ _ _ _ _ _ hA_W]; rfl)
    have x6 := cell_regrown (w := W) (a := ⟨w.heap.size, 6, none⟩) (v := .int .i64 pi) (by rw [cell_of_row _ _ _ _ _ _ hA_W]; rfl)
    have x7 := cell_regrown (w := W) (a := ⟨w.heap.size, 7, none⟩) (v := .string ⟨#[]⟩) (by rw [cell_of_row _ _ _ _ _ _ hA_W]; rfl)
    have x8 := cell_regrown (w := W) (a := ⟨w.heap.size, 8, none⟩) (v := .bool false) (by rw [cell_of_row _ _ _ _ _ _ hA_W]; rfl)
    have x9 := cell_regrown (w := W) (a := ⟨w.heap.size, 9, none⟩) (v := .slice dA dn dc) (by rw [cell_of_row _ _ _ _ _ _ hA_W]; rfl)
    have x10 := cell_regrown (w := W) (a := ⟨w.heap.size, 10, none⟩) (v := .int .i64 at_) (by rw [cell_of_row _ _ _ _ _ _ hA_W]; rfl)
    have x11 := cell_regrown (w := W) (a := ⟨w.heap.size, 11, none⟩) (v := .int .i64 ar) (by rw [cell_of_row _ _ _ _ _ _ hA_W]; rfl)
    have x12 := cell_regrown (w := W) (a := ⟨w.heap.size, 12, none⟩) (v := .int .i64 ai) (by rw [cell_of_row _ _ _ _ _ _ hA_W]; rfl)
    have x13 := cell_regrown (w := W) (a := ⟨w.heap.size, 13, none⟩) (v := .int .i64 et) (by rw [cell_of_row _ _ _ _ _ _ hA_W]; rfl)
    have x14 := cell_regrown (w := W) (a := ⟨w.heap.size, 14, none⟩) (v := .int .i64 er) (by rw [cell_of_row _ _ _ _ _ _ hA_W]; rfl)
    have x15 := cell_regrown (w := W) (a := ⟨w.heap.size, 15, none⟩) (v := .int .i64 ei) (by rw [cell_of_row _ _ _ _ _ _ hA_W]; rfl)
    have x16 := cell_regrown (w := W) (a := ⟨w.heap.size, 16, none⟩) (v := .string text) (by rw [cell_of_row _ _ _ _ _ _ hA_W]; rfl)
    have x17 := cell_regrown (w := W) (a := ⟨w.heap.size, 17, none⟩) (v := .slice eA en ec) (by rw [cell_of_row _ _ _ _ _ _ hA_W]; rfl)
    clear hA_W
    have c_pn := fun d os => Calls.regrown_of (refnone_any pt pr pi (grow (redrawn W d) os))
    rw [h_pn] at c_pn
    have H_an := Lib.hid h_an
    clear h_pn h_nm h_d h_an h_nm0
    go_enter Tryz.func119, Tryz.ntmps119
    go_upto_region 1 with (fail)
    rw [← HW.out]
    refine wp_plain_quiet_below ?_
    repeat (any_goals (first | go_big_quiet_step (first | with_reducible exact c_pn _ _) | quiet_step (first | with_reducible exact c_pn _ _)))
    refine wpQuiet_nil ?_
    intro _ hw'
    obtain ⟨⟨dq, osq⟩, hw''⟩ := hw'
    subst hw''
    have hBq := below_regrown W dq osq
    generalize grow (redrawn W dq) osq = wq at *
    have hB1 := hBW.trans (hBq.mono hBW.size)
    have hA1 := (hBq.block _ hlt).trans HA.out
    have HA1 := Lib.hid hA1
    clear hA1 hBq x4 x5 x6 x7 x8 x9 x10 x11 x12 x13 x14 x15 x16 x17 c_pn
    obtain ⟨W1, hW1⟩ : ∃ W1, W1 = wq := ⟨_, rfl⟩
    rw [← hW1] at hB1 HA1 ⊢
    clear hW1
    go_upto_region 3 with (fail)
    have hA_W1 : W1.heap[w.heap.size]? = some (.cells #[.int .i64 k, .int .i64 nt, .int .i64 nr, .int .i64 ni, .int .i64 pt, .int .i64 pr, .int .i64 pi, .string ⟨#[]⟩, .bool false, .slice dA dn dc, .int .i64 at_, .int .i64 ar, .int .i64 ai, .int .i64 et, .int .i64 er, .int .i64 ei, .string text, .slice eA en ec] 70 (0, 0)) := HA1.out
    have x4 := cell_regrown (w := W1) (a := ⟨w.heap.size, 4, none⟩) (v := .int .i64 pt) (by rw [cell_of_row _ _ _ _ _ _ hA_W1]; rfl)
    have x5 := cell_regrown (w := W1) (a := ⟨w.heap.size, 5, none⟩) (v := .int .i64 pr) (by rw [cell_of_row _ _ _ _ _ _ hA_W1]; rfl)
    have x6 := cell_regrown (w := W1) (a := ⟨w.heap.size, 6, none⟩) (v := .int .i64 pi) (by rw [cell_of_row _ _ _ _ _ _ hA_W1]; rfl)
    have x7 := cell_regrown (w := W1) (a := ⟨w.heap.size, 7, none⟩) (v := .string ⟨#[]⟩) (by rw [cell_of_row _ _ _ _ _ _ hA_W1]; rfl)
    have x8 := cell_regrown (w := W1) (a := ⟨w.heap.size, 8, none⟩) (v := .bool false) (by rw [cell_of_row _ _ _ _ _ _ hA_W1]; rfl)
    have x9 := cell_regrown (w := W1) (a := ⟨w.heap.size, 9, none⟩) (v := .slice dA dn dc) (by rw [cell_of_row _ _ _ _ _ _ hA_W1]; rfl)
    have x10 := cell_regrown (w := W1) (a := ⟨w.heap.size, 10, none⟩) (v := .int .i64 at_) (by rw [cell_of_row _ _ _ _ _ _ hA_W1]; rfl)
    have x11 := cell_regrown (w := W1) (a := ⟨w.heap.size, 11, none⟩) (v := .int .i64 ar) (by rw [cell_of_row _ _ _ _ _ _ hA_W1]; rfl)
    have x12 := cell_regrown (w := W1) (a := ⟨w.heap.size, 12, none⟩) (v := .int .i64 ai) (by rw [cell_of_row _ _ _ _ _ _ hA_W1]; rfl)
    have x13 := cell_regrown (w := W1) (a := ⟨w.heap.size, 13, none⟩) (v := .int .i64 et) (by rw [cell_of_row _ _ _ _ _ _ hA_W1]; rfl)
    have x14 := cell_regrown (w := W1) (a := ⟨w.heap.size, 14, none⟩) (v := .int .i64 er) (by rw [cell_of_row _ _ _ _ _ _ hA_W1]; rfl)
    have x15 := cell_regrown (w := W1) (a := ⟨w.heap.size, 15, none⟩) (v := .int .i64 ei) (by rw [cell_of_row _ _ _ _ _ _ hA_W1]; rfl)
    have x16 := cell_regrown (w := W1) (a := ⟨w.heap.size, 16, none⟩) (v := .string text) (by rw [cell_of_row _ _ _ _ _ _ hA_W1]; rfl)
    have x17 := cell_regrown (w := W1) (a := ⟨w.heap.size, 17, none⟩) (v := .slice eA en ec) (by rw [cell_of_row _ _ _ _ _ _ hA_W1]; rfl)
    clear hA_W1
    have h_an := H_an.out
    have c_an := fun d os => Calls.regrown_of (refnone_any at_ ar ai (grow (redrawn W1 d) os))
    rw [h_an] at c_an
    clear h_an
    refine wp_plain_quiet_below ?_
    repeat (any_goals (first | go_big_quiet_step (first | with_reducible exact c_an _ _) | quiet_step (first | with_reducible exact c_an _ _)))
    refine wpQuiet_nil ?_
    intro _ hw'
    obtain ⟨⟨dq, osq⟩, hw''⟩ := hw'
    subst hw''
    have hBq := below_regrown W1 dq osq
    generalize grow (redrawn W1 dq) osq = wq at *
    go_wp2
    go_ret
    exact ⟨rfl, hB1.trans (hBq.mono hB1.size)⟩
  | true =>
  cases h_en_ : Gid.none ⟨⟨et, er⟩, ei⟩ with
  | false =>
    obtain rfl : ans = false := by rw [HV.out]; simp only [h_pn, h_nm, h_d, h_an, h_en_, Bool.and_false, Bool.false_and, Bool.and_true, Bool.true_and]
    obtain rfl := bs_nil.1 h_nm0
    obtain rfl : dir = false := by simpa using h_d
    have hA_W : W.heap[w.heap.size]? = some (.cells #[.int .i64 k, .int .i64 nt, .int .i64 nr, .int .i64 ni, .int .i64 pt, .int .i64 pr, .int .i64 pi, .string ⟨#[]⟩, .bool false, .slice dA dn dc, .int .i64 at_, .int .i64 ar, .int .i64 ai, .int .i64 et, .int .i64 er, .int .i64 ei, .string text, .slice eA en ec] 70 (0, 0)) := HA.out
    have x4 := cell_regrown (w := W) (a := ⟨w.heap.size, 4, none⟩) (v := .int .i64 pt) (by rw [cell_of_row _ _ _ _ _ _ hA_W]; rfl)
    have x5 := cell_regrown (w := W) (a := ⟨w.heap.size, 5, none⟩) (v := .int .i64 pr) (by rw [cell_of_row _ _ _ _ _ _ hA_W]; rfl)
    have x6 := cell_regrown (w := W) (a := ⟨w.heap.size, 6, none⟩) (v := .int .i64 pi) (by rw [cell_of_row _ _ _ _ _ _ hA_W]; rfl)
    have x7 := cell_regrown (w := W) (a := ⟨w.heap.size, 7, none⟩) (v := .string ⟨#[]⟩) (by rw [cell_of_row _ _ _ _ _ _ hA_W]; rfl)
    have x8 := cell_regrown (w := W) (a := ⟨w.heap.size, 8, none⟩) (v := .bool false) (by rw [cell_of_row _ _ _ _ _ _ hA_W]; rfl)
    have x9 := cell_regrown (w := W) (a := ⟨w.heap.size, 9, none⟩) (v := .slice dA dn dc) (by rw [cell_of_row _ _ _ _ _ _ hA_W]; rfl)
    have x10 := cell_regrown (w := W) (a := ⟨w.heap.size, 10, none⟩) (v := .int .i64 at_) (by rw [cell_of_row _ _ _ _ _ _ hA_W]; rfl)
    have x11 := cell_regrown (w := W) (a := ⟨w.heap.size, 11, none⟩) (v := .int .i64 ar) (by rw [cell_of_row _ _ _ _ _ _ hA_W]; rfl)
    have x12 := cell_regrown (w := W) (a := ⟨w.heap.size, 12, none⟩) (v := .int .i64 ai) (by rw [cell_of_row _ _ _ _ _ _ hA_W]; rfl)
    have x13 := cell_regrown (w := W) (a := ⟨w.heap.size, 13, none⟩) (v := .int .i64 et) (by rw [cell_of_row _ _ _ _ _ _ hA_W]; rfl)
    have x14 := cell_regrown (w := W) (a := ⟨w.heap.size, 14, none⟩) (v := .int .i64 er) (by rw [cell_of_row _ _ _ _ _ _ hA_W]; rfl)
    have x15 := cell_regrown (w := W) (a := ⟨w.heap.size, 15, none⟩) (v := .int .i64 ei) (by rw [cell_of_row _ _ _ _ _ _ hA_W]; rfl)
    have x16 := cell_regrown (w := W) (a := ⟨w.heap.size, 16, none⟩) (v := .string text) (by rw [cell_of_row _ _ _ _ _ _ hA_W]; rfl)
    have x17 := cell_regrown (w := W) (a := ⟨w.heap.size, 17, none⟩) (v := .slice eA en ec) (by rw [cell_of_row _ _ _ _ _ _ hA_W]; rfl)
    clear hA_W
    have c_pn := fun d os => Calls.regrown_of (refnone_any pt pr pi (grow (redrawn W d) os))
    rw [h_pn] at c_pn
    have H_an := Lib.hid h_an
    have H_en_ := Lib.hid h_en_
    clear h_pn h_nm h_d h_an h_en_ h_nm0
    go_enter Tryz.func119, Tryz.ntmps119
    go_upto_region 1 with (fail)
    rw [← HW.out]
    refine wp_plain_quiet_below ?_
    repeat (any_goals (first | go_big_quiet_step (first | with_reducible exact c_pn _ _) | quiet_step (first | with_reducible exact c_pn _ _)))
    refine wpQuiet_nil ?_
    intro _ hw'
    obtain ⟨⟨dq, osq⟩, hw''⟩ := hw'
    subst hw''
    have hBq := below_regrown W dq osq
    generalize grow (redrawn W dq) osq = wq at *
    have hB1 := hBW.trans (hBq.mono hBW.size)
    have hA1 := (hBq.block _ hlt).trans HA.out
    have HA1 := Lib.hid hA1
    clear hA1 hBq x4 x5 x6 x7 x8 x9 x10 x11 x12 x13 x14 x15 x16 x17 c_pn
    obtain ⟨W1, hW1⟩ : ∃ W1, W1 = wq := ⟨_, rfl⟩
    rw [← hW1] at hB1 HA1 ⊢
    clear hW1
    go_upto_region 3 with (fail)
    have hA_W1 : W1.heap[w.heap.size]? = some (.cells #[.int .i64 k, .int .i64 nt, .int .i64 nr, .int .i64 ni, .int .i64 pt, .int .i64 pr, .int .i64 pi, .string ⟨#[]⟩, .bool false, .slice dA dn dc, .int .i64 at_, .int .i64 ar, .int .i64 ai, .int .i64 et, .int .i64 er, .int .i64 ei, .string text, .slice eA en ec] 70 (0, 0)) := HA1.out
    have x4 := cell_regrown (w := W1) (a := ⟨w.heap.size, 4, none⟩) (v := .int .i64 pt) (by rw [cell_of_row _ _ _ _ _ _ hA_W1]; rfl)
    have x5 := cell_regrown (w := W1) (a := ⟨w.heap.size, 5, none⟩) (v := .int .i64 pr) (by rw [cell_of_row _ _ _ _ _ _ hA_W1]; rfl)
    have x6 := cell_regrown (w := W1) (a := ⟨w.heap.size, 6, none⟩) (v := .int .i64 pi) (by rw [cell_of_row _ _ _ _ _ _ hA_W1]; rfl)
    have x7 := cell_regrown (w := W1) (a := ⟨w.heap.size, 7, none⟩) (v := .string ⟨#[]⟩) (by rw [cell_of_row _ _ _ _ _ _ hA_W1]; rfl)
    have x8 := cell_regrown (w := W1) (a := ⟨w.heap.size, 8, none⟩) (v := .bool false) (by rw [cell_of_row _ _ _ _ _ _ hA_W1]; rfl)
    have x9 := cell_regrown (w := W1) (a := ⟨w.heap.size, 9, none⟩) (v := .slice dA dn dc) (by rw [cell_of_row _ _ _ _ _ _ hA_W1]; rfl)
    have x10 := cell_regrown (w := W1) (a := ⟨w.heap.size, 10, none⟩) (v := .int .i64 at_) (by rw [cell_of_row _ _ _ _ _ _ hA_W1]; rfl)
    have x11 := cell_regrown (w := W1) (a := ⟨w.heap.size, 11, none⟩) (v := .int .i64 ar) (by rw [cell_of_row _ _ _ _ _ _ hA_W1]; rfl)
    have x12 := cell_regrown (w := W1) (a := ⟨w.heap.size, 12, none⟩) (v := .int .i64 ai) (by rw [cell_of_row _ _ _ _ _ _ hA_W1]; rfl)
    have x13 := cell_regrown (w := W1) (a := ⟨w.heap.size, 13, none⟩) (v := .int .i64 et) (by rw [cell_of_row _ _ _ _ _ _ hA_W1]; rfl)
    have x14 := cell_regrown (w := W1) (a := ⟨w.heap.size, 14, none⟩) (v := .int .i64 er) (by rw [cell_of_row _ _ _ _ _ _ hA_W1]; rfl)
    have x15 := cell_regrown (w := W1) (a := ⟨w.heap.size, 15, none⟩) (v := .int .i64 ei) (by rw [cell_of_row _ _ _ _ _ _ hA_W1]; rfl)
    have x16 := cell_regrown (w := W1) (a := ⟨w.heap.size, 16, none⟩) (v := .string text) (by rw [cell_of_row _ _ _ _ _ _ hA_W1]; rfl)
    have x17 := cell_regrown (w := W1) (a := ⟨w.heap.size, 17, none⟩) (v := .slice eA en ec) (by rw [cell_of_row _ _ _ _ _ _ hA_W1]; rfl)
    clear hA_W1
    have h_an := H_an.out
    have h_en_ := H_en_.out
    have c_an := fun d os => Calls.regrown_of (refnone_any at_ ar ai (grow (redrawn W1 d) os))
    rw [h_an] at c_an
    have c_en_ := fun d os => Calls.regrown_of (refnone_any et er ei (grow (redrawn W1 d) os))
    rw [h_en_] at c_en_
    clear h_an h_en_
    refine wp_plain_quiet_below ?_
    repeat (any_goals (first | go_big_quiet_step (first | with_reducible exact c_an _ _ | with_reducible exact c_en_ _ _) | quiet_step (first | with_reducible exact c_an _ _ | with_reducible exact c_en_ _ _)))
    refine wpQuiet_nil ?_
    intro _ hw'
    obtain ⟨⟨dq, osq⟩, hw''⟩ := hw'
    subst hw''
    have hBq := below_regrown W1 dq osq
    generalize grow (redrawn W1 dq) osq = wq at *
    go_wp2
    go_ret
    exact ⟨rfl, hB1.trans (hBq.mono hB1.size)⟩
  | true =>
  by_cases h_tx0 : text.data.toList = []
  rotate_left
  · have h_tx : decide (text.data.toList = []) = false := decide_eq_false h_tx0
    obtain rfl : ans = false := by rw [HV.out]; simp only [h_pn, h_nm, h_d, h_an, h_en_, h_tx, Bool.and_false, Bool.false_and, Bool.and_true, Bool.true_and]
    obtain rfl := bs_nil.1 h_nm0
    obtain rfl : dir = false := by simpa using h_d
    have s_tx : text.toList.isEmpty = false := by rw [ByteArray.toList_eq]; cases e : text.data.toList with
      | nil => exact absurd e h_tx0
      | cons a l => rfl
    have hA_W : W.heap[w.heap.size]? = some (.cells #[.int .i64 k, .int .i64 nt, .int .i64 nr, .int .i64 ni, .int .i64 pt, .int .i64 pr, .int .i64 pi, .string ⟨#[]⟩, .bool false, .slice dA dn dc, .int .i64 at_, .int .i64 ar, .int .i64 ai, .int .i64 et, .int .i64 er, .int .i64 ei, .string text, .slice eA en ec] 70 (0, 0)) := HA.out
    have x4 := cell_regrown (w := W) (a := ⟨w.heap.size, 4, none⟩) (v := .int .i64 pt) (by rw [cell_of_row _ _ _ _ _ _ hA_W]; rfl)
    have x5 := cell_regrown (w := W) (a := ⟨w.heap.size, 5, none⟩) (v := .int .i64 pr) (by rw [cell_of_row _ _ _ _ _ _ hA_W]; rfl)
    have x6 := cell_regrown (w := W) (a := ⟨w.heap.size, 6, none⟩) (v := .int .i64 pi) (by rw [cell_of_row _ _ _ _ _ _ hA_W]; rfl)
    have x7 := cell_regrown (w := W) (a := ⟨w.heap.size, 7, none⟩) (v := .string ⟨#[]⟩) (by rw [cell_of_row _ _ _ _ _ _ hA_W]; rfl)
    have x8 := cell_regrown (w := W) (a := ⟨w.heap.size, 8, none⟩) (v := .bool false) (by rw [cell_of_row _ _ _ _ _ _ hA_W]; rfl)
    have x9 := cell_regrown (w := W) (a := ⟨w.heap.size, 9, none⟩) (v := .slice dA dn dc) (by rw [cell_of_row _ _ _ _ _ _ hA_W]; rfl)
    have x10 := cell_regrown (w := W) (a := ⟨w.heap.size, 10, none⟩) (v := .int .i64 at_) (by rw [cell_of_row _ _ _ _ _ _ hA_W]; rfl)
    have x11 := cell_regrown (w := W) (a := ⟨w.heap.size, 11, none⟩) (v := .int .i64 ar) (by rw [cell_of_row _ _ _ _ _ _ hA_W]; rfl)
    have x12 := cell_regrown (w := W) (a := ⟨w.heap.size, 12, none⟩) (v := .int .i64 ai) (by rw [cell_of_row _ _ _ _ _ _ hA_W]; rfl)
    have x13 := cell_regrown (w := W) (a := ⟨w.heap.size, 13, none⟩) (v := .int .i64 et) (by rw [cell_of_row _ _ _ _ _ _ hA_W]; rfl)
    have x14 := cell_regrown (w := W) (a := ⟨w.heap.size, 14, none⟩) (v := .int .i64 er) (by rw [cell_of_row _ _ _ _ _ _ hA_W]; rfl)
    have x15 := cell_regrown (w := W) (a := ⟨w.heap.size, 15, none⟩) (v := .int .i64 ei) (by rw [cell_of_row _ _ _ _ _ _ hA_W]; rfl)
    have x16 := cell_regrown (w := W) (a := ⟨w.heap.size, 16, none⟩) (v := .string text) (by rw [cell_of_row _ _ _ _ _ _ hA_W]; rfl)
    have x17 := cell_regrown (w := W) (a := ⟨w.heap.size, 17, none⟩) (v := .slice eA en ec) (by rw [cell_of_row _ _ _ _ _ _ hA_W]; rfl)
    clear hA_W
    have c_pn := fun d os => Calls.regrown_of (refnone_any pt pr pi (grow (redrawn W d) os))
    rw [h_pn] at c_pn
    have H_an := Lib.hid h_an
    have H_en_ := Lib.hid h_en_
    clear h_pn h_nm h_d h_an h_en_ h_tx h_nm0 h_tx0
    go_enter Tryz.func119, Tryz.ntmps119
    go_upto_region 1 with (fail)
    rw [← HW.out]
    refine wp_plain_quiet_below ?_
    repeat (any_goals (first | go_big_quiet_step (first | with_reducible exact c_pn _ _) | quiet_step (first | with_reducible exact c_pn _ _)))
    refine wpQuiet_nil ?_
    intro _ hw'
    obtain ⟨⟨dq, osq⟩, hw''⟩ := hw'
    subst hw''
    have hBq := below_regrown W dq osq
    generalize grow (redrawn W dq) osq = wq at *
    have hB1 := hBW.trans (hBq.mono hBW.size)
    have hA1 := (hBq.block _ hlt).trans HA.out
    have HA1 := Lib.hid hA1
    clear hA1 hBq x4 x5 x6 x7 x8 x9 x10 x11 x12 x13 x14 x15 x16 x17 c_pn
    obtain ⟨W1, hW1⟩ : ∃ W1, W1 = wq := ⟨_, rfl⟩
    rw [← hW1] at hB1 HA1 ⊢
    clear hW1
    go_upto_region 3 with (fail)
    have hA_W1 : W1.heap[w.heap.size]? = some (.cells #[.int .i64 k, .int .i64 nt, .int .i64 nr, .int .i64 ni, .int .i64 pt, .int .i64 pr, .int .i64 pi, .string ⟨#[]⟩, .bool false, .slice dA dn dc, .int .i64 at_, .int .i64 ar, .int .i64 ai, .int .i64 et, .int .i64 er, .int .i64 ei, .string text, .slice eA en ec] 70 (0, 0)) := HA1.out
    have x4 := cell_regrown (w := W1) (a := ⟨w.heap.size, 4, none⟩) (v := .int .i64 pt) (by rw [cell_of_row _ _ _ _ _ _ hA_W1]; rfl)
    have x5 := cell_regrown (w := W1) (a := ⟨w.heap.size, 5, none⟩) (v := .int .i64 pr) (by rw [cell_of_row _ _ _ _ _ _ hA_W1]; rfl)
    have x6 := cell_regrown (w := W1) (a := ⟨w.heap.size, 6, none⟩) (v := .int .i64 pi) (by rw [cell_of_row _ _ _ _ _ _ hA_W1]; rfl)
    have x7 := cell_regrown (w := W1) (a := ⟨w.heap.size, 7, none⟩) (v := .string ⟨#[]⟩) (by rw [cell_of_row _ _ _ _ _ _ hA_W1]; rfl)
    have x8 := cell_regrown (w := W1) (a := ⟨w.heap.size, 8, none⟩) (v := .bool false) (by rw [cell_of_row _ _ _ _ _ _ hA_W1]; rfl)
    have x9 := cell_regrown (w := W1) (a := ⟨w.heap.size, 9, none⟩) (v := .slice dA dn dc) (by rw [cell_of_row _ _ _ _ _ _ hA_W1]; rfl)
    have x10 := cell_regrown (w := W1) (a := ⟨w.heap.size, 10, none⟩) (v := .int .i64 at_) (by rw [cell_of_row _ _ _ _ _ _ hA_W1]; rfl)
    have x11 := cell_regrown (w := W1) (a := ⟨w.heap.size, 11, none⟩) (v := .int .i64 ar) (by rw [cell_of_row _ _ _ _ _ _ hA_W1]; rfl)
    have x12 := cell_regrown (w := W1) (a := ⟨w.heap.size, 12, none⟩) (v := .int .i64 ai) (by rw [cell_of_row _ _ _ _ _ _ hA_W1]; rfl)
    have x13 := cell_regrown (w := W1) (a := ⟨w.heap.size, 13, none⟩) (v := .int .i64 et) (by rw [cell_of_row _ _ _ _ _ _ hA_W1]; rfl)
    have x14 := cell_regrown (w := W1) (a := ⟨w.heap.size, 14, none⟩) (v := .int .i64 er) (by rw [cell_of_row _ _ _ _ _ _ hA_W1]; rfl)
    have x15 := cell_regrown (w := W1) (a := ⟨w.heap.size, 15, none⟩) (v := .int .i64 ei) (by rw [cell_of_row _ _ _ _ _ _ hA_W1]; rfl)
    have x16 := cell_regrown (w := W1) (a := ⟨w.heap.size, 16, none⟩) (v := .string text) (by rw [cell_of_row _ _ _ _ _ _ hA_W1]; rfl)
    have x17 := cell_regrown (w := W1) (a := ⟨w.heap.size, 17, none⟩) (v := .slice eA en ec) (by rw [cell_of_row _ _ _ _ _ _ hA_W1]; rfl)
    clear hA_W1
    have h_an := H_an.out
    have h_en_ := H_en_.out
    have c_an := fun d os => Calls.regrown_of (refnone_any at_ ar ai (grow (redrawn W1 d) os))
    rw [h_an] at c_an
    have c_en_ := fun d os => Calls.regrown_of (refnone_any et er ei (grow (redrawn W1 d) os))
    rw [h_en_] at c_en_
    clear h_an h_en_
    refine wp_plain_quiet_below ?_
    repeat (any_goals (first | go_big_quiet_step (first | with_reducible exact c_an _ _ | with_reducible exact c_en_ _ _) | quiet_step (first | with_reducible exact c_an _ _ | with_reducible exact c_en_ _ _)))
    refine wpQuiet_nil ?_
    intro _ hw'
    obtain ⟨⟨dq, osq⟩, hw''⟩ := hw'
    subst hw''
    have hBq := below_regrown W1 dq osq
    generalize grow (redrawn W1 dq) osq = wq at *
    go_wp2
    go_ret
    exact ⟨rfl, hB1.trans (hBq.mono hB1.size)⟩
  have h_tx : decide (text.data.toList = []) = true := decide_eq_true h_tx0
  by_cases h_el0 : en = 0
  rotate_left
  · have h_el : decide (en = 0) = false := decide_eq_false h_el0
    obtain rfl : ans = false := by rw [HV.out]; simp only [h_pn, h_nm, h_d, h_an, h_en_, h_tx, h_el, Bool.and_false, Bool.false_and, Bool.and_true, Bool.true_and]
    obtain rfl := bs_nil.1 h_nm0
    obtain rfl : dir = false := by simpa using h_d
    obtain rfl := bs_nil.1 h_tx0
    have s_el : ((en : Int) == 0) = false := by rw [beq_eq_false_iff_ne]; omega
    have s_el2 : decide (en = 0) = false := decide_eq_false h_el0
    have hA_W : W.heap[w.heap.size]? = some (.cells #[.int .i64 k, .int .i64 nt, .int .i64 nr, .int .i64 ni, .int .i64 pt, .int .i64 pr, .int .i64 pi, .string ⟨#[]⟩, .bool false, .slice dA dn dc, .int .i64 at_, .int .i64 ar, .int .i64 ai, .int .i64 et, .int .i64 er, .int .i64 ei, .string ⟨#[]⟩, .slice eA en ec] 70 (0, 0)) := HA.out
    have x4 := cell_regrown (w := W) (a := ⟨w.heap.size, 4, none⟩) (v := .int .i64 pt) (by rw [cell_of_row _ _ _ _ _ _ hA_W]; rfl)
    have x5 := cell_regrown (w := W) (a := ⟨w.heap.size, 5, none⟩) (v := .int .i64 pr) (by rw [cell_of_row _ _ _ _ _ _ hA_W]; rfl)
    have x6 := cell_regrown (w := W) (a := ⟨w.heap.size, 6, none⟩) (v := .int .i64 pi) (by rw [cell_of_row _ _ _ _ _ _ hA_W]; rfl)
    have x7 := cell_regrown (w := W) (a := ⟨w.heap.size, 7, none⟩) (v := .string ⟨#[]⟩) (by rw [cell_of_row _ _ _ _ _ _ hA_W]; rfl)
    have x8 := cell_regrown (w := W) (a := ⟨w.heap.size, 8, none⟩) (v := .bool false) (by rw [cell_of_row _ _ _ _ _ _ hA_W]; rfl)
    have x9 := cell_regrown (w := W) (a := ⟨w.heap.size, 9, none⟩) (v := .slice dA dn dc) (by rw [cell_of_row _ _ _ _ _ _ hA_W]; rfl)
    have x10 := cell_regrown (w := W) (a := ⟨w.heap.size, 10, none⟩) (v := .int .i64 at_) (by rw [cell_of_row _ _ _ _ _ _ hA_W]; rfl)
    have x11 := cell_regrown (w := W) (a := ⟨w.heap.size, 11, none⟩) (v := .int .i64 ar) (by rw [cell_of_row _ _ _ _ _ _ hA_W]; rfl)
    have x12 := cell_regrown (w := W) (a := ⟨w.heap.size, 12, none⟩) (v := .int .i64 ai) (by rw [cell_of_row _ _ _ _ _ _ hA_W]; rfl)
    have x13 := cell_regrown (w := W) (a := ⟨w.heap.size, 13, none⟩) (v := .int .i64 et) (by rw [cell_of_row _ _ _ _ _ _ hA_W]; rfl)
    have x14 := cell_regrown (w := W) (a := ⟨w.heap.size, 14, none⟩) (v := .int .i64 er) (by rw [cell_of_row _ _ _ _ _ _ hA_W]; rfl)
    have x15 := cell_regrown (w := W) (a := ⟨w.heap.size, 15, none⟩) (v := .int .i64 ei) (by rw [cell_of_row _ _ _ _ _ _ hA_W]; rfl)
    have x16 := cell_regrown (w := W) (a := ⟨w.heap.size, 16, none⟩) (v := .string ⟨#[]⟩) (by rw [cell_of_row _ _ _ _ _ _ hA_W]; rfl)
    have x17 := cell_regrown (w := W) (a := ⟨w.heap.size, 17, none⟩) (v := .slice eA en ec) (by rw [cell_of_row _ _ _ _ _ _ hA_W]; rfl)
    clear hA_W
    have c_pn := fun d os => Calls.regrown_of (refnone_any pt pr pi (grow (redrawn W d) os))
    rw [h_pn] at c_pn
    have H_an := Lib.hid h_an
    have H_en_ := Lib.hid h_en_
    clear h_pn h_nm h_d h_an h_en_ h_tx h_nm0 h_tx0 h_el0 h_el
    go_enter Tryz.func119, Tryz.ntmps119
    go_upto_region 1 with (fail)
    rw [← HW.out]
    refine wp_plain_quiet_below ?_
    repeat (any_goals (first | go_big_quiet_step (first | with_reducible exact c_pn _ _) | quiet_step (first | with_reducible exact c_pn _ _)))
    refine wpQuiet_nil ?_
    intro _ hw'
    obtain ⟨⟨dq, osq⟩, hw''⟩ := hw'
    subst hw''
    have hBq := below_regrown W dq osq
    generalize grow (redrawn W dq) osq = wq at *
    have hB1 := hBW.trans (hBq.mono hBW.size)
    have hA1 := (hBq.block _ hlt).trans HA.out
    have HA1 := Lib.hid hA1
    clear hA1 hBq x4 x5 x6 x7 x8 x9 x10 x11 x12 x13 x14 x15 x16 x17 c_pn
    obtain ⟨W1, hW1⟩ : ∃ W1, W1 = wq := ⟨_, rfl⟩
    rw [← hW1] at hB1 HA1 ⊢
    clear hW1
    go_upto_region 3 with (fail)
    have hA_W1 : W1.heap[w.heap.size]? = some (.cells #[.int .i64 k, .int .i64 nt, .int .i64 nr, .int .i64 ni, .int .i64 pt, .int .i64 pr, .int .i64 pi, .string ⟨#[]⟩, .bool false, .slice dA dn dc, .int .i64 at_, .int .i64 ar, .int .i64 ai, .int .i64 et, .int .i64 er, .int .i64 ei, .string ⟨#[]⟩, .slice eA en ec] 70 (0, 0)) := HA1.out
    have x4 := cell_regrown (w := W1) (a := ⟨w.heap.size, 4, none⟩) (v := .int .i64 pt) (by rw [cell_of_row _ _ _ _ _ _ hA_W1]; rfl)
    have x5 := cell_regrown (w := W1) (a := ⟨w.heap.size, 5, none⟩) (v := .int .i64 pr) (by rw [cell_of_row _ _ _ _ _ _ hA_W1]; rfl)
    have x6 := cell_regrown (w := W1) (a := ⟨w.heap.size, 6, none⟩) (v := .int .i64 pi) (by rw [cell_of_row _ _ _ _ _ _ hA_W1]; rfl)
    have x7 := cell_regrown (w := W1) (a := ⟨w.heap.size, 7, none⟩) (v := .string ⟨#[]⟩) (by rw [cell_of_row _ _ _ _ _ _ hA_W1]; rfl)
    have x8 := cell_regrown (w := W1) (a := ⟨w.heap.size, 8, none⟩) (v := .bool false) (by rw [cell_of_row _ _ _ _ _ _ hA_W1]; rfl)
    have x9 := cell_regrown (w := W1) (a := ⟨w.heap.size, 9, none⟩) (v := .slice dA dn dc) (by rw [cell_of_row _ _ _ _ _ _ hA_W1]; rfl)
    have x10 := cell_regrown (w := W1) (a := ⟨w.heap.size, 10, none⟩) (v := .int .i64 at_) (by rw [cell_of_row _ _ _ _ _ _ hA_W1]; rfl)
    have x11 := cell_regrown (w := W1) (a := ⟨w.heap.size, 11, none⟩) (v := .int .i64 ar) (by rw [cell_of_row _ _ _ _ _ _ hA_W1]; rfl)
    have x12 := cell_regrown (w := W1) (a := ⟨w.heap.size, 12, none⟩) (v := .int .i64 ai) (by rw [cell_of_row _ _ _ _ _ _ hA_W1]; rfl)
    have x13 := cell_regrown (w := W1) (a := ⟨w.heap.size, 13, none⟩) (v := .int .i64 et) (by rw [cell_of_row _ _ _ _ _ _ hA_W1]; rfl)
    have x14 := cell_regrown (w := W1) (a := ⟨w.heap.size, 14, none⟩) (v := .int .i64 er) (by rw [cell_of_row _ _ _ _ _ _ hA_W1]; rfl)
    have x15 := cell_regrown (w := W1) (a := ⟨w.heap.size, 15, none⟩) (v := .int .i64 ei) (by rw [cell_of_row _ _ _ _ _ _ hA_W1]; rfl)
    have x16 := cell_regrown (w := W1) (a := ⟨w.heap.size, 16, none⟩) (v := .string ⟨#[]⟩) (by rw [cell_of_row _ _ _ _ _ _ hA_W1]; rfl)
    have x17 := cell_regrown (w := W1) (a := ⟨w.heap.size, 17, none⟩) (v := .slice eA en ec) (by rw [cell_of_row _ _ _ _ _ _ hA_W1]; rfl)
    clear hA_W1
    have h_an := H_an.out
    have h_en_ := H_en_.out
    have c_an := fun d os => Calls.regrown_of (refnone_any at_ ar ai (grow (redrawn W1 d) os))
    rw [h_an] at c_an
    have c_en_ := fun d os => Calls.regrown_of (refnone_any et er ei (grow (redrawn W1 d) os))
    rw [h_en_] at c_en_
    clear h_an h_en_
    refine wp_plain_quiet_below ?_
    repeat (any_goals (first | go_big_quiet_step (first | with_reducible exact c_an _ _ | with_reducible exact c_en_ _ _) | quiet_step (first | with_reducible exact c_an _ _ | with_reducible exact c_en_ _ _)))
    refine wpQuiet_nil ?_
    intro _ hw'
    obtain ⟨⟨dq, osq⟩, hw''⟩ := hw'
    subst hw''
    have hBq := below_regrown W1 dq osq
    generalize grow (redrawn W1 dq) osq = wq at *
    go_wp2
    go_ret
    exact ⟨rfl, hB1.trans (hBq.mono hB1.size)⟩
  have h_el : decide (en = 0) = true := decide_eq_true h_el0
  obtain rfl : ans = true := by rw [HV.out]; simp only [h_pn, h_nm, h_d, h_an, h_en_, h_tx, h_el, Bool.and_false, Bool.false_and, Bool.and_true, Bool.true_and]
  obtain rfl := bs_nil.1 h_nm0
  obtain rfl : dir = false := by simpa using h_d
  obtain rfl := bs_nil.1 h_tx0
  have s_el : ((en : Int) == 0) = true := by rw [beq_iff_eq]; omega
  have s_el2 : decide (en = 0) = true := decide_eq_true h_el0
  have hA_W : W.heap[w.heap.size]? = some (.cells #[.int .i64 k, .int .i64 nt, .int .i64 nr, .int .i64 ni, .int .i64 pt, .int .i64 pr, .int .i64 pi, .string ⟨#[]⟩, .bool false, .slice dA dn dc, .int .i64 at_, .int .i64 ar, .int .i64 ai, .int .i64 et, .int .i64 er, .int .i64 ei, .string ⟨#[]⟩, .slice eA en ec] 70 (0, 0)) := HA.out
  have x4 := cell_regrown (w := W) (a := ⟨w.heap.size, 4, none⟩) (v := .int .i64 pt) (by rw [cell_of_row _ _ _ _ _ _ hA_W]; rfl)
  have x5 := cell_regrown (w := W) (a := ⟨w.heap.size, 5, none⟩) (v := .int .i64 pr) (by rw [cell_of_row _ _ _ _ _ _ hA_W]; rfl)
  have x6 := cell_regrown (w := W) (a := ⟨w.heap.size, 6, none⟩) (v := .int .i64 pi) (by rw [cell_of_row _ _ _ _ _ _ hA_W]; rfl)
  have x7 := cell_regrown (w := W) (a := ⟨w.heap.size, 7, none⟩) (v := .string ⟨#[]⟩) (by rw [cell_of_row _ _ _ _ _ _ hA_W]; rfl)
  have x8 := cell_regrown (w := W) (a := ⟨w.heap.size, 8, none⟩) (v := .bool false) (by rw [cell_of_row _ _ _ _ _ _ hA_W]; rfl)
  have x9 := cell_regrown (w := W) (a := ⟨w.heap.size, 9, none⟩) (v := .slice dA dn dc) (by rw [cell_of_row _ _ _ _ _ _ hA_W]; rfl)
  have x10 := cell_regrown (w := W) (a := ⟨w.heap.size, 10, none⟩) (v := .int .i64 at_) (by rw [cell_of_row _ _ _ _ _ _ hA_W]; rfl)
  have x11 := cell_regrown (w := W) (a := ⟨w.heap.size, 11, none⟩) (v := .int .i64 ar) (by rw [cell_of_row _ _ _ _ _ _ hA_W]; rfl)
  have x12 := cell_regrown (w := W) (a := ⟨w.heap.size, 12, none⟩) (v := .int .i64 ai) (by rw [cell_of_row _ _ _ _ _ _ hA_W]; rfl)
  have x13 := cell_regrown (w := W) (a := ⟨w.heap.size, 13, none⟩) (v := .int .i64 et) (by rw [cell_of_row _ _ _ _ _ _ hA_W]; rfl)
  have x14 := cell_regrown (w := W) (a := ⟨w.heap.size, 14, none⟩) (v := .int .i64 er) (by rw [cell_of_row _ _ _ _ _ _ hA_W]; rfl)
  have x15 := cell_regrown (w := W) (a := ⟨w.heap.size, 15, none⟩) (v := .int .i64 ei) (by rw [cell_of_row _ _ _ _ _ _ hA_W]; rfl)
  have x16 := cell_regrown (w := W) (a := ⟨w.heap.size, 16, none⟩) (v := .string ⟨#[]⟩) (by rw [cell_of_row _ _ _ _ _ _ hA_W]; rfl)
  have x17 := cell_regrown (w := W) (a := ⟨w.heap.size, 17, none⟩) (v := .slice eA en ec) (by rw [cell_of_row _ _ _ _ _ _ hA_W]; rfl)
  clear hA_W
  have c_pn := fun d os => Calls.regrown_of (refnone_any pt pr pi (grow (redrawn W d) os))
  rw [h_pn] at c_pn
  have H_an := Lib.hid h_an
  have H_en_ := Lib.hid h_en_
  clear h_pn h_nm h_d h_an h_en_ h_tx h_nm0 h_tx0 h_el0 h_el
  go_enter Tryz.func119, Tryz.ntmps119
  go_upto_region 1 with (fail)
  rw [← HW.out]
  refine wp_plain_quiet_below ?_
  repeat (any_goals (first | go_big_quiet_step (first | with_reducible exact c_pn _ _) | quiet_step (first | with_reducible exact c_pn _ _)))
  refine wpQuiet_nil ?_
  intro _ hw'
  obtain ⟨⟨dq, osq⟩, hw''⟩ := hw'
  subst hw''
  have hBq := below_regrown W dq osq
  generalize grow (redrawn W dq) osq = wq at *
  have hB1 := hBW.trans (hBq.mono hBW.size)
  have hA1 := (hBq.block _ hlt).trans HA.out
  have HA1 := Lib.hid hA1
  clear hA1 hBq x4 x5 x6 x7 x8 x9 x10 x11 x12 x13 x14 x15 x16 x17 c_pn
  obtain ⟨W1, hW1⟩ : ∃ W1, W1 = wq := ⟨_, rfl⟩
  rw [← hW1] at hB1 HA1 ⊢
  clear hW1
  go_upto_region 3 with (fail)
  have hA_W1 : W1.heap[w.heap.size]? = some (.cells #[.int .i64 k, .int .i64 nt, .int .i64 nr, .int .i64 ni, .int .i64 pt, .int .i64 pr, .int .i64 pi, .string ⟨#[]⟩, .bool false, .slice dA dn dc, .int .i64 at_, .int .i64 ar, .int .i64 ai, .int .i64 et, .int .i64 er, .int .i64 ei, .string ⟨#[]⟩, .slice eA en ec] 70 (0, 0)) := HA1.out
  have x4 := cell_regrown (w := W1) (a := ⟨w.heap.size, 4, none⟩) (v := .int .i64 pt) (by rw [cell_of_row _ _ _ _ _ _ hA_W1]; rfl)
  have x5 := cell_regrown (w := W1) (a := ⟨w.heap.size, 5, none⟩) (v := .int .i64 pr) (by rw [cell_of_row _ _ _ _ _ _ hA_W1]; rfl)
  have x6 := cell_regrown (w := W1) (a := ⟨w.heap.size, 6, none⟩) (v := .int .i64 pi) (by rw [cell_of_row _ _ _ _ _ _ hA_W1]; rfl)
  have x7 := cell_regrown (w := W1) (a := ⟨w.heap.size, 7, none⟩) (v := .string ⟨#[]⟩) (by rw [cell_of_row _ _ _ _ _ _ hA_W1]; rfl)
  have x8 := cell_regrown (w := W1) (a := ⟨w.heap.size, 8, none⟩) (v := .bool false) (by rw [cell_of_row _ _ _ _ _ _ hA_W1]; rfl)
  have x9 := cell_regrown (w := W1) (a := ⟨w.heap.size, 9, none⟩) (v := .slice dA dn dc) (by rw [cell_of_row _ _ _ _ _ _ hA_W1]; rfl)
  have x10 := cell_regrown (w := W1) (a := ⟨w.heap.size, 10, none⟩) (v := .int .i64 at_) (by rw [cell_of_row _ _ _ _ _ _ hA_W1]; rfl)
  have x11 := cell_regrown (w := W1) (a := ⟨w.heap.size, 11, none⟩) (v := .int .i64 ar) (by rw [cell_of_row _ _ _ _ _ _ hA_W1]; rfl)
  have x12 := cell_regrown (w := W1) (a := ⟨w.heap.size, 12, none⟩) (v := .int .i64 ai) (by rw [cell_of_row _ _ _ _ _ _ hA_W1]; rfl)
  have x13 := cell_regrown (w := W1) (a := ⟨w.heap.size, 13, none⟩) (v := .int .i64 et) (by rw [cell_of_row _ _ _ _ _ _ hA_W1]; rfl)
  have x14 := cell_regrown (w := W1) (a := ⟨w.heap.size, 14, none⟩) (v := .int .i64 er) (by rw [cell_of_row _ _ _ _ _ _ hA_W1]; rfl)
  have x15 := cell_regrown (w := W1) (a := ⟨w.heap.size, 15, none⟩) (v := .int .i64 ei) (by rw [cell_of_row _ _ _ _ _ _ hA_W1]; rfl)
  have x16 := cell_regrown (w := W1) (a := ⟨w.heap.size, 16, none⟩) (v := .string ⟨#[]⟩) (by rw [cell_of_row _ _ _ _ _ _ hA_W1]; rfl)
  have x17 := cell_regrown (w := W1) (a := ⟨w.heap.size, 17, none⟩) (v := .slice eA en ec) (by rw [cell_of_row _ _ _ _ _ _ hA_W1]; rfl)
  clear hA_W1
  have h_an := H_an.out
  have h_en_ := H_en_.out
  have c_an := fun d os => Calls.regrown_of (refnone_any at_ ar ai (grow (redrawn W1 d) os))
  rw [h_an] at c_an
  have c_en_ := fun d os => Calls.regrown_of (refnone_any et er ei (grow (redrawn W1 d) os))
  rw [h_en_] at c_en_
  clear h_an h_en_
  refine wp_plain_quiet_below ?_
  repeat (any_goals (first | go_big_quiet_step (first | with_reducible exact c_an _ _ | with_reducible exact c_en_ _ _) | quiet_step (first | with_reducible exact c_an _ _ | with_reducible exact c_en_ _ _)))
  refine wpQuiet_nil ?_
  intro _ hw'
  obtain ⟨⟨dq, osq⟩, hw''⟩ := hw'
  subst hw''
  have hBq := below_regrown W1 dq osq
  generalize grow (redrawn W1 dq) osq = wq at *
  go_wp2
  go_ret
  exact ⟨rfl, hB1.trans (hBq.mono hB1.size)⟩
end Go.Proofs.YtalgbcgiiphoaaaGreatDoor
end
section
namespace Go.Proofs.YtalgbcgiiphoaaaGreatDoor
open Go.RowKit Go.Lib Go.Sort
set_option linter.unusedVariables false
set_option linter.unusedSimpArgs false
set_option maxRecDepth 100000 in
set_option maxHeartbeats 8000000 in
theorem refbare_3 (k nt nr ni pt pr pi : Int) (name : ByteArray) (dir : Bool) (dA : Option Addr) (dn dc : Nat) (at_ ar ai et er ei : Int) (text : ByteArray) (eA : Option Addr) (en ec : Nat) (w : World) :
    Calls Tryz.prog 119 #[.agg #[.int .i64 k, .int .i64 nt, .int .i64 nr, .int .i64 ni, .int .i64 pt, .int .i64 pr, .int .i64 pi, .string name, .bool dir, .slice dA dn dc, .int .i64 at_, .int .i64 ar, .int .i64 ai, .int .i64 et, .int .i64 er, .int .i64 ei, .string text, .slice eA en ec], .bool false, .bool false, .bool false, .bool true, .bool false] w fun e w' => e = .returned (.bool ((Gid.none ⟨⟨pt, pr⟩, pi⟩) && (decide (name.data.toList = [])) && (!dir) && (decide (dn = 0)) && (decide (en = 0)))) ∧ Below w.heap.size w w' := by
  obtain ⟨ans, ha⟩ : ∃ a, a = ((Gid.none ⟨⟨pt, pr⟩, pi⟩) && (decide (name.data.toList = [])) && (!dir) && (decide (dn = 0)) && (decide (en = 0))) := ⟨_, rfl⟩
  rw [← ha]
  have HV := Lib.hid ha
  clear ha
  obtain ⟨W, hW⟩ : ∃ W, W = w.alloc (.cells #[.int .i64 k, .int .i64 nt, .int .i64 nr, .int .i64 ni, .int .i64 pt, .int .i64 pr, .int .i64 pi, .string name, .bool dir, .slice dA dn dc, .int .i64 at_, .int .i64 ar, .int .i64 ai, .int .i64 et, .int .i64 er, .int .i64 ei, .string text, .slice eA en ec] 70) := ⟨_, rfl⟩
  have hBW : Below w.heap.size w W := by subst hW; exact (Below.refl _ _).alloc (Nat.le_refl _) _
  have hA : W.heap[w.heap.size]? = some (.cells #[.int .i64 k, .int .i64 nt, .int .i64 nr, .int .i64 ni, .int .i64 pt, .int .i64 pr, .int .i64 pi, .string name, .bool dir, .slice dA dn dc, .int .i64 at_, .int .i64 ar, .int .i64 ai, .int .i64 et, .int .i64 er, .int .i64 ei, .string text, .slice eA en ec] 70 (0, 0)) := by subst hW; exact heap_alloc_new _ _
  have HW := Lib.hid hW
  have HA := Lib.hid hA
  have hlt : w.heap.size < W.heap.size := by subst hW; simp
  clear hW hA
  cases h_pn : Gid.none ⟨⟨pt, pr⟩, pi⟩ with
  | false =>
    obtain rfl : ans = false := by rw [HV.out]; simp only [h_pn, Bool.and_false, Bool.false_and, Bool.and_true, Bool.true_and]
    have hA_W : W.heap[w.heap.size]? = some (.cells #[.int .i64 k, .int .i64 nt, .int .i64 nr, .int .i64 ni, .int .i64 pt, .int .i64 pr, .int .i64 pi, .string name, .bool dir, .slice dA dn dc, .int .i64 at_, .int .i64 ar, .int .i64 ai, .int .i64 et, .int .i64 er, .int .i64 ei, .string text, .slice eA en ec] 70 (0, 0)) := HA.out
    have x4 := cell_regrown (w := W) (a := ⟨w.heap.size, 4, none⟩) (v := .int .i64 pt) (by rw [cell_of_row _ _ _ _ _ _ hA_W]; rfl)
    have x5 := cell_regrown (w := W) (a := ⟨w.heap.size, 5, none⟩) (v := .int .i64 pr) (by rw [cell_of_row _ _ _ _ _ _ hA_W]; rfl)
    have x6 := cell_regrown (w := W) (a := ⟨w.heap.size, 6, none⟩) (v := .int .i64 pi) (by rw [cell_of_row _ _ _ _ _ _ hA_W]; rfl)
    have x7 := cell_regrown (w := W) (a := ⟨w.heap.size, 7, none⟩) (v := .string name) (by rw [cell_of_row _ _ _ _ _ _ hA_W]; rfl)
    have x8 := cell_regrown (w := W) (a := ⟨w.heap.size, 8, none⟩) (v := .bool dir) (by rw [cell_of_row _ _ _ _ _ _ hA_W]; rfl)
    have x9 := cell_regrown (w := W) (a := ⟨w.heap.size, 9, none⟩) (v := .slice dA dn dc) (by rw [cell_of_row _ _ _ _ _ _ hA_W]; rfl)
    have x10 := cell_regrown (w := W) (a := ⟨w.heap.size, 10, none⟩) (v := .int .i64 at_) (by rw [cell_of_row _ _ _ _ _ _ hA_W]; rfl)
    have x11 := cell_regrown (w := W) (a := ⟨w.heap.size, 11, none⟩) (v := .int .i64 ar) (by rw [cell_of_row _ _ _ _ _ _ hA_W]; rfl)
    have x12 := cell_regrown (w := W) (a := ⟨w.heap.size, 12, none⟩) (v := .int .i64 ai) (by rw [cell_of_row _ _ _ _ _ _ hA_W]; rfl)
    have x13 := cell_regrown (w := W) (a := ⟨w.heap.size, 13, none⟩) (v := .int .i64 et) (by rw [cell_of_row _ _ _ _ _ _ hA_W]; rfl)
    have x14 := cell_regrown (w := W) (a := ⟨w.heap.size, 14, none⟩) (v := .int .i64 er) (by rw [cell_of_row _ _ _ _ _ _ hA_W]; rfl)
    have x15 := cell_regrown (w := W) (a := ⟨w.heap.size, 15, none⟩) (v := .int .i64 ei) (by rw [cell_of_row _ _ _ _ _ _ hA_W]; rfl)
    have x16 := cell_regrown (w := W) (a := ⟨w.heap.size, 16, none⟩) (v := .string text) (by rw [cell_of_row _ _ _ _ _ _ hA_W]; rfl)
    have x17 := cell_regrown (w := W) (a := ⟨w.heap.size, 17, none⟩) (v := .slice eA en ec) (by rw [cell_of_row _ _ _ _ _ _ hA_W]; rfl)
    clear hA_W
    have c_pn := fun d os => Calls.regrown_of (refnone_any pt pr pi (grow (redrawn W d) os))
    rw [h_pn] at c_pn
    clear h_pn
    go_enter Tryz.func119, Tryz.ntmps119
    go_upto_region 1 with (fail)
    rw [← HW.out]
    refine wp_plain_quiet_below ?_
    repeat (any_goals (first | go_big_quiet_step (first | with_reducible exact c_pn _ _) | quiet_step (first | with_reducible exact c_pn _ _)))
    refine wpQuiet_nil ?_
    intro _ hw'
    obtain ⟨⟨dq, osq⟩, hw''⟩ := hw'
    subst hw''
    have hBq := below_regrown W dq osq
    generalize grow (redrawn W dq) osq = wq at *
    go_wp2
    go_ret
    exact ⟨rfl, hBW.trans (hBq.mono hBW.size)⟩
  | true =>
  by_cases h_nm0 : name.data.toList = []
  rotate_left
  · have h_nm : decide (name.data.toList = []) = false := decide_eq_false h_nm0
    obtain rfl : ans = false := by rw [HV.out]; simp only [h_pn, h_nm, Bool.and_false, Bool.false_and, Bool.and_true, Bool.true_and]
    have s_nm : name.toList.isEmpty = false := by rw [ByteArray.toList_eq]; cases e : name.data.toList with
      | nil => exact absurd e h_nm0
      | cons a l => rfl
    have hA_W : W.heap[w.heap.size]? = some (.cells #[.int .i64 k, .int .i64 nt, .int .i64 nr, .int .i64 ni, .int .i64 pt, .int .i64 pr, .int .i64 pi, .string name, .bool dir, .slice dA dn dc, .int .i64 at_, .int .i64 ar, .int .i64 ai, .int .i64 et, .int .i64 er, .int .i64 ei, .string text, .slice eA en ec] 70 (0, 0)) := HA.out
    have x4 := cell_regrown (w := W) (a := ⟨w.heap.size, 4, none⟩) (v := .int .i64 pt) (by rw [cell_of_row _ _ _ _ _ _ hA_W]; rfl)
    have x5 := cell_regrown (w := W) (a := ⟨w.heap.size, 5, none⟩) (v := .int .i64 pr) (by rw [cell_of_row _ _ _ _ _ _ hA_W]; rfl)
    have x6 := cell_regrown (w := W) (a := ⟨w.heap.size, 6, none⟩) (v := .int .i64 pi) (by rw [cell_of_row _ _ _ _ _ _ hA_W]; rfl)
    have x7 := cell_regrown (w := W) (a := ⟨w.heap.size, 7, none⟩) (v := .string name) (by rw [cell_of_row _ _ _ _ _ _ hA_W]; rfl)
    have x8 := cell_regrown (w := W) (a := ⟨w.heap.size, 8, none⟩) (v := .bool dir) (by rw [cell_of_row _ _ _ _ _ _ hA_W]; rfl)
    have x9 := cell_regrown (w := W) (a := ⟨w.heap.size, 9, none⟩) (v := .slice dA dn dc) (by rw [cell_of_row _ _ _ _ _ _ hA_W]; rfl)
    have x10 := cell_regrown (w := W) (a := ⟨w.heap.size, 10, none⟩) (v := .int .i64 at_) (by rw [cell_of_row _ _ _ _ _ _ hA_W]; rfl)
    have x11 := cell_regrown (w := W) (a := ⟨w.heap.size, 11, none⟩) (v := .int .i64 ar) (by rw [cell_of_row _ _ _ _ _ _ hA_W]; rfl)
    have x12 := cell_regrown (w := W) (a := ⟨w.heap.size, 12, none⟩) (v := .int .i64 ai) (by rw [cell_of_row _ _ _ _ _ _ hA_W]; rfl)
    have x13 := cell_regrown (w := W) (a := ⟨w.heap.size, 13, none⟩) (v := .int .i64 et) (by rw [cell_of_row _ _ _ _ _ _ hA_W]; rfl)
    have x14 := cell_regrown (w := W) (a := ⟨w.heap.size, 14, none⟩) (v := .int .i64 er) (by rw [cell_of_row _ _ _ _ _ _ hA_W]; rfl)
    have x15 := cell_regrown (w := W) (a := ⟨w.heap.size, 15, none⟩) (v := .int .i64 ei) (by rw [cell_of_row _ _ _ _ _ _ hA_W]; rfl)
    have x16 := cell_regrown (w := W) (a := ⟨w.heap.size, 16, none⟩) (v := .string text) (by rw [cell_of_row _ _ _ _ _ _ hA_W]; rfl)
    have x17 := cell_regrown (w := W) (a := ⟨w.heap.size, 17, none⟩) (v := .slice eA en ec) (by rw [cell_of_row _ _ _ _ _ _ hA_W]; rfl)
    clear hA_W
    have c_pn := fun d os => Calls.regrown_of (refnone_any pt pr pi (grow (redrawn W d) os))
    rw [h_pn] at c_pn
    clear h_pn h_nm h_nm0
    go_enter Tryz.func119, Tryz.ntmps119
    go_upto_region 1 with (fail)
    rw [← HW.out]
    refine wp_plain_quiet_below ?_
    repeat (any_goals (first | go_big_quiet_step (first | with_reducible exact c_pn _ _) | quiet_step (first | with_reducible exact c_pn _ _)))
    refine wpQuiet_nil ?_
    intro _ hw'
    obtain ⟨⟨dq, osq⟩, hw''⟩ := hw'
    subst hw''
    have hBq := below_regrown W dq osq
    generalize grow (redrawn W dq) osq = wq at *
    go_wp2
    go_ret
    exact ⟨rfl, hBW.trans (hBq.mono hBW.size)⟩
  have h_nm : decide (name.data.toList = []) = true := decide_eq_true h_nm0
  cases h_d : (!dir) with
  | false =>
    obtain rfl : ans = false := by rw [HV.out]; simp only [h_pn, h_nm, h_d, Bool.and_false, Bool.false_and, Bool.and_true, Bool.true_and]
    obtain rfl := bs_nil.1 h_nm0
    obtain rfl : dir = true := by simpa using h_d
    have hA_W : W.heap[w.heap.size]? = some (.cells #[.int .i64 k, .int .i64 nt, .int .i64 nr, .int .i64 ni, .int .i64 pt, .int .i64 pr, .int .i64 pi, .string ⟨#[]⟩, .bool true, .slice dA dn dc, .int .i64 at_, .int .i64 ar, .int .i64 ai, .int .i64 et, .int .i64 er, .int .i64 ei, .string text, .slice eA en ec] 70 (0, 0)) := HA.out
    have x4 := cell_regrown (w := W) (a := ⟨w.heap.size, 4, none⟩) (v := .int .i64 pt) (by rw [cell_of_row _ _ _ _ _ _ hA_W]; rfl)
    have x5 := cell_regrown (w := W) (a := ⟨w.heap.size, 5, none⟩) (v := .int .i64 pr) (by rw [cell_of_row _ _ _ _ _ _ hA_W]; rfl)
    have x6 := cell_regrown (w := W) (a := ⟨w.heap.size, 6, none⟩) (v := .int .i64 pi) (by rw [cell_of_row _ _ _ _ _ _ hA_W]; rfl)
    have x7 := cell_regrown (w := W) (a := ⟨w.heap.size, 7, none⟩) (v := .string ⟨#[]⟩) (by rw [cell_of_row _ _ _ _ _ _ hA_W]; rfl)
    have x8 := cell_regrown (w := W) (a := ⟨w.heap.size, 8, none⟩) (v := .bool true) (by rw [cell_of_row _ _ _ _ _ _ hA_W]; rfl)
    have x9 := cell_regrown (w := W) (a := ⟨w.heap.size, 9, none⟩) (v := .slice dA dn dc) (by rw [cell_of_row _ _ _ _ _ _ hA_W]; rfl)
    have x10 := cell_regrown (w := W) (a := ⟨w.heap.size, 10, none⟩) (v := .int .i64 at_) (by rw [cell_of_row _ _ _ _ _ _ hA_W]; rfl)
    have x11 := cell_regrown (w := W) (a := ⟨w.heap.size, 11, none⟩) (v := .int .i64 ar) (by rw [cell_of_row _ _ _ _ _ _ hA_W]; rfl)
    have x12 := cell_regrown (w := W) (a := ⟨w.heap.size, 12, none⟩) (v := .int .i64 ai) (by rw [cell_of_row _ _ _ _ _ _ hA_W]; rfl)
    have x13 := cell_regrown (w := W) (a := ⟨w.heap.size, 13, none⟩) (v := .int .i64 et) (by rw [cell_of_row _ _ _ _ _ _ hA_W]; rfl)
    have x14 := cell_regrown (w := W) (a := ⟨w.heap.size, 14, none⟩) (v := .int .i64 er) (by rw [cell_of_row _ _ _ _ _ _ hA_W]; rfl)
    have x15 := cell_regrown (w := W) (a := ⟨w.heap.size, 15, none⟩) (v := .int .i64 ei) (by rw [cell_of_row _ _ _ _ _ _ hA_W]; rfl)
    have x16 := cell_regrown (w := W) (a := ⟨w.heap.size, 16, none⟩) (v := .string text) (by rw [cell_of_row _ _ _ _ _ _ hA_W]; rfl)
    have x17 := cell_regrown (w := W) (a := ⟨w.heap.size, 17, none⟩) (v := .slice eA en ec) (by rw [cell_of_row _ _ _ _ _ _ hA_W]; rfl)
    clear hA_W
    have c_pn := fun d os => Calls.regrown_of (refnone_any pt pr pi (grow (redrawn W d) os))
    rw [h_pn] at c_pn
    clear h_pn h_nm h_d h_nm0
    go_enter Tryz.func119, Tryz.ntmps119
    go_upto_region 1 with (fail)
    rw [← HW.out]
    refine wp_plain_quiet_below ?_
    repeat (any_goals (first | go_big_quiet_step (first | with_reducible exact c_pn _ _) | quiet_step (first | with_reducible exact c_pn _ _)))
    refine wpQuiet_nil ?_
    intro _ hw'
    obtain ⟨⟨dq, osq⟩, hw''⟩ := hw'
    subst hw''
    have hBq := below_regrown W dq osq
    generalize grow (redrawn W dq) osq = wq at *
    go_wp2
    go_ret
    exact ⟨rfl, hBW.trans (hBq.mono hBW.size)⟩
  | true =>
  by_cases h_dl0 : dn = 0
  rotate_left
  · have h_dl : decide (dn = 0) = false := decide_eq_false h_dl0
    obtain rfl : ans = false := by rw [HV.out]; simp only [h_pn, h_nm, h_d, h_dl, Bool.and_false, Bool.false_and, Bool.and_true, Bool.true_and]
    obtain rfl := bs_nil.1 h_nm0
    obtain rfl : dir = false := by simpa using h_d
    have s_dl : decide (0 < dn) = true := decide_eq_true (by omega)
    have hA_W : W.heap[w.heap.size]? = some (.cells #[.int .i64 k, .int .i64 nt, .int .i64 nr, .int .i64 ni, .int .i64 pt, .int .i64 pr, .int .i64 pi, .string ⟨#[]⟩, .bool false, .slice dA dn dc, .int .i64 at_, .int .i64 ar, .int .i64 ai, .int .i64 et, .int .i64 er, .int .i64 ei, .string text, .slice eA en ec] 70 (0, 0)) := HA.out
    have x4 := cell_regrown (w := W) (a := ⟨w.heap.size, 4, none⟩) (v := .int .i64 pt) (by rw [cell_of_row _ _ _ _ _ _ hA_W]; rfl)
    have x5 := cell_regrown (w := W) (a := ⟨w.heap.size, 5, none⟩) (v := .int .i64 pr) (by rw [cell_of_row _ _ _ _ _ _ hA_W]; rfl)
    have x6 := cell_regrown (w := W) (a := ⟨w.heap.size, 6, none⟩) (v := .int .i64 pi) (by rw [cell_of_row _ _ _ _ _ _ hA_W]; rfl)
    have x7 := cell_regrown (w := W) (a := ⟨w.heap.size, 7, none⟩) (v := .string ⟨#[]⟩) (by rw [cell_of_row _ _ _ _ _ _ hA_W]; rfl)
    have x8 := cell_regrown (w := W) (a := ⟨w.heap.size, 8, none⟩) (v := .bool false) (by rw [cell_of_row _ _ _ _ _ _ hA_W]; rfl)
    have x9 := cell_regrown (w := W) (a := ⟨w.heap.size, 9, none⟩) (v := .slice dA dn dc) (by rw [cell_of_row _ _ _ _ _ _ hA_W]; rfl)
    have x10 := cell_regrown (w := W) (a := ⟨w.heap.size, 10, none⟩) (v := .int .i64 at_) (by rw [cell_of_row _ _ _ _ _ _ hA_W]; rfl)
    have x11 := cell_regrown (w := W) (a := ⟨w.heap.size, 11, none⟩) (v := .int .i64 ar) (by rw [cell_of_row _ _ _ _ _ _ hA_W]; rfl)
    have x12 := cell_regrown (w := W) (a := ⟨w.heap.size, 12, none⟩) (v := .int .i64 ai) (by rw [cell_of_row _ _ _ _ _ _ hA_W]; rfl)
    have x13 := cell_regrown (w := W) (a := ⟨w.heap.size, 13, none⟩) (v := .int .i64 et) (by rw [cell_of_row _ _ _ _ _ _ hA_W]; rfl)
    have x14 := cell_regrown (w := W) (a := ⟨w.heap.size, 14, none⟩) (v := .int .i64 er) (by rw [cell_of_row _ _ _ _ _ _ hA_W]; rfl)
    have x15 := cell_regrown (w := W) (a := ⟨w.heap.size, 15, none⟩) (v := .int .i64 ei) (by rw [cell_of_row _ _ _ _ _ _ hA_W]; rfl)
    have x16 := cell_regrown (w := W) (a := ⟨w.heap.size, 16, none⟩) (v := .string text) (by rw [cell_of_row _ _ _ _ _ _ hA_W]; rfl)
    have x17 := cell_regrown (w := W) (a := ⟨w.heap.size, 17, none⟩) (v := .slice eA en ec) (by rw [cell_of_row _ _ _ _ _ _ hA_W]; rfl)
    clear hA_W
    have c_pn := fun d os => Calls.regrown_of (refnone_any pt pr pi (grow (redrawn W d) os))
    rw [h_pn] at c_pn
    clear h_pn h_nm h_d h_nm0 h_dl0 h_dl
    go_enter Tryz.func119, Tryz.ntmps119
    go_upto_region 1 with (fail)
    rw [← HW.out]
    refine wp_plain_quiet_below ?_
    repeat (any_goals (first | go_big_quiet_step (first | with_reducible exact c_pn _ _) | quiet_step (first | with_reducible exact c_pn _ _)))
    refine wpQuiet_nil ?_
    intro _ hw'
    obtain ⟨⟨dq, osq⟩, hw''⟩ := hw'
    subst hw''
    have hBq := below_regrown W dq osq
    generalize grow (redrawn W dq) osq = wq at *
    go_wp2
    go_ret
    exact ⟨rfl, hBW.trans (hBq.mono hBW.size)⟩
  have h_dl : decide (dn = 0) = true := decide_eq_true h_dl0
  by_cases h_el0 : en = 0
  rotate_left
  · have h_el : decide (en = 0) = false := decide_eq_false h_el0
    obtain rfl : ans = false := by rw [HV.out]; simp only [h_pn, h_nm, h_d, h_dl, h_el, Bool.and_false, Bool.false_and, Bool.and_true, Bool.true_and]
    obtain rfl := bs_nil.1 h_nm0
    obtain rfl : dir = false := by simpa using h_d
    have s_dl : decide (0 < dn) = false := decide_eq_false (by omega)
    have s_el : ((en : Int) == 0) = false := by rw [beq_eq_false_iff_ne]; omega
    have s_el2 : decide (en = 0) = false := decide_eq_false h_el0
    have hA_W : W.heap[w.heap.size]? = some (.cells #[.int .i64 k, .int .i64 nt, .int .i64 nr, .int .i64 ni, .int .i64 pt, .int .i64 pr, .int .i64 pi, .string ⟨#[]⟩, .bool false, .slice dA dn dc, .int .i64 at_, .int .i64 ar, .int .i64 ai, .int .i64 et, .int .i64 er, .int .i64 ei, .string text, .slice eA en ec] 70 (0, 0)) := HA.out
    have x4 := cell_regrown (w := W) (a := ⟨w.heap.size, 4, none⟩) (v := .int .i64 pt) (by rw [cell_of_row _ _ _ _ _ _ hA_W]; rfl)
    have x5 := cell_regrown (w := W) (a := ⟨w.heap.size, 5, none⟩) (v := .int .i64 pr) (by rw [cell_of_row _ _ _ _ _ _ hA_W]; rfl)
    have x6 := cell_regrown (w := W) (a := ⟨w.heap.size, 6, none⟩) (v := .int .i64 pi) (by rw [cell_of_row _ _ _ _ _ _ hA_W]; rfl)
    have x7 := cell_regrown (w := W) (a := ⟨w.heap.size, 7, none⟩) (v := .string ⟨#[]⟩) (by rw [cell_of_row _ _ _ _ _ _ hA_W]; rfl)
    have x8 := cell_regrown (w := W) (a := ⟨w.heap.size, 8, none⟩) (v := .bool false) (by rw [cell_of_row _ _ _ _ _ _ hA_W]; rfl)
    have x9 := cell_regrown (w := W) (a := ⟨w.heap.size, 9, none⟩) (v := .slice dA dn dc) (by rw [cell_of_row _ _ _ _ _ _ hA_W]; rfl)
    have x10 := cell_regrown (w := W) (a := ⟨w.heap.size, 10, none⟩) (v := .int .i64 at_) (by rw [cell_of_row _ _ _ _ _ _ hA_W]; rfl)
    have x11 := cell_regrown (w := W) (a := ⟨w.heap.size, 11, none⟩) (v := .int .i64 ar) (by rw [cell_of_row _ _ _ _ _ _ hA_W]; rfl)
    have x12 := cell_regrown (w := W) (a := ⟨w.heap.size, 12, none⟩) (v := .int .i64 ai) (by rw [cell_of_row _ _ _ _ _ _ hA_W]; rfl)
    have x13 := cell_regrown (w := W) (a := ⟨w.heap.size, 13, none⟩) (v := .int .i64 et) (by rw [cell_of_row _ _ _ _ _ _ hA_W]; rfl)
    have x14 := cell_regrown (w := W) (a := ⟨w.heap.size, 14, none⟩) (v := .int .i64 er) (by rw [cell_of_row _ _ _ _ _ _ hA_W]; rfl)
    have x15 := cell_regrown (w := W) (a := ⟨w.heap.size, 15, none⟩) (v := .int .i64 ei) (by rw [cell_of_row _ _ _ _ _ _ hA_W]; rfl)
    have x16 := cell_regrown (w := W) (a := ⟨w.heap.size, 16, none⟩) (v := .string text) (by rw [cell_of_row _ _ _ _ _ _ hA_W]; rfl)
    have x17 := cell_regrown (w := W) (a := ⟨w.heap.size, 17, none⟩) (v := .slice eA en ec) (by rw [cell_of_row _ _ _ _ _ _ hA_W]; rfl)
    clear hA_W
    have c_pn := fun d os => Calls.regrown_of (refnone_any pt pr pi (grow (redrawn W d) os))
    rw [h_pn] at c_pn
    clear h_pn h_nm h_d h_nm0 h_dl0 h_el0 h_dl h_el
    go_enter Tryz.func119, Tryz.ntmps119
    go_upto_region 1 with (fail)
    rw [← HW.out]
    refine wp_plain_quiet_below ?_
    repeat (any_goals (first | go_big_quiet_step (first | with_reducible exact c_pn _ _) | quiet_step (first | with_reducible exact c_pn _ _)))
    refine wpQuiet_nil ?_
    intro _ hw'
    obtain ⟨⟨dq, osq⟩, hw''⟩ := hw'
    subst hw''
    have hBq := below_regrown W dq osq
    generalize grow (redrawn W dq) osq = wq at *
    have hB1 := hBW.trans (hBq.mono hBW.size)
    have hA1 := (hBq.block _ hlt).trans HA.out
    have HA1 := Lib.hid hA1
    clear hA1 hBq x4 x5 x6 x7 x8 x9 x10 x11 x12 x13 x14 x15 x16 x17 c_pn
    obtain ⟨W1, hW1⟩ : ∃ W1, W1 = wq := ⟨_, rfl⟩
    rw [← hW1] at hB1 HA1 ⊢
    clear hW1
    go_upto_region 3 with (fail)
    have hA_W1 : W1.heap[w.heap.size]? = some (.cells #[.int .i64 k, .int .i64 nt, .int .i64 nr, .int .i64 ni, .int .i64 pt, .int .i64 pr, .int .i64 pi, .string ⟨#[]⟩, .bool false, .slice dA dn dc, .int .i64 at_, .int .i64 ar, .int .i64 ai, .int .i64 et, .int .i64 er, .int .i64 ei, .string text, .slice eA en ec] 70 (0, 0)) := HA1.out
    have x4 := cell_regrown (w := W1) (a := ⟨w.heap.size, 4, none⟩) (v := .int .i64 pt) (by rw [cell_of_row _ _ _ _ _ _ hA_W1]; rfl)
    have x5 := cell_regrown (w := W1) (a := ⟨w.heap.size, 5, none⟩) (v := .int .i64 pr) (by rw [cell_of_row _ _ _ _ _ _ hA_W1]; rfl)
    have x6 := cell_regrown (w := W1) (a := ⟨w.heap.size, 6, none⟩) (v := .int .i64 pi) (by rw [cell_of_row _ _ _ _ _ _ hA_W1]; rfl)
    have x7 := cell_regrown (w := W1) (a := ⟨w.heap.size, 7, none⟩) (v := .string ⟨#[]⟩) (by rw [cell_of_row _ _ _ _ _ _ hA_W1]; rfl)
    have x8 := cell_regrown (w := W1) (a := ⟨w.heap.size, 8, none⟩) (v := .bool false) (by rw [cell_of_row _ _ _ _ _ _ hA_W1]; rfl)
    have x9 := cell_regrown (w := W1) (a := ⟨w.heap.size, 9, none⟩) (v := .slice dA dn dc) (by rw [cell_of_row _ _ _ _ _ _ hA_W1]; rfl)
    have x10 := cell_regrown (w := W1) (a := ⟨w.heap.size, 10, none⟩) (v := .int .i64 at_) (by rw [cell_of_row _ _ _ _ _ _ hA_W1]; rfl)
    have x11 := cell_regrown (w := W1) (a := ⟨w.heap.size, 11, none⟩) (v := .int .i64 ar) (by rw [cell_of_row _ _ _ _ _ _ hA_W1]; rfl)
    have x12 := cell_regrown (w := W1) (a := ⟨w.heap.size, 12, none⟩) (v := .int .i64 ai) (by rw [cell_of_row _ _ _ _ _ _ hA_W1]; rfl)
    have x13 := cell_regrown (w := W1) (a := ⟨w.heap.size, 13, none⟩) (v := .int .i64 et) (by rw [cell_of_row _ _ _ _ _ _ hA_W1]; rfl)
    have x14 := cell_regrown (w := W1) (a := ⟨w.heap.size, 14, none⟩) (v := .int .i64 er) (by rw [cell_of_row _ _ _ _ _ _ hA_W1]; rfl)
    have x15 := cell_regrown (w := W1) (a := ⟨w.heap.size, 15, none⟩) (v := .int .i64 ei) (by rw [cell_of_row _ _ _ _ _ _ hA_W1]; rfl)
    have x16 := cell_regrown (w := W1) (a := ⟨w.heap.size, 16, none⟩) (v := .string text) (by rw [cell_of_row _ _ _ _ _ _ hA_W1]; rfl)
    have x17 := cell_regrown (w := W1) (a := ⟨w.heap.size, 17, none⟩) (v := .slice eA en ec) (by rw [cell_of_row _ _ _ _ _ _ hA_W1]; rfl)
    clear hA_W1
    refine wp_plain_quiet_below ?_
    repeat (any_goals (first | go_big_quiet_step (fail) | quiet_step (fail)))
    refine wpQuiet_nil ?_
    intro _ hw'
    obtain ⟨⟨dq, osq⟩, hw''⟩ := hw'
    subst hw''
    have hBq := below_regrown W1 dq osq
    generalize grow (redrawn W1 dq) osq = wq at *
    go_wp2
    go_ret
    exact ⟨rfl, hB1.trans (hBq.mono hB1.size)⟩
  have h_el : decide (en = 0) = true := decide_eq_true h_el0
  obtain rfl : ans = true := by rw [HV.out]; simp only [h_pn, h_nm, h_d, h_dl, h_el, Bool.and_false, Bool.false_and, Bool.and_true, Bool.true_and]
  obtain rfl := bs_nil.1 h_nm0
  obtain rfl : dir = false := by simpa using h_d
  have s_dl : decide (0 < dn) = false := decide_eq_false (by omega)
  have s_el : ((en : Int) == 0) = true := by rw [beq_iff_eq]; omega
  have s_el2 : decide (en = 0) = true := decide_eq_true h_el0
  have hA_W : W.heap[w.heap.size]? = some (.cells #[.int .i64 k, .int .i64 nt, .int .i64 nr, .int .i64 ni, .int .i64 pt, .int .i64 pr, .int .i64 pi, .string ⟨#[]⟩, .bool false, .slice dA dn dc, .int .i64 at_, .int .i64 ar, .int .i64 ai, .int .i64 et, .int .i64 er, .int .i64 ei, .string text, .slice eA en ec] 70 (0, 0)) := HA.out
  have x4 := cell_regrown (w := W) (a := ⟨w.heap.size, 4, none⟩) (v := .int .i64 pt) (by rw [cell_of_row _ _ _ _ _ _ hA_W]; rfl)
  have x5 := cell_regrown (w := W) (a := ⟨w.heap.size, 5, none⟩) (v := .int .i64 pr) (by rw [cell_of_row _ _ _ _ _ _ hA_W]; rfl)
  have x6 := cell_regrown (w := W) (a := ⟨w.heap.size, 6, none⟩) (v := .int .i64 pi) (by rw [cell_of_row _ _ _ _ _ _ hA_W]; rfl)
  have x7 := cell_regrown (w := W) (a := ⟨w.heap.size, 7, none⟩) (v := .string ⟨#[]⟩) (by rw [cell_of_row _ _ _ _ _ _ hA_W]; rfl)
  have x8 := cell_regrown (w := W) (a := ⟨w.heap.size, 8, none⟩) (v := .bool false) (by rw [cell_of_row _ _ _ _ _ _ hA_W]; rfl)
  have x9 := cell_regrown (w := W) (a := ⟨w.heap.size, 9, none⟩) (v := .slice dA dn dc) (by rw [cell_of_row _ _ _ _ _ _ hA_W]; rfl)
  have x10 := cell_regrown (w := W) (a := ⟨w.heap.size, 10, none⟩) (v := .int .i64 at_) (by rw [cell_of_row _ _ _ _ _ _ hA_W]; rfl)
  have x11 := cell_regrown (w := W) (a := ⟨w.heap.size, 11, none⟩) (v := .int .i64 ar) (by rw [cell_of_row _ _ _ _ _ _ hA_W]; rfl)
  have x12 := cell_regrown (w := W) (a := ⟨w.heap.size, 12, none⟩) (v := .int .i64 ai) (by rw [cell_of_row _ _ _ _ _ _ hA_W]; rfl)
  have x13 := cell_regrown (w := W) (a := ⟨w.heap.size, 13, none⟩) (v := .int .i64 et) (by rw [cell_of_row _ _ _ _ _ _ hA_W]; rfl)
  have x14 := cell_regrown (w := W) (a := ⟨w.heap.size, 14, none⟩) (v := .int .i64 er) (by rw [cell_of_row _ _ _ _ _ _ hA_W]; rfl)
  have x15 := cell_regrown (w := W) (a := ⟨w.heap.size, 15, none⟩) (v := .int .i64 ei) (by rw [cell_of_row _ _ _ _ _ _ hA_W]; rfl)
  have x16 := cell_regrown (w := W) (a := ⟨w.heap.size, 16, none⟩) (v := .string text) (by rw [cell_of_row _ _ _ _ _ _ hA_W]; rfl)
  have x17 := cell_regrown (w := W) (a := ⟨w.heap.size, 17, none⟩) (v := .slice eA en ec) (by rw [cell_of_row _ _ _ _ _ _ hA_W]; rfl)
  clear hA_W
  have c_pn := fun d os => Calls.regrown_of (refnone_any pt pr pi (grow (redrawn W d) os))
  rw [h_pn] at c_pn
  clear h_pn h_nm h_d h_nm0 h_dl0 h_el0 h_dl h_el
  go_enter Tryz.func119, Tryz.ntmps119
  go_upto_region 1 with (fail)
  rw [← HW.out]
  refine wp_plain_quiet_below ?_
  repeat (any_goals (first | go_big_quiet_step (first | with_reducible exact c_pn _ _) | quiet_step (first | with_reducible exact c_pn _ _)))
  refine wpQuiet_nil ?_
  intro _ hw'
  obtain ⟨⟨dq, osq⟩, hw''⟩ := hw'
  subst hw''
  have hBq := below_regrown W dq osq
  generalize grow (redrawn W dq) osq = wq at *
  have hB1 := hBW.trans (hBq.mono hBW.size)
  have hA1 := (hBq.block _ hlt).trans HA.out
  have HA1 := Lib.hid hA1
  clear hA1 hBq x4 x5 x6 x7 x8 x9 x10 x11 x12 x13 x14 x15 x16 x17 c_pn
  obtain ⟨W1, hW1⟩ : ∃ W1, W1 = wq := ⟨_, rfl⟩
  rw [← hW1] at hB1 HA1 ⊢
  clear hW1
  go_upto_region 3 with (fail)
  have hA_W1 : W1.heap[w.heap.size]? = some (.cells #[.int .i64 k, .int .i64 nt, .int .i64 nr, .int .i64 ni, .int .i64 pt, .int .i64 pr, .int .i64 pi, .string ⟨#[]⟩, .bool false, .slice dA dn dc, .int .i64 at_, .int .i64 ar, .int .i64 ai, .int .i64 et, .int .i64 er, .int .i64 ei, .string text, .slice eA en ec] 70 (0, 0)) := HA1.out
  have x4 := cell_regrown (w := W1) (a := ⟨w.heap.size, 4, none⟩) (v := .int .i64 pt) (by rw [cell_of_row _ _ _ _ _ _ hA_W1]; rfl)
  have x5 := cell_regrown (w := W1) (a := ⟨w.heap.size, 5, none⟩) (v := .int .i64 pr) (by rw [cell_of_row _ _ _ _ _ _ hA_W1]; rfl)
  have x6 := cell_regrown (w := W1) (a := ⟨w.heap.size, 6, none⟩) (v := .int .i64 pi) (by rw [cell_of_row _ _ _ _ _ _ hA_W1]; rfl)
  have x7 := cell_regrown (w := W1) (a := ⟨w.heap.size, 7, none⟩) (v := .string ⟨#[]⟩) (by rw [cell_of_row _ _ _ _ _ _ hA_W1]; rfl)
  have x8 := cell_regrown (w := W1) (a := ⟨w.heap.size, 8, none⟩) (v := .bool false) (by rw [cell_of_row _ _ _ _ _ _ hA_W1]; rfl)
  have x9 := cell_regrown (w := W1) (a := ⟨w.heap.size, 9, none⟩) (v := .slice dA dn dc) (by rw [cell_of_row _ _ _ _ _ _ hA_W1]; rfl)
  have x10 := cell_regrown (w := W1) (a := ⟨w.heap.size, 10, none⟩) (v := .int .i64 at_) (by rw [cell_of_row _ _ _ _ _ _ hA_W1]; rfl)
  have x11 := cell_regrown (w := W1) (a := ⟨w.heap.size, 11, none⟩) (v := .int .i64 ar) (by rw [cell_of_row _ _ _ _ _ _ hA_W1]; rfl)
  have x12 := cell_regrown (w := W1) (a := ⟨w.heap.size, 12, none⟩) (v := .int .i64 ai) (by rw [cell_of_row _ _ _ _ _ _ hA_W1]; rfl)
  have x13 := cell_regrown (w := W1) (a := ⟨w.heap.size, 13, none⟩) (v := .int .i64 et) (by rw [cell_of_row _ _ _ _ _ _ hA_W1]; rfl)
  have x14 := cell_regrown (w := W1) (a := ⟨w.heap.size, 14, none⟩) (v := .int .i64 er) (by rw [cell_of_row _ _ _ _ _ _ hA_W1]; rfl)
  have x15 := cell_regrown (w := W1) (a := ⟨w.heap.size, 15, none⟩) (v := .int .i64 ei) (by rw [cell_of_row _ _ _ _ _ _ hA_W1]; rfl)
  have x16 := cell_regrown (w := W1) (a := ⟨w.heap.size, 16, none⟩) (v := .string text) (by rw [cell_of_row _ _ _ _ _ _ hA_W1]; rfl)
  have x17 := cell_regrown (w := W1) (a := ⟨w.heap.size, 17, none⟩) (v := .slice eA en ec) (by rw [cell_of_row _ _ _ _ _ _ hA_W1]; rfl)
  clear hA_W1
  refine wp_plain_quiet_below ?_
  repeat (any_goals (first | go_big_quiet_step (fail) | quiet_step (fail)))
  refine wpQuiet_nil ?_
  intro _ hw'
  obtain ⟨⟨dq, osq⟩, hw''⟩ := hw'
  subst hw''
  have hBq := below_regrown W1 dq osq
  generalize grow (redrawn W1 dq) osq = wq at *
  go_wp2
  go_ret
  exact ⟨rfl, hB1.trans (hBq.mono hB1.size)⟩
set_option maxRecDepth 100000 in
set_option maxHeartbeats 8000000 in
theorem refbare_4 (k nt nr ni pt pr pi : Int) (name : ByteArray) (dir : Bool) (dA : Option Addr) (dn dc : Nat) (at_ ar ai et er ei : Int) (text : ByteArray) (eA : Option Addr) (en ec : Nat) (w : World) :
    Calls Tryz.prog 119 #[.agg #[.int .i64 k, .int .i64 nt, .int .i64 nr, .int .i64 ni, .int .i64 pt, .int .i64 pr, .int .i64 pi, .string name, .bool dir, .slice dA dn dc, .int .i64 at_, .int .i64 ar, .int .i64 ai, .int .i64 et, .int .i64 er, .int .i64 ei, .string text, .slice eA en ec], .bool false, .bool false, .bool false, .bool false, .bool true] w fun e w' => e = .returned (.bool ((Gid.none ⟨⟨pt, pr⟩, pi⟩) && (decide (name.data.toList = [])) && (!dir) && (decide (dn = 0)) && (Gid.none ⟨⟨at_, ar⟩, ai⟩) && (Gid.none ⟨⟨et, er⟩, ei⟩) && (decide (text.data.toList = [])))) ∧ Below w.heap.size w w' := by
  obtain ⟨ans, ha⟩ : ∃ a, a = ((Gid.none ⟨⟨pt, pr⟩, pi⟩) && (decide (name.data.toList = [])) && (!dir) && (decide (dn = 0)) && (Gid.none ⟨⟨at_, ar⟩, ai⟩) && (Gid.none ⟨⟨et, er⟩, ei⟩) && (decide (text.data.toList = []))) := ⟨_, rfl⟩
  rw [← ha]
  have HV := Lib.hid ha
  clear ha
  obtain ⟨W, hW⟩ : ∃ W, W = w.alloc (.cells #[.int .i64 k, .int .i64 nt, .int .i64 nr, .int .i64 ni, .int .i64 pt, .int .i64 pr, .int .i64 pi, .string name, .bool dir, .slice dA dn dc, .int .i64 at_, .int .i64 ar, .int .i64 ai, .int .i64 et, .int .i64 er, .int .i64 ei, .string text, .slice eA en ec] 70) := ⟨_, rfl⟩
  have hBW : Below w.heap.size w W := by subst hW; exact (Below.refl _ _).alloc (Nat.le_refl _) _
  have hA : W.heap[w.heap.size]? = some (.cells #[.int .i64 k, .int .i64 nt, .int .i64 nr, .int .i64 ni, .int .i64 pt, .int .i64 pr, .int .i64 pi, .string name, .bool dir, .slice dA dn dc, .int .i64 at_, .int .i64 ar, .int .i64 ai, .int .i64 et, .int .i64 er, .int .i64 ei, .string text, .slice eA en ec] 70 (0, 0)) := by subst hW; exact heap_alloc_new _ _
  have HW := Lib.hid hW
  have HA := Lib.hid hA
  have hlt : w.heap.size < W.heap.size := by subst hW; simp
  clear hW hA
  cases h_pn : Gid.none ⟨⟨pt, pr⟩, pi⟩ with
  | false =>
    obtain rfl : ans = false := by rw [HV.out]; simp only [h_pn, Bool.and_false, Bool.false_and, Bool.and_true, Bool.true_and]
    have hA_W : W.heap[w.heap.size]? = some (.cells #[.int .i64 k, .int .i64 nt, .int .i64 nr, .int .i64 ni, .int .i64 pt, .int .i64 pr, .int .i64 pi, .string name, .bool dir, .slice dA dn dc, .int .i64 at_, .int .i64 ar, .int .i64 ai, .int .i64 et, .int .i64 er, .int .i64 ei, .string text, .slice eA en ec] 70 (0, 0)) := HA.out
    have x4 := cell_regrown (w := W) (a := ⟨w.heap.size, 4, none⟩) (v := .int .i64 pt) (by rw [cell_of_row _ _ _ _ _ _ hA_W]; rfl)
    have x5 := cell_regrown (w := W) (a := ⟨w.heap.size, 5, none⟩) (v := .int .i64 pr) (by rw [cell_of_row _ _ _ _ _ _ hA_W]; rfl)
    have x6 := cell_regrown (w := W) (a := ⟨w.heap.size, 6, none⟩) (v := .int .i64 pi) (by rw [cell_of_row _ _ _ _ _ _ hA_W]; rfl)
    have x7 := cell_regrown (w := W) (a := ⟨w.heap.size, 7, none⟩) (v := .string name) (by rw [cell_of_row _ _ _ _ _ _ hA_W]; rfl)
    have x8 := cell_regrown (w := W) (a := ⟨w.heap.size, 8, none⟩) (v := .bool dir) (by rw [cell_of_row _ _ _ _ _ _ hA_W]; rfl)
    have x9 := cell_regrown (w := W) (a := ⟨w.heap.size, 9, none⟩) (v := .slice dA dn dc) (by rw [cell_of_row _ _ _ _ _ _ hA_W]; rfl)
    have x10 := cell_regrown (w := W) (a := ⟨w.heap.size, 10, none⟩) (v := .int .i64 at_) (by rw [cell_of_row _ _ _ _ _ _ hA_W]; rfl)
    have x11 := cell_regrown (w := W) (a := ⟨w.heap.size, 11, none⟩) (v := .int .i64 ar) (by rw [cell_of_row _ _ _ _ _ _ hA_W]; rfl)
    have x12 := cell_regrown (w := W) (a := ⟨w.heap.size, 12, none⟩) (v := .int .i64 ai) (by rw [cell_of_row _ _ _ _ _ _ hA_W]; rfl)
    have x13 := cell_regrown (w := W) (a := ⟨w.heap.size, 13, none⟩) (v := .int .i64 et) (by rw [cell_of_row _ _ _ _ _ _ hA_W]; rfl)
    have x14 := cell_regrown (w := W) (a := ⟨w.heap.size, 14, none⟩) (v := .int .i64 er) (by rw [cell_of_row _ _ _ _ _ _ hA_W]; rfl)
    have x15 := cell_regrown (w := W) (a := ⟨w.heap.size, 15, none⟩) (v := .int .i64 ei) (by rw [cell_of_row _ _ _ _ _ _ hA_W]; rfl)
    have x16 := cell_regrown (w := W) (a := ⟨w.heap.size, 16, none⟩) (v := .string text) (by rw [cell_of_row _ _ _ _ _ _ hA_W]; rfl)
    have x17 := cell_regrown (w := W) (a := ⟨w.heap.size, 17, none⟩) (v := .slice eA en ec) (by rw [cell_of_row _ _ _ _ _ _ hA_W]; rfl)
    clear hA_W
    have c_pn := fun d os => Calls.regrown_of (refnone_any pt pr pi (grow (redrawn W d) os))
    rw [h_pn] at c_pn
    clear h_pn
    go_enter Tryz.func119, Tryz.ntmps119
    go_upto_region 1 with (fail)
    rw [← HW.out]
    refine wp_plain_quiet_below ?_
    repeat (any_goals (first | go_big_quiet_step (first | with_reducible exact c_pn _ _) | quiet_step (first | with_reducible exact c_pn _ _)))
    refine wpQuiet_nil ?_
    intro _ hw'
    obtain ⟨⟨dq, osq⟩, hw''⟩ := hw'
    subst hw''
    have hBq := below_regrown W dq osq
    generalize grow (redrawn W dq) osq = wq at *
    go_wp2
    go_ret
    exact ⟨rfl, hBW.trans (hBq.mono hBW.size)⟩
  | true =>
  by_cases h_nm0 : name.data.toList = []
  rotate_left
  · have h_nm : decide (name.data.toList = []) = false := decide_eq_false h_nm0
    obtain rfl : ans = false := by rw [HV.out]; simp only [h_pn, h_nm, Bool.and_false, Bool.false_and, Bool.and_true, Bool.true_and]
    have s_nm : name.toList.isEmpty = false := by rw [ByteArray.toList_eq]; cases e : name.data.toList with
      | nil => exact absurd e h_nm0
      | cons a l => rfl
    have hA_W : W.heap[w.heap.size]? = some (.cells #[.int .i64 k, .int .i64 nt, .int .i64 nr, .int .i64 ni, .int .i64 pt, .int .i64 pr, .int .i64 pi, .string name, .bool dir, .slice dA dn dc, .int .i64 at_, .int .i64 ar, .int .i64 ai, .int .i64 et, .int .i64 er, .int .i64 ei, .string text, .slice eA en ec] 70 (0, 0)) := HA.out
    have x4 := cell_regrown (w := W) (a := ⟨w.heap.size, 4, none⟩) (v := .int .i64 pt) (by rw [cell_of_row _ _ _ _ _ _ hA_W]; rfl)
    have x5 := cell_regrown (w := W) (a := ⟨w.heap.size, 5, none⟩) (v := .int .i64 pr) (by rw [cell_of_row _ _ _ _ _ _ hA_W]; rfl)
    have x6 := cell_regrown (w := W) (a := ⟨w.heap.size, 6, none⟩) (v := .int .i64 pi) (by rw [cell_of_row _ _ _ _ _ _ hA_W]; rfl)
    have x7 := cell_regrown (w := W) (a := ⟨w.heap.size, 7, none⟩) (v := .string name) (by rw [cell_of_row _ _ _ _ _ _ hA_W]; rfl)
    have x8 := cell_regrown (w := W) (a := ⟨w.heap.size, 8, none⟩) (v := .bool dir) (by rw [cell_of_row _ _ _ _ _ _ hA_W]; rfl)
    have x9 := cell_regrown (w := W) (a := ⟨w.heap.size, 9, none⟩) (v := .slice dA dn dc) (by rw [cell_of_row _ _ _ _ _ _ hA_W]; rfl)
    have x10 := cell_regrown (w := W) (a := ⟨w.heap.size, 10, none⟩) (v := .int .i64 at_) (by rw [cell_of_row _ _ _ _ _ _ hA_W]; rfl)
    have x11 := cell_regrown (w := W) (a := ⟨w.heap.size, 11, none⟩) (v := .int .i64 ar) (by rw [cell_of_row _ _ _ _ _ _ hA_W]; rfl)
    have x12 := cell_regrown (w := W) (a := ⟨w.heap.size, 12, none⟩) (v := .int .i64 ai) (by rw [cell_of_row _ _ _ _ _ _ hA_W]; rfl)
    have x13 := cell_regrown (w := W) (a := ⟨w.heap.size, 13, none⟩) (v := .int .i64 et) (by rw [cell_of_row _ _ _ _ _ _ hA_W]; rfl)
    have x14 := cell_regrown (w := W) (a := ⟨w.heap.size, 14, none⟩) (v := .int .i64 er) (by rw [cell_of_row _ _ _ _ _ _ hA_W]; rfl)
    have x15 := cell_regrown (w := W) (a := ⟨w.heap.size, 15, none⟩) (v := .int .i64 ei) (by rw [cell_of_row _ _ _ _ _ _ hA_W]; rfl)
    have x16 := cell_regrown (w := W) (a := ⟨w.heap.size, 16, none⟩) (v := .string text) (by rw [cell_of_row _ _ _ _ _ _ hA_W]; rfl)
    have x17 := cell_regrown (w := W) (a := ⟨w.heap.size, 17, none⟩) (v := .slice eA en ec) (by rw [cell_of_row _ _ _ _ _ _ hA_W]; rfl)
    clear hA_W
    have c_pn := fun d os => Calls.regrown_of (refnone_any pt pr pi (grow (redrawn W d) os))
    rw [h_pn] at c_pn
    clear h_pn h_nm h_nm0
    go_enter Tryz.func119, Tryz.ntmps119
    go_upto_region 1 with (fail)
    rw [← HW.out]
    refine wp_plain_quiet_below ?_
    repeat (any_goals (first | go_big_quiet_step (first | with_reducible exact c_pn _ _) | quiet_step (first | with_reducible exact c_pn _ _)))
    refine wpQuiet_nil ?_
    intro _ hw'
    obtain ⟨⟨dq, osq⟩, hw''⟩ := hw'
    subst hw''
    have hBq := below_regrown W dq osq
    generalize grow (redrawn W dq) osq = wq at *
    go_wp2
    go_ret
    exact ⟨rfl, hBW.trans (hBq.mono hBW.size)⟩
  have h_nm : decide (name.data.toList = []) = true := decide_eq_true h_nm0
  cases h_d : (!dir) with
  | false =>
    obtain rfl : ans = false := by rw [HV.out]; simp only [h_pn, h_nm, h_d, Bool.and_false, Bool.false_and, Bool.and_true, Bool.true_and]
    obtain rfl := bs_nil.1 h_nm0
    obtain rfl : dir = true := by simpa using h_d
    have hA_W : W.heap[w.heap.size]? = some (.cells #[.int .i64 k, .int .i64 nt, .int .i64 nr, .int .i64 ni, .int .i64 pt, .int .i64 pr, .int .i64 pi, .string ⟨#[]⟩, .bool true, .slice dA dn dc, .int .i64 at_, .int .i64 ar, .int .i64 ai, .int .i64 et, .int .i64 er, .int .i64 ei, .string text, .slice eA en ec] 70 (0, 0)) := HA.out
    have x4 := cell_regrown (w := W) (a := ⟨w.heap.size, 4, none⟩) (v := .int .i64 pt) (by rw [cell_of_row _ _ _ _ _ _ hA_W]; rfl)
    have x5 := cell_regrown (w := W) (a := ⟨w.heap.size, 5, none⟩) (v := .int .i64 pr) (by rw [cell_of_row _ _ _ _ _ _ hA_W]; rfl)
    have x6 := cell_regrown (w := W) (a := ⟨w.heap.size, 6, none⟩) (v := .int .i64 pi) (by rw [cell_of_row _ _ _ _ _ _ hA_W]; rfl)
    have x7 := cell_regrown (w := W) (a := ⟨w.heap.size, 7, none⟩) (v := .string ⟨#[]⟩) (by rw [cell_of_row _ _ _ _ _ _ hA_W]; rfl)
    have x8 := cell_regrown (w := W) (a := ⟨w.heap.size, 8, none⟩) (v := .bool true) (by rw [cell_of_row _ _ _ _ _ _ hA_W]; rfl)
    have x9 := cell_regrown (w := W) (a := ⟨w.heap.size, 9, none⟩) (v := .slice dA dn dc) (by rw [cell_of_row _ _ _ _ _ _ hA_W]; rfl)
    have x10 := cell_regrown (w := W) (a := ⟨w.heap.size, 10, none⟩) (v := .int .i64 at_) (by rw [cell_of_row _ _ _ _ _ _ hA_W]; rfl)
    have x11 := cell_regrown (w := W) (a := ⟨w.heap.size, 11, none⟩) (v := .int .i64 ar) (by rw [cell_of_row _ _ _ _ _ _ hA_W]; rfl)
    have x12 := cell_regrown (w := W) (a := ⟨w.heap.size, 12, none⟩) (v := .int .i64 ai) (by rw [cell_of_row _ _ _ _ _ _ hA_W]; rfl)
    have x13 := cell_regrown (w := W) (a := ⟨w.heap.size, 13, none⟩) (v := .int .i64 et) (by rw [cell_of_row _ _ _ _ _ _ hA_W]; rfl)
    have x14 := cell_regrown (w := W) (a := ⟨w.heap.size, 14, none⟩) (v := .int .i64 er) (by rw [cell_of_row _ _ _ _ _ _ hA_W]; rfl)
    have x15 := cell_regrown (w := W) (a := ⟨w.heap.size, 15, none⟩) (v := .int .i64 ei) (by rw [cell_of_row _ _ _ _ _ _ hA_W]; rfl)
    have x16 := cell_regrown (w := W) (a := ⟨w.heap.size, 16, none⟩) (v := .string text) (by rw [cell_of_row _ _ _ _ _ _ hA_W]; rfl)
    have x17 := cell_regrown (w := W) (a := ⟨w.heap.size, 17, none⟩) (v := .slice eA en ec) (by rw [cell_of_row _ _ _ _ _ _ hA_W]; rfl)
    clear hA_W
    have c_pn := fun d os => Calls.regrown_of (refnone_any pt pr pi (grow (redrawn W d) os))
    rw [h_pn] at c_pn
    clear h_pn h_nm h_d h_nm0
    go_enter Tryz.func119, Tryz.ntmps119
    go_upto_region 1 with (fail)
    rw [← HW.out]
    refine wp_plain_quiet_below ?_
    repeat (any_goals (first | go_big_quiet_step (first | with_reducible exact c_pn _ _) | quiet_step (first | with_reducible exact c_pn _ _)))
    refine wpQuiet_nil ?_
    intro _ hw'
    obtain ⟨⟨dq, osq⟩, hw''⟩ := hw'
    subst hw''
    have hBq := below_regrown W dq osq
    generalize grow (redrawn W dq) osq = wq at *
    go_wp2
    go_ret
    exact ⟨rfl, hBW.trans (hBq.mono hBW.size)⟩
  | true =>
  by_cases h_dl0 : dn = 0
  rotate_left
  · have h_dl : decide (dn = 0) = false := decide_eq_false h_dl0
    obtain rfl : ans = false := by rw [HV.out]; simp only [h_pn, h_nm, h_d, h_dl, Bool.and_false, Bool.false_and, Bool.and_true, Bool.true_and]
    obtain rfl := bs_nil.1 h_nm0
    obtain rfl : dir = false := by simpa using h_d
    have s_dl : decide (0 < dn) = true := decide_eq_true (by omega)
    have hA_W : W.heap[w.heap.size]? = some (.cells #[.int .i64 k, .int .i64 nt, .int .i64 nr, .int .i64 ni, .int .i64 pt, .int .i64 pr, .int .i64 pi, .string ⟨#[]⟩, .bool false, .slice dA dn dc, .int .i64 at_, .int .i64 ar, .int .i64 ai, .int .i64 et, .int .i64 er, .int .i64 ei, .string text, .slice eA en ec] 70 (0, 0)) := HA.out
    have x4 := cell_regrown (w := W) (a := ⟨w.heap.size, 4, none⟩) (v := .int .i64 pt) (by rw [cell_of_row _ _ _ _ _ _ hA_W]; rfl)
    have x5 := cell_regrown (w := W) (a := ⟨w.heap.size, 5, none⟩) (v := .int .i64 pr) (by rw [cell_of_row _ _ _ _ _ _ hA_W]; rfl)
    have x6 := cell_regrown (w := W) (a := ⟨w.heap.size, 6, none⟩) (v := .int .i64 pi) (by rw [cell_of_row _ _ _ _ _ _ hA_W]; rfl)
    have x7 := cell_regrown (w := W) (a := ⟨w.heap.size, 7, none⟩) (v := .string ⟨#[]⟩) (by rw [cell_of_row _ _ _ _ _ _ hA_W]; rfl)
    have x8 := cell_regrown (w := W) (a := ⟨w.heap.size, 8, none⟩) (v := .bool false) (by rw [cell_of_row _ _ _ _ _ _ hA_W]; rfl)
    have x9 := cell_regrown (w := W) (a := ⟨w.heap.size, 9, none⟩) (v := .slice dA dn dc) (by rw [cell_of_row _ _ _ _ _ _ hA_W]; rfl)
    have x10 := cell_regrown (w := W) (a := ⟨w.heap.size, 10, none⟩) (v := .int .i64 at_) (by rw [cell_of_row _ _ _ _ _ _ hA_W]; rfl)
    have x11 := cell_regrown (w := W) (a := ⟨w.heap.size, 11, none⟩) (v := .int .i64 ar) (by rw [cell_of_row _ _ _ _ _ _ hA_W]; rfl)
    have x12 := cell_regrown (w := W) (a := ⟨w.heap.size, 12, none⟩) (v := .int .i64 ai) (by rw [cell_of_row _ _ _ _ _ _ hA_W]; rfl)
    have x13 := cell_regrown (w := W) (a := ⟨w.heap.size, 13, none⟩) (v := .int .i64 et) (by rw [cell_of_row _ _ _ _ _ _ hA_W]; rfl)
    have x14 := cell_regrown (w := W) (a := ⟨w.heap.size, 14, none⟩) (v := .int .i64 er) (by rw [cell_of_row _ _ _ _ _ _ hA_W]; rfl)
    have x15 := cell_regrown (w := W) (a := ⟨w.heap.size, 15, none⟩) (v := .int .i64 ei) (by rw [cell_of_row _ _ _ _ _ _ hA_W]; rfl)
    have x16 := cell_regrown (w := W) (a := ⟨w.heap.size, 16, none⟩) (v := .string text) (by rw [cell_of_row _ _ _ _ _ _ hA_W]; rfl)
    have x17 := cell_regrown (w := W) (a := ⟨w.heap.size, 17, none⟩) (v := .slice eA en ec) (by rw [cell_of_row _ _ _ _ _ _ hA_W]; rfl)
    clear hA_W
    have c_pn := fun d os => Calls.regrown_of (refnone_any pt pr pi (grow (redrawn W d) os))
    rw [h_pn] at c_pn
    clear h_pn h_nm h_d h_nm0 h_dl0 h_dl
    go_enter Tryz.func119, Tryz.ntmps119
    go_upto_region 1 with (fail)
    rw [← HW.out]
    refine wp_plain_quiet_below ?_
    repeat (any_goals (first | go_big_quiet_step (first | with_reducible exact c_pn _ _) | quiet_step (first | with_reducible exact c_pn _ _)))
    refine wpQuiet_nil ?_
    intro _ hw'
    obtain ⟨⟨dq, osq⟩, hw''⟩ := hw'
    subst hw''
    have hBq := below_regrown W dq osq
    generalize grow (redrawn W dq) osq = wq at *
    go_wp2
    go_ret
    exact ⟨rfl, hBW.trans (hBq.mono hBW.size)⟩
  have h_dl : decide (dn = 0) = true := decide_eq_true h_dl0
  cases h_an : Gid.none ⟨⟨at_, ar⟩, ai⟩ with
  | false =>
    obtain rfl : ans = false := by rw [HV.out]; simp only [h_pn, h_nm, h_d, h_dl, h_an, Bool.and_false, Bool.false_and, Bool.and_true, Bool.true_and]
    obtain rfl := bs_nil.1 h_nm0
    obtain rfl : dir = false := by simpa using h_d
    have s_dl : decide (0 < dn) = false := decide_eq_false (by omega)
    have hA_W : W.heap[w.heap.size]? = some (.cells #[.int .i64 k, .int .i64 nt, .int .i64 nr, .int .i64 ni, .int .i64 pt, .int .i64 pr, .int .i64 pi, .string ⟨#[]⟩, .bool false, .slice dA dn dc, .int .i64 at_, .int .i64 ar, .int .i64 ai, .int .i64 et, .int .i64 er, .int .i64 ei, .string text, .slice eA en ec] 70 (0, 0)) := HA.out
    have x4 := cell_regrown (w := W) (a := ⟨w.heap.size, 4, none⟩) (v := .int .i64 pt) (by rw [cell_of_row _ _ _ _ _ _ hA_W]; rfl)
    have x5 := cell_regrown (w := W) (a := ⟨w.heap.size, 5, none⟩) (v := .int .i64 pr) (by rw [cell_of_row _ _ _ _ _ _ hA_W]; rfl)
    have x6 := cell_regrown (w := W) (a := ⟨w.heap.size, 6, none⟩) (v := .int .i64 pi) (by rw [cell_of_row _ _ _ _ _ _ hA_W]; rfl)
    have x7 := cell_regrown (w := W) (a := ⟨w.heap.size, 7, none⟩) (v := .string ⟨#[]⟩) (by rw [cell_of_row _ _ _ _ _ _ hA_W]; rfl)
    have x8 := cell_regrown (w := W) (a := ⟨w.heap.size, 8, none⟩) (v := .bool false) (by rw [cell_of_row _ _ _ _ _ _ hA_W]; rfl)
    have x9 := cell_regrown (w := W) (a := ⟨w.heap.size, 9, none⟩) (v := .slice dA dn dc) (by rw [cell_of_row _ _ _ _ _ _ hA_W]; rfl)
    have x10 := cell_regrown (w := W) (a := ⟨w.heap.size, 10, none⟩) (v := .int .i64 at_) (by rw [cell_of_row _ _ _ _ _ _ hA_W]; rfl)
    have x11 := cell_regrown (w := W) (a := ⟨w.heap.size, 11, none⟩) (v := .int .i64 ar) (by rw [cell_of_row _ _ _ _ _ _ hA_W]; rfl)
    have x12 := cell_regrown (w := W) (a := ⟨w.heap.size, 12, none⟩) (v := .int .i64 ai) (by rw [cell_of_row _ _ _ _ _ _ hA_W]; rfl)
    have x13 := cell_regrown (w := W) (a := ⟨w.heap.size, 13, none⟩) (v := .int .i64 et) (by rw [cell_of_row _ _ _ _ _ _ hA_W]; rfl)
    have x14 := cell_regrown (w := W) (a := ⟨w.heap.size, 14, none⟩) (v := .int .i64 er) (by rw [cell_of_row _ _ _ _ _ _ hA_W]; rfl)
    have x15 := cell_regrown (w := W) (a := ⟨w.heap.size, 15, none⟩) (v := .int .i64 ei) (by rw [cell_of_row _ _ _ _ _ _ hA_W]; rfl)
    have x16 := cell_regrown (w := W) (a := ⟨w.heap.size, 16, none⟩) (v := .string text) (by rw [cell_of_row _ _ _ _ _ _ hA_W]; rfl)
    have x17 := cell_regrown (w := W) (a := ⟨w.heap.size, 17, none⟩) (v := .slice eA en ec) (by rw [cell_of_row _ _ _ _ _ _ hA_W]; rfl)
    clear hA_W
    have c_pn := fun d os => Calls.regrown_of (refnone_any pt pr pi (grow (redrawn W d) os))
    rw [h_pn] at c_pn
    have H_an := Lib.hid h_an
    clear h_pn h_nm h_d h_an h_nm0 h_dl0 h_dl
    go_enter Tryz.func119, Tryz.ntmps119
    go_upto_region 1 with (fail)
    rw [← HW.out]
    refine wp_plain_quiet_below ?_
    repeat (any_goals (first | go_big_quiet_step (first | with_reducible exact c_pn _ _) | quiet_step (first | with_reducible exact c_pn _ _)))
    refine wpQuiet_nil ?_
    intro _ hw'
    obtain ⟨⟨dq, osq⟩, hw''⟩ := hw'
    subst hw''
    have hBq := below_regrown W dq osq
    generalize grow (redrawn W dq) osq = wq at *
    have hB1 := hBW.trans (hBq.mono hBW.size)
    have hA1 := (hBq.block _ hlt).trans HA.out
    have HA1 := Lib.hid hA1
    clear hA1 hBq x4 x5 x6 x7 x8 x9 x10 x11 x12 x13 x14 x15 x16 x17 c_pn
    obtain ⟨W1, hW1⟩ : ∃ W1, W1 = wq := ⟨_, rfl⟩
    rw [← hW1] at hB1 HA1 ⊢
    clear hW1
    go_upto_region 3 with (fail)
    have hA_W1 : W1.heap[w.heap.size]? = some (.cells #[.int .i64 k, .int .i64 nt, .int .i64 nr, .int .i64 ni, .int .i64 pt, .int .i64 pr, .int .i64 pi, .string ⟨#[]⟩, .bool false, .slice dA dn dc, .int .i64 at_, .int .i64 ar, .int .i64 ai, .int .i64 et, .int .i64 er, .int .i64 ei, .string text, .slice eA en ec] 70 (0, 0)) := HA1.out
    have x4 := cell_regrown (w := W1) (a := ⟨w.heap.size, 4, none⟩) (v := .int .i64 pt) (by rw [cell_of_row _ _ _ _ _ _ hA_W1]; rfl)
    have x5 := cell_regrown (w := W1) (a := ⟨w.heap.size, 5, none⟩) (v := .int .i64 pr) (by rw [cell_of_row _ _ _ _ _ _ hA_W1]; rfl)
    have x6 := cell_regrown (w := W1) (a := ⟨w.heap.size, 6, none⟩) (v := .int .i64 pi) (by rw [cell_of_row _ _ _ _ _ _ hA_W1]; rfl)
    have x7 := cell_regrown (w := W1) (a := ⟨w.heap.size, 7, none⟩) (v := .string ⟨#[]⟩) (by rw [cell_of_row _ _ _ _ _ _ hA_W1]; rfl)
    have x8 := cell_regrown (w := W1) (a := ⟨w.heap.size, 8, none⟩) (v := .bool false) (by rw [cell_of_row _ _ _ _ _ _ hA_W1]; rfl)
    have x9 := cell_regrown (w := W1) (a := ⟨w.heap.size, 9, none⟩) (v := .slice dA dn dc) (by rw [cell_of_row _ _ _ _ _ _ hA_W1]; rfl)
    have x10 := cell_regrown (w := W1) (a := ⟨w.heap.size, 10, none⟩) (v := .int .i64 at_) (by rw [cell_of_row _ _ _ _ _ _ hA_W1]; rfl)
    have x11 := cell_regrown (w := W1) (a := ⟨w.heap.size, 11, none⟩) (v := .int .i64 ar) (by rw [cell_of_row _ _ _ _ _ _ hA_W1]; rfl)
    have x12 := cell_regrown (w := W1) (a := ⟨w.heap.size, 12, none⟩) (v := .int .i64 ai) (by rw [cell_of_row _ _ _ _ _ _ hA_W1]; rfl)
    have x13 := cell_regrown (w := W1) (a := ⟨w.heap.size, 13, none⟩) (v := .int .i64 et) (by rw [cell_of_row _ _ _ _ _ _ hA_W1]; rfl)
    have x14 := cell_regrown (w := W1) (a := ⟨w.heap.size, 14, none⟩) (v := .int .i64 er) (by rw [cell_of_row _ _ _ _ _ _ hA_W1]; rfl)
    have x15 := cell_regrown (w := W1) (a := ⟨w.heap.size, 15, none⟩) (v := .int .i64 ei) (by rw [cell_of_row _ _ _ _ _ _ hA_W1]; rfl)
    have x16 := cell_regrown (w := W1) (a := ⟨w.heap.size, 16, none⟩) (v := .string text) (by rw [cell_of_row _ _ _ _ _ _ hA_W1]; rfl)
    have x17 := cell_regrown (w := W1) (a := ⟨w.heap.size, 17, none⟩) (v := .slice eA en ec) (by rw [cell_of_row _ _ _ _ _ _ hA_W1]; rfl)
    clear hA_W1
    have h_an := H_an.out
    have c_an := fun d os => Calls.regrown_of (refnone_any at_ ar ai (grow (redrawn W1 d) os))
    rw [h_an] at c_an
    clear h_an
    refine wp_plain_quiet_below ?_
    repeat (any_goals (first | go_big_quiet_step (first | with_reducible exact c_an _ _) | quiet_step (first | with_reducible exact c_an _ _)))
    refine wpQuiet_nil ?_
    intro _ hw'
    obtain ⟨⟨dq, osq⟩, hw''⟩ := hw'
    subst hw''
    have hBq := below_regrown W1 dq osq
    generalize grow (redrawn W1 dq) osq = wq at *
    go_wp2
    go_ret
    exact ⟨rfl, hB1.trans (hBq.mono hB1.size)⟩
  | true =>
  cases h_en_ : Gid.none ⟨⟨et, er⟩, ei⟩ with
  | false =>
    obtain rfl : ans = false := by rw [HV.out]; simp only [h_pn, h_nm, h_d, h_dl, h_an, h_en_, Bool.and_false, Bool.false_and, Bool.and_true, Bool.true_and]
    obtain rfl := bs_nil.1 h_nm0
    obtain rfl : dir = false := by simpa using h_d
    have s_dl : decide (0 < dn) = false := decide_eq_false (by omega)
    have hA_W : W.heap[w.heap.size]? = some (.cells #[.int .i64 k, .int .i64 nt, .int .i64 nr, .int .i64 ni, .int .i64 pt, .int .i64 pr, .int .i64 pi, .string ⟨#[]⟩, .bool false, .slice dA dn dc, .int .i64 at_, .int .i64 ar, .int .i64 ai, .int .i64 et, .int .i64 er, .int .i64 ei, .string text, .slice eA en ec] 70 (0, 0)) := HA.out
    have x4 := cell_regrown (w := W) (a := ⟨w.heap.size, 4, none⟩) (v := .int .i64 pt) (by rw [cell_of_row _ _ _ _ _ _ hA_W]; rfl)
    have x5 := cell_regrown (w := W) (a := ⟨w.heap.size, 5, none⟩) (v := .int .i64 pr) (by rw [cell_of_row _ _ _ _ _ _ hA_W]; rfl)
    have x6 := cell_regrown (w := W) (a := ⟨w.heap.size, 6, none⟩) (v := .int .i64 pi) (by rw [cell_of_row _ _ _ _ _ _ hA_W]; rfl)
    have x7 := cell_regrown (w := W) (a := ⟨w.heap.size, 7, none⟩) (v := .string ⟨#[]⟩) (by rw [cell_of_row _ _ _ _ _ _ hA_W]; rfl)
    have x8 := cell_regrown (w := W) (a := ⟨w.heap.size, 8, none⟩) (v := .bool false) (by rw [cell_of_row _ _ _ _ _ _ hA_W]; rfl)
    have x9 := cell_regrown (w := W) (a := ⟨w.heap.size, 9, none⟩) (v := .slice dA dn dc) (by rw [cell_of_row _ _ _ _ _ _ hA_W]; rfl)
    have x10 := cell_regrown (w := W) (a := ⟨w.heap.size, 10, none⟩) (v := .int .i64 at_) (by rw [cell_of_row _ _ _ _ _ _ hA_W]; rfl)
    have x11 := cell_regrown (w := W) (a := ⟨w.heap.size, 11, none⟩) (v := .int .i64 ar) (by rw [cell_of_row _ _ _ _ _ _ hA_W]; rfl)
    have x12 := cell_regrown (w := W) (a := ⟨w.heap.size, 12, none⟩) (v := .int .i64 ai) (by rw [cell_of_row _ _ _ _ _ _ hA_W]; rfl)
    have x13 := cell_regrown (w := W) (a := ⟨w.heap.size, 13, none⟩) (v := .int .i64 et) (by rw [cell_of_row _ _ _ _ _ _ hA_W]; rfl)
    have x14 := cell_regrown (w := W) (a := ⟨w.heap.size, 14, none⟩) (v := .int .i64 er) (by rw [cell_of_row _ _ _ _ _ _ hA_W]; rfl)
    have x15 := cell_regrown (w := W) (a := ⟨w.heap.size, 15, none⟩) (v := .int .i64 ei) (by rw [cell_of_row _ _ _ _ _ _ hA_W]; rfl)
    have x16 := cell_regrown (w := W) (a := ⟨w.heap.size, 16, none⟩) (v := .string text) (by rw [cell_of_row _ _ _ _ _ _ hA_W]; rfl)
    have x17 := cell_regrown (w := W) (a := ⟨w.heap.size, 17, none⟩) (v := .slice eA en ec) (by rw [cell_of_row _ _ _ _ _ _ hA_W]; rfl)
    clear hA_W
    have c_pn := fun d os => Calls.regrown_of (refnone_any pt pr pi (grow (redrawn W d) os))
    rw [h_pn] at c_pn
    have H_an := Lib.hid h_an
    have H_en_ := Lib.hid h_en_
    clear h_pn h_nm h_d h_an h_en_ h_nm0 h_dl0 h_dl
    go_enter Tryz.func119, Tryz.ntmps119
    go_upto_region 1 with (fail)
    rw [← HW.out]
    refine wp_plain_quiet_below ?_
    repeat (any_goals (first | go_big_quiet_step (first | with_reducible exact c_pn _ _) | quiet_step (first | with_reducible exact c_pn _ _)))
    refine wpQuiet_nil ?_
    intro _ hw'
    obtain ⟨⟨dq, osq⟩, hw''⟩ := hw'
    subst hw''
    have hBq := below_regrown W dq osq
    generalize grow (redrawn W dq) osq = wq at *
    have hB1 := hBW.trans (hBq.mono hBW.size)
    have hA1 := (hBq.block _ hlt).trans HA.out
    have HA1 := Lib.hid hA1
    clear hA1 hBq x4 x5 x6 x7 x8 x9 x10 x11 x12 x13 x14 x15 x16 x17 c_pn
    obtain ⟨W1, hW1⟩ : ∃ W1, W1 = wq := ⟨_, rfl⟩
    rw [← hW1] at hB1 HA1 ⊢
    clear hW1
    go_upto_region 3 with (fail)
    have hA_W1 : W1.heap[w.heap.size]? = some (.cells #[.int .i64 k, .int .i64 nt, .int .i64 nr, .int .i64 ni, .int .i64 pt, .int .i64 pr, .int .i64 pi, .string ⟨#[]⟩, .bool false, .slice dA dn dc, .int .i64 at_, .int .i64 ar, .int .i64 ai, .int .i64 et, .int .i64 er, .int .i64 ei, .string text, .slice eA en ec] 70 (0, 0)) := HA1.out
    have x4 := cell_regrown (w := W1) (a := ⟨w.heap.size, 4, none⟩) (v := .int .i64 pt) (by rw [cell_of_row _ _ _ _ _ _ hA_W1]; rfl)
    have x5 := cell_regrown (w := W1) (a := ⟨w.heap.size, 5, none⟩) (v := .int .i64 pr) (by rw [cell_of_row _ _ _ _ _ _ hA_W1]; rfl)
    have x6 := cell_regrown (w := W1) (a := ⟨w.heap.size, 6, none⟩) (v := .int .i64 pi) (by rw [cell_of_row _ _ _ _ _ _ hA_W1]; rfl)
    have x7 := cell_regrown (w := W1) (a := ⟨w.heap.size, 7, none⟩) (v := .string ⟨#[]⟩) (by rw [cell_of_row _ _ _ _ _ _ hA_W1]; rfl)
    have x8 := cell_regrown (w := W1) (a := ⟨w.heap.size, 8, none⟩) (v := .bool false) (by rw [cell_of_row _ _ _ _ _ _ hA_W1]; rfl)
    have x9 := cell_regrown (w := W1) (a := ⟨w.heap.size, 9, none⟩) (v := .slice dA dn dc) (by rw [cell_of_row _ _ _ _ _ _ hA_W1]; rfl)
    have x10 := cell_regrown (w := W1) (a := ⟨w.heap.size, 10, none⟩) (v := .int .i64 at_) (by rw [cell_of_row _ _ _ _ _ _ hA_W1]; rfl)
    have x11 := cell_regrown (w := W1) (a := ⟨w.heap.size, 11, none⟩) (v := .int .i64 ar) (by rw [cell_of_row _ _ _ _ _ _ hA_W1]; rfl)
    have x12 := cell_regrown (w := W1) (a := ⟨w.heap.size, 12, none⟩) (v := .int .i64 ai) (by rw [cell_of_row _ _ _ _ _ _ hA_W1]; rfl)
    have x13 := cell_regrown (w := W1) (a := ⟨w.heap.size, 13, none⟩) (v := .int .i64 et) (by rw [cell_of_row _ _ _ _ _ _ hA_W1]; rfl)
    have x14 := cell_regrown (w := W1) (a := ⟨w.heap.size, 14, none⟩) (v := .int .i64 er) (by rw [cell_of_row _ _ _ _ _ _ hA_W1]; rfl)
    have x15 := cell_regrown (w := W1) (a := ⟨w.heap.size, 15, none⟩) (v := .int .i64 ei) (by rw [cell_of_row _ _ _ _ _ _ hA_W1]; rfl)
    have x16 := cell_regrown (w := W1) (a := ⟨w.heap.size, 16, none⟩) (v := .string text) (by rw [cell_of_row _ _ _ _ _ _ hA_W1]; rfl)
    have x17 := cell_regrown (w := W1) (a := ⟨w.heap.size, 17, none⟩) (v := .slice eA en ec) (by rw [cell_of_row _ _ _ _ _ _ hA_W1]; rfl)
    clear hA_W1
    have h_an := H_an.out
    have h_en_ := H_en_.out
    have c_an := fun d os => Calls.regrown_of (refnone_any at_ ar ai (grow (redrawn W1 d) os))
    rw [h_an] at c_an
    have c_en_ := fun d os => Calls.regrown_of (refnone_any et er ei (grow (redrawn W1 d) os))
    rw [h_en_] at c_en_
    clear h_an h_en_
    refine wp_plain_quiet_below ?_
    repeat (any_goals (first | go_big_quiet_step (first | with_reducible exact c_an _ _ | with_reducible exact c_en_ _ _) | quiet_step (first | with_reducible exact c_an _ _ | with_reducible exact c_en_ _ _)))
    refine wpQuiet_nil ?_
    intro _ hw'
    obtain ⟨⟨dq, osq⟩, hw''⟩ := hw'
    subst hw''
    have hBq := below_regrown W1 dq osq
    generalize grow (redrawn W1 dq) osq = wq at *
    go_wp2
    go_ret
    exact ⟨rfl, hB1.trans (hBq.mono hB1.size)⟩
  | true =>
  by_cases h_tx0 : text.data.toList = []
  rotate_left
  · have h_tx : decide (text.data.toList = []) = false := decide_eq_false h_tx0
    obtain rfl : ans = false := by rw [HV.out]; simp only [h_pn, h_nm, h_d, h_dl, h_an, h_en_, h_tx, Bool.and_false, Bool.false_and, Bool.and_true, Bool.true_and]
    obtain rfl := bs_nil.1 h_nm0
    obtain rfl : dir = false := by simpa using h_d
    have s_dl : decide (0 < dn) = false := decide_eq_false (by omega)
    have s_tx : text.toList.isEmpty = false := by rw [ByteArray.toList_eq]; cases e : text.data.toList with
      | nil => exact absurd e h_tx0
      | cons a l => rfl
    have hA_W : W.heap[w.heap.size]? = some (.cells #[.int .i64 k, .int .i64 nt, .int .i64 nr, .int .i64 ni, .int .i64 pt, .int .i64 pr, .int .i64 pi, .string ⟨#[]⟩, .bool false, .slice dA dn dc, .int .i64 at_, .int .i64 ar, .int .i64 ai, .int .i64 et, .int .i64 er, .int .i64 ei, .string text, .slice eA en ec] 70 (0, 0)) := HA.out
    have x4 := cell_regrown (w := W) (a := ⟨w.heap.size, 4, none⟩) (v := .int .i64 pt) (by rw [cell_of_row _ _ _ _ _ _ hA_W]; rfl)
    have x5 := cell_regrown (w := W) (a := ⟨w.heap.size, 5, none⟩) (v := .int .i64 pr) (by rw [cell_of_row _ _ _ _ _ _ hA_W]; rfl)
    have x6 := cell_regrown (w := W) (a := ⟨w.heap.size, 6, none⟩) (v := .int .i64 pi) (by rw [cell_of_row _ _ _ _ _ _ hA_W]; rfl)
    have x7 := cell_regrown (w := W) (a := ⟨w.heap.size, 7, none⟩) (v := .string ⟨#[]⟩) (by rw [cell_of_row _ _ _ _ _ _ hA_W]; rfl)
    have x8 := cell_regrown (w := W) (a := ⟨w.heap.size, 8, none⟩) (v := .bool false) (by rw [cell_of_row _ _ _ _ _ _ hA_W]; rfl)
    have x9 := cell_regrown (w := W) (a := ⟨w.heap.size, 9, none⟩) (v := .slice dA dn dc) (by rw [cell_of_row _ _ _ _ _ _ hA_W]; rfl)
    have x10 := cell_regrown (w := W) (a := ⟨w.heap.size, 10, none⟩) (v := .int .i64 at_) (by rw [cell_of_row _ _ _ _ _ _ hA_W]; rfl)
    have x11 := cell_regrown (w := W) (a := ⟨w.heap.size, 11, none⟩) (v := .int .i64 ar) (by rw [cell_of_row _ _ _ _ _ _ hA_W]; rfl)
    have x12 := cell_regrown (w := W) (a := ⟨w.heap.size, 12, none⟩) (v := .int .i64 ai) (by rw [cell_of_row _ _ _ _ _ _ hA_W]; rfl)
    have x13 := cell_regrown (w := W) (a := ⟨w.heap.size, 13, none⟩) (v := .int .i64 et) (by rw [cell_of_row _ _ _ _ _ _ hA_W]; rfl)
    have x14 := cell_regrown (w := W) (a := ⟨w.heap.size, 14, none⟩) (v := .int .i64 er) (by rw [cell_of_row _ _ _ _ _ _ hA_W]; rfl)
    have x15 := cell_regrown (w := W) (a := ⟨w.heap.size, 15, none⟩) (v := .int .i64 ei) (by rw [cell_of_row _ _ _ _ _ _ hA_W]; rfl)
    have x16 := cell_regrown (w := W) (a := ⟨w.heap.size, 16, none⟩) (v := .string text) (by rw [cell_of_row _ _ _ _ _ _ hA_W]; rfl)
    have x17 := cell_regrown (w := W) (a := ⟨w.heap.size, 17, none⟩) (v := .slice eA en ec) (by rw [cell_of_row _ _ _ _ _ _ hA_W]; rfl)
    clear hA_W
    have c_pn := fun d os => Calls.regrown_of (refnone_any pt pr pi (grow (redrawn W d) os))
    rw [h_pn] at c_pn
    have H_an := Lib.hid h_an
    have H_en_ := Lib.hid h_en_
    clear h_pn h_nm h_d h_an h_en_ h_tx h_nm0 h_tx0 h_dl0 h_dl
    go_enter Tryz.func119, Tryz.ntmps119
    go_upto_region 1 with (fail)
    rw [← HW.out]
    refine wp_plain_quiet_below ?_
    repeat (any_goals (first | go_big_quiet_step (first | with_reducible exact c_pn _ _) | quiet_step (first | with_reducible exact c_pn _ _)))
    refine wpQuiet_nil ?_
    intro _ hw'
    obtain ⟨⟨dq, osq⟩, hw''⟩ := hw'
    subst hw''
    have hBq := below_regrown W dq osq
    generalize grow (redrawn W dq) osq = wq at *
    have hB1 := hBW.trans (hBq.mono hBW.size)
    have hA1 := (hBq.block _ hlt).trans HA.out
    have HA1 := Lib.hid hA1
    clear hA1 hBq x4 x5 x6 x7 x8 x9 x10 x11 x12 x13 x14 x15 x16 x17 c_pn
    obtain ⟨W1, hW1⟩ : ∃ W1, W1 = wq := ⟨_, rfl⟩
    rw [← hW1] at hB1 HA1 ⊢
    clear hW1
    go_upto_region 3 with (fail)
    have hA_W1 : W1.heap[w.heap.size]? = some (.cells #[.int .i64 k, .int .i64 nt, .int .i64 nr, .int .i64 ni, .int .i64 pt, .int .i64 pr, .int .i64 pi, .string ⟨#[]⟩, .bool false, .slice dA dn dc, .int .i64 at_, .int .i64 ar, .int .i64 ai, .int .i64 et, .int .i64 er, .int .i64 ei, .string text, .slice eA en ec] 70 (0, 0)) := HA1.out
    have x4 := cell_regrown (w := W1) (a := ⟨w.heap.size, 4, none⟩) (v := .int .i64 pt) (by rw [cell_of_row _ _ _ _ _ _ hA_W1]; rfl)
    have x5 := cell_regrown (w := W1) (a := ⟨w.heap.size, 5, none⟩) (v := .int .i64 pr) (by rw [cell_of_row _ _ _ _ _ _ hA_W1]; rfl)
    have x6 := cell_regrown (w := W1) (a := ⟨w.heap.size, 6, none⟩) (v := .int .i64 pi) (by rw [cell_of_row _ _ _ _ _ _ hA_W1]; rfl)
    have x7 := cell_regrown (w := W1) (a := ⟨w.heap.size, 7, none⟩) (v := .string ⟨#[]⟩) (by rw [cell_of_row _ _ _ _ _ _ hA_W1]; rfl)
    have x8 := cell_regrown (w := W1) (a := ⟨w.heap.size, 8, none⟩) (v := .bool false) (by rw [cell_of_row _ _ _ _ _ _ hA_W1]; rfl)
    have x9 := cell_regrown (w := W1) (a := ⟨w.heap.size, 9, none⟩) (v := .slice dA dn dc) (by rw [cell_of_row _ _ _ _ _ _ hA_W1]; rfl)
    have x10 := cell_regrown (w := W1) (a := ⟨w.heap.size, 10, none⟩) (v := .int .i64 at_) (by rw [cell_of_row _ _ _ _ _ _ hA_W1]; rfl)
    have x11 := cell_regrown (w := W1) (a := ⟨w.heap.size, 11, none⟩) (v := .int .i64 ar) (by rw [cell_of_row _ _ _ _ _ _ hA_W1]; rfl)
    have x12 := cell_regrown (w := W1) (a := ⟨w.heap.size, 12, none⟩) (v := .int .i64 ai) (by rw [cell_of_row _ _ _ _ _ _ hA_W1]; rfl)
    have x13 := cell_regrown (w := W1) (a := ⟨w.heap.size, 13, none⟩) (v := .int .i64 et) (by rw [cell_of_row _ _ _ _ _ _ hA_W1]; rfl)
    have x14 := cell_regrown (w := W1) (a := ⟨w.heap.size, 14, none⟩) (v := .int .i64 er) (by rw [cell_of_row _ _ _ _ _ _ hA_W1]; rfl)
    have x15 := cell_regrown (w := W1) (a := ⟨w.heap.size, 15, none⟩) (v := .int .i64 ei) (by rw [cell_of_row _ _ _ _ _ _ hA_W1]; rfl)
    have x16 := cell_regrown (w := W1) (a := ⟨w.heap.size, 16, none⟩) (v := .string text) (by rw [cell_of_row _ _ _ _ _ _ hA_W1]; rfl)
    have x17 := cell_regrown (w := W1) (a := ⟨w.heap.size, 17, none⟩) (v := .slice eA en ec) (by rw [cell_of_row _ _ _ _ _ _ hA_W1]; rfl)
    clear hA_W1
    have h_an := H_an.out
    have h_en_ := H_en_.out
    have c_an := fun d os => Calls.regrown_of (refnone_any at_ ar ai (grow (redrawn W1 d) os))
    rw [h_an] at c_an
    have c_en_ := fun d os => Calls.regrown_of (refnone_any et er ei (grow (redrawn W1 d) os))
    rw [h_en_] at c_en_
    clear h_an h_en_
    refine wp_plain_quiet_below ?_
    repeat (any_goals (first | go_big_quiet_step (first | with_reducible exact c_an _ _ | with_reducible exact c_en_ _ _) | quiet_step (first | with_reducible exact c_an _ _ | with_reducible exact c_en_ _ _)))
    refine wpQuiet_nil ?_
    intro _ hw'
    obtain ⟨⟨dq, osq⟩, hw''⟩ := hw'
    subst hw''
    have hBq := below_regrown W1 dq osq
    generalize grow (redrawn W1 dq) osq = wq at *
    go_wp2
    go_ret
    exact ⟨rfl, hB1.trans (hBq.mono hB1.size)⟩
  have h_tx : decide (text.data.toList = []) = true := decide_eq_true h_tx0
  obtain rfl : ans = true := by rw [HV.out]; simp only [h_pn, h_nm, h_d, h_dl, h_an, h_en_, h_tx, Bool.and_false, Bool.false_and, Bool.and_true, Bool.true_and]
  obtain rfl := bs_nil.1 h_nm0
  obtain rfl : dir = false := by simpa using h_d
  have s_dl : decide (0 < dn) = false := decide_eq_false (by omega)
  obtain rfl := bs_nil.1 h_tx0
  have hA_W : W.heap[w.heap.size]? = some (.cells #[.int .i64 k, .int .i64 nt, .int .i64 nr, .int .i64 ni, .int .i64 pt, .int .i64 pr, .int .i64 pi, .string ⟨#[]⟩, .bool false, .slice dA dn dc, .int .i64 at_, .int .i64 ar, .int .i64 ai, .int .i64 et, .int .i64 er, .int .i64 ei, .string ⟨#[]⟩, .slice eA en ec] 70 (0, 0)) := HA.out
  have x4 := cell_regrown (w := W) (a := ⟨w.heap.size, 4, none⟩) (v := .int .i64 pt) (by rw [cell_of_row _ _ _ _ _ _ hA_W]; rfl)
  have x5 := cell_regrown (w := W) (a := ⟨w.heap.size, 5, none⟩) (v := .int .i64 pr) (by rw [cell_of_row _ _ _ _ _ _ hA_W]; rfl)
  have x6 := cell_regrown (w := W) (a := ⟨w.heap.size, 6, none⟩) (v := .int .i64 pi) (by rw [cell_of_row _ _ _ _ _ _ hA_W]; rfl)
  have x7 := cell_regrown (w := W) (a := ⟨w.heap.size, 7, none⟩) (v := .string ⟨#[]⟩) (by rw [cell_of_row _ _ _ _ _ _ hA_W]; rfl)
  have x8 := cell_regrown (w := W) (a := ⟨w.heap.size, 8, none⟩) (v := .bool false) (by rw [cell_of_row _ _ _ _ _ _ hA_W]; rfl)
  have x9 := cell_regrown (w := W) (a := ⟨w.heap.size, 9, none⟩) (v := .slice dA dn dc) (by rw [cell_of_row _ _ _ _ _ _ hA_W]; rfl)
  have x10 := cell_regrown (w := W) (a := ⟨w.heap.size, 10, none⟩) (v := .int .i64 at_) (by rw [cell_of_row _ _ _ _ _ _ hA_W]; rfl)
  have x11 := cell_regrown (w := W) (a := ⟨w.heap.size, 11, none⟩) (v := .int .i64 ar) (by rw [cell_of_row _ _ _ _ _ _ hA_W]; rfl)
  have x12 := cell_regrown (w := W) (a := ⟨w.heap.size, 12, none⟩) (v := .int .i64 ai) (by rw [cell_of_row _ _ _ _ _ _ hA_W]; rfl)
  have x13 := cell_regrown (w := W) (a := ⟨w.heap.size, 13, none⟩) (v := .int .i64 et) (by rw [cell_of_row _ _ _ _ _ _ hA_W]; rfl)
  have x14 := cell_regrown (w := W) (a := ⟨w.heap.size, 14, none⟩) (v := .int .i64 er) (by rw [cell_of_row _ _ _ _ _ _ hA_W]; rfl)
  have x15 := cell_regrown (w := W) (a := ⟨w.heap.size, 15, none⟩) (v := .int .i64 ei) (by rw [cell_of_row _ _ _ _ _ _ hA_W]; rfl)
  have x16 := cell_regrown (w := W) (a := ⟨w.heap.size, 16, none⟩) (v := .string ⟨#[]⟩) (by rw [cell_of_row _ _ _ _ _ _ hA_W]; rfl)
  have x17 := cell_regrown (w := W) (a := ⟨w.heap.size, 17, none⟩) (v := .slice eA en ec) (by rw [cell_of_row _ _ _ _ _ _ hA_W]; rfl)
  clear hA_W
  have c_pn := fun d os => Calls.regrown_of (refnone_any pt pr pi (grow (redrawn W d) os))
  rw [h_pn] at c_pn
  have H_an := Lib.hid h_an
  have H_en_ := Lib.hid h_en_
  clear h_pn h_nm h_d h_an h_en_ h_tx h_nm0 h_tx0 h_dl0 h_dl
  go_enter Tryz.func119, Tryz.ntmps119
  go_upto_region 1 with (fail)
  rw [← HW.out]
  refine wp_plain_quiet_below ?_
  repeat (any_goals (first | go_big_quiet_step (first | with_reducible exact c_pn _ _) | quiet_step (first | with_reducible exact c_pn _ _)))
  refine wpQuiet_nil ?_
  intro _ hw'
  obtain ⟨⟨dq, osq⟩, hw''⟩ := hw'
  subst hw''
  have hBq := below_regrown W dq osq
  generalize grow (redrawn W dq) osq = wq at *
  have hB1 := hBW.trans (hBq.mono hBW.size)
  have hA1 := (hBq.block _ hlt).trans HA.out
  have HA1 := Lib.hid hA1
  clear hA1 hBq x4 x5 x6 x7 x8 x9 x10 x11 x12 x13 x14 x15 x16 x17 c_pn
  obtain ⟨W1, hW1⟩ : ∃ W1, W1 = wq := ⟨_, rfl⟩
  rw [← hW1] at hB1 HA1 ⊢
  clear hW1
  go_upto_region 3 with (fail)
  have hA_W1 : W1.heap[w.heap.size]? = some (.cells #[.int .i64 k, .int .i64 nt, .int .i64 nr, .int .i64 ni, .int .i64 pt, .int .i64 pr, .int .i64 pi, .string ⟨#[]⟩, .bool false, .slice dA dn dc, .int .i64 at_, .int .i64 ar, .int .i64 ai, .int .i64 et, .int .i64 er, .int .i64 ei, .string ⟨#[]⟩, .slice eA en ec] 70 (0, 0)) := HA1.out
  have x4 := cell_regrown (w := W1) (a := ⟨w.heap.size, 4, none⟩) (v := .int .i64 pt) (by rw [cell_of_row _ _ _ _ _ _ hA_W1]; rfl)
  have x5 := cell_regrown (w := W1) (a := ⟨w.heap.size, 5, none⟩) (v := .int .i64 pr) (by rw [cell_of_row _ _ _ _ _ _ hA_W1]; rfl)
  have x6 := cell_regrown (w := W1) (a := ⟨w.heap.size, 6, none⟩) (v := .int .i64 pi) (by rw [cell_of_row _ _ _ _ _ _ hA_W1]; rfl)
  have x7 := cell_regrown (w := W1) (a := ⟨w.heap.size, 7, none⟩) (v := .string ⟨#[]⟩) (by rw [cell_of_row _ _ _ _ _ _ hA_W1]; rfl)
  have x8 := cell_regrown (w := W1) (a := ⟨w.heap.size, 8, none⟩) (v := .bool false) (by rw [cell_of_row _ _ _ _ _ _ hA_W1]; rfl)
  have x9 := cell_regrown (w := W1) (a := ⟨w.heap.size, 9, none⟩) (v := .slice dA dn dc) (by rw [cell_of_row _ _ _ _ _ _ hA_W1]; rfl)
  have x10 := cell_regrown (w := W1) (a := ⟨w.heap.size, 10, none⟩) (v := .int .i64 at_) (by rw [cell_of_row _ _ _ _ _ _ hA_W1]; rfl)
  have x11 := cell_regrown (w := W1) (a := ⟨w.heap.size, 11, none⟩) (v := .int .i64 ar) (by rw [cell_of_row _ _ _ _ _ _ hA_W1]; rfl)
  have x12 := cell_regrown (w := W1) (a := ⟨w.heap.size, 12, none⟩) (v := .int .i64 ai) (by rw [cell_of_row _ _ _ _ _ _ hA_W1]; rfl)
  have x13 := cell_regrown (w := W1) (a := ⟨w.heap.size, 13, none⟩) (v := .int .i64 et) (by rw [cell_of_row _ _ _ _ _ _ hA_W1]; rfl)
  have x14 := cell_regrown (w := W1) (a := ⟨w.heap.size, 14, none⟩) (v := .int .i64 er) (by rw [cell_of_row _ _ _ _ _ _ hA_W1]; rfl)
  have x15 := cell_regrown (w := W1) (a := ⟨w.heap.size, 15, none⟩) (v := .int .i64 ei) (by rw [cell_of_row _ _ _ _ _ _ hA_W1]; rfl)
  have x16 := cell_regrown (w := W1) (a := ⟨w.heap.size, 16, none⟩) (v := .string ⟨#[]⟩) (by rw [cell_of_row _ _ _ _ _ _ hA_W1]; rfl)
  have x17 := cell_regrown (w := W1) (a := ⟨w.heap.size, 17, none⟩) (v := .slice eA en ec) (by rw [cell_of_row _ _ _ _ _ _ hA_W1]; rfl)
  clear hA_W1
  have h_an := H_an.out
  have h_en_ := H_en_.out
  have c_an := fun d os => Calls.regrown_of (refnone_any at_ ar ai (grow (redrawn W1 d) os))
  rw [h_an] at c_an
  have c_en_ := fun d os => Calls.regrown_of (refnone_any et er ei (grow (redrawn W1 d) os))
  rw [h_en_] at c_en_
  clear h_an h_en_
  refine wp_plain_quiet_below ?_
  repeat (any_goals (first | go_big_quiet_step (first | with_reducible exact c_an _ _ | with_reducible exact c_en_ _ _) | quiet_step (first | with_reducible exact c_an _ _ | with_reducible exact c_en_ _ _)))
  refine wpQuiet_nil ?_
  intro _ hw'
  obtain ⟨⟨dq, osq⟩, hw''⟩ := hw'
  subst hw''
  have hBq := below_regrown W1 dq osq
  generalize grow (redrawn W1 dq) osq = wq at *
  go_wp2
  go_ret
  exact ⟨rfl, hB1.trans (hBq.mono hB1.size)⟩
end Go.Proofs.YtalgbcgiiphoaaaGreatDoor
end
