/- How wire's writer puts an operation. Conditions: lengths in reach. -/
import Derived.Test.YtooaodgamakoeaaDoorWri2
namespace Go.Proofs.YtooaodgamakoeaaDoor
open Go.RowKit Go.Lib Go.Sort
set_option linter.unusedVariables false
attribute [local go_sem ↓] Go.wp_at_zero Go.wp_at_succ
theorem WrQ.obj {B b : Nat} {l : List UInt8} {w w1 : World} {O : Nat} {c : Array Value} {T : TypeId} (h : WrQ B b l w w1) (ho : w.heap[O]? = some (.cells c T (0, 0))) (hb : O ≠ b) (hT : T ≠ 5) : w1.heap[O]? = some (.cells c T (0, 0)) :=
  h.2.2 O _ ho (by intro e; cases e; exact hb rfl) (by intro c' fz e; injection e with _ e _; exact hT e)
theorem bytesv_any (t : ByteArray) (hs : t.size ≤ 1000000) (w : World) :
    Calls Tryd.prog 79 #[.string t] w fun e w' => ∃ P : ByteArray, e = .returned (.string P) ∧ P.data.toList = bytesZ t ∧ P.size ≤ 1000010 ∧ Below w.heap.size w w' := by
  refine (bytes1_any t (by omega) w).mono ?_
  rintro e w' ⟨rfl, hB⟩
  have e1 : (putS t.size ++ t).data.toList = bytesZ t := by
    rw [ByteArray.data_append, Array.toList_append]; rfl
  refine ⟨_, rfl, e1, ?_, hB⟩
  have e2 : (putS t.size ++ t).size = (putS t.size ++ t).data.toList.length := by simp
  have h2 := bytesZ_le (s := t) (by omega)
  rw [e2, e1]; omega
theorem okD.b {x : Gid} (h : okD x) : x.s.t < 9223372036854775808 ∧ x.s.r < 9223372036854775808 ∧ x.i < 9223372036854775808 := ⟨h.1.1.2, h.1.2.2, h.2.2⟩
set_option maxRecDepth 100000 in
set_option maxHeartbeats 16000000 in
theorem wop_0 (B b : Nat) (l : List UInt8) (nt nr ni pt pr pi : Int) (name : ByteArray) (dir : Bool) (dots : List Gst) (at_ ar ai et er ei : Int) (text : ByteArray) (elems : List Gid) (xd : Option Addr) (xdc : Nat) (xe : Option Addr) (xec : Nat) (w : World)
    (hok : okO ⟨0, ⟨⟨nt, nr⟩, ni⟩, ⟨⟨pt, pr⟩, pi⟩, name, dir, dots, ⟨⟨at_, ar⟩, ai⟩, ⟨⟨et, er⟩, ei⟩, text, elems⟩) (hdl : dots.length ≤ 200) (hel : elems.length ≤ 2000) (hnl : name.size ≤ 1000000) (htl : text.size ≤ 1000000) (hl : l.length + 3000000 ≤ 140737488355328) (hW : Wrt w B b l) (hIn : OpIn w (fun k => k < B) ⟨0, ⟨⟨nt, nr⟩, ni⟩, ⟨⟨pt, pr⟩, pi⟩, name, dir, dots, ⟨⟨at_, ar⟩, ai⟩, ⟨⟨et, er⟩, ei⟩, text, elems⟩ ⟨xd, xdc, xe, xec⟩) :
    Calls Tryd.prog 47 #[.pointer (some ⟨b, 0, none⟩), .agg #[.int .i64 0, .int .i64 nt, .int .i64 nr, .int .i64 ni, .int .i64 pt, .int .i64 pr, .int .i64 pi, .string name, .bool dir, .slice xd dots.length xdc, .int .i64 at_, .int .i64 ar, .int .i64 ai, .int .i64 et, .int .i64 er, .int .i64 ei, .string text, .slice xe elems.length xec]] w fun e w' => e = .returned (.tuple #[]) ∧ WrQ B b (l ++ opZ ⟨0, ⟨⟨nt, nr⟩, ni⟩, ⟨⟨pt, pr⟩, pi⟩, name, dir, dots, ⟨⟨at_, ar⟩, ai⟩, ⟨⟨et, er⟩, ei⟩, text, elems⟩) w w' := by
  obtain ⟨-, -, -, okn, okp, -, okd, oka, oke, -, okel⟩ := hok
  simp only at okn okp okd oka oke okel
  have hpt := hW.pt
  have HIn := Lib.hid hIn
  have HQ0 := Lib.hid ((WrQ.refl hW).alloc (by omega) (.cells #[.int .i64 0, .int .i64 nt, .int .i64 nr, .int .i64 ni, .int .i64 pt, .int .i64 pr, .int .i64 pi, .string name, .bool dir, .slice xd dots.length xdc, .int .i64 at_, .int .i64 ar, .int .i64 ai, .int .i64 et, .int .i64 er, .int .i64 ei, .string text, .slice xe elems.length xec] 31))
  have HA := Lib.hid (heap_alloc_new w (.cells #[.int .i64 0, .int .i64 nt, .int .i64 nr, .int .i64 ni, .int .i64 pt, .int .i64 pr, .int .i64 pi, .string name, .bool dir, .slice xd dots.length xdc, .int .i64 at_, .int .i64 ar, .int .i64 ai, .int .i64 et, .int .i64 er, .int .i64 ei, .string text, .slice xe elems.length xec] 31))
  have HOn := Lib.hid okn.b
  have HOp := Lib.hid okp.b
  have HOd := Lib.hid okd
  have HOa := Lib.hid oka.b
  have HOe := Lib.hid oke.b
  have HOl := Lib.hid okel
  have hz1 := idZ_le okn
  have hz2 := idZ_le okp
  have hz3 := idZ_le oka
  have hz4 := idZ_le oke
  have hbn := bytesZ_le (s := name) (by omega)
  have hbt := bytesZ_le (s := text) (by omega)
  clear hW hIn okn okp okd oka oke okel
  obtain ⟨z1, hz1e⟩ : ∃ z, z = idZ ⟨⟨nt, nr⟩, ni⟩ := ⟨_, rfl⟩
  obtain ⟨z2, hz2e⟩ : ∃ z, z = idZ ⟨⟨pt, pr⟩, pi⟩ := ⟨_, rfl⟩
  obtain ⟨z3, hz3e⟩ : ∃ z, z = idZ ⟨⟨at_, ar⟩, ai⟩ := ⟨_, rfl⟩
  obtain ⟨z4, hz4e⟩ : ∃ z, z = idZ ⟨⟨et, er⟩, ei⟩ := ⟨_, rfl⟩
  rw [← hz1e] at hz1
  rw [← hz2e] at hz2
  rw [← hz3e] at hz3
  rw [← hz4e] at hz4
  have HZ1 := Lib.hid hz1e
  have HZ2 := Lib.hid hz2e
  have HZ3 := Lib.hid hz3e
  have HZ4 := Lib.hid hz4e
  clear hz1e hz2e hz3e hz4e
  go_enter Tryd.func47, Tryd.ntmps47
  have hlk : (natZ 0).length ≤ 10 := natZ_le (by decide)
  go_wp2_with fail
  have HK1 := Lib.hid (HQ0.out.alloc (by have := HQ0.out.1.pt; omega) (.cells #[.int .i64 0] 3))
  refine (wnats_any B b l (w.heap.size + 1) [0] 1 _ (by intro y hy; simp at hy; subst hy; decide) (by simp; omega) (by simp) (by exact HK1.out.1) (by exact heap_alloc_newC _ _ (by simp)) (by have := HQ0.out.1.pt; omega)).mono ?_
  rintro e y1 ⟨rfl, hq⟩
  have HQ1 := Lib.hid (show WrQ B b (l ++ natZ 0) w y1 by have := HK1.out.trans (by exact hq); simpa using this)
  have HA1 := Lib.hid (WrQ.obj hq ((Below.heap_alloc _ _ _ (lt_of_block HA.out)).trans HA.out) (by omega) (by decide))
  clear hq HK1
  have c1_1 : y1.cell? ⟨w.heap.size, 1, none⟩ = some (.int .i64 nt) := by rw [cell_of_row _ _ _ _ _ _ HA1.out]; rfl
  have c2_1 : y1.cell? ⟨w.heap.size, 2, none⟩ = some (.int .i64 nr) := by rw [cell_of_row _ _ _ _ _ _ HA1.out]; rfl
  have c3_1 : y1.cell? ⟨w.heap.size, 3, none⟩ = some (.int .i64 ni) := by rw [cell_of_row _ _ _ _ _ _ HA1.out]; rfl
  go_wp2_with fail
  refine (wid_any B b (l ++ natZ 0) ⟨⟨nt, nr⟩, ni⟩ _ HOn.out (by simp; omega) HQ1.out.1).mono ?_
  rintro e y2 ⟨rfl, hq⟩
  have HQ2 := Lib.hid (show WrQ B b ((l ++ natZ 0) ++ z1) w y2 by have := HQ1.out.trans hq; rw [← HZ1.out] at this; exact this)
  have HA2 := Lib.hid (hq.obj HA1.out (by omega) (by decide))
  clear hq
  have c0_2 : y2.cell? ⟨w.heap.size, 0, none⟩ = some (.int .i64 0) := by rw [cell_of_row _ _ _ _ _ _ HA2.out]; rfl
  have c9_2 : y2.cell? ⟨w.heap.size, 9, none⟩ = some (.slice xd dots.length xdc) := by rw [cell_of_row _ _ _ _ _ _ HA2.out]; rfl
  have c17_2 : y2.cell? ⟨w.heap.size, 17, none⟩ = some (.slice xe elems.length xec) := by rw [cell_of_row _ _ _ _ _ _ HA2.out]; rfl
  have c4_2 : y2.cell? ⟨w.heap.size, 4, none⟩ = some (.int .i64 pt) := by rw [cell_of_row _ _ _ _ _ _ HA2.out]; rfl
  have c5_2 : y2.cell? ⟨w.heap.size, 5, none⟩ = some (.int .i64 pr) := by rw [cell_of_row _ _ _ _ _ _ HA2.out]; rfl
  have c6_2 : y2.cell? ⟨w.heap.size, 6, none⟩ = some (.int .i64 pi) := by rw [cell_of_row _ _ _ _ _ _ HA2.out]; rfl
  go_wp2_with fail
  refine (wid_any B b ((l ++ natZ 0) ++ z1) ⟨⟨pt, pr⟩, pi⟩ _ HOp.out (by simp; omega) HQ2.out.1).mono ?_
  rintro e y3 ⟨rfl, hq⟩
  have HQ3 := Lib.hid (show WrQ B b (((l ++ natZ 0) ++ z1) ++ z2) w y3 by have := HQ2.out.trans hq; rw [← HZ2.out] at this; exact this)
  have HA3 := Lib.hid (hq.obj HA2.out (by omega) (by decide))
  clear hq
  have c7_3 : y3.cell? ⟨w.heap.size, 7, none⟩ = some (.string name) := by rw [cell_of_row _ _ _ _ _ _ HA3.out]; rfl
  have c0_3 : y3.cell? ⟨w.heap.size, 0, none⟩ = some (.int .i64 0) := by rw [cell_of_row _ _ _ _ _ _ HA3.out]; rfl
  have c8_3 : y3.cell? ⟨w.heap.size, 8, none⟩ = some (.bool dir) := by rw [cell_of_row _ _ _ _ _ _ HA3.out]; rfl
  go_upto_region 7 with (fail)
  go_region_with (first
    | (go_at_call 79; refine (bytesv_any name hnl _).mono ?_; rintro e v4 ⟨P, rfl, hP, hPs, hBv⟩; have HP := Lib.hid hP; have HV4 := Lib.hid (HQ3.out.below ⟨hBv.os, hBv.tape, hBv.output, hBv.size, hBv.block⟩); have HVA4 := Lib.hid ((hBv.block w.heap.size (lt_of_block HA3.out)).trans HA3.out); clear hP hBv)
    | (go_at_call 46; refine (wstr_any B b (((l ++ natZ 0) ++ z1) ++ z2) P _ (by exact HV4.out.1) (by simp; omega) (by have := HV4.out.1.pt; omega)).mono ?_; rintro e y4 ⟨rfl, hq⟩; have HQ4 := Lib.hid (show WrQ B b ((((l ++ natZ 0) ++ z1) ++ z2) ++ bytesZ name) w y4 by have := HV4.out.trans (by exact hq); rw [HP.out] at this; exact this); have HA4 := Lib.hid (WrQ.obj hq HVA4.out (by omega) (by decide)); clear hq))
  have c0_4 : y4.cell? ⟨w.heap.size, 0, none⟩ = some (.int .i64 0) := by rw [cell_of_row _ _ _ _ _ _ HA4.out]; rfl
  have c8_4 : y4.cell? ⟨w.heap.size, 8, none⟩ = some (.bool dir) := by rw [cell_of_row _ _ _ _ _ _ HA4.out]; rfl
  cases dir with
  | false =>
    go_wp2_with fail
    have HK5 := Lib.hid (HQ4.out.alloc (by have := HQ4.out.1.pt; omega) (.cells #[.int .i64 0] 3))
    refine (wnats_any B b ((((l ++ natZ 0) ++ z1) ++ z2) ++ bytesZ name) y4.heap.size [0] 1 _ (by intro y hy; simp at hy; subst hy; decide) (by simp; omega) (by simp) (by exact HK5.out.1) (by exact heap_alloc_newC _ _ (by simp)) (by have := HQ4.out.1.pt; omega)).mono ?_
    rintro e y5 ⟨rfl, hq⟩
    have HQ5 := Lib.hid (show WrQ B b (((((l ++ natZ 0) ++ z1) ++ z2) ++ bytesZ name) ++ natZ 0) w y5 by have := HK5.out.trans (by exact hq); simpa using this)
    have HA5 := Lib.hid (WrQ.obj hq ((Below.heap_alloc _ _ _ (lt_of_block HA4.out)).trans HA4.out) (by omega) (by decide))
    clear hq HK5
    go_wp2
    go_end0
    refine ⟨rfl, ?_⟩
    have := HQ5.out
    rw [HZ1.out, HZ2.out] at this
    simpa [opZ, List.append_assoc] using this
  | true =>
    go_wp2_with fail
    have HK5 := Lib.hid (HQ4.out.alloc (by have := HQ4.out.1.pt; omega) (.cells #[.int .i64 1] 3))
    refine (wnats_any B b ((((l ++ natZ 0) ++ z1) ++ z2) ++ bytesZ name) y4.heap.size [1] 1 _ (by intro y hy; simp at hy; subst hy; decide) (by simp; omega) (by simp) (by exact HK5.out.1) (by exact heap_alloc_newC _ _ (by simp)) (by have := HQ4.out.1.pt; omega)).mono ?_
    rintro e y5 ⟨rfl, hq⟩
    have HQ5 := Lib.hid (show WrQ B b (((((l ++ natZ 0) ++ z1) ++ z2) ++ bytesZ name) ++ natZ 1) w y5 by have := HK5.out.trans (by exact hq); simpa using this)
    have HA5 := Lib.hid (WrQ.obj hq ((Below.heap_alloc _ _ _ (lt_of_block HA4.out)).trans HA4.out) (by omega) (by decide))
    clear hq HK5
    go_wp2
    go_end0
    refine ⟨rfl, ?_⟩
    have := HQ5.out
    rw [HZ1.out, HZ2.out] at this
    simpa [opZ, List.append_assoc] using this
set_option maxRecDepth 100000 in
set_option maxHeartbeats 16000000 in
theorem wop_1 (B b : Nat) (l : List UInt8) (nt nr ni pt pr pi : Int) (name : ByteArray) (dir : Bool) (dots : List Gst) (at_ ar ai et er ei : Int) (text : ByteArray) (elems : List Gid) (xd : Option Addr) (xdc : Nat) (xe : Option Addr) (xec : Nat) (w : World)
    (hok : okO ⟨1, ⟨⟨nt, nr⟩, ni⟩, ⟨⟨pt, pr⟩, pi⟩, name, dir, dots, ⟨⟨at_, ar⟩, ai⟩, ⟨⟨et, er⟩, ei⟩, text, elems⟩) (hdl : dots.length ≤ 200) (hel : elems.length ≤ 2000) (hnl : name.size ≤ 1000000) (htl : text.size ≤ 1000000) (hl : l.length + 3000000 ≤ 140737488355328) (hW : Wrt w B b l) (hIn : OpIn w (fun k => k < B) ⟨1, ⟨⟨nt, nr⟩, ni⟩, ⟨⟨pt, pr⟩, pi⟩, name, dir, dots, ⟨⟨at_, ar⟩, ai⟩, ⟨⟨et, er⟩, ei⟩, text, elems⟩ ⟨xd, xdc, xe, xec⟩) :
    Calls Tryd.prog 47 #[.pointer (some ⟨b, 0, none⟩), .agg #[.int .i64 1, .int .i64 nt, .int .i64 nr, .int .i64 ni, .int .i64 pt, .int .i64 pr, .int .i64 pi, .string name, .bool dir, .slice xd dots.length xdc, .int .i64 at_, .int .i64 ar, .int .i64 ai, .int .i64 et, .int .i64 er, .int .i64 ei, .string text, .slice xe elems.length xec]] w fun e w' => e = .returned (.tuple #[]) ∧ WrQ B b (l ++ opZ ⟨1, ⟨⟨nt, nr⟩, ni⟩, ⟨⟨pt, pr⟩, pi⟩, name, dir, dots, ⟨⟨at_, ar⟩, ai⟩, ⟨⟨et, er⟩, ei⟩, text, elems⟩) w w' := by
  obtain ⟨-, -, -, okn, okp, -, okd, oka, oke, -, okel⟩ := hok
  simp only at okn okp okd oka oke okel
  have hpt := hW.pt
  have HIn := Lib.hid hIn
  have HQ0 := Lib.hid ((WrQ.refl hW).alloc (by omega) (.cells #[.int .i64 1, .int .i64 nt, .int .i64 nr, .int .i64 ni, .int .i64 pt, .int .i64 pr, .int .i64 pi, .string name, .bool dir, .slice xd dots.length xdc, .int .i64 at_, .int .i64 ar, .int .i64 ai, .int .i64 et, .int .i64 er, .int .i64 ei, .string text, .slice xe elems.length xec] 31))
  have HA := Lib.hid (heap_alloc_new w (.cells #[.int .i64 1, .int .i64 nt, .int .i64 nr, .int .i64 ni, .int .i64 pt, .int .i64 pr, .int .i64 pi, .string name, .bool dir, .slice xd dots.length xdc, .int .i64 at_, .int .i64 ar, .int .i64 ai, .int .i64 et, .int .i64 er, .int .i64 ei, .string text, .slice xe elems.length xec] 31))
  have HOn := Lib.hid okn.b
  have HOp := Lib.hid okp.b
  have HOd := Lib.hid okd
  have HOa := Lib.hid oka.b
  have HOe := Lib.hid oke.b
  have HOl := Lib.hid okel
  have hz1 := idZ_le okn
  have hz2 := idZ_le okp
  have hz3 := idZ_le oka
  have hz4 := idZ_le oke
  have hbn := bytesZ_le (s := name) (by omega)
  have hbt := bytesZ_le (s := text) (by omega)
  clear hW hIn okn okp okd oka oke okel
  obtain ⟨z1, hz1e⟩ : ∃ z, z = idZ ⟨⟨nt, nr⟩, ni⟩ := ⟨_, rfl⟩
  obtain ⟨z2, hz2e⟩ : ∃ z, z = idZ ⟨⟨pt, pr⟩, pi⟩ := ⟨_, rfl⟩
  obtain ⟨z3, hz3e⟩ : ∃ z, z = idZ ⟨⟨at_, ar⟩, ai⟩ := ⟨_, rfl⟩
  obtain ⟨z4, hz4e⟩ : ∃ z, z = idZ ⟨⟨et, er⟩, ei⟩ := ⟨_, rfl⟩
  rw [← hz1e] at hz1
  rw [← hz2e] at hz2
  rw [← hz3e] at hz3
  rw [← hz4e] at hz4
  have HZ1 := Lib.hid hz1e
  have HZ2 := Lib.hid hz2e
  have HZ3 := Lib.hid hz3e
  have HZ4 := Lib.hid hz4e
  clear hz1e hz2e hz3e hz4e
  go_enter Tryd.func47, Tryd.ntmps47
  have hlk : (natZ 1).length ≤ 10 := natZ_le (by decide)
  go_wp2_with fail
  have HK1 := Lib.hid (HQ0.out.alloc (by have := HQ0.out.1.pt; omega) (.cells #[.int .i64 1] 3))
  refine (wnats_any B b l (w.heap.size + 1) [1] 1 _ (by intro y hy; simp at hy; subst hy; decide) (by simp; omega) (by simp) (by exact HK1.out.1) (by exact heap_alloc_newC _ _ (by simp)) (by have := HQ0.out.1.pt; omega)).mono ?_
  rintro e y1 ⟨rfl, hq⟩
  have HQ1 := Lib.hid (show WrQ B b (l ++ natZ 1) w y1 by have := HK1.out.trans (by exact hq); simpa using this)
  have HA1 := Lib.hid (WrQ.obj hq ((Below.heap_alloc _ _ _ (lt_of_block HA.out)).trans HA.out) (by omega) (by decide))
  clear hq HK1
  have c1_1 : y1.cell? ⟨w.heap.size, 1, none⟩ = some (.int .i64 nt) := by rw [cell_of_row _ _ _ _ _ _ HA1.out]; rfl
  have c2_1 : y1.cell? ⟨w.heap.size, 2, none⟩ = some (.int .i64 nr) := by rw [cell_of_row _ _ _ _ _ _ HA1.out]; rfl
  have c3_1 : y1.cell? ⟨w.heap.size, 3, none⟩ = some (.int .i64 ni) := by rw [cell_of_row _ _ _ _ _ _ HA1.out]; rfl
  go_wp2_with fail
  refine (wid_any B b (l ++ natZ 1) ⟨⟨nt, nr⟩, ni⟩ _ HOn.out (by simp; omega) HQ1.out.1).mono ?_
  rintro e y2 ⟨rfl, hq⟩
  have HQ2 := Lib.hid (show WrQ B b ((l ++ natZ 1) ++ z1) w y2 by have := HQ1.out.trans hq; rw [← HZ1.out] at this; exact this)
  have HA2 := Lib.hid (hq.obj HA1.out (by omega) (by decide))
  clear hq
  have c0_2 : y2.cell? ⟨w.heap.size, 0, none⟩ = some (.int .i64 1) := by rw [cell_of_row _ _ _ _ _ _ HA2.out]; rfl
  have c9_2 : y2.cell? ⟨w.heap.size, 9, none⟩ = some (.slice xd dots.length xdc) := by rw [cell_of_row _ _ _ _ _ _ HA2.out]; rfl
  have c17_2 : y2.cell? ⟨w.heap.size, 17, none⟩ = some (.slice xe elems.length xec) := by rw [cell_of_row _ _ _ _ _ _ HA2.out]; rfl
  have c4_2 : y2.cell? ⟨w.heap.size, 4, none⟩ = some (.int .i64 pt) := by rw [cell_of_row _ _ _ _ _ _ HA2.out]; rfl
  have c5_2 : y2.cell? ⟨w.heap.size, 5, none⟩ = some (.int .i64 pr) := by rw [cell_of_row _ _ _ _ _ _ HA2.out]; rfl
  have c6_2 : y2.cell? ⟨w.heap.size, 6, none⟩ = some (.int .i64 pi) := by rw [cell_of_row _ _ _ _ _ _ HA2.out]; rfl
  go_wp2_with fail
  refine (wid_any B b ((l ++ natZ 1) ++ z1) ⟨⟨pt, pr⟩, pi⟩ _ HOp.out (by simp; omega) HQ2.out.1).mono ?_
  rintro e y3 ⟨rfl, hq⟩
  have HQ3 := Lib.hid (show WrQ B b (((l ++ natZ 1) ++ z1) ++ z2) w y3 by have := HQ2.out.trans hq; rw [← HZ2.out] at this; exact this)
  have HA3 := Lib.hid (hq.obj HA2.out (by omega) (by decide))
  clear hq
  have c7_3 : y3.cell? ⟨w.heap.size, 7, none⟩ = some (.string name) := by rw [cell_of_row _ _ _ _ _ _ HA3.out]; rfl
  have c0_3 : y3.cell? ⟨w.heap.size, 0, none⟩ = some (.int .i64 1) := by rw [cell_of_row _ _ _ _ _ _ HA3.out]; rfl
  have c8_3 : y3.cell? ⟨w.heap.size, 8, none⟩ = some (.bool dir) := by rw [cell_of_row _ _ _ _ _ _ HA3.out]; rfl
  go_upto_region 7 with (fail)
  go_region_with (first
    | (go_at_call 79; refine (bytesv_any name hnl _).mono ?_; rintro e v4 ⟨P, rfl, hP, hPs, hBv⟩; have HP := Lib.hid hP; have HV4 := Lib.hid (HQ3.out.below ⟨hBv.os, hBv.tape, hBv.output, hBv.size, hBv.block⟩); have HVA4 := Lib.hid ((hBv.block w.heap.size (lt_of_block HA3.out)).trans HA3.out); clear hP hBv)
    | (go_at_call 46; refine (wstr_any B b (((l ++ natZ 1) ++ z1) ++ z2) P _ (by exact HV4.out.1) (by simp; omega) (by have := HV4.out.1.pt; omega)).mono ?_; rintro e y4 ⟨rfl, hq⟩; have HQ4 := Lib.hid (show WrQ B b ((((l ++ natZ 1) ++ z1) ++ z2) ++ bytesZ name) w y4 by have := HV4.out.trans (by exact hq); rw [HP.out] at this; exact this); have HA4 := Lib.hid (WrQ.obj hq HVA4.out (by omega) (by decide)); clear hq))
  have c0_4 : y4.cell? ⟨w.heap.size, 0, none⟩ = some (.int .i64 1) := by rw [cell_of_row _ _ _ _ _ _ HA4.out]; rfl
  have c8_4 : y4.cell? ⟨w.heap.size, 8, none⟩ = some (.bool dir) := by rw [cell_of_row _ _ _ _ _ _ HA4.out]; rfl
  go_wp2
  go_end0
  refine ⟨rfl, ?_⟩
  have := HQ4.out
  rw [HZ1.out, HZ2.out] at this
  simpa [opZ, List.append_assoc] using this
set_option maxRecDepth 100000 in
set_option maxHeartbeats 16000000 in
theorem wop_2 (B b : Nat) (l : List UInt8) (nt nr ni pt pr pi : Int) (name : ByteArray) (dir : Bool) (dots : List Gst) (at_ ar ai et er ei : Int) (text : ByteArray) (elems : List Gid) (xd : Option Addr) (xdc : Nat) (xe : Option Addr) (xec : Nat) (w : World)
    (hok : okO ⟨2, ⟨⟨nt, nr⟩, ni⟩, ⟨⟨pt, pr⟩, pi⟩, name, dir, dots, ⟨⟨at_, ar⟩, ai⟩, ⟨⟨et, er⟩, ei⟩, text, elems⟩) (hdl : dots.length ≤ 200) (hel : elems.length ≤ 2000) (hnl : name.size ≤ 1000000) (htl : text.size ≤ 1000000) (hl : l.length + 3000000 ≤ 140737488355328) (hW : Wrt w B b l) (hIn : OpIn w (fun k => k < B) ⟨2, ⟨⟨nt, nr⟩, ni⟩, ⟨⟨pt, pr⟩, pi⟩, name, dir, dots, ⟨⟨at_, ar⟩, ai⟩, ⟨⟨et, er⟩, ei⟩, text, elems⟩ ⟨xd, xdc, xe, xec⟩) :
    Calls Tryd.prog 47 #[.pointer (some ⟨b, 0, none⟩), .agg #[.int .i64 2, .int .i64 nt, .int .i64 nr, .int .i64 ni, .int .i64 pt, .int .i64 pr, .int .i64 pi, .string name, .bool dir, .slice xd dots.length xdc, .int .i64 at_, .int .i64 ar, .int .i64 ai, .int .i64 et, .int .i64 er, .int .i64 ei, .string text, .slice xe elems.length xec]] w fun e w' => e = .returned (.tuple #[]) ∧ WrQ B b (l ++ opZ ⟨2, ⟨⟨nt, nr⟩, ni⟩, ⟨⟨pt, pr⟩, pi⟩, name, dir, dots, ⟨⟨at_, ar⟩, ai⟩, ⟨⟨et, er⟩, ei⟩, text, elems⟩) w w' := by
  obtain ⟨-, -, -, okn, okp, -, okd, oka, oke, -, okel⟩ := hok
  simp only at okn okp okd oka oke okel
  have hpt := hW.pt
  have HIn := Lib.hid hIn
  have HQ0 := Lib.hid ((WrQ.refl hW).alloc (by omega) (.cells #[.int .i64 2, .int .i64 nt, .int .i64 nr, .int .i64 ni, .int .i64 pt, .int .i64 pr, .int .i64 pi, .string name, .bool dir, .slice xd dots.length xdc, .int .i64 at_, .int .i64 ar, .int .i64 ai, .int .i64 et, .int .i64 er, .int .i64 ei, .string text, .slice xe elems.length xec] 31))
  have HA := Lib.hid (heap_alloc_new w (.cells #[.int .i64 2, .int .i64 nt, .int .i64 nr, .int .i64 ni, .int .i64 pt, .int .i64 pr, .int .i64 pi, .string name, .bool dir, .slice xd dots.length xdc, .int .i64 at_, .int .i64 ar, .int .i64 ai, .int .i64 et, .int .i64 er, .int .i64 ei, .string text, .slice xe elems.length xec] 31))
  have HOn := Lib.hid okn.b
  have HOp := Lib.hid okp.b
  have HOd := Lib.hid okd
  have HOa := Lib.hid oka.b
  have HOe := Lib.hid oke.b
  have HOl := Lib.hid okel
  have hz1 := idZ_le okn
  have hz2 := idZ_le okp
  have hz3 := idZ_le oka
  have hz4 := idZ_le oke
  have hbn := bytesZ_le (s := name) (by omega)
  have hbt := bytesZ_le (s := text) (by omega)
  clear hW hIn okn okp okd oka oke okel
  obtain ⟨z1, hz1e⟩ : ∃ z, z = idZ ⟨⟨nt, nr⟩, ni⟩ := ⟨_, rfl⟩
  obtain ⟨z2, hz2e⟩ : ∃ z, z = idZ ⟨⟨pt, pr⟩, pi⟩ := ⟨_, rfl⟩
  obtain ⟨z3, hz3e⟩ : ∃ z, z = idZ ⟨⟨at_, ar⟩, ai⟩ := ⟨_, rfl⟩
  obtain ⟨z4, hz4e⟩ : ∃ z, z = idZ ⟨⟨et, er⟩, ei⟩ := ⟨_, rfl⟩
  rw [← hz1e] at hz1
  rw [← hz2e] at hz2
  rw [← hz3e] at hz3
  rw [← hz4e] at hz4
  have HZ1 := Lib.hid hz1e
  have HZ2 := Lib.hid hz2e
  have HZ3 := Lib.hid hz3e
  have HZ4 := Lib.hid hz4e
  clear hz1e hz2e hz3e hz4e
  go_enter Tryd.func47, Tryd.ntmps47
  have hlk : (natZ 2).length ≤ 10 := natZ_le (by decide)
  go_wp2_with fail
  have HK1 := Lib.hid (HQ0.out.alloc (by have := HQ0.out.1.pt; omega) (.cells #[.int .i64 2] 3))
  refine (wnats_any B b l (w.heap.size + 1) [2] 1 _ (by intro y hy; simp at hy; subst hy; decide) (by simp; omega) (by simp) (by exact HK1.out.1) (by exact heap_alloc_newC _ _ (by simp)) (by have := HQ0.out.1.pt; omega)).mono ?_
  rintro e y1 ⟨rfl, hq⟩
  have HQ1 := Lib.hid (show WrQ B b (l ++ natZ 2) w y1 by have := HK1.out.trans (by exact hq); simpa using this)
  have HA1 := Lib.hid (WrQ.obj hq ((Below.heap_alloc _ _ _ (lt_of_block HA.out)).trans HA.out) (by omega) (by decide))
  clear hq HK1
  have c1_1 : y1.cell? ⟨w.heap.size, 1, none⟩ = some (.int .i64 nt) := by rw [cell_of_row _ _ _ _ _ _ HA1.out]; rfl
  have c2_1 : y1.cell? ⟨w.heap.size, 2, none⟩ = some (.int .i64 nr) := by rw [cell_of_row _ _ _ _ _ _ HA1.out]; rfl
  have c3_1 : y1.cell? ⟨w.heap.size, 3, none⟩ = some (.int .i64 ni) := by rw [cell_of_row _ _ _ _ _ _ HA1.out]; rfl
  go_wp2_with fail
  refine (wid_any B b (l ++ natZ 2) ⟨⟨nt, nr⟩, ni⟩ _ HOn.out (by simp; omega) HQ1.out.1).mono ?_
  rintro e y2 ⟨rfl, hq⟩
  have HQ2 := Lib.hid (show WrQ B b ((l ++ natZ 2) ++ z1) w y2 by have := HQ1.out.trans hq; rw [← HZ1.out] at this; exact this)
  have HA2 := Lib.hid (hq.obj HA1.out (by omega) (by decide))
  clear hq
  have c0_2 : y2.cell? ⟨w.heap.size, 0, none⟩ = some (.int .i64 2) := by rw [cell_of_row _ _ _ _ _ _ HA2.out]; rfl
  have c9_2 : y2.cell? ⟨w.heap.size, 9, none⟩ = some (.slice xd dots.length xdc) := by rw [cell_of_row _ _ _ _ _ _ HA2.out]; rfl
  have c17_2 : y2.cell? ⟨w.heap.size, 17, none⟩ = some (.slice xe elems.length xec) := by rw [cell_of_row _ _ _ _ _ _ HA2.out]; rfl
  go_wp2_with fail
  have HK3 := Lib.hid (HQ2.out.alloc (by have := HQ2.out.1.pt; omega) (.cells #[.int .i64 (dots.length : Int)] 3))
  refine (wnats_any B b ((l ++ natZ 2) ++ z1) y2.heap.size [(dots.length : Int)] 1 _ (by intro y hy; simp at hy; subst hy; omega) (by simp; omega) (by simp) (by exact HK3.out.1) (by exact heap_alloc_newC _ _ (by simp)) (by have := HQ2.out.1.pt; omega)).mono ?_
  rintro e y3 ⟨rfl, hq⟩
  have HQ3 := Lib.hid (show WrQ B b (((l ++ natZ 2) ++ z1) ++ natZ dots.length) w y3 by have := HK3.out.trans (by exact hq); simpa using this)
  have HA3 := Lib.hid (WrQ.obj hq ((Below.heap_alloc _ _ _ (lt_of_block HA2.out)).trans HA2.out) (by omega) (by decide))
  clear hq HK3
  have c9_3 : y3.cell? ⟨w.heap.size, 9, none⟩ = some (.slice xd dots.length xdc) := by rw [cell_of_row _ _ _ _ _ _ HA3.out]; rfl
  have c17_3 : y3.cell? ⟨w.heap.size, 17, none⟩ = some (.slice xe elems.length xec) := by rw [cell_of_row _ _ _ _ _ _ HA3.out]; rfl
  have c0_3 : y3.cell? ⟨w.heap.size, 0, none⟩ = some (.int .i64 2) := by rw [cell_of_row _ _ _ _ _ _ HA3.out]; rfl
  have hzk : (natZ (dots.length : Int)).length ≤ 10 := natZ_le (by omega)
  obtain ⟨n, hn⟩ : ∃ n, n = dots.length := ⟨_, rfl⟩
  obtain ⟨P, hP⟩ : ∃ P, P = (((l ++ natZ 2) ++ z1) ++ natZ dots.length) := ⟨_, rfl⟩
  have hPl : P.length ≤ l.length + 50 := by rw [hP]; simp; omega
  have HP := Lib.hid hP
  have HN := Lib.hid hn
  clear hP
  rw [← hn] at hdl c9_3
  clear hn hzk hlk
  have HQS := Lib.hid (show WrQ B b P w y3 by rw [HP.out]; exact HQ3.out)
  have hN : (dots.length : Int) = (n : Int) := by rw [HN.out]
  try rw [hN]
  clear hN
  go_upto_region 16 with (fail)
  go_loopw [54] (fun i wr => ∃ j : Nat, j ≤ n ∧ i = .int .i64 j ∧ Hid (WrQ B b (P ++ (dots.take j).flatMap stZ) w wr)) (fun i _ => n - (RowKit.intOf i).toNat)
  case atStart => exact ⟨0, by omega, rfl, Lib.hid (by rw [List.take_zero, List.flatMap_nil, List.append_nil]; exact HQS.out)⟩
  case round =>
    obtain ⟨j, hj, rfl, HR⟩ := hrel
    by_cases hlt : j < n
    · have hjl : j < dots.length := by have := HN.out; omega
      obtain ⟨ab, ao, rfl, -, hab, d0, d1⟩ := StsS.at_ (RowG.agr HIn.out.dots ⟨HR.out.2.1.size, fun k hk _ => HR.out.2.1.block k hk⟩) (k := j) hjl
      obtain ⟨x, hx⟩ : ∃ x, x = dots.getD j .zero := ⟨_, rfl⟩
      simp only [← hx] at d0 d1
      have hxm : x ∈ dots := by rw [hx, List.getD_eq_getElem?_getD, List.getElem?_eq_getElem hjl]; exact List.getElem_mem hjl
      have hxo := HOd.out.2 x hxm
      have HT := Lib.hid (show (P ++ (dots.take j).flatMap stZ) ++ stZ x = P ++ (dots.take (j + 1)).flatMap stZ by rw [List.take_succ_eq_append_getElem hjl, List.flatMap_append, List.flatMap_singleton, hx, List.getD_eq_getElem?_getD, List.getElem?_eq_getElem hjl, List.append_assoc]; rfl)
      have hpl : (P ++ (dots.take j).flatMap stZ).length ≤ P.length + 20 * n := by
        have h1 := flat_le (z := stZ) (c := 20) (l := dots.take j) fun y hy => stZ_le (HOd.out.2 y (List.mem_of_mem_take hy))
        have h2 : (dots.take j).length ≤ n := by have := List.length_take_le j dots; omega
        have h3 : 20 * (dots.take j).length ≤ 20 * n := Nat.mul_le_mul_left _ h2
        rw [List.length_append]; omega
      have hxb : x.t < 9223372036854775808 ∧ x.r < 9223372036854775808 := ⟨hxo.1.2, hxo.2.2⟩
      obtain ⟨xt, xr⟩ := x
      simp only at d0 d1 hxb
      obtain ⟨P2, hP2⟩ : ∃ P2, P2 = P ++ (dots.take j).flatMap stZ := ⟨_, rfl⟩
      rw [← hP2] at hpl
      have HP2 := Lib.hid hP2
      have HB2 := Lib.hid hxb
      clear hP2 hx hxm hxo hjl hxb
      have HR2 := Lib.hid (show WrQ B b P2 w wr by rw [HP2.out]; exact HR.out)
      have HK := Lib.hid ((HR2.out.alloc (by have := HR2.out.1.pt; omega) (.cells #[.int .i64 xt, .int .i64 xr] 25)).alloc (by have := HR2.out.1.pt; simp; omega) (.cells (intsA [xt, xr]) 3))
      go_wp2_with fail
      refine (wnats_any B b P2 (wr.heap.size + 1) [xt, xr] 2 _ (by have := HB2.out; simp only [List.mem_cons, List.not_mem_nil, or_false]; rintro x (rfl | rfl); exact this.1; exact this.2) (by simp; omega) (by simp) HK.out.1 (heap_alloc_newC _ _ (by simp)) (by have := HR2.out.1.pt; omega)).mono ?_
      rintro e w3 ⟨rfl, hq⟩
      have HQ9 := Lib.hid (show WrQ B b (P2 ++ stZ ⟨xt, xr⟩) w w3 by have := HK.out.trans hq; simpa [stZ] using this)
      clear hq
      go_wp2
      go_roundw
      case rel => exact ⟨j + 1, by omega, by go_num, Lib.hid (by rw [← HT.out, ← HP2.out]; exact HQ9.out)⟩
      case measure => simp [RowKit.intOf]; omega
    · obtain rfl : j = n := by omega
      go_wp2
      go_end0
      refine ⟨rfl, ?_⟩
      have := HR.out
      rw [HN.out, List.take_length, HP.out, HZ1.out] at this
      simpa [opZ, List.append_assoc] using this
set_option maxRecDepth 100000 in
set_option maxHeartbeats 16000000 in
theorem wop_3 (B b : Nat) (l : List UInt8) (nt nr ni pt pr pi : Int) (name : ByteArray) (dir : Bool) (dots : List Gst) (at_ ar ai et er ei : Int) (text : ByteArray) (elems : List Gid) (xd : Option Addr) (xdc : Nat) (xe : Option Addr) (xec : Nat) (w : World)
    (hok : okO ⟨3, ⟨⟨nt, nr⟩, ni⟩, ⟨⟨pt, pr⟩, pi⟩, name, dir, dots, ⟨⟨at_, ar⟩, ai⟩, ⟨⟨et, er⟩, ei⟩, text, elems⟩) (hdl : dots.length ≤ 200) (hel : elems.length ≤ 2000) (hnl : name.size ≤ 1000000) (htl : text.size ≤ 1000000) (hl : l.length + 3000000 ≤ 140737488355328) (hW : Wrt w B b l) (hIn : OpIn w (fun k => k < B) ⟨3, ⟨⟨nt, nr⟩, ni⟩, ⟨⟨pt, pr⟩, pi⟩, name, dir, dots, ⟨⟨at_, ar⟩, ai⟩, ⟨⟨et, er⟩, ei⟩, text, elems⟩ ⟨xd, xdc, xe, xec⟩) :
    Calls Tryd.prog 47 #[.pointer (some ⟨b, 0, none⟩), .agg #[.int .i64 3, .int .i64 nt, .int .i64 nr, .int .i64 ni, .int .i64 pt, .int .i64 pr, .int .i64 pi, .string name, .bool dir, .slice xd dots.length xdc, .int .i64 at_, .int .i64 ar, .int .i64 ai, .int .i64 et, .int .i64 er, .int .i64 ei, .string text, .slice xe elems.length xec]] w fun e w' => e = .returned (.tuple #[]) ∧ WrQ B b (l ++ opZ ⟨3, ⟨⟨nt, nr⟩, ni⟩, ⟨⟨pt, pr⟩, pi⟩, name, dir, dots, ⟨⟨at_, ar⟩, ai⟩, ⟨⟨et, er⟩, ei⟩, text, elems⟩) w w' := by
  obtain ⟨-, -, -, okn, okp, -, okd, oka, oke, -, okel⟩ := hok
  simp only at okn okp okd oka oke okel
  have hpt := hW.pt
  have HIn := Lib.hid hIn
  have HQ0 := Lib.hid ((WrQ.refl hW).alloc (by omega) (.cells #[.int .i64 3, .int .i64 nt, .int .i64 nr, .int .i64 ni, .int .i64 pt, .int .i64 pr, .int .i64 pi, .string name, .bool dir, .slice xd dots.length xdc, .int .i64 at_, .int .i64 ar, .int .i64 ai, .int .i64 et, .int .i64 er, .int .i64 ei, .string text, .slice xe elems.length xec] 31))
  have HA := Lib.hid (heap_alloc_new w (.cells #[.int .i64 3, .int .i64 nt, .int .i64 nr, .int .i64 ni, .int .i64 pt, .int .i64 pr, .int .i64 pi, .string name, .bool dir, .slice xd dots.length xdc, .int .i64 at_, .int .i64 ar, .int .i64 ai, .int .i64 et, .int .i64 er, .int .i64 ei, .string text, .slice xe elems.length xec] 31))
  have HOn := Lib.hid okn.b
  have HOp := Lib.hid okp.b
  have HOd := Lib.hid okd
  have HOa := Lib.hid oka.b
  have HOe := Lib.hid oke.b
  have HOl := Lib.hid okel
  have hz1 := idZ_le okn
  have hz2 := idZ_le okp
  have hz3 := idZ_le oka
  have hz4 := idZ_le oke
  have hbn := bytesZ_le (s := name) (by omega)
  have hbt := bytesZ_le (s := text) (by omega)
  clear hW hIn okn okp okd oka oke okel
  obtain ⟨z1, hz1e⟩ : ∃ z, z = idZ ⟨⟨nt, nr⟩, ni⟩ := ⟨_, rfl⟩
  obtain ⟨z2, hz2e⟩ : ∃ z, z = idZ ⟨⟨pt, pr⟩, pi⟩ := ⟨_, rfl⟩
  obtain ⟨z3, hz3e⟩ : ∃ z, z = idZ ⟨⟨at_, ar⟩, ai⟩ := ⟨_, rfl⟩
  obtain ⟨z4, hz4e⟩ : ∃ z, z = idZ ⟨⟨et, er⟩, ei⟩ := ⟨_, rfl⟩
  rw [← hz1e] at hz1
  rw [← hz2e] at hz2
  rw [← hz3e] at hz3
  rw [← hz4e] at hz4
  have HZ1 := Lib.hid hz1e
  have HZ2 := Lib.hid hz2e
  have HZ3 := Lib.hid hz3e
  have HZ4 := Lib.hid hz4e
  clear hz1e hz2e hz3e hz4e
  go_enter Tryd.func47, Tryd.ntmps47
  have hlk : (natZ 3).length ≤ 10 := natZ_le (by decide)
  go_wp2_with fail
  have HK1 := Lib.hid (HQ0.out.alloc (by have := HQ0.out.1.pt; omega) (.cells #[.int .i64 3] 3))
  refine (wnats_any B b l (w.heap.size + 1) [3] 1 _ (by intro y hy; simp at hy; subst hy; decide) (by simp; omega) (by simp) (by exact HK1.out.1) (by exact heap_alloc_newC _ _ (by simp)) (by have := HQ0.out.1.pt; omega)).mono ?_
  rintro e y1 ⟨rfl, hq⟩
  have HQ1 := Lib.hid (show WrQ B b (l ++ natZ 3) w y1 by have := HK1.out.trans (by exact hq); simpa using this)
  have HA1 := Lib.hid (WrQ.obj hq ((Below.heap_alloc _ _ _ (lt_of_block HA.out)).trans HA.out) (by omega) (by decide))
  clear hq HK1
  have c1_1 : y1.cell? ⟨w.heap.size, 1, none⟩ = some (.int .i64 nt) := by rw [cell_of_row _ _ _ _ _ _ HA1.out]; rfl
  have c2_1 : y1.cell? ⟨w.heap.size, 2, none⟩ = some (.int .i64 nr) := by rw [cell_of_row _ _ _ _ _ _ HA1.out]; rfl
  have c3_1 : y1.cell? ⟨w.heap.size, 3, none⟩ = some (.int .i64 ni) := by rw [cell_of_row _ _ _ _ _ _ HA1.out]; rfl
  go_wp2_with fail
  refine (wid_any B b (l ++ natZ 3) ⟨⟨nt, nr⟩, ni⟩ _ HOn.out (by simp; omega) HQ1.out.1).mono ?_
  rintro e y2 ⟨rfl, hq⟩
  have HQ2 := Lib.hid (show WrQ B b ((l ++ natZ 3) ++ z1) w y2 by have := HQ1.out.trans hq; rw [← HZ1.out] at this; exact this)
  have HA2 := Lib.hid (hq.obj HA1.out (by omega) (by decide))
  clear hq
  have c0_2 : y2.cell? ⟨w.heap.size, 0, none⟩ = some (.int .i64 3) := by rw [cell_of_row _ _ _ _ _ _ HA2.out]; rfl
  have c9_2 : y2.cell? ⟨w.heap.size, 9, none⟩ = some (.slice xd dots.length xdc) := by rw [cell_of_row _ _ _ _ _ _ HA2.out]; rfl
  have c17_2 : y2.cell? ⟨w.heap.size, 17, none⟩ = some (.slice xe elems.length xec) := by rw [cell_of_row _ _ _ _ _ _ HA2.out]; rfl
  have c10_2 : y2.cell? ⟨w.heap.size, 10, none⟩ = some (.int .i64 at_) := by rw [cell_of_row _ _ _ _ _ _ HA2.out]; rfl
  have c11_2 : y2.cell? ⟨w.heap.size, 11, none⟩ = some (.int .i64 ar) := by rw [cell_of_row _ _ _ _ _ _ HA2.out]; rfl
  have c12_2 : y2.cell? ⟨w.heap.size, 12, none⟩ = some (.int .i64 ai) := by rw [cell_of_row _ _ _ _ _ _ HA2.out]; rfl
  go_wp2_with fail
  refine (wid_any B b ((l ++ natZ 3) ++ z1) ⟨⟨at_, ar⟩, ai⟩ _ HOa.out (by simp; omega) HQ2.out.1).mono ?_
  rintro e y3 ⟨rfl, hq⟩
  have HQ3 := Lib.hid (show WrQ B b (((l ++ natZ 3) ++ z1) ++ z3) w y3 by have := HQ2.out.trans hq; rw [← HZ3.out] at this; exact this)
  have HA3 := Lib.hid (hq.obj HA2.out (by omega) (by decide))
  clear hq
  have c13_3 : y3.cell? ⟨w.heap.size, 13, none⟩ = some (.int .i64 et) := by rw [cell_of_row _ _ _ _ _ _ HA3.out]; rfl
  have c14_3 : y3.cell? ⟨w.heap.size, 14, none⟩ = some (.int .i64 er) := by rw [cell_of_row _ _ _ _ _ _ HA3.out]; rfl
  have c15_3 : y3.cell? ⟨w.heap.size, 15, none⟩ = some (.int .i64 ei) := by rw [cell_of_row _ _ _ _ _ _ HA3.out]; rfl
  go_wp2_with fail
  refine (wid_any B b (((l ++ natZ 3) ++ z1) ++ z3) ⟨⟨et, er⟩, ei⟩ _ HOe.out (by simp; omega) HQ3.out.1).mono ?_
  rintro e y4 ⟨rfl, hq⟩
  have HQ4 := Lib.hid (show WrQ B b ((((l ++ natZ 3) ++ z1) ++ z3) ++ z4) w y4 by have := HQ3.out.trans hq; rw [← HZ4.out] at this; exact this)
  have HA4 := Lib.hid (hq.obj HA3.out (by omega) (by decide))
  clear hq
  have c16_4 : y4.cell? ⟨w.heap.size, 16, none⟩ = some (.string text) := by rw [cell_of_row _ _ _ _ _ _ HA4.out]; rfl
  go_upto_region 23 with (fail)
  go_region_with (first
    | (go_at_call 79; refine (bytesv_any text htl _).mono ?_; rintro e v5 ⟨P, rfl, hP, hPs, hBv⟩; have HP := Lib.hid hP; have HV5 := Lib.hid (HQ4.out.below ⟨hBv.os, hBv.tape, hBv.output, hBv.size, hBv.block⟩); have HVA5 := Lib.hid ((hBv.block w.heap.size (lt_of_block HA4.out)).trans HA4.out); clear hP hBv)
    | (go_at_call 46; refine (wstr_any B b ((((l ++ natZ 3) ++ z1) ++ z3) ++ z4) P _ (by exact HV5.out.1) (by simp; omega) (by have := HV5.out.1.pt; omega)).mono ?_; rintro e y5 ⟨rfl, hq⟩; have HQ5 := Lib.hid (show WrQ B b (((((l ++ natZ 3) ++ z1) ++ z3) ++ z4) ++ bytesZ text) w y5 by have := HV5.out.trans (by exact hq); rw [HP.out] at this; exact this); have HA5 := Lib.hid (WrQ.obj hq HVA5.out (by omega) (by decide)); clear hq))
  have c0_5 : y5.cell? ⟨w.heap.size, 0, none⟩ = some (.int .i64 3) := by rw [cell_of_row _ _ _ _ _ _ HA5.out]; rfl
  go_wp2
  go_end0
  refine ⟨rfl, ?_⟩
  have := HQ5.out
  rw [HZ1.out, HZ3.out, HZ4.out] at this
  simpa [opZ, List.append_assoc] using this
set_option maxRecDepth 100000 in
set_option maxHeartbeats 16000000 in
theorem wop_4 (B b : Nat) (l : List UInt8) (nt nr ni pt pr pi : Int) (name : ByteArray) (dir : Bool) (dots : List Gst) (at_ ar ai et er ei : Int) (text : ByteArray) (elems : List Gid) (xd : Option Addr) (xdc : Nat) (xe : Option Addr) (xec : Nat) (w : World)
    (hok : okO ⟨4, ⟨⟨nt, nr⟩, ni⟩, ⟨⟨pt, pr⟩, pi⟩, name, dir, dots, ⟨⟨at_, ar⟩, ai⟩, ⟨⟨et, er⟩, ei⟩, text, elems⟩) (hdl : dots.length ≤ 200) (hel : elems.length ≤ 2000) (hnl : name.size ≤ 1000000) (htl : text.size ≤ 1000000) (hl : l.length + 3000000 ≤ 140737488355328) (hW : Wrt w B b l) (hIn : OpIn w (fun k => k < B) ⟨4, ⟨⟨nt, nr⟩, ni⟩, ⟨⟨pt, pr⟩, pi⟩, name, dir, dots, ⟨⟨at_, ar⟩, ai⟩, ⟨⟨et, er⟩, ei⟩, text, elems⟩ ⟨xd, xdc, xe, xec⟩) :
    Calls Tryd.prog 47 #[.pointer (some ⟨b, 0, none⟩), .agg #[.int .i64 4, .int .i64 nt, .int .i64 nr, .int .i64 ni, .int .i64 pt, .int .i64 pr, .int .i64 pi, .string name, .bool dir, .slice xd dots.length xdc, .int .i64 at_, .int .i64 ar, .int .i64 ai, .int .i64 et, .int .i64 er, .int .i64 ei, .string text, .slice xe elems.length xec]] w fun e w' => e = .returned (.tuple #[]) ∧ WrQ B b (l ++ opZ ⟨4, ⟨⟨nt, nr⟩, ni⟩, ⟨⟨pt, pr⟩, pi⟩, name, dir, dots, ⟨⟨at_, ar⟩, ai⟩, ⟨⟨et, er⟩, ei⟩, text, elems⟩) w w' := by
  obtain ⟨-, -, -, okn, okp, -, okd, oka, oke, -, okel⟩ := hok
  simp only at okn okp okd oka oke okel
  have hpt := hW.pt
  have HIn := Lib.hid hIn
  have HQ0 := Lib.hid ((WrQ.refl hW).alloc (by omega) (.cells #[.int .i64 4, .int .i64 nt, .int .i64 nr, .int .i64 ni, .int .i64 pt, .int .i64 pr, .int .i64 pi, .string name, .bool dir, .slice xd dots.length xdc, .int .i64 at_, .int .i64 ar, .int .i64 ai, .int .i64 et, .int .i64 er, .int .i64 ei, .string text, .slice xe elems.length xec] 31))
  have HA := Lib.hid (heap_alloc_new w (.cells #[.int .i64 4, .int .i64 nt, .int .i64 nr, .int .i64 ni, .int .i64 pt, .int .i64 pr, .int .i64 pi, .string name, .bool dir, .slice xd dots.length xdc, .int .i64 at_, .int .i64 ar, .int .i64 ai, .int .i64 et, .int .i64 er, .int .i64 ei, .string text, .slice xe elems.length xec] 31))
  have HOn := Lib.hid okn.b
  have HOp := Lib.hid okp.b
  have HOd := Lib.hid okd
  have HOa := Lib.hid oka.b
  have HOe := Lib.hid oke.b
  have HOl := Lib.hid okel
  have hz1 := idZ_le okn
  have hz2 := idZ_le okp
  have hz3 := idZ_le oka
  have hz4 := idZ_le oke
  have hbn := bytesZ_le (s := name) (by omega)
  have hbt := bytesZ_le (s := text) (by omega)
  clear hW hIn okn okp okd oka oke okel
  obtain ⟨z1, hz1e⟩ : ∃ z, z = idZ ⟨⟨nt, nr⟩, ni⟩ := ⟨_, rfl⟩
  obtain ⟨z2, hz2e⟩ : ∃ z, z = idZ ⟨⟨pt, pr⟩, pi⟩ := ⟨_, rfl⟩
  obtain ⟨z3, hz3e⟩ : ∃ z, z = idZ ⟨⟨at_, ar⟩, ai⟩ := ⟨_, rfl⟩
  obtain ⟨z4, hz4e⟩ : ∃ z, z = idZ ⟨⟨et, er⟩, ei⟩ := ⟨_, rfl⟩
  rw [← hz1e] at hz1
  rw [← hz2e] at hz2
  rw [← hz3e] at hz3
  rw [← hz4e] at hz4
  have HZ1 := Lib.hid hz1e
  have HZ2 := Lib.hid hz2e
  have HZ3 := Lib.hid hz3e
  have HZ4 := Lib.hid hz4e
  clear hz1e hz2e hz3e hz4e
  go_enter Tryd.func47, Tryd.ntmps47
  have hlk : (natZ 4).length ≤ 10 := natZ_le (by decide)
  go_wp2_with fail
  have HK1 := Lib.hid (HQ0.out.alloc (by have := HQ0.out.1.pt; omega) (.cells #[.int .i64 4] 3))
  refine (wnats_any B b l (w.heap.size + 1) [4] 1 _ (by intro y hy; simp at hy; subst hy; decide) (by simp; omega) (by simp) (by exact HK1.out.1) (by exact heap_alloc_newC _ _ (by simp)) (by have := HQ0.out.1.pt; omega)).mono ?_
  rintro e y1 ⟨rfl, hq⟩
  have HQ1 := Lib.hid (show WrQ B b (l ++ natZ 4) w y1 by have := HK1.out.trans (by exact hq); simpa using this)
  have HA1 := Lib.hid (WrQ.obj hq ((Below.heap_alloc _ _ _ (lt_of_block HA.out)).trans HA.out) (by omega) (by decide))
  clear hq HK1
  have c1_1 : y1.cell? ⟨w.heap.size, 1, none⟩ = some (.int .i64 nt) := by rw [cell_of_row _ _ _ _ _ _ HA1.out]; rfl
  have c2_1 : y1.cell? ⟨w.heap.size, 2, none⟩ = some (.int .i64 nr) := by rw [cell_of_row _ _ _ _ _ _ HA1.out]; rfl
  have c3_1 : y1.cell? ⟨w.heap.size, 3, none⟩ = some (.int .i64 ni) := by rw [cell_of_row _ _ _ _ _ _ HA1.out]; rfl
  go_wp2_with fail
  refine (wid_any B b (l ++ natZ 4) ⟨⟨nt, nr⟩, ni⟩ _ HOn.out (by simp; omega) HQ1.out.1).mono ?_
  rintro e y2 ⟨rfl, hq⟩
  have HQ2 := Lib.hid (show WrQ B b ((l ++ natZ 4) ++ z1) w y2 by have := HQ1.out.trans hq; rw [← HZ1.out] at this; exact this)
  have HA2 := Lib.hid (hq.obj HA1.out (by omega) (by decide))
  clear hq
  have c0_2 : y2.cell? ⟨w.heap.size, 0, none⟩ = some (.int .i64 4) := by rw [cell_of_row _ _ _ _ _ _ HA2.out]; rfl
  have c9_2 : y2.cell? ⟨w.heap.size, 9, none⟩ = some (.slice xd dots.length xdc) := by rw [cell_of_row _ _ _ _ _ _ HA2.out]; rfl
  have c17_2 : y2.cell? ⟨w.heap.size, 17, none⟩ = some (.slice xe elems.length xec) := by rw [cell_of_row _ _ _ _ _ _ HA2.out]; rfl
  go_wp2_with fail
  have HK3 := Lib.hid (HQ2.out.alloc (by have := HQ2.out.1.pt; omega) (.cells #[.int .i64 (elems.length : Int)] 3))
  refine (wnats_any B b ((l ++ natZ 4) ++ z1) y2.heap.size [(elems.length : Int)] 1 _ (by intro y hy; simp at hy; subst hy; omega) (by simp; omega) (by simp) (by exact HK3.out.1) (by exact heap_alloc_newC _ _ (by simp)) (by have := HQ2.out.1.pt; omega)).mono ?_
  rintro e y3 ⟨rfl, hq⟩
  have HQ3 := Lib.hid (show WrQ B b (((l ++ natZ 4) ++ z1) ++ natZ elems.length) w y3 by have := HK3.out.trans (by exact hq); simpa using this)
  have HA3 := Lib.hid (WrQ.obj hq ((Below.heap_alloc _ _ _ (lt_of_block HA2.out)).trans HA2.out) (by omega) (by decide))
  clear hq HK3
  have c9_3 : y3.cell? ⟨w.heap.size, 9, none⟩ = some (.slice xd dots.length xdc) := by rw [cell_of_row _ _ _ _ _ _ HA3.out]; rfl
  have c17_3 : y3.cell? ⟨w.heap.size, 17, none⟩ = some (.slice xe elems.length xec) := by rw [cell_of_row _ _ _ _ _ _ HA3.out]; rfl
  have c0_3 : y3.cell? ⟨w.heap.size, 0, none⟩ = some (.int .i64 4) := by rw [cell_of_row _ _ _ _ _ _ HA3.out]; rfl
  have hzk : (natZ (elems.length : Int)).length ≤ 10 := natZ_le (by omega)
  obtain ⟨n, hn⟩ : ∃ n, n = elems.length := ⟨_, rfl⟩
  obtain ⟨P, hP⟩ : ∃ P, P = (((l ++ natZ 4) ++ z1) ++ natZ elems.length) := ⟨_, rfl⟩
  have hPl : P.length ≤ l.length + 50 := by rw [hP]; simp; omega
  have HP := Lib.hid hP
  have HN := Lib.hid hn
  clear hP
  rw [← hn] at hel c17_3
  clear hn hzk hlk
  have HQS := Lib.hid (show WrQ B b P w y3 by rw [HP.out]; exact HQ3.out)
  have hN : (elems.length : Int) = (n : Int) := by rw [HN.out]
  try rw [hN]
  clear hN
  go_upto_region 27 with (fail)
  go_loopw [94] (fun i wr => ∃ j : Nat, j ≤ n ∧ i = .int .i64 j ∧ Hid (WrQ B b (P ++ (elems.take j).flatMap idZ) w wr)) (fun i _ => n - (RowKit.intOf i).toNat)
  case atStart => exact ⟨0, by omega, rfl, Lib.hid (by rw [List.take_zero, List.flatMap_nil, List.append_nil]; exact HQS.out)⟩
  case round =>
    obtain ⟨j, hj, rfl, HR⟩ := hrel
    by_cases hlt : j < n
    · have hjl : j < elems.length := by have := HN.out; omega
      obtain ⟨ab, ao, rfl, -, hab, d0, d1, d2⟩ := IdsS.at_ (RowG.agr HIn.out.elems ⟨HR.out.2.1.size, fun k hk _ => HR.out.2.1.block k hk⟩) (k := j) hjl
      obtain ⟨x, hx⟩ : ∃ x, x = elems.getD j .zero := ⟨_, rfl⟩
      simp only [← hx] at d0 d1 d2
      have hxm : x ∈ elems := by rw [hx, List.getD_eq_getElem?_getD, List.getElem?_eq_getElem hjl]; exact List.getElem_mem hjl
      have hxo := HOl.out.2 x hxm
      have HT := Lib.hid (show (P ++ (elems.take j).flatMap idZ) ++ idZ x = P ++ (elems.take (j + 1)).flatMap idZ by rw [List.take_succ_eq_append_getElem hjl, List.flatMap_append, List.flatMap_singleton, hx, List.getD_eq_getElem?_getD, List.getElem?_eq_getElem hjl, List.append_assoc]; rfl)
      have hpl : (P ++ (elems.take j).flatMap idZ).length ≤ P.length + 30 * n := by
        have h1 := flat_le (z := idZ) (c := 30) (l := elems.take j) fun y hy => idZ_le (HOl.out.2 y (List.mem_of_mem_take hy))
        have h2 : (elems.take j).length ≤ n := by have := List.length_take_le j elems; omega
        have h3 : 30 * (elems.take j).length ≤ 30 * n := Nat.mul_le_mul_left _ h2
        rw [List.length_append]; omega
      have hxb := hxo.b
      obtain ⟨⟨xt, xr⟩, xi⟩ := x
      simp only at d0 d1 d2 hxb
      obtain ⟨P2, hP2⟩ : ∃ P2, P2 = P ++ (elems.take j).flatMap idZ := ⟨_, rfl⟩
      rw [← hP2] at hpl
      have HP2 := Lib.hid hP2
      have HB2 := Lib.hid hxb
      clear hP2 hx hxm hxo hjl hxb
      have HR2 := Lib.hid (show WrQ B b P2 w wr by rw [HP2.out]; exact HR.out)
      have HK := Lib.hid (HR2.out.alloc (by have := HR2.out.1.pt; omega) (.cells #[.int .i64 xt, .int .i64 xr, .int .i64 xi] 27))
      go_wp2_with fail
      refine (wid_any B b P2 ⟨⟨xt, xr⟩, xi⟩ _ HB2.out (by omega) HK.out.1).mono ?_
      rintro e w3 ⟨rfl, hq⟩
      have HQ9 := Lib.hid (HK.out.trans hq)
      clear hq
      go_wp2
      go_roundw
      case rel => exact ⟨j + 1, by omega, by go_num, Lib.hid (by rw [← HT.out, ← HP2.out]; exact HQ9.out)⟩
      case measure => simp [RowKit.intOf]; omega
    · obtain rfl : j = n := by omega
      go_wp2
      go_end0
      refine ⟨rfl, ?_⟩
      have := HR.out
      rw [HN.out, List.take_length, HP.out, HZ1.out] at this
      simpa [opZ, List.append_assoc] using this
theorem wop_any (B b : Nat) (l : List UInt8) (o : Gop) (x : OpX) (w : World) (hok : okO o) (hdl : o.dots.length ≤ 200) (hel : o.elems.length ≤ 2000) (hnl : o.name.size ≤ 1000000) (htl : o.text.size ≤ 1000000) (hl : l.length + 3000000 ≤ 140737488355328) (hW : Wrt w B b l) (hIn : OpIn w (fun k => k < B) o x) :
    Calls Tryd.prog 47 #[.pointer (some ⟨b, 0, none⟩), .agg (opA o x)] w fun e w' => e = .returned (.tuple #[]) ∧ WrQ B b (l ++ opZ o) w w' := by
  obtain ⟨kind, ⟨⟨nt, nr⟩, ni⟩, ⟨⟨pt, pr⟩, pi⟩, name, dir, dots, ⟨⟨at_, ar⟩, ai⟩, ⟨⟨et, er⟩, ei⟩, text, elems⟩ := o
  obtain ⟨xd, xdc, xe, xec⟩ := x
  have h0 : 0 ≤ kind := hok.1
  have h4 : kind ≤ 4 := hok.2.1
  by_cases k0 : kind = 0
  · subst k0; exact wop_0 B b l nt nr ni pt pr pi name dir dots at_ ar ai et er ei text elems xd xdc xe xec w hok hdl hel hnl htl hl hW hIn
  by_cases k1 : kind = 1
  · subst k1; exact wop_1 B b l nt nr ni pt pr pi name dir dots at_ ar ai et er ei text elems xd xdc xe xec w hok hdl hel hnl htl hl hW hIn
  by_cases k2 : kind = 2
  · subst k2; exact wop_2 B b l nt nr ni pt pr pi name dir dots at_ ar ai et er ei text elems xd xdc xe xec w hok hdl hel hnl htl hl hW hIn
  by_cases k3 : kind = 3
  · subst k3; exact wop_3 B b l nt nr ni pt pr pi name dir dots at_ ar ai et er ei text elems xd xdc xe xec w hok hdl hel hnl htl hl hW hIn
  obtain rfl : kind = 4 := by omega
  exact wop_4 B b l nt nr ni pt pr pi name dir dots at_ ar ai et er ei text elems xd xdc xe xec w hok hdl hel hnl htl hl hW hIn
end Go.Proofs.YtooaodgamakoeaaDoor
