/- GossipBack: what is asked and told is read. Conditions: lengths in reach; the tables of utf8. -/
import Derived.Test.YteedajnikfhpjaaGreatDoorGos
namespace Go.Proofs.YteedajnikfhpjaaGreatDoor
open Go.RowKit Go.Lib Go.Sort
set_option linter.unusedVariables false
attribute [local go_sem ↓] Go.wp_at_zero Go.wp_at_succ
theorem ReadQ.ask {l : List UInt8} {v : List Int} (h : readZ l = .ask v) {w w' : World} {e : Ending} (hq : ReadQ (readZ l) w e w') : Below w.heap.size w w' ∧ ∃ A c, e = .returned (.tuple #[.bool true, .slice A v.length c, .agg #[.int .i64 0, .int .i64 0, .int .i64 0, .slice none 0 0, .int .i64 0, .int .i64 0, .slice none 0 0], .int .i64 0]) ∧ VecR w' A v ∧ v.length ≤ c ∧ c ≤ 1000000 := by
  rw [h] at hq; exact hq
theorem ReadQ.tell {l : List UInt8} {g : Grp} (h : readZ l = .tell g) {w w' : World} {e : Ending} (hq : ReadQ (readZ l) w e w') : Below w.heap.size w w' ∧ ∃ dA dc oA oc, e = .returned (.tuple #[.bool false, .slice none 0 0, .agg (grA g dA dc oA oc), .int .i64 0]) ∧ GrIn w' (fun k => w.heap.size ≤ k) g dA dc oA oc ∧ ∀ o ∈ g.ops, o.text.size ≤ 1000000 ∧ o.name.size ≤ 1000000 := by
  rw [h] at hq; exact hq
theorem ReadQ.err {l : List UInt8} {c : Int} (h : readZ l = .err c) {w w' : World} {e : Ending} (hq : ReadQ (readZ l) w e w') : Below w.heap.size w w' ∧ e = .returned (.tuple #[.bool false, .slice none 0 0, .agg #[.int .i64 0, .int .i64 0, .int .i64 0, .slice none 0 0, .int .i64 0, .int .i64 0, .slice none 0 0], .int .i64 c]) := by
  rw [h] at hq; exact hq
theorem read_ask {v : List Int} (h : vecB v = true) (hb : ∀ x ∈ v, x < 9223372036854775808) : readZ (63 :: numsZ v) = .ask v := by
  rw [readZ_cons, if_neg (by decide), if_pos (by decide), vec_num h hb]
theorem read_tell {g : Grp} (hf : fitG g) (h : chkB g = true) : readZ (33 :: grpZ g) = .tell g := by
  rw [readZ_cons, if_pos (by decide), dec_enc hf h]
theorem read_x : readZ (⟨#[120]⟩ : ByteArray).data.toList = .err 11 := by
  show readZ [120] = _
  rw [readZ_cons, if_neg (by decide), if_neg (by decide)]
theorem vec21 : vecB [2, 1] = true := by decide
theorem num21 : numsZ [2, 1] = [2, 2, 1] := by
  simp [numsZ, natZ, uvarint_small (show 1 < 128 by decide), uvarint_small (show 2 < 128 by decide)]
set_option maxRecDepth 100000 in
set_option maxHeartbeats 16000000 in
theorem awake23_any (w : World) (hTb : Tabs w) :
    Calls Tryz.prog 20 #[] w fun e w' => e = .returned (.bool true) ∧ Below w.heap.size w w' := by
  have HTb := Lib.hid hTb
  clear hTb
  obtain ⟨B1, hB1⟩ : ∃ B : ByteArray, B = ⟨(63 :: numsZ [2, 1]).toArray⟩ := ⟨_, rfl⟩
  have hl1 : B1.toList = [63, 2, 2, 1] := by rw [hB1, ByteArray.toList_eq, num21]
  obtain ⟨B2, hB2⟩ : ∃ B : ByteArray, B = ⟨(33 :: grpZ firstG).toArray⟩ := ⟨_, rfl⟩
  have HAK := Lib.hid (show ∀ (a : Nat) (W : World), VecR W (some ⟨a, 0, none⟩) [2, 1] → Calls Tryz.prog 51 #[.slice (some ⟨a, 0, none⟩) 2 2] W fun e w' => e = .returned (.tuple #[.string B1, .int .i64 0]) ∧ Below W.heap.size W w' from fun a W h => by
    have := ask_any [2, 1] (some ⟨a, 0, none⟩) 2 W (by decide) (by decide) h (fun x hx => by simp at hx; rcases hx with rfl | rfl <;> exact ⟨by decide, by decide⟩)
    unfold askV at this
    rw [if_pos vec21, ← hB1] at this
    exact this)
  have HTL := Lib.hid (show ∀ (a : Nat) (S : Nat → Prop) (W : World), GrIn W S firstG none 0 (some ⟨a, 0, none⟩) 1 → Tabs W → Calls Tryz.prog 52 #[.agg #[.int .i64 1, .int .i64 1, .int .i64 1, .slice none 0 0, .int .i64 0, .int .i64 0, .slice (some ⟨a, 0, none⟩) 1 1]] W fun e w' => e = .returned (.tuple #[.string B2, .int .i64 0]) ∧ Below W.heap.size W w' from fun a S W h1 h2 => by
    have hfo1 : ∀ o ∈ firstG.ops, o = firstO := fun o ho => by simpa [firstG] using ho
    have := tell_any firstG none 0 (some ⟨a, 0, none⟩) 1 S W h1 (fun o ho => by rw [hfo1 o ho]; decide) (fun _ o ho => by rw [hfo1 o ho]; decide) h2
    unfold tellV at this
    rw [if_pos first_chk, ← hB2] at this
    exact this)
  have HRD := Lib.hid (show readZ B2.data.toList = .tell firstG by rw [hB2]; exact read_tell first_fit first_chk)
  have HBs := Lib.hid (show B2.size ≤ 1000000 by rw [hB2, first_bytes]; simp [ByteArray.size])
  clear hB1 hB2
  go_enter Tryz.func20, Tryz.ntmps20
  go_wp2_with fail
  have hV0 : VecR (w.alloc (.cells #[.int .i64 2, .int .i64 1] 3)) (some ⟨w.heap.size, 0, none⟩) [2, 1] := fun k hk => by
    refine ⟨⟨w.heap.size, 0, none⟩, rfl, by simp, ?_⟩
    rw [add_zero', cell_of_row _ _ _ _ _ _ (heap_alloc_new w (.cells #[.int .i64 2, .int .i64 1] 3))]
    match k, hk with
    | 0, _ => rfl
    | 1, _ => rfl
  refine (HAK.out w.heap.size _ hV0).mono ?_
  rintro e w0 ⟨rfl, hB0⟩
  have HB0 := Lib.hid (show Below w.heap.size w w0 from ((Below.refl _ _).alloc (Nat.le_refl _) _).trans (hB0.mono (by simp)))
  clear hB0 hV0
  go_wp2_with fail
  refine (firstg_any w0).mono ?_
  rintro e w1 ⟨a1, rfl, hI1, hB1⟩
  have HI1 := Lib.hid hI1
  have HB1 := Lib.hid (HB0.out.trans (hB1.mono HB0.out.size))
  clear hI1 hB1
  go_wp2_with fail
  refine (HTL.out a1 _ w1 HI1.out (HTb.out.below HB1.out)).mono ?_
  rintro e w2 ⟨rfl, hB2⟩
  have HB2 := Lib.hid (HB1.out.trans (hB2.mono HB1.out.size))
  clear hB2
  go_wp2_with fail
  refine (read_any B2 w2 HBs.out (HTb.out.below HB2.out)).mono ?_
  rintro e w3 hq
  obtain ⟨hB3, dA, dc, oA, oc, he, hI3, -⟩ := ReadQ.tell HRD.out hq
  obtain rfl : e = .returned (.tuple #[.bool false, .slice none 0 0, .agg #[.int .i64 1, .int .i64 1, .int .i64 1, .slice dA 0 dc, .int .i64 0, .int .i64 0, .slice oA 1 oc], .int .i64 0]) := he
  have HI3 := Lib.hid hI3
  have HB3 := Lib.hid (HB2.out.trans (hB3.mono HB2.out.size))
  clear hI3 hB3 hq
  go_wp2_with fail
  refine (read_any (⟨#[120]⟩ : ByteArray) _ (by decide) (HTb.out.below (HB3.out.alloc HB3.out.size _))).mono ?_
  rintro e w4 hq
  obtain ⟨hB4, rfl⟩ := ReadQ.err read_x hq
  have HC4 := Lib.hid ((hB4.block w3.heap.size (by simp)).trans (heap_alloc_new w3 (.cells #[.int .i64 1, .int .i64 1, .int .i64 1, .slice dA 0 dc, .int .i64 0, .int .i64 0, .slice oA 1 oc] 40)))
  have HI4 := Lib.hid (HI3.out.agr (Agr.below (((Below.refl w3.heap.size w3).alloc (Nat.le_refl _) (.cells #[.int .i64 1, .int .i64 1, .int .i64 1, .slice dA 0 dc, .int .i64 0, .int .i64 0, .slice oA 1 oc] 40)).trans (hB4.mono (by simp)))))
  have HB4 := Lib.hid ((HB3.out.alloc HB3.out.size (.cells #[.int .i64 1, .int .i64 1, .int .i64 1, .slice dA 0 dc, .int .i64 0, .int .i64 0, .slice oA 1 oc] 40)).trans (hB4.mono (by have := HB3.out.size; simp; omega)))
  have hlt4 : w3.heap.size < w4.heap.size := lt_of_block HC4.out
  clear hB4 hq
  go_upto_region 5 with (fail)
  generalize hW : w4.alloc (.cells #[.int .i64 0, .int .i64 0, .int .i64 0, .slice none 0 0, .int .i64 0, .int .i64 0, .slice none 0 0] 40) = W
  have HCW := Lib.hid (show W.heap[w3.heap.size]? = some (.cells #[.int .i64 1, .int .i64 1, .int .i64 1, .slice dA 0 dc, .int .i64 0, .int .i64 0, .slice oA 1 oc] 40 (0, 0)) by rw [← hW]; exact (Below.heap_alloc _ _ _ hlt4).trans HC4.out)
  have HBW := Lib.hid (show Below w.heap.size w W by rw [← hW]; exact HB4.out.alloc HB4.out.size _)
  have HIW := Lib.hid (show GrIn W (fun k => w2.heap.size ≤ k) firstG dA dc oA oc by rw [← hW]; exact HI4.out.agr (Agr.below ((Below.refl _ _).alloc (Nat.le_refl _) _)))
  clear hW
  have g0 : W.cell? ⟨w3.heap.size, 0, none⟩ = some (.int .i64 1) := by rw [cell_of_row _ _ _ _ _ _ HCW.out]; rfl
  have g1 : W.cell? ⟨w3.heap.size, 1, none⟩ = some (.int .i64 1) := by rw [cell_of_row _ _ _ _ _ _ HCW.out]; rfl
  have g2 : W.cell? ⟨w3.heap.size, 2, none⟩ = some (.int .i64 1) := by rw [cell_of_row _ _ _ _ _ _ HCW.out]; rfl
  have g3 : W.cell? ⟨w3.heap.size, 3, none⟩ = some (.slice dA 0 dc) := by rw [cell_of_row _ _ _ _ _ _ HCW.out]; rfl
  have g4 : W.cell? ⟨w3.heap.size, 4, none⟩ = some (.int .i64 0) := by rw [cell_of_row _ _ _ _ _ _ HCW.out]; rfl
  have g5 : W.cell? ⟨w3.heap.size, 5, none⟩ = some (.int .i64 0) := by rw [cell_of_row _ _ _ _ _ _ HCW.out]; rfl
  have g6 : W.cell? ⟨w3.heap.size, 6, none⟩ = some (.slice oA 1 oc) := by rw [cell_of_row _ _ _ _ _ _ HCW.out]; rfl
  refine wp_region_any (by kernel_rfl) ?_
  try (change wpAny _ _ _ _ _ _ _ (World.drew _))
  refine wpAny_take (i := 0) (v := .int .i64 0) rfl (by kernel_rfl) (by kernel_rfl) (by kernel_rfl) (fun _ _ _ h => h) (Or.inl ⟨by rfl, fun w => by go_simp⟩) ?_
  go_simp
  refine wpAny_take (i := 1) (v := .bool true) rfl (by kernel_rfl) (by kernel_rfl) (by kernel_rfl) (fun _ _ _ h => h) (Or.inl ⟨by rfl, fun w => by go_simp⟩) ?_
  go_simp
  refine wpAny_take (i := 2) (v := .bool true) rfl (by kernel_rfl) (by kernel_rfl) (by kernel_rfl) (fun _ _ _ h => h) (Or.inl ⟨by rfl, fun w => by go_simp⟩) ?_
  go_simp
  refine wpAny_take (i := 3) (v := .string B1) rfl (by kernel_rfl) (by kernel_rfl) (by kernel_rfl) (fun _ _ _ h => h) (Or.inl ⟨by rfl, fun w => by go_simp⟩) ?_
  go_simp
  refine wpAny_take (i := 4) (v := .bool true) rfl (by kernel_rfl) (by kernel_rfl) (by kernel_rfl) (fun _ _ _ h => h) (Or.inl ⟨by rfl, fun w => by go_simp⟩) ?_
  go_simp
  refine wpAny_take (i := 5) (v := .bool true) rfl (by kernel_rfl) (by kernel_rfl) (by kernel_rfl) (fun _ _ _ h => h) (Or.inl ⟨by rfl, fun w => by go_simp⟩) ?_
  go_simp
  refine wpAny_take (i := 6) (v := .bool true) rfl (by kernel_rfl) (by kernel_rfl) (by kernel_rfl) (fun _ _ _ h => h) (Or.inl ⟨by rfl, fun w => by go_simp⟩) ?_
  go_simp
  refine wpAny_take (i := 7) (v := .int .i64 0) rfl (by kernel_rfl) (by kernel_rfl) (by kernel_rfl) (fun _ _ _ h => h) (Or.inl ⟨by rfl, fun w => by go_simp⟩) ?_
  go_simp
  refine wpAny_take (i := 8) (v := .bool true) rfl (by kernel_rfl) (by kernel_rfl) (by kernel_rfl) (fun _ _ _ h => h) (Or.inl ⟨by rfl, fun w => by go_simp⟩) ?_
  go_simp
  refine wpAny_take (i := 9) (v := .bool true) rfl (by kernel_rfl) (by kernel_rfl) (by kernel_rfl) (fun _ _ _ h => h) (Or.inl ⟨by rfl, fun w => by go_simp⟩) ?_
  go_simp
  refine wpAny_take (i := 10) (v := .bool true) rfl (by kernel_rfl) (by kernel_rfl) (by kernel_rfl) (fun _ _ _ h => h) (Or.inl ⟨by rfl, fun w => by go_simp⟩) ?_
  go_simp
  refine wpAny_take (i := 11) (v := .int .i64 0) rfl (by kernel_rfl) (by kernel_rfl) (by kernel_rfl) (fun _ _ _ h => h) (Or.inl ⟨by rfl, fun w => by go_simp⟩) ?_
  go_simp
  refine wpAny_take (i := 12) (v := .bool true) rfl (by kernel_rfl) (by kernel_rfl) (by kernel_rfl) (fun _ _ _ h => h) (Or.inl ⟨by rfl, fun w => by go_simp⟩) ?_
  go_simp
  refine wpAny_take (i := 13) (v := .bool true) rfl (by kernel_rfl) (by kernel_rfl) (by kernel_rfl) (fun _ _ _ h => h) (Or.inl ⟨by rfl, fun w => by go_simp⟩) ?_
  go_simp
  refine wpAny_take (i := 14) (v := .bool true) rfl (by kernel_rfl) (by kernel_rfl) (by kernel_rfl) (fun _ _ _ h => h) (Or.inl ⟨by rfl, fun w => by go_simp⟩) ?_
  go_simp
  clear hl1
  refine wpAny_ready (rs := [15, 16]) (by kernel_rfl) (by simp) ?_
  refine AllReady.cons rfl (fun K hK => ?_) (AllReady.cons rfl (fun K hK => ?_) AllReady.nil)
  · go_simp
    refine hK _ _ ?_
    clear hK K
    refine wpAny_ready (rs := [16]) (by kernel_rfl) (by simp) ?_
    refine AllReady.cons rfl (fun K hK => ?_) AllReady.nil
    go_simp
    refine (firstg_any _).mono ?_
    rintro e v1 ⟨a2, rfl, hI5, hB5⟩
    have HB5 := Lib.hid (show Below W.heap.size W v1 from ⟨hB5.os, hB5.tape, hB5.output, hB5.size, hB5.block⟩)
    have HC5 := Lib.hid ((HB5.out.block w3.heap.size (lt_of_block HCW.out)).trans HCW.out)
    have HI5 := Lib.hid hI5
    have HI6 := Lib.hid (HIW.out.agr (Agr.below HB5.out))
    clear hI5 hB5
    go_simp
    refine hK _ _ ?_
    clear hK K
    refine wpAny_ready (rs := [17]) (by kernel_rfl) (by simp) ?_
    refine AllReady.cons rfl (fun K hK => ?_) AllReady.nil
    go_simp
    refine (same_first dA oA dc oc a2 _ _ v1 HI6.out HI5.out).mono ?_
    rintro e v2 ⟨rfl, hB6⟩
    have HB6 := Lib.hid (HB5.out.trans (hB6.mono HB5.out.size))
    clear hB6
    go_simp
    refine hK _ _ ?_
    clear hK K
    refine wpAny_take (i := 18) (v := .bool true) rfl (by kernel_rfl) (by kernel_rfl) (by kernel_rfl) (fun _ _ _ h => h) (Or.inl ⟨by rfl, fun w => by go_simp⟩) ?_
    go_simp
    refine wpAny_take (i := 19) (v := .bool true) rfl (by kernel_rfl) (by kernel_rfl) (by kernel_rfl) (fun _ _ _ h => h) (Or.inl ⟨by rfl, fun w => by go_simp⟩) ?_
    go_simp
    refine wpAny_take (i := 20) (v := .int .i64 11) rfl (by kernel_rfl) (by kernel_rfl) (by kernel_rfl) (fun _ _ _ h => h) (Or.inl ⟨by rfl, fun w => by go_simp⟩) ?_
    go_simp
    refine wpAny_take (i := 21) (v := .bool true) rfl (by kernel_rfl) (by kernel_rfl) (by kernel_rfl) (fun _ _ _ h => h) (Or.inl ⟨by rfl, fun w => by go_simp⟩) ?_
    go_simp
    refine wpAny_take (i := 22) (v := .bool true) rfl (by kernel_rfl) (by kernel_rfl) (by kernel_rfl) (fun _ _ _ h => h) (Or.inl ⟨by rfl, fun w => by go_simp⟩) ?_
    go_simp
    refine wpAny_take (i := 23) (v := .bool true) rfl (by kernel_rfl) (by kernel_rfl) (by kernel_rfl) (fun _ _ _ h => h) (Or.inl ⟨by rfl, fun w => by go_simp⟩) ?_
    go_simp
    refine wpAny_done (by kernel_rfl) ?_ _
    go_simp
    go_wp2
    go_ret
    exact ⟨rfl, HBW.out.trans (HB6.out.mono HBW.out.size)⟩
  · go_simp
    refine (firstg_any _).mono ?_
    rintro e v1 ⟨a2, rfl, hI5, hB5⟩
    have HB5 := Lib.hid (show Below W.heap.size W v1 from ⟨hB5.os, hB5.tape, hB5.output, hB5.size, hB5.block⟩)
    have HC5 := Lib.hid ((HB5.out.block w3.heap.size (lt_of_block HCW.out)).trans HCW.out)
    have HI5 := Lib.hid hI5
    have HI6 := Lib.hid (HIW.out.agr (Agr.below HB5.out))
    clear hI5 hB5
    go_simp
    refine hK _ _ ?_
    clear hK K
    have p0 : v1.cell? ⟨w3.heap.size, 0, none⟩ = some (.int .i64 1) := by rw [cell_of_row _ _ _ _ _ _ HC5.out]; rfl
    have p1 : v1.cell? ⟨w3.heap.size, 1, none⟩ = some (.int .i64 1) := by rw [cell_of_row _ _ _ _ _ _ HC5.out]; rfl
    have p2 : v1.cell? ⟨w3.heap.size, 2, none⟩ = some (.int .i64 1) := by rw [cell_of_row _ _ _ _ _ _ HC5.out]; rfl
    have p3 : v1.cell? ⟨w3.heap.size, 3, none⟩ = some (.slice dA 0 dc) := by rw [cell_of_row _ _ _ _ _ _ HC5.out]; rfl
    have p4 : v1.cell? ⟨w3.heap.size, 4, none⟩ = some (.int .i64 0) := by rw [cell_of_row _ _ _ _ _ _ HC5.out]; rfl
    have p5 : v1.cell? ⟨w3.heap.size, 5, none⟩ = some (.int .i64 0) := by rw [cell_of_row _ _ _ _ _ _ HC5.out]; rfl
    have p6 : v1.cell? ⟨w3.heap.size, 6, none⟩ = some (.slice oA 1 oc) := by rw [cell_of_row _ _ _ _ _ _ HC5.out]; rfl
    refine wpAny_ready (rs := [15]) (by kernel_rfl) (by simp) ?_
    refine AllReady.cons rfl (fun K hK => ?_) AllReady.nil
    go_simp
    refine hK _ _ ?_
    clear hK K
    refine wpAny_ready (rs := [17]) (by kernel_rfl) (by simp) ?_
    refine AllReady.cons rfl (fun K hK => ?_) AllReady.nil
    go_simp
    refine (same_first dA oA dc oc a2 _ _ v1 HI6.out HI5.out).mono ?_
    rintro e v2 ⟨rfl, hB6⟩
    have HB6 := Lib.hid (HB5.out.trans (hB6.mono HB5.out.size))
    clear hB6
    go_simp
    refine hK _ _ ?_
    clear hK K
    refine wpAny_take (i := 18) (v := .bool true) rfl (by kernel_rfl) (by kernel_rfl) (by kernel_rfl) (fun _ _ _ h => h) (Or.inl ⟨by rfl, fun w => by go_simp⟩) ?_
    go_simp
    refine wpAny_take (i := 19) (v := .bool true) rfl (by kernel_rfl) (by kernel_rfl) (by kernel_rfl) (fun _ _ _ h => h) (Or.inl ⟨by rfl, fun w => by go_simp⟩) ?_
    go_simp
    refine wpAny_take (i := 20) (v := .int .i64 11) rfl (by kernel_rfl) (by kernel_rfl) (by kernel_rfl) (fun _ _ _ h => h) (Or.inl ⟨by rfl, fun w => by go_simp⟩) ?_
    go_simp
    refine wpAny_take (i := 21) (v := .bool true) rfl (by kernel_rfl) (by kernel_rfl) (by kernel_rfl) (fun _ _ _ h => h) (Or.inl ⟨by rfl, fun w => by go_simp⟩) ?_
    go_simp
    refine wpAny_take (i := 22) (v := .bool true) rfl (by kernel_rfl) (by kernel_rfl) (by kernel_rfl) (fun _ _ _ h => h) (Or.inl ⟨by rfl, fun w => by go_simp⟩) ?_
    go_simp
    refine wpAny_take (i := 23) (v := .bool true) rfl (by kernel_rfl) (by kernel_rfl) (by kernel_rfl) (fun _ _ _ h => h) (Or.inl ⟨by rfl, fun w => by go_simp⟩) ?_
    go_simp
    refine wpAny_done (by kernel_rfl) ?_ _
    go_simp
    go_wp2
    go_ret
    exact ⟨rfl, HBW.out.trans (HB6.out.mono HBW.out.size)⟩
end Go.Proofs.YteedajnikfhpjaaGreatDoor
