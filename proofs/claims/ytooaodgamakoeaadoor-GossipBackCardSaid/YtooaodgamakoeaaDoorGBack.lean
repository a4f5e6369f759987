/- GossipBack: what is asked and told is read. Conditions: lengths in reach; the tables of utf8. -/
import Derived.Test.YtooaodgamakoeaaDoorGos
namespace Go.Proofs.YtooaodgamakoeaaDoor
open Go.RowKit Go.Lib Go.Sort
set_option linter.unusedVariables false
attribute [local go_sem ↓] Go.wp_at_zero Go.wp_at_succ
theorem ReadQ.ask {l : List UInt8} {v : List Int} (h : readZ l = .ask v) {w w' : World} {e : Ending} (hq : ReadQ (readZ l) w e w') : Below w.heap.size w w' ∧ ∃ A c, e = .returned (.tuple #[.bool true, .slice A v.length c, .agg #[.int .i64 0, .int .i64 0, .int .i64 0, .slice none 0 0, .int .i64 0, .int .i64 0, .slice none 0 0], .int .i64 0]) ∧ VecR w' A v ∧ v.length ≤ c ∧ c ≤ 1000000 := by
  rw [h] at hq; exact hq
theorem ReadQ.tell {l : List UInt8} {g : Grp} (h : readZ l = .tell g) {w w' : World} {e : Ending} (hq : ReadQ (readZ l) w e w') : Below w.heap.size w w' ∧ ∃ dA dc oA oc, e = .returned (.tuple #[.bool false, .slice none 0 0, .agg (grA g dA dc oA oc), .int .i64 0]) ∧ GrIn w' (fun k => w.heap.size ≤ k) g dA dc oA oc ∧ ∀ o ∈ g.ops, o.text.size ≤ 1000000 ∧ o.name.size ≤ 1000000 := by
  rw [h] at hq; exact hq
theorem ReadQ.err {l : List UInt8} {c : Int} (h : readZ l = .err c) {w w' : World} {e : Ending} (hq : ReadQ (readZ l) w e w') : Below w.heap.size w w' ∧ e = .returned (.tuple #[.bool false, .slice none 0 0, .agg #[.int .i64 0, .int .i64 0, .int .i64 0, .slice none 0 0, .int .i64 0, .int .i64 0, .slice none 0 0], .int .i64 c]) := by
  rw [h] at hq; exact hq
theorem read_ask {v : List Int} (h : vecB v = true) (hb : ∀ x ∈ v, x < 9223372036854775808) : readZ (63 :: numsZ v) = .ask v := by
  rw [readZ_cons, if_neg (by decide), if_pos (by decide), vec_num h hb]
theorem read_tell {g : Grp} (hf : fitG g) (h : chkB g = true) : readZ (33 :: grpZ g) = .tell g := by
  rw [readZ_cons, if_pos (by decide), dec_enc hf h]
theorem read_x : readZ (⟨#[120]⟩ : ByteArray).data.toList = .err 11 := by
  show readZ [120] = _
  rw [readZ_cons, if_neg (by decide), if_neg (by decide)]
theorem vec21 : vecB [2, 1] = true := by decide
theorem num21 : numsZ [2, 1] = [2, 2, 1] := by
  simp [numsZ, natZ, uvarint_small (show 1 < 128 by decide), uvarint_small (show 2 < 128 by decide)]
set_option maxRecDepth 100000 in
set_option maxHeartbeats 16000000 in
theorem awake23_any (w : World) (hTb : Tabs w) :
    Calls Tryd.prog 24 #[] w fun e w' => e = .returned (.bool true) ∧ Below w.heap.size w w' := by
  have HTb := Lib.hid hTb
  clear hTb
  obtain ⟨B1, hB1⟩ : ∃ B : ByteArray, B = ⟨(63 :: numsZ [2, 1]).toArray⟩ := ⟨_, rfl⟩
  have hl1 : B1.toList = [63, 2, 2, 1] := by rw [hB1, ByteArray.toList_eq, num21]
  obtain ⟨B2, hB2⟩ : ∃ B : ByteArray, B = ⟨(33 :: grpZ firstG).toArray⟩ := ⟨_, rfl⟩
  have HAK := Lib.hid (show ∀ (a : Nat) (W : World), VecR W (some ⟨a, 0, none⟩) [2, 1] → Calls Tryd.prog 25 #[.slice (some ⟨a, 0, none⟩) 2 2] W fun e w' => e = .returned (.tuple #[.string B1, .int .i64 0]) ∧ Below W.heap.size W w' from fun a W h => by
    have := ask_any [2, 1] (some ⟨a, 0, none⟩) 2 W (by decide) (by decide) h (fun x hx => by simp at hx; rcases hx with rfl | rfl <;> exact ⟨by decide, by decide⟩)
    unfold askV at this
    rw [if_pos vec21, ← hB1] at this
    exact this)
  have HTL := Lib.hid (show ∀ (a : Nat) (S : Nat → Prop) (W : World), GrIn W S firstG none 0 (some ⟨a, 0, none⟩) 1 → Tabs W → Calls Tryd.prog 28 #[.agg #[.int .i64 1, .int .i64 1, .int .i64 1, .slice none 0 0, .int .i64 0, .int .i64 0, .slice (some ⟨a, 0, none⟩) 1 1]] W fun e w' => e = .returned (.tuple #[.string B2, .int .i64 0]) ∧ Below W.heap.size W w' from fun a S W h1 h2 => by
    have hfo1 : ∀ o ∈ firstG.ops, o = firstO := fun o ho => by simpa [firstG] using ho
    have := tell_any firstG none 0 (some ⟨a, 0, none⟩) 1 S W h1 (fun o ho => by rw [hfo1 o ho]; decide) (fun _ o ho => by rw [hfo1 o ho]; decide) h2
    unfold tellV at this
    rw [if_pos first_chk, ← hB2] at this
    exact this)
  have HRD := Lib.hid (show readZ B2.data.toList = .tell firstG by rw [hB2]; exact read_tell first_fit first_chk)
  have HBs := Lib.hid (show B2.size ≤ 1000000 by rw [hB2, first_bytes]; simp [ByteArray.size])
  clear hB1 hB2
  go_enter Tryd.func24, Tryd.ntmps24
  go_wp2_with fail
  have hV0 : VecR (w.alloc (.cells #[.int .i64 2, .int .i64 1] 3)) (some ⟨w.heap.size, 0, none⟩) [2, 1] := fun k hk => by
    refine ⟨⟨w.heap.size, 0, none⟩, rfl, by simp, ?_⟩
    rw [add_zero', cell_of_row _ _ _ _ _ _ (heap_alloc_new w (.cells #[.int .i64 2, .int .i64 1] 3))]
    match k, hk with
    | 0, _ => rfl
    | 1, _ => rfl
  refine (HAK.out w.heap.size _ hV0).mono ?_
  rintro e w0 ⟨rfl, hB0⟩
  have HB0 := Lib.hid (show Below w.heap.size w w0 from ((Below.refl _ _).alloc (Nat.le_refl _) _).trans (hB0.mono (by simp)))
  clear hB0 hV0
  go_wp2_with fail
  refine (firstg_any w0).mono ?_
  rintro e w1 ⟨a1, rfl, hI1, hB1⟩
  have HI1 := Lib.hid hI1
  have HB1 := Lib.hid (HB0.out.trans (hB1.mono HB0.out.size))
  clear hI1 hB1
  go_wp2_with fail
  refine (HTL.out a1 _ w1 HI1.out (HTb.out.below HB1.out)).mono ?_
  rintro e w2 ⟨rfl, hB2⟩
  have HB2 := Lib.hid (HB1.out.trans (hB2.mono HB1.out.size))
  clear hB2
  go_wp2_with fail
  refine (read_any B2 w2 HBs.out (HTb.out.below HB2.out)).mono ?_
  rintro e w3 hq
  obtain ⟨hB3, dA, dc, oA, oc, he, hI3, -⟩ := ReadQ.tell HRD.out hq
  obtain rfl : e = .returned (.tuple #[.bool false, .slice none 0 0, .agg #[.int .i64 1, .int .i64 1, .int .i64 1, .slice dA 0 dc, .int .i64 0, .int .i64 0, .slice oA 1 oc], .int .i64 0]) := he
  have HI3 := Lib.hid hI3
  have HB3 := Lib.hid (HB2.out.trans (hB3.mono HB2.out.size))
  clear hI3 hB3 hq
  go_wp2_with fail
  refine (read_any (⟨#[120]⟩ : ByteArray) _ (by decide) (HTb.out.below (HB3.out.alloc HB3.out.size _))).mono ?_
  rintro e w4 hq
  obtain ⟨hB4, rfl⟩ := ReadQ.err read_x hq
  have HC4 := Lib.hid ((hB4.block w3.heap.size (by simp)).trans (heap_alloc_new w3 (.cells #[.int .i64 1, .int .i64 1, .int .i64 1, .slice dA 0 dc, .int .i64 0, .int .i64 0, .slice oA 1 oc] 34)))
  have HI4 := Lib.hid (HI3.out.agr (Agr.below (((Below.refl w3.heap.size w3).alloc (Nat.le_refl _) (.cells #[.int .i64 1, .int .i64 1, .int .i64 1, .slice dA 0 dc, .int .i64 0, .int .i64 0, .slice oA 1 oc] 34)).trans (hB4.mono (by simp)))))
  have HB4 := Lib.hid ((HB3.out.alloc HB3.out.size (.cells #[.int .i64 1, .int .i64 1, .int .i64 1, .slice dA 0 dc, .int .i64 0, .int .i64 0, .slice oA 1 oc] 34)).trans (hB4.mono (by have := HB3.out.size; simp; omega)))
  have hlt4 : w3.heap.size < w4.heap.size := lt_of_block HC4.out
  clear hB4 hq
  go_upto_region 5 with (fail)
  generalize hW : w4.alloc (.cells #[.int .i64 0, .int .i64 0, .int .i64 0, .slice none 0 0, .int .i64 0, .int .i64 0, .slice none 0 0] 34) = W
  have HCW := Lib.hid (show W.heap[w3.heap.size]? = some (.cells #[.int .i64 1, .int .i64 1, .int .i64 1, .slice dA 0 dc, .int .i64 0, .int .i64 0, .slice oA 1 oc] 34 (0, 0)) by rw [← hW]; exact (Below.heap_alloc _ _ _ hlt4).trans HC4.out)
  have HBW := Lib.hid (show Below w.heap.size w W by rw [← hW]; exact HB4.out.alloc HB4.out.size _)
  have HIW := Lib.hid (show GrIn W (fun k => w2.heap.size ≤ k) firstG dA dc oA oc by rw [← hW]; exact HI4.out.agr (Agr.below ((Below.refl _ _).alloc (Nat.le_refl _) _)))
  clear hW
  have g0 : W.cell? ⟨w3.heap.size, 0, none⟩ = some (.int .i64 1) := by rw [cell_of_row _ _ _ _ _ _ HCW.out]; rfl
  have g1 : W.cell? ⟨w3.heap.size, 1, none⟩ = some (.int .i64 1) := by rw [cell_of_row _ _ _ _ _ _ HCW.out]; rfl
  have g2 : W.cell? ⟨w3.heap.size, 2, none⟩ = some (.int .i64 1) := by rw [cell_of_row _ _ _ _ _ _ HCW.out]; rfl
  have g3 : W.cell? ⟨w3.heap.size, 3, none⟩ = some (.slice dA 0 dc) := by rw [cell_of_row _ _ _ _ _ _ HCW.out]; rfl
  have g4 : W.cell? ⟨w3.heap.size, 4, none⟩ = some (.int .i64 0) := by rw [cell_of_row _ _ _ _ _ _ HCW.out]; rfl
  have g5 : W.cell? ⟨w3.heap.size, 5, none⟩ = some (.int .i64 0) := by rw [cell_of_row _ _ _ _ _ _ HCW.out]; rfl
  have g6 : W.cell? ⟨w3.heap.size, 6, none⟩ = some (.slice oA 1 oc) := by rw [cell_of_row _ _ _ _ _ _ HCW.out]; rfl
  refine wp_region_any (by kernel_rfl) ?_
  try (change wpAny _ _ _ _ _ _ _ (World.drew _))
  refine wpAny_take (i := 0) (v := .int .i64 0) rfl (by kernel_rfl) (by kernel_rfl) (by kernel_rfl) (fun _ _ _ h => h) (Or.inl ⟨by rfl, fun w => by go_simp⟩) ?_
  go_simp
  refine wpAny_take (i := 1) (v := .bool true) rfl (by kernel_rfl) (by kernel_rfl) (by kernel_rfl) (fun _ _ _ h => h) (Or.inl ⟨by rfl, fun w => by go_simp⟩) ?_
  go_simp
  refine wpAny_take (i := 2) (v := .bool true) rfl (by kernel_rfl) (by kernel_rfl) (by kernel_rfl) (fun _ _ _ h => h) (Or.inl ⟨by rfl, fun w => by go_simp⟩) ?_
  go_simp
  refine wpAny_take (i := 3) (v := .string B1) rfl (by kernel_rfl) (by kernel_rfl) (by kernel_rfl) (fun _ _ _ h => h) (Or.inl ⟨by rfl, fun w => by go_simp⟩) ?_
  go_simp
  refine wpAny_take (i := 4) (v := .bool true) rfl (by kernel_rfl) (by kernel_rfl) (by kernel_rfl) (fun _ _ _ h => h) (Or.inl ⟨by rfl, fun w => by go_simp⟩) ?_
  go_simp
  refine wpAny_take (i := 5) (v := .bool true) rfl (by kernel_rfl) (by kernel_rfl) (by kernel_rfl) (fun _ _ _ h => h) (Or.inl ⟨by rfl, fun w => by go_simp⟩) ?_
  go_simp
  refine wpAny_take (i := 6) (v := .bool true) rfl (by kernel_rfl) (by kernel_rfl) (by kernel_rfl) (fun _ _ _ h => h) (Or.inl ⟨by rfl, fun w => by go_simp⟩) ?_
  go_simp
  refine wpAny_take (i := 7) (v := .int .i64 0) rfl (by kernel_rfl) (by kernel_rfl) (by kernel_rfl) (fun _ _ _ h => h) (Or.inl ⟨by rfl, fun w => by go_simp⟩) ?_
  go_simp
  refine wpAny_take (i := 8) (v := .bool true) rfl (by kernel_rfl) (by kernel_rfl) (by kernel_rfl) (fun _ _ _ h => h) (Or.inl ⟨by rfl, fun w => by go_simp⟩) ?_
  go_simp
  refine wpAny_take (i := 9) (v := .bool true) rfl (by kernel_rfl) (by kernel_rfl) (by kernel_rfl) (fun _ _ _ h => h) (Or.inl ⟨by rfl, fun w => by go_simp⟩) ?_
  go_simp
  refine wpAny_take (i := 10) (v := .bool true) rfl (by kernel_rfl) (by kernel_rfl) (by kernel_rfl) (fun _ _ _ h => h) (Or.inl ⟨by rfl, fun w => by go_simp⟩) ?_
  go_simp
  refine wpAny_take (i := 11) (v := .int .i64 0) rfl (by kernel_rfl) (by kernel_rfl) (by kernel_rfl) (fun _ _ _ h => h) (Or.inl ⟨by rfl, fun w => by go_simp⟩) ?_
  go_simp
  refine wpAny_take (i := 12) (v := .bool true) rfl (by kernel_rfl) (by kernel_rfl) (by kernel_rfl) (fun _ _ _ h => h) (Or.inl ⟨by rfl, fun w => by go_simp⟩) ?_
  go_simp
  refine wpAny_take (i := 13) (v := .bool true) rfl (by kernel_rfl) (by kernel_rfl) (by kernel_rfl) (fun _ _ _ h => h) (Or.inl ⟨by rfl, fun w => by go_simp⟩) ?_
  go_simp
  refine wpAny_take (i := 14) (v := .bool true) rfl (by kernel_rfl) (by kernel_rfl) (by kernel_rfl) (fun _ _ _ h => h) (Or.inl ⟨by rfl, fun w => by go_simp⟩) ?_
  go_simp
  clear hl1
  refine wpAny_ready (rs := [15, 16]) (by kernel_rfl) (by simp) ?_
  refine AllReady.cons rfl (fun K hK => ?_) (AllReady.cons rfl (fun K hK => ?_) AllReady.nil)
  · go_simp
    refine hK _ _ ?_
    clear hK K
    refine wpAny_ready (rs := [16]) (by kernel_rfl) (by simp) ?_
    refine AllReady.cons rfl (fun K hK => ?_) AllReady.nil
    go_simp
    refine (firstg_any _).mono ?_
    rintro e v1 ⟨a2, rfl, hI5, hB5⟩
    have HB5 := Lib.hid (show Below W.heap.size W v1 from ⟨hB5.os, hB5.tape, hB5.output, hB5.size, hB5.block⟩)
    have HC5 := Lib.hid ((HB5.out.block w3.heap.size (lt_of_block HCW.out)).trans HCW.out)
    have HI5 := Lib.hid hI5
    have HI6 := Lib.hid (HIW.out.agr (Agr.below HB5.out))
    clear hI5 hB5
    go_simp
    refine hK _ _ ?_
    clear hK K
    refine wpAny_ready (rs := [17]) (by kernel_rfl) (by simp) ?_
    refine AllReady.cons rfl (fun K hK => ?_) AllReady.nil
    go_simp
    refine (same_first dA oA dc oc a2 _ _ v1 HI6.out HI5.out).mono ?_
    rintro e v2 ⟨rfl, hB6⟩
    have HB6 := Lib.hid (HB5.out.trans (hB6.mono HB5.out.size))
    clear hB6
    go_simp
    refine hK _ _ ?_
    clear hK K
    refine wpAny_take (i := 18) (v := .bool true) rfl (by kernel_rfl) (by kernel_rfl) (by kernel_rfl) (fun _ _ _ h => h) (Or.inl ⟨by rfl, fun w => by go_simp⟩) ?_
    go_simp
    refine wpAny_take (i := 19) (v := .bool true) rfl (by kernel_rfl) (by kernel_rfl) (by kernel_rfl) (fun _ _ _ h => h) (Or.inl ⟨by rfl, fun w => by go_simp⟩) ?_
    go_simp
    refine wpAny_take (i := 20) (v := .int .i64 11) rfl (by kernel_rfl) (by kernel_rfl) (by kernel_rfl) (fun _ _ _ h => h) (Or.inl ⟨by rfl, fun w => by go_simp⟩) ?_
    go_simp
    refine wpAny_take (i := 21) (v := .bool true) rfl (by kernel_rfl) (by kernel_rfl) (by kernel_rfl) (fun _ _ _ h => h) (Or.inl ⟨by rfl, fun w => by go_simp⟩) ?_
    go_simp
    refine wpAny_take (i := 22) (v := .bool true) rfl (by kernel_rfl) (by kernel_rfl) (by kernel_rfl) (fun _ _ _ h => h) (Or.inl ⟨by rfl, fun w => by go_simp⟩) ?_
    go_simp
    refine wpAny_take (i := 23) (v := .bool true) rfl (by kernel_rfl) (by kernel_rfl) (by kernel_rfl) (fun _ _ _ h => h) (Or.inl ⟨by rfl, fun w => by go_simp⟩) ?_
    go_simp
    refine wpAny_done (by kernel_rfl) ?_ _
    go_simp
    go_wp2
    go_ret
    exact ⟨rfl, HBW.out.trans (HB6.out.mono HBW.out.size)⟩
  · go_simp
    refine (firstg_any _).mono ?_
    rintro e v1 ⟨a2, rfl, hI5, hB5⟩
    have HB5 := Lib.hid (show Below W.heap.size W v1 from ⟨hB5.os, hB5.tape, hB5.output, hB5.size, hB5.block⟩)
    have HC5 := Lib.hid ((HB5.out.block w3.heap.size (lt_of_block HCW.out)).trans HCW.out)
    have HI5 := Lib.hid hI5
    have HI6 := Lib.hid (HIW.out.agr (Agr.below HB5.out))
    clear hI5 hB5
    go_simp
    refine hK _ _ ?_
    clear hK K
    have p0 : v1.cell? ⟨w3.heap.size, 0, none⟩ = some (.int .i64 1) := by rw [cell_of_row _ _ _ _ _ _ HC5.out]; rfl
    have p1 : v1.cell? ⟨w3.heap.size, 1, none⟩ = some (.int .i64 1) := by rw [cell_of_row _ _ _ _ _ _ HC5.out]; rfl
    have p2 : v1.cell? ⟨w3.heap.size, 2, none⟩ = some (.int .i64 1) := by rw [cell_of_row _ _ _ _ _ _ HC5.out]; rfl
    have p3 : v1.cell? ⟨w3.heap.size, 3, none⟩ = some (.slice dA 0 dc) := by rw [cell_of_row _ _ _ _ _ _ HC5.out]; rfl
    have p4 : v1.cell? ⟨w3.heap.size, 4, none⟩ = some (.int .i64 0) := by rw [cell_of_row _ _ _ _ _ _ HC5.out]; rfl
    have p5 : v1.cell? ⟨w3.heap.size, 5, none⟩ = some (.int .i64 0) := by rw [cell_of_row _ _ _ _ _ _ HC5.out]; rfl
    have p6 : v1.cell? ⟨w3.heap.size, 6, none⟩ = some (.slice oA 1 oc) := by rw [cell_of_row _ _ _ _ _ _ HC5.out]; rfl
    refine wpAny_ready (rs := [15]) (by kernel_rfl) (by simp) ?_
    refine AllReady.cons rfl (fun K hK => ?_) AllReady.nil
    go_simp
    refine hK _ _ ?_
    clear hK K
    refine wpAny_ready (rs := [17]) (by kernel_rfl) (by simp) ?_
    refine AllReady.cons rfl (fun K hK => ?_) AllReady.nil
    go_simp
    refine (same_first dA oA dc oc a2 _ _ v1 HI6.out HI5.out).mono ?_
    rintro e v2 ⟨rfl, hB6⟩
    have HB6 := Lib.hid (HB5.out.trans (hB6.mono HB5.out.size))
    clear hB6
    go_simp
    refine hK _ _ ?_
    clear hK K
    refine wpAny_take (i := 18) (v := .bool true) rfl (by kernel_rfl) (by kernel_rfl) (by kernel_rfl) (fun _ _ _ h => h) (Or.inl ⟨by rfl, fun w => by go_simp⟩) ?_
    go_simp
    refine wpAny_take (i := 19) (v := .bool true) rfl (by kernel_rfl) (by kernel_rfl) (by kernel_rfl) (fun _ _ _ h => h) (Or.inl ⟨by rfl, fun w => by go_simp⟩) ?_
    go_simp
    refine wpAny_take (i := 20) (v := .int .i64 11) rfl (by kernel_rfl) (by kernel_rfl) (by kernel_rfl) (fun _ _ _ h => h) (Or.inl ⟨by rfl, fun w => by go_simp⟩) ?_
    go_simp
    refine wpAny_take (i := 21) (v := .bool true) rfl (by kernel_rfl) (by kernel_rfl) (by kernel_rfl) (fun _ _ _ h => h) (Or.inl ⟨by rfl, fun w => by go_simp⟩) ?_
    go_simp
    refine wpAny_take (i := 22) (v := .bool true) rfl (by kernel_rfl) (by kernel_rfl) (by kernel_rfl) (fun _ _ _ h => h) (Or.inl ⟨by rfl, fun w => by go_simp⟩) ?_
    go_simp
    refine wpAny_take (i := 23) (v := .bool true) rfl (by kernel_rfl) (by kernel_rfl) (by kernel_rfl) (fun _ _ _ h => h) (Or.inl ⟨by rfl, fun w => by go_simp⟩) ?_
    go_simp
    refine wpAny_done (by kernel_rfl) ?_ _
    go_simp
    go_wp2
    go_ret
    exact ⟨rfl, HBW.out.trans (HB6.out.mono HBW.out.size)⟩
set_option maxRecDepth 100000 in
set_option maxHeartbeats 16000000 in
theorem gback_any (v0 : List Int) (vA : Option Addr) (vc : Nat) (g : Grp) (dA oA : Option Addr) (dc oc : Nat) (w : World) (hv1 : v0.length ≤ vc) (hv2 : vc ≤ maxLen) (hv3 : VecS w (Here w) vA v0) (hv4 : ∀ y ∈ v0, i63 y) (hI : GrIn w (Here w) g dA dc oA oc) (hT1 : ∀ o ∈ g.ops, o.text.size < 9223372036854775807) (hTb : Tabs w) :
    Calls Tryd.prog 8 #[.slice vA v0.length vc, .agg (grA g dA dc oA oc)] w fun e w' => e = .returned (.bool true) ∧ Below w.heap.size w w' := by
  have hvc : vc ≤ 9223372036854775807 := by unfold maxLen at hv2; omega
  have HFIT := Lib.hid (fit_of hI)
  obtain ⟨fg, hfg⟩ : ∃ b, b = fewG g := ⟨_, rfl⟩
  have HFG := Lib.hid hfg
  have HTB := Lib.hid hTb
  have HVS := Lib.hid hv3.vec
  have HV4 := Lib.hid hv4
  have HAW := Lib.hid (show ∀ W, Below w.heap.size w W → Calls Tryd.prog 24 #[] W fun e w' => e = .returned (.bool true) ∧ Below W.heap.size W w' from fun W hB => awake23_any W (hTb.below hB))
  have HAK := Lib.hid (show ∀ W, Below w.heap.size w W → Calls Tryd.prog 25 #[.slice vA v0.length vc] W fun e w' => e = .returned (askV v0) ∧ Below W.heap.size W w' from fun W hB => ask_any v0 vA vc W hv1 hvc (HVS.out.below hB) hv4)
  have hF1 : ∀ W, Below w.heap.size w W → Calls Tryd.prog 18 #[.agg (grA g dA dc oA oc)] W fun e w' => e = .returned (.bool fg) ∧ Below W.heap.size W w' := fun W hB => by
    rw [hfg]; exact few_any g dA oA dc oc (Here w) W (hI.agr (Agr.below hB))
  have hTE : fg = true → ∀ W, Below w.heap.size w W → Calls Tryd.prog 28 #[.agg (grA g dA dc oA oc)] W fun e w' => e = .returned (tellV g) ∧ Below W.heap.size W w' := fun h1 W hB =>
    tell_any g dA dc oA oc (Here w) W (hI.agr (Agr.below hB)) hT1 (few_text (by rw [← hfg]; exact h1)) (hTb.below hB)
  have hSA : ∀ W, Below w.heap.size w W → ∀ (A B : Option Addr) (c d : Nat) (S : Nat → Prop), GrIn W S g A c B d → Calls Tryd.prog 21 #[.agg (grA g A c B d), .agg (grA g dA dc oA oc)] W fun e w' => e = .returned (.bool true) ∧ Below W.heap.size W w' := fun W hB A B c d S h => by
    have := sameg_any g g A dA B oA c dc d oc S (Here w) W h (hI.agr (Agr.below hB))
    rw [sameG_iff.2 rfl] at this
    exact this
  have HSI := Lib.hid (show ∀ W, Below w.heap.size w W → ∀ (A : Option Addr) (c : Nat), VecR W A v0 → Calls Tryd.prog 27 #[.slice vA v0.length vc, .slice A v0.length c] W fun e w' => e = .returned (.bool true) ∧ Below W.heap.size W w' from fun W hB A c h => by
    have := same_any vA A vc c v0 v0 W (by omega) (HVS.out.below hB) h
    rw [decide_eq_true rfl] at this
    exact this)
  have HCHK : Hid (∀ b, b = chkB g → (b = true → fg = true → (grpZ g).length ≤ 999000)) := Lib.hid (fun b hb h1 h2 => grpZ_few (fit_of hI) (by rw [← hfg]; exact h2) (by rw [← hb]; exact h1))
  obtain ⟨⟨t, r⟩, n, v, ⟨ut, ur⟩, ops⟩ := g
  show Calls _ _ #[.slice vA v0.length vc, .agg #[.int .i64 t, .int .i64 r, .int .i64 n, .slice dA v.length dc, .int .i64 ut, .int .i64 ur, .slice oA ops.length oc]] _ _
  have HTE := Lib.hid hTE
  have HSA := Lib.hid hSA
  have HF1 : Hid (∀ W, Below w.heap.size w W → Calls Tryd.prog 18 #[.agg #[.int .i64 t, .int .i64 r, .int .i64 n, .slice dA v.length dc, .int .i64 ut, .int .i64 ur, .slice oA ops.length oc]] W fun e w' => e = .returned (.bool fg) ∧ Below W.heap.size W w') := Lib.hid (hF1)
  clear hfg hTb hv3 hv4 hF1 hTE hSA hI hT1
  have HB0 := Lib.hid (show Below w.heap.size w (w.alloc (.cells #[.int .i64 t, .int .i64 r, .int .i64 n, .slice dA v.length dc, .int .i64 ut, .int .i64 ur, .slice oA ops.length oc] 34)) from (Below.refl _ _).alloc (Nat.le_refl _) _)
  by_cases h100 : 100 < v0.length
  · have t100 : (100 : Int) < (v0.length : Int) := by omega
    clear HF1 HTE HSA HSI HAK
    go_enter Tryd.func8, Tryd.ntmps8
    go_wp2_with fail
    refine (HAW.out _ HB0.out).mono ?_
    rintro e w1 ⟨rfl, hB1⟩
    have HB1 := Lib.hid (HB0.out.trans (hB1.mono (by simp)))
    clear hB1
    go_upto_region 4 with fail
    refine wp_plain_quiet_below ?_
    repeat (any_goals (first | go_big_quiet_step (fail) | quiet_step (fail)))
    refine wpQuiet_nil ?_
    intro _ hw'
    obtain ⟨⟨dq, osq⟩, hw''⟩ := hw'
    subst hw''
    have hBq := below_regrown w1 dq osq
    generalize grow (redrawn w1 dq) osq = wq at *
    go_wp2
    go_ret
    exact ⟨rfl, HB1.out.trans (hBq.mono HB1.out.size)⟩
  have t100 : ¬ (100 : Int) < (v0.length : Int) := by omega
  have t101 : decide ((100 : Int) < (v0.length : Int)) = false := decide_eq_false t100
  go_enter Tryd.func8, Tryd.ntmps8
  go_wp2_with fail
  refine (HAW.out _ HB0.out).mono ?_
  rintro e w1 ⟨rfl, hB1⟩
  have hG1 := (hB1.block w.heap.size (by simp)).trans (heap_alloc_new w (.cells #[.int .i64 t, .int .i64 r, .int .i64 n, .slice dA v.length dc, .int .i64 ut, .int .i64 ur, .slice oA ops.length oc] 34))
  have HG1 := Lib.hid hG1
  have HB1 := Lib.hid (HB0.out.trans (hB1.mono (by simp)))
  clear hB1
  go_upto_region 4 with fail
  have x0 := cell_regrown (w := w1) (a := ⟨w.heap.size, 0, none⟩) (v := .int .i64 t) (by rw [cell_of_row _ _ _ _ _ _ hG1]; rfl)
  have x1 := cell_regrown (w := w1) (a := ⟨w.heap.size, 1, none⟩) (v := .int .i64 r) (by rw [cell_of_row _ _ _ _ _ _ hG1]; rfl)
  have x2 := cell_regrown (w := w1) (a := ⟨w.heap.size, 2, none⟩) (v := .int .i64 n) (by rw [cell_of_row _ _ _ _ _ _ hG1]; rfl)
  have x3 := cell_regrown (w := w1) (a := ⟨w.heap.size, 3, none⟩) (v := .slice dA v.length dc) (by rw [cell_of_row _ _ _ _ _ _ hG1]; rfl)
  have x4 := cell_regrown (w := w1) (a := ⟨w.heap.size, 4, none⟩) (v := .int .i64 ut) (by rw [cell_of_row _ _ _ _ _ _ hG1]; rfl)
  have x5 := cell_regrown (w := w1) (a := ⟨w.heap.size, 5, none⟩) (v := .int .i64 ur) (by rw [cell_of_row _ _ _ _ _ _ hG1]; rfl)
  have x6 := cell_regrown (w := w1) (a := ⟨w.heap.size, 6, none⟩) (v := .slice oA ops.length oc) (by rw [cell_of_row _ _ _ _ _ _ hG1]; rfl)
  have cF : ∀ d1 os, Calls Tryd.prog 18 #[.agg #[.int .i64 t, .int .i64 r, .int .i64 n, .slice dA v.length dc, .int .i64 ut, .int .i64 ur, .slice oA ops.length oc]] (grow (redrawn w1 d1) os) fun e w'' => e = .returned (.bool fg) ∧ ∃ p : Regrown, w'' = grow (redrawn w1 p.d) p.os := fun d1 os => Calls.regrown_of (HF1.out (grow (redrawn w1 d1) os) (below_grow HB1.out HB1.out.size d1 os))
  clear hG1
  cases fg with
  | false =>
    refine wp_plain_quiet_below ?_
    repeat (any_goals (first | go_big_quiet_step (with_reducible exact cF _ _) | quiet_step (with_reducible exact cF _ _)))
    refine wpQuiet_nil ?_
    intro _ hw'
    obtain ⟨⟨dq, osq⟩, hw''⟩ := hw'
    subst hw''
    have hBq := below_regrown w1 dq osq
    generalize grow (redrawn w1 dq) osq = wq at *
    go_wp2
    go_ret
    exact ⟨rfl, HB1.out.trans (hBq.mono HB1.out.size)⟩
  | true =>
  refine wp_plain_quiet_below ?_
  repeat (any_goals (first | go_big_quiet_step (with_reducible exact cF _ _) | quiet_step (with_reducible exact cF _ _)))
  refine wpQuiet_nil ?_
  intro _ hw'
  obtain ⟨⟨dq, osq⟩, hw''⟩ := hw'
  subst hw''
  have hBq := below_regrown w1 dq osq
  generalize grow (redrawn w1 dq) osq = wq at *
  have HG2 := Lib.hid ((hBq.block w.heap.size (lt_of_block HG1.out)).trans HG1.out)
  have HB2 := Lib.hid (HB1.out.trans (hBq.mono HB1.out.size))
  clear hBq cF t100 t101 x0 x1 x2 x3 x4 x5 x6
  cases hvb : vecB v0 with
  | false =>
    have HK : Hid (∀ W, Below w.heap.size w W → Calls Tryd.prog 25 #[.slice vA v0.length vc] W fun e w' => e = .returned (.tuple #[.string ⟨#[]⟩, .int .i64 1]) ∧ Below W.heap.size W w') := Lib.hid (by have := HAK.out; unfold askV at this; rw [if_neg (by rw [hvb]; decide)] at this; exact this)
    clear HAK hvb
    go_wp2_with fail
    refine (HK.out _ HB2.out).mono ?_
    rintro e w3 ⟨rfl, hB3⟩
    have HG3 := Lib.hid ((hB3.block w.heap.size (lt_of_block HG2.out)).trans HG2.out)
    have HB3 := Lib.hid (HB2.out.trans (hB3.mono HB2.out.size))
    clear hB3
    obtain ⟨cg, hcg⟩ : ∃ b, b = chkB (⟨⟨t, r⟩, n, v, ⟨ut, ur⟩, ops⟩ : Grp) := ⟨_, rfl⟩
    have HCG := Lib.hid hcg
    clear hcg
    cases cg with
    | false =>
      have HT : Hid (∀ W, Below w.heap.size w W → Calls Tryd.prog 28 #[.agg #[.int .i64 t, .int .i64 r, .int .i64 n, .slice dA v.length dc, .int .i64 ut, .int .i64 ur, .slice oA ops.length oc]] W fun e w' => e = .returned (.tuple #[.string ⟨#[]⟩, .int .i64 80]) ∧ Below W.heap.size W w') := Lib.hid (by have := HTE.out (by first | rfl | trivial); unfold tellV at this; rw [if_neg (by rw [← HCG.out]; decide)] at this; exact this)
      clear HTE
      go_upto_region 16 with (first | (refine load_at rfl _ _ rfl w.heap.size _ _ _ rfl HG3.out Tryd.underlying34 rfl ?_ ?_; kernel_rfl) | (go_at_call 28; refine (HT.out _ HB3.out).mono ?_; rintro e w8 ⟨rfl, hB8⟩))
      have HB8 := Lib.hid (HB3.out.trans (hB8.mono HB3.out.size))
      clear hB8
      refine wp_plain_quiet_below ?_
      repeat (any_goals (first | go_big_quiet_step (fail) | quiet_step (fail)))
      refine wpQuiet_nil ?_
      intro _ hw'
      obtain ⟨⟨dq, osq⟩, hw''⟩ := hw'
      subst hw''
      have hBq := below_regrown w8 dq osq
      generalize grow (redrawn w8 dq) osq = wq at *
      go_wp2
      go_ret
      exact ⟨rfl, HB8.out.trans (hBq.mono HB8.out.size)⟩
    | true =>
      obtain ⟨Z, hZ⟩ : ∃ Z : ByteArray, Z = ⟨(33 :: grpZ (⟨⟨t, r⟩, n, v, ⟨ut, ur⟩, ops⟩ : Grp)).toArray⟩ := ⟨_, rfl⟩
      have HT : Hid (∀ W, Below w.heap.size w W → Calls Tryd.prog 28 #[.agg #[.int .i64 t, .int .i64 r, .int .i64 n, .slice dA v.length dc, .int .i64 ut, .int .i64 ur, .slice oA ops.length oc]] W fun e w' => e = .returned (.tuple #[.string Z, .int .i64 0]) ∧ Below W.heap.size W w') := Lib.hid (by have := HTE.out (by first | rfl | trivial); unfold tellV at this; rw [if_pos (by rw [← HCG.out]), ← hZ] at this; exact this)
      have HRZ := Lib.hid (show readZ Z.data.toList = .tell ⟨⟨t, r⟩, n, v, ⟨ut, ur⟩, ops⟩ by rw [hZ]; exact read_tell HFIT.out HCG.out.symm)
      have HZS := Lib.hid (show Z.size ≤ 1000000 by
        have h1 := HCHK.out _ HCG.out (by first | rfl | trivial) (by first | rfl | trivial)
        have h2 : Z.data.toList.length = Z.size := by simp
        rw [hZ] at h2
        have h3 : (⟨(33 :: grpZ (⟨⟨t, r⟩, n, v, ⟨ut, ur⟩, ops⟩ : Grp)).toArray⟩ : ByteArray).data.toList.length = (grpZ (⟨⟨t, r⟩, n, v, ⟨ut, ur⟩, ops⟩ : Grp)).length + 1 := by simp
        rw [hZ]; omega)
      clear hZ HTE
      go_wp2_with (first | (refine load_at rfl _ _ rfl w.heap.size _ _ _ rfl HG3.out Tryd.underlying34 rfl ?_ ?_; kernel_rfl) | (go_at_call 28; refine (HT.out _ HB3.out).mono ?_; rintro e w8 ⟨rfl, hB8⟩))
      have HG8 := Lib.hid ((hB8.block w.heap.size (lt_of_block HG3.out)).trans HG3.out)
      have HB8 := Lib.hid (HB3.out.trans (hB8.mono HB3.out.size))
      clear hB8
      refine (read_any Z w8 HZS.out (HTB.out.below HB8.out)).mono ?_
      rintro e w9 hq
      obtain ⟨hB9, A, c, B, d, he, hI9, -⟩ := ReadQ.tell HRZ.out hq
      obtain rfl : e = .returned (.tuple #[.bool false, .slice none 0 0, .agg #[.int .i64 t, .int .i64 r, .int .i64 n, .slice A v.length c, .int .i64 ut, .int .i64 ur, .slice B ops.length d], .int .i64 0]) := he
      have HG9 := Lib.hid ((hB9.block w.heap.size (lt_of_block HG8.out)).trans HG8.out)
      have HB9 := Lib.hid (HB8.out.trans (hB9.mono HB8.out.size))
      have HI9 := Lib.hid hI9
      clear hI9 hB9 hq
      go_upto_region 14 with fail
      generalize hW : w9.alloc (.cells #[.int .i64 t, .int .i64 r, .int .i64 n, .slice A v.length c, .int .i64 ut, .int .i64 ur, .slice B ops.length d] 34) = W
      have hGW : W.heap[w.heap.size]? = some (.cells #[.int .i64 t, .int .i64 r, .int .i64 n, .slice dA v.length dc, .int .i64 ut, .int .i64 ur, .slice oA ops.length oc] 34 (0, 0)) := by rw [← hW]; exact (Below.heap_alloc _ _ _ (lt_of_block HG9.out)).trans HG9.out
      have hHW : W.heap[w9.heap.size]? = some (.cells #[.int .i64 t, .int .i64 r, .int .i64 n, .slice A v.length c, .int .i64 ut, .int .i64 ur, .slice B ops.length d] 34 (0, 0)) := by rw [← hW]; exact heap_alloc_new _ _
      have hBW : Below w.heap.size w W := by rw [← hW]; exact HB9.out.alloc HB9.out.size _
      have hIW : GrIn W (fun k => w8.heap.size ≤ k) ⟨⟨t, r⟩, n, v, ⟨ut, ur⟩, ops⟩ A c B d := by rw [← hW]; exact HI9.out.agr (Agr.below ((Below.refl _ _).alloc (Nat.le_refl _) _))
      clear hW
      have x0 := cell_regrown (w := W) (a := ⟨w.heap.size, 0, none⟩) (v := .int .i64 t) (by rw [cell_of_row _ _ _ _ _ _ hGW]; rfl)
      have x1 := cell_regrown (w := W) (a := ⟨w.heap.size, 1, none⟩) (v := .int .i64 r) (by rw [cell_of_row _ _ _ _ _ _ hGW]; rfl)
      have x2 := cell_regrown (w := W) (a := ⟨w.heap.size, 2, none⟩) (v := .int .i64 n) (by rw [cell_of_row _ _ _ _ _ _ hGW]; rfl)
      have x3 := cell_regrown (w := W) (a := ⟨w.heap.size, 3, none⟩) (v := .slice dA v.length dc) (by rw [cell_of_row _ _ _ _ _ _ hGW]; rfl)
      have x4 := cell_regrown (w := W) (a := ⟨w.heap.size, 4, none⟩) (v := .int .i64 ut) (by rw [cell_of_row _ _ _ _ _ _ hGW]; rfl)
      have x5 := cell_regrown (w := W) (a := ⟨w.heap.size, 5, none⟩) (v := .int .i64 ur) (by rw [cell_of_row _ _ _ _ _ _ hGW]; rfl)
      have x6 := cell_regrown (w := W) (a := ⟨w.heap.size, 6, none⟩) (v := .slice oA ops.length oc) (by rw [cell_of_row _ _ _ _ _ _ hGW]; rfl)
      have y0 := cell_regrown (w := W) (a := ⟨w9.heap.size, 0, none⟩) (v := .int .i64 t) (by rw [cell_of_row _ _ _ _ _ _ hHW]; rfl)
      have y1 := cell_regrown (w := W) (a := ⟨w9.heap.size, 1, none⟩) (v := .int .i64 r) (by rw [cell_of_row _ _ _ _ _ _ hHW]; rfl)
      have y2 := cell_regrown (w := W) (a := ⟨w9.heap.size, 2, none⟩) (v := .int .i64 n) (by rw [cell_of_row _ _ _ _ _ _ hHW]; rfl)
      have y3 := cell_regrown (w := W) (a := ⟨w9.heap.size, 3, none⟩) (v := .slice A v.length c) (by rw [cell_of_row _ _ _ _ _ _ hHW]; rfl)
      have y4 := cell_regrown (w := W) (a := ⟨w9.heap.size, 4, none⟩) (v := .int .i64 ut) (by rw [cell_of_row _ _ _ _ _ _ hHW]; rfl)
      have y5 := cell_regrown (w := W) (a := ⟨w9.heap.size, 5, none⟩) (v := .int .i64 ur) (by rw [cell_of_row _ _ _ _ _ _ hHW]; rfl)
      have y6 := cell_regrown (w := W) (a := ⟨w9.heap.size, 6, none⟩) (v := .slice B ops.length d) (by rw [cell_of_row _ _ _ _ _ _ hHW]; rfl)
      have cS : ∀ d1 os, Calls Tryd.prog 21 #[.agg #[.int .i64 t, .int .i64 r, .int .i64 n, .slice A v.length c, .int .i64 ut, .int .i64 ur, .slice B ops.length d], .agg #[.int .i64 t, .int .i64 r, .int .i64 n, .slice dA v.length dc, .int .i64 ut, .int .i64 ur, .slice oA ops.length oc]] (grow (redrawn W d1) os) fun e w'' => e = .returned (.bool true) ∧ ∃ p : Regrown, w'' = grow (redrawn W p.d) p.os := fun d1 os => Calls.regrown_of (HSA.out (grow (redrawn W d1) os) (below_grow hBW hBW.size d1 os) A B c d _ (hIW.agr (Agr.below (below_regrown W d1 os))))
      have HBW := Lib.hid hBW
      clear hGW hHW hBW hIW
      refine wp_plain_quiet_below ?_
      repeat (any_goals (first | go_big_quiet_step (with_reducible exact cS _ _) | quiet_step (with_reducible exact cS _ _)))
      refine wpQuiet_nil ?_
      intro _ hw'
      obtain ⟨⟨dq, osq⟩, hw''⟩ := hw'
      subst hw''
      have hBq := below_regrown W dq osq
      generalize grow (redrawn W dq) osq = wq at *
      have HBQ := Lib.hid (HBW.out.trans (hBq.mono HBW.out.size))
      clear hBq cS x0 x1 x2 x3 x4 x5 x6 y0 y1 y2 y3 y4 y5 y6
      go_upto_region 16 with fail
      refine wp_plain_quiet_below ?_
      repeat (any_goals (first | go_big_quiet_step (fail) | quiet_step (fail)))
      refine wpQuiet_nil ?_
      intro _ hw'
      obtain ⟨⟨dq, osq⟩, hw''⟩ := hw'
      subst hw''
      have hBq := below_regrown wq dq osq
      generalize grow (redrawn wq dq) osq = wq at *
      go_wp2
      go_ret
      exact ⟨rfl, HBQ.out.trans (hBq.mono HBQ.out.size)⟩
  | true =>
    obtain ⟨Y, hY⟩ : ∃ Z : ByteArray, Z = ⟨(63 :: numsZ v0).toArray⟩ := ⟨_, rfl⟩
    have HK : Hid (∀ W, Below w.heap.size w W → Calls Tryd.prog 25 #[.slice vA v0.length vc] W fun e w' => e = .returned (.tuple #[.string Y, .int .i64 0]) ∧ Below W.heap.size W w') := Lib.hid (by have := HAK.out; unfold askV at this; rw [if_pos hvb, ← hY] at this; exact this)
    have HRY := Lib.hid (show readZ Y.data.toList = .ask v0 by rw [hY]; exact read_ask hvb (fun x hx => (HV4.out x hx).2))
    have HYS := Lib.hid (show Y.size ≤ 1000000 by
      have h1 : Y.data.toList.length = Y.size := by simp
      have h2 := flat_le (z := natZ) (l := v0) fun x hx => natZ_le (HV4.out x hx).2
      have h3 : (natZ (v0.length : Int)).length ≤ 10 := natZ_le (by omega)
      have h4 : Y.data.toList.length = (numsZ v0).length + 1 := by rw [hY]; simp
      unfold numsZ at h4
      rw [List.length_append] at h4
      omega)
    clear HAK hvb hY
    go_wp2_with fail
    refine (HK.out _ HB2.out).mono ?_
    rintro e w3 ⟨rfl, hB3⟩
    have HG3 := Lib.hid ((hB3.block w.heap.size (lt_of_block HG2.out)).trans HG2.out)
    have HB3 := Lib.hid (HB2.out.trans (hB3.mono HB2.out.size))
    clear hB3
    go_wp2_with fail
    refine (read_any Y w3 HYS.out (HTB.out.below HB3.out)).mono ?_
    rintro e w4 hq
    obtain ⟨hB4, qA, qc, rfl, hR4, hq1, hq2⟩ := ReadQ.ask HRY.out hq
    have HG4 := Lib.hid ((hB4.block w.heap.size (lt_of_block HG3.out)).trans HG3.out)
    have HB4 := Lib.hid (HB3.out.trans (hB4.mono HB3.out.size))
    have HR4 := Lib.hid hR4
    clear hB4 hR4 hq
    go_upto_region 9 with fail
    generalize hW : w4.alloc (.cells #[.int .i64 0, .int .i64 0, .int .i64 0, .slice none 0 0, .int .i64 0, .int .i64 0, .slice none 0 0] 34) = W
    have HGW := Lib.hid (show W.heap[w.heap.size]? = some (.cells #[.int .i64 t, .int .i64 r, .int .i64 n, .slice dA v.length dc, .int .i64 ut, .int .i64 ur, .slice oA ops.length oc] 34 (0, 0)) by rw [← hW]; exact (Below.heap_alloc _ _ _ (lt_of_block HG4.out)).trans HG4.out)
    have hHW : W.heap[w4.heap.size]? = some (.cells #[.int .i64 0, .int .i64 0, .int .i64 0, .slice none 0 0, .int .i64 0, .int .i64 0, .slice none 0 0] 34 (0, 0)) := by rw [← hW]; exact heap_alloc_new _ _
    have hBW : Below w.heap.size w W := by rw [← hW]; exact HB4.out.alloc HB4.out.size _
    have hRW : VecR W qA v0 := by rw [← hW]; exact HR4.out.below ((Below.refl _ _).alloc (Nat.le_refl _) _)
    clear hW
    have y0 := cell_regrown (w := W) (a := ⟨w4.heap.size, 0, none⟩) (v := .int .i64 0) (by rw [cell_of_row _ _ _ _ _ _ hHW]; rfl)
    have y1 := cell_regrown (w := W) (a := ⟨w4.heap.size, 1, none⟩) (v := .int .i64 0) (by rw [cell_of_row _ _ _ _ _ _ hHW]; rfl)
    have y2 := cell_regrown (w := W) (a := ⟨w4.heap.size, 2, none⟩) (v := .int .i64 0) (by rw [cell_of_row _ _ _ _ _ _ hHW]; rfl)
    have y3 := cell_regrown (w := W) (a := ⟨w4.heap.size, 3, none⟩) (v := .slice none 0 0) (by rw [cell_of_row _ _ _ _ _ _ hHW]; rfl)
    have y4 := cell_regrown (w := W) (a := ⟨w4.heap.size, 4, none⟩) (v := .int .i64 0) (by rw [cell_of_row _ _ _ _ _ _ hHW]; rfl)
    have y5 := cell_regrown (w := W) (a := ⟨w4.heap.size, 5, none⟩) (v := .int .i64 0) (by rw [cell_of_row _ _ _ _ _ _ hHW]; rfl)
    have y6 := cell_regrown (w := W) (a := ⟨w4.heap.size, 6, none⟩) (v := .slice none 0 0) (by rw [cell_of_row _ _ _ _ _ _ hHW]; rfl)
    have cI : ∀ d1 os, Calls Tryd.prog 27 #[.slice vA v0.length vc, .slice qA v0.length qc] (grow (redrawn W d1) os) fun e w'' => e = .returned (.bool true) ∧ ∃ p : Regrown, w'' = grow (redrawn W p.d) p.os := fun d1 os => Calls.regrown_of (HSI.out (grow (redrawn W d1) os) (below_grow hBW hBW.size d1 os) qA qc (hRW.below (below_regrown W d1 os)))
    have cZ := fun d1 os => Calls.regrown_of (same_gz (grow (redrawn W d1) os))
    have HBW := Lib.hid hBW
    clear hHW hBW hRW
    refine wp_plain_quiet_below ?_
    repeat (any_goals (first | go_big_quiet_step (first | with_reducible exact cI _ _ | with_reducible exact cZ _ _) | quiet_step (first | with_reducible exact cI _ _ | with_reducible exact cZ _ _)))
    refine wpQuiet_nil ?_
    intro _ hw'
    obtain ⟨⟨dq, osq⟩, hw''⟩ := hw'
    subst hw''
    have hBq := below_regrown W dq osq
    generalize grow (redrawn W dq) osq = wq at *
    have HG5 := Lib.hid ((hBq.block w.heap.size (lt_of_block HGW.out)).trans HGW.out)
    have HB5 := Lib.hid (HBW.out.trans (hBq.mono HBW.out.size))
    clear hBq cI cZ y0 y1 y2 y3 y4 y5 y6
    obtain ⟨cg, hcg⟩ : ∃ b, b = chkB (⟨⟨t, r⟩, n, v, ⟨ut, ur⟩, ops⟩ : Grp) := ⟨_, rfl⟩
    have HCG := Lib.hid hcg
    clear hcg
    cases cg with
    | false =>
      have HT : Hid (∀ W, Below w.heap.size w W → Calls Tryd.prog 28 #[.agg #[.int .i64 t, .int .i64 r, .int .i64 n, .slice dA v.length dc, .int .i64 ut, .int .i64 ur, .slice oA ops.length oc]] W fun e w' => e = .returned (.tuple #[.string ⟨#[]⟩, .int .i64 80]) ∧ Below W.heap.size W w') := Lib.hid (by have := HTE.out (by first | rfl | trivial); unfold tellV at this; rw [if_neg (by rw [← HCG.out]; decide)] at this; exact this)
      clear HTE
      go_upto_region 16 with (first | (refine load_at rfl _ _ rfl w.heap.size _ _ _ rfl HG5.out Tryd.underlying34 rfl ?_ ?_; kernel_rfl) | (go_at_call 28; refine (HT.out _ HB5.out).mono ?_; rintro e w8 ⟨rfl, hB8⟩))
      have HB8 := Lib.hid (HB5.out.trans (hB8.mono HB5.out.size))
      clear hB8
      refine wp_plain_quiet_below ?_
      repeat (any_goals (first | go_big_quiet_step (fail) | quiet_step (fail)))
      refine wpQuiet_nil ?_
      intro _ hw'
      obtain ⟨⟨dq, osq⟩, hw''⟩ := hw'
      subst hw''
      have hBq := below_regrown w8 dq osq
      generalize grow (redrawn w8 dq) osq = wq at *
      go_wp2
      go_ret
      exact ⟨rfl, HB8.out.trans (hBq.mono HB8.out.size)⟩
    | true =>
      obtain ⟨Z, hZ⟩ : ∃ Z : ByteArray, Z = ⟨(33 :: grpZ (⟨⟨t, r⟩, n, v, ⟨ut, ur⟩, ops⟩ : Grp)).toArray⟩ := ⟨_, rfl⟩
      have HT : Hid (∀ W, Below w.heap.size w W → Calls Tryd.prog 28 #[.agg #[.int .i64 t, .int .i64 r, .int .i64 n, .slice dA v.length dc, .int .i64 ut, .int .i64 ur, .slice oA ops.length oc]] W fun e w' => e = .returned (.tuple #[.string Z, .int .i64 0]) ∧ Below W.heap.size W w') := Lib.hid (by have := HTE.out (by first | rfl | trivial); unfold tellV at this; rw [if_pos (by rw [← HCG.out]), ← hZ] at this; exact this)
      have HRZ := Lib.hid (show readZ Z.data.toList = .tell ⟨⟨t, r⟩, n, v, ⟨ut, ur⟩, ops⟩ by rw [hZ]; exact read_tell HFIT.out HCG.out.symm)
      have HZS := Lib.hid (show Z.size ≤ 1000000 by
        have h1 := HCHK.out _ HCG.out (by first | rfl | trivial) (by first | rfl | trivial)
        have h2 : Z.data.toList.length = Z.size := by simp
        rw [hZ] at h2
        have h3 : (⟨(33 :: grpZ (⟨⟨t, r⟩, n, v, ⟨ut, ur⟩, ops⟩ : Grp)).toArray⟩ : ByteArray).data.toList.length = (grpZ (⟨⟨t, r⟩, n, v, ⟨ut, ur⟩, ops⟩ : Grp)).length + 1 := by simp
        rw [hZ]; omega)
      clear hZ HTE
      go_wp2_with (first | (refine load_at rfl _ _ rfl w.heap.size _ _ _ rfl HG5.out Tryd.underlying34 rfl ?_ ?_; kernel_rfl) | (go_at_call 28; refine (HT.out _ HB5.out).mono ?_; rintro e w8 ⟨rfl, hB8⟩))
      have HG8 := Lib.hid ((hB8.block w.heap.size (lt_of_block HG5.out)).trans HG5.out)
      have HB8 := Lib.hid (HB5.out.trans (hB8.mono HB5.out.size))
      clear hB8
      refine (read_any Z w8 HZS.out (HTB.out.below HB8.out)).mono ?_
      rintro e w9 hq
      obtain ⟨hB9, A, c, B, d, he, hI9, -⟩ := ReadQ.tell HRZ.out hq
      obtain rfl : e = .returned (.tuple #[.bool false, .slice none 0 0, .agg #[.int .i64 t, .int .i64 r, .int .i64 n, .slice A v.length c, .int .i64 ut, .int .i64 ur, .slice B ops.length d], .int .i64 0]) := he
      have HG9 := Lib.hid ((hB9.block w.heap.size (lt_of_block HG8.out)).trans HG8.out)
      have HB9 := Lib.hid (HB8.out.trans (hB9.mono HB8.out.size))
      have HI9 := Lib.hid hI9
      clear hI9 hB9 hq
      go_upto_region 14 with fail
      generalize hW : w9.alloc (.cells #[.int .i64 t, .int .i64 r, .int .i64 n, .slice A v.length c, .int .i64 ut, .int .i64 ur, .slice B ops.length d] 34) = W
      have hGW : W.heap[w.heap.size]? = some (.cells #[.int .i64 t, .int .i64 r, .int .i64 n, .slice dA v.length dc, .int .i64 ut, .int .i64 ur, .slice oA ops.length oc] 34 (0, 0)) := by rw [← hW]; exact (Below.heap_alloc _ _ _ (lt_of_block HG9.out)).trans HG9.out
      have hHW : W.heap[w9.heap.size]? = some (.cells #[.int .i64 t, .int .i64 r, .int .i64 n, .slice A v.length c, .int .i64 ut, .int .i64 ur, .slice B ops.length d] 34 (0, 0)) := by rw [← hW]; exact heap_alloc_new _ _
      have hBW : Below w.heap.size w W := by rw [← hW]; exact HB9.out.alloc HB9.out.size _
      have hIW : GrIn W (fun k => w8.heap.size ≤ k) ⟨⟨t, r⟩, n, v, ⟨ut, ur⟩, ops⟩ A c B d := by rw [← hW]; exact HI9.out.agr (Agr.below ((Below.refl _ _).alloc (Nat.le_refl _) _))
      clear hW
      have x0 := cell_regrown (w := W) (a := ⟨w.heap.size, 0, none⟩) (v := .int .i64 t) (by rw [cell_of_row _ _ _ _ _ _ hGW]; rfl)
      have x1 := cell_regrown (w := W) (a := ⟨w.heap.size, 1, none⟩) (v := .int .i64 r) (by rw [cell_of_row _ _ _ _ _ _ hGW]; rfl)
      have x2 := cell_regrown (w := W) (a := ⟨w.heap.size, 2, none⟩) (v := .int .i64 n) (by rw [cell_of_row _ _ _ _ _ _ hGW]; rfl)
      have x3 := cell_regrown (w := W) (a := ⟨w.heap.size, 3, none⟩) (v := .slice dA v.length dc) (by rw [cell_of_row _ _ _ _ _ _ hGW]; rfl)
      have x4 := cell_regrown (w := W) (a := ⟨w.heap.size, 4, none⟩) (v := .int .i64 ut) (by rw [cell_of_row _ _ _ _ _ _ hGW]; rfl)
      have x5 := cell_regrown (w := W) (a := ⟨w.heap.size, 5, none⟩) (v := .int .i64 ur) (by rw [cell_of_row _ _ _ _ _ _ hGW]; rfl)
      have x6 := cell_regrown (w := W) (a := ⟨w.heap.size, 6, none⟩) (v := .slice oA ops.length oc) (by rw [cell_of_row _ _ _ _ _ _ hGW]; rfl)
      have y0 := cell_regrown (w := W) (a := ⟨w9.heap.size, 0, none⟩) (v := .int .i64 t) (by rw [cell_of_row _ _ _ _ _ _ hHW]; rfl)
      have y1 := cell_regrown (w := W) (a := ⟨w9.heap.size, 1, none⟩) (v := .int .i64 r) (by rw [cell_of_row _ _ _ _ _ _ hHW]; rfl)
      have y2 := cell_regrown (w := W) (a := ⟨w9.heap.size, 2, none⟩) (v := .int .i64 n) (by rw [cell_of_row _ _ _ _ _ _ hHW]; rfl)
      have y3 := cell_regrown (w := W) (a := ⟨w9.heap.size, 3, none⟩) (v := .slice A v.length c) (by rw [cell_of_row _ _ _ _ _ _ hHW]; rfl)
      have y4 := cell_regrown (w := W) (a := ⟨w9.heap.size, 4, none⟩) (v := .int .i64 ut) (by rw [cell_of_row _ _ _ _ _ _ hHW]; rfl)
      have y5 := cell_regrown (w := W) (a := ⟨w9.heap.size, 5, none⟩) (v := .int .i64 ur) (by rw [cell_of_row _ _ _ _ _ _ hHW]; rfl)
      have y6 := cell_regrown (w := W) (a := ⟨w9.heap.size, 6, none⟩) (v := .slice B ops.length d) (by rw [cell_of_row _ _ _ _ _ _ hHW]; rfl)
      have cS : ∀ d1 os, Calls Tryd.prog 21 #[.agg #[.int .i64 t, .int .i64 r, .int .i64 n, .slice A v.length c, .int .i64 ut, .int .i64 ur, .slice B ops.length d], .agg #[.int .i64 t, .int .i64 r, .int .i64 n, .slice dA v.length dc, .int .i64 ut, .int .i64 ur, .slice oA ops.length oc]] (grow (redrawn W d1) os) fun e w'' => e = .returned (.bool true) ∧ ∃ p : Regrown, w'' = grow (redrawn W p.d) p.os := fun d1 os => Calls.regrown_of (HSA.out (grow (redrawn W d1) os) (below_grow hBW hBW.size d1 os) A B c d _ (hIW.agr (Agr.below (below_regrown W d1 os))))
      have HBW := Lib.hid hBW
      clear hGW hHW hBW hIW
      refine wp_plain_quiet_below ?_
      repeat (any_goals (first | go_big_quiet_step (with_reducible exact cS _ _) | quiet_step (with_reducible exact cS _ _)))
      refine wpQuiet_nil ?_
      intro _ hw'
      obtain ⟨⟨dq, osq⟩, hw''⟩ := hw'
      subst hw''
      have hBq := below_regrown W dq osq
      generalize grow (redrawn W dq) osq = wq at *
      have HBQ := Lib.hid (HBW.out.trans (hBq.mono HBW.out.size))
      clear hBq cS x0 x1 x2 x3 x4 x5 x6 y0 y1 y2 y3 y4 y5 y6
      go_upto_region 16 with fail
      refine wp_plain_quiet_below ?_
      repeat (any_goals (first | go_big_quiet_step (fail) | quiet_step (fail)))
      refine wpQuiet_nil ?_
      intro _ hw'
      obtain ⟨⟨dq, osq⟩, hw''⟩ := hw'
      subst hw''
      have hBq := below_regrown wq dq osq
      generalize grow (redrawn wq dq) osq = wq at *
      go_wp2
      go_ret
      exact ⟨rfl, HBQ.out.trans (hBq.mono HBQ.out.size)⟩
end Go.Proofs.YtooaodgamakoeaaDoor
