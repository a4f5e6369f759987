/- What any right program of wire answers. Condition: the tables of utf8. -/
import Derived.Test.YteedajnikfhpjaaGreatDoorEnc
import Derived.Test.YteedajnikfhpjaaGreatDoorSM
import Derived.Test.YteedajnikfhpjaaGreatDoorFA
namespace Go.Proofs.YteedajnikfhpjaaGreatDoor
open Go.RowKit Go.Lib Go.Sort
set_option linter.unusedVariables false
attribute [local go_sem ↓] Go.wp_at_zero Go.wp_at_succ
theorem first_chk : chkB firstG = true := by decide
theorem first_fit : fitG firstG := ⟨by decide, fun x hx => (by cases hx), fun o ho => by
  have : o = firstO := by simpa [firstG] using ho
  subst this
  exact ⟨by unfold okB; decide, by unfold okB; decide, by decide, by decide⟩⟩
theorem uv0 : uvarint 0 = [0] := uvarint_small (by decide)
theorem uv1 : uvarint 1 = [1] := uvarint_small (by decide)
theorem first_bytes : grpZ firstG = [1, 1, 1, 0, 0, 0, 1, 0, 1, 1, 0, 0, 0, 0, 1, 97, 1] := by
  simp [grpZ, numsZ, natZ, opZ, idZ, bytesZ, firstG, firstO, opO, Gid.zero, uv0, uv1, ByteArray.size]
theorem dec_more {g : Grp} (hf : fitG g) (hc : chkB g = true) {r : List UInt8} (hr : r ≠ []) : decZ (grpZ g ++ r) = none := by
  unfold decZ
  rw [grpC.put g r (chk_ok hf hc)]
  cases r with
  | nil => exact absurd rfl hr
  | cons a t => rfl
theorem DecQ.some {l : List UInt8} {g : Grp} (h : decZ l = some g) {w w' : World} {e : Ending} (hq : DecQ (decZ l) w e w') : Below w.heap.size w w' ∧ ∃ dA dc oA oc, e = .returned (.tuple #[.agg (grA g dA dc oA oc), .int .i64 0]) ∧ GrIn w' (fun k => w.heap.size ≤ k) g dA dc oA oc ∧ ∀ o ∈ g.ops, o.text.size ≤ 1000000 ∧ o.name.size ≤ 1000000 := by
  rw [h] at hq; exact hq
theorem DecQ.none {l : List UInt8} (h : decZ l = Option.none) {w w' : World} {e : Ending} (hq : DecQ (decZ l) w e w') : Below w.heap.size w w' ∧ e = .returned (.tuple #[.agg #[.int .i64 0, .int .i64 0, .int .i64 0, .slice Option.none 0 0, .int .i64 0, .int .i64 0, .slice Option.none 0 0], .int .i64 80]) := by
  rw [h] at hq; exact hq
theorem encode_first (a : Nat) (S : Nat → Prop) (w : World) (hI : GrIn w S firstG none 0 (some ⟨a, 0, none⟩) 1) (hTb : Tabs w) :
    Calls Tryz.prog 38 #[.agg #[.int .i64 1, .int .i64 1, .int .i64 1, .slice none 0 0, .int .i64 0, .int .i64 0, .slice (some ⟨a, 0, none⟩) 1 1]] w fun e w' => e = .returned (.tuple #[.string ⟨#[1, 1, 1, 0, 0, 0, 1, 0, 1, 1, 0, 0, 0, 0, 1, 97, 1]⟩, .int .i64 0]) ∧ Below w.heap.size w w' := by
  refine (encode_any firstG none 0 (some ⟨a, 0, none⟩) 1 S w hI (fun o ho => ?_) (fun _ o ho => ?_) hTb).mono ?_
  · have : o = firstO := by simpa [firstG] using ho
    subst this; decide
  · have : o = firstO := by simpa [firstG] using ho
    subst this; decide
  · rintro e w' ⟨rfl, hB⟩
    refine ⟨?_, hB⟩
    unfold encV
    rw [if_pos first_chk, first_bytes]
def firstB : ByteArray := ⟨#[1, 1, 1, 0, 0, 0, 1, 0, 1, 1, 0, 0, 0, 0, 1, 97, 1]⟩
theorem dec_first : decZ firstB.data.toList = some firstG := by
  have := dec_enc first_fit first_chk
  rw [first_bytes] at this
  exact this
theorem dec_first_x : decZ (⟨#[1, 1, 1, 0, 0, 0, 1, 0, 1, 1, 0, 0, 0, 0, 1, 97, 1, 120]⟩ : ByteArray).data.toList = none := by
  have := dec_more first_fit first_chk (r := [120]) (by simp)
  rw [first_bytes] at this
  exact this
theorem first_x : ((⟨#[1, 1, 1, 0, 0, 0, 1, 0, 1, 1, 0, 0, 0, 0, 1, 97, 1]⟩ : ByteArray) ++ (⟨#[120]⟩ : ByteArray)) = ⟨#[1, 1, 1, 0, 0, 0, 1, 0, 1, 1, 0, 0, 0, 0, 1, 97, 1, 120]⟩ := by
  apply ByteArray.ext
  rw [ByteArray.data_append]
  rfl
theorem size_x : (⟨#[1, 1, 1, 0, 0, 0, 1, 0, 1, 1, 0, 0, 0, 0, 1, 97, 1, 120]⟩ : ByteArray).size ≤ 1000000 := by
  simp [ByteArray.size]
theorem same_first (dA oA : Option Addr) (dc oc a : Nat) (S T : Nat → Prop) (w : World) (h1 : GrIn w S firstG dA dc oA oc) (h2 : GrIn w T firstG none 0 (some ⟨a, 0, none⟩) 1) :
    Calls Tryz.prog 19 #[.agg #[.int .i64 1, .int .i64 1, .int .i64 1, .slice dA 0 dc, .int .i64 0, .int .i64 0, .slice oA 1 oc], .agg #[.int .i64 1, .int .i64 1, .int .i64 1, .slice none 0 0, .int .i64 0, .int .i64 0, .slice (some ⟨a, 0, none⟩) 1 1]] w fun e w' => e = .returned (.bool true) ∧ Below w.heap.size w w' := by
  have := sameg_any firstG firstG dA none oA (some ⟨a, 0, none⟩) dc 0 oc 1 S T w h1 h2
  rw [sameG_iff.2 rfl] at this
  exact this
set_option maxRecDepth 100000 in
set_option maxHeartbeats 8000000 in
theorem awake8_any (w : World) (hTb : Tabs w) :
    Calls Tryz.prog 16 #[] w fun e w' => e = .returned (.bool true) ∧ Below w.heap.size w w' := by
  have HTb := Lib.hid hTb
  clear hTb
  obtain ⟨B, hB⟩ : ∃ B, B = firstB := ⟨_, rfl⟩
  have hlist : B.toList = [1, 1, 1, 0, 0, 0, 1, 0, 1, 1, 0, 0, 0, 0, 1, 97, 1] := by rw [hB, ByteArray.toList_eq]; rfl
  have HEn := Lib.hid (show ∀ (a : Nat) (S : Nat → Prop) (w : World), GrIn w S firstG none 0 (some ⟨a, 0, none⟩) 1 → Tabs w → Calls Tryz.prog 38 #[.agg #[.int .i64 1, .int .i64 1, .int .i64 1, .slice none 0 0, .int .i64 0, .int .i64 0, .slice (some ⟨a, 0, none⟩) 1 1]] w fun e w' => e = .returned (.tuple #[.string B, .int .i64 0]) ∧ Below w.heap.size w w' from fun a S w h1 h2 => by rw [hB]; exact encode_first a S w h1 h2)
  have HBs := Lib.hid (show B.size ≤ 1000000 by rw [hB]; simp [firstB, ByteArray.size])
  have HBd := Lib.hid (show decZ B.data.toList = some firstG by rw [hB]; exact dec_first)
  have HBx := Lib.hid (show (B ++ (⟨#[120]⟩ : ByteArray)).size ≤ 1000000 by rw [hB]; unfold firstB; rw [first_x]; exact size_x)
  have HBy := Lib.hid (show decZ (B ++ (⟨#[120]⟩ : ByteArray)).data.toList = none by rw [hB]; unfold firstB; rw [first_x]; exact dec_first_x)
  have hc2 : ¬ maxLen < B.size + 1 := by have := HBs.out; unfold maxLen; omega
  clear hB
  go_enter Tryz.func16, Tryz.ntmps16
  go_wp2_with fail
  refine (firstg_any w).mono ?_
  rintro e w1 ⟨a1, rfl, hI1, hB1⟩
  have HI1 := Lib.hid hI1
  have HB1 := Lib.hid hB1
  clear hI1 hB1
  go_wp2_with fail
  refine (HEn.out a1 _ w1 HI1.out (HTb.out.below HB1.out)).mono ?_
  rintro e w2 ⟨rfl, hB2⟩
  have HB2 := Lib.hid (HB1.out.trans (hB2.mono HB1.out.size))
  clear hB2
  go_wp2_with fail
  refine (decode_any B w2 HBs.out (HTb.out.below HB2.out)).mono ?_
  rintro e w3 hq
  obtain ⟨hB3, dA, dc, oA, oc, he, hI3, -⟩ := DecQ.some HBd.out hq
  obtain rfl : e = .returned (.tuple #[.agg #[.int .i64 1, .int .i64 1, .int .i64 1, .slice dA 0 dc, .int .i64 0, .int .i64 0, .slice oA 1 oc], .int .i64 0]) := he
  have HI3 := Lib.hid hI3
  have HB3 := Lib.hid (HB2.out.trans (hB3.mono HB2.out.size))
  clear hI3 hB3 hq
  go_wp2_with fail
  refine (decode_any (B ++ (⟨#[120]⟩ : ByteArray)) _ HBx.out (HTb.out.below (HB3.out.alloc HB3.out.size _))).mono ?_
  rintro e w4 hq
  obtain ⟨hB4, rfl⟩ := DecQ.none HBy.out hq
  have HC4 := Lib.hid ((hB4.block w3.heap.size (by simp)).trans (heap_alloc_new w3 (.cells #[.int .i64 1, .int .i64 1, .int .i64 1, .slice dA 0 dc, .int .i64 0, .int .i64 0, .slice oA 1 oc] 40)))
  have HI4 := Lib.hid (HI3.out.agr (Agr.below (((Below.refl w3.heap.size w3).alloc (Nat.le_refl _) (.cells #[.int .i64 1, .int .i64 1, .int .i64 1, .slice dA 0 dc, .int .i64 0, .int .i64 0, .slice oA 1 oc] 40)).trans (hB4.mono (by simp)))))
  have HB4 := Lib.hid ((HB3.out.alloc HB3.out.size (.cells #[.int .i64 1, .int .i64 1, .int .i64 1, .slice dA 0 dc, .int .i64 0, .int .i64 0, .slice oA 1 oc] 40)).trans (hB4.mono (by have := HB3.out.size; simp; omega)))
  have hlt4 : w3.heap.size < w4.heap.size := lt_of_block HC4.out
  clear hB4 hq
  go_upto_region 4 with (fail)
  generalize hW : w4.alloc (.cells #[.int .i64 0, .int .i64 0, .int .i64 0, .slice none 0 0, .int .i64 0, .int .i64 0, .slice none 0 0] 40) = W
  have HCW := Lib.hid (show W.heap[w3.heap.size]? = some (.cells #[.int .i64 1, .int .i64 1, .int .i64 1, .slice dA 0 dc, .int .i64 0, .int .i64 0, .slice oA 1 oc] 40 (0, 0)) by rw [← hW]; exact (Below.heap_alloc _ _ _ hlt4).trans HC4.out)
  have HBW := Lib.hid (show Below w.heap.size w W by rw [← hW]; exact HB4.out.alloc HB4.out.size _)
  have HIW := Lib.hid (show GrIn W (fun k => w2.heap.size ≤ k) firstG dA dc oA oc by rw [← hW]; exact HI4.out.agr (Agr.below ((Below.refl _ _).alloc (Nat.le_refl _) _)))
  clear hW
  have g0 : W.cell? ⟨w3.heap.size, 0, none⟩ = some (.int .i64 1) := by rw [cell_of_row _ _ _ _ _ _ HCW.out]; rfl
  have g1 : W.cell? ⟨w3.heap.size, 1, none⟩ = some (.int .i64 1) := by rw [cell_of_row _ _ _ _ _ _ HCW.out]; rfl
  have g2 : W.cell? ⟨w3.heap.size, 2, none⟩ = some (.int .i64 1) := by rw [cell_of_row _ _ _ _ _ _ HCW.out]; rfl
  have g3 : W.cell? ⟨w3.heap.size, 3, none⟩ = some (.slice dA 0 dc) := by rw [cell_of_row _ _ _ _ _ _ HCW.out]; rfl
  have g4 : W.cell? ⟨w3.heap.size, 4, none⟩ = some (.int .i64 0) := by rw [cell_of_row _ _ _ _ _ _ HCW.out]; rfl
  have g5 : W.cell? ⟨w3.heap.size, 5, none⟩ = some (.int .i64 0) := by rw [cell_of_row _ _ _ _ _ _ HCW.out]; rfl
  have g6 : W.cell? ⟨w3.heap.size, 6, none⟩ = some (.slice oA 1 oc) := by rw [cell_of_row _ _ _ _ _ _ HCW.out]; rfl
  refine wp_region_any (by kernel_rfl) ?_
  try (change wpAny _ _ _ _ _ _ _ (World.drew _))
  refine wpAny_take (i := 0) (v := .int .i64 0) rfl (by kernel_rfl) (by kernel_rfl) (by kernel_rfl) (fun _ _ _ h => h) (Or.inl ⟨by rfl, fun w => by go_simp⟩) ?_
  go_simp
  refine wpAny_take (i := 1) (v := .bool true) rfl (by kernel_rfl) (by kernel_rfl) (by kernel_rfl) (fun _ _ _ h => h) (Or.inl ⟨by rfl, fun w => by go_simp⟩) ?_
  go_simp
  refine wpAny_take (i := 2) (v := .bool true) rfl (by kernel_rfl) (by kernel_rfl) (by kernel_rfl) (fun _ _ _ h => h) (Or.inl ⟨by rfl, fun w => by go_simp⟩) ?_
  go_simp
  refine wpAny_take (i := 3) (v := .string B) rfl (by kernel_rfl) (by kernel_rfl) (by kernel_rfl) (fun _ _ _ h => h) (Or.inl ⟨by rfl, fun w => by go_simp⟩) ?_
  go_simp
  refine wpAny_take (i := 4) (v := .bool true) rfl (by kernel_rfl) (by kernel_rfl) (by kernel_rfl) (fun _ _ _ h => h) (Or.inl ⟨by rfl, fun w => by go_simp⟩) ?_
  go_simp
  refine wpAny_take (i := 5) (v := .bool true) rfl (by kernel_rfl) (by kernel_rfl) (by kernel_rfl) (fun _ _ _ h => h) (Or.inl ⟨by rfl, fun w => by go_simp⟩) ?_
  go_simp
  refine wpAny_take (i := 6) (v := .bool true) rfl (by kernel_rfl) (by kernel_rfl) (by kernel_rfl) (fun _ _ _ h => h) (Or.inl ⟨by rfl, fun w => by go_simp⟩) ?_
  go_simp
  refine wpAny_take (i := 7) (v := .int .i64 0) rfl (by kernel_rfl) (by kernel_rfl) (by kernel_rfl) (fun _ _ _ h => h) (Or.inl ⟨by rfl, fun w => by go_simp⟩) ?_
  go_simp
  refine wpAny_take (i := 8) (v := .bool true) rfl (by kernel_rfl) (by kernel_rfl) (by kernel_rfl) (fun _ _ _ h => h) (Or.inl ⟨by rfl, fun w => by go_simp⟩) ?_
  go_simp
  refine wpAny_take (i := 9) (v := .bool true) rfl (by kernel_rfl) (by kernel_rfl) (by kernel_rfl) (fun _ _ _ h => h) (Or.inl ⟨by rfl, fun w => by go_simp⟩) ?_
  go_simp
  refine wpAny_take (i := 10) (v := .bool true) rfl (by kernel_rfl) (by kernel_rfl) (by kernel_rfl) (fun _ _ _ h => h) (Or.inl ⟨by rfl, fun w => by go_simp⟩) ?_
  go_simp
  clear hlist hc2
  refine wpAny_ready (rs := [11, 12]) (by kernel_rfl) (by simp) ?_
  refine AllReady.cons rfl (fun K hK => ?_) (AllReady.cons rfl (fun K hK => ?_) AllReady.nil)
  · go_simp
    refine hK _ _ ?_
    clear hK K
    refine wpAny_ready (rs := [12]) (by kernel_rfl) (by simp) ?_
    refine AllReady.cons rfl (fun K hK => ?_) AllReady.nil
    go_simp
    refine (firstg_any _).mono ?_
    rintro e v1 ⟨a2, rfl, hI5, hB5⟩
    have HB5 := Lib.hid (show Below W.heap.size W v1 from ⟨hB5.os, hB5.tape, hB5.output, hB5.size, hB5.block⟩)
    have HC5 := Lib.hid ((HB5.out.block w3.heap.size (lt_of_block HCW.out)).trans HCW.out)
    have HI5 := Lib.hid hI5
    have HI6 := Lib.hid (HIW.out.agr (Agr.below HB5.out))
    clear hI5 hB5
    go_simp
    refine hK _ _ ?_
    clear hK K
    refine wpAny_ready (rs := [13]) (by kernel_rfl) (by simp) ?_
    refine AllReady.cons rfl (fun K hK => ?_) AllReady.nil
    go_simp
    refine (same_first dA oA dc oc a2 _ _ v1 HI6.out HI5.out).mono ?_
    rintro e v2 ⟨rfl, hB6⟩
    have HB6 := Lib.hid (HB5.out.trans (hB6.mono HB5.out.size))
    clear hB6
    go_simp
    refine hK _ _ ?_
    clear hK K
    refine wpAny_take (i := 14) (v := .bool true) rfl (by kernel_rfl) (by kernel_rfl) (by kernel_rfl) (fun _ _ _ h => h) (Or.inl ⟨by rfl, fun w => by go_simp⟩) ?_
    go_simp
    refine wpAny_take (i := 15) (v := .bool true) rfl (by kernel_rfl) (by kernel_rfl) (by kernel_rfl) (fun _ _ _ h => h) (Or.inl ⟨by rfl, fun w => by go_simp⟩) ?_
    go_simp
    refine wpAny_take (i := 16) (v := .int .i64 80) rfl (by kernel_rfl) (by kernel_rfl) (by kernel_rfl) (fun _ _ _ h => h) (Or.inl ⟨by rfl, fun w => by go_simp⟩) ?_
    go_simp
    refine wpAny_take (i := 17) (v := .bool true) rfl (by kernel_rfl) (by kernel_rfl) (by kernel_rfl) (fun _ _ _ h => h) (Or.inl ⟨by rfl, fun w => by go_simp⟩) ?_
    go_simp
    refine wpAny_take (i := 18) (v := .bool true) rfl (by kernel_rfl) (by kernel_rfl) (by kernel_rfl) (fun _ _ _ h => h) (Or.inl ⟨by rfl, fun w => by go_simp⟩) ?_
    go_simp
    refine wpAny_take (i := 19) (v := .bool true) rfl (by kernel_rfl) (by kernel_rfl) (by kernel_rfl) (fun _ _ _ h => h) (Or.inl ⟨by rfl, fun w => by go_simp⟩) ?_
    go_simp
    refine wpAny_done (by kernel_rfl) ?_ _
    go_simp
    go_wp2
    go_ret
    exact ⟨rfl, HBW.out.trans (HB6.out.mono HBW.out.size)⟩
  · go_simp
    refine (firstg_any _).mono ?_
    rintro e v1 ⟨a2, rfl, hI5, hB5⟩
    have HB5 := Lib.hid (show Below W.heap.size W v1 from ⟨hB5.os, hB5.tape, hB5.output, hB5.size, hB5.block⟩)
    have HC5 := Lib.hid ((HB5.out.block w3.heap.size (lt_of_block HCW.out)).trans HCW.out)
    have HI5 := Lib.hid hI5
    have HI6 := Lib.hid (HIW.out.agr (Agr.below HB5.out))
    clear hI5 hB5
    go_simp
    refine hK _ _ ?_
    clear hK K
    have p0 : v1.cell? ⟨w3.heap.size, 0, none⟩ = some (.int .i64 1) := by rw [cell_of_row _ _ _ _ _ _ HC5.out]; rfl
    have p1 : v1.cell? ⟨w3.heap.size, 1, none⟩ = some (.int .i64 1) := by rw [cell_of_row _ _ _ _ _ _ HC5.out]; rfl
    have p2 : v1.cell? ⟨w3.heap.size, 2, none⟩ = some (.int .i64 1) := by rw [cell_of_row _ _ _ _ _ _ HC5.out]; rfl
    have p3 : v1.cell? ⟨w3.heap.size, 3, none⟩ = some (.slice dA 0 dc) := by rw [cell_of_row _ _ _ _ _ _ HC5.out]; rfl
    have p4 : v1.cell? ⟨w3.heap.size, 4, none⟩ = some (.int .i64 0) := by rw [cell_of_row _ _ _ _ _ _ HC5.out]; rfl
    have p5 : v1.cell? ⟨w3.heap.size, 5, none⟩ = some (.int .i64 0) := by rw [cell_of_row _ _ _ _ _ _ HC5.out]; rfl
    have p6 : v1.cell? ⟨w3.heap.size, 6, none⟩ = some (.slice oA 1 oc) := by rw [cell_of_row _ _ _ _ _ _ HC5.out]; rfl
    refine wpAny_ready (rs := [11]) (by kernel_rfl) (by simp) ?_
    refine AllReady.cons rfl (fun K hK => ?_) AllReady.nil
    go_simp
    refine hK _ _ ?_
    clear hK K
    refine wpAny_ready (rs := [13]) (by kernel_rfl) (by simp) ?_
    refine AllReady.cons rfl (fun K hK => ?_) AllReady.nil
    go_simp
    refine (same_first dA oA dc oc a2 _ _ v1 HI6.out HI5.out).mono ?_
    rintro e v2 ⟨rfl, hB6⟩
    have HB6 := Lib.hid (HB5.out.trans (hB6.mono HB5.out.size))
    clear hB6
    go_simp
    refine hK _ _ ?_
    clear hK K
    refine wpAny_take (i := 14) (v := .bool true) rfl (by kernel_rfl) (by kernel_rfl) (by kernel_rfl) (fun _ _ _ h => h) (Or.inl ⟨by rfl, fun w => by go_simp⟩) ?_
    go_simp
    refine wpAny_take (i := 15) (v := .bool true) rfl (by kernel_rfl) (by kernel_rfl) (by kernel_rfl) (fun _ _ _ h => h) (Or.inl ⟨by rfl, fun w => by go_simp⟩) ?_
    go_simp
    refine wpAny_take (i := 16) (v := .int .i64 80) rfl (by kernel_rfl) (by kernel_rfl) (by kernel_rfl) (fun _ _ _ h => h) (Or.inl ⟨by rfl, fun w => by go_simp⟩) ?_
    go_simp
    refine wpAny_take (i := 17) (v := .bool true) rfl (by kernel_rfl) (by kernel_rfl) (by kernel_rfl) (fun _ _ _ h => h) (Or.inl ⟨by rfl, fun w => by go_simp⟩) ?_
    go_simp
    refine wpAny_take (i := 18) (v := .bool true) rfl (by kernel_rfl) (by kernel_rfl) (by kernel_rfl) (fun _ _ _ h => h) (Or.inl ⟨by rfl, fun w => by go_simp⟩) ?_
    go_simp
    refine wpAny_take (i := 19) (v := .bool true) rfl (by kernel_rfl) (by kernel_rfl) (by kernel_rfl) (fun _ _ _ h => h) (Or.inl ⟨by rfl, fun w => by go_simp⟩) ?_
    go_simp
    refine wpAny_done (by kernel_rfl) ?_ _
    go_simp
    go_wp2
    go_ret
    exact ⟨rfl, HBW.out.trans (HB6.out.mono HBW.out.size)⟩
end Go.Proofs.YteedajnikfhpjaaGreatDoor
