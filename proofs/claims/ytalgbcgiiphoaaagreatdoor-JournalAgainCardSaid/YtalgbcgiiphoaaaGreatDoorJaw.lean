/- The laws on journals: what any right program answers, JournalRecords, JournalAgain. Conditions: lengths in reach; the tables of utf8. -/
import Derived.Test.YtalgbcgiiphoaaaGreatDoorJrn
import Derived.Test.YtalgbcgiiphoaaaGreatDoorJrec
import Derived.Test.YtalgbcgiiphoaaaGreatDoorAw21P
import Derived.Test.YtalgbcgiiphoaaaGreatDoorSAll
import Derived.Test.YtalgbcgiiphoaaaGreatDoorFA
namespace Go.Proofs.YtalgbcgiiphoaaaGreatDoor
open Go.RowKit Go.Lib Go.Sort
set_option linter.unusedVariables false
attribute [local go_sem ↓] Go.wp_at_zero Go.wp_at_succ
theorem hear_first : hearB Bx.new firstG = (Bx.new.put firstG, 1, 0) := by
  unfold hearB
  rw [if_neg (by rw [chk_first]; decide), if_neg (by decide +kernel), if_pos (by decide +kernel)]
  rfl
theorem fit_first : fitG firstG := ⟨by decide, fun x hx => (by cases hx), fun o ho => by
  have : o = firstO := by simpa [firstG] using ho
  subst this
  exact ⟨by unfold okB; decide, by unfold okB; decide, by decide, by decide⟩⟩
theorem text_first : ∀ o ∈ firstG.ops, o.text.size ≤ 1000000 := fun o ho => by
  have : o = firstO := by simpa [firstG] using ho
  subst this; decide
theorem dec_first : decZ (grpS firstG).data.toList = some firstG := dec_enc fit_first chk_first
theorem len_first : (grpZ firstG).length = 17 := by decide +kernel
theorem rec_first : recB firstG = frameS Crc.tab (grpS firstG) := if_pos ⟨chk_first, by rw [len_first]; decide⟩
theorem size_first : (recB firstG).size = 22 := by
  rw [rec_first, frame_size, ByteArray.size_append]
  have : (grpS firstG).size = 17 := by unfold grpS; rw [mkS, len_first]
  rw [this]
  have h1 : (putS 17).size = 1 := by decide +kernel
  rw [h1]
theorem next_short (t : Nat → Nat) (x R r : ByteArray) (hx : x.size ≤ 1048576) (h : frameS t x = R ++ r) (hr : r.size ≠ 0) : nextS t R = .err 10 := by
  have h1 := congrArg (fun b : ByteArray => b.data.toList) h
  simp only [frame_data, bs_app] at h1
  have h2 := congrArg List.length h1
  simp only [List.length_append, bs_len] at h2
  rw [sum_size] at h2
  by_cases hl : R.data.toList.length < (uvarint x.size).length
  · have e : R.data.toList = (uvarint x.size).take R.data.toList.length := by
      have h3 := congrArg (List.take R.data.toList.length) h1
      rw [List.take_left, List.append_assoc, List.take_append_of_le_length (by omega)] at h3
      exact h3.symm
    have ht := Vr.take_cut x.size (by omega) _ hl
    rw [← e] at ht
    exact next_err ht
  · obtain ⟨q, hq⟩ : ∃ q, q = R.data.toList.drop (uvarint x.size).length := ⟨_, rfl⟩
    have e : R.data.toList = uvarint x.size ++ q := by
      have h3 := congrArg (List.take (uvarint x.size).length) h1
      rw [List.append_assoc, List.take_left, List.take_append_of_le_length (by omega)] at h3
      rw [hq]
      conv => lhs; rw [← List.take_append_drop (uvarint x.size).length R.data.toList]
      rw [← h3]
    have ht := Vr.take_put x.size (by omega) q
    rw [← e] at ht
    have hs := congrArg List.length e
    rw [List.length_append, bs_len] at hs
    have hg := next_go (t := t) (R := ⟨q.toArray⟩) ht
    rw [hg]
    refine next_10 (by omega) ?_
    rw [mkS]; omega
theorem rec_twice {b2 : Bx} {r2 : ByteArray} (h : Rec Crc.tab Bx.new (recB firstG ++ (recB firstG).extract 0 3) b2 r2) : b2.done = [firstG] ∧ r2.size = 3 := by
  have hs : (grpS firstG).size ≤ 1048576 := by unfold grpS; rw [mkS, len_first]; decide
  have h1 : nextS Crc.tab (recB firstG ++ (recB firstG).extract 0 3) = .ok (grpS firstG) ((recB firstG).extract 0 3) := by
    rw [rec_first]; exact next_frame _ _ _ hs
  have h2 : nextS Crc.tab ((recB firstG).extract 0 3) = .err 10 := by
    refine next_short Crc.tab (grpS firstG) ((recB firstG).extract 0 3) ((recB firstG).extract 3 (recB firstG).size) hs ?_ ?_
    · rw [← rec_first]
      refine bs_ext ?_
      rw [bs_app, bs_pre, bs_suf, List.take_append_drop]
    · rw [ByteArray.size_extract, size_first]; decide
  have h3 : Rec Crc.tab Bx.new (recB firstG ++ (recB firstG).extract 0 3) (hearB Bx.new firstG).1 ((recB firstG).extract 0 3) := .go h1 dec_first (by rw [hear_first]) (.stop1 h2)
  obtain ⟨rfl, rfl⟩ := h.det h3
  refine ⟨by rw [hear_first]; rfl, ?_⟩
  rw [ByteArray.size_extract, size_first]; decide
theorem row_one {w : World} {g : Nat} {p : Grp × GrX} (h : w.heap[g]? = some (.cells (grL p.1 p.2).toArray 40 (0, 0))) : RowGr w (some ⟨g, 0, none⟩) [p] := fun k hk => by
  obtain rfl : k = 0 := by have : k < 1 := hk; omega
  refine ⟨g, 0, rfl, trivial, lt_of_block h, fun j hj => ?_⟩
  rw [show 0 + 0 * 7 + j = j by omega, cell_of_row _ _ _ _ _ _ h]
  have hj : j < (grL p.1 p.2).length := hj
  show (grL p.1 p.2).toArray[j]? = some ((grL p.1 p.2).getD j undef)
  rw [List.getElem?_toArray, List.getD_eq_getElem?_getD, List.getElem?_eq_getElem hj]
  rfl
theorem tab25 {w w' : World} {v : Value} (hO : w'.ownsRow w.heap.size 56 1 v 256 (tabL 256)) : ∃ A cap, v = .slice A 256 cap ∧ TabOf false 256 A w' := by
  obtain ⟨A, cap, h1, -, h2⟩ := own_tab hO
  exact ⟨A, cap, h1, rfl, h2⟩
set_option maxRecDepth 100000 in
set_option maxHeartbeats 8000000 in
theorem awake25_any (w : World) (hTb : Tabs w) :
    Calls Tryz.prog 6 #[] w fun e w' => e = .returned (.bool true) ∧ Below w.heap.size w w' := by
  have HTB := Lib.hid hTb
  clear hTb
  obtain ⟨R, hR⟩ : ∃ R, R = recB firstG := ⟨_, rfl⟩
  have hRs : R.size = 22 := by rw [hR, size_first]
  have HRV := Lib.hid (show recV false firstG = (R, 0) by rw [hR, rec_first]; unfold recV; rw [chk_first, if_neg (by decide), len_first, if_neg (by decide), if_neg (by decide)])
  have HR2 := Lib.hid (fun b2 r2 (h : Rec Crc.tab Bx.new (R ++ R.extract 0 3) b2 r2) => rec_twice (by rw [← hR]; exact h))
  have hX3 : (R.extract 0 3).size = 3 := by rw [ByteArray.size_extract, hRs]; decide
  have hRA : (R ++ R.extract 0 3).size = 25 := by rw [ByteArray.size_append, hX3, hRs]
  have HRA := Lib.hid hRA
  have HRS := Lib.hid hRs
  clear hR hRA hX3
  go_enter Tryz.func6, Tryz.ntmps6
  go_upto_region 3 with (first
    | (go_at_call 8; refine (reftable_any _).mono ?_; rintro e w1 ⟨v, rfl, hO, hB1⟩; obtain ⟨TA, tc, rfl, hT⟩ := tab25 hO; have HT1 := Lib.hid hT; have HB1 := Lib.hid hB1; clear hO hT hB1)
    | (go_at_call 18; refine (firstg_any w1).mono ?_; rintro e w2 ⟨fa, rfl, hI2, hB2⟩; have HI2 := Lib.hid hI2; have HT2 := Lib.hid (HT1.out.below hB2); have HB2 := Lib.hid (HB1.out.trans (hB2.mono HB1.out.size)); clear hI2 hB2)
    | (go_at_call 15; refine (record_any (w := w2) false TA 256 tc HT2.out firstG none 0 (some ⟨fa, 0, none⟩) 1 _ HI2.out (fun o ho => by have := text_first o ho; omega) (fun _ => text_first) (HTB.out.below HB2.out)).mono ?_; rw [HRV.out]; rintro e w3 ⟨rfl, hB3⟩; have HT3 := Lib.hid (HT2.out.below hB3); have HB3 := Lib.hid (HB2.out.trans (hB3.mono HB2.out.size)); clear hB3))
  go_upto_region 5 with fail
  go_upto_region 6 with (go_at_call 7; refine (recover_any TA tc (R ++ R.extract 0 3) w3 (by rw [HRA.out]; decide) HT3.out.2 (HTB.out.below HB3.out)).mono ?_; rintro e w4 ⟨b4, r4, L, A4, c4, hr4, hL4, rfl, hO4, hG4, hx4, hB4⟩; have HB4 := Lib.hid (HB3.out.trans (hB4.mono HB3.out.size)); have hr3 := (HR2.out _ _ hr4).2; have HRR := Lib.hid (HR2.out _ _ hr4).1; have HL4 := Lib.hid hL4; have HO4 := Lib.hid (RowGr.own hO4); have HG4 := Lib.hid hG4; clear hr4 hL4 hO4 hG4 hx4 hB4)
  have HLM := Lib.hid (show L.map Prod.fst = [firstG] by rw [HL4.out, HRR.out])
  have HLL := Lib.hid (show L.length ≤ 1000000 by have h9 := congrArg List.length HLM.out; rw [List.length_map] at h9; rw [h9]; decide)
  clear HL4 HRR hr3
  go_wp2_with (first
    | (go_at_call 18; refine (firstg_any w4).mono ?_; rintro e w5 ⟨fb, rfl, hI5, hB5⟩; have HI5 := Lib.hid hI5; have HB5 := Lib.hid hB5; clear hI5 hB5)
    | (go_at_call 10; refine (sameall_any L [(firstG, ⟨none, 0, some ⟨fb, 0, none⟩, 1⟩)] A4 (some ⟨w5.heap.size, 0, none⟩) c4 1 (fun k => w3.heap.size ≤ k) (fun k => w4.heap.size ≤ k) _ HLL.out ((HO4.out.below HB5.out).below ((Below.refl _ _).alloc (Nat.le_refl _) _)) (fun p hp => ((HG4.out p hp).agr (Agr.below HB5.out)).agr (Agr.below ((Below.refl _ _).alloc (Nat.le_refl _) _))) (row_one (heap_alloc_new w5 _)) (fun p hp => by rw [List.mem_singleton] at hp; rw [hp]; exact GrIn.agr HI5.out (Agr.below ((Below.refl _ _).alloc (Nat.le_refl _) _))) HLM.out).mono ?_; rintro e w6 ⟨rfl, hB6⟩; have HB6 := Lib.hid hB6; clear hB6))
  go_ret
  have h9 := HB4.out.size
  have h8 := HB5.out.size
  exact ⟨rfl, (HB4.out.trans (HB5.out.mono h9)).trans ((((Below.refl w5.heap.size w5).alloc (Nat.le_refl _) _).mono (by omega)).trans (HB6.out.mono (by simp; omega)))⟩
theorem catR_len {gs : List Grp} (h : ∀ g ∈ gs, recOk g) : gs.length ≤ (catR gs).size := by
  induction gs with
  | nil => exact Nat.zero_le _
  | cons g gs ih =>
    have := ih (fun x hx => h x (by simp [hx]))
    rw [catR_cons, ByteArray.size_append, List.length_cons, (h g (by simp)).rec, frame_size]
    omega
theorem lawtable_any (odd : Bool) (w : World) : Calls Tryz.prog 16 #[.bool odd] w fun e w' => ∃ A m cap, e = .returned (.slice A m cap) ∧ TabOf odd m A w' ∧ Below w.heap.size w w' := by
  cases odd with
  | true => exact (table_t w).mono (by rintro e w' ⟨A, cap, rfl, hB⟩; exact ⟨A, 255, cap, rfl, (by show (255 : Nat) ≠ 256; decide), hB⟩)
  | false => exact (table_f w).mono (by rintro e w' ⟨A, cap, rfl, hT, hB⟩; exact ⟨A, 256, cap, rfl, ⟨rfl, hT⟩, hB⟩)
end Go.Proofs.YtalgbcgiiphoaaaGreatDoor
