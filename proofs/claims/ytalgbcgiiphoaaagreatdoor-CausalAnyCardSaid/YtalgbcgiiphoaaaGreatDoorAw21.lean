/- What any right box answers. Conditions: the tables of utf8. -/
import Derived.Test.YtalgbcgiiphoaaaGreatDoorAw21P
import Derived.Test.YtalgbcgiiphoaaaGreatDoorBxCl
import Derived.Test.YtalgbcgiiphoaaaGreatDoorFew21
namespace Go.Proofs.YtalgbcgiiphoaaaGreatDoor
open Go.RowKit Go.Lib Go.Sort
set_option linter.unusedVariables false
attribute [local go_sem ↓] Go.wp_at_zero Go.wp_at_succ
theorem own_new_iff {w : World} {k : Nat} (h : Own (w.heap.size + 1) (boxN w) k) : k = w.heap.size + 1 ∨ k = w.heap.size := by
  rcases h with h | h | h | h
  · exact .inl h
  · exact .inr h
  · cases h
  · cases h
theorem second_in (w : World) (S : Nat → Prop) (b : Nat) (hS : S b) (h : w.heap[b]? = some (.cells #[.int .i64 1] 3 (0, 0))) : GrIn w S secondG (some ⟨b, 0, none⟩) 1 none 0 := by
  refine ⟨fun k hk => ?_, ⟨fun _ => ⟨none, 0, none, 0⟩, RowG.zero, fun k hk => (by cases hk)⟩, Nat.le_refl _, Nat.le_refl _, by decide, Nat.zero_le _, ⟨by decide, by decide⟩, fun x hx => ?_⟩
  · obtain rfl : k = 0 := by have : k < 1 := hk; omega
    refine ⟨b, 0, rfl, hS, lt_of_block h, fun j hj => ?_⟩
    obtain rfl : j = 0 := by omega
    rw [cell_of_row _ _ _ _ _ _ h]; rfl
  · obtain rfl : x = 1 := by simpa [secondG] using hx
    exact ⟨by decide, by decide⟩
set_option maxRecDepth 100000 in
set_option maxHeartbeats 8000000 in
theorem awake21_any (w : World) (hTb : Tabs w) : Calls Tryz.prog 12 #[] w fun e w' => e = .returned (.bool true) ∧ Below w.heap.size w w' := by
  have HTB := Lib.hid hTb
  clear hTb
  go_enter Tryz.func12, Tryz.ntmps12
  go_upto_region 4 with (first
    | (go_at_call 19; refine (bxnew_any w).mono ?_; rintro e w1 ⟨rfl, hw1⟩; have HW1 := Lib.hid hw1; clear hw1))
  have hb1 : Below w.heap.size w w1 := by rw [HW1.out]; exact ((Below.refl _ _).alloc (Nat.le_refl _) _).alloc (by simp) _
  have hs1 : w1.heap.size = w.heap.size + 2 := by rw [HW1.out]; simp
  have HX1 := Lib.hid (BoxIn.made (S := fun _ => False) (B := w.heap.size) (Nat.le_refl _) (fun k hk => hk.elim) HW1.out)
  have HB1 := Lib.hid hb1
  have HS1 := Lib.hid hs1
  clear HW1 hb1 hs1
  go_upto_region 6 with (first
    | (go_at_call 18; refine (firstg_any w1).mono ?_; rintro e w2 ⟨fa, rfl, hI2, hB2⟩))
  have HG2 := Lib.hid (show GrG w2 (fun k => w1.heap.size ≤ k) (firstG, ⟨none, 0, some ⟨fa, 0, none⟩, 1⟩) from hI2)
  have HB2 := Lib.hid hB2
  clear hI2 hB2
  generalize hw3 : w2.alloc (.cells #[.int .i64 1, .int .i64 1, .int .i64 1, .slice none 0 0, .int .i64 0, .int .i64 0, .slice (some ⟨fa, 0, none⟩) 1 1] 40) = w3 at *
  have hs3 : w3.heap.size = w2.heap.size + 1 := by rw [← hw3]; simp
  have hc3 : w3.heap[w2.heap.size]? = some (.cells #[.int .i64 1, .int .i64 1, .int .i64 1, .slice none 0 0, .int .i64 0, .int .i64 0, .slice (some ⟨fa, 0, none⟩) 1 1] 40 (0, 0)) := by rw [← hw3]; exact heap_alloc_new _ _
  have hb3 : Below w2.heap.size w2 w3 := by rw [← hw3]; exact (Below.refl _ _).alloc (Nat.le_refl _) _
  clear hw3
  generalize hw4 : w3.alloc (.cells #[.int .i64 1] 3) = w4 at *
  have hs4 : w4.heap.size = w2.heap.size + 2 := by rw [← hw4]; simp [hs3]
  have hc4 : w4.heap[w2.heap.size + 1]? = some (.cells #[.int .i64 1] 3 (0, 0)) := by rw [← hw4]; exact heap_alloc_newC _ _ hs3
  have hb4 : Below w3.heap.size w3 w4 := by rw [← hw4]; exact (Below.refl _ _).alloc (Nat.le_refl _) _
  clear hw4
  generalize hw5 : w4.alloc (.cells #[.int .i64 2, .int .i64 1, .int .i64 2, .slice (some ⟨w2.heap.size + 1, 0, none⟩) 1 1, .int .i64 1, .int .i64 1, .slice none 0 0] 40) = W at *
  have hs5 : W.heap.size = w2.heap.size + 3 := by rw [← hw5]; simp [hs4]
  have hc5 : W.heap[w2.heap.size + 2]? = some (.cells #[.int .i64 2, .int .i64 1, .int .i64 2, .slice (some ⟨w2.heap.size + 1, 0, none⟩) 1 1, .int .i64 1, .int .i64 1, .slice none 0 0] 40 (0, 0)) := by rw [← hw5]; exact heap_alloc_newC _ _ hs4
  have hb5 : Below w4.heap.size w4 W := by rw [← hw5]; exact (Below.refl _ _).alloc (Nat.le_refl _) _
  clear hw5
  have hN := HB2.out.size
  have hs1 := HS1.out
  have hb25 : Below w2.heap.size w2 W := (hb3.trans (hb4.mono (by omega))).trans (hb5.mono (by omega))
  have hb15 : Below w1.heap.size w1 W := HB2.out.trans (hb25.mono hN)
  obtain ⟨S, hS⟩ : ∃ S : Nat → Prop, S = fun k => w1.heap.size ≤ k ∧ k < W.heap.size := ⟨_, rfl⟩
  have hX : BoxIn w.heap.size (w.heap.size + 1) S Bx.new.done Bx.new.done Bx.new.wait Bx.new.v (boxN w) W := (HX1.out.below hb15).sup (fun k hk => hk.elim) (fun k hk => .inr (by
    rw [hS] at hk
    refine ⟨hk.2, fun h => ?_⟩
    have := hk.1
    rcases own_new_iff h with h | h <;> omega))
  have hG1 : GrG W S (firstG, ⟨none, 0, some ⟨fa, 0, none⟩, 1⟩) := (HG2.out.agr (Agr.below hb25)).sub fun b hb h => by rw [hS]; exact ⟨h, hb⟩
  have hG2 : GrG W S (secondG, ⟨some ⟨w2.heap.size + 1, 0, none⟩, 1, none, 0⟩) := second_in W S _ (by rw [hS]; exact ⟨by omega, by omega⟩) ((hb5.block _ (by omega)).trans hc4)
  have HCG := Lib.hid ((hb5.block _ (by omega)).trans ((hb4.block _ (by omega)).trans hc3))
  have HCH := Lib.hid hc5
  have HB5 := Lib.hid (HB1.out.trans (hb15.mono (by omega)))
  have HTW := Lib.hid (HTB.out.below HB5.out)
  have HOW := Lib.hid (show ∀ k, Own (w.heap.size + 1) (boxN w) k → w.heap.size ≤ k ∧ k < w2.heap.size from fun k h => by rcases own_new_iff h with h | h <;> omega)
  have HN2 := Lib.hid (show w2.heap.size + 2 < W.heap.size by omega)
  have HG1 := Lib.hid hG1
  have HG2' := Lib.hid hG2
  have HX := Lib.hid hX
  clear hS hs3 hs4 hs5 hc3 hc4 hc5 hb3 hb4 hb5 hN hs1 hb25 hb15 hX hG1 hG2 HG2 HB2 HS1 HX1 HB1
  have HE1 : Hid (Calls Tryz.prog 22 #[.pointer (some ⟨w.heap.size + 1, 0, none⟩), .agg #[.int .i64 2, .int .i64 1, .int .i64 2, .slice (some ⟨w2.heap.size + 1, 0, none⟩) 1 1, .int .i64 1, .int .i64 1, .slice none 0 0]] W fun e w' => e = .returned (.tuple #[.int .i64 0, .int .i64 0]) ∧ ∃ X' S', BoxIn w.heap.size (w.heap.size + 1) S' awb1.done awb1.done awb1.wait awb1.v X' w' ∧ BTo (w.heap.size + 1) (boxN w) S W X' S' w') := by
    refine Lib.hid ?_
    have := bxhear_any (b := Bx.new) HX.out BxOk.new secondG _ HG2'.out (fun o ho => by cases ho) HTW.out (Nat.zero_le _) (Nat.zero_le _)
    rw [aw_hear1] at this
    exact this
  have HIN := Lib.hid (show (Tryz.prog.info? 40).map (·.size) = some 7 by kernel_rfl)
  go_upto_region 7 with (first
    | (refine load_at rfl _ _ rfl (w2.heap.size + 2) _ _ _ rfl HCH.out Tryz.underlying40 rfl HIN.out ?_)
    | (go_at_call 22; refine HE1.out.mono ?_; rintro e w6 ⟨rfl, X6, S6, hX6, hT6⟩))
  have hog : ¬ Own (w.heap.size + 1) (boxN w) w2.heap.size := fun h => by have := HOW.out _ h; omega
  have hoh : ¬ Own (w.heap.size + 1) (boxN w) (w2.heap.size + 2) := fun h => by have := HOW.out _ h; omega
  have HWT := Lib.hid (show Calls Tryz.prog 26 #[.pointer (some ⟨w.heap.size + 1, 0, none⟩)] w6 fun e w' => ∃ A c, e = .returned (.slice A 1 c) ∧ Below w6.heap.size w6 w' from (bxwait_any hX6 (by decide)).mono (by rintro e w' ⟨A, c, rfl, -, h⟩; exact ⟨A, c, rfl, h⟩))
  have HX6 := Lib.hid hX6
  have HT6 := Lib.hid hT6
  clear hX6 hT6 HE1
  go_upto_region 8 with (first
    | (go_at_call 26; refine HWT.out.mono ?_; rintro e w7 ⟨A7, c7, rfl, hB7⟩))
  have hX7 := HX6.out.below hB7
  have hT7 := HT6.out.trans (BTo.of_below (P := w.heap.size + 1) (X := X6) (S := S6) hB7)
  have HCG7 := Lib.hid (hT7.gr.cells HCG.out hog)
  have HB7 := Lib.hid (HB5.out.trans (hT7.gr.below HB5.out.size (fun k h => (HOW.out k h).1)))
  have HE2 : Hid (Calls Tryz.prog 22 #[.pointer (some ⟨w.heap.size + 1, 0, none⟩), .agg #[.int .i64 1, .int .i64 1, .int .i64 1, .slice none 0 0, .int .i64 0, .int .i64 0, .slice (some ⟨fa, 0, none⟩) 1 1]] w7 fun e w' => e = .returned (.tuple #[.int .i64 2, .int .i64 0]) ∧ ∃ X' S', BoxIn w.heap.size (w.heap.size + 1) S' awb2.done awb2.done awb2.wait awb2.v X' w' ∧ BTo (w.heap.size + 1) X6 S6 w7 X' S' w') := by
    refine Lib.hid ?_
    have := bxhear_any (b := awb1) hX7 aw_ok1 firstG _ ((HG1.out.agr (hT7.gr.agr fun k _ h => (HX.out.sep k h).2)).sub fun k _ h => hT7.more k h) (fun o ho => by obtain rfl := List.mem_singleton.1 ho; decide) (HTB.out.below HB7.out) (by decide) (by decide)
    rw [aw_hear2] at this
    exact this
  have HT7 := Lib.hid hT7
  clear hX7 hT7 HX6 HT6 HWT hB7
  go_upto_region 9 with (first
    | (refine load_at rfl _ _ rfl w2.heap.size _ _ _ rfl HCG7.out Tryz.underlying40 rfl HIN.out ?_)
    | (go_at_call 22; refine HE2.out.mono ?_; rintro e w8 ⟨rfl, X8, S8, hX8, hT8⟩))
  have hT8 := HT7.out.trans hT8
  have HCH8 := Lib.hid (hT8.gr.cells HCH.out hoh)
  have HB8 := Lib.hid (HB5.out.trans (hT8.gr.below HB5.out.size (fun k h => (HOW.out k h).1)))
  have HE3 : Hid (Calls Tryz.prog 22 #[.pointer (some ⟨w.heap.size + 1, 0, none⟩), .agg #[.int .i64 2, .int .i64 1, .int .i64 2, .slice (some ⟨w2.heap.size + 1, 0, none⟩) 1 1, .int .i64 1, .int .i64 1, .slice none 0 0]] w8 fun e w' => e = .returned (.tuple #[.int .i64 0, .int .i64 210]) ∧ ∃ X' S', BoxIn w.heap.size (w.heap.size + 1) S' awb2.done awb2.done awb2.wait awb2.v X' w' ∧ BTo (w.heap.size + 1) X8 S8 w8 X' S' w') := by
    refine Lib.hid ?_
    have := bxhear_any (b := awb2) hX8 aw_ok2 secondG _ ((HG2'.out.agr (hT8.gr.agr fun k _ h => (HX.out.sep k h).2)).sub fun k _ h => hT8.more k h) (fun o ho => by cases ho) (HTB.out.below HB8.out) (by decide) (by decide)
    rw [aw_hear3] at this
    exact this
  have HT8 := Lib.hid hT8
  clear hX8 hT8 HT7 HE2
  go_upto_region 10 with (first
    | (refine load_at rfl _ _ rfl (w2.heap.size + 2) _ _ _ rfl HCH8.out Tryz.underlying40 rfl HIN.out ?_)
    | (go_at_call 22; refine HE3.out.mono ?_; rintro e w9 ⟨rfl, X9, S9, hX9, hT9⟩))
  have hT9 := HT8.out.trans hT9
  have HB9 := Lib.hid (HB5.out.trans (hT9.gr.below HB5.out.size (fun k h => (HOW.out k h).1)))
  have HX9 := Lib.hid hX9
  clear hX9 hT9 HT8 HE3
  go_wp2_with (first
    | (go_at_call 23; refine (bxdone_any HX9.out (by decide)).mono ?_; rintro e w10 ⟨A10, c10, rfl, -, hB10⟩; have HB10 := Lib.hid hB10; clear hB10)
    | (go_at_call 26; refine (bxwait_any (HX9.out.below HB10.out) (by decide)).mono ?_; rintro e w11 ⟨A11, c11, rfl, -, hB11⟩; have HB11 := Lib.hid (HB10.out.trans (hB11.mono HB10.out.size)); clear hB11)
    | (go_at_call 28; refine (bxvec_any (HX9.out.below HB11.out)).mono ?_; rintro e w12 ⟨A12, c12, rfl, hv12, -, hB12⟩; have HV12 := Lib.hid hv12; have HB12 := Lib.hid (HB11.out.trans (hB12.mono HB11.out.size)); clear hv12 hB12))
  have HBV := Lib.hid (show VecR (w12.alloc (.cells #[.int .i64 2] 3)) (some ⟨w12.heap.size, 0, none⟩) [2] from fun k hk => by
    obtain rfl : k = 0 := by have : k < 1 := hk; omega
    refine ⟨⟨w12.heap.size, 0, none⟩, rfl, by simp, ?_⟩
    rw [Addr.add_mid, cell_of_row _ _ _ _ _ _ (heap_alloc_new w12 _)]; rfl)
  have HAV := Lib.hid (show VecR (w12.alloc (.cells #[.int .i64 2] 3)) A12 [2] from VecS.vec (S := fun k => w11.heap.size ≤ k) (RowG.agr HV12.out (Agr.below ((Below.refl _ w12).alloc (Nat.le_refl _) _))))
  refine (same_any A12 _ c12 1 [2] [2] _ (by decide) HAV.out HBV.out).mono ?_
  rintro e w13 ⟨rfl, hB13⟩
  have HB13 := Lib.hid (HB9.out.trans ((HB12.out.trans ((((Below.refl _ w12).alloc (Nat.le_refl _) (.cells #[.int .i64 2] 3)).trans (hB13.mono (by simp))).mono HB12.out.size)).mono HB9.out.size))
  go_wp2
  go_ret
  exact ⟨rfl, HB13.out⟩
end Go.Proofs.YtalgbcgiiphoaaaGreatDoor
