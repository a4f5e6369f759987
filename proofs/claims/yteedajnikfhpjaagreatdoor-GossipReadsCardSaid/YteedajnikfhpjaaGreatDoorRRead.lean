/- What the reference's Read answers. Conditions: a text of at most 1000000 bytes. -/
import Derived.Test.YteedajnikfhpjaaGreatDoorWdec8
import Derived.Test.YteedajnikfhpjaaGreatDoorGos
namespace Go.Proofs.YteedajnikfhpjaaGreatDoor
open Go.RowKit Go.Lib Go.Sort
set_option linter.unusedVariables false
attribute [local go_sem ↓] Go.wp_at_zero Go.wp_at_succ
def rgA : RG → Bool
  | .ask _ => true
  | _ => false
def rgV : RG → List Int
  | .ask v => v
  | _ => []
def rgG : RG → Grp
  | .tell g => g
  | _ => gz
def rgE : RG → Int
  | .err c => c
  | _ => 0
/-- what Read answers, in one form -/
def ReadU (r : RG) (w : World) (e : Ending) (w' : World) : Prop := Below w.heap.size w w' ∧ ∃ A c dA dc oA oc, e = .returned (.tuple #[.bool (rgA r), .slice A (rgV r).length c, .agg (grA (rgG r) dA dc oA oc), .int .i64 (rgE r)]) ∧ VecR w' A (rgV r) ∧ (rgV r).length ≤ c ∧ c ≤ maxLen ∧ GrIn w' (fun k => w.heap.size ≤ k) (rgG r) dA dc oA oc
def askR : Option (List Int) → RG
  | some v => .ask v
  | none => .err 11
def tellR : Option Grp → RG
  | some g => .tell g
  | none => .err 80
theorem ReadU.err_ {r : RG} {c : Int} (h : r = .err c) {w w' : World} (hb : Below w.heap.size w w') : ReadU r w (.returned (.tuple #[.bool false, .slice none 0 0, .agg #[.int .i64 0, .int .i64 0, .int .i64 0, .slice none 0 0, .int .i64 0, .int .i64 0, .slice none 0 0], .int .i64 c])) w' := by
  subst h
  exact ⟨hb, none, 0, none, 0, none, 0, rfl, VecR.nil, Nat.le_refl _, Nat.zero_le _, GrIn.gz⟩
theorem ReadU.tell_ {r : RG} {d : Option Grp} (h : r = tellR d) {w w' : World} (hb : Below w.heap.size w w') {dA oA : Option Addr} {dc oc : Nat} (hI : GrIn w' (fun k => w.heap.size ≤ k) (decG d) dA dc oA oc) : ReadU r w (.returned (.tuple #[.bool false, .slice none 0 0, .agg (grA (decG d) dA dc oA oc), .int .i64 (decE d)])) w' := by
  subst h
  cases d with
  | none => exact ⟨hb, none, 0, dA, dc, oA, oc, rfl, VecR.nil, Nat.le_refl _, Nat.zero_le _, hI⟩
  | some g => exact ⟨hb, none, 0, dA, dc, oA, oc, rfl, VecR.nil, Nat.le_refl _, Nat.zero_le _, hI⟩
theorem ReadU.ask_ {r : RG} {v : List Int} (h : r = .ask v) {w w' : World} (hb : Below w.heap.size w w') {A : Option Addr} {c : Nat} (hR : VecR w' A v) (h1 : v.length ≤ c) (h2 : c ≤ maxLen) : ReadU r w (.returned (.tuple #[.bool true, .slice A v.length c, .agg #[.int .i64 0, .int .i64 0, .int .i64 0, .slice none 0 0, .int .i64 0, .int .i64 0, .slice none 0 0], .int .i64 0])) w' := by
  subst h
  exact ⟨hb, A, c, none, 0, none, 0, rfl, hR, h1, h2, GrIn.gz⟩
theorem ReadQ.uni {r : RG} {w w' : World} {e : Ending} (h : ReadQ r w e w') : ReadU r w e w' := by
  obtain ⟨hB, h⟩ := h
  cases r with
  | ask v =>
    obtain ⟨A, c, he, hR, h1, h2⟩ := h
    exact ⟨hB, A, c, none, 0, none, 0, he, hR, h1, Nat.le_trans h2 (by unfold maxLen; omega), GrIn.gz⟩
  | tell g =>
    obtain ⟨dA, dc, oA, oc, he, hI, -⟩ := h
    exact ⟨hB, none, 0, dA, dc, oA, oc, he, VecR.nil, Nat.le_refl _, Nat.zero_le _, hI⟩
  | err c => exact ⟨hB, none, 0, none, 0, none, 0, h, VecR.nil, Nat.le_refl _, Nat.zero_le _, GrIn.gz⟩
set_option maxRecDepth 100000 in
set_option maxHeartbeats 16000000 in
theorem refread_any (s : ByteArray) (w : World) (hs : s.size ≤ 1000000) :
    Calls Tryz.prog 22 #[.string s] w fun e w' => ReadU (readZ s.data.toList) w e w' := by
  obtain ⟨r, hr⟩ : ∃ r, r = readZ s.data.toList := ⟨_, rfl⟩
  rw [← hr]
  obtain ⟨W0, hW0⟩ : ∃ W, W = w.alloc (.cells #[.int .i64 0, .int .i64 0, .int .i64 0, .slice none 0 0, .int .i64 0, .int .i64 0, .slice none 0 0] 40) := ⟨_, rfl⟩
  have HW0 := Lib.hid hW0
  have HA0 := Lib.hid (show W0.heap[w.heap.size]? = some (.cells #[.int .i64 0, .int .i64 0, .int .i64 0, .slice none 0 0, .int .i64 0, .int .i64 0, .slice none 0 0] 40 (0, 0)) by rw [hW0]; exact heap_alloc_new _ _)
  have HB0 := Lib.hid (show Below w.heap.size w W0 by rw [hW0]; exact (Below.refl _ _).alloc (Nat.le_refl _) _)
  have hz0 : W0.heap.size = w.heap.size + 1 := by rw [hW0]; simp
  have HZ0 := Lib.hid hz0
  clear hW0 hz0
  cases hl : s.data.toList with
  | nil =>
    have HR := Lib.hid (show r = .err 11 by rw [hr, hl]; rfl)
    obtain rfl : s = ⟨#[]⟩ := bs_nil.1 hl
    clear hr hl hs
    go_enter Tryz.func22, Tryz.ntmps22
    go_upto_region 2 with fail
    rw [← HW0.out]
    go_wp2_with (first | (refine store_at rfl _ _ _ rfl w.heap.size _ _ #[.int .i64 0, .int .i64 0, .int .i64 0, .slice none 0 0, .int .i64 0, .int .i64 0, .slice none 0 0] rfl rfl HA0.out ?_ ?_ ?_ ?_; kernel_rfl; rfl; rfl))
    have HZ := Lib.hid (heap_setRow_same #[.int .i64 0, .int .i64 0, .int .i64 0, .slice none 0 0, .int .i64 0, .int .i64 0, .slice none 0 0] HA0.out)
    have z0 : (W0.setRow w.heap.size #[.int .i64 0, .int .i64 0, .int .i64 0, .slice none 0 0, .int .i64 0, .int .i64 0, .slice none 0 0]).cell? ⟨w.heap.size, 0, none⟩ = some (.int .i64 0) := by rw [cell_of_row _ _ _ _ _ _ HZ.out]; rfl
    have z1 : (W0.setRow w.heap.size #[.int .i64 0, .int .i64 0, .int .i64 0, .slice none 0 0, .int .i64 0, .int .i64 0, .slice none 0 0]).cell? ⟨w.heap.size, 1, none⟩ = some (.int .i64 0) := by rw [cell_of_row _ _ _ _ _ _ HZ.out]; rfl
    have z2 : (W0.setRow w.heap.size #[.int .i64 0, .int .i64 0, .int .i64 0, .slice none 0 0, .int .i64 0, .int .i64 0, .slice none 0 0]).cell? ⟨w.heap.size, 2, none⟩ = some (.int .i64 0) := by rw [cell_of_row _ _ _ _ _ _ HZ.out]; rfl
    have z3 : (W0.setRow w.heap.size #[.int .i64 0, .int .i64 0, .int .i64 0, .slice none 0 0, .int .i64 0, .int .i64 0, .slice none 0 0]).cell? ⟨w.heap.size, 3, none⟩ = some (.slice none 0 0) := by rw [cell_of_row _ _ _ _ _ _ HZ.out]; rfl
    have z4 : (W0.setRow w.heap.size #[.int .i64 0, .int .i64 0, .int .i64 0, .slice none 0 0, .int .i64 0, .int .i64 0, .slice none 0 0]).cell? ⟨w.heap.size, 4, none⟩ = some (.int .i64 0) := by rw [cell_of_row _ _ _ _ _ _ HZ.out]; rfl
    have z5 : (W0.setRow w.heap.size #[.int .i64 0, .int .i64 0, .int .i64 0, .slice none 0 0, .int .i64 0, .int .i64 0, .slice none 0 0]).cell? ⟨w.heap.size, 5, none⟩ = some (.int .i64 0) := by rw [cell_of_row _ _ _ _ _ _ HZ.out]; rfl
    have z6 : (W0.setRow w.heap.size #[.int .i64 0, .int .i64 0, .int .i64 0, .slice none 0 0, .int .i64 0, .int .i64 0, .slice none 0 0]).cell? ⟨w.heap.size, 6, none⟩ = some (.slice none 0 0) := by rw [cell_of_row _ _ _ _ _ _ HZ.out]; rfl
    refine bodyPost_ret (v := .tuple #[.bool false, .slice none 0 0, .agg #[.int .i64 0, .int .i64 0, .int .i64 0, .slice none 0 0, .int .i64 0, .int .i64 0, .slice none 0 0], .int .i64 11]) (by simp [results, Tryz.results22, go_sem, z0, z1, z2, z3, z4, z5, z6]) rfl ?_
    exact ReadU.err_ HR.out (Below.setRow' HB0.out (Nat.le_refl _) _)
  | cons b l =>
    have h0 : 0 < s.size := by rw [ByteArray.size, ← Array.length_toList, hl]; simp
    have hb0 : s[0] = b := by
      have : s.data.toList[0]'(by rw [hl]; simp) = b := by simp only [hl]; rfl
      rw [← this]; rfl
    have q1 : ¬ s.toList = [] := by rw [str_nil, hl]; simp
    have q2 : s.toList.isEmpty = false := by rw [List.isEmpty_eq_false_iff]; exact q1
    have q3 : (s.toList == []) = false := by rw [beq_eq_false_iff_ne]; exact q1
    have hd1 := drop1 s b l hl
    have hes : (s.extract 1 s.size).size ≤ 1000000 := by rw [ByteArray.size_extract]; omega
    have h1s : (1 : Int) ≤ (s.size : Int) := by omega
    have HES := Lib.hid hes
    have HD1 := Lib.hid hd1
    clear hes hd1
    have hbl : b.toNat < 256 := b.toNat_lt
    by_cases h33 : b.toNat = 33
    · have t33 : ((s[0].toNat : Int) == 33) = true := by rw [beq_iff_eq, hb0]; omega
      have t33n : ((s[0].toNat : Int) != 33) = false := by rw [bne_eq_false_iff_eq, hb0]; omega
      have t63n : ((s[0].toNat : Int) != 63) = true := by rw [bne_iff_ne, hb0]; omega
      obtain ⟨d, hd⟩ : ∃ d, d = decZ l := ⟨_, rfl⟩
      have HR := Lib.hid (show r = tellR d by rw [hr, hl, readZ_cons, if_pos h33, hd]; cases decZ l <;> rfl)
      have HDQ := Lib.hid ((cdecode_any (s.extract 1 s.size) W0 HES.out).mono fun e w' h => (show DecQ (decZ (s.extract 1 s.size).data.toList) W0 e w' from h).uni)
      rw [HD1.out, ← hd] at HDQ
      have HT := Lib.hid (fun w' (hb : Below w.heap.size w w') dA dc oA oc (hI : GrIn w' (fun k => w.heap.size ≤ k) (decG d) dA dc oA oc) => ReadU.tell_ HR.out hb hI)
      obtain ⟨z, hz⟩ : ∃ z, z = decE d := ⟨_, rfl⟩
      obtain ⟨g, hg⟩ : ∃ g, g = decG d := ⟨_, rfl⟩
      rw [← hz, ← hg] at HDQ HT
      obtain ⟨⟨t, r_⟩, n, v, ⟨ut, ur⟩, ops⟩ := g
      clear hr hl hb0 h33 hbl hd hz hg HR
      go_enter Tryz.func22, Tryz.ntmps22
      go_wp2_with fail
      rw [← HW0.out]
      refine HDQ.out.mono ?_
      rintro e w1 ⟨hB1, dA, dc, oA, oc, he, hI1⟩
      obtain rfl : e = .returned (.tuple #[.agg #[.int .i64 t, .int .i64 r_, .int .i64 n, .slice dA v.length dc, .int .i64 ut, .int .i64 ur, .slice oA ops.length oc], .int .i64 z]) := he
      have HA1 := Lib.hid ((hB1.block w.heap.size (lt_of_block HA0.out)).trans HA0.out)
      have HB1 := Lib.hid (HB0.out.trans (hB1.mono HB0.out.size))
      have HI1 := Lib.hid (hI1.sub (T := fun k => w.heap.size < k) (fun k _ h => by have h : W0.heap.size ≤ k := h; show w.heap.size < k; rw [HZ0.out] at h; omega))
      clear hB1 hI1
      go_upto_region 5 with (first | (refine store_last rfl _ _ _ rfl _ _ _ _ rfl ?_ rfl ?_ ?_ ?_ ?_; (focus (simp; done)); kernel_rfl; rfl; rfl))
      have HB2 := Lib.hid (HB1.out.alloc HB1.out.size (.cells #[.int .i64 t, .int .i64 r_, .int .i64 n, .slice dA v.length dc, .int .i64 ut, .int .i64 ur, .slice oA ops.length oc] 40))
      have HA2 := Lib.hid ((Below.heap_alloc w1 (.cells #[.int .i64 t, .int .i64 r_, .int .i64 n, .slice dA v.length dc, .int .i64 ut, .int .i64 ur, .slice oA ops.length oc] 40) _ (lt_of_block HA1.out)).trans HA1.out)
      have HC2 := Lib.hid (heap_alloc_new w1 (.cells #[.int .i64 t, .int .i64 r_, .int .i64 n, .slice dA v.length dc, .int .i64 ut, .int .i64 ur, .slice oA ops.length oc] 40))
      have HI2 := Lib.hid (HI1.out.agr (Agr.below ((Below.refl _ _).alloc (Nat.le_refl _) (.cells #[.int .i64 t, .int .i64 r_, .int .i64 n, .slice dA v.length dc, .int .i64 ut, .int .i64 ur, .slice oA ops.length oc] 40))))
      have hwl : w.heap.size < w1.heap.size := lt_of_block HA1.out
      generalize hV : w1.alloc (.cells #[.int .i64 t, .int .i64 r_, .int .i64 n, .slice dA v.length dc, .int .i64 ut, .int .i64 ur, .slice oA ops.length oc] 40) = V at *
      clear hV
      have c0 : V.cell? ⟨w1.heap.size, 0, none⟩ = some (.int .i64 t) := by rw [cell_of_row _ _ _ _ _ _ HC2.out]; rfl
      have c1 : V.cell? ⟨w1.heap.size, 1, none⟩ = some (.int .i64 r_) := by rw [cell_of_row _ _ _ _ _ _ HC2.out]; rfl
      have c2 : V.cell? ⟨w1.heap.size, 2, none⟩ = some (.int .i64 n) := by rw [cell_of_row _ _ _ _ _ _ HC2.out]; rfl
      have c3 : V.cell? ⟨w1.heap.size, 3, none⟩ = some (.slice dA v.length dc) := by rw [cell_of_row _ _ _ _ _ _ HC2.out]; rfl
      have c4 : V.cell? ⟨w1.heap.size, 4, none⟩ = some (.int .i64 ut) := by rw [cell_of_row _ _ _ _ _ _ HC2.out]; rfl
      have c5 : V.cell? ⟨w1.heap.size, 5, none⟩ = some (.int .i64 ur) := by rw [cell_of_row _ _ _ _ _ _ HC2.out]; rfl
      have c6 : V.cell? ⟨w1.heap.size, 6, none⟩ = some (.slice oA ops.length oc) := by rw [cell_of_row _ _ _ _ _ _ HC2.out]; rfl
      refine wp_region_any (by kernel_rfl) ?_
      try (change wpAny _ _ _ _ _ _ _ (World.drew _))
      refine wpAny_take (i := 1) (v := .int .i64 z) rfl (by kernel_rfl) (by kernel_rfl) (by kernel_rfl) (fun _ _ _ h => h) (Or.inl ⟨by rfl, fun w => by go_simp⟩) ?_
      go_simp
      refine wpAny_take (i := 2) (v := .bool false) rfl (by kernel_rfl) (by kernel_rfl) (by kernel_rfl) (fun _ _ _ h => h) (Or.inl ⟨by rfl, fun w => by go_simp⟩) ?_
      go_simp
      refine wpAny_take (i := 3) (v := .slice none 0 0) rfl (by kernel_rfl) (by kernel_rfl) (by kernel_rfl) (fun _ _ _ h => h) (Or.inl ⟨by rfl, fun w => by go_simp⟩) ?_
      go_simp
      refine wpAny_ready (rs := [0]) (by kernel_rfl) (by simp) ?_
      refine AllReady.cons rfl (fun K hK => ?_) AllReady.nil
      go_simp
      refine hK _ _ ?_
      clear hK K
      refine wpAny_ready (rs := [4]) (by kernel_rfl) (by simp) ?_
      refine AllReady.cons rfl (fun K hK => ?_) AllReady.nil
      rw [if_pos (by rfl)]
      refine wp_store_at 40 _ _ rfl w.heap.size 40 #[.int .i64 0, .int .i64 0, .int .i64 0, .slice none 0 0, .int .i64 0, .int .i64 0, .slice none 0 0] #[.int .i64 t, .int .i64 r_, .int .i64 n, .slice dA v.length dc, .int .i64 ut, .int .i64 ur, .slice oA ops.length oc] rfl rfl (show V.drew.heap[w.heap.size]? = _ from HA2.out) (by kernel_rfl) rfl rfl ?_
      have HZ := Lib.hid (heap_setRow_same #[.int .i64 t, .int .i64 r_, .int .i64 n, .slice dA v.length dc, .int .i64 ut, .int .i64 ur, .slice oA ops.length oc] (show V.drew.heap[w.heap.size]? = _ from HA2.out))
      refine hK _ _ ?_
      clear hK K
      refine wpAny_take (i := 5) (v := .int .i64 z) rfl (by kernel_rfl) (by kernel_rfl) (by kernel_rfl) (fun _ _ _ h => h) (Or.inl ⟨by rfl, fun w => by go_simp⟩) ?_
      go_simp
      refine wpAny_done (by kernel_rfl) ?_ _
      go_simp
      go_wp2
      have z0 : (V.drew.setRow w.heap.size #[.int .i64 t, .int .i64 r_, .int .i64 n, .slice dA v.length dc, .int .i64 ut, .int .i64 ur, .slice oA ops.length oc]).cell? ⟨w.heap.size, 0, none⟩ = some (.int .i64 t) := by rw [cell_of_row _ _ _ _ _ _ HZ.out]; rfl
      have z1 : (V.drew.setRow w.heap.size #[.int .i64 t, .int .i64 r_, .int .i64 n, .slice dA v.length dc, .int .i64 ut, .int .i64 ur, .slice oA ops.length oc]).cell? ⟨w.heap.size, 1, none⟩ = some (.int .i64 r_) := by rw [cell_of_row _ _ _ _ _ _ HZ.out]; rfl
      have z2 : (V.drew.setRow w.heap.size #[.int .i64 t, .int .i64 r_, .int .i64 n, .slice dA v.length dc, .int .i64 ut, .int .i64 ur, .slice oA ops.length oc]).cell? ⟨w.heap.size, 2, none⟩ = some (.int .i64 n) := by rw [cell_of_row _ _ _ _ _ _ HZ.out]; rfl
      have z3 : (V.drew.setRow w.heap.size #[.int .i64 t, .int .i64 r_, .int .i64 n, .slice dA v.length dc, .int .i64 ut, .int .i64 ur, .slice oA ops.length oc]).cell? ⟨w.heap.size, 3, none⟩ = some (.slice dA v.length dc) := by rw [cell_of_row _ _ _ _ _ _ HZ.out]; rfl
      have z4 : (V.drew.setRow w.heap.size #[.int .i64 t, .int .i64 r_, .int .i64 n, .slice dA v.length dc, .int .i64 ut, .int .i64 ur, .slice oA ops.length oc]).cell? ⟨w.heap.size, 4, none⟩ = some (.int .i64 ut) := by rw [cell_of_row _ _ _ _ _ _ HZ.out]; rfl
      have z5 : (V.drew.setRow w.heap.size #[.int .i64 t, .int .i64 r_, .int .i64 n, .slice dA v.length dc, .int .i64 ut, .int .i64 ur, .slice oA ops.length oc]).cell? ⟨w.heap.size, 5, none⟩ = some (.int .i64 ur) := by rw [cell_of_row _ _ _ _ _ _ HZ.out]; rfl
      have z6 : (V.drew.setRow w.heap.size #[.int .i64 t, .int .i64 r_, .int .i64 n, .slice dA v.length dc, .int .i64 ut, .int .i64 ur, .slice oA ops.length oc]).cell? ⟨w.heap.size, 6, none⟩ = some (.slice oA ops.length oc) := by rw [cell_of_row _ _ _ _ _ _ HZ.out]; rfl
      refine bodyPost_ret (v := .tuple #[.bool false, .slice none 0 0, .agg #[.int .i64 t, .int .i64 r_, .int .i64 n, .slice dA v.length dc, .int .i64 ut, .int .i64 ur, .slice oA ops.length oc], .int .i64 z]) (by simp [results, Tryz.results22, go_sem, z0, z1, z2, z3, z4, z5, z6]) rfl ?_
      exact HT.out _ (Below.setRow' (HB2.out.trans (below_drew V HB2.out.size)) (Nat.le_refl _) _) dA dc oA oc (((HI2.out.agr (Agr.below (below_drew V (Nat.le_refl _)))).agr (Agr.setRow V.drew w.heap.size #[.int .i64 t, .int .i64 r_, .int .i64 n, .slice dA v.length dc, .int .i64 ut, .int .i64 ur, .slice oA ops.length oc] (by show ¬ w.heap.size < w.heap.size; omega))).sub (fun k _ h => by have h : w.heap.size < k := h; show w.heap.size ≤ k; omega))
    · have t33 : ((s[0].toNat : Int) == 33) = false := by rw [beq_eq_false_iff_ne, hb0]; omega
      have t33n : ((s[0].toNat : Int) != 33) = true := by rw [bne_iff_ne, hb0]; omega
      by_cases h63 : b.toNat = 63
      · have t63n : ((s[0].toNat : Int) != 63) = false := by rw [bne_eq_false_iff_eq, hb0]; omega
        have HVZ := Lib.hid (show r = askR (vecZ l) by rw [hr, hl, readZ_cons, if_neg h33, if_pos h63]; cases vecZ l <;> rfl)
        have HTN := Lib.hid (reftakenats_own (s.extract 1 s.size) HES.out W0)
        rw [HD1.out] at HTN
        have hll : l.length ≤ 1000000 := by have h2 : s.data.toList.length = s.size := (by simp); rw [hl] at h2; simp at h2; omega
        clear hr hl hb0 h33 hbl h63 HD1 HES
        cases htn : Vr.takeNats l with
        | err ce =>
          have HR := Lib.hid (show r = .err 11 by rw [HVZ.out]; unfold vecZ; rw [htn]; rfl)
          have t1 : ((ce : Int) != 0) = true := by rw [bne_iff_ne]; have := takeNats_pos htn; omega
          rw [htn] at HTN
          clear htn HVZ
          go_enter Tryz.func22, Tryz.ntmps22
          go_wp2_with fail
          rw [← HW0.out]
          refine HTN.out.mono ?_
          rintro e w1 ⟨rfl, hB1⟩
          have HA1 := Lib.hid ((hB1.block w.heap.size (lt_of_block HA0.out)).trans HA0.out)
          have HB1 := Lib.hid (HB0.out.trans (hB1.mono HB0.out.size))
          clear hB1
          go_wp2_with (first | (refine store_at rfl _ _ _ rfl w.heap.size _ _ #[.int .i64 0, .int .i64 0, .int .i64 0, .slice none 0 0, .int .i64 0, .int .i64 0, .slice none 0 0] rfl rfl HA1.out ?_ ?_ ?_ ?_; kernel_rfl; rfl; rfl))
          have HZ := Lib.hid (heap_setRow_same #[.int .i64 0, .int .i64 0, .int .i64 0, .slice none 0 0, .int .i64 0, .int .i64 0, .slice none 0 0] HA1.out)
          have z0 : (w1.setRow w.heap.size #[.int .i64 0, .int .i64 0, .int .i64 0, .slice none 0 0, .int .i64 0, .int .i64 0, .slice none 0 0]).cell? ⟨w.heap.size, 0, none⟩ = some (.int .i64 0) := by rw [cell_of_row _ _ _ _ _ _ HZ.out]; rfl
          have z1 : (w1.setRow w.heap.size #[.int .i64 0, .int .i64 0, .int .i64 0, .slice none 0 0, .int .i64 0, .int .i64 0, .slice none 0 0]).cell? ⟨w.heap.size, 1, none⟩ = some (.int .i64 0) := by rw [cell_of_row _ _ _ _ _ _ HZ.out]; rfl
          have z2 : (w1.setRow w.heap.size #[.int .i64 0, .int .i64 0, .int .i64 0, .slice none 0 0, .int .i64 0, .int .i64 0, .slice none 0 0]).cell? ⟨w.heap.size, 2, none⟩ = some (.int .i64 0) := by rw [cell_of_row _ _ _ _ _ _ HZ.out]; rfl
          have z3 : (w1.setRow w.heap.size #[.int .i64 0, .int .i64 0, .int .i64 0, .slice none 0 0, .int .i64 0, .int .i64 0, .slice none 0 0]).cell? ⟨w.heap.size, 3, none⟩ = some (.slice none 0 0) := by rw [cell_of_row _ _ _ _ _ _ HZ.out]; rfl
          have z4 : (w1.setRow w.heap.size #[.int .i64 0, .int .i64 0, .int .i64 0, .slice none 0 0, .int .i64 0, .int .i64 0, .slice none 0 0]).cell? ⟨w.heap.size, 4, none⟩ = some (.int .i64 0) := by rw [cell_of_row _ _ _ _ _ _ HZ.out]; rfl
          have z5 : (w1.setRow w.heap.size #[.int .i64 0, .int .i64 0, .int .i64 0, .slice none 0 0, .int .i64 0, .int .i64 0, .slice none 0 0]).cell? ⟨w.heap.size, 5, none⟩ = some (.int .i64 0) := by rw [cell_of_row _ _ _ _ _ _ HZ.out]; rfl
          have z6 : (w1.setRow w.heap.size #[.int .i64 0, .int .i64 0, .int .i64 0, .slice none 0 0, .int .i64 0, .int .i64 0, .slice none 0 0]).cell? ⟨w.heap.size, 6, none⟩ = some (.slice none 0 0) := by rw [cell_of_row _ _ _ _ _ _ HZ.out]; rfl
          refine bodyPost_ret (v := .tuple #[.bool false, .slice none 0 0, .agg #[.int .i64 0, .int .i64 0, .int .i64 0, .slice none 0 0, .int .i64 0, .int .i64 0, .slice none 0 0], .int .i64 11]) (by simp [results, Tryz.results22, go_sem, z0, z1, z2, z3, z4, z5, z6]) rfl ?_
          exact ReadU.err_ HR.out (Below.setRow' HB1.out (Nat.le_refl _) _)
        | ok ns rest =>
          rw [htn] at HTN
          by_cases hrs : rest = []
          · subst hrs
            have HV1 := Lib.hid (show r = if vecB (ns.map fun (m : Nat) => (m : Int)) = true then .ask (ns.map fun (m : Nat) => (m : Int)) else .err 11 by rw [HVZ.out]; unfold vecZ; rw [htn]; simp only []; cases vecB (ns.map fun (m : Nat) => (m : Int)) <;> rfl)
            have hlen : ns.length ≤ 1000000 := by have h1 := (Vr.takeNats_back htn).2.1; omega
            clear htn HVZ
            go_enter Tryz.func22, Tryz.ntmps22
            go_wp2_with fail
            rw [← HW0.out]
            refine HTN.out.mono ?_
            rintro e w1 ⟨A, c, rfl, hO1, hB1⟩
            have hcap := own_cap hO1
            have hVV := (vec_nats hO1).vec
            have HA1 := Lib.hid ((hB1.block w.heap.size (lt_of_block HA0.out)).trans HA0.out)
            have HB1 := Lib.hid (HB0.out.trans (hB1.mono HB0.out.size))
            obtain ⟨vv, hvv⟩ : ∃ vv : List Int, vv = ns.map fun (m : Nat) => (m : Int) := ⟨_, rfl⟩
            have hvl : vv.length = ns.length := by rw [hvv, List.length_map]
            rw [← hvv] at hVV HV1
            rw [← hvl] at hcap hlen ⊢
            have HVE := Lib.hid (refvector_any A c vv w1 hcap.1 (by omega) hVV)
            have HVV := Lib.hid hVV
            have HCP := Lib.hid hcap
            clear hB1 hO1 hvv hvl hVV hcap HTN
            cases hvb : vecB vv with
            | false =>
              have HR := Lib.hid (show r = .err 11 by rw [HV1.out, hvb]; rfl)
              rw [hvb] at HVE
              clear hvb HV1
              go_upto_region 8 with (go_at_call 54; refine HVE.out.mono ?_; rintro e w2 ⟨rfl, hB2⟩)
              have HA2 := Lib.hid ((hB2.block w.heap.size (lt_of_block HA1.out)).trans HA1.out)
              have HB2 := Lib.hid (HB1.out.trans (hB2.mono HB1.out.size))
              clear hB2
              go_wp2_with (first | (refine store_at rfl _ _ _ rfl w.heap.size _ _ #[.int .i64 0, .int .i64 0, .int .i64 0, .slice none 0 0, .int .i64 0, .int .i64 0, .slice none 0 0] rfl rfl HA2.out ?_ ?_ ?_ ?_; kernel_rfl; rfl; rfl))
              have HZ := Lib.hid (heap_setRow_same #[.int .i64 0, .int .i64 0, .int .i64 0, .slice none 0 0, .int .i64 0, .int .i64 0, .slice none 0 0] HA2.out)
              have z0 : (w2.setRow w.heap.size #[.int .i64 0, .int .i64 0, .int .i64 0, .slice none 0 0, .int .i64 0, .int .i64 0, .slice none 0 0]).cell? ⟨w.heap.size, 0, none⟩ = some (.int .i64 0) := by rw [cell_of_row _ _ _ _ _ _ HZ.out]; rfl
              have z1 : (w2.setRow w.heap.size #[.int .i64 0, .int .i64 0, .int .i64 0, .slice none 0 0, .int .i64 0, .int .i64 0, .slice none 0 0]).cell? ⟨w.heap.size, 1, none⟩ = some (.int .i64 0) := by rw [cell_of_row _ _ _ _ _ _ HZ.out]; rfl
              have z2 : (w2.setRow w.heap.size #[.int .i64 0, .int .i64 0, .int .i64 0, .slice none 0 0, .int .i64 0, .int .i64 0, .slice none 0 0]).cell? ⟨w.heap.size, 2, none⟩ = some (.int .i64 0) := by rw [cell_of_row _ _ _ _ _ _ HZ.out]; rfl
              have z3 : (w2.setRow w.heap.size #[.int .i64 0, .int .i64 0, .int .i64 0, .slice none 0 0, .int .i64 0, .int .i64 0, .slice none 0 0]).cell? ⟨w.heap.size, 3, none⟩ = some (.slice none 0 0) := by rw [cell_of_row _ _ _ _ _ _ HZ.out]; rfl
              have z4 : (w2.setRow w.heap.size #[.int .i64 0, .int .i64 0, .int .i64 0, .slice none 0 0, .int .i64 0, .int .i64 0, .slice none 0 0]).cell? ⟨w.heap.size, 4, none⟩ = some (.int .i64 0) := by rw [cell_of_row _ _ _ _ _ _ HZ.out]; rfl
              have z5 : (w2.setRow w.heap.size #[.int .i64 0, .int .i64 0, .int .i64 0, .slice none 0 0, .int .i64 0, .int .i64 0, .slice none 0 0]).cell? ⟨w.heap.size, 5, none⟩ = some (.int .i64 0) := by rw [cell_of_row _ _ _ _ _ _ HZ.out]; rfl
              have z6 : (w2.setRow w.heap.size #[.int .i64 0, .int .i64 0, .int .i64 0, .slice none 0 0, .int .i64 0, .int .i64 0, .slice none 0 0]).cell? ⟨w.heap.size, 6, none⟩ = some (.slice none 0 0) := by rw [cell_of_row _ _ _ _ _ _ HZ.out]; rfl
              refine bodyPost_ret (v := .tuple #[.bool false, .slice none 0 0, .agg #[.int .i64 0, .int .i64 0, .int .i64 0, .slice none 0 0, .int .i64 0, .int .i64 0, .slice none 0 0], .int .i64 11]) (by simp [results, Tryz.results22, go_sem, z0, z1, z2, z3, z4, z5, z6]) rfl ?_
              exact ReadU.err_ HR.out (Below.setRow' HB2.out (Nat.le_refl _) _)
            | true =>
              have HR := Lib.hid (show r = .ask vv by rw [HV1.out, hvb]; rfl)
              rw [hvb] at HVE
              clear hvb HV1
              go_upto_region 9 with (go_at_call 54; refine HVE.out.mono ?_; rintro e w2 ⟨rfl, hB2⟩)
              have HA2 := Lib.hid ((hB2.block w.heap.size (lt_of_block HA1.out)).trans HA1.out)
              have HW2 := Lib.hid (HVV.out.below hB2)
              have HB2 := Lib.hid (HB1.out.trans (hB2.mono HB1.out.size))
              clear hB2
              go_wp2_with (first | (refine store_at rfl _ _ _ rfl w.heap.size _ _ #[.int .i64 0, .int .i64 0, .int .i64 0, .slice none 0 0, .int .i64 0, .int .i64 0, .slice none 0 0] rfl rfl HA2.out ?_ ?_ ?_ ?_; kernel_rfl; rfl; rfl))
              have HZ := Lib.hid (heap_setRow_same #[.int .i64 0, .int .i64 0, .int .i64 0, .slice none 0 0, .int .i64 0, .int .i64 0, .slice none 0 0] HA2.out)
              have z0 : (w2.setRow w.heap.size #[.int .i64 0, .int .i64 0, .int .i64 0, .slice none 0 0, .int .i64 0, .int .i64 0, .slice none 0 0]).cell? ⟨w.heap.size, 0, none⟩ = some (.int .i64 0) := by rw [cell_of_row _ _ _ _ _ _ HZ.out]; rfl
              have z1 : (w2.setRow w.heap.size #[.int .i64 0, .int .i64 0, .int .i64 0, .slice none 0 0, .int .i64 0, .int .i64 0, .slice none 0 0]).cell? ⟨w.heap.size, 1, none⟩ = some (.int .i64 0) := by rw [cell_of_row _ _ _ _ _ _ HZ.out]; rfl
              have z2 : (w2.setRow w.heap.size #[.int .i64 0, .int .i64 0, .int .i64 0, .slice none 0 0, .int .i64 0, .int .i64 0, .slice none 0 0]).cell? ⟨w.heap.size, 2, none⟩ = some (.int .i64 0) := by rw [cell_of_row _ _ _ _ _ _ HZ.out]; rfl
              have z3 : (w2.setRow w.heap.size #[.int .i64 0, .int .i64 0, .int .i64 0, .slice none 0 0, .int .i64 0, .int .i64 0, .slice none 0 0]).cell? ⟨w.heap.size, 3, none⟩ = some (.slice none 0 0) := by rw [cell_of_row _ _ _ _ _ _ HZ.out]; rfl
              have z4 : (w2.setRow w.heap.size #[.int .i64 0, .int .i64 0, .int .i64 0, .slice none 0 0, .int .i64 0, .int .i64 0, .slice none 0 0]).cell? ⟨w.heap.size, 4, none⟩ = some (.int .i64 0) := by rw [cell_of_row _ _ _ _ _ _ HZ.out]; rfl
              have z5 : (w2.setRow w.heap.size #[.int .i64 0, .int .i64 0, .int .i64 0, .slice none 0 0, .int .i64 0, .int .i64 0, .slice none 0 0]).cell? ⟨w.heap.size, 5, none⟩ = some (.int .i64 0) := by rw [cell_of_row _ _ _ _ _ _ HZ.out]; rfl
              have z6 : (w2.setRow w.heap.size #[.int .i64 0, .int .i64 0, .int .i64 0, .slice none 0 0, .int .i64 0, .int .i64 0, .slice none 0 0]).cell? ⟨w.heap.size, 6, none⟩ = some (.slice none 0 0) := by rw [cell_of_row _ _ _ _ _ _ HZ.out]; rfl
              refine bodyPost_ret (v := .tuple #[.bool true, .slice A vv.length c, .agg #[.int .i64 0, .int .i64 0, .int .i64 0, .slice none 0 0, .int .i64 0, .int .i64 0, .slice none 0 0], .int .i64 0]) (by simp [results, Tryz.results22, go_sem, z0, z1, z2, z3, z4, z5, z6]) rfl ?_
              exact ReadU.ask_ HR.out (Below.setRow' HB2.out (Nat.le_refl _) _) (by rw [setRow_eq HA2.out]; exact HW2.out) HCP.out.1 HCP.out.2
          · have HR := Lib.hid (show r = .err 11 by rw [HVZ.out]; unfold vecZ; rw [htn]; cases rest with
            | nil => exact absurd rfl hrs
            | cons a t => rfl)
            have q4 : ¬ (⟨rest.toArray⟩ : ByteArray).toList = [] := by rw [str_nil]; exact hrs
            obtain ⟨R, hR⟩ : ∃ R : ByteArray, R = ⟨rest.toArray⟩ := ⟨_, rfl⟩
            have HRe := Lib.hid hR
            rw [← hR] at q4
            have q5 : R.toList.isEmpty = false := by rw [List.isEmpty_eq_false_iff]; exact q4
            have q6 : (R.toList == []) = false := by rw [beq_eq_false_iff_ne]; exact q4
            clear htn HVZ hrs hR
            go_enter Tryz.func22, Tryz.ntmps22
            go_wp2_with fail
            rw [← HW0.out]
            refine HTN.out.mono ?_
            rintro e w1 ⟨A, c, rfl, hO1, hB1⟩
            rw [← HRe.out]
            have HA1 := Lib.hid ((hB1.block w.heap.size (lt_of_block HA0.out)).trans HA0.out)
            have HB1 := Lib.hid (HB0.out.trans (hB1.mono HB0.out.size))
            clear hB1 hO1 HTN
            go_wp2_with (first | (refine store_at rfl _ _ _ rfl w.heap.size _ _ #[.int .i64 0, .int .i64 0, .int .i64 0, .slice none 0 0, .int .i64 0, .int .i64 0, .slice none 0 0] rfl rfl HA1.out ?_ ?_ ?_ ?_; kernel_rfl; rfl; rfl))
            have HZ := Lib.hid (heap_setRow_same #[.int .i64 0, .int .i64 0, .int .i64 0, .slice none 0 0, .int .i64 0, .int .i64 0, .slice none 0 0] HA1.out)
            have z0 : (w1.setRow w.heap.size #[.int .i64 0, .int .i64 0, .int .i64 0, .slice none 0 0, .int .i64 0, .int .i64 0, .slice none 0 0]).cell? ⟨w.heap.size, 0, none⟩ = some (.int .i64 0) := by rw [cell_of_row _ _ _ _ _ _ HZ.out]; rfl
            have z1 : (w1.setRow w.heap.size #[.int .i64 0, .int .i64 0, .int .i64 0, .slice none 0 0, .int .i64 0, .int .i64 0, .slice none 0 0]).cell? ⟨w.heap.size, 1, none⟩ = some (.int .i64 0) := by rw [cell_of_row _ _ _ _ _ _ HZ.out]; rfl
            have z2 : (w1.setRow w.heap.size #[.int .i64 0, .int .i64 0, .int .i64 0, .slice none 0 0, .int .i64 0, .int .i64 0, .slice none 0 0]).cell? ⟨w.heap.size, 2, none⟩ = some (.int .i64 0) := by rw [cell_of_row _ _ _ _ _ _ HZ.out]; rfl
            have z3 : (w1.setRow w.heap.size #[.int .i64 0, .int .i64 0, .int .i64 0, .slice none 0 0, .int .i64 0, .int .i64 0, .slice none 0 0]).cell? ⟨w.heap.size, 3, none⟩ = some (.slice none 0 0) := by rw [cell_of_row _ _ _ _ _ _ HZ.out]; rfl
            have z4 : (w1.setRow w.heap.size #[.int .i64 0, .int .i64 0, .int .i64 0, .slice none 0 0, .int .i64 0, .int .i64 0, .slice none 0 0]).cell? ⟨w.heap.size, 4, none⟩ = some (.int .i64 0) := by rw [cell_of_row _ _ _ _ _ _ HZ.out]; rfl
            have z5 : (w1.setRow w.heap.size #[.int .i64 0, .int .i64 0, .int .i64 0, .slice none 0 0, .int .i64 0, .int .i64 0, .slice none 0 0]).cell? ⟨w.heap.size, 5, none⟩ = some (.int .i64 0) := by rw [cell_of_row _ _ _ _ _ _ HZ.out]; rfl
            have z6 : (w1.setRow w.heap.size #[.int .i64 0, .int .i64 0, .int .i64 0, .slice none 0 0, .int .i64 0, .int .i64 0, .slice none 0 0]).cell? ⟨w.heap.size, 6, none⟩ = some (.slice none 0 0) := by rw [cell_of_row _ _ _ _ _ _ HZ.out]; rfl
            refine bodyPost_ret (v := .tuple #[.bool false, .slice none 0 0, .agg #[.int .i64 0, .int .i64 0, .int .i64 0, .slice none 0 0, .int .i64 0, .int .i64 0, .slice none 0 0], .int .i64 11]) (by simp [results, Tryz.results22, go_sem, z0, z1, z2, z3, z4, z5, z6]) rfl ?_
            exact ReadU.err_ HR.out (Below.setRow' HB1.out (Nat.le_refl _) _)
      · have t63n : ((s[0].toNat : Int) != 63) = true := by rw [bne_iff_ne, hb0]; omega
        have HR := Lib.hid (show r = .err 11 by rw [hr, hl]; rw [readZ_cons, if_neg h33, if_neg h63])
        clear hr hl hb0 h33 h63 hbl
        go_enter Tryz.func22, Tryz.ntmps22
        go_upto_region 2 with fail
        rw [← HW0.out]
        go_wp2_with (first | (refine store_at rfl _ _ _ rfl w.heap.size _ _ #[.int .i64 0, .int .i64 0, .int .i64 0, .slice none 0 0, .int .i64 0, .int .i64 0, .slice none 0 0] rfl rfl HA0.out ?_ ?_ ?_ ?_; kernel_rfl; rfl; rfl))
        have HZ := Lib.hid (heap_setRow_same #[.int .i64 0, .int .i64 0, .int .i64 0, .slice none 0 0, .int .i64 0, .int .i64 0, .slice none 0 0] HA0.out)
        have z0 : (W0.setRow w.heap.size #[.int .i64 0, .int .i64 0, .int .i64 0, .slice none 0 0, .int .i64 0, .int .i64 0, .slice none 0 0]).cell? ⟨w.heap.size, 0, none⟩ = some (.int .i64 0) := by rw [cell_of_row _ _ _ _ _ _ HZ.out]; rfl
        have z1 : (W0.setRow w.heap.size #[.int .i64 0, .int .i64 0, .int .i64 0, .slice none 0 0, .int .i64 0, .int .i64 0, .slice none 0 0]).cell? ⟨w.heap.size, 1, none⟩ = some (.int .i64 0) := by rw [cell_of_row _ _ _ _ _ _ HZ.out]; rfl
        have z2 : (W0.setRow w.heap.size #[.int .i64 0, .int .i64 0, .int .i64 0, .slice none 0 0, .int .i64 0, .int .i64 0, .slice none 0 0]).cell? ⟨w.heap.size, 2, none⟩ = some (.int .i64 0) := by rw [cell_of_row _ _ _ _ _ _ HZ.out]; rfl
        have z3 : (W0.setRow w.heap.size #[.int .i64 0, .int .i64 0, .int .i64 0, .slice none 0 0, .int .i64 0, .int .i64 0, .slice none 0 0]).cell? ⟨w.heap.size, 3, none⟩ = some (.slice none 0 0) := by rw [cell_of_row _ _ _ _ _ _ HZ.out]; rfl
        have z4 : (W0.setRow w.heap.size #[.int .i64 0, .int .i64 0, .int .i64 0, .slice none 0 0, .int .i64 0, .int .i64 0, .slice none 0 0]).cell? ⟨w.heap.size, 4, none⟩ = some (.int .i64 0) := by rw [cell_of_row _ _ _ _ _ _ HZ.out]; rfl
        have z5 : (W0.setRow w.heap.size #[.int .i64 0, .int .i64 0, .int .i64 0, .slice none 0 0, .int .i64 0, .int .i64 0, .slice none 0 0]).cell? ⟨w.heap.size, 5, none⟩ = some (.int .i64 0) := by rw [cell_of_row _ _ _ _ _ _ HZ.out]; rfl
        have z6 : (W0.setRow w.heap.size #[.int .i64 0, .int .i64 0, .int .i64 0, .slice none 0 0, .int .i64 0, .int .i64 0, .slice none 0 0]).cell? ⟨w.heap.size, 6, none⟩ = some (.slice none 0 0) := by rw [cell_of_row _ _ _ _ _ _ HZ.out]; rfl
        refine bodyPost_ret (v := .tuple #[.bool false, .slice none 0 0, .agg #[.int .i64 0, .int .i64 0, .int .i64 0, .slice none 0 0, .int .i64 0, .int .i64 0, .slice none 0 0], .int .i64 11]) (by simp [results, Tryz.results22, go_sem, z0, z1, z2, z3, z4, z5, z6]) rfl ?_
        exact ReadU.err_ HR.out (Below.setRow' HB0.out (Nat.le_refl _) _)
end Go.Proofs.YteedajnikfhpjaaGreatDoor
