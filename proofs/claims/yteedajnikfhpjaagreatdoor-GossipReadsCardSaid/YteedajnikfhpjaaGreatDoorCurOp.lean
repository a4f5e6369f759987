/- How the reference's cursor takes an operation. Conditions: lengths in reach. -/
import Derived.Test.YteedajnikfhpjaaGreatDoorCur
import Derived.Deep.AppendLies
import Derived.Deep.RegionLaw
namespace Go.Proofs.YteedajnikfhpjaaGreatDoor
open Go.RowKit Go.Lib Go.Sort
set_option linter.unusedVariables false
attribute [local go_sem ↓] Go.wp_at_zero Go.wp_at_succ
/-- where the walk of an operation stands: the cursor; the result's block; the operation's block -/
structure CoSt (w0 : World) (b R O : Nat) (T : TypeId) (zc oc : Array Value) (s : ByteArray) (bad : Bool) (w : World) : Prop where
  rdr : Cur w b s bad
  res : w.heap[R]? = some (.cells zc T (0, 0))
  obj : w.heap[O]? = some (.cells oc T (0, 0))
  grow : w0.grownBy w (some b)
  nb : b < w0.heap.size
  nR : w0.heap.size ≤ R
  nO : R < O
section
variable {w0 w w' : World} {b R O : Nat} {T : TypeId} {zc oc : Array Value} {s s' : ByteArray} {bad bad' : Bool}
theorem CoSt.call (h : CoSt w0 b R O T zc oc s bad w) (hr : Cur w' b s' bad') (hg : w.grownBy w' (some b)) : CoSt w0 b R O T zc oc s' bad' w' :=
  ⟨hr, (hg.block R (lt_of_block h.res) (by intro e; cases e; have := h.nb; have := h.nR; omega)).trans h.res, (hg.block O (lt_of_block h.obj) (by intro e; cases e; have := h.nb; have := h.nR; have := h.nO; omega)).trans h.obj, gby_trans h.grow hg, h.nb, h.nR, h.nO⟩
theorem CoSt.keep (h : CoSt w0 b R O T zc oc s bad w) {r : Option Nat} (hg : w.grownBy w' r) (hr : ∀ g, r = some g → O < g) : CoSt w0 b R O T zc oc s bad w' := by
  have h1 := h.nb
  have h2 := h.nR
  have h3 := h.nO
  have hn : ∀ k, k ≤ O → some k ≠ r := fun k hk e => by have := hr k e.symm; omega
  exact ⟨h.rdr.kept hg (fun e => hn b (by omega) e.symm), (hg.block R (lt_of_block h.res) (hn R (by omega))).trans h.res, (hg.block O (lt_of_block h.obj) (hn O (by omega))).trans h.obj, gby_new h.grow hg (fun g e => by have := hr g e; omega), h.nb, h.nR, h.nO⟩
theorem CoSt.put (h : CoSt w0 b R O T zc oc s bad w) (c : Array Value) : CoSt w0 b R O T zc c s bad (w.setRow O c) := by
  have h1 := h.nb
  have h2 := h.nR
  have h3 := h.nO
  exact ⟨(setRow_other w O b c (by omega)).trans h.rdr, (setRow_other w O R c (by omega)).trans h.res, heap_setRow_same _ h.obj, gby_row h.grow _ _ (by omega), h.nb, h.nR, h.nO⟩
theorem CoSt.set (h : CoSt w0 b R O T zc oc s bad w) (i : Nat) (v : Value) (c : Array Value) (hc : oc.setIfInBounds i v = c) : CoSt w0 b R O T zc c s bad (w.setCell ⟨O, i, none⟩ v) := by
  have h1 := h.nb
  have h2 := h.nR
  have h3 := h.nO
  refine ⟨(Below.heap_setCell _ _ _ _ (by show b ≠ O; omega)).trans h.rdr, (Below.heap_setCell _ _ _ _ (by show R ≠ O; omega)).trans h.res, ?_, gby_setNew h.grow _ _ _ (by omega), h.nb, h.nR, h.nO⟩
  have := h.obj
  simp [World.setCell, Array.getElem?_modify, this, hc]
theorem CoSt.setBad (h : CoSt w0 b R O T zc oc s bad w) (v : Bool) : CoSt w0 b R O T zc oc s v (w.setCell ⟨b, 1, none⟩ (.bool v)) := by
  have h1 := h.nb
  have h2 := h.nR
  have h3 := h.nO
  exact ⟨h.rdr.set1 v, (Below.heap_setCell _ _ _ _ (by show R ≠ b; omega)).trans h.res, (Below.heap_setCell _ _ _ _ (by show O ≠ b; omega)).trans h.obj, gby_trans h.grow (gby_set _ _ _), h.nb, h.nR, h.nO⟩
theorem CoSt.cell (h : CoSt w0 b R O T zc oc s bad w) (i : Nat) : w.cell? ⟨O, i, none⟩ = oc[i]? := cell_of_row _ _ _ _ _ _ h.obj
end
set_option maxRecDepth 100000 in
set_option maxHeartbeats 16000000 in
theorem cop_any (b : Nat) (s : ByteArray) (bad : Bool) (w : World) (hs : s.size ≤ 1000000) (hR : Cur w b s bad) :
    Calls Tryz.prog 48 #[.pointer (some ⟨b, 0, none⟩)] w (CuQ opR (POp w.heap.size) b s bad w) := by
  have hlt := hR.lt
  have HR0 := Lib.hid (hR.kept (World.grownBy_alloc w (.cells #[.int .i64 0, .int .i64 0, .int .i64 0, .int .i64 0, .int .i64 0, .int .i64 0, .int .i64 0, .string ⟨#[]⟩, .bool false, .slice none 0 0, .int .i64 0, .int .i64 0, .int .i64 0, .int .i64 0, .int .i64 0, .int .i64 0, .string ⟨#[]⟩, .slice none 0 0] 80) none) (by simp))
  have HA0 := Lib.hid (heap_alloc_new w (.cells #[.int .i64 0, .int .i64 0, .int .i64 0, .int .i64 0, .int .i64 0, .int .i64 0, .int .i64 0, .string ⟨#[]⟩, .bool false, .slice none 0 0, .int .i64 0, .int .i64 0, .int .i64 0, .int .i64 0, .int .i64 0, .int .i64 0, .string ⟨#[]⟩, .slice none 0 0] 80))
  have HG0 := Lib.hid (World.grownBy_alloc w (.cells #[.int .i64 0, .int .i64 0, .int .i64 0, .int .i64 0, .int .i64 0, .int .i64 0, .int .i64 0, .string ⟨#[]⟩, .bool false, .slice none 0 0, .int .i64 0, .int .i64 0, .int .i64 0, .int .i64 0, .int .i64 0, .int .i64 0, .string ⟨#[]⟩, .slice none 0 0] 80) (some b))
  clear hR
  go_enter Tryz.func48, Tryz.ntmps48
  go_wp2_with fail
  refine (cnat_any b s bad _ hs HR0.out).mono ?_
  rintro e w1 ⟨k, v, s1, bad1, rfl, ⟨rfl, hk⟩, hR1, hg1, hd1⟩
  have hs1 := rd_size hd1 hs
  have HD1 := Lib.hid hd1
  have HA1 := Lib.hid ((hg1.block w.heap.size (by simp) (by intro e; cases e; omega)).trans HA0.out)
  have HG1 := Lib.hid (gby_trans HG0.out hg1)
  have hlt1 : w.heap.size < w1.heap.size := by have := hg1.size; simp at this; omega
  have HR1 := Lib.hid hR1
  clear hd1 hg1 hR1
  go_upto_region 2 with (refine store_last rfl _ _ _ rfl _ _ _ _ rfl ?_ rfl ?_ ?_ ?_ ?_; (focus (simp; done)); kernel_rfl; rfl; rfl)
  have HT1 : CoSt w b w.heap.size w1.heap.size 80 #[.int .i64 0, .int .i64 0, .int .i64 0, .int .i64 0, .int .i64 0, .int .i64 0, .int .i64 0, .string ⟨#[]⟩, .bool false, .slice none 0 0, .int .i64 0, .int .i64 0, .int .i64 0, .int .i64 0, .int .i64 0, .int .i64 0, .string ⟨#[]⟩, .slice none 0 0] #[.int .i64 k, .int .i64 0, .int .i64 0, .int .i64 0, .int .i64 0, .int .i64 0, .int .i64 0, .string ⟨#[]⟩, .bool false, .slice none 0 0, .int .i64 0, .int .i64 0, .int .i64 0, .int .i64 0, .int .i64 0, .int .i64 0, .string ⟨#[]⟩, .slice none 0 0] s1 bad1 (w1.alloc (.cells #[.int .i64 k, .int .i64 0, .int .i64 0, .int .i64 0, .int .i64 0, .int .i64 0, .int .i64 0, .string ⟨#[]⟩, .bool false, .slice none 0 0, .int .i64 0, .int .i64 0, .int .i64 0, .int .i64 0, .int .i64 0, .int .i64 0, .string ⟨#[]⟩, .slice none 0 0] 80)) :=
    ⟨HR1.out.kept (World.grownBy_alloc w1 _ none) (by simp), (Below.heap_alloc _ _ _ hlt1).trans HA1.out, heap_alloc_new _ _, gby_alloc HG1.out _, hlt, Nat.le_refl _, hlt1⟩
  generalize hV : w1.alloc (.cells #[.int .i64 k, .int .i64 0, .int .i64 0, .int .i64 0, .int .i64 0, .int .i64 0, .int .i64 0, .string ⟨#[]⟩, .bool false, .slice none 0 0, .int .i64 0, .int .i64 0, .int .i64 0, .int .i64 0, .int .i64 0, .int .i64 0, .string ⟨#[]⟩, .slice none 0 0] 80) = V1 at *
  clear hV HR1 HA1 HG1 HR0 HA0 HG0
  have HS1 := Lib.hid HT1
  clear HT1
  go_wp2_with fail
  refine (cid_any b s1 bad1 V1 hs1 HS1.out.rdr).mono ?_
  rintro e y2 ⟨⟨⟨t2, r2⟩, i2⟩, v, s2, bad2, rfl, hv, hR2, hg2, hd2⟩
  have hs2 := rd_size hd2 hs1
  have HU2 := Lib.hid (HS1.out.call hR2 hg2)
  have HD2 := Lib.hid hd2
  obtain rfl : v = .agg #[.int .i64 t2, .int .i64 r2, .int .i64 i2] := hv
  clear hR2 hg2 hd2
  go_upto_region 3 with (first | (refine store_putAt rfl _ _ _ rfl w1.heap.size 1 _ _ #[.int .i64 k, .int .i64 t2, .int .i64 r2, .int .i64 i2, .int .i64 0, .int .i64 0, .int .i64 0, .string ⟨#[]⟩, .bool false, .slice none 0 0, .int .i64 0, .int .i64 0, .int .i64 0, .int .i64 0, .int .i64 0, .int .i64 0, .string ⟨#[]⟩, .slice none 0 0] _ rfl HU2.out.obj rfl ?_ ?_ ?_ rfl ?_; kernel_rfl; exact Nat.le_of_ble_eq_true rfl; rfl))
  have HT2 := HU2.out.put #[.int .i64 k, .int .i64 t2, .int .i64 r2, .int .i64 i2, .int .i64 0, .int .i64 0, .int .i64 0, .string ⟨#[]⟩, .bool false, .slice none 0 0, .int .i64 0, .int .i64 0, .int .i64 0, .int .i64 0, .int .i64 0, .int .i64 0, .string ⟨#[]⟩, .slice none 0 0]
  generalize hV : y2.setRow w1.heap.size #[.int .i64 k, .int .i64 t2, .int .i64 r2, .int .i64 i2, .int .i64 0, .int .i64 0, .int .i64 0, .string ⟨#[]⟩, .bool false, .slice none 0 0, .int .i64 0, .int .i64 0, .int .i64 0, .int .i64 0, .int .i64 0, .int .i64 0, .string ⟨#[]⟩, .slice none 0 0] = V2 at *
  clear hV
  have HS2 := Lib.hid HT2
  clear HT2
  have ck2 : V2.cell? ⟨w1.heap.size, 0, none⟩ = some (.int .i64 k) := by rw [HS2.out.cell]; rfl
  by_cases k0 : k = 0
  · subst k0
    go_wp2_with fail
    refine (cid_any b s2 bad2 V2 hs2 HS2.out.rdr).mono ?_
    rintro e y3 ⟨⟨⟨t3, r3⟩, i3⟩, v, s3, bad3, rfl, hv, hR3, hg3, hd3⟩
    have hs3 := rd_size hd3 hs2
    have HU3 := Lib.hid (HS2.out.call hR3 hg3)
    have HD3 := Lib.hid hd3
    obtain rfl : v = .agg #[.int .i64 t3, .int .i64 r3, .int .i64 i3] := hv
    clear hR3 hg3 hd3
    go_upto_region 7 with (first | (refine store_putAt rfl _ _ _ rfl w1.heap.size 4 _ _ #[.int .i64 0, .int .i64 t2, .int .i64 r2, .int .i64 i2, .int .i64 t3, .int .i64 r3, .int .i64 i3, .string ⟨#[]⟩, .bool false, .slice none 0 0, .int .i64 0, .int .i64 0, .int .i64 0, .int .i64 0, .int .i64 0, .int .i64 0, .string ⟨#[]⟩, .slice none 0 0] _ rfl HU3.out.obj rfl ?_ ?_ ?_ rfl ?_; kernel_rfl; exact Nat.le_of_ble_eq_true rfl; rfl))
    have HT3 := HU3.out.put #[.int .i64 0, .int .i64 t2, .int .i64 r2, .int .i64 i2, .int .i64 t3, .int .i64 r3, .int .i64 i3, .string ⟨#[]⟩, .bool false, .slice none 0 0, .int .i64 0, .int .i64 0, .int .i64 0, .int .i64 0, .int .i64 0, .int .i64 0, .string ⟨#[]⟩, .slice none 0 0]
    generalize hV : y3.setRow w1.heap.size #[.int .i64 0, .int .i64 t2, .int .i64 r2, .int .i64 i2, .int .i64 t3, .int .i64 r3, .int .i64 i3, .string ⟨#[]⟩, .bool false, .slice none 0 0, .int .i64 0, .int .i64 0, .int .i64 0, .int .i64 0, .int .i64 0, .int .i64 0, .string ⟨#[]⟩, .slice none 0 0] = V3 at *
    clear hV
    have HS3 := Lib.hid HT3
    clear HT3
    go_wp2_with fail
    refine (cbytes_any b s3 bad3 V3 hs3 HS3.out.rdr).mono ?_
    rintro e y4 ⟨x4, v, s4, bad4, rfl, ⟨rfl, hx4⟩, hR4, hg4, hd4⟩
    have hs4 := rd_size hd4 hs3
    have HU4 := Lib.hid (HS3.out.call hR4 hg4)
    have HD4 := Lib.hid hd4
    clear hR4 hg4 hd4
    go_upto_region 8 with (first | (refine store_putAt rfl _ _ _ rfl w1.heap.size 7 _ _ #[.int .i64 0, .int .i64 t2, .int .i64 r2, .int .i64 i2, .int .i64 t3, .int .i64 r3, .int .i64 i3, .string x4, .bool false, .slice none 0 0, .int .i64 0, .int .i64 0, .int .i64 0, .int .i64 0, .int .i64 0, .int .i64 0, .string ⟨#[]⟩, .slice none 0 0] _ rfl HU4.out.obj rfl ?_ ?_ ?_ rfl ?_; kernel_rfl; exact Nat.le_of_ble_eq_true rfl; rfl))
    have HT4 := HU4.out.put #[.int .i64 0, .int .i64 t2, .int .i64 r2, .int .i64 i2, .int .i64 t3, .int .i64 r3, .int .i64 i3, .string x4, .bool false, .slice none 0 0, .int .i64 0, .int .i64 0, .int .i64 0, .int .i64 0, .int .i64 0, .int .i64 0, .string ⟨#[]⟩, .slice none 0 0]
    generalize hV : y4.setRow w1.heap.size #[.int .i64 0, .int .i64 t2, .int .i64 r2, .int .i64 i2, .int .i64 t3, .int .i64 r3, .int .i64 i3, .string x4, .bool false, .slice none 0 0, .int .i64 0, .int .i64 0, .int .i64 0, .int .i64 0, .int .i64 0, .int .i64 0, .string ⟨#[]⟩, .slice none 0 0] = V4 at *
    clear hV
    have HS4 := Lib.hid HT4
    clear HT4
    have ck4 : V4.cell? ⟨w1.heap.size, 0, none⟩ = some (.int .i64 0) := by rw [HS4.out.cell]; rfl
    go_wp2_with fail
    refine (cnat_any b s4 bad4 V4 hs4 HS4.out.rdr).mono ?_
    rintro e y5 ⟨d, v, s5, bad5, rfl, ⟨rfl, hd⟩, hR5, hg5, hd5⟩
    have HU5 := Lib.hid (HS4.out.call hR5 hg5)
    have HD5 := Lib.hid hd5
    have b1 := hR5.c1
    have f1 := hR5.f 1
    clear hR5 hg5 hd5
    obtain ⟨e1, he1⟩ : ∃ e1, e1 = decide (d = 1) := ⟨_, rfl⟩
    obtain ⟨e2, he2⟩ : ∃ e2, e2 = (bad5 || decide (1 < d)) := ⟨_, rfl⟩
    have HE1 := Lib.hid he1
    have HE2 := Lib.hid he2
    have q1 : (d == 1) = e1 := by rw [he1]; rfl
    clear he1 he2
    have b2 := (HU5.out.put #[.int .i64 0, .int .i64 t2, .int .i64 r2, .int .i64 i2, .int .i64 t3, .int .i64 r3, .int .i64 i3, .string x4, .bool e1, .slice none 0 0, .int .i64 0, .int .i64 0, .int .i64 0, .int .i64 0, .int .i64 0, .int .i64 0, .string ⟨#[]⟩, .slice none 0 0]).rdr.c1
    have f2 := (HU5.out.put #[.int .i64 0, .int .i64 t2, .int .i64 r2, .int .i64 i2, .int .i64 t3, .int .i64 r3, .int .i64 i3, .string x4, .bool e1, .slice none 0 0, .int .i64 0, .int .i64 0, .int .i64 0, .int .i64 0, .int .i64 0, .int .i64 0, .string ⟨#[]⟩, .slice none 0 0]).rdr.f 1
    cases bad5 with
    | true =>
      obtain rfl : e2 = true := by rw [HE2.out]; rfl
      go_upto_region 30 with (first | (refine store_putAt rfl _ _ _ rfl w1.heap.size 8 _ _ #[.int .i64 0, .int .i64 t2, .int .i64 r2, .int .i64 i2, .int .i64 t3, .int .i64 r3, .int .i64 i3, .string x4, .bool e1, .slice none 0 0, .int .i64 0, .int .i64 0, .int .i64 0, .int .i64 0, .int .i64 0, .int .i64 0, .string ⟨#[]⟩, .slice none 0 0] _ rfl HU5.out.obj rfl ?_ ?_ ?_ rfl ?_; kernel_rfl; exact Nat.le_of_ble_eq_true rfl; rfl))
      have HS6 := Lib.hid ((HU5.out.put #[.int .i64 0, .int .i64 t2, .int .i64 r2, .int .i64 i2, .int .i64 t3, .int .i64 r3, .int .i64 i3, .string x4, .bool e1, .slice none 0 0, .int .i64 0, .int .i64 0, .int .i64 0, .int .i64 0, .int .i64 0, .int .i64 0, .string ⟨#[]⟩, .slice none 0 0]).setBad true)
      generalize hV : (y5.setRow w1.heap.size #[.int .i64 0, .int .i64 t2, .int .i64 r2, .int .i64 i2, .int .i64 t3, .int .i64 r3, .int .i64 i3, .string x4, .bool e1, .slice none 0 0, .int .i64 0, .int .i64 0, .int .i64 0, .int .i64 0, .int .i64 0, .int .i64 0, .string ⟨#[]⟩, .slice none 0 0]).setCell ⟨b, 1, none⟩ (.bool true) = V6 at *
      clear hV
      go_wp2_with (first
        | (refine load_at rfl _ _ rfl w1.heap.size _ _ _ rfl HS6.out.obj Tryz.underlying80 rfl ?_ ?_; kernel_rfl)
        | (refine store_at rfl _ _ _ rfl w.heap.size _ _ _ rfl rfl HS6.out.res ?_ ?_ ?_ ?_; kernel_rfl; rfl; rfl))
      refine bodyPost_ret (results_cell_row rfl _ _ w.heap.size _ _ (0, 0) _ rfl (heap_setRow_same _ HS6.out.res) Tryz.underlying80 rfl (by kernel_rfl)) rfl ?_
      refine ⟨{ opO 0 ⟨⟨t2, r2⟩, i2⟩ with parent := ⟨⟨t3, r3⟩, i3⟩, name := x4, dir := e1 }, _, s5, true, rfl, ⟨⟨none, 0, none, 0⟩, rfl, OpIn.none rfl rfl hx4 (Nat.zero_le _), hx4, Nat.zero_le _⟩, (setRow_other _ _ _ _ (by have := HS6.out.nb; omega)).trans HS6.out.rdr, gby_row HS6.out.grow _ _ (Nat.le_refl _), RdIs.op0 HD1.out HD2.out HD3.out HD4.out (by rw [HE1.out]; exact RdIs.dir HD5.out)⟩
    | false =>
      have q2 : decide (1 < d) = e2 := by rw [HE2.out]; simp
      go_upto_region 30 with (first | (refine store_putAt rfl _ _ _ rfl w1.heap.size 8 _ _ #[.int .i64 0, .int .i64 t2, .int .i64 r2, .int .i64 i2, .int .i64 t3, .int .i64 r3, .int .i64 i3, .string x4, .bool e1, .slice none 0 0, .int .i64 0, .int .i64 0, .int .i64 0, .int .i64 0, .int .i64 0, .int .i64 0, .string ⟨#[]⟩, .slice none 0 0] _ rfl HU5.out.obj rfl ?_ ?_ ?_ rfl ?_; kernel_rfl; exact Nat.le_of_ble_eq_true rfl; rfl))
      have HS6 := Lib.hid ((HU5.out.put #[.int .i64 0, .int .i64 t2, .int .i64 r2, .int .i64 i2, .int .i64 t3, .int .i64 r3, .int .i64 i3, .string x4, .bool e1, .slice none 0 0, .int .i64 0, .int .i64 0, .int .i64 0, .int .i64 0, .int .i64 0, .int .i64 0, .string ⟨#[]⟩, .slice none 0 0]).setBad e2)
      generalize hV : (y5.setRow w1.heap.size #[.int .i64 0, .int .i64 t2, .int .i64 r2, .int .i64 i2, .int .i64 t3, .int .i64 r3, .int .i64 i3, .string x4, .bool e1, .slice none 0 0, .int .i64 0, .int .i64 0, .int .i64 0, .int .i64 0, .int .i64 0, .int .i64 0, .string ⟨#[]⟩, .slice none 0 0]).setCell ⟨b, 1, none⟩ (.bool e2) = V6 at *
      clear hV
      go_wp2_with (first
        | (refine load_at rfl _ _ rfl w1.heap.size _ _ _ rfl HS6.out.obj Tryz.underlying80 rfl ?_ ?_; kernel_rfl)
        | (refine store_at rfl _ _ _ rfl w.heap.size _ _ _ rfl rfl HS6.out.res ?_ ?_ ?_ ?_; kernel_rfl; rfl; rfl))
      refine bodyPost_ret (results_cell_row rfl _ _ w.heap.size _ _ (0, 0) _ rfl (heap_setRow_same _ HS6.out.res) Tryz.underlying80 rfl (by kernel_rfl)) rfl ?_
      refine ⟨{ opO 0 ⟨⟨t2, r2⟩, i2⟩ with parent := ⟨⟨t3, r3⟩, i3⟩, name := x4, dir := e1 }, _, s5, e2, rfl, ⟨⟨none, 0, none, 0⟩, rfl, OpIn.none rfl rfl hx4 (Nat.zero_le _), hx4, Nat.zero_le _⟩, (setRow_other _ _ _ _ (by have := HS6.out.nb; omega)).trans HS6.out.rdr, gby_row HS6.out.grow _ _ (Nat.le_refl _), RdIs.op0 HD1.out HD2.out HD3.out HD4.out (by rw [HE1.out, HE2.out]; exact RdIs.dir HD5.out)⟩
  by_cases k1 : k = 1
  · subst k1
    go_wp2_with fail
    refine (cid_any b s2 bad2 V2 hs2 HS2.out.rdr).mono ?_
    rintro e y3 ⟨⟨⟨t3, r3⟩, i3⟩, v, s3, bad3, rfl, hv, hR3, hg3, hd3⟩
    have hs3 := rd_size hd3 hs2
    have HU3 := Lib.hid (HS2.out.call hR3 hg3)
    have HD3 := Lib.hid hd3
    obtain rfl : v = .agg #[.int .i64 t3, .int .i64 r3, .int .i64 i3] := hv
    clear hR3 hg3 hd3
    go_upto_region 13 with (first | (refine store_putAt rfl _ _ _ rfl w1.heap.size 4 _ _ #[.int .i64 1, .int .i64 t2, .int .i64 r2, .int .i64 i2, .int .i64 t3, .int .i64 r3, .int .i64 i3, .string ⟨#[]⟩, .bool false, .slice none 0 0, .int .i64 0, .int .i64 0, .int .i64 0, .int .i64 0, .int .i64 0, .int .i64 0, .string ⟨#[]⟩, .slice none 0 0] _ rfl HU3.out.obj rfl ?_ ?_ ?_ rfl ?_; kernel_rfl; exact Nat.le_of_ble_eq_true rfl; rfl))
    have HT3 := HU3.out.put #[.int .i64 1, .int .i64 t2, .int .i64 r2, .int .i64 i2, .int .i64 t3, .int .i64 r3, .int .i64 i3, .string ⟨#[]⟩, .bool false, .slice none 0 0, .int .i64 0, .int .i64 0, .int .i64 0, .int .i64 0, .int .i64 0, .int .i64 0, .string ⟨#[]⟩, .slice none 0 0]
    generalize hV : y3.setRow w1.heap.size #[.int .i64 1, .int .i64 t2, .int .i64 r2, .int .i64 i2, .int .i64 t3, .int .i64 r3, .int .i64 i3, .string ⟨#[]⟩, .bool false, .slice none 0 0, .int .i64 0, .int .i64 0, .int .i64 0, .int .i64 0, .int .i64 0, .int .i64 0, .string ⟨#[]⟩, .slice none 0 0] = V3 at *
    clear hV
    have HS3 := Lib.hid HT3
    clear HT3
    go_wp2_with fail
    refine (cbytes_any b s3 bad3 V3 hs3 HS3.out.rdr).mono ?_
    rintro e y4 ⟨x4, v, s4, bad4, rfl, ⟨rfl, hx4⟩, hR4, hg4, hd4⟩
    have hs4 := rd_size hd4 hs3
    have HU4 := Lib.hid (HS3.out.call hR4 hg4)
    have HD4 := Lib.hid hd4
    clear hR4 hg4 hd4
    go_upto_region 30 with (first | (refine store_putAt rfl _ _ _ rfl w1.heap.size 7 _ _ #[.int .i64 1, .int .i64 t2, .int .i64 r2, .int .i64 i2, .int .i64 t3, .int .i64 r3, .int .i64 i3, .string x4, .bool false, .slice none 0 0, .int .i64 0, .int .i64 0, .int .i64 0, .int .i64 0, .int .i64 0, .int .i64 0, .string ⟨#[]⟩, .slice none 0 0] _ rfl HU4.out.obj rfl ?_ ?_ ?_ rfl ?_; kernel_rfl; exact Nat.le_of_ble_eq_true rfl; rfl))
    have HT4 := HU4.out.put #[.int .i64 1, .int .i64 t2, .int .i64 r2, .int .i64 i2, .int .i64 t3, .int .i64 r3, .int .i64 i3, .string x4, .bool false, .slice none 0 0, .int .i64 0, .int .i64 0, .int .i64 0, .int .i64 0, .int .i64 0, .int .i64 0, .string ⟨#[]⟩, .slice none 0 0]
    generalize hV : y4.setRow w1.heap.size #[.int .i64 1, .int .i64 t2, .int .i64 r2, .int .i64 i2, .int .i64 t3, .int .i64 r3, .int .i64 i3, .string x4, .bool false, .slice none 0 0, .int .i64 0, .int .i64 0, .int .i64 0, .int .i64 0, .int .i64 0, .int .i64 0, .string ⟨#[]⟩, .slice none 0 0] = V4 at *
    clear hV
    have HS4 := Lib.hid HT4
    clear HT4
    have ck4 : V4.cell? ⟨w1.heap.size, 0, none⟩ = some (.int .i64 1) := by rw [HS4.out.cell]; rfl
    go_wp2_with (first
      | (refine load_at rfl _ _ rfl w1.heap.size _ _ _ rfl HS4.out.obj Tryz.underlying80 rfl ?_ ?_; kernel_rfl)
      | (refine store_at rfl _ _ _ rfl w.heap.size _ _ _ rfl rfl HS4.out.res ?_ ?_ ?_ ?_; kernel_rfl; rfl; rfl))
    refine bodyPost_ret (results_cell_row rfl _ _ w.heap.size _ _ (0, 0) _ rfl (heap_setRow_same _ HS4.out.res) Tryz.underlying80 rfl (by kernel_rfl)) rfl ?_
    refine ⟨{ opO 1 ⟨⟨t2, r2⟩, i2⟩ with parent := ⟨⟨t3, r3⟩, i3⟩, name := x4 }, _, s4, bad4, rfl, ⟨⟨none, 0, none, 0⟩, rfl, OpIn.none rfl rfl hx4 (Nat.zero_le _), hx4, Nat.zero_le _⟩, (setRow_other _ _ _ _ (by have := HS4.out.nb; omega)).trans HS4.out.rdr, gby_row HS4.out.grow _ _ (Nat.le_refl _), RdIs.op1 HD1.out HD2.out HD3.out HD4.out⟩
  by_cases k2 : k = 2
  · subst k2
    obtain ⟨i0, hi, hz0, hz1, hz2⟩ := info_parts infostC_
    go_wp2_with fail
    refine (cnat_any b s2 bad2 V2 hs2 HS2.out.rdr).mono ?_
    rintro e y3 ⟨n0, v, s3, bad3, rfl, ⟨rfl, hn0⟩, hR3, hg3, hd3⟩
    obtain ⟨n, rfl⟩ := Int.eq_ofNat_of_zero_le hn0.1
    have hn : n < 9223372036854775808 := by have := hn0.2; omega
    have hs3 := rd_size hd3 hs2
    have HU3 := Lib.hid (HS2.out.call hR3 hg3)
    have HD3 := Lib.hid hd3
    have hltO := lt_of_block HU3.out.obj
    have hlt1' := HU3.out.nO
    have hlt2' := HU3.out.nR
    have hlt3' := HU3.out.nb
    clear hR3 hg3 hd3 hn0 ck2
    go_wp2
    go_loopw [6] (fun i wr => ∃ (k : Nat) (V : Value) (xs : List Gst) (s' : ByteArray) (bad' : Bool), i = .int .i64 k ∧ k ≤ n ∧ wr.ownsRow y3.heap.size 37 2 V xs.length (xs.flatMap stC_) ∧ Hid (CoSt w b w.heap.size w1.heap.size 80 #[.int .i64 0, .int .i64 0, .int .i64 0, .int .i64 0, .int .i64 0, .int .i64 0, .int .i64 0, .string ⟨#[]⟩, .bool false, .slice none 0 0, .int .i64 0, .int .i64 0, .int .i64 0, .int .i64 0, .int .i64 0, .int .i64 0, .string ⟨#[]⟩, .slice none 0 0] #[.int .i64 2, .int .i64 t2, .int .i64 r2, .int .i64 i2, .int .i64 0, .int .i64 0, .int .i64 0, .string ⟨#[]⟩, .bool false, V, .int .i64 0, .int .i64 0, .int .i64 0, .int .i64 0, .int .i64 0, .int .i64 0, .string ⟨#[]⟩, .slice none 0 0] s' bad' wr) ∧ Hid (ManyAt stR n s3.data.toList bad3 (n - k) xs s'.data.toList bad') ∧ y3.heap.size ≤ wr.heap.size) (fun i _ => n - (RowKit.intOf i).toNat)
    case atStart => exact ⟨0, .slice none 0 0, [], s3, bad3, rfl, Nat.zero_le _, ⟨rfl, .inl ⟨rfl, rfl⟩⟩, HU3, Lib.hid ManyAt.start, Nat.le_refl _⟩
    case round =>
      obtain ⟨k, V, xs, s', bad', rfl, hk, hO, HS, HM, hszB⟩ := hrel
      have hle := HM.out.le
      have hfew := HM.out.few
      have hl1 : s3.data.toList.length = s3.size := by simp
      have hl2 : s'.data.toList.length = s'.size := by simp
      have hxl : xs.length ≤ 1000001 := by split at hfew <;> omega
      have hs' : s'.size ≤ 1000000 := by omega
      have c1 := HS.out.rdr.c1
      clear hle hfew hl1 hl2
      by_cases hlt : k < n
      · have i5 : (k : Int) < (n : Int) := by omega
        have i6 : decide ((k : Int) < (n : Int)) = true := decide_eq_true i5
        cases bad' with
        | true =>
          obtain ⟨A3, c3, rfl⟩ := row_slice hO
          have hI3 : OpIn wr (fun k => y3.heap.size ≤ k) { opO 2 ⟨⟨t2, r2⟩, i2⟩ with dots := xs } ⟨A3, c3, none, 0⟩ := ⟨sts_own hO, RowG.zero, (own_cap hO).1, Nat.le_refl _, (own_cap hO).2, Nat.zero_le _, Nat.zero_le _, Nat.zero_le _⟩
          have HI3 := Lib.hid hI3
          have HMD := Lib.hid (RdIs.op2 HD1.out HD2.out (RdIs.many HD3.out (by rw [Int.toNat_natCast]; exact HM.out.done ((.inl (by first | rfl | trivial))))))
          clear hI3 hO HM
          go_wp2_with (first
            | (refine load_at rfl _ _ rfl w1.heap.size _ _ _ rfl HS.out.obj Tryz.underlying80 rfl ?_ ?_; kernel_rfl)
            | (refine store_at rfl _ _ _ rfl w.heap.size _ _ _ rfl rfl HS.out.res ?_ ?_ ?_ ?_; kernel_rfl; rfl; rfl))
          refine bodyPost_ret (results_cell_row rfl _ _ w.heap.size _ _ (0, 0) _ rfl (heap_setRow_same _ HS.out.res) Tryz.underlying80 rfl (by kernel_rfl)) rfl ?_
          refine ⟨{ opO 2 ⟨⟨t2, r2⟩, i2⟩ with dots := xs }, _, s', _, rfl, ⟨⟨A3, c3, none, 0⟩, rfl, (HI3.out.agr (Agr.setRow _ w.heap.size _ (by omega))).sub (fun k _ h => by omega), Nat.zero_le _, Nat.zero_le _⟩, (setRow_other _ _ _ _ (by have := HS.out.nb; omega)).trans HS.out.rdr, gby_row HS.out.grow _ _ (Nat.le_refl _), HMD.out⟩
        | false =>
          have HC := Lib.hid (cstamp_any b s' false wr.drew hs' (by exact HS.out.rdr))
          have HBO := Lib.hid (fun g e => (hO.lt g e).1)
          have HB2 := Lib.hid (show V.ownBlock ≠ some b from fun e => by have := (hO.lt b e).1; omega)
          have HO1 := Lib.hid hO
          have d0 : wr.cell? ⟨w1.heap.size, 9, none⟩ = some V := by rw [HS.out.cell]; rfl
          have z0 : w1.heap.size < wr.heap.size := by omega
          have em : n - k = (n - (k + 1)) + 1 := by omega
          have HM1 := HM.out
          rw [em] at HM1
          have HM1 := Lib.hid HM1
          clear hO em
          go_upto_region 19 with fail
          go_region_law
            (first
              | (go_simp; go_at_call 45; refine HC.out.mono ?_; rintro e w2 ⟨⟨t4, r4⟩, v2, s4, bad4, rfl, hv, hR4, hg4, hd4⟩; obtain rfl : v2 = .agg #[.int .i64 t4, .int .i64 r4] := hv; replace hg4 : wr.grownBy w2 (some b) := gby_trans (⟨rfl, rfl, rfl, Nat.le_refl _, fun _ _ _ => rfl⟩ : wr.grownBy wr.drew (some b)) hg4; have HS4 := Lib.hid (HS.out.call hR4 hg4); have HO2 := Lib.hid (HO1.out.kept hg4 (.inr HB2.out)); have HD4 := Lib.hid hd4; have hsz2 := hg4.size; have HSA := Lib.hid (HS4.out.keep (World.grownBy_alloc w2 (.cells #[.int .i64 t4, .int .i64 r4] 37) none) (by simp)); have d5 : w2.cell? ⟨w1.heap.size, 9, none⟩ = some V := (by rw [HS4.out.cell]; rfl); have dA : (w2.alloc (.cells #[.int .i64 t4, .int .i64 r4] 37)).cell? ⟨w1.heap.size, 9, none⟩ = some V := (by rw [HSA.out.cell]; rfl); clear hR4 hg4 hd4)
              | (refine step_append_lies _ (by rfl) _ _ 77 (by rfl) y3.heap.size 37 i0 (.agg #[.int .i64 0, .int .i64 0]) 2 16 Tryz.underlying77 hi hz0 hz1 hz2 rfl (by decide) V xs.length _ (by rfl) (by exact HO2.out.alloc _) ⟨w2.heap.size, 0, none⟩ 1 1 (stC_ (⟨t4, r4⟩ : Gst)) (by rfl) rfl (by exact cellsN _ _ _) (by exact ocstC_ _) (by decide) (by unfold maxLen; omega) (by omega) (by simp; omega) (w2.heap.size + 1) (by simp) ?_; intro g cap w3 hown1 hgrow hat _; have HS5 := Lib.hid (HSA.out.keep hgrow (fun g e => by have := HBO.out g e; omega)); have d6 : w3.cell? ⟨w1.heap.size, 9, none⟩ = some V := (by rw [HS5.out.cell]; rfl); have f6 : w3.frozen? ⟨w1.heap.size, 9, none⟩ = false := frozen_of_row _ _ _ _ _ HS5.out.obj; have HO5 := Lib.hid hown1; have hsz3 := hgrow.size; clear hown1 hgrow hat))
          all_goals
            have HS6 := Lib.hid (HS5.out.set 9 (.slice (some ⟨g, 0, none⟩) (xs.length + 1) cap) #[.int .i64 2, .int .i64 t2, .int .i64 r2, .int .i64 i2, .int .i64 0, .int .i64 0, .int .i64 0, .string ⟨#[]⟩, .bool false, .slice (some ⟨g, 0, none⟩) (xs.length + 1) cap, .int .i64 0, .int .i64 0, .int .i64 0, .int .i64 0, .int .i64 0, .int .i64 0, .string ⟨#[]⟩, .slice none 0 0] rfl)
            have HO6 := Lib.hid (ownsRow_setCell_below (a := ⟨w1.heap.size, 9, none⟩) HO5.out hltO (.slice (some ⟨g, 0, none⟩) (xs.length + 1) cap))
            have hsz6 : y3.heap.size ≤ (w3.setCell ⟨w1.heap.size, 9, none⟩ (.slice (some ⟨g, 0, none⟩) (xs.length + 1) cap)).heap.size := by simp at hsz3 ⊢; omega
            go_wp2
            go_roundw
            case rel => exact ⟨k + 1, .slice (some ⟨g, 0, none⟩) (xs.length + 1) cap, xs ++ [(⟨t4, r4⟩ : Gst)], s4, bad4, by go_num, by omega, by rw [List.length_append, List.flatMap_append, List.flatMap_singleton]; exact HO6.out, HS6, Lib.hid (HM1.out.next stT HD4.out), hsz6⟩
            case measure => simp [RowKit.intOf]; omega
      · obtain rfl : k = n := by omega
        have i5 : ¬ (k : Int) < (k : Int) := by omega
        have i6 : decide ((k : Int) < (k : Int)) = false := decide_eq_false i5
        obtain ⟨A3, c3, rfl⟩ := row_slice hO
        have hI3 : OpIn wr (fun k => y3.heap.size ≤ k) { opO 2 ⟨⟨t2, r2⟩, i2⟩ with dots := xs } ⟨A3, c3, none, 0⟩ := ⟨sts_own hO, RowG.zero, (own_cap hO).1, Nat.le_refl _, (own_cap hO).2, Nat.zero_le _, Nat.zero_le _, Nat.zero_le _⟩
        have HI3 := Lib.hid hI3
        have HMD := Lib.hid (RdIs.op2 HD1.out HD2.out (RdIs.many HD3.out (by rw [Int.toNat_natCast]; exact HM.out.done ((.inr (Nat.sub_self _))))))
        clear hI3 hO HM
        go_wp2_with (first
          | (refine load_at rfl _ _ rfl w1.heap.size _ _ _ rfl HS.out.obj Tryz.underlying80 rfl ?_ ?_; kernel_rfl)
          | (refine store_at rfl _ _ _ rfl w.heap.size _ _ _ rfl rfl HS.out.res ?_ ?_ ?_ ?_; kernel_rfl; rfl; rfl))
        refine bodyPost_ret (results_cell_row rfl _ _ w.heap.size _ _ (0, 0) _ rfl (heap_setRow_same _ HS.out.res) Tryz.underlying80 rfl (by kernel_rfl)) rfl ?_
        refine ⟨{ opO 2 ⟨⟨t2, r2⟩, i2⟩ with dots := xs }, _, s', _, rfl, ⟨⟨A3, c3, none, 0⟩, rfl, (HI3.out.agr (Agr.setRow _ w.heap.size _ (by omega))).sub (fun k _ h => by omega), Nat.zero_le _, Nat.zero_le _⟩, (setRow_other _ _ _ _ (by have := HS.out.nb; omega)).trans HS.out.rdr, gby_row HS.out.grow _ _ (Nat.le_refl _), HMD.out⟩
  by_cases k3 : k = 3
  · subst k3
    go_wp2_with fail
    refine (cid_any b s2 bad2 V2 hs2 HS2.out.rdr).mono ?_
    rintro e y3 ⟨⟨⟨t3, r3⟩, i3⟩, v, s3, bad3, rfl, hv, hR3, hg3, hd3⟩
    have hs3 := rd_size hd3 hs2
    have HU3 := Lib.hid (HS2.out.call hR3 hg3)
    have HD3 := Lib.hid hd3
    obtain rfl : v = .agg #[.int .i64 t3, .int .i64 r3, .int .i64 i3] := hv
    clear hR3 hg3 hd3
    go_upto_region 22 with (first | (refine store_putAt rfl _ _ _ rfl w1.heap.size 10 _ _ #[.int .i64 3, .int .i64 t2, .int .i64 r2, .int .i64 i2, .int .i64 0, .int .i64 0, .int .i64 0, .string ⟨#[]⟩, .bool false, .slice none 0 0, .int .i64 t3, .int .i64 r3, .int .i64 i3, .int .i64 0, .int .i64 0, .int .i64 0, .string ⟨#[]⟩, .slice none 0 0] _ rfl HU3.out.obj rfl ?_ ?_ ?_ rfl ?_; kernel_rfl; exact Nat.le_of_ble_eq_true rfl; rfl))
    have HT3 := HU3.out.put #[.int .i64 3, .int .i64 t2, .int .i64 r2, .int .i64 i2, .int .i64 0, .int .i64 0, .int .i64 0, .string ⟨#[]⟩, .bool false, .slice none 0 0, .int .i64 t3, .int .i64 r3, .int .i64 i3, .int .i64 0, .int .i64 0, .int .i64 0, .string ⟨#[]⟩, .slice none 0 0]
    generalize hV : y3.setRow w1.heap.size #[.int .i64 3, .int .i64 t2, .int .i64 r2, .int .i64 i2, .int .i64 0, .int .i64 0, .int .i64 0, .string ⟨#[]⟩, .bool false, .slice none 0 0, .int .i64 t3, .int .i64 r3, .int .i64 i3, .int .i64 0, .int .i64 0, .int .i64 0, .string ⟨#[]⟩, .slice none 0 0] = V3 at *
    clear hV
    have HS3 := Lib.hid HT3
    clear HT3
    go_wp2_with fail
    refine (cid_any b s3 bad3 V3 hs3 HS3.out.rdr).mono ?_
    rintro e y4 ⟨⟨⟨t4, r4⟩, i4⟩, v, s4, bad4, rfl, hv, hR4, hg4, hd4⟩
    have hs4 := rd_size hd4 hs3
    have HU4 := Lib.hid (HS3.out.call hR4 hg4)
    have HD4 := Lib.hid hd4
    obtain rfl : v = .agg #[.int .i64 t4, .int .i64 r4, .int .i64 i4] := hv
    clear hR4 hg4 hd4
    go_upto_region 23 with (first | (refine store_putAt rfl _ _ _ rfl w1.heap.size 13 _ _ #[.int .i64 3, .int .i64 t2, .int .i64 r2, .int .i64 i2, .int .i64 0, .int .i64 0, .int .i64 0, .string ⟨#[]⟩, .bool false, .slice none 0 0, .int .i64 t3, .int .i64 r3, .int .i64 i3, .int .i64 t4, .int .i64 r4, .int .i64 i4, .string ⟨#[]⟩, .slice none 0 0] _ rfl HU4.out.obj rfl ?_ ?_ ?_ rfl ?_; kernel_rfl; exact Nat.le_of_ble_eq_true rfl; rfl))
    have HT4 := HU4.out.put #[.int .i64 3, .int .i64 t2, .int .i64 r2, .int .i64 i2, .int .i64 0, .int .i64 0, .int .i64 0, .string ⟨#[]⟩, .bool false, .slice none 0 0, .int .i64 t3, .int .i64 r3, .int .i64 i3, .int .i64 t4, .int .i64 r4, .int .i64 i4, .string ⟨#[]⟩, .slice none 0 0]
    generalize hV : y4.setRow w1.heap.size #[.int .i64 3, .int .i64 t2, .int .i64 r2, .int .i64 i2, .int .i64 0, .int .i64 0, .int .i64 0, .string ⟨#[]⟩, .bool false, .slice none 0 0, .int .i64 t3, .int .i64 r3, .int .i64 i3, .int .i64 t4, .int .i64 r4, .int .i64 i4, .string ⟨#[]⟩, .slice none 0 0] = V4 at *
    clear hV
    have HS4 := Lib.hid HT4
    clear HT4
    go_wp2_with fail
    refine (cbytes_any b s4 bad4 V4 hs4 HS4.out.rdr).mono ?_
    rintro e y5 ⟨x5, v, s5, bad5, rfl, ⟨rfl, hx5⟩, hR5, hg5, hd5⟩
    have hs5 := rd_size hd5 hs4
    have HU5 := Lib.hid (HS4.out.call hR5 hg5)
    have HD5 := Lib.hid hd5
    clear hR5 hg5 hd5
    go_upto_region 30 with (first | (refine store_putAt rfl _ _ _ rfl w1.heap.size 16 _ _ #[.int .i64 3, .int .i64 t2, .int .i64 r2, .int .i64 i2, .int .i64 0, .int .i64 0, .int .i64 0, .string ⟨#[]⟩, .bool false, .slice none 0 0, .int .i64 t3, .int .i64 r3, .int .i64 i3, .int .i64 t4, .int .i64 r4, .int .i64 i4, .string x5, .slice none 0 0] _ rfl HU5.out.obj rfl ?_ ?_ ?_ rfl ?_; kernel_rfl; exact Nat.le_of_ble_eq_true rfl; rfl))
    have HT5 := HU5.out.put #[.int .i64 3, .int .i64 t2, .int .i64 r2, .int .i64 i2, .int .i64 0, .int .i64 0, .int .i64 0, .string ⟨#[]⟩, .bool false, .slice none 0 0, .int .i64 t3, .int .i64 r3, .int .i64 i3, .int .i64 t4, .int .i64 r4, .int .i64 i4, .string x5, .slice none 0 0]
    generalize hV : y5.setRow w1.heap.size #[.int .i64 3, .int .i64 t2, .int .i64 r2, .int .i64 i2, .int .i64 0, .int .i64 0, .int .i64 0, .string ⟨#[]⟩, .bool false, .slice none 0 0, .int .i64 t3, .int .i64 r3, .int .i64 i3, .int .i64 t4, .int .i64 r4, .int .i64 i4, .string x5, .slice none 0 0] = V5 at *
    clear hV
    have HS5 := Lib.hid HT5
    clear HT5
    go_wp2_with (first
      | (refine load_at rfl _ _ rfl w1.heap.size _ _ _ rfl HS5.out.obj Tryz.underlying80 rfl ?_ ?_; kernel_rfl)
      | (refine store_at rfl _ _ _ rfl w.heap.size _ _ _ rfl rfl HS5.out.res ?_ ?_ ?_ ?_; kernel_rfl; rfl; rfl))
    refine bodyPost_ret (results_cell_row rfl _ _ w.heap.size _ _ (0, 0) _ rfl (heap_setRow_same _ HS5.out.res) Tryz.underlying80 rfl (by kernel_rfl)) rfl ?_
    refine ⟨{ opO 3 ⟨⟨t2, r2⟩, i2⟩ with after := ⟨⟨t3, r3⟩, i3⟩, elem := ⟨⟨t4, r4⟩, i4⟩, text := x5 }, _, s5, bad5, rfl, ⟨⟨none, 0, none, 0⟩, rfl, OpIn.none rfl rfl (Nat.zero_le _) hx5, Nat.zero_le _, hx5⟩, (setRow_other _ _ _ _ (by have := HS5.out.nb; omega)).trans HS5.out.rdr, gby_row HS5.out.grow _ _ (Nat.le_refl _), RdIs.op3 HD1.out HD2.out HD3.out HD4.out HD5.out⟩
  by_cases k4 : k = 4
  · subst k4
    obtain ⟨i0, hi, hz0, hz1, hz2⟩ := info_parts infoidC_
    go_wp2_with fail
    refine (cnat_any b s2 bad2 V2 hs2 HS2.out.rdr).mono ?_
    rintro e y3 ⟨n0, v, s3, bad3, rfl, ⟨rfl, hn0⟩, hR3, hg3, hd3⟩
    obtain ⟨n, rfl⟩ := Int.eq_ofNat_of_zero_le hn0.1
    have hn : n < 9223372036854775808 := by have := hn0.2; omega
    have hs3 := rd_size hd3 hs2
    have HU3 := Lib.hid (HS2.out.call hR3 hg3)
    have HD3 := Lib.hid hd3
    have hltO := lt_of_block HU3.out.obj
    have hlt1' := HU3.out.nO
    have hlt2' := HU3.out.nR
    have hlt3' := HU3.out.nb
    clear hR3 hg3 hd3 hn0 ck2
    go_wp2
    go_loopw [8] (fun i wr => ∃ (k : Nat) (V : Value) (xs : List Gid) (s' : ByteArray) (bad' : Bool), i = .int .i64 k ∧ k ≤ n ∧ wr.ownsRow y3.heap.size 76 3 V xs.length (xs.flatMap idC_) ∧ Hid (CoSt w b w.heap.size w1.heap.size 80 #[.int .i64 0, .int .i64 0, .int .i64 0, .int .i64 0, .int .i64 0, .int .i64 0, .int .i64 0, .string ⟨#[]⟩, .bool false, .slice none 0 0, .int .i64 0, .int .i64 0, .int .i64 0, .int .i64 0, .int .i64 0, .int .i64 0, .string ⟨#[]⟩, .slice none 0 0] #[.int .i64 4, .int .i64 t2, .int .i64 r2, .int .i64 i2, .int .i64 0, .int .i64 0, .int .i64 0, .string ⟨#[]⟩, .bool false, .slice none 0 0, .int .i64 0, .int .i64 0, .int .i64 0, .int .i64 0, .int .i64 0, .int .i64 0, .string ⟨#[]⟩, V] s' bad' wr) ∧ Hid (ManyAt idR n s3.data.toList bad3 (n - k) xs s'.data.toList bad') ∧ y3.heap.size ≤ wr.heap.size) (fun i _ => n - (RowKit.intOf i).toNat)
    case atStart => exact ⟨0, .slice none 0 0, [], s3, bad3, rfl, Nat.zero_le _, ⟨rfl, .inl ⟨rfl, rfl⟩⟩, HU3, Lib.hid ManyAt.start, Nat.le_refl _⟩
    case round =>
      obtain ⟨k, V, xs, s', bad', rfl, hk, hO, HS, HM, hszB⟩ := hrel
      have hle := HM.out.le
      have hfew := HM.out.few
      have hl1 : s3.data.toList.length = s3.size := by simp
      have hl2 : s'.data.toList.length = s'.size := by simp
      have hxl : xs.length ≤ 1000001 := by split at hfew <;> omega
      have hs' : s'.size ≤ 1000000 := by omega
      have c1 := HS.out.rdr.c1
      clear hle hfew hl1 hl2
      by_cases hlt : k < n
      · have i5 : (k : Int) < (n : Int) := by omega
        have i6 : decide ((k : Int) < (n : Int)) = true := decide_eq_true i5
        cases bad' with
        | true =>
          obtain ⟨A3, c3, rfl⟩ := row_slice hO
          have hI3 : OpIn wr (fun k => y3.heap.size ≤ k) { opO 4 ⟨⟨t2, r2⟩, i2⟩ with elems := xs } ⟨none, 0, A3, c3⟩ := ⟨RowG.zero, ids_own hO, Nat.le_refl _, (own_cap hO).1, Nat.zero_le _, (own_cap hO).2, Nat.zero_le _, Nat.zero_le _⟩
          have HI3 := Lib.hid hI3
          have HMD := Lib.hid (RdIs.op4 HD1.out HD2.out (RdIs.many HD3.out (by rw [Int.toNat_natCast]; exact HM.out.done ((.inl (by first | rfl | trivial))))))
          clear hI3 hO HM
          go_wp2_with (first
            | (refine load_at rfl _ _ rfl w1.heap.size _ _ _ rfl HS.out.obj Tryz.underlying80 rfl ?_ ?_; kernel_rfl)
            | (refine store_at rfl _ _ _ rfl w.heap.size _ _ _ rfl rfl HS.out.res ?_ ?_ ?_ ?_; kernel_rfl; rfl; rfl))
          refine bodyPost_ret (results_cell_row rfl _ _ w.heap.size _ _ (0, 0) _ rfl (heap_setRow_same _ HS.out.res) Tryz.underlying80 rfl (by kernel_rfl)) rfl ?_
          refine ⟨{ opO 4 ⟨⟨t2, r2⟩, i2⟩ with elems := xs }, _, s', _, rfl, ⟨⟨none, 0, A3, c3⟩, rfl, (HI3.out.agr (Agr.setRow _ w.heap.size _ (by omega))).sub (fun k _ h => by omega), Nat.zero_le _, Nat.zero_le _⟩, (setRow_other _ _ _ _ (by have := HS.out.nb; omega)).trans HS.out.rdr, gby_row HS.out.grow _ _ (Nat.le_refl _), HMD.out⟩
        | false =>
          have HC := Lib.hid (cid_any b s' false wr.drew hs' (by exact HS.out.rdr))
          have HBO := Lib.hid (fun g e => (hO.lt g e).1)
          have HB2 := Lib.hid (show V.ownBlock ≠ some b from fun e => by have := (hO.lt b e).1; omega)
          have HO1 := Lib.hid hO
          have d0 : wr.cell? ⟨w1.heap.size, 17, none⟩ = some V := by rw [HS.out.cell]; rfl
          have z0 : w1.heap.size < wr.heap.size := by omega
          have em : n - k = (n - (k + 1)) + 1 := by omega
          have HM1 := HM.out
          rw [em] at HM1
          have HM1 := Lib.hid HM1
          clear hO em
          go_upto_region 29 with fail
          go_region_law
            (first
              | (go_simp; go_at_call 88; refine HC.out.mono ?_; rintro e w2 ⟨⟨⟨t4, r4⟩, i4⟩, v2, s4, bad4, rfl, hv, hR4, hg4, hd4⟩; obtain rfl : v2 = .agg #[.int .i64 t4, .int .i64 r4, .int .i64 i4] := hv; replace hg4 : wr.grownBy w2 (some b) := gby_trans (⟨rfl, rfl, rfl, Nat.le_refl _, fun _ _ _ => rfl⟩ : wr.grownBy wr.drew (some b)) hg4; have HS4 := Lib.hid (HS.out.call hR4 hg4); have HO2 := Lib.hid (HO1.out.kept hg4 (.inr HB2.out)); have HD4 := Lib.hid hd4; have hsz2 := hg4.size; have HSA := Lib.hid (HS4.out.keep (World.grownBy_alloc w2 (.cells #[.int .i64 t4, .int .i64 r4, .int .i64 i4] 76) none) (by simp)); have d5 : w2.cell? ⟨w1.heap.size, 17, none⟩ = some V := (by rw [HS4.out.cell]; rfl); have dA : (w2.alloc (.cells #[.int .i64 t4, .int .i64 r4, .int .i64 i4] 76)).cell? ⟨w1.heap.size, 17, none⟩ = some V := (by rw [HSA.out.cell]; rfl); clear hR4 hg4 hd4)
              | (refine step_append_lies _ (by rfl) _ _ 78 (by rfl) y3.heap.size 76 i0 (.agg #[.int .i64 0, .int .i64 0, .int .i64 0]) 3 24 Tryz.underlying78 hi hz0 hz1 hz2 rfl (by decide) V xs.length _ (by rfl) (by exact HO2.out.alloc _) ⟨w2.heap.size, 0, none⟩ 1 1 (idC_ (⟨⟨t4, r4⟩, i4⟩ : Gid)) (by rfl) rfl (by exact cellsN _ _ _) (by exact ocidC_ _) (by decide) (by unfold maxLen; omega) (by omega) (by simp; omega) (w2.heap.size + 1) (by simp) ?_; intro g cap w3 hown1 hgrow hat _; have HS5 := Lib.hid (HSA.out.keep hgrow (fun g e => by have := HBO.out g e; omega)); have d6 : w3.cell? ⟨w1.heap.size, 17, none⟩ = some V := (by rw [HS5.out.cell]; rfl); have f6 : w3.frozen? ⟨w1.heap.size, 17, none⟩ = false := frozen_of_row _ _ _ _ _ HS5.out.obj; have HO5 := Lib.hid hown1; have hsz3 := hgrow.size; clear hown1 hgrow hat))
          all_goals
            have HS6 := Lib.hid (HS5.out.set 17 (.slice (some ⟨g, 0, none⟩) (xs.length + 1) cap) #[.int .i64 4, .int .i64 t2, .int .i64 r2, .int .i64 i2, .int .i64 0, .int .i64 0, .int .i64 0, .string ⟨#[]⟩, .bool false, .slice none 0 0, .int .i64 0, .int .i64 0, .int .i64 0, .int .i64 0, .int .i64 0, .int .i64 0, .string ⟨#[]⟩, .slice (some ⟨g, 0, none⟩) (xs.length + 1) cap] rfl)
            have HO6 := Lib.hid (ownsRow_setCell_below (a := ⟨w1.heap.size, 17, none⟩) HO5.out hltO (.slice (some ⟨g, 0, none⟩) (xs.length + 1) cap))
            have hsz6 : y3.heap.size ≤ (w3.setCell ⟨w1.heap.size, 17, none⟩ (.slice (some ⟨g, 0, none⟩) (xs.length + 1) cap)).heap.size := by simp at hsz3 ⊢; omega
            go_wp2
            go_roundw
            case rel => exact ⟨k + 1, .slice (some ⟨g, 0, none⟩) (xs.length + 1) cap, xs ++ [(⟨⟨t4, r4⟩, i4⟩ : Gid)], s4, bad4, by go_num, by omega, by rw [List.length_append, List.flatMap_append, List.flatMap_singleton]; exact HO6.out, HS6, Lib.hid (HM1.out.next idT HD4.out), hsz6⟩
            case measure => simp [RowKit.intOf]; omega
      · obtain rfl : k = n := by omega
        have i5 : ¬ (k : Int) < (k : Int) := by omega
        have i6 : decide ((k : Int) < (k : Int)) = false := decide_eq_false i5
        obtain ⟨A3, c3, rfl⟩ := row_slice hO
        have hI3 : OpIn wr (fun k => y3.heap.size ≤ k) { opO 4 ⟨⟨t2, r2⟩, i2⟩ with elems := xs } ⟨none, 0, A3, c3⟩ := ⟨RowG.zero, ids_own hO, Nat.le_refl _, (own_cap hO).1, Nat.zero_le _, (own_cap hO).2, Nat.zero_le _, Nat.zero_le _⟩
        have HI3 := Lib.hid hI3
        have HMD := Lib.hid (RdIs.op4 HD1.out HD2.out (RdIs.many HD3.out (by rw [Int.toNat_natCast]; exact HM.out.done ((.inr (Nat.sub_self _))))))
        clear hI3 hO HM
        go_wp2_with (first
          | (refine load_at rfl _ _ rfl w1.heap.size _ _ _ rfl HS.out.obj Tryz.underlying80 rfl ?_ ?_; kernel_rfl)
          | (refine store_at rfl _ _ _ rfl w.heap.size _ _ _ rfl rfl HS.out.res ?_ ?_ ?_ ?_; kernel_rfl; rfl; rfl))
        refine bodyPost_ret (results_cell_row rfl _ _ w.heap.size _ _ (0, 0) _ rfl (heap_setRow_same _ HS.out.res) Tryz.underlying80 rfl (by kernel_rfl)) rfl ?_
        refine ⟨{ opO 4 ⟨⟨t2, r2⟩, i2⟩ with elems := xs }, _, s', _, rfl, ⟨⟨none, 0, A3, c3⟩, rfl, (HI3.out.agr (Agr.setRow _ w.heap.size _ (by omega))).sub (fun k _ h => by omega), Nat.zero_le _, Nat.zero_le _⟩, (setRow_other _ _ _ _ (by have := HS.out.nb; omega)).trans HS.out.rdr, gby_row HS.out.grow _ _ (Nat.le_refl _), HMD.out⟩
  · have q0 : (k == 0) = false := by rw [beq_eq_false_iff_ne]; exact k0
    have q1 : (k == 1) = false := by rw [beq_eq_false_iff_ne]; exact k1
    have q2 : (k == 2) = false := by rw [beq_eq_false_iff_ne]; exact k2
    have q3 : (k == 3) = false := by rw [beq_eq_false_iff_ne]; exact k3
    have q4 : (k == 4) = false := by rw [beq_eq_false_iff_ne]; exact k4
    have HK := Lib.hid (And.intro k0 (And.intro k1 (And.intro k2 (And.intro k3 k4))))
    have b1 := HS2.out.rdr.c1
    have f1 := HS2.out.rdr.f 1
    clear k0 k1 k2 k3 k4
    go_upto_region 30 with (fail)
    have HT3 := HS2.out.setBad true
    generalize hV : V2.setCell ⟨b, 1, none⟩ (.bool true) = V3 at *
    clear hV
    have HS3 := Lib.hid HT3
    go_wp2_with (first
      | (refine load_at rfl _ _ rfl w1.heap.size _ _ _ rfl HS3.out.obj Tryz.underlying80 rfl ?_ ?_; kernel_rfl)
      | (refine store_at rfl _ _ _ rfl w.heap.size _ _ _ rfl rfl HS3.out.res ?_ ?_ ?_ ?_; kernel_rfl; rfl; rfl))
    refine bodyPost_ret (results_cell_row rfl _ _ w.heap.size _ _ (0, 0) _ rfl (heap_setRow_same _ HS3.out.res) Tryz.underlying80 rfl (by kernel_rfl)) rfl ?_
    refine ⟨opO k ⟨⟨t2, r2⟩, i2⟩, _, s2, true, rfl, ⟨⟨none, 0, none, 0⟩, rfl, OpIn.none rfl rfl (Nat.zero_le _) (Nat.zero_le _), Nat.zero_le _, Nat.zero_le _⟩, (setRow_other _ _ _ _ (by have := HS3.out.nb; omega)).trans HS3.out.rdr, gby_row HS3.out.grow _ _ (Nat.le_refl _), RdIs.opx HK.out.1 HK.out.2.1 HK.out.2.2.1 HK.out.2.2.2.1 HK.out.2.2.2.2 HD1.out HD2.out⟩
end Go.Proofs.YteedajnikfhpjaaGreatDoor
