/- What wire.Decode answers. Conditions: a text of at most 1000000 bytes. -/
import Derived.Test.YtalgbcgiiphoaaaGreatDoorRB
import Derived.Test.YtalgbcgiiphoaaaGreatDoorCO
namespace Go.Proofs.YtalgbcgiiphoaaaGreatDoor
open Go.RowKit Go.Lib Go.Sort
set_option linter.unusedVariables false
attribute [local go_sem ↓] Go.wp_at_zero Go.wp_at_succ
/-- where the walk of Decode stands -/
structure DcSt (w0 : World) (b R O : Nat) (T : TypeId) (zc oc : Array Value) (s : ByteArray) (bad : Bool) (w : World) : Prop where
  rdr : Rdr w b s bad
  res : w.heap[R]? = some (.cells zc T (0, 0))
  obj : w.heap[O]? = some (.cells oc T (0, 0))
  bel : Below w0.heap.size w0 w
  nb : w0.heap.size ≤ b
  nR : w0.heap.size ≤ R
  nO : w0.heap.size ≤ O
  Rb : R < b
  bO : b < O
section
variable {w0 w w' : World} {b R O : Nat} {T : TypeId} {zc oc : Array Value} {s s' : ByteArray} {bad bad' : Bool}
theorem DcSt.call (h : DcSt w0 b R O T zc oc s bad w) (hr : Rdr w' b s' bad') (hg : w.grownBy w' (some b)) : DcSt w0 b R O T zc oc s' bad' w' :=
  ⟨hr, (hg.block R (lt_of_block h.res) (by intro e; cases e; have := h.Rb; omega)).trans h.res, (hg.block O (lt_of_block h.obj) (by intro e; cases e; have := h.bO; omega)).trans h.obj, h.bel.grown hg h.bel.size (fun k e => by cases e; exact h.nb), h.nb, h.nR, h.nO, h.Rb, h.bO⟩
theorem DcSt.put (h : DcSt w0 b R O T zc oc s bad w) (c : Array Value) : DcSt w0 b R O T zc c s bad (w.setRow O c) := by
  have h1 := h.Rb
  have h2 := h.bO
  exact ⟨(setRow_other w O b c (by omega)).trans h.rdr, (setRow_other w O R c (by omega)).trans h.res, heap_setRow_same _ h.obj, Below.setRow' h.bel h.nO _, h.nb, h.nR, h.nO, h.Rb, h.bO⟩
theorem DcSt.cell (h : DcSt w0 b R O T zc oc s bad w) (i : Nat) : w.cell? ⟨O, i, none⟩ = oc[i]? := cell_of_row _ _ _ _ _ _ h.obj
end
theorem vec_own {w : World} {B : Nat} {A : Option Addr} {c : Nat} {xs : List Int} {E : TypeId} (h : w.ownsRow B E 1 (.slice A xs.length c) xs.length (xs.flatMap intC_)) : VecS w (fun k => B ≤ k) A xs := by
  refine rowG_own h fun k j hk hj => ?_
  rw [flat_get (s := 1) (fun _ => rfl) xs k j 0 hk hj]
  rcases j with _ | j
  · rfl
  · omega
theorem ops_own {w : World} {B : Nat} {A : Option Addr} {c : Nat} {L : List (Gop × OpX)} {S : Nat → Prop} {E : TypeId} (h : w.ownsRow B E 18 (.slice A (L.map Prod.fst).length c) (L.map Prod.fst).length (L.flatMap opC_)) (hg : ∀ p ∈ L, OpGood w S p) (hS : ∀ k, S k → B ≤ k) : OpsS w (fun k => B ≤ k) A (L.map Prod.fst) := by
  have hl : (L.map Prod.fst).length = L.length := by simp
  have hgd : ∀ k, (L.map Prod.fst).getD k (opO 0 .zero) = (L.getD k (opO 0 .zero, ⟨none, 0, none, 0⟩)).1 := fun k => by
    rw [List.getD_eq_getElem?_getD, List.getD_eq_getElem?_getD, List.getElem?_map]
    cases L[k]? <;> rfl
  refine ⟨fun k => (L.getD k (opO 0 .zero, ⟨none, 0, none, 0⟩)).2, rowG_own h fun k j hk hj => ?_, fun k hk => ?_⟩
  · rw [flat_get (s := 18) (fun _ => rfl) L k j (opO 0 .zero, ⟨none, 0, none, 0⟩) (by omega) hj, hgd]
    unfold opC_
    rw [Array.getElem?_toList, Array.getD_eq_getD_getElem?]
    have : j < (opA (L.getD k (opO 0 .zero, ⟨none, 0, none, 0⟩)).1 (L.getD k (opO 0 .zero, ⟨none, 0, none, 0⟩)).2).size := hj
    rw [Array.getElem?_eq_getElem this]
    rfl
  · rw [hgd]
    have hk' : k < L.length := by omega
    have hm : L.getD k (opO 0 .zero, ⟨none, 0, none, 0⟩) ∈ L := by
      rw [List.getD_eq_getElem?_getD, List.getElem?_eq_getElem hk']; exact List.getElem_mem hk'
    exact (hg _ hm).1.sub fun b _ hb => hS b hb
/-- what Decode answers -/
def DecQ (r : Option Grp) (w : World) (e : Ending) (w' : World) : Prop := Below w.heap.size w w' ∧ match r with
  | none => e = .returned (.tuple #[.agg #[.int .i64 0, .int .i64 0, .int .i64 0, .slice none 0 0, .int .i64 0, .int .i64 0, .slice none 0 0], .int .i64 80])
  | some g => ∃ dA dc oA oc, e = .returned (.tuple #[.agg (grA g dA dc oA oc), .int .i64 0]) ∧ GrIn w' (fun k => w.heap.size ≤ k) g dA dc oA oc ∧ ∀ o ∈ g.ops, o.text.size ≤ 1000000 ∧ o.name.size ≤ 1000000
theorem DecQ.no {r : Option Grp} (h : r = none) {w w' : World} (hb : Below w.heap.size w w') : DecQ r w (.returned (.tuple #[.agg #[.int .i64 0, .int .i64 0, .int .i64 0, .slice none 0 0, .int .i64 0, .int .i64 0, .slice none 0 0], .int .i64 80])) w' := by
  subst h; exact ⟨hb, rfl⟩
set_option maxRecDepth 100000 in
set_option maxHeartbeats 16000000 in
theorem decode_any (s : ByteArray) (w : World) (hs : s.size ≤ 1000000) (hTb : Tabs w) :
    Calls Tryz.prog 21 #[.string s] w fun e w' => DecQ (decZ s.data.toList) w e w' := by
  obtain ⟨r, hr⟩ : ∃ r, r = decZ s.data.toList := ⟨_, rfl⟩
  rw [← hr]
  have HRR := Lib.hid hr
  have HTb := Lib.hid hTb
  clear hr hTb
  have HW0 := Lib.hid (heap_alloc_newC (n := w.heap.size + 1) (w.alloc (.cells #[.int .i64 0, .int .i64 0, .int .i64 0, .slice none 0 0, .int .i64 0, .int .i64 0, .slice none 0 0] 40)) (.cells #[.string s, .bool false] 83) (by simp))
  have HW1 := Lib.hid ((Below.heap_alloc (w.alloc (.cells #[.int .i64 0, .int .i64 0, .int .i64 0, .slice none 0 0, .int .i64 0, .int .i64 0, .slice none 0 0] 40)) (.cells #[.string s, .bool false] 83) w.heap.size (by simp)).trans (heap_alloc_new w _))
  have HB0 := Lib.hid (show Below w.heap.size w ((w.alloc (.cells #[.int .i64 0, .int .i64 0, .int .i64 0, .slice none 0 0, .int .i64 0, .int .i64 0, .slice none 0 0] 40)).alloc (.cells #[.string s, .bool false] 83)) from ((Below.refl _ _).alloc (Nat.le_refl _) _).alloc (by simp) _)
  go_enter Tryz.func21, Tryz.ntmps21
  go_wp2_with fail
  generalize hV : (w.alloc (.cells #[.int .i64 0, .int .i64 0, .int .i64 0, .slice none 0 0, .int .i64 0, .int .i64 0, .slice none 0 0] 40)).alloc (.cells #[.string s, .bool false] 83) = V0 at *
  clear hV
  refine (rstamp_any (w.heap.size + 1) s false V0 hs HW0.out).mono ?_
  rintro e y1 ⟨⟨t1, r1⟩, v, s1, bad1, rfl, hv, hR1, hg1, hd1⟩
  obtain rfl : v = .agg #[.int .i64 t1, .int .i64 r1] := hv
  have hs1 := rd_size hd1 hs
  have HD1 := Lib.hid hd1
  have hlt0 := lt_of_block HW0.out
  have hlt1 : w.heap.size + 1 < y1.heap.size := by have := hg1.size; omega
  have HY1 := Lib.hid ((hg1.block w.heap.size (by omega) (by intro e; injection e with e; omega)).trans HW1.out)
  have HB1 := Lib.hid (HB0.out.grown hg1 HB0.out.size (fun k e => by cases e; omega))
  have HR1 := Lib.hid hR1
  clear hd1 hg1 hR1
  go_upto_region 3 with (first | (refine store_last rfl _ _ _ rfl _ _ _ _ rfl ?_ rfl ?_ ?_ ?_ ?_; (focus (simp; done)); kernel_rfl; rfl; rfl))
  have HT1 : DcSt w (w.heap.size + 1) w.heap.size y1.heap.size 40 #[.int .i64 0, .int .i64 0, .int .i64 0, .slice none 0 0, .int .i64 0, .int .i64 0, .slice none 0 0] #[.int .i64 t1, .int .i64 r1, .int .i64 0, .slice none 0 0, .int .i64 0, .int .i64 0, .slice none 0 0] s1 bad1 (y1.alloc (.cells #[.int .i64 t1, .int .i64 r1, .int .i64 0, .slice none 0 0, .int .i64 0, .int .i64 0, .slice none 0 0] 40)) :=
    ⟨HR1.out.kept (World.grownBy_alloc y1 _ none) (by simp), (Below.heap_alloc _ _ _ (by omega)).trans HY1.out, heap_alloc_new _ _, HB1.out.alloc (by omega) _, by omega, Nat.le_refl _, by omega, by omega, by omega⟩
  generalize hV : y1.alloc (.cells #[.int .i64 t1, .int .i64 r1, .int .i64 0, .slice none 0 0, .int .i64 0, .int .i64 0, .slice none 0 0] 40) = V1 at *
  clear hV HR1 HY1 HB1 HB0 HW0 HW1
  have HS1 := Lib.hid HT1
  clear HT1
  go_wp2_with fail
  refine (rnat_any (w.heap.size + 1) s1 bad1 V1 hs1 HS1.out.rdr).mono ?_
  rintro e y2 ⟨n, v, s2, bad2, rfl, ⟨rfl, hn⟩, hR2, hg2, hd2⟩
  have hs2 := rd_size hd2 hs1
  have HU2 := Lib.hid (HS1.out.call hR2 hg2)
  have HD2 := Lib.hid hd2
  have HN := Lib.hid hn
  clear hn
  clear hR2 hg2 hd2
  go_upto_region 4 with (first | (refine store_putAt rfl _ _ _ rfl y1.heap.size 2 _ _ #[.int .i64 t1, .int .i64 r1, .int .i64 n, .slice none 0 0, .int .i64 0, .int .i64 0, .slice none 0 0] _ rfl HU2.out.obj rfl ?_ ?_ ?_ rfl ?_; kernel_rfl; exact Nat.le_of_ble_eq_true rfl; rfl))
  have HT2 := HU2.out.put #[.int .i64 t1, .int .i64 r1, .int .i64 n, .slice none 0 0, .int .i64 0, .int .i64 0, .slice none 0 0]
  generalize hV : y2.setRow y1.heap.size #[.int .i64 t1, .int .i64 r1, .int .i64 n, .slice none 0 0, .int .i64 0, .int .i64 0, .slice none 0 0] = V2 at *
  clear hV
  have HS2 := Lib.hid HT2
  clear HT2 HU2
  go_wp2_with fail
  refine (rmany_int (w.heap.size + 1) s2 bad2 V2 hs2 HS2.out.rdr).mono ?_
  rintro e y3 ⟨dv, v, s3, bad3, rfl, hP, hR3, hg3, hd3⟩
  obtain ⟨⟨dA, dc, rfl⟩, hO, hl, hx⟩ := hP
  have hs3 := rd_size hd3 hs2
  have HU3 := Lib.hid (HS2.out.call hR3 hg3)
  have HD3 := Lib.hid hd3
  have hlO := lt_of_block HS2.out.obj
  have hdc := own_cap hO
  have hV := vec_own hO
  have HDX := Lib.hid hx
  have HDC := Lib.hid (And.intro hdc hl)
  clear hx hO hdc hl
  have HCv3 := Lib.hid ((hV.sub (T := fun k => y1.heap.size < k) (fun k _ h => by have h : V2.heap.size ≤ k := h; show y1.heap.size < k; omega)).agr (Agr.setRow y3 y1.heap.size #[.int .i64 t1, .int .i64 r1, .int .i64 n, .slice dA dv.length dc, .int .i64 0, .int .i64 0, .slice none 0 0] (by show ¬ y1.heap.size < y1.heap.size; omega)))
  clear hR3 hg3 hd3
  go_upto_region 5 with (first | (refine store_putAt rfl _ _ _ rfl y1.heap.size 3 _ _ #[.int .i64 t1, .int .i64 r1, .int .i64 n, .slice dA dv.length dc, .int .i64 0, .int .i64 0, .slice none 0 0] _ rfl HU3.out.obj rfl ?_ ?_ ?_ rfl ?_; kernel_rfl; exact Nat.le_of_ble_eq_true rfl; rfl))
  have HT3 := HU3.out.put #[.int .i64 t1, .int .i64 r1, .int .i64 n, .slice dA dv.length dc, .int .i64 0, .int .i64 0, .slice none 0 0]
  generalize hV : y3.setRow y1.heap.size #[.int .i64 t1, .int .i64 r1, .int .i64 n, .slice dA dv.length dc, .int .i64 0, .int .i64 0, .slice none 0 0] = V3 at *
  clear hV
  have HS3 := Lib.hid HT3
  clear HT3 HU3
  clear hV
  go_wp2_with fail
  refine (rstamp_any (w.heap.size + 1) s3 bad3 V3 hs3 HS3.out.rdr).mono ?_
  rintro e y4 ⟨⟨ut, ur⟩, v, s4, bad4, rfl, hv, hR4, hg4, hd4⟩
  obtain rfl : v = .agg #[.int .i64 ut, .int .i64 ur] := hv
  have hs4 := rd_size hd4 hs3
  have HU4 := Lib.hid (HS3.out.call hR4 hg4)
  have HD4 := Lib.hid hd4
  have HCv4 := Lib.hid ((HCv3.out.agr (Agr.grown hg4 (fun g e hS => by cases e; have hS : y1.heap.size < w.heap.size + 1 := hS; omega))).agr (Agr.setRow y4 y1.heap.size #[.int .i64 t1, .int .i64 r1, .int .i64 n, .slice dA dv.length dc, .int .i64 ut, .int .i64 ur, .slice none 0 0] (by show ¬ y1.heap.size < y1.heap.size; omega)))
  clear hR4 hg4 hd4
  clear HCv3
  go_upto_region 6 with (first | (refine store_putAt rfl _ _ _ rfl y1.heap.size 4 _ _ #[.int .i64 t1, .int .i64 r1, .int .i64 n, .slice dA dv.length dc, .int .i64 ut, .int .i64 ur, .slice none 0 0] _ rfl HU4.out.obj rfl ?_ ?_ ?_ rfl ?_; kernel_rfl; exact Nat.le_of_ble_eq_true rfl; rfl))
  have HT4 := HU4.out.put #[.int .i64 t1, .int .i64 r1, .int .i64 n, .slice dA dv.length dc, .int .i64 ut, .int .i64 ur, .slice none 0 0]
  generalize hV : y4.setRow y1.heap.size #[.int .i64 t1, .int .i64 r1, .int .i64 n, .slice dA dv.length dc, .int .i64 ut, .int .i64 ur, .slice none 0 0] = V4 at *
  clear hV
  have HS4 := Lib.hid HT4
  clear HT4 HU4
  go_wp2_with fail
  refine (rmany_op (w.heap.size + 1) s4 bad4 V4 hs4 HS4.out.rdr).mono ?_
  rintro e y5 ⟨ops, v, s5, bad5, rfl, hP, hR5, hg5, hd5⟩
  obtain ⟨OL, OS, hOL, ⟨oA, oc, rfl⟩, hO, hl, hgood, hold⟩ := hP
  have hs5 := rd_size hd5 hs4
  have HU5 := Lib.hid (HS4.out.call hR5 hg5)
  have HD5 := Lib.hid hd5
  have hlO2 := lt_of_block HS4.out.obj
  have hoc := own_cap hO
  subst hOL
  have hV2 := ops_own hO hgood (fun k h => (hold k h).1)
  have HOC := Lib.hid (And.intro hoc hl)
  have HTX := Lib.hid (show ∀ o ∈ OL.map Prod.fst, o.text.size ≤ 1000000 ∧ o.name.size ≤ 1000000 from fun o ho => by obtain ⟨p, hp, rfl⟩ := List.mem_map.1 ho; exact ⟨(hgood p hp).2.2, (hgood p hp).2.1⟩)
  clear hO hgood hold hoc hl
  generalize OL.map Prod.fst = ops at *
  have HCv5 := Lib.hid ((HCv4.out.agr (Agr.grown hg5 (fun g e hS => by cases e; have hS : y1.heap.size < w.heap.size + 1 := hS; omega))).agr (Agr.setRow y5 y1.heap.size #[.int .i64 t1, .int .i64 r1, .int .i64 n, .slice dA dv.length dc, .int .i64 ut, .int .i64 ur, .slice oA ops.length oc] (by show ¬ y1.heap.size < y1.heap.size; omega)))
  have HCo5 := Lib.hid ((hV2.sub (T := fun k => y1.heap.size < k) (fun k _ h => by have h : V4.heap.size ≤ k := h; show y1.heap.size < k; omega)).agr (Agr.setRow y5 y1.heap.size #[.int .i64 t1, .int .i64 r1, .int .i64 n, .slice dA dv.length dc, .int .i64 ut, .int .i64 ur, .slice oA ops.length oc] (by show ¬ y1.heap.size < y1.heap.size; omega)))
  clear hR5 hg5 hd5
  clear HCv4
  go_upto_region 7 with (first | (refine store_putAt rfl _ _ _ rfl y1.heap.size 6 _ _ #[.int .i64 t1, .int .i64 r1, .int .i64 n, .slice dA dv.length dc, .int .i64 ut, .int .i64 ur, .slice oA ops.length oc] _ rfl HU5.out.obj rfl ?_ ?_ ?_ rfl ?_; kernel_rfl; exact Nat.le_of_ble_eq_true rfl; rfl))
  have HT5 := HU5.out.put #[.int .i64 t1, .int .i64 r1, .int .i64 n, .slice dA dv.length dc, .int .i64 ut, .int .i64 ur, .slice oA ops.length oc]
  generalize hV : y5.setRow y1.heap.size #[.int .i64 t1, .int .i64 r1, .int .i64 n, .slice dA dv.length dc, .int .i64 ut, .int .i64 ur, .slice oA ops.length oc] = V5 at *
  clear hV
  have HS5 := Lib.hid HT5
  clear HT5 HU5
  clear hV2
  have HRD := Lib.hid (RdIs.grp HD1.out HD2.out HD3.out HD4.out HD5.out)
  have HDZ := Lib.hid (decZ_of HRD.out)
  have hn1 : 0 ≤ n := HN.out.1
  have hn2 : n < 9223372036854775808 := HN.out.2
  have hI : GrIn V5 (fun k => y1.heap.size < k) ⟨⟨t1, r1⟩, n, dv, ⟨ut, ur⟩, ops⟩ dA dc oA oc := ⟨HCv5.out, HCo5.out, HDC.out.1.1, HOC.out.1.1, HDC.out.1.2, HOC.out.1.2, (show i63 n from ⟨by omega, by omega⟩), fun x hx => (by have h1 : 0 ≤ x := (HDX.out x hx).1; have h2 : x < 9223372036854775808 := (HDX.out x hx).2; exact ⟨by omega, by omega⟩)⟩
  have HI := Lib.hid hI
  clear hI hn1 hn2 HD1 HD2 HD3 HD4 HD5 HCv5 HCo5 HRD
  have b1 := HS5.out.rdr.c1
  have b0 := HS5.out.rdr.c0
  have hno : ∀ (W : World), Below w.heap.size w W → r = none → DecQ r w (.returned (.tuple #[.agg #[.int .i64 0, .int .i64 0, .int .i64 0, .slice none 0 0, .int .i64 0, .int .i64 0, .slice none 0 0], .int .i64 80])) W := fun W h1 h2 => DecQ.no h2 h1
  have HNO := Lib.hid hno
  clear hno
  cases bad5 with
  | true =>
    obtain rfl : r = none := by rw [HRR.out, HDZ.out]; simp
    go_wp2_with (first | (refine store_at rfl _ _ _ rfl w.heap.size _ _ #[.int .i64 0, .int .i64 0, .int .i64 0, .slice none 0 0, .int .i64 0, .int .i64 0, .slice none 0 0] rfl rfl HS5.out.res ?_ ?_ ?_ ?_; kernel_rfl; rfl; rfl))
    have HZ := Lib.hid (heap_setRow_same #[.int .i64 0, .int .i64 0, .int .i64 0, .slice none 0 0, .int .i64 0, .int .i64 0, .slice none 0 0] HS5.out.res)
    have z0 : (V5.setRow w.heap.size #[.int .i64 0, .int .i64 0, .int .i64 0, .slice none 0 0, .int .i64 0, .int .i64 0, .slice none 0 0]).cell? ⟨w.heap.size, 0, none⟩ = some (.int .i64 0) := by rw [cell_of_row _ _ _ _ _ _ HZ.out]; rfl
    have z1 : (V5.setRow w.heap.size #[.int .i64 0, .int .i64 0, .int .i64 0, .slice none 0 0, .int .i64 0, .int .i64 0, .slice none 0 0]).cell? ⟨w.heap.size, 1, none⟩ = some (.int .i64 0) := by rw [cell_of_row _ _ _ _ _ _ HZ.out]; rfl
    have z2 : (V5.setRow w.heap.size #[.int .i64 0, .int .i64 0, .int .i64 0, .slice none 0 0, .int .i64 0, .int .i64 0, .slice none 0 0]).cell? ⟨w.heap.size, 2, none⟩ = some (.int .i64 0) := by rw [cell_of_row _ _ _ _ _ _ HZ.out]; rfl
    have z3 : (V5.setRow w.heap.size #[.int .i64 0, .int .i64 0, .int .i64 0, .slice none 0 0, .int .i64 0, .int .i64 0, .slice none 0 0]).cell? ⟨w.heap.size, 3, none⟩ = some (.slice none 0 0) := by rw [cell_of_row _ _ _ _ _ _ HZ.out]; rfl
    have z4 : (V5.setRow w.heap.size #[.int .i64 0, .int .i64 0, .int .i64 0, .slice none 0 0, .int .i64 0, .int .i64 0, .slice none 0 0]).cell? ⟨w.heap.size, 4, none⟩ = some (.int .i64 0) := by rw [cell_of_row _ _ _ _ _ _ HZ.out]; rfl
    have z5 : (V5.setRow w.heap.size #[.int .i64 0, .int .i64 0, .int .i64 0, .slice none 0 0, .int .i64 0, .int .i64 0, .slice none 0 0]).cell? ⟨w.heap.size, 5, none⟩ = some (.int .i64 0) := by rw [cell_of_row _ _ _ _ _ _ HZ.out]; rfl
    have z6 : (V5.setRow w.heap.size #[.int .i64 0, .int .i64 0, .int .i64 0, .slice none 0 0, .int .i64 0, .int .i64 0, .slice none 0 0]).cell? ⟨w.heap.size, 6, none⟩ = some (.slice none 0 0) := by rw [cell_of_row _ _ _ _ _ _ HZ.out]; rfl
    refine bodyPost_ret (v := .tuple #[.agg #[.int .i64 0, .int .i64 0, .int .i64 0, .slice none 0 0, .int .i64 0, .int .i64 0, .slice none 0 0], .int .i64 80]) (by simp [results, Tryz.results21, go_sem, z0, z1, z2, z3, z4, z5, z6]) rfl ?_
    exact HNO.out _ (Below.setRow' HS5.out.bel (Nat.le_refl _) _) (by first | rfl | trivial)
  | false =>
    by_cases hse : s5.data.toList = []
    · obtain rfl : s5 = ⟨#[]⟩ := bs_nil.1 hse
      have hck := check_any ⟨⟨t1, r1⟩, n, dv, ⟨ut, ur⟩, ops⟩ dA dc oA oc (fun k => y1.heap.size < k) V5 HI.out (fun o ho => by have := (HTX.out o ho).1; omega) (HTb.out.below HS5.out.bel)
      have HDZ2 := Lib.hid (show r = if chkB ⟨⟨t1, r1⟩, n, dv, ⟨ut, ur⟩, ops⟩ = true then some ⟨⟨t1, r1⟩, n, dv, ⟨ut, ur⟩, ops⟩ else none by rw [HRR.out, HDZ.out]; simp)
      clear HDZ
      have a0 : V5.cell? ⟨y1.heap.size, 0, none⟩ = some (.int .i64 t1) := by rw [HS5.out.cell]; rfl
      have a1 : V5.cell? ⟨y1.heap.size, 1, none⟩ = some (.int .i64 r1) := by rw [HS5.out.cell]; rfl
      have a2 : V5.cell? ⟨y1.heap.size, 2, none⟩ = some (.int .i64 n) := by rw [HS5.out.cell]; rfl
      have a3 : V5.cell? ⟨y1.heap.size, 3, none⟩ = some (.slice dA dv.length dc) := by rw [HS5.out.cell]; rfl
      have a4 : V5.cell? ⟨y1.heap.size, 4, none⟩ = some (.int .i64 ut) := by rw [HS5.out.cell]; rfl
      have a5 : V5.cell? ⟨y1.heap.size, 5, none⟩ = some (.int .i64 ur) := by rw [HS5.out.cell]; rfl
      have a6 : V5.cell? ⟨y1.heap.size, 6, none⟩ = some (.slice oA ops.length oc) := by rw [HS5.out.cell]; rfl
      cases hcb : chkB ⟨⟨t1, r1⟩, n, dv, ⟨ut, ur⟩, ops⟩ with
      | false =>
        rw [hcb] at hck
        obtain rfl : r = none := by rw [HDZ2.out, hcb]; rfl
        have HCK : Hid (Calls Tryz.prog 43 #[.agg #[.int .i64 t1, .int .i64 r1, .int .i64 n, .slice dA dv.length dc, .int .i64 ut, .int .i64 ur, .slice oA ops.length oc]] V5 fun e w' => e = .returned (.int .i64 80) ∧ Below V5.heap.size V5 w') := hck
        clear hck hcb
        go_upto_region 8 with (first
          | (refine load_at rfl _ _ rfl y1.heap.size _ _ _ rfl HS5.out.obj Tryz.underlying40 rfl ?_ ?_; kernel_rfl)
          | (go_at_call 43; refine HCK.out.mono ?_; rintro e w6 ⟨rfl, hB6⟩))
        have HS6 := Lib.hid ((hB6.block w.heap.size (lt_of_block HS5.out.res)).trans HS5.out.res)
        have HB6 := Lib.hid (HS5.out.bel.trans (hB6.mono HS5.out.bel.size))
        clear hB6
        go_wp2_with (first | (refine store_at rfl _ _ _ rfl w.heap.size _ _ #[.int .i64 0, .int .i64 0, .int .i64 0, .slice none 0 0, .int .i64 0, .int .i64 0, .slice none 0 0] rfl rfl HS6.out ?_ ?_ ?_ ?_; kernel_rfl; rfl; rfl))
        have HZ := Lib.hid (heap_setRow_same #[.int .i64 0, .int .i64 0, .int .i64 0, .slice none 0 0, .int .i64 0, .int .i64 0, .slice none 0 0] HS6.out)
        have z0 : (w6.setRow w.heap.size #[.int .i64 0, .int .i64 0, .int .i64 0, .slice none 0 0, .int .i64 0, .int .i64 0, .slice none 0 0]).cell? ⟨w.heap.size, 0, none⟩ = some (.int .i64 0) := by rw [cell_of_row _ _ _ _ _ _ HZ.out]; rfl
        have z1 : (w6.setRow w.heap.size #[.int .i64 0, .int .i64 0, .int .i64 0, .slice none 0 0, .int .i64 0, .int .i64 0, .slice none 0 0]).cell? ⟨w.heap.size, 1, none⟩ = some (.int .i64 0) := by rw [cell_of_row _ _ _ _ _ _ HZ.out]; rfl
        have z2 : (w6.setRow w.heap.size #[.int .i64 0, .int .i64 0, .int .i64 0, .slice none 0 0, .int .i64 0, .int .i64 0, .slice none 0 0]).cell? ⟨w.heap.size, 2, none⟩ = some (.int .i64 0) := by rw [cell_of_row _ _ _ _ _ _ HZ.out]; rfl
        have z3 : (w6.setRow w.heap.size #[.int .i64 0, .int .i64 0, .int .i64 0, .slice none 0 0, .int .i64 0, .int .i64 0, .slice none 0 0]).cell? ⟨w.heap.size, 3, none⟩ = some (.slice none 0 0) := by rw [cell_of_row _ _ _ _ _ _ HZ.out]; rfl
        have z4 : (w6.setRow w.heap.size #[.int .i64 0, .int .i64 0, .int .i64 0, .slice none 0 0, .int .i64 0, .int .i64 0, .slice none 0 0]).cell? ⟨w.heap.size, 4, none⟩ = some (.int .i64 0) := by rw [cell_of_row _ _ _ _ _ _ HZ.out]; rfl
        have z5 : (w6.setRow w.heap.size #[.int .i64 0, .int .i64 0, .int .i64 0, .slice none 0 0, .int .i64 0, .int .i64 0, .slice none 0 0]).cell? ⟨w.heap.size, 5, none⟩ = some (.int .i64 0) := by rw [cell_of_row _ _ _ _ _ _ HZ.out]; rfl
        have z6 : (w6.setRow w.heap.size #[.int .i64 0, .int .i64 0, .int .i64 0, .slice none 0 0, .int .i64 0, .int .i64 0, .slice none 0 0]).cell? ⟨w.heap.size, 6, none⟩ = some (.slice none 0 0) := by rw [cell_of_row _ _ _ _ _ _ HZ.out]; rfl
        refine bodyPost_ret (v := .tuple #[.agg #[.int .i64 0, .int .i64 0, .int .i64 0, .slice none 0 0, .int .i64 0, .int .i64 0, .slice none 0 0], .int .i64 80]) (by simp [results, Tryz.results21, go_sem, z0, z1, z2, z3, z4, z5, z6]) rfl ?_
        exact HNO.out _ (Below.setRow' HB6.out (Nat.le_refl _) _) (by first | rfl | trivial)
      | true =>
        rw [hcb] at hck
        obtain rfl : r = some ⟨⟨t1, r1⟩, n, dv, ⟨ut, ur⟩, ops⟩ := by rw [HDZ2.out, hcb]; rfl
        have HCK : Hid (Calls Tryz.prog 43 #[.agg #[.int .i64 t1, .int .i64 r1, .int .i64 n, .slice dA dv.length dc, .int .i64 ut, .int .i64 ur, .slice oA ops.length oc]] V5 fun e w' => e = .returned (.int .i64 0) ∧ Below V5.heap.size V5 w') := hck
        clear hck hcb
        go_upto_region 9 with (first
          | (refine load_at rfl _ _ rfl y1.heap.size _ _ _ rfl HS5.out.obj Tryz.underlying40 rfl ?_ ?_; kernel_rfl)
          | (go_at_call 43; refine HCK.out.mono ?_; rintro e w6 ⟨rfl, hB6⟩))
        have HS6 := Lib.hid ((hB6.block w.heap.size (lt_of_block HS5.out.res)).trans HS5.out.res)
        have HO6 := Lib.hid ((hB6.block y1.heap.size (lt_of_block HS5.out.obj)).trans HS5.out.obj)
        have HI6 := Lib.hid (HI.out.agr (Agr.below hB6))
        have HB6 := Lib.hid (HS5.out.bel.trans (hB6.mono HS5.out.bel.size))
        clear hB6
        go_wp2_with (first
          | (refine load_at rfl _ _ rfl y1.heap.size _ _ _ rfl HO6.out Tryz.underlying40 rfl ?_ ?_; kernel_rfl)
          | (refine store_at rfl _ _ _ rfl w.heap.size _ _ #[.int .i64 t1, .int .i64 r1, .int .i64 n, .slice dA dv.length dc, .int .i64 ut, .int .i64 ur, .slice oA ops.length oc] rfl rfl HS6.out ?_ ?_ ?_ ?_; kernel_rfl; rfl; rfl))
        have HZ := Lib.hid (heap_setRow_same #[.int .i64 t1, .int .i64 r1, .int .i64 n, .slice dA dv.length dc, .int .i64 ut, .int .i64 ur, .slice oA ops.length oc] HS6.out)
        have z0 : (w6.setRow w.heap.size #[.int .i64 t1, .int .i64 r1, .int .i64 n, .slice dA dv.length dc, .int .i64 ut, .int .i64 ur, .slice oA ops.length oc]).cell? ⟨w.heap.size, 0, none⟩ = some (.int .i64 t1) := by rw [cell_of_row _ _ _ _ _ _ HZ.out]; rfl
        have z1 : (w6.setRow w.heap.size #[.int .i64 t1, .int .i64 r1, .int .i64 n, .slice dA dv.length dc, .int .i64 ut, .int .i64 ur, .slice oA ops.length oc]).cell? ⟨w.heap.size, 1, none⟩ = some (.int .i64 r1) := by rw [cell_of_row _ _ _ _ _ _ HZ.out]; rfl
        have z2 : (w6.setRow w.heap.size #[.int .i64 t1, .int .i64 r1, .int .i64 n, .slice dA dv.length dc, .int .i64 ut, .int .i64 ur, .slice oA ops.length oc]).cell? ⟨w.heap.size, 2, none⟩ = some (.int .i64 n) := by rw [cell_of_row _ _ _ _ _ _ HZ.out]; rfl
        have z3 : (w6.setRow w.heap.size #[.int .i64 t1, .int .i64 r1, .int .i64 n, .slice dA dv.length dc, .int .i64 ut, .int .i64 ur, .slice oA ops.length oc]).cell? ⟨w.heap.size, 3, none⟩ = some (.slice dA dv.length dc) := by rw [cell_of_row _ _ _ _ _ _ HZ.out]; rfl
        have z4 : (w6.setRow w.heap.size #[.int .i64 t1, .int .i64 r1, .int .i64 n, .slice dA dv.length dc, .int .i64 ut, .int .i64 ur, .slice oA ops.length oc]).cell? ⟨w.heap.size, 4, none⟩ = some (.int .i64 ut) := by rw [cell_of_row _ _ _ _ _ _ HZ.out]; rfl
        have z5 : (w6.setRow w.heap.size #[.int .i64 t1, .int .i64 r1, .int .i64 n, .slice dA dv.length dc, .int .i64 ut, .int .i64 ur, .slice oA ops.length oc]).cell? ⟨w.heap.size, 5, none⟩ = some (.int .i64 ur) := by rw [cell_of_row _ _ _ _ _ _ HZ.out]; rfl
        have z6 : (w6.setRow w.heap.size #[.int .i64 t1, .int .i64 r1, .int .i64 n, .slice dA dv.length dc, .int .i64 ut, .int .i64 ur, .slice oA ops.length oc]).cell? ⟨w.heap.size, 6, none⟩ = some (.slice oA ops.length oc) := by rw [cell_of_row _ _ _ _ _ _ HZ.out]; rfl
        refine bodyPost_ret (v := .tuple #[.agg #[.int .i64 t1, .int .i64 r1, .int .i64 n, .slice dA dv.length dc, .int .i64 ut, .int .i64 ur, .slice oA ops.length oc], .int .i64 0]) (by simp [results, Tryz.results21, go_sem, z0, z1, z2, z3, z4, z5, z6]) rfl ?_
        refine ⟨Below.setRow' HB6.out (Nat.le_refl _) _, dA, dc, oA, oc, rfl, (HI6.out.agr (Agr.setRow _ w.heap.size _ (by show ¬ y1.heap.size < w.heap.size; omega))).sub (fun k _ h => by have h : y1.heap.size < k := h; omega), HTX.out⟩
    · obtain rfl : r = none := by rw [HRR.out, HDZ.out]; simp [hse]
      have q1 : ¬ s5.toList = [] := by rw [str_nil]; exact hse
      have q2 : s5.toList.isEmpty = false := by rw [List.isEmpty_eq_false_iff]; exact q1
      clear hse
      go_wp2_with (first | (refine store_at rfl _ _ _ rfl w.heap.size _ _ #[.int .i64 0, .int .i64 0, .int .i64 0, .slice none 0 0, .int .i64 0, .int .i64 0, .slice none 0 0] rfl rfl HS5.out.res ?_ ?_ ?_ ?_; kernel_rfl; rfl; rfl))
      have HZ := Lib.hid (heap_setRow_same #[.int .i64 0, .int .i64 0, .int .i64 0, .slice none 0 0, .int .i64 0, .int .i64 0, .slice none 0 0] HS5.out.res)
      have z0 : (V5.setRow w.heap.size #[.int .i64 0, .int .i64 0, .int .i64 0, .slice none 0 0, .int .i64 0, .int .i64 0, .slice none 0 0]).cell? ⟨w.heap.size, 0, none⟩ = some (.int .i64 0) := by rw [cell_of_row _ _ _ _ _ _ HZ.out]; rfl
      have z1 : (V5.setRow w.heap.size #[.int .i64 0, .int .i64 0, .int .i64 0, .slice none 0 0, .int .i64 0, .int .i64 0, .slice none 0 0]).cell? ⟨w.heap.size, 1, none⟩ = some (.int .i64 0) := by rw [cell_of_row _ _ _ _ _ _ HZ.out]; rfl
      have z2 : (V5.setRow w.heap.size #[.int .i64 0, .int .i64 0, .int .i64 0, .slice none 0 0, .int .i64 0, .int .i64 0, .slice none 0 0]).cell? ⟨w.heap.size, 2, none⟩ = some (.int .i64 0) := by rw [cell_of_row _ _ _ _ _ _ HZ.out]; rfl
      have z3 : (V5.setRow w.heap.size #[.int .i64 0, .int .i64 0, .int .i64 0, .slice none 0 0, .int .i64 0, .int .i64 0, .slice none 0 0]).cell? ⟨w.heap.size, 3, none⟩ = some (.slice none 0 0) := by rw [cell_of_row _ _ _ _ _ _ HZ.out]; rfl
      have z4 : (V5.setRow w.heap.size #[.int .i64 0, .int .i64 0, .int .i64 0, .slice none 0 0, .int .i64 0, .int .i64 0, .slice none 0 0]).cell? ⟨w.heap.size, 4, none⟩ = some (.int .i64 0) := by rw [cell_of_row _ _ _ _ _ _ HZ.out]; rfl
      have z5 : (V5.setRow w.heap.size #[.int .i64 0, .int .i64 0, .int .i64 0, .slice none 0 0, .int .i64 0, .int .i64 0, .slice none 0 0]).cell? ⟨w.heap.size, 5, none⟩ = some (.int .i64 0) := by rw [cell_of_row _ _ _ _ _ _ HZ.out]; rfl
      have z6 : (V5.setRow w.heap.size #[.int .i64 0, .int .i64 0, .int .i64 0, .slice none 0 0, .int .i64 0, .int .i64 0, .slice none 0 0]).cell? ⟨w.heap.size, 6, none⟩ = some (.slice none 0 0) := by rw [cell_of_row _ _ _ _ _ _ HZ.out]; rfl
      refine bodyPost_ret (v := .tuple #[.agg #[.int .i64 0, .int .i64 0, .int .i64 0, .slice none 0 0, .int .i64 0, .int .i64 0, .slice none 0 0], .int .i64 80]) (by simp [results, Tryz.results21, go_sem, z0, z1, z2, z3, z4, z5, z6]) rfl ?_
      exact HNO.out _ (Below.setRow' HS5.out.bel (Nat.le_refl _) _) (by first | rfl | trivial)
end Go.Proofs.YtalgbcgiiphoaaaGreatDoor
