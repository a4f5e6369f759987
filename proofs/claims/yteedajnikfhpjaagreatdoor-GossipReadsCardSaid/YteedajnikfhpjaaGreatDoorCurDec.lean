/- What the reference's Decode answers. Conditions: a text of at most 1000000 bytes. -/
import Derived.Test.YteedajnikfhpjaaGreatDoorCurOp
import Derived.Test.YteedajnikfhpjaaGreatDoorCurP
import Derived.Test.YteedajnikfhpjaaGreatDoorVarLists2
import Derived.Test.YteedajnikfhpjaaGreatDoorDec
import Derived.Test.YteedajnikfhpjaaGreatDoorRO
namespace Go.Proofs.YteedajnikfhpjaaGreatDoor
open Go.RowKit Go.Lib Go.Sort
set_option linter.unusedVariables false
attribute [local go_sem ↓] Go.wp_at_zero Go.wp_at_succ
/-- where the walk of Decode stands -/
structure CdSt (w0 : World) (b R O : Nat) (T : TypeId) (zc oc : Array Value) (s : ByteArray) (bad : Bool) (w : World) : Prop where
  rdr : Cur w b s bad
  res : w.heap[R]? = some (.cells zc T (0, 0))
  obj : w.heap[O]? = some (.cells oc T (0, 0))
  bel : Below w0.heap.size w0 w
  nR : w0.heap.size ≤ R
  Rb : R < b
  bO : b < O
section
variable {w0 w w' : World} {b R O : Nat} {T : TypeId} {zc oc : Array Value} {s s' : ByteArray} {bad bad' : Bool}
theorem CdSt.call (h : CdSt w0 b R O T zc oc s bad w) (hr : Cur w' b s' bad') (hg : w.grownBy w' (some b)) : CdSt w0 b R O T zc oc s' bad' w' :=
  ⟨hr, (hg.block R (lt_of_block h.res) (by intro e; cases e; have := h.Rb; omega)).trans h.res, (hg.block O (lt_of_block h.obj) (by intro e; cases e; have := h.bO; omega)).trans h.obj, h.bel.grown hg h.bel.size (fun k e => by cases e; have := h.nR; have := h.Rb; omega), h.nR, h.Rb, h.bO⟩
theorem CdSt.keep (h : CdSt w0 b R O T zc oc s bad w) {r : Option Nat} (hg : w.grownBy w' r) (hr : ∀ g, r = some g → O < g) : CdSt w0 b R O T zc oc s bad w' := by
  have h1 := h.Rb
  have h2 := h.bO
  have h3 := h.nR
  have hn : ∀ k, k ≤ O → some k ≠ r := fun k hk e => by have := hr k e.symm; omega
  exact ⟨h.rdr.kept hg (fun e => hn b (by omega) e.symm), (hg.block R (lt_of_block h.res) (hn R (by omega))).trans h.res, (hg.block O (lt_of_block h.obj) (hn O (by omega))).trans h.obj, h.bel.grown hg h.bel.size (fun k e => by have := hr k e; omega), h.nR, h.Rb, h.bO⟩
theorem CdSt.put (h : CdSt w0 b R O T zc oc s bad w) (c : Array Value) : CdSt w0 b R O T zc c s bad (w.setRow O c) := by
  have h1 := h.Rb
  have h2 := h.bO
  have h3 := h.nR
  exact ⟨(setRow_other w O b c (by omega)).trans h.rdr, (setRow_other w O R c (by omega)).trans h.res, heap_setRow_same _ h.obj, Below.setRow' h.bel (by omega) _, h.nR, h.Rb, h.bO⟩
theorem CdSt.set (h : CdSt w0 b R O T zc oc s bad w) (i : Nat) (v : Value) (c : Array Value) (hc : oc.setIfInBounds i v = c) : CdSt w0 b R O T zc c s bad (w.setCell ⟨O, i, none⟩ v) := by
  have h1 := h.Rb
  have h2 := h.bO
  have h3 := h.nR
  refine ⟨(Below.heap_setCell _ _ _ _ (by show b ≠ O; omega)).trans h.rdr, (Below.heap_setCell _ _ _ _ (by show R ≠ O; omega)).trans h.res, ?_, h.bel.grown (gby_set O i v) h.bel.size (fun k e => by cases e; omega), h.nR, h.Rb, h.bO⟩
  have := h.obj
  simp [World.setCell, Array.getElem?_modify, this, hc]
theorem CdSt.rest (h : CdSt w0 b R O T zc oc s bad w) (s' : ByteArray) : CdSt w0 b R O T zc oc s' bad (w.setCell ⟨b, 0, none⟩ (.string s')) := by
  have h1 := h.Rb
  have h2 := h.bO
  have h3 := h.nR
  exact ⟨h.rdr.set0 s', (Below.heap_setCell _ _ _ _ (by show R ≠ b; omega)).trans h.res, (Below.heap_setCell _ _ _ _ (by show O ≠ b; omega)).trans h.obj, h.bel.grown (gby_set b 0 _) h.bel.size (fun k e => by cases e; omega), h.nR, h.Rb, h.bO⟩
theorem CdSt.cell (h : CdSt w0 b R O T zc oc s bad w) (i : Nat) : w.cell? ⟨O, i, none⟩ = oc[i]? := cell_of_row _ _ _ _ _ _ h.obj
end
theorem OpsAt.setc {B : Nat} {v : Value} {L : List (Gop × OpX)} {S : Nat → Prop} {w : World} (h : OpsAt B v L S w) {b i : Nat} (hb : b < B) (u : Value) : OpsAt B v L S (w.setCell ⟨b, i, none⟩ u) :=
  ⟨fun p hp => (h.good p hp).agr ⟨by simp, fun k hk _ => Below.heap_setCell _ _ _ _ (by show k ≠ b; have := (h.old k hk).1; omega)⟩, fun k hk => by have := h.old k hk; simpa using this⟩
theorem Agr.setCell {S : Nat → Prop} (w : World) (g i : Nat) (v : Value) (h : ¬ S g) : Agr S w (w.setCell ⟨g, i, none⟩ v) := ⟨by simp [World.setCell], fun b hb _ => Below.heap_setCell _ _ _ _ (fun e : b = g => h (e ▸ hb))⟩
theorem nats_flat (ns : List Nat) : (ns.map fun (m : Nat) => (m : Int)).flatMap intC_ = ns.map fun (m : Nat) => Value.int .i64 (m : Int) := by
  induction ns with
  | nil => rfl
  | cons m ns ih => rw [List.map_cons, List.flatMap_cons, ih, List.map_cons]; rfl
theorem vec_nats {w : World} {B : Nat} {A : Option Addr} {c : Nat} {ns : List Nat} {E : TypeId} (h : w.ownsRow B E 1 (.slice A ns.length c) ns.length (ns.map fun (m : Nat) => Value.int .i64 (m : Int))) : VecS w (fun k => B ≤ k) A (ns.map fun (m : Nat) => (m : Int)) := by
  rw [← nats_flat] at h
  refine vec_own (c := c) (E := E) ?_
  rw [List.length_map]; exact h
set_option maxRecDepth 100000 in
set_option maxHeartbeats 16000000 in
theorem cdecode_any (s : ByteArray) (w : World) (hs : s.size ≤ 1000000) :
    Calls Tryz.prog 18 #[.string s] w fun e w' => DecQ (decZ s.data.toList) w e w' := by
  obtain ⟨r, hr⟩ : ∃ r, r = decZ s.data.toList := ⟨_, rfl⟩
  rw [← hr]
  obtain ⟨i0, hi, hz0, hz1, hz2⟩ := info_parts infoOp
  have HRR := Lib.hid hr
  clear hr
  have HT0 := Lib.hid (show CdSt w (w.heap.size + 1) w.heap.size (w.heap.size + 1 + 1) 40 #[.int .i64 0, .int .i64 0, .int .i64 0, .slice none 0 0, .int .i64 0, .int .i64 0, .slice none 0 0] #[.int .i64 0, .int .i64 0, .int .i64 0, .slice none 0 0, .int .i64 0, .int .i64 0, .slice none 0 0] s false (((w.alloc (.cells #[.int .i64 0, .int .i64 0, .int .i64 0, .slice none 0 0, .int .i64 0, .int .i64 0, .slice none 0 0] 40)).alloc (.cells #[.string s, .bool false] 85)).alloc (.cells #[.int .i64 0, .int .i64 0, .int .i64 0, .slice none 0 0, .int .i64 0, .int .i64 0, .slice none 0 0] 40)) from by
    refine ⟨?_, ?_, ?_, (((Below.refl _ _).alloc (Nat.le_refl _) _).alloc (by simp) _).alloc (by simp; omega) _, Nat.le_refl _, by omega, by omega⟩
    · exact (Below.heap_alloc _ _ _ (by simp)).trans (heap_alloc_newC _ _ (by simp))
    · exact (Below.heap_alloc _ _ _ (by simp; omega)).trans ((Below.heap_alloc _ _ _ (by simp)).trans (heap_alloc_new w _))
    · exact heap_alloc_newC _ _ (by simp))
  go_enter Tryz.func18, Tryz.ntmps18
  go_wp2_with fail
  generalize hV : ((w.alloc (.cells #[.int .i64 0, .int .i64 0, .int .i64 0, .slice none 0 0, .int .i64 0, .int .i64 0, .slice none 0 0] 40)).alloc (.cells #[.string s, .bool false] 85)).alloc (.cells #[.int .i64 0, .int .i64 0, .int .i64 0, .slice none 0 0, .int .i64 0, .int .i64 0, .slice none 0 0] 40) = V0 at *
  clear hV
  skip
  refine (cstamp_any (w.heap.size + 1) s false V0 hs HT0.out.rdr).mono ?_
  rintro e y1 ⟨⟨t1, r1⟩, v, s1, bad1, rfl, hv, hR1, hg1, hd1⟩
  obtain rfl : v = .agg #[.int .i64 t1, .int .i64 r1] := hv
  have hs1 := rd_size hd1 hs
  have HU1 := Lib.hid (HT0.out.call hR1 hg1)
  have HD1 := Lib.hid hd1
  clear hR1 hg1 hd1
  go_upto_region 4 with (first | (refine store_putAt rfl _ _ _ rfl (w.heap.size + 1 + 1) 0 _ _ #[.int .i64 t1, .int .i64 r1, .int .i64 0, .slice none 0 0, .int .i64 0, .int .i64 0, .slice none 0 0] _ rfl HU1.out.obj rfl ?_ ?_ ?_ rfl ?_; kernel_rfl; exact Nat.le_of_ble_eq_true rfl; rfl))
  have HT1 := Lib.hid (HU1.out.put #[.int .i64 t1, .int .i64 r1, .int .i64 0, .slice none 0 0, .int .i64 0, .int .i64 0, .slice none 0 0])
  generalize hV : y1.setRow (w.heap.size + 1 + 1) #[.int .i64 t1, .int .i64 r1, .int .i64 0, .slice none 0 0, .int .i64 0, .int .i64 0, .slice none 0 0] = V1 at *
  clear hV HU1
  go_wp2_with fail
  refine (cnat_any (w.heap.size + 1) s1 bad1 V1 hs1 HT1.out.rdr).mono ?_
  rintro e y2 ⟨n, v, s2, bad2, rfl, ⟨rfl, hn⟩, hR2, hg2, hd2⟩
  have hs2 := rd_size hd2 hs1
  have HU2 := Lib.hid (HT1.out.call hR2 hg2)
  have HD2 := Lib.hid hd2
  have HN := Lib.hid hn
  clear hn
  clear hR2 hg2 hd2
  go_upto_region 5 with (first | (refine store_putAt rfl _ _ _ rfl (w.heap.size + 1 + 1) 2 _ _ #[.int .i64 t1, .int .i64 r1, .int .i64 n, .slice none 0 0, .int .i64 0, .int .i64 0, .slice none 0 0] _ rfl HU2.out.obj rfl ?_ ?_ ?_ rfl ?_; kernel_rfl; exact Nat.le_of_ble_eq_true rfl; rfl))
  have HT2 := Lib.hid (HU2.out.put #[.int .i64 t1, .int .i64 r1, .int .i64 n, .slice none 0 0, .int .i64 0, .int .i64 0, .slice none 0 0])
  generalize hV : y2.setRow (w.heap.size + 1 + 1) #[.int .i64 t1, .int .i64 r1, .int .i64 n, .slice none 0 0, .int .i64 0, .int .i64 0, .slice none 0 0] = V2 at *
  clear hV HU2
  have hno : ∀ (W : World), Below w.heap.size w W → r = none → DecQ r w (.returned (.tuple #[.agg #[.int .i64 0, .int .i64 0, .int .i64 0, .slice none 0 0, .int .i64 0, .int .i64 0, .slice none 0 0], .int .i64 80])) W := fun W h1 h2 => DecQ.no h2 h1
  have HNO := Lib.hid hno
  clear hno
  have HTN := Lib.hid (reftakenats_own s2 hs2 V2)
  have b0 := HT2.out.rdr.c0
  have b1 := HT2.out.rdr.c1
  have HLOST := Lib.hid (fun v l3 b3 (h : RdIs (manyR intR) s2.data.toList bad2 v l3 b3) (hb : b3 = true) => decZ_lost HD1.out HD2.out h hb)
  cases htn : Vr.takeNats s2.data.toList with
  | err ce =>
    obtain rfl : r = none := by rw [HRR.out]; exact HLOST.out [] [] true (RdIs.nonats htn bad2 []) rfl
    have t1 : ((ce : Int) != 0) = true := by rw [bne_iff_ne]; have := takeNats_pos htn; omega
    rw [htn] at HTN
    clear htn
    go_wp2_with fail
    refine HTN.out.mono ?_
    rintro e y3 ⟨rfl, hB3⟩
    have HB3 := Lib.hid (HT2.out.bel.trans (hB3.mono HT2.out.bel.size))
    have HS3 := Lib.hid ((hB3.block w.heap.size (lt_of_block HT2.out.res)).trans HT2.out.res)
    clear hB3
    go_wp2_with (first | (refine store_at rfl _ _ _ rfl w.heap.size _ _ #[.int .i64 0, .int .i64 0, .int .i64 0, .slice none 0 0, .int .i64 0, .int .i64 0, .slice none 0 0] rfl rfl HS3.out ?_ ?_ ?_ ?_; kernel_rfl; rfl; rfl))
    have HZ := Lib.hid (heap_setRow_same #[.int .i64 0, .int .i64 0, .int .i64 0, .slice none 0 0, .int .i64 0, .int .i64 0, .slice none 0 0] HS3.out)
    have z0 : (y3.setRow w.heap.size #[.int .i64 0, .int .i64 0, .int .i64 0, .slice none 0 0, .int .i64 0, .int .i64 0, .slice none 0 0]).cell? ⟨w.heap.size, 0, none⟩ = some (.int .i64 0) := by rw [cell_of_row _ _ _ _ _ _ HZ.out]; rfl
    have z1 : (y3.setRow w.heap.size #[.int .i64 0, .int .i64 0, .int .i64 0, .slice none 0 0, .int .i64 0, .int .i64 0, .slice none 0 0]).cell? ⟨w.heap.size, 1, none⟩ = some (.int .i64 0) := by rw [cell_of_row _ _ _ _ _ _ HZ.out]; rfl
    have z2 : (y3.setRow w.heap.size #[.int .i64 0, .int .i64 0, .int .i64 0, .slice none 0 0, .int .i64 0, .int .i64 0, .slice none 0 0]).cell? ⟨w.heap.size, 2, none⟩ = some (.int .i64 0) := by rw [cell_of_row _ _ _ _ _ _ HZ.out]; rfl
    have z3 : (y3.setRow w.heap.size #[.int .i64 0, .int .i64 0, .int .i64 0, .slice none 0 0, .int .i64 0, .int .i64 0, .slice none 0 0]).cell? ⟨w.heap.size, 3, none⟩ = some (.slice none 0 0) := by rw [cell_of_row _ _ _ _ _ _ HZ.out]; rfl
    have z4 : (y3.setRow w.heap.size #[.int .i64 0, .int .i64 0, .int .i64 0, .slice none 0 0, .int .i64 0, .int .i64 0, .slice none 0 0]).cell? ⟨w.heap.size, 4, none⟩ = some (.int .i64 0) := by rw [cell_of_row _ _ _ _ _ _ HZ.out]; rfl
    have z5 : (y3.setRow w.heap.size #[.int .i64 0, .int .i64 0, .int .i64 0, .slice none 0 0, .int .i64 0, .int .i64 0, .slice none 0 0]).cell? ⟨w.heap.size, 5, none⟩ = some (.int .i64 0) := by rw [cell_of_row _ _ _ _ _ _ HZ.out]; rfl
    have z6 : (y3.setRow w.heap.size #[.int .i64 0, .int .i64 0, .int .i64 0, .slice none 0 0, .int .i64 0, .int .i64 0, .slice none 0 0]).cell? ⟨w.heap.size, 6, none⟩ = some (.slice none 0 0) := by rw [cell_of_row _ _ _ _ _ _ HZ.out]; rfl
    refine bodyPost_ret (v := .tuple #[.agg #[.int .i64 0, .int .i64 0, .int .i64 0, .slice none 0 0, .int .i64 0, .int .i64 0, .slice none 0 0], .int .i64 80]) (by simp [results, Tryz.results18, go_sem, z0, z1, z2, z3, z4, z5, z6]) rfl ?_
    exact HNO.out _ (Below.setRow' HB3.out (Nat.le_refl _) _) (by first | rfl | trivial)
  | ok ns rest =>
    rw [htn] at HTN
    go_wp2_with fail
    refine HTN.out.mono ?_
    rintro e y3 ⟨dA, dc, rfl, hO3, hB3⟩
    obtain ⟨s3, hs3e⟩ : ∃ q : ByteArray, q = ⟨rest.toArray⟩ := ⟨_, rfl⟩
    rw [← hs3e]
    have hs3 : s3.size ≤ 1000000 := by have h1 := takeNats_le htn; have h2 : s2.data.toList.length = s2.size := (by simp); rw [hs3e, size_mkB]; omega
    have hs3d : s3.data.toList = rest := by rw [hs3e]
    have HU3 := Lib.hid (show CdSt w (w.heap.size + 1) w.heap.size (w.heap.size + 1 + 1) 40 #[.int .i64 0, .int .i64 0, .int .i64 0, .slice none 0 0, .int .i64 0, .int .i64 0, .slice none 0 0] #[.int .i64 t1, .int .i64 r1, .int .i64 n, .slice none 0 0, .int .i64 0, .int .i64 0, .slice none 0 0] s2 bad2 y3 from HT2.out.keep (gby_below (r := none) hB3) (by simp))
    have b1 := HU3.out.rdr.c1
    have b0 := HU3.out.rdr.c0
    have f0 := HU3.out.rdr.f 0
    have hV2s : w.heap.size + 1 + 1 < V2.heap.size := lt_of_block HT2.out.obj
    have hlen : ns.length ≤ 1000000 := by have h1 := (Vr.takeNats_back htn).2.1; have h2 : s2.data.toList.length = s2.size := (by simp); omega
    cases bad2 with
    | true =>
      obtain rfl : r = none := by rw [HRR.out]; exact HLOST.out _ _ true (RdIs.nats htn true) rfl
      clear htn
      go_wp2_with (first | (refine store_at rfl _ _ _ rfl w.heap.size _ _ #[.int .i64 0, .int .i64 0, .int .i64 0, .slice none 0 0, .int .i64 0, .int .i64 0, .slice none 0 0] rfl rfl HU3.out.res ?_ ?_ ?_ ?_; kernel_rfl; rfl; rfl))
      have HZ := Lib.hid (heap_setRow_same #[.int .i64 0, .int .i64 0, .int .i64 0, .slice none 0 0, .int .i64 0, .int .i64 0, .slice none 0 0] HU3.out.res)
      have z0 : (y3.setRow w.heap.size #[.int .i64 0, .int .i64 0, .int .i64 0, .slice none 0 0, .int .i64 0, .int .i64 0, .slice none 0 0]).cell? ⟨w.heap.size, 0, none⟩ = some (.int .i64 0) := by rw [cell_of_row _ _ _ _ _ _ HZ.out]; rfl
      have z1 : (y3.setRow w.heap.size #[.int .i64 0, .int .i64 0, .int .i64 0, .slice none 0 0, .int .i64 0, .int .i64 0, .slice none 0 0]).cell? ⟨w.heap.size, 1, none⟩ = some (.int .i64 0) := by rw [cell_of_row _ _ _ _ _ _ HZ.out]; rfl
      have z2 : (y3.setRow w.heap.size #[.int .i64 0, .int .i64 0, .int .i64 0, .slice none 0 0, .int .i64 0, .int .i64 0, .slice none 0 0]).cell? ⟨w.heap.size, 2, none⟩ = some (.int .i64 0) := by rw [cell_of_row _ _ _ _ _ _ HZ.out]; rfl
      have z3 : (y3.setRow w.heap.size #[.int .i64 0, .int .i64 0, .int .i64 0, .slice none 0 0, .int .i64 0, .int .i64 0, .slice none 0 0]).cell? ⟨w.heap.size, 3, none⟩ = some (.slice none 0 0) := by rw [cell_of_row _ _ _ _ _ _ HZ.out]; rfl
      have z4 : (y3.setRow w.heap.size #[.int .i64 0, .int .i64 0, .int .i64 0, .slice none 0 0, .int .i64 0, .int .i64 0, .slice none 0 0]).cell? ⟨w.heap.size, 4, none⟩ = some (.int .i64 0) := by rw [cell_of_row _ _ _ _ _ _ HZ.out]; rfl
      have z5 : (y3.setRow w.heap.size #[.int .i64 0, .int .i64 0, .int .i64 0, .slice none 0 0, .int .i64 0, .int .i64 0, .slice none 0 0]).cell? ⟨w.heap.size, 5, none⟩ = some (.int .i64 0) := by rw [cell_of_row _ _ _ _ _ _ HZ.out]; rfl
      have z6 : (y3.setRow w.heap.size #[.int .i64 0, .int .i64 0, .int .i64 0, .slice none 0 0, .int .i64 0, .int .i64 0, .slice none 0 0]).cell? ⟨w.heap.size, 6, none⟩ = some (.slice none 0 0) := by rw [cell_of_row _ _ _ _ _ _ HZ.out]; rfl
      refine bodyPost_ret (v := .tuple #[.agg #[.int .i64 0, .int .i64 0, .int .i64 0, .slice none 0 0, .int .i64 0, .int .i64 0, .slice none 0 0], .int .i64 80]) (by simp [results, Tryz.results18, go_sem, z0, z1, z2, z3, z4, z5, z6]) rfl ?_
      exact HNO.out _ (Below.setRow' HU3.out.bel (Nat.le_refl _) _) (by first | rfl | trivial)
    | false =>
      have HD3 := Lib.hid (show RdIs (manyR intR) s2.data.toList false (ns.map fun (m : Nat) => (m : Int)) s3.data.toList false by rw [hs3d]; exact RdIs.nats htn false)
      have hdc := own_cap hO3
      have HDC := Lib.hid hdc
      have HDX := Lib.hid (show ∀ x ∈ (ns.map fun (m : Nat) => (m : Int)), i63 x from fun x hx => by obtain ⟨m, hm, rfl⟩ := List.mem_map.1 hx; have := (Vr.takeNats_back htn).2.2 m hm; exact ⟨by omega, by omega⟩)
      have HVV := Lib.hid ((vec_nats hO3).sub (T := fun k => w.heap.size + 1 + 1 < k) (fun k _ h => by have h : V2.heap.size ≤ k := h; show w.heap.size + 1 + 1 < k; omega))
      have HT3 := Lib.hid ((HU3.out.rest s3).put #[.int .i64 t1, .int .i64 r1, .int .i64 n, .slice dA ns.length dc, .int .i64 0, .int .i64 0, .slice none 0 0])
      have HV3 := Lib.hid ((HVV.out.agr (Agr.setCell y3 (w.heap.size + 1) 0 (.string s3) (by show ¬ w.heap.size + 1 + 1 < w.heap.size + 1; omega))).agr (Agr.setRow _ (w.heap.size + 1 + 1) #[.int .i64 t1, .int .i64 r1, .int .i64 n, .slice dA ns.length dc, .int .i64 0, .int .i64 0, .slice none 0 0] (by show ¬ w.heap.size + 1 + 1 < w.heap.size + 1 + 1; omega)))
      have HUR := Lib.hid (HU3.out.rest s3)
      clear htn HTN hO3 hB3 hs3e hs3d hdc HVV HLOST HT2
      go_upto_region 10 with (first | (refine store_putAt rfl _ _ _ rfl (w.heap.size + 1 + 1) 3 _ _ #[.int .i64 t1, .int .i64 r1, .int .i64 n, .slice dA ns.length dc, .int .i64 0, .int .i64 0, .slice none 0 0] _ rfl HUR.out.obj rfl ?_ ?_ ?_ rfl ?_; kernel_rfl; exact Nat.le_of_ble_eq_true rfl; rfl))
      generalize hV : (y3.setCell ⟨w.heap.size + 1, 0, none⟩ (.string s3)).setRow (w.heap.size + 1 + 1) #[.int .i64 t1, .int .i64 r1, .int .i64 n, .slice dA ns.length dc, .int .i64 0, .int .i64 0, .slice none 0 0] = V3 at *
      clear hV HU3 HUR b0 b1 f0 hV2s
      go_wp2_with fail
      refine (cstamp_any (w.heap.size + 1) s3 false V3 hs3 HT3.out.rdr).mono ?_
      rintro e y4 ⟨⟨ut, ur⟩, v, s4, bad4, rfl, hv, hR4, hg4, hd4⟩
      obtain rfl : v = .agg #[.int .i64 ut, .int .i64 ur] := hv
      have hs4 := rd_size hd4 hs3
      have HU4 := Lib.hid (HT3.out.call hR4 hg4)
      have HD4 := Lib.hid hd4
      have HV4 := Lib.hid ((HV3.out.agr (Agr.grown hg4 (fun g e hS => by cases e; have hS : w.heap.size + 1 + 1 < w.heap.size + 1 := hS; omega))).agr (Agr.setRow y4 (w.heap.size + 1 + 1) #[.int .i64 t1, .int .i64 r1, .int .i64 n, .slice dA ns.length dc, .int .i64 ut, .int .i64 ur, .slice none 0 0] (by show ¬ w.heap.size + 1 + 1 < w.heap.size + 1 + 1; omega)))
      clear hR4 hg4 hd4 HV3
      go_upto_region 11 with (first | (refine store_putAt rfl _ _ _ rfl (w.heap.size + 1 + 1) 4 _ _ #[.int .i64 t1, .int .i64 r1, .int .i64 n, .slice dA ns.length dc, .int .i64 ut, .int .i64 ur, .slice none 0 0] _ rfl HU4.out.obj rfl ?_ ?_ ?_ rfl ?_; kernel_rfl; exact Nat.le_of_ble_eq_true rfl; rfl))
      have HT4 := Lib.hid (HU4.out.put #[.int .i64 t1, .int .i64 r1, .int .i64 n, .slice dA ns.length dc, .int .i64 ut, .int .i64 ur, .slice none 0 0])
      generalize hV : y4.setRow (w.heap.size + 1 + 1) #[.int .i64 t1, .int .i64 r1, .int .i64 n, .slice dA ns.length dc, .int .i64 ut, .int .i64 ur, .slice none 0 0] = V4 at *
      clear hV HU4 HT3
      go_wp2_with fail
      refine (cnat_any (w.heap.size + 1) s4 bad4 V4 hs4 HT4.out.rdr).mono ?_
      rintro e y5 ⟨n0, v, s5, bad5, rfl, ⟨rfl, hn0⟩, hR5, hg5, hd5⟩
      obtain ⟨m, rfl⟩ := Int.eq_ofNat_of_zero_le hn0.1
      have hm : m < 9223372036854775808 := by have := hn0.2; omega
      have hs5 := rd_size hd5 hs4
      have HU5 := Lib.hid (HT4.out.call hR5 hg5)
      have HD5 := Lib.hid hd5
      have HV5 := Lib.hid (HV4.out.agr (Agr.grown hg5 (fun g e hS => by cases e; have hS : w.heap.size + 1 + 1 < w.heap.size + 1 := hS; omega)))
      have hltO := lt_of_block HU5.out.obj
      clear hR5 hg5 hd5 HV4 HT4 hn0
      obtain ⟨B, hB⟩ : ∃ B, B = y5.heap.size := ⟨_, rfl⟩
      have HVB := Lib.hid (show VecS y5 (fun k => w.heap.size + 1 + 1 < k ∧ k < B) dA (ns.map fun (m : Nat) => (m : Int)) from HV5.out.sub (fun k hk h => ⟨h, by omega⟩))
      have hOB : w.heap.size + 1 + 1 < B := by omega
      clear HV5
      go_wp2
      go_loopw [10] (fun i wr => ∃ (k : Nat) (V : Value) (L : List (Gop × OpX)) (s' : ByteArray) (bad' : Bool) (S : Nat → Prop), i = .int .i64 k ∧ k ≤ m ∧ wr.ownsRow B 80 18 V L.length (L.flatMap opC_) ∧ Hid (CdSt w (w.heap.size + 1) w.heap.size (w.heap.size + 1 + 1) 40 #[.int .i64 0, .int .i64 0, .int .i64 0, .slice none 0 0, .int .i64 0, .int .i64 0, .slice none 0 0] #[.int .i64 t1, .int .i64 r1, .int .i64 n, .slice dA ns.length dc, .int .i64 ut, .int .i64 ur, V] s' bad' wr) ∧ Hid (ManyAt opR m s5.data.toList bad5 (m - k) (L.map Prod.fst) s'.data.toList bad') ∧ Hid (OpsAt B V L S wr) ∧ B ≤ wr.heap.size ∧ Hid (VecS wr (fun k => w.heap.size + 1 + 1 < k ∧ k < B) dA (ns.map fun (m : Nat) => (m : Int)))) (fun i _ => m - (RowKit.intOf i).toNat)
      case atStart => exact ⟨0, .slice none 0 0, [], s5, bad5, fun _ => False, rfl, Nat.zero_le _, ⟨rfl, .inl ⟨rfl, rfl⟩⟩, HU5, Lib.hid ManyAt.start, Lib.hid ⟨fun p hp => (by cases hp), fun k hk => hk.elim⟩, by omega, HVB⟩
      case round =>
        obtain ⟨k, V, L, s', bad', S, rfl, hk, hO, HS, HM, HP, hszB, HV⟩ := hrel
        have hle := HM.out.le
        have hfew := HM.out.few
        have hl1 : s5.data.toList.length = s5.size := by simp
        have hl2 : s'.data.toList.length = s'.size := by simp
        have hl3 : (L.map Prod.fst).length = L.length := by simp
        have hxl : L.length ≤ 1000001 := by split at hfew <;> omega
        have hs' : s'.size ≤ 1000000 := by omega
        have c1 := HS.out.rdr.c1
        clear hle hfew hl1 hl2 hl3
        by_cases hlt : k < m
        · have i5 : (k : Int) < (m : Int) := by omega
          have i6 : decide ((k : Int) < (m : Int)) = true := decide_eq_true i5
          cases bad' with
          | true =>
            obtain ⟨oA, oc, rfl⟩ := row_slice hO
            have HRD := Lib.hid (RdIs.grp HD1.out HD2.out HD3.out HD4.out (RdIs.many HD5.out (by rw [Int.toNat_natCast]; exact HM.out.done (.inl rfl))))
            have HDZ := Lib.hid (decZ_of HRD.out)
            obtain rfl : r = none := by rw [HRR.out, HDZ.out]; simp
            clear HM HP hO
            go_wp2_with (first | (refine store_at rfl _ _ _ rfl w.heap.size _ _ #[.int .i64 0, .int .i64 0, .int .i64 0, .slice none 0 0, .int .i64 0, .int .i64 0, .slice none 0 0] rfl rfl HS.out.res ?_ ?_ ?_ ?_; kernel_rfl; rfl; rfl))
            have HZ := Lib.hid (heap_setRow_same #[.int .i64 0, .int .i64 0, .int .i64 0, .slice none 0 0, .int .i64 0, .int .i64 0, .slice none 0 0] HS.out.res)
            have z0 : (wr.setRow w.heap.size #[.int .i64 0, .int .i64 0, .int .i64 0, .slice none 0 0, .int .i64 0, .int .i64 0, .slice none 0 0]).cell? ⟨w.heap.size, 0, none⟩ = some (.int .i64 0) := by rw [cell_of_row _ _ _ _ _ _ HZ.out]; rfl
            have z1 : (wr.setRow w.heap.size #[.int .i64 0, .int .i64 0, .int .i64 0, .slice none 0 0, .int .i64 0, .int .i64 0, .slice none 0 0]).cell? ⟨w.heap.size, 1, none⟩ = some (.int .i64 0) := by rw [cell_of_row _ _ _ _ _ _ HZ.out]; rfl
            have z2 : (wr.setRow w.heap.size #[.int .i64 0, .int .i64 0, .int .i64 0, .slice none 0 0, .int .i64 0, .int .i64 0, .slice none 0 0]).cell? ⟨w.heap.size, 2, none⟩ = some (.int .i64 0) := by rw [cell_of_row _ _ _ _ _ _ HZ.out]; rfl
            have z3 : (wr.setRow w.heap.size #[.int .i64 0, .int .i64 0, .int .i64 0, .slice none 0 0, .int .i64 0, .int .i64 0, .slice none 0 0]).cell? ⟨w.heap.size, 3, none⟩ = some (.slice none 0 0) := by rw [cell_of_row _ _ _ _ _ _ HZ.out]; rfl
            have z4 : (wr.setRow w.heap.size #[.int .i64 0, .int .i64 0, .int .i64 0, .slice none 0 0, .int .i64 0, .int .i64 0, .slice none 0 0]).cell? ⟨w.heap.size, 4, none⟩ = some (.int .i64 0) := by rw [cell_of_row _ _ _ _ _ _ HZ.out]; rfl
            have z5 : (wr.setRow w.heap.size #[.int .i64 0, .int .i64 0, .int .i64 0, .slice none 0 0, .int .i64 0, .int .i64 0, .slice none 0 0]).cell? ⟨w.heap.size, 5, none⟩ = some (.int .i64 0) := by rw [cell_of_row _ _ _ _ _ _ HZ.out]; rfl
            have z6 : (wr.setRow w.heap.size #[.int .i64 0, .int .i64 0, .int .i64 0, .slice none 0 0, .int .i64 0, .int .i64 0, .slice none 0 0]).cell? ⟨w.heap.size, 6, none⟩ = some (.slice none 0 0) := by rw [cell_of_row _ _ _ _ _ _ HZ.out]; rfl
            refine bodyPost_ret (v := .tuple #[.agg #[.int .i64 0, .int .i64 0, .int .i64 0, .slice none 0 0, .int .i64 0, .int .i64 0, .slice none 0 0], .int .i64 80]) (by simp [results, Tryz.results18, go_sem, z0, z1, z2, z3, z4, z5, z6]) rfl ?_
            exact HNO.out _ (Below.setRow' HS.out.bel (Nat.le_refl _) _) (by first | rfl | trivial)
          | false =>
            have HC := Lib.hid (cop_any (w.heap.size + 1) s' false wr.drew hs' (by exact HS.out.rdr))
            have HBO := Lib.hid (fun g e => (hO.lt g e).1)
            have HBL := Lib.hid (fun g e => (hO.lt g e).2)
            have HB2 := Lib.hid (show V.ownBlock ≠ some (w.heap.size + 1) from fun e => by have := (hO.lt _ e).1; omega)
            have HO1 := Lib.hid hO
            have d0 : wr.cell? ⟨w.heap.size + 1 + 1, 6, none⟩ = some V := by rw [HS.out.cell]; rfl
            have z0 : w.heap.size + 1 + 1 < wr.heap.size := by omega
            have em : m - k = (m - (k + 1)) + 1 := by omega
            have HM1 := HM.out
            rw [em] at HM1
            have HM1 := Lib.hid HM1
            clear hO em
            go_upto_region 15 with fail
            go_region_law
              (first
                | (go_simp; go_at_call 48; refine HC.out.mono ?_; rintro e w2 ⟨⟨kind, ⟨⟨nt, nr⟩, ni⟩, ⟨⟨pt, pr⟩, pi⟩, name, dir, dots, ⟨⟨at_, ar⟩, ai⟩, ⟨⟨et, er⟩, ei⟩, text, elems⟩, v2, s4', bad4', rfl, ⟨⟨xd, xdc, xe, xec⟩, hv, hin, hnm, htx⟩, hR4, hg4, hd4⟩; obtain rfl : v2 = .agg #[.int .i64 kind, .int .i64 nt, .int .i64 nr, .int .i64 ni, .int .i64 pt, .int .i64 pr, .int .i64 pi, .string name, .bool dir, .slice xd dots.length xdc, .int .i64 at_, .int .i64 ar, .int .i64 ai, .int .i64 et, .int .i64 er, .int .i64 ei, .string text, .slice xe elems.length xec] := hv; replace hg4 : wr.grownBy w2 (some (w.heap.size + 1)) := gby_trans (⟨rfl, rfl, rfl, Nat.le_refl _, fun _ _ _ => rfl⟩ : wr.grownBy wr.drew (some (w.heap.size + 1))) hg4; have HS4 := Lib.hid (HS.out.call hR4 hg4); have HO2 := Lib.hid (HO1.out.kept hg4 (.inr HB2.out)); have HD4' := Lib.hid hd4; have hsz2 := hg4.size; have HG2 := Lib.hid hg4; have HI2 := Lib.hid hin; have HNT := Lib.hid (And.intro hnm htx); have HSA := Lib.hid (HS4.out.keep (World.grownBy_alloc w2 (.cells #[.int .i64 kind, .int .i64 nt, .int .i64 nr, .int .i64 ni, .int .i64 pt, .int .i64 pr, .int .i64 pi, .string name, .bool dir, .slice xd dots.length xdc, .int .i64 at_, .int .i64 ar, .int .i64 ai, .int .i64 et, .int .i64 er, .int .i64 ei, .string text, .slice xe elems.length xec] 80) none) (by simp)); have d5 : w2.cell? ⟨w.heap.size + 1 + 1, 6, none⟩ = some V := (by rw [HS4.out.cell]; rfl); have dA' : (w2.alloc (.cells #[.int .i64 kind, .int .i64 nt, .int .i64 nr, .int .i64 ni, .int .i64 pt, .int .i64 pr, .int .i64 pi, .string name, .bool dir, .slice xd dots.length xdc, .int .i64 at_, .int .i64 ar, .int .i64 ai, .int .i64 et, .int .i64 er, .int .i64 ei, .string text, .slice xe elems.length xec] 80)).cell? ⟨w.heap.size + 1 + 1, 6, none⟩ = some V := (by rw [HSA.out.cell]; rfl); clear hR4 hg4 hd4 hin hnm htx)
                | (refine step_append_lies _ (by rfl) _ _ 38 (by rfl) B 80 i0 (.agg #[.int .i64 0, .int .i64 0, .int .i64 0, .int .i64 0, .int .i64 0, .int .i64 0, .int .i64 0, .string ⟨#[]⟩, .bool false, .slice none 0 0, .int .i64 0, .int .i64 0, .int .i64 0, .int .i64 0, .int .i64 0, .int .i64 0, .string ⟨#[]⟩, .slice none 0 0]) 18 192 Tryz.underlying38 hi hz0 hz1 hz2 rfl (by decide) V L.length _ (by rfl) (by exact HO2.out.alloc _) ⟨w2.heap.size, 0, none⟩ 1 1 [.int .i64 kind, .int .i64 nt, .int .i64 nr, .int .i64 ni, .int .i64 pt, .int .i64 pr, .int .i64 pi, .string name, .bool dir, .slice xd dots.length xdc, .int .i64 at_, .int .i64 ar, .int .i64 ai, .int .i64 et, .int .i64 er, .int .i64 ei, .string text, .slice xe elems.length xec] (by rfl) rfl (by exact cellsN _ _ _) (by exact oc_of (c := #[.int .i64 kind, .int .i64 nt, .int .i64 nr, .int .i64 ni, .int .i64 pt, .int .i64 pr, .int .i64 pi, .string name, .bool dir, .slice xd dots.length xdc, .int .i64 at_, .int .i64 ar, .int .i64 ai, .int .i64 et, .int .i64 er, .int .i64 ei, .string text, .slice xe elems.length xec]) rfl) (by decide) (by unfold maxLen; omega) (by omega) (by simp; omega) (w2.heap.size + 1) (by simp) ?_; intro g cap w3 hown1 hgrow hat _; have HS5 := Lib.hid (HSA.out.keep hgrow (fun g e => by have := HBO.out g e; omega)); have d6 : w3.cell? ⟨w.heap.size + 1 + 1, 6, none⟩ = some V := (by rw [HS5.out.cell]; rfl); have f6 : w3.frozen? ⟨w.heap.size + 1 + 1, 6, none⟩ = false := frozen_of_row _ _ _ _ _ HS5.out.obj; have HO5 := Lib.hid hown1; have HGR := Lib.hid hgrow; have HAT := Lib.hid hat; have hsz3 := hgrow.size; clear hown1 hgrow hat))
            all_goals
              have HS6 := Lib.hid (HS5.out.set 6 (.slice (some ⟨g, 0, none⟩) (L.length + 1) cap) #[.int .i64 t1, .int .i64 r1, .int .i64 n, .slice dA ns.length dc, .int .i64 ut, .int .i64 ur, .slice (some ⟨g, 0, none⟩) (L.length + 1) cap] rfl)
              have HO6 := Lib.hid (ownsRow_setCell_below (a := ⟨w.heap.size + 1 + 1, 6, none⟩) HO5.out hOB (.slice (some ⟨g, 0, none⟩) (L.length + 1) cap))
              have hsz6 : B ≤ (w3.setCell ⟨w.heap.size + 1 + 1, 6, none⟩ (.slice (some ⟨g, 0, none⟩) (L.length + 1) cap)).heap.size := by simp at hsz3 ⊢; omega
              obtain ⟨S', hS'⟩ := OpsAt.next (o := ⟨kind, ⟨⟨nt, nr⟩, ni⟩, ⟨⟨pt, pr⟩, pi⟩, name, dir, dots, ⟨⟨at_, ar⟩, ai⟩, ⟨⟨et, er⟩, ei⟩, text, elems⟩) (x := ⟨xd, xdc, xe, xec⟩) (v' := .slice (some ⟨g, 0, none⟩) (L.length + 1) cap) HP.out hszB (show w.heap.size + 1 < B by omega) HBL.out HG2.out HI2.out HNT.out.1 HNT.out.2 HGR.out (HAT.out.imp (fun h => h.symm) (fun h => by rw [h]; simp; rfl))
              have HS7 := Lib.hid (hS'.setc (b := w.heap.size + 1 + 1) (i := 6) hOB (.slice (some ⟨g, 0, none⟩) (L.length + 1) cap))
              have HV6 := Lib.hid (((HV.out.agr (Agr.grown HG2.out (fun g e hS => by cases e; have := hS.1; omega))).agr (Agr.grown (row := none) (World.grownBy_alloc w2 (.cells #[.int .i64 kind, .int .i64 nt, .int .i64 nr, .int .i64 ni, .int .i64 pt, .int .i64 pr, .int .i64 pi, .string name, .bool dir, .slice xd dots.length xdc, .int .i64 at_, .int .i64 ar, .int .i64 ai, .int .i64 et, .int .i64 er, .int .i64 ei, .string text, .slice xe elems.length xec] 80) none) (by simp))).agr (Agr.grown HGR.out (fun g e hS => by have := HBO.out g e; have := hS.2; omega)))
              have HV7 := Lib.hid (HV6.out.agr (Agr.setCell w3 (w.heap.size + 1 + 1) 6 (.slice (some ⟨g, 0, none⟩) (L.length + 1) cap) (by show ¬ (w.heap.size + 1 + 1 < w.heap.size + 1 + 1 ∧ _); omega)))
              clear hS' HV6
              go_wp2
              go_roundw
              case rel => exact ⟨k + 1, .slice (some ⟨g, 0, none⟩) (L.length + 1) cap, L ++ [(⟨kind, ⟨⟨nt, nr⟩, ni⟩, ⟨⟨pt, pr⟩, pi⟩, name, dir, dots, ⟨⟨at_, ar⟩, ai⟩, ⟨⟨et, er⟩, ei⟩, text, elems⟩, ⟨xd, xdc, xe, xec⟩)], s4', bad4', S', by go_num, by omega, by rw [List.length_append, List.flatMap_append, List.flatMap_singleton]; exact HO6.out, HS6, Lib.hid (by rw [List.map_append]; exact HM1.out.next opT HD4'.out), HS7, hsz6, HV7⟩
              case measure => simp [RowKit.intOf]; omega
        · obtain rfl : k = m := by omega
          have i5 : ¬ (k : Int) < (k : Int) := by omega
          have i6 : decide ((k : Int) < (k : Int)) = false := decide_eq_false i5
          cases bad' with
          | true =>
            obtain ⟨oA, oc, rfl⟩ := row_slice hO
            have HRD := Lib.hid (RdIs.grp HD1.out HD2.out HD3.out HD4.out (RdIs.many HD5.out (by rw [Int.toNat_natCast]; exact HM.out.done (.inl rfl))))
            have HDZ := Lib.hid (decZ_of HRD.out)
            obtain rfl : r = none := by rw [HRR.out, HDZ.out]; simp
            clear HM HP hO
            go_wp2_with (first | (refine store_at rfl _ _ _ rfl w.heap.size _ _ #[.int .i64 0, .int .i64 0, .int .i64 0, .slice none 0 0, .int .i64 0, .int .i64 0, .slice none 0 0] rfl rfl HS.out.res ?_ ?_ ?_ ?_; kernel_rfl; rfl; rfl))
            have HZ := Lib.hid (heap_setRow_same #[.int .i64 0, .int .i64 0, .int .i64 0, .slice none 0 0, .int .i64 0, .int .i64 0, .slice none 0 0] HS.out.res)
            have z0 : (wr.setRow w.heap.size #[.int .i64 0, .int .i64 0, .int .i64 0, .slice none 0 0, .int .i64 0, .int .i64 0, .slice none 0 0]).cell? ⟨w.heap.size, 0, none⟩ = some (.int .i64 0) := by rw [cell_of_row _ _ _ _ _ _ HZ.out]; rfl
            have z1 : (wr.setRow w.heap.size #[.int .i64 0, .int .i64 0, .int .i64 0, .slice none 0 0, .int .i64 0, .int .i64 0, .slice none 0 0]).cell? ⟨w.heap.size, 1, none⟩ = some (.int .i64 0) := by rw [cell_of_row _ _ _ _ _ _ HZ.out]; rfl
            have z2 : (wr.setRow w.heap.size #[.int .i64 0, .int .i64 0, .int .i64 0, .slice none 0 0, .int .i64 0, .int .i64 0, .slice none 0 0]).cell? ⟨w.heap.size, 2, none⟩ = some (.int .i64 0) := by rw [cell_of_row _ _ _ _ _ _ HZ.out]; rfl
            have z3 : (wr.setRow w.heap.size #[.int .i64 0, .int .i64 0, .int .i64 0, .slice none 0 0, .int .i64 0, .int .i64 0, .slice none 0 0]).cell? ⟨w.heap.size, 3, none⟩ = some (.slice none 0 0) := by rw [cell_of_row _ _ _ _ _ _ HZ.out]; rfl
            have z4 : (wr.setRow w.heap.size #[.int .i64 0, .int .i64 0, .int .i64 0, .slice none 0 0, .int .i64 0, .int .i64 0, .slice none 0 0]).cell? ⟨w.heap.size, 4, none⟩ = some (.int .i64 0) := by rw [cell_of_row _ _ _ _ _ _ HZ.out]; rfl
            have z5 : (wr.setRow w.heap.size #[.int .i64 0, .int .i64 0, .int .i64 0, .slice none 0 0, .int .i64 0, .int .i64 0, .slice none 0 0]).cell? ⟨w.heap.size, 5, none⟩ = some (.int .i64 0) := by rw [cell_of_row _ _ _ _ _ _ HZ.out]; rfl
            have z6 : (wr.setRow w.heap.size #[.int .i64 0, .int .i64 0, .int .i64 0, .slice none 0 0, .int .i64 0, .int .i64 0, .slice none 0 0]).cell? ⟨w.heap.size, 6, none⟩ = some (.slice none 0 0) := by rw [cell_of_row _ _ _ _ _ _ HZ.out]; rfl
            refine bodyPost_ret (v := .tuple #[.agg #[.int .i64 0, .int .i64 0, .int .i64 0, .slice none 0 0, .int .i64 0, .int .i64 0, .slice none 0 0], .int .i64 80]) (by simp [results, Tryz.results18, go_sem, z0, z1, z2, z3, z4, z5, z6]) rfl ?_
            exact HNO.out _ (Below.setRow' HS.out.bel (Nat.le_refl _) _) (by first | rfl | trivial)
          | false =>
            obtain ⟨oA, oc, rfl⟩ := row_slice hO
            have HRD := Lib.hid (RdIs.grp HD1.out HD2.out HD3.out HD4.out (RdIs.many HD5.out (by rw [Int.toNat_natCast]; exact HM.out.done (.inr (Nat.sub_self _)))))
            have HDZ := Lib.hid (decZ_of HRD.out)
            have hoc := own_cap hO
            have hOS : OpsS wr (fun k => B ≤ k) oA (L.map Prod.fst) := ops_own (c := oc) (E := 80) (by rw [List.length_map]; exact hO) HP.out.good (fun k h => (HP.out.old k h).1)
            have HOL := Lib.hid (show (L.map Prod.fst).length = L.length by simp)
            have HTX := Lib.hid (show ∀ o ∈ L.map Prod.fst, o.text.size ≤ 1000000 ∧ o.name.size ≤ 1000000 from fun o ho => by obtain ⟨p, hp, rfl⟩ := List.mem_map.1 ho; exact ⟨(HP.out.good p hp).2.2, (HP.out.good p hp).2.1⟩)
            have hn1 : 0 ≤ n := HN.out.1
            have hn2 : n < 9223372036854775808 := HN.out.2
            have HI := Lib.hid (show GrIn wr (fun k => w.heap.size + 1 + 1 < k) ⟨⟨t1, r1⟩, n, (ns.map fun (m : Nat) => (m : Int)), ⟨ut, ur⟩, L.map Prod.fst⟩ dA dc oA oc from ⟨HV.out.sub (fun k _ h => h.1), hOS.sub (fun k _ h => by have h : B ≤ k := h; show w.heap.size + 1 + 1 < k; omega), by show (ns.map fun (m : Nat) => (m : Int)).length ≤ dc; rw [List.length_map]; exact HDC.out.1, by show (L.map Prod.fst).length ≤ oc; rw [HOL.out]; exact hoc.1, HDC.out.2, hoc.2, (show i63 n from ⟨by omega, by omega⟩), HDX.out⟩)
            clear hO hoc hOS HP HM hn1 hn2 HRD HV
            have b1 := HS.out.rdr.c1
            have b0 := HS.out.rdr.c0
            by_cases hse : s'.data.toList = []
            · obtain rfl : s' = ⟨#[]⟩ := bs_nil.1 hse
              have hck := refchk_any ⟨⟨t1, r1⟩, n, (ns.map fun (m : Nat) => (m : Int)), ⟨ut, ur⟩, L.map Prod.fst⟩ dA dc oA oc (fun k => w.heap.size + 1 + 1 < k) wr HI.out (fun _ o ho => (HTX.out o ho).1)
              have HDZ2 := Lib.hid (show r = if chkB ⟨⟨t1, r1⟩, n, (ns.map fun (m : Nat) => (m : Int)), ⟨ut, ur⟩, L.map Prod.fst⟩ = true then some ⟨⟨t1, r1⟩, n, (ns.map fun (m : Nat) => (m : Int)), ⟨ut, ur⟩, L.map Prod.fst⟩ else none by rw [HRR.out, HDZ.out]; simp)
              clear HDZ
              have a0 : wr.cell? ⟨w.heap.size + 1 + 1, 0, none⟩ = some (.int .i64 t1) := by rw [HS.out.cell]; rfl
              have a1 : wr.cell? ⟨w.heap.size + 1 + 1, 1, none⟩ = some (.int .i64 r1) := by rw [HS.out.cell]; rfl
              have a2 : wr.cell? ⟨w.heap.size + 1 + 1, 2, none⟩ = some (.int .i64 n) := by rw [HS.out.cell]; rfl
              have a3 : wr.cell? ⟨w.heap.size + 1 + 1, 3, none⟩ = some (.slice dA ns.length dc) := by rw [HS.out.cell]; rfl
              have a4 : wr.cell? ⟨w.heap.size + 1 + 1, 4, none⟩ = some (.int .i64 ut) := by rw [HS.out.cell]; rfl
              have a5 : wr.cell? ⟨w.heap.size + 1 + 1, 5, none⟩ = some (.int .i64 ur) := by rw [HS.out.cell]; rfl
              have a6 : wr.cell? ⟨w.heap.size + 1 + 1, 6, none⟩ = some (.slice oA L.length oc) := by rw [HS.out.cell]; rfl
              have HLL := Lib.hid (show grA ⟨⟨t1, r1⟩, n, (ns.map fun (m : Nat) => (m : Int)), ⟨ut, ur⟩, L.map Prod.fst⟩ dA dc oA oc = #[.int .i64 t1, .int .i64 r1, .int .i64 n, .slice dA ns.length dc, .int .i64 ut, .int .i64 ur, .slice oA L.length oc] by show grA ⟨⟨t1, r1⟩, n, (ns.map fun (m : Nat) => (m : Int)), ⟨ut, ur⟩, L.map Prod.fst⟩ dA dc oA oc = _; unfold grA; rw [HOL.out, List.length_map])
              rw [HLL.out] at hck
              cases hcb : chkB ⟨⟨t1, r1⟩, n, (ns.map fun (m : Nat) => (m : Int)), ⟨ut, ur⟩, L.map Prod.fst⟩ with
              | false =>
                rw [hcb] at hck
                obtain rfl : r = none := by rw [HDZ2.out, hcb]; rfl
                have HCK : Hid (Calls Tryz.prog 49 #[.agg #[.int .i64 t1, .int .i64 r1, .int .i64 n, .slice dA ns.length dc, .int .i64 ut, .int .i64 ur, .slice oA L.length oc]] wr fun e w' => e = .returned (.int .i64 80) ∧ Below wr.heap.size wr w') := hck
                clear hck hcb
                go_upto_region 17 with (first
                  | (refine load_at rfl _ _ rfl (w.heap.size + 1 + 1) _ _ _ rfl HS.out.obj Tryz.underlying40 rfl ?_ ?_; kernel_rfl)
                  | (go_at_call 49; refine HCK.out.mono ?_; rintro e w6 ⟨rfl, hB6⟩))
                have HS6 := Lib.hid ((hB6.block w.heap.size (lt_of_block HS.out.res)).trans HS.out.res)
                have HB6 := Lib.hid (HS.out.bel.trans (hB6.mono HS.out.bel.size))
                clear hB6
                go_wp2_with (first | (refine store_at rfl _ _ _ rfl w.heap.size _ _ #[.int .i64 0, .int .i64 0, .int .i64 0, .slice none 0 0, .int .i64 0, .int .i64 0, .slice none 0 0] rfl rfl HS6.out ?_ ?_ ?_ ?_; kernel_rfl; rfl; rfl))
                have HZ := Lib.hid (heap_setRow_same #[.int .i64 0, .int .i64 0, .int .i64 0, .slice none 0 0, .int .i64 0, .int .i64 0, .slice none 0 0] HS6.out)
                have z0 : (w6.setRow w.heap.size #[.int .i64 0, .int .i64 0, .int .i64 0, .slice none 0 0, .int .i64 0, .int .i64 0, .slice none 0 0]).cell? ⟨w.heap.size, 0, none⟩ = some (.int .i64 0) := by rw [cell_of_row _ _ _ _ _ _ HZ.out]; rfl
                have z1 : (w6.setRow w.heap.size #[.int .i64 0, .int .i64 0, .int .i64 0, .slice none 0 0, .int .i64 0, .int .i64 0, .slice none 0 0]).cell? ⟨w.heap.size, 1, none⟩ = some (.int .i64 0) := by rw [cell_of_row _ _ _ _ _ _ HZ.out]; rfl
                have z2 : (w6.setRow w.heap.size #[.int .i64 0, .int .i64 0, .int .i64 0, .slice none 0 0, .int .i64 0, .int .i64 0, .slice none 0 0]).cell? ⟨w.heap.size, 2, none⟩ = some (.int .i64 0) := by rw [cell_of_row _ _ _ _ _ _ HZ.out]; rfl
                have z3 : (w6.setRow w.heap.size #[.int .i64 0, .int .i64 0, .int .i64 0, .slice none 0 0, .int .i64 0, .int .i64 0, .slice none 0 0]).cell? ⟨w.heap.size, 3, none⟩ = some (.slice none 0 0) := by rw [cell_of_row _ _ _ _ _ _ HZ.out]; rfl
                have z4 : (w6.setRow w.heap.size #[.int .i64 0, .int .i64 0, .int .i64 0, .slice none 0 0, .int .i64 0, .int .i64 0, .slice none 0 0]).cell? ⟨w.heap.size, 4, none⟩ = some (.int .i64 0) := by rw [cell_of_row _ _ _ _ _ _ HZ.out]; rfl
                have z5 : (w6.setRow w.heap.size #[.int .i64 0, .int .i64 0, .int .i64 0, .slice none 0 0, .int .i64 0, .int .i64 0, .slice none 0 0]).cell? ⟨w.heap.size, 5, none⟩ = some (.int .i64 0) := by rw [cell_of_row _ _ _ _ _ _ HZ.out]; rfl
                have z6 : (w6.setRow w.heap.size #[.int .i64 0, .int .i64 0, .int .i64 0, .slice none 0 0, .int .i64 0, .int .i64 0, .slice none 0 0]).cell? ⟨w.heap.size, 6, none⟩ = some (.slice none 0 0) := by rw [cell_of_row _ _ _ _ _ _ HZ.out]; rfl
                refine bodyPost_ret (v := .tuple #[.agg #[.int .i64 0, .int .i64 0, .int .i64 0, .slice none 0 0, .int .i64 0, .int .i64 0, .slice none 0 0], .int .i64 80]) (by simp [results, Tryz.results18, go_sem, z0, z1, z2, z3, z4, z5, z6]) rfl ?_
                exact HNO.out _ (Below.setRow' HB6.out (Nat.le_refl _) _) (by first | rfl | trivial)
              | true =>
                rw [hcb] at hck
                obtain rfl : r = some ⟨⟨t1, r1⟩, n, (ns.map fun (m : Nat) => (m : Int)), ⟨ut, ur⟩, L.map Prod.fst⟩ := by rw [HDZ2.out, hcb]; rfl
                have HCK : Hid (Calls Tryz.prog 49 #[.agg #[.int .i64 t1, .int .i64 r1, .int .i64 n, .slice dA ns.length dc, .int .i64 ut, .int .i64 ur, .slice oA L.length oc]] wr fun e w' => e = .returned (.int .i64 0) ∧ Below wr.heap.size wr w') := hck
                clear hck hcb
                go_upto_region 18 with (first
                  | (refine load_at rfl _ _ rfl (w.heap.size + 1 + 1) _ _ _ rfl HS.out.obj Tryz.underlying40 rfl ?_ ?_; kernel_rfl)
                  | (go_at_call 49; refine HCK.out.mono ?_; rintro e w6 ⟨rfl, hB6⟩))
                have HS6 := Lib.hid ((hB6.block w.heap.size (lt_of_block HS.out.res)).trans HS.out.res)
                have HO6 := Lib.hid ((hB6.block (w.heap.size + 1 + 1) (lt_of_block HS.out.obj)).trans HS.out.obj)
                have HI6 := Lib.hid (HI.out.agr (Agr.below hB6))
                have HB6 := Lib.hid (HS.out.bel.trans (hB6.mono HS.out.bel.size))
                clear hB6
                go_wp2_with (first
                  | (refine load_at rfl _ _ rfl (w.heap.size + 1 + 1) _ _ _ rfl HO6.out Tryz.underlying40 rfl ?_ ?_; kernel_rfl)
                  | (refine store_at rfl _ _ _ rfl w.heap.size _ _ #[.int .i64 t1, .int .i64 r1, .int .i64 n, .slice dA ns.length dc, .int .i64 ut, .int .i64 ur, .slice oA L.length oc] rfl rfl HS6.out ?_ ?_ ?_ ?_; kernel_rfl; rfl; rfl))
                have HZ := Lib.hid (heap_setRow_same #[.int .i64 t1, .int .i64 r1, .int .i64 n, .slice dA ns.length dc, .int .i64 ut, .int .i64 ur, .slice oA L.length oc] HS6.out)
                have z0 : (w6.setRow w.heap.size #[.int .i64 t1, .int .i64 r1, .int .i64 n, .slice dA ns.length dc, .int .i64 ut, .int .i64 ur, .slice oA L.length oc]).cell? ⟨w.heap.size, 0, none⟩ = some (.int .i64 t1) := by rw [cell_of_row _ _ _ _ _ _ HZ.out]; rfl
                have z1 : (w6.setRow w.heap.size #[.int .i64 t1, .int .i64 r1, .int .i64 n, .slice dA ns.length dc, .int .i64 ut, .int .i64 ur, .slice oA L.length oc]).cell? ⟨w.heap.size, 1, none⟩ = some (.int .i64 r1) := by rw [cell_of_row _ _ _ _ _ _ HZ.out]; rfl
                have z2 : (w6.setRow w.heap.size #[.int .i64 t1, .int .i64 r1, .int .i64 n, .slice dA ns.length dc, .int .i64 ut, .int .i64 ur, .slice oA L.length oc]).cell? ⟨w.heap.size, 2, none⟩ = some (.int .i64 n) := by rw [cell_of_row _ _ _ _ _ _ HZ.out]; rfl
                have z3 : (w6.setRow w.heap.size #[.int .i64 t1, .int .i64 r1, .int .i64 n, .slice dA ns.length dc, .int .i64 ut, .int .i64 ur, .slice oA L.length oc]).cell? ⟨w.heap.size, 3, none⟩ = some (.slice dA ns.length dc) := by rw [cell_of_row _ _ _ _ _ _ HZ.out]; rfl
                have z4 : (w6.setRow w.heap.size #[.int .i64 t1, .int .i64 r1, .int .i64 n, .slice dA ns.length dc, .int .i64 ut, .int .i64 ur, .slice oA L.length oc]).cell? ⟨w.heap.size, 4, none⟩ = some (.int .i64 ut) := by rw [cell_of_row _ _ _ _ _ _ HZ.out]; rfl
                have z5 : (w6.setRow w.heap.size #[.int .i64 t1, .int .i64 r1, .int .i64 n, .slice dA ns.length dc, .int .i64 ut, .int .i64 ur, .slice oA L.length oc]).cell? ⟨w.heap.size, 5, none⟩ = some (.int .i64 ur) := by rw [cell_of_row _ _ _ _ _ _ HZ.out]; rfl
                have z6 : (w6.setRow w.heap.size #[.int .i64 t1, .int .i64 r1, .int .i64 n, .slice dA ns.length dc, .int .i64 ut, .int .i64 ur, .slice oA L.length oc]).cell? ⟨w.heap.size, 6, none⟩ = some (.slice oA L.length oc) := by rw [cell_of_row _ _ _ _ _ _ HZ.out]; rfl
                refine bodyPost_ret (v := .tuple #[.agg #[.int .i64 t1, .int .i64 r1, .int .i64 n, .slice dA ns.length dc, .int .i64 ut, .int .i64 ur, .slice oA L.length oc], .int .i64 0]) (by simp [results, Tryz.results18, go_sem, z0, z1, z2, z3, z4, z5, z6]) rfl ?_
                refine ⟨Below.setRow' HB6.out (Nat.le_refl _) _, dA, dc, oA, oc, by rw [HLL.out], (HI6.out.agr (Agr.setRow _ w.heap.size _ (by show ¬ w.heap.size + 1 + 1 < w.heap.size; omega))).sub (fun k _ h => by have h : w.heap.size + 1 + 1 < k := h; omega), HTX.out⟩
            · obtain rfl : r = none := by rw [HRR.out, HDZ.out]; simp [hse]
              have q1 : ¬ s'.toList = [] := by rw [str_nil]; exact hse
              have q2 : s'.toList.isEmpty = false := by rw [List.isEmpty_eq_false_iff]; exact q1
              clear hse
              go_wp2_with (first | (refine store_at rfl _ _ _ rfl w.heap.size _ _ #[.int .i64 0, .int .i64 0, .int .i64 0, .slice none 0 0, .int .i64 0, .int .i64 0, .slice none 0 0] rfl rfl HS.out.res ?_ ?_ ?_ ?_; kernel_rfl; rfl; rfl))
              have HZ := Lib.hid (heap_setRow_same #[.int .i64 0, .int .i64 0, .int .i64 0, .slice none 0 0, .int .i64 0, .int .i64 0, .slice none 0 0] HS.out.res)
              have z0 : (wr.setRow w.heap.size #[.int .i64 0, .int .i64 0, .int .i64 0, .slice none 0 0, .int .i64 0, .int .i64 0, .slice none 0 0]).cell? ⟨w.heap.size, 0, none⟩ = some (.int .i64 0) := by rw [cell_of_row _ _ _ _ _ _ HZ.out]; rfl
              have z1 : (wr.setRow w.heap.size #[.int .i64 0, .int .i64 0, .int .i64 0, .slice none 0 0, .int .i64 0, .int .i64 0, .slice none 0 0]).cell? ⟨w.heap.size, 1, none⟩ = some (.int .i64 0) := by rw [cell_of_row _ _ _ _ _ _ HZ.out]; rfl
              have z2 : (wr.setRow w.heap.size #[.int .i64 0, .int .i64 0, .int .i64 0, .slice none 0 0, .int .i64 0, .int .i64 0, .slice none 0 0]).cell? ⟨w.heap.size, 2, none⟩ = some (.int .i64 0) := by rw [cell_of_row _ _ _ _ _ _ HZ.out]; rfl
              have z3 : (wr.setRow w.heap.size #[.int .i64 0, .int .i64 0, .int .i64 0, .slice none 0 0, .int .i64 0, .int .i64 0, .slice none 0 0]).cell? ⟨w.heap.size, 3, none⟩ = some (.slice none 0 0) := by rw [cell_of_row _ _ _ _ _ _ HZ.out]; rfl
              have z4 : (wr.setRow w.heap.size #[.int .i64 0, .int .i64 0, .int .i64 0, .slice none 0 0, .int .i64 0, .int .i64 0, .slice none 0 0]).cell? ⟨w.heap.size, 4, none⟩ = some (.int .i64 0) := by rw [cell_of_row _ _ _ _ _ _ HZ.out]; rfl
              have z5 : (wr.setRow w.heap.size #[.int .i64 0, .int .i64 0, .int .i64 0, .slice none 0 0, .int .i64 0, .int .i64 0, .slice none 0 0]).cell? ⟨w.heap.size, 5, none⟩ = some (.int .i64 0) := by rw [cell_of_row _ _ _ _ _ _ HZ.out]; rfl
              have z6 : (wr.setRow w.heap.size #[.int .i64 0, .int .i64 0, .int .i64 0, .slice none 0 0, .int .i64 0, .int .i64 0, .slice none 0 0]).cell? ⟨w.heap.size, 6, none⟩ = some (.slice none 0 0) := by rw [cell_of_row _ _ _ _ _ _ HZ.out]; rfl
              refine bodyPost_ret (v := .tuple #[.agg #[.int .i64 0, .int .i64 0, .int .i64 0, .slice none 0 0, .int .i64 0, .int .i64 0, .slice none 0 0], .int .i64 80]) (by simp [results, Tryz.results18, go_sem, z0, z1, z2, z3, z4, z5, z6]) rfl ?_
              exact HNO.out _ (Below.setRow' HS.out.bel (Nat.le_refl _) _) (by first | rfl | trivial)
end Go.Proofs.YteedajnikfhpjaaGreatDoor
