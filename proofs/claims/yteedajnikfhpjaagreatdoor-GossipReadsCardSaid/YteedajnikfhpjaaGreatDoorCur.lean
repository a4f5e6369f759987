/- How the reference's cursor takes numbers, texts, stamps and ids. Conditions: lengths in reach. -/
import Derived.Test.YteedajnikfhpjaaGreatDoorRB
namespace Go.Proofs.YteedajnikfhpjaaGreatDoor
open Go.RowKit Go.Lib Go.Sort
set_option linter.unusedVariables false
/-- the cursor in block b: what is left, and whether something went wrong -/
def Cur (w : World) (b : Nat) (s : ByteArray) (bad : Bool) : Prop := w.heap[b]? = some (.cells #[.string s, .bool bad] 85 (0, 0))
section
variable {w w' : World} {b : Nat} {s : ByteArray} {bad : Bool}
theorem Cur.c0 (h : Cur w b s bad) : w.cell? ⟨b, 0, none⟩ = some (.string s) := by rw [cell_of_row _ _ _ _ _ _ h]; rfl
theorem Cur.c1 (h : Cur w b s bad) : w.cell? ⟨b, 1, none⟩ = some (.bool bad) := by rw [cell_of_row _ _ _ _ _ _ h]; rfl
theorem Cur.f (h : Cur w b s bad) (j : Nat) : w.frozen? ⟨b, j, none⟩ = false := frozen_of_row _ _ _ _ _ h
theorem Cur.lt (h : Cur w b s bad) : b < w.heap.size := lt_of_cell h.c0
theorem Cur.set0 (h : Cur w b s bad) (s' : ByteArray) : Cur (w.setCell ⟨b, 0, none⟩ (.string s')) b s' bad := by
  unfold Cur at h ⊢
  simp [World.setCell, Array.getElem?_modify, h]
theorem Cur.set1 (h : Cur w b s bad) (bad' : Bool) : Cur (w.setCell ⟨b, 1, none⟩ (.bool bad')) b s bad' := by
  unfold Cur at h ⊢
  simp [World.setCell, Array.getElem?_modify, h]
theorem Cur.kept {r : Option Nat} (h : Cur w b s bad) (hg : w.grownBy w' r) (hr : r ≠ some b) : Cur w' b s bad := (hg.block b h.lt (fun e => hr e.symm)).trans h
theorem Cur.keptN (h : Cur w b s bad) (k : Nat) : Cur (w.drewN k) b s bad := h
end
/-- what a cursor's method answers -/
def CuQ {α : Type} (p : Rd α) (P : α → World → Value → Prop) (b : Nat) (s : ByteArray) (bad : Bool) (w : World) (e : Ending) (w' : World) : Prop :=
  ∃ (x : α) (v : Value) (s' : ByteArray) (bad' : Bool), e = .returned v ∧ P x w' v ∧ Cur w' b s' bad' ∧ w.grownBy w' (some b) ∧ RdIs p s.data.toList bad x s'.data.toList bad'
theorem RdIs.lost {α : Type} {p : Rd α} {l l' : List UInt8} {b : Bool} {x : α} (h : RdIs p l b x l' true) (y : α) : RdIs p l b y (⟨#[]⟩ : ByteArray).data.toList true := by
  refine ⟨fun _ => rfl, fun e => ?_, Nat.zero_le _⟩
  rcases h.step e with ⟨h1, _⟩ | h1
  · cases h1
  · exact .inr h1
set_option maxRecDepth 100000 in
set_option maxHeartbeats 2000000 in
theorem cnat_any (b : Nat) (s : ByteArray) (bad : Bool) (w : World) (hs : s.size ≤ 1000000) (hR : Cur w b s bad) :
    Calls Tryz.prog 46 #[.pointer (some ⟨b, 0, none⟩)] w (CuQ intR PInt b s bad w) := by
  obtain ⟨n, R, c, hT⟩ : ∃ n R c, TkIs s.data.toList n R c := ⟨_, _, _, rfl, rfl, rfl⟩
  have HT := Lib.hid (reftake_is s (by unfold maxLen; omega) n R c hT)
  have c0 := hR.c0
  have c1 := hR.c1
  have f0 := hR.f 0
  have f1 := hR.f 1
  by_cases hc : c = 0
  · subst hc
    have hfin : ∀ k, CuQ intR PInt b s bad w (.returned (.int .i64 n)) ((w.drewN k).setCell ⟨b, 0, none⟩ (.string R)) := fun k =>
      ⟨n, _, R, bad, rfl, ⟨rfl, by omega, by have := hT.lt; omega⟩, (hR.keptN k).set0 R, gby_trans (gby_drewN gby_refl k) (gby_set _ _ _), by have := RdIs.take hT bad; simpa using this⟩
    have HF := Lib.hid hfin
    clear hfin hT hR
    go_enter Tryz.func46, Tryz.ntmps46
    go_wp2_with fail
    refine (HT.out _).mono ?_
    rintro e w1 ⟨rfl, k, rfl⟩
    go_wp2
    go_ret
    exact HF.out k
  · have t1 : ((c : Int) != 0) = true := by rw [bne_iff_ne]; omega
    have hfin : ∀ k, CuQ intR PInt b s bad w (.returned (.int .i64 0)) (((w.drewN k).setCell ⟨b, 1, none⟩ (.bool true)).setCell ⟨b, 0, none⟩ (.string ⟨#[]⟩)) := fun k =>
      ⟨0, _, _, true, rfl, ⟨rfl, by decide, by decide⟩, ((hR.keptN k).set1 true).set0 _, gby_trans (gby_trans (gby_drewN gby_refl k) (gby_set _ _ _)) (gby_set _ _ _), RdIs.lost (x := (n : Int)) (l' := R.data.toList) (by have := RdIs.take hT bad; simpa [hc] using this) 0⟩
    have HF := Lib.hid hfin
    clear hfin hT hR
    go_enter Tryz.func46, Tryz.ntmps46
    go_wp2_with fail
    refine (HT.out _).mono ?_
    rintro e w1 ⟨rfl, k, rfl⟩
    go_wp2
    go_ret
    exact HF.out k
set_option maxRecDepth 100000 in
set_option maxHeartbeats 2000000 in
theorem cbytes_any (b : Nat) (s : ByteArray) (bad : Bool) (w : World) (hs : s.size ≤ 1000000) (hR : Cur w b s bad) :
    Calls Tryz.prog 89 #[.pointer (some ⟨b, 0, none⟩)] w (CuQ bytesR PStr b s bad w) := by
  obtain ⟨n, R, c, hT⟩ : ∃ n R c, TkIs s.data.toList n R c := ⟨_, _, _, rfl, rfl, rfl⟩
  obtain ⟨hd, hx⟩ := RdIs.takeb hT hs bad
  have HC := reftakebytes_any s (by unfold maxLen; omega) n R c hT
  generalize tbT n R c = X at *
  generalize tbR n R c = Y at *
  generalize tbE n R c = z at *
  have HT := Lib.hid HC
  have c0 := hR.c0
  have c1 := hR.c1
  have f0 := hR.f 0
  have f1 := hR.f 1
  by_cases hc : z = 0
  · subst hc
    have hfin : ∀ k, CuQ bytesR PStr b s bad w (.returned (.string X)) ((w.drewN k).setCell ⟨b, 0, none⟩ (.string Y)) := fun k =>
      ⟨X, _, Y, bad, rfl, ⟨rfl, hx⟩, (hR.keptN k).set0 Y, gby_trans (gby_drewN gby_refl k) (gby_set _ _ _), by simpa using hd⟩
    have HF := Lib.hid hfin
    clear hfin HC hR hd hx hT
    go_enter Tryz.func89, Tryz.ntmps89
    go_wp2_with fail
    refine (HT.out _).mono ?_
    rintro e w1 ⟨rfl, k, rfl⟩
    go_wp2
    go_ret
    exact HF.out k
  · have t1 : ((z : Int) != 0) = true := by rw [bne_iff_ne]; omega
    have hfin : ∀ k, CuQ bytesR PStr b s bad w (.returned (.string ⟨#[]⟩)) (((w.drewN k).setCell ⟨b, 1, none⟩ (.bool true)).setCell ⟨b, 0, none⟩ (.string ⟨#[]⟩)) := fun k =>
      ⟨⟨#[]⟩, _, _, true, rfl, ⟨rfl, by decide⟩, ((hR.keptN k).set1 true).set0 _, gby_trans (gby_trans (gby_drewN gby_refl k) (gby_set _ _ _)) (gby_set _ _ _), RdIs.lost (x := X) (l' := Y.data.toList) (by simpa [hc] using hd) _⟩
    have HF := Lib.hid hfin
    clear hfin HC hR hd hx hT
    go_enter Tryz.func89, Tryz.ntmps89
    go_wp2_with fail
    refine (HT.out _).mono ?_
    rintro e w1 ⟨rfl, k, rfl⟩
    go_wp2
    go_ret
    exact HF.out k
theorem cu_size {s s' : ByteArray} {α : Type} {p : Rd α} {b b' : Bool} {x : α} (h : RdIs p s.data.toList b x s'.data.toList b') (hs : s.size ≤ 1000000) : s'.size ≤ 1000000 := rd_size h hs
set_option maxRecDepth 100000 in
set_option maxHeartbeats 2000000 in
theorem cstamp_any (b : Nat) (s : ByteArray) (bad : Bool) (w : World) (hs : s.size ≤ 1000000) (hR : Cur w b s bad) :
    Calls Tryz.prog 45 #[.pointer (some ⟨b, 0, none⟩)] w (CuQ stR PSt b s bad w) := by
  have hlt := hR.lt
  have hA0 := heap_alloc_new w (.cells #[.int .i64 0, .int .i64 0] 37)
  have HR0 := Lib.hid (hR.kept (World.grownBy_alloc w (.cells #[.int .i64 0, .int .i64 0] 37) none) (by simp))
  have HA0 := Lib.hid hA0
  have HR := Lib.hid hR
  clear hA0 hR
  go_enter Tryz.func45, Tryz.ntmps45
  go_wp2_with fail
  refine (cnat_any b s bad _ hs HR0.out).mono ?_
  rintro e w1 ⟨t, v, s1, bad1, rfl, ⟨rfl, ht⟩, hR1, hg1, hd1⟩
  have HT := Lib.hid (cnat_any b s1 bad1 w1 (rd_size hd1 hs) hR1)
  have HD1 := Lib.hid hd1
  have HG1 := Lib.hid hg1
  have HO1 := Lib.hid ht
  clear hR1 hg1 hd1 ht
  go_wp2_with fail
  refine HT.out.mono ?_
  rintro e w2 ⟨r, v, s2, bad2, rfl, ⟨rfl, hr⟩, hR2, hg2, hd2⟩
  have hg := gby_trans HG1.out hg2
  have hA2 := (hg.block w.heap.size (by simp) (by intro e; cases e; omega)).trans HA0.out
  have c0 : w2.cell? ⟨w.heap.size, 0, none⟩ = some (.int .i64 0) := by rw [cell_of_row _ _ _ _ _ _ hA2]; rfl
  have c1 : w2.cell? ⟨w.heap.size, 1, none⟩ = some (.int .i64 0) := by rw [cell_of_row _ _ _ _ _ _ hA2]; rfl
  have f0 : w2.frozen? ⟨w.heap.size, 0, none⟩ = false := frozen_of_row _ _ _ _ _ hA2
  have f1 : w2.frozen? ⟨w.heap.size, 1, none⟩ = false := frozen_of_row _ _ _ _ _ hA2
  have HR2 := Lib.hid hR2
  have HG := Lib.hid hg
  have HD2 := Lib.hid hd2
  clear hg hg2 hA2 hR2 hd2
  go_wp2
  refine bodyPost_ret (v := .agg #[.int .i64 t, .int .i64 r]) (by simp [results, Tryz.results45, go_sem, c0, c1]) rfl ?_
  refine ⟨⟨t, r⟩, _, s2, bad2, rfl, rfl, ?_, gby_setNew (gby_setNew (gby_trans (World.grownBy_alloc _ _ _) HG.out) _ _ _ (Nat.le_refl _)) _ _ _ (Nat.le_refl _), RdIs.st HD1.out HD2.out⟩
  exact (HR2.out.kept (gby_set _ _ _) (by intro e; cases e; omega)).kept (gby_set _ _ _) (by intro e; cases e; omega)
set_option maxRecDepth 100000 in
set_option maxHeartbeats 2000000 in
theorem cid_any (b : Nat) (s : ByteArray) (bad : Bool) (w : World) (hs : s.size ≤ 1000000) (hR : Cur w b s bad) :
    Calls Tryz.prog 88 #[.pointer (some ⟨b, 0, none⟩)] w (CuQ idR PId b s bad w) := by
  have hlt := hR.lt
  have HR0 := Lib.hid (hR.kept (World.grownBy_alloc w (.cells #[.int .i64 0, .int .i64 0, .int .i64 0] 76) none) (by simp))
  have HA0 := Lib.hid (heap_alloc_new w (.cells #[.int .i64 0, .int .i64 0, .int .i64 0] 76))
  have HG0 := Lib.hid (World.grownBy_alloc w (.cells #[.int .i64 0, .int .i64 0, .int .i64 0] 76) (some b))
  clear hR
  go_enter Tryz.func88, Tryz.ntmps88
  go_wp2_with fail
  refine (cstamp_any b s bad _ hs HR0.out).mono ?_
  rintro e w1 ⟨⟨t, r⟩, v, s1, bad1, rfl, hv, hR1, hg1, hd1⟩
  obtain rfl : v = .agg #[.int .i64 t, .int .i64 r] := hv
  have hs1 := rd_size hd1 hs
  have HD1 := Lib.hid hd1
  have HG1 := Lib.hid (gby_trans HG0.out hg1)
  have HA1 := Lib.hid ((hg1.block w.heap.size (by simp) (by intro e; cases e; omega)).trans HA0.out)
  have hlt1 : w.heap.size < w1.heap.size := by have := hg1.size; simp at this; omega
  have HR1 := Lib.hid hR1
  clear hd1 hg1 hR1
  go_upto_region 2 with (fail)
  generalize hW : w1.alloc (.cells #[.int .i64 t, .int .i64 r] 37) = W
  have HC := Lib.hid (show W.heap[w1.heap.size]? = some (.cells #[.int .i64 t, .int .i64 r] 37 (0, 0)) by subst hW; exact heap_alloc_new _ _)
  have HA := Lib.hid (show W.heap[w.heap.size]? = some (.cells #[.int .i64 0, .int .i64 0, .int .i64 0] 76 (0, 0)) by subst hW; exact (Below.heap_alloc _ _ _ hlt1).trans HA1.out)
  have HR := Lib.hid (show Cur W b s1 bad1 by subst hW; exact HR1.out.kept (World.grownBy_alloc w1 _ none) (by simp))
  have HG := Lib.hid (show w.grownBy W (some b) by subst hW; exact gby_alloc HG1.out _)
  have hWs : w1.heap.size < W.heap.size := by subst hW; simp
  clear hW
  have c0 : W.cell? ⟨w1.heap.size, 0, none⟩ = some (.int .i64 t) := by rw [cell_of_row _ _ _ _ _ _ HC.out]; rfl
  have c1 : W.cell? ⟨w1.heap.size, 1, none⟩ = some (.int .i64 r) := by rw [cell_of_row _ _ _ _ _ _ HC.out]; rfl
  go_wp2_with fail
  refine (cnat_any b s1 bad1 W hs1 HR.out).mono ?_
  rintro e w2 ⟨i, v, s2, bad2, rfl, ⟨rfl, hi⟩, hR2, hg2, hd2⟩
  have HC2 := Lib.hid ((hg2.block w1.heap.size hWs (by intro e; cases e; omega)).trans HC.out)
  have HA2 := Lib.hid ((hg2.block w.heap.size (Nat.lt_trans hlt1 hWs) (by intro e; cases e; omega)).trans HA.out)
  have HR2 := Lib.hid hR2
  have HD2 := Lib.hid hd2
  have HG2 := Lib.hid (gby_trans HG.out hg2)
  clear hR2 hd2 hg2
  have d0 : w2.cell? ⟨w1.heap.size, 0, none⟩ = some (.int .i64 t) := by rw [cell_of_row _ _ _ _ _ _ HC2.out]; rfl
  have d1 : w2.cell? ⟨w1.heap.size, 1, none⟩ = some (.int .i64 r) := by rw [cell_of_row _ _ _ _ _ _ HC2.out]; rfl
  have a0 : w2.cell? ⟨w.heap.size, 0, none⟩ = some (.int .i64 0) := by rw [cell_of_row _ _ _ _ _ _ HA2.out]; rfl
  have a1 : w2.cell? ⟨w.heap.size, 1, none⟩ = some (.int .i64 0) := by rw [cell_of_row _ _ _ _ _ _ HA2.out]; rfl
  have a2 : w2.cell? ⟨w.heap.size, 2, none⟩ = some (.int .i64 0) := by rw [cell_of_row _ _ _ _ _ _ HA2.out]; rfl
  have f0 : w2.frozen? ⟨w.heap.size, 0, none⟩ = false := frozen_of_row _ _ _ _ _ HA2.out
  have f1 : w2.frozen? ⟨w.heap.size, 1, none⟩ = false := frozen_of_row _ _ _ _ _ HA2.out
  have f2 : w2.frozen? ⟨w.heap.size, 2, none⟩ = false := frozen_of_row _ _ _ _ _ HA2.out
  go_wp2
  refine bodyPost_ret (v := .agg #[.int .i64 t, .int .i64 r, .int .i64 i]) (by simp [results, Tryz.results88, go_sem, a0, a1, a2]) rfl ?_
  refine ⟨⟨⟨t, r⟩, i⟩, _, s2, bad2, rfl, rfl, ?_, gby_setNew (gby_setNew (gby_setNew HG2.out _ _ _ (Nat.le_refl _)) _ _ _ (Nat.le_refl _)) _ _ _ (Nat.le_refl _), RdIs.id HD1.out HD2.out⟩
  exact ((HR2.out.kept (gby_set _ _ _) (by intro e; cases e; omega)).kept (gby_set _ _ _) (by intro e; cases e; omega)).kept (gby_set _ _ _) (by intro e; cases e; omega)
end Go.Proofs.YteedajnikfhpjaaGreatDoor
