/- How wire's reader takes numbers, texts, stamps and ids. Conditions: lengths in reach. | How wire's reader takes many numbers, stamps, ids. Conditions: lengths in reach. -/
import Derived.Test.YtalgbcgiiphoaaaGreatDoorVA
import Derived.Test.YtalgbcgiiphoaaaGreatDoorPA
import Derived.Test.YtalgbcgiiphoaaaGreatDoorSA
section
namespace Go.Proofs.YtalgbcgiiphoaaaGreatDoor
open Go.RowKit Go.Lib Go.Sort
set_option linter.unusedVariables false
section
variable {w w1 w2 : World} {r : Option Nat}
theorem gby_refl : w.grownBy w r := ⟨rfl, rfl, rfl, Nat.le_refl _, fun _ _ _ => rfl⟩
theorem gby_trans (h : w.grownBy w1 r) (k : w1.grownBy w2 r) : w.grownBy w2 r :=
  ⟨k.os.trans h.os, k.tape.trans h.tape, k.output.trans h.output, Nat.le_trans h.size k.size, fun i hi hr => (k.block i (Nat.lt_of_lt_of_le hi h.size) hr).trans (h.block i hi hr)⟩
theorem gby_below (h : Below w.heap.size w w1) : w.grownBy w1 r := ⟨h.os, h.tape, h.output, h.size, fun i hi _ => h.block i hi⟩
/-- writes to a block that is new change nothing that was -/
theorem gby_new {q : Option Nat} (h : w.grownBy w1 r) (k : w1.grownBy w2 q) (hq : ∀ g, q = some g → w.heap.size ≤ g) : w.grownBy w2 r :=
  ⟨k.os.trans h.os, k.tape.trans h.tape, k.output.trans h.output, Nat.le_trans h.size k.size, fun i hi hr => (k.block i (Nat.lt_of_lt_of_le hi h.size) (fun e => by have := hq i e.symm; omega)).trans (h.block i hi hr)⟩
theorem gby_set (b o : Nat) (v : Value) : w.grownBy (w.setCell ⟨b, o, none⟩ v) (some b) :=
  ⟨rfl, rfl, rfl, by simp [World.setCell], fun i hi hr => Below.heap_setCell _ _ _ _ (fun e => hr (by rw [e]))⟩
theorem gby_setNew (h : w.grownBy w1 r) (b o : Nat) (v : Value) (hb : w.heap.size ≤ b) : w.grownBy (w1.setCell ⟨b, o, none⟩ v) r :=
  gby_new h (gby_set b o v) (fun g e => by cases e; exact hb)
theorem gby_alloc (h : w.grownBy w1 r) (o : Obj) : w.grownBy (w1.alloc o) r := gby_trans h (World.grownBy_alloc w1 o r)
theorem gby_row (h : w.grownBy w1 r) (b : Nat) (c : Array Value) (hb : w.heap.size ≤ b) : w.grownBy (w1.setRow b c) r := by
  have hB : Below b w1 (w1.setRow b c) := Below.setRow' (Below.refl b w1) (Nat.le_refl b) c
  exact ⟨hB.os.trans h.os, hB.tape.trans h.tape, hB.output.trans h.output, Nat.le_trans h.size hB.size, fun i hi hr => (hB.block i (by omega)).trans (h.block i hi hr)⟩
theorem gby_drewN (h : w.grownBy w1 r) (k : Nat) : w.grownBy (w1.drewN k) r := ⟨h.os, h.tape, h.output, h.size, h.block⟩
end
/-- the reader in block b: what is left, and whether something went wrong -/
def Rdr (w : World) (b : Nat) (s : ByteArray) (bad : Bool) : Prop := w.heap[b]? = some (.cells #[.string s, .bool bad] 83 (0, 0))
section
variable {w w' : World} {b : Nat} {s : ByteArray} {bad : Bool}
theorem Rdr.c0 (h : Rdr w b s bad) : w.cell? ⟨b, 0, none⟩ = some (.string s) := by rw [cell_of_row _ _ _ _ _ _ h]; rfl
theorem Rdr.c1 (h : Rdr w b s bad) : w.cell? ⟨b, 1, none⟩ = some (.bool bad) := by rw [cell_of_row _ _ _ _ _ _ h]; rfl
theorem Rdr.f (h : Rdr w b s bad) (j : Nat) : w.frozen? ⟨b, j, none⟩ = false := frozen_of_row _ _ _ _ _ h
theorem Rdr.lt (h : Rdr w b s bad) : b < w.heap.size := lt_of_cell h.c0
theorem Rdr.set (h : Rdr w b s bad) (s' : ByteArray) (bad' : Bool) : Rdr ((w.setCell ⟨b, 0, none⟩ (.string s')).setCell ⟨b, 1, none⟩ (.bool bad')) b s' bad' := by
  unfold Rdr at h ⊢
  simp [World.setCell, Array.getElem?_modify, h]
theorem Rdr.set1 (h : Rdr w b s bad) (bad' : Bool) : Rdr (w.setCell ⟨b, 1, none⟩ (.bool bad')) b s bad' := by
  unfold Rdr at h ⊢
  simp [World.setCell, Array.getElem?_modify, h]
theorem Rdr.kept {r : Option Nat} (h : Rdr w b s bad) (hg : w.grownBy w' r) (hr : r ≠ some b) : Rdr w' b s bad := (hg.block b h.lt (fun e => hr e.symm)).trans h
theorem Rdr.keptN (h : Rdr w b s bad) (k : Nat) : Rdr (w.drewN k) b s bad := h
end
/-- what a reader's method answers -/
def RdQ {α : Type} (p : Rd α) (P : α → World → Value → Prop) (b : Nat) (s : ByteArray) (bad : Bool) (w : World) (e : Ending) (w' : World) : Prop :=
  ∃ (x : α) (v : Value) (s' : ByteArray) (bad' : Bool), e = .returned v ∧ P x w' v ∧ Rdr w' b s' bad' ∧ w.grownBy w' (some b) ∧ RdIs p s.data.toList bad x s'.data.toList bad'
def PInt (n : Int) (_ : World) (v : Value) : Prop := v = .int .i64 n ∧ okI n
def PStr (x : ByteArray) (_ : World) (v : Value) : Prop := v = .string x ∧ x.size ≤ 1000000
def PSt (x : Gst) (_ : World) (v : Value) : Prop := v = stV x
def PId (x : Gid) (_ : World) (v : Value) : Prop := v = idV x
theorem RdIs.take {s : ByteArray} {n : Nat} {R : ByteArray} {c : Nat} (h : TkIs s.data.toList n R c) (bad : Bool) : RdIs intR s.data.toList bad (n : Int) R.data.toList (bad || decide (c ≠ 0)) := by
  have hl : R.data.toList.length = R.size := by simp
  refine ⟨fun e => by rw [e]; rfl, fun e => ?_, by rw [hl]; exact h.len⟩
  obtain ⟨rfl, rfl, rfl⟩ := h
  unfold intR tkE tkN tkR
  cases e2 : Vr.take s.data.toList with
  | ok n r => exact .inl ⟨by rw [e]; simp, rfl⟩
  | err c =>
    refine .inr ⟨?_, rfl⟩
    have h1 : c ≠ 0 := by have := Vr.takeF_err _ _ _ _ e2; omega
    simp [h1]
set_option maxRecDepth 100000 in
set_option maxHeartbeats 2000000 in
theorem rnat_any (b : Nat) (s : ByteArray) (bad : Bool) (w : World) (hs : s.size ≤ 1000000) (hR : Rdr w b s bad) :
    Calls Tryz.prog 39 #[.pointer (some ⟨b, 0, none⟩)] w (RdQ intR PInt b s bad w) := by
  obtain ⟨n, R, c, hT⟩ : ∃ n R c, TkIs s.data.toList n R c := ⟨_, _, _, rfl, rfl, rfl⟩
  have hfin : ∀ k v, v = (bad || decide (c ≠ 0)) → RdQ intR PInt b s bad w (.returned (.int .i64 n)) (((w.drewN k).setCell ⟨b, 0, none⟩ (.string R)).setCell ⟨b, 1, none⟩ (.bool v)) := fun k v hv =>
    ⟨n, _, R, _, rfl, ⟨rfl, by omega, by have := hT.lt; omega⟩, (hR.keptN k).set R v, gby_trans (gby_trans (gby_drewN gby_refl k) (gby_set _ _ _)) (gby_set _ _ _), by rw [hv]; exact RdIs.take hT bad⟩
  have HF := Lib.hid hfin
  have HT := Lib.hid (take_is s (by unfold maxLen; omega) n R c hT)
  have c0 := hR.c0
  have c1 := hR.c1
  have f0 := hR.f 0
  have f1 := hR.f 1
  clear hfin hT hR
  cases bad with
  | true =>
    go_enter Tryz.func39, Tryz.ntmps39
    go_wp2_with fail
    refine (HT.out _).mono ?_
    rintro e w1 ⟨rfl, k, rfl⟩
    go_wp2
    go_ret
    exact HF.out k _ rfl
  | false =>
    by_cases hc : c = 0
    · subst hc
      go_enter Tryz.func39, Tryz.ntmps39
      go_wp2_with fail
      refine (HT.out _).mono ?_
      rintro e w1 ⟨rfl, k, rfl⟩
      go_wp2
      go_ret
      exact HF.out k _ rfl
    · have t1 : ((c : Int) != 0) = true := by rw [bne_iff_ne]; omega
      have hv : true = (false || decide (c ≠ 0)) := by simp [hc]
      have HV := Lib.hid hv
      clear hv hc
      go_enter Tryz.func39, Tryz.ntmps39
      go_wp2_with fail
      refine (HT.out _).mono ?_
      rintro e w1 ⟨rfl, k, rfl⟩
      go_wp2
      go_ret
      exact HF.out k _ HV.out
theorem RdIs.takeb {s : ByteArray} {n : Nat} {R : ByteArray} {c : Nat} (h : TkIs s.data.toList n R c) (hs : s.size ≤ 1000000) (bad : Bool) :
    RdIs bytesR s.data.toList bad (tbT n R c) (tbR n R c).data.toList (bad || decide (tbE n R c ≠ 0)) ∧ (tbT n R c).size ≤ 1000000 := by
  have hl : R.data.toList.length = R.size := by simp
  have hle := h.len
  have hsl : s.data.toList.length = s.size := by simp
  have hi := RdIs.take h bad
  by_cases hc : c = 0
  · subst hc
    by_cases hn : R.size < n
    · have e1 : tbT n R 0 = ⟨#[]⟩ := by unfold tbT; rw [if_neg (by omega), if_pos hn]
      have e2 : tbR n R 0 = ⟨#[]⟩ := by unfold tbR; rw [if_neg (by omega), if_pos hn]
      have e3 : tbE n R 0 = 10 := by unfold tbE; rw [if_neg (by omega), if_pos hn]
      rw [e1, e2, e3]
      refine ⟨⟨fun e => by rw [e]; rfl, fun e => .inr ⟨by simp, ?_⟩, by simp⟩, by decide⟩
      rcases hi.step e with ⟨_, h2⟩ | ⟨h1, _⟩
      · unfold bytesR
        rw [rbind_some h2, Int.toNat_natCast, if_pos (by omega)]
      · rw [e] at h1; simp at h1
    · have e1 : tbT n R 0 = R.extract 0 n := by unfold tbT; rw [if_neg (by omega), if_neg hn]
      have e2 : tbR n R 0 = R.extract n R.size := by unfold tbR; rw [if_neg (by omega), if_neg hn]
      have e3 : tbE n R 0 = 0 := by unfold tbE; rw [if_neg (by omega), if_neg hn]
      have e4 : (R.extract n R.size).data.toList = R.data.toList.drop n := by rw [rest_of]
      have e5 : R.extract 0 n = ⟨(R.data.toList.take n).toArray⟩ := by
        apply ByteArray.ext
        rw [ByteArray.data_extract]
        apply Array.toList_inj.1
        rw [Array.toList_extract, List.extract_eq_take_drop]
        simp
      rw [e1, e2, e3, e4]
      refine ⟨⟨fun e => by rw [e]; rfl, fun e => .inl ⟨by rw [e]; simp, ?_⟩, by rw [List.length_drop]; omega⟩, by rw [ByteArray.size_extract]; omega⟩
      rcases hi.step e with ⟨_, h2⟩ | ⟨h1, _⟩
      · unfold bytesR
        rw [rbind_some h2, Int.toNat_natCast, if_neg (by omega), e5]
      · rw [e] at h1; simp at h1
  · have e1 : tbT n R c = ⟨#[]⟩ := by unfold tbT; rw [if_pos hc]
    have e2 : tbR n R c = ⟨#[]⟩ := by unfold tbR; rw [if_pos hc]
    have e3 : tbE n R c = c := by unfold tbE; rw [if_pos hc]
    rw [e1, e2, e3]
    refine ⟨⟨fun e => by rw [e]; rfl, fun e => .inr ⟨by simp [hc], ?_⟩, by simp⟩, by decide⟩
    rcases hi.step e with ⟨h1, _⟩ | ⟨_, h2⟩
    · simp [hc] at h1
    · unfold bytesR; rw [rbind_none h2]
set_option maxRecDepth 100000 in
set_option maxHeartbeats 2000000 in
theorem rbytes_any (b : Nat) (s : ByteArray) (bad : Bool) (w : World) (hs : s.size ≤ 1000000) (hR : Rdr w b s bad) :
    Calls Tryz.prog 70 #[.pointer (some ⟨b, 0, none⟩)] w (RdQ bytesR PStr b s bad w) := by
  obtain ⟨n, R, c, hT⟩ : ∃ n R c, TkIs s.data.toList n R c := ⟨_, _, _, rfl, rfl, rfl⟩
  obtain ⟨hd, hx⟩ := RdIs.takeb hT hs bad
  have HC := takebytes_any s (by unfold maxLen; omega) n R c hT
  generalize tbT n R c = X at *
  generalize tbR n R c = Y at *
  generalize tbE n R c = z at *
  have hfin : ∀ k v, v = (bad || decide (z ≠ 0)) → RdQ bytesR PStr b s bad w (.returned (.string X)) (((w.drewN k).setCell ⟨b, 0, none⟩ (.string Y)).setCell ⟨b, 1, none⟩ (.bool v)) := fun k v hv =>
    ⟨X, _, Y, _, rfl, ⟨rfl, hx⟩, (hR.keptN k).set Y v, gby_trans (gby_trans (gby_drewN gby_refl k) (gby_set _ _ _)) (gby_set _ _ _), by rw [hv]; exact hd⟩
  have HF := Lib.hid hfin
  have HT := Lib.hid HC
  have c0 := hR.c0
  have c1 := hR.c1
  have f0 := hR.f 0
  have f1 := hR.f 1
  clear hfin HC hR hd hx hT
  cases bad with
  | true =>
    go_enter Tryz.func70, Tryz.ntmps70
    go_wp2_with fail
    refine (HT.out _).mono ?_
    rintro e w1 ⟨rfl, k, rfl⟩
    go_wp2
    go_ret
    exact HF.out k _ rfl
  | false =>
    by_cases hc : z = 0
    · subst hc
      go_enter Tryz.func70, Tryz.ntmps70
      go_wp2_with fail
      refine (HT.out _).mono ?_
      rintro e w1 ⟨rfl, k, rfl⟩
      go_wp2
      go_ret
      exact HF.out k _ rfl
    · have t1 : ((z : Int) != 0) = true := by rw [bne_iff_ne]; omega
      have hv : true = (false || decide (z ≠ 0)) := by simp [hc]
      have HV := Lib.hid hv
      clear hv hc
      go_enter Tryz.func70, Tryz.ntmps70
      go_wp2_with fail
      refine (HT.out _).mono ?_
      rintro e w1 ⟨rfl, k, rfl⟩
      go_wp2
      go_ret
      exact HF.out k _ HV.out
theorem rd_size {s s' : ByteArray} {α : Type} {p : Rd α} {b b' : Bool} {x : α} (h : RdIs p s.data.toList b x s'.data.toList b') (hs : s.size ≤ 1000000) : s'.size ≤ 1000000 := by
  have := h.le
  have h1 : s.data.toList.length = s.size := by simp
  have h2 : s'.data.toList.length = s'.size := by simp
  omega
set_option maxRecDepth 100000 in
set_option maxHeartbeats 2000000 in
theorem rstamp_any (b : Nat) (s : ByteArray) (bad : Bool) (w : World) (hs : s.size ≤ 1000000) (hR : Rdr w b s bad) :
    Calls Tryz.prog 38 #[.pointer (some ⟨b, 0, none⟩)] w (RdQ stR PSt b s bad w) := by
  have hlt := hR.lt
  have hA0 := heap_alloc_new w (.cells #[.int .i64 0, .int .i64 0] 37)
  have HR0 := Lib.hid (hR.kept (World.grownBy_alloc w (.cells #[.int .i64 0, .int .i64 0] 37) none) (by simp))
  have HA0 := Lib.hid hA0
  have HR := Lib.hid hR
  clear hA0 hR
  go_enter Tryz.func38, Tryz.ntmps38
  go_wp2_with fail
  refine (rnat_any b s bad _ hs HR0.out).mono ?_
  rintro e w1 ⟨t, v, s1, bad1, rfl, ⟨rfl, ht⟩, hR1, hg1, hd1⟩
  have HT := Lib.hid (rnat_any b s1 bad1 w1 (rd_size hd1 hs) hR1)
  have HD1 := Lib.hid hd1
  have HG1 := Lib.hid hg1
  have HO1 := Lib.hid ht
  clear hR1 hg1 hd1 ht
  go_wp2_with fail
  refine HT.out.mono ?_
  rintro e w2 ⟨r, v, s2, bad2, rfl, ⟨rfl, hr⟩, hR2, hg2, hd2⟩
  have hg := gby_trans HG1.out hg2
  have hA2 := (hg.block w.heap.size (by simp) (by intro e; cases e; omega)).trans HA0.out
  have c0 : w2.cell? ⟨w.heap.size, 0, none⟩ = some (.int .i64 0) := by rw [cell_of_row _ _ _ _ _ _ hA2]; rfl
  have c1 : w2.cell? ⟨w.heap.size, 1, none⟩ = some (.int .i64 0) := by rw [cell_of_row _ _ _ _ _ _ hA2]; rfl
  have f0 : w2.frozen? ⟨w.heap.size, 0, none⟩ = false := frozen_of_row _ _ _ _ _ hA2
  have f1 : w2.frozen? ⟨w.heap.size, 1, none⟩ = false := frozen_of_row _ _ _ _ _ hA2
  have HR2 := Lib.hid hR2
  have HG := Lib.hid hg
  have HD2 := Lib.hid hd2
  clear hg hg2 hA2 hR2 hd2
  go_wp2
  refine bodyPost_ret (v := .agg #[.int .i64 t, .int .i64 r]) (by simp [results, Tryz.results38, go_sem, c0, c1]) rfl ?_
  refine ⟨⟨t, r⟩, _, s2, bad2, rfl, rfl, ?_, gby_setNew (gby_setNew (gby_trans (World.grownBy_alloc _ _ _) HG.out) _ _ _ (Nat.le_refl _)) _ _ _ (Nat.le_refl _), RdIs.st HD1.out HD2.out⟩
  exact (HR2.out.kept (gby_set _ _ _) (by intro e; cases e; omega)).kept (gby_set _ _ _) (by intro e; cases e; omega)
set_option maxRecDepth 100000 in
set_option maxHeartbeats 2000000 in
theorem rid_any (b : Nat) (s : ByteArray) (bad : Bool) (w : World) (hs : s.size ≤ 1000000) (hR : Rdr w b s bad) :
    Calls Tryz.prog 69 #[.pointer (some ⟨b, 0, none⟩)] w (RdQ idR PId b s bad w) := by
  have hlt := hR.lt
  have HR0 := Lib.hid (hR.kept (World.grownBy_alloc w (.cells #[.int .i64 0, .int .i64 0, .int .i64 0] 66) none) (by simp))
  have HA0 := Lib.hid (heap_alloc_new w (.cells #[.int .i64 0, .int .i64 0, .int .i64 0] 66))
  have HG0 := Lib.hid (World.grownBy_alloc w (.cells #[.int .i64 0, .int .i64 0, .int .i64 0] 66) (some b))
  clear hR
  go_enter Tryz.func69, Tryz.ntmps69
  go_wp2_with fail
  refine (rstamp_any b s bad _ hs HR0.out).mono ?_
  rintro e w1 ⟨⟨t, r⟩, v, s1, bad1, rfl, hv, hR1, hg1, hd1⟩
  obtain rfl : v = .agg #[.int .i64 t, .int .i64 r] := hv
  have hs1 := rd_size hd1 hs
  have HD1 := Lib.hid hd1
  have HG1 := Lib.hid (gby_trans HG0.out hg1)
  have HA1 := Lib.hid ((hg1.block w.heap.size (by simp) (by intro e; cases e; omega)).trans HA0.out)
  have hlt1 : w.heap.size < w1.heap.size := by have := hg1.size; simp at this; omega
  have HR1 := Lib.hid hR1
  clear hd1 hg1 hR1
  go_upto_region 2 with (fail)
  generalize hW : w1.alloc (.cells #[.int .i64 t, .int .i64 r] 37) = W
  have HC := Lib.hid (show W.heap[w1.heap.size]? = some (.cells #[.int .i64 t, .int .i64 r] 37 (0, 0)) by subst hW; exact heap_alloc_new _ _)
  have HA := Lib.hid (show W.heap[w.heap.size]? = some (.cells #[.int .i64 0, .int .i64 0, .int .i64 0] 66 (0, 0)) by subst hW; exact (Below.heap_alloc _ _ _ hlt1).trans HA1.out)
  have HR := Lib.hid (show Rdr W b s1 bad1 by subst hW; exact HR1.out.kept (World.grownBy_alloc w1 _ none) (by simp))
  have HG := Lib.hid (show w.grownBy W (some b) by subst hW; exact gby_alloc HG1.out _)
  have hWs : w1.heap.size < W.heap.size := by subst hW; simp
  clear hW
  have c0 : W.cell? ⟨w1.heap.size, 0, none⟩ = some (.int .i64 t) := by rw [cell_of_row _ _ _ _ _ _ HC.out]; rfl
  have c1 : W.cell? ⟨w1.heap.size, 1, none⟩ = some (.int .i64 r) := by rw [cell_of_row _ _ _ _ _ _ HC.out]; rfl
  go_region_with (go_at_call 39; refine (rnat_any b s1 bad1 _ (by exact hs1) (by exact HR.out)).mono ?_; rintro e w2 ⟨i, v, s2, bad2, rfl, ⟨rfl, hi⟩, hR2, hg2, hd2⟩; have HC2 := Lib.hid ((hg2.block w1.heap.size hWs (by intro e; cases e; omega)).trans HC.out); have HA2 := Lib.hid ((hg2.block w.heap.size (Nat.lt_trans hlt1 hWs) (by intro e; cases e; omega)).trans HA.out); have HR2 := Lib.hid hR2; have HD2 := Lib.hid hd2; have HG2 := Lib.hid (gby_trans HG.out (gby_trans (⟨rfl, rfl, rfl, Nat.le_refl _, fun _ _ _ => rfl⟩ : W.grownBy W.drew (some b)) hg2)); clear hR2 hd2 hg2; have d0 : w2.cell? ⟨w1.heap.size, 0, none⟩ = some (.int .i64 t) := by { rw [cell_of_row _ _ _ _ _ _ HC2.out]; rfl }; have d1 : w2.cell? ⟨w1.heap.size, 1, none⟩ = some (.int .i64 r) := by { rw [cell_of_row _ _ _ _ _ _ HC2.out]; rfl }; have a0 : w2.cell? ⟨w.heap.size, 0, none⟩ = some (.int .i64 0) := by { rw [cell_of_row _ _ _ _ _ _ HA2.out]; rfl }; have a1 : w2.cell? ⟨w.heap.size, 1, none⟩ = some (.int .i64 0) := by { rw [cell_of_row _ _ _ _ _ _ HA2.out]; rfl }; have a2 : w2.cell? ⟨w.heap.size, 2, none⟩ = some (.int .i64 0) := by { rw [cell_of_row _ _ _ _ _ _ HA2.out]; rfl }; have f0 : w2.frozen? ⟨w.heap.size, 0, none⟩ = false := frozen_of_row _ _ _ _ _ HA2.out; have f1 : w2.frozen? ⟨w.heap.size, 1, none⟩ = false := frozen_of_row _ _ _ _ _ HA2.out; have f2 : w2.frozen? ⟨w.heap.size, 2, none⟩ = false := frozen_of_row _ _ _ _ _ HA2.out)
  all_goals
    go_wp2
    refine bodyPost_ret (v := .agg #[.int .i64 t, .int .i64 r, .int .i64 i]) (by simp [results, Tryz.results69, go_sem, a0, a1, a2]) rfl ?_
    refine ⟨⟨⟨t, r⟩, i⟩, _, s2, bad2, rfl, rfl, ?_, gby_setNew (gby_setNew (gby_setNew HG2.out _ _ _ (Nat.le_refl _)) _ _ _ (Nat.le_refl _)) _ _ _ (Nat.le_refl _), RdIs.id HD1.out HD2.out⟩
    exact ((HR2.out.kept (gby_set _ _ _) (by intro e; cases e; omega)).kept (gby_set _ _ _) (by intro e; cases e; omega)).kept (gby_set _ _ _) (by intro e; cases e; omega)
end Go.Proofs.YtalgbcgiiphoaaaGreatDoor
end
section
namespace Go.Proofs.YtalgbcgiiphoaaaGreatDoor
open Go.RowKit Go.Lib Go.Sort
set_option linter.unusedVariables false
theorem cellsN (W : World) (xs : List Value) (e : TypeId) (j : Nat) (u : Value) (h : xs[j]? = some u) : (W.alloc (.cells xs.toArray e)).cell? ((⟨W.heap.size, 0, none⟩ : Addr).add j) = some u := by
  rw [add_zero']
  have := World.cell?_alloc_mark W xs.toArray e (0, 0) j
  rw [this]
  simpa using h
/-- a list that a row of memory holds -/
def PRow {α : Type} (B : Nat) (e : TypeId) (size : Nat) (enc : α → List Value) (xs : List α) (w' : World) (v : Value) : Prop :=
  (∃ A c, v = .slice A xs.length c) ∧ w'.ownsRow B e size v xs.length (xs.flatMap enc) ∧ xs.length ≤ 1000001
def PRowI (B : Nat) (e : TypeId) (size : Nat) (enc : Int → List Value) (xs : List Int) (w' : World) (v : Value) : Prop :=
  (∃ A c, v = .slice A xs.length c) ∧ w'.ownsRow B e size v xs.length (xs.flatMap enc) ∧ xs.length ≤ 1000001 ∧ ∀ x ∈ xs, okI x
theorem row_slice {w : World} {B : Nat} {e : TypeId} {size : Nat} {v : Value} {n : Nat} {xs : List Value} (h : w.ownsRow B e size v n xs) : ∃ A c, v = .slice A n c := by
  rcases h.2 with ⟨rfl, rfl⟩ | ⟨g, cap, cur, rfl, _⟩
  · exact ⟨_, _, rfl⟩
  · exact ⟨_, _, rfl⟩
def intC_ (x : Int) : List Value := [.int .i64 x]
theorem lenintC_ (xs : List Int) : (xs.flatMap intC_).length = xs.length * 1 := by
  induction xs with
  | nil => rfl
  | cons x xs ih => rw [List.flatMap_cons, List.length_append, ih, List.length_cons]; show 1 + _ = _; omega
theorem ocintC_ (x : Int) : ∀ u ∈ intC_ x, u.oneCell' = true := by
  intro u hu
  simp only [intC_, List.mem_cons, List.not_mem_nil, or_false] at hu
  subst hu; rfl
theorem infointC_ : (Tryz.prog.info? 3).map (fun i => (i.zero, i.size, i.bytes)) = some (some (.int .i64 0), 1, 8) := by kernel_rfl
set_option maxRecDepth 100000 in
set_option maxHeartbeats 4000000 in
theorem rmany_int (b : Nat) (s : ByteArray) (bad : Bool) (w : World) (hs : s.size ≤ 1000000) (hR : Rdr w b s bad) :
    Calls Tryz.prog 40 #[.pointer (some ⟨b, 0, none⟩), .func (Fn.func 39) #[.pointer (some ⟨b, 0, none⟩)] #[]] w (RdQ (manyR intR) (PRowI w.heap.size 3 1 intC_) b s bad w) := by
  obtain ⟨i0, hi, hz0, hz1, hz2⟩ := info_parts infointC_
  have hlt := hR.lt
  have HR0 := Lib.hid (hR.kept (World.grownBy_alloc w (.cells #[] 3) none) (by simp))
  have HA0 := Lib.hid (heap_alloc_new w (.cells #[] 3))
  have HG0 := Lib.hid (World.grownBy_alloc w (.cells #[] 3) (some b))
  clear hR
  go_enter Tryz.func40, Tryz.ntmps40
  go_wp2_with fail
  refine (rnat_any b s bad _ hs HR0.out).mono ?_
  rintro e w1 ⟨n0, v, s1, bad1, rfl, ⟨rfl, hn0⟩, hR1, hg1, hd1⟩
  obtain ⟨n, rfl⟩ := Int.eq_ofNat_of_zero_le hn0.1
  have hn : n < 9223372036854775808 := by have := hn0.2; omega
  have hs1 := rd_size hd1 hs
  have HD1 := Lib.hid hd1
  have HG1 := Lib.hid (gby_trans HG0.out hg1)
  have HA1 := Lib.hid ((hg1.block w.heap.size (by simp) (by intro e; cases e; omega)).trans HA0.out)
  have HR1 := Lib.hid hR1
  clear hd1 hg1 hR1 hn0
  go_wp2
  go_loopw [5, 6] (fun v m wr => ∃ (k : Nat) (xs : List Int) (s' : ByteArray) (bad' : Bool), m = .int .i64 k ∧ k ≤ n ∧ wr.ownsRow w.heap.size 3 1 v xs.length (xs.flatMap intC_) ∧ Hid (Rdr wr b s' bad') ∧ Hid (w.grownBy wr (some b)) ∧ Hid (ManyAt intR n s1.data.toList bad1 k xs s'.data.toList bad') ∧ Hid (∀ x ∈ xs, okI x)) (fun _ m _ => (RowKit.intOf m).toNat)
  case atStart => exact ⟨n, [], s1, bad1, rfl, Nat.le_refl _, ⟨rfl, .inr ⟨w.heap.size, 0, #[], rfl, Nat.le_refl _, HA1.out, Nat.le_refl _, by unfold maxLen; omega, rfl, rfl⟩⟩, HR1, HG1, Lib.hid ManyAt.start, Lib.hid (fun x hx => by cases hx)⟩
  case round =>
    obtain ⟨k, xs, s', bad', rfl, hk, hO, HR, HG, HM, HX⟩ := hrel
    have hle := HM.out.le
    have hfew := HM.out.few
    have hl1 : s1.data.toList.length = s1.size := by simp
    have hl2 : s'.data.toList.length = s'.size := by simp
    have hxl : xs.length ≤ 1000001 := by split at hfew <;> omega
    have hfin : ∀ h : bad' = true ∨ k = 0, RdQ (manyR intR) (PRowI w.heap.size 3 1 intC_) b s bad w (.returned u5) wr := fun h =>
      ⟨xs, u5, s', bad', rfl, ⟨row_slice hO, hO, hxl, HX.out⟩, HR.out, HG.out, RdIs.many HD1.out (by rw [Int.toNat_natCast]; exact HM.out.done h)⟩
    have HF := Lib.hid hfin
    have c1 := HR.out.c1
    have hs' : s'.size ≤ 1000000 := by omega
    clear hfin hle hfew hl1 hl2
    cases bad' with
    | true =>
      go_wp2
      all_goals
        go_ret
        exact HF.out (.inl (by first | rfl | trivial))
    | false =>
      by_cases h0 : 0 < k
      · obtain ⟨m, rfl⟩ : ∃ m, k = m + 1 := ⟨k - 1, by omega⟩
        have HC := Lib.hid (rnat_any b s' false wr hs' HR.out)
        have HB := Lib.hid (fun g e => (hO.lt g e).1)
        have HB2 := Lib.hid (show u5.ownBlock ≠ some b from fun e => by have := (hO.lt b e).1; omega)
        have hsz := HG.out.size
        have HO1 := Lib.hid hO
        clear hO
        go_wp2_with (first
          | (go_at_call 39; refine HC.out.mono ?_; rintro e w2 ⟨x, v2, s2, bad2, rfl, ⟨hv, hx⟩, hR2, hg2, hd2⟩; obtain rfl : v2 = .int .i64 x := hv; have HR2 := Lib.hid hR2; have HG2 := Lib.hid hg2; have HD2 := Lib.hid hd2; have hsz2 := hg2.size; have HO2 := Lib.hid (HO1.out.kept hg2 (.inr HB2.out)); clear hR2 hg2 hd2; have HO := Lib.hid hx; clear hx)
          | (at_builtin; refine wpList_append_own _ rfl _ _ 29 rfl w.heap.size 3 i0 (.int .i64 0) 1 8 Tryz.underlying29 hi hz0 hz1 hz2 rfl (by decide) _ _ _ rfl (by exact HO2.out.alloc _) ⟨w2.heap.size, 0, none⟩ 1 1 (intC_ x) rfl rfl (by exact cellsN _ _ _) (by exact ocintC_ _) (by unfold maxLen; omega) (by omega) (by simp; omega) ?_; intro v' w3 hown' hgrow _; have HO3 := Lib.hid hown'; have HG3 := Lib.hid hgrow; clear hown' hgrow))
        go_roundw
        case rel => exact ⟨m, xs ++ [x], s2, bad2, by go_num, by omega, by rw [List.length_append, List.flatMap_append, List.flatMap_singleton]; exact HO3.out, Lib.hid ((HR2.out.kept (World.grownBy_alloc w2 _ none) (by simp)).kept HG3.out HB2.out), Lib.hid (gby_new (gby_alloc (gby_trans HG.out HG2.out) _) HG3.out HB.out), Lib.hid (HM.out.next intT HD2.out), Lib.hid (fun y hy => by rcases List.mem_append.1 hy with hy | hy; exact HX.out y hy; simp at hy; rw [hy]; exact HO.out)⟩
        case measure => simp [RowKit.intOf]
      · obtain rfl : k = 0 := by omega
        go_wp2
        go_ret
        exact HF.out (.inr (by first | rfl | trivial))
def stC_ (x : Gst) : List Value := [.int .i64 x.t, .int .i64 x.r]
theorem lenstC_ (xs : List Gst) : (xs.flatMap stC_).length = xs.length * 2 := by
  induction xs with
  | nil => rfl
  | cons x xs ih => rw [List.flatMap_cons, List.length_append, ih, List.length_cons]; show 2 + _ = _; omega
theorem ocstC_ (x : Gst) : ∀ u ∈ stC_ x, u.oneCell' = true := by
  intro u hu
  simp only [stC_, List.mem_cons, List.not_mem_nil, or_false] at hu
  rcases hu with rfl | rfl <;> rfl
theorem infostC_ : (Tryz.prog.info? 37).map (fun i => (i.zero, i.size, i.bytes)) = some (some (.agg #[.int .i64 0, .int .i64 0]), 2, 16) := by kernel_rfl
set_option maxRecDepth 100000 in
set_option maxHeartbeats 4000000 in
theorem rmany_st (b : Nat) (s : ByteArray) (bad : Bool) (w : World) (hs : s.size ≤ 1000000) (hR : Rdr w b s bad) :
    Calls Tryz.prog 71 #[.pointer (some ⟨b, 0, none⟩), .func (Fn.func 38) #[.pointer (some ⟨b, 0, none⟩)] #[]] w (RdQ (manyR stR) (PRow w.heap.size 37 2 stC_) b s bad w) := by
  obtain ⟨i0, hi, hz0, hz1, hz2⟩ := info_parts infostC_
  have hlt := hR.lt
  have HR0 := Lib.hid (hR.kept (World.grownBy_alloc w (.cells #[] 37) none) (by simp))
  have HA0 := Lib.hid (heap_alloc_new w (.cells #[] 37))
  have HG0 := Lib.hid (World.grownBy_alloc w (.cells #[] 37) (some b))
  clear hR
  go_enter Tryz.func71, Tryz.ntmps71
  go_wp2_with fail
  refine (rnat_any b s bad _ hs HR0.out).mono ?_
  rintro e w1 ⟨n0, v, s1, bad1, rfl, ⟨rfl, hn0⟩, hR1, hg1, hd1⟩
  obtain ⟨n, rfl⟩ := Int.eq_ofNat_of_zero_le hn0.1
  have hn : n < 9223372036854775808 := by have := hn0.2; omega
  have hs1 := rd_size hd1 hs
  have HD1 := Lib.hid hd1
  have HG1 := Lib.hid (gby_trans HG0.out hg1)
  have HA1 := Lib.hid ((hg1.block w.heap.size (by simp) (by intro e; cases e; omega)).trans HA0.out)
  have HR1 := Lib.hid hR1
  clear hd1 hg1 hR1 hn0
  go_wp2
  go_loopw [5, 6] (fun v m wr => ∃ (k : Nat) (xs : List Gst) (s' : ByteArray) (bad' : Bool), m = .int .i64 k ∧ k ≤ n ∧ wr.ownsRow w.heap.size 37 2 v xs.length (xs.flatMap stC_) ∧ Hid (Rdr wr b s' bad') ∧ Hid (w.grownBy wr (some b)) ∧ Hid (ManyAt stR n s1.data.toList bad1 k xs s'.data.toList bad')) (fun _ m _ => (RowKit.intOf m).toNat)
  case atStart => exact ⟨n, [], s1, bad1, rfl, Nat.le_refl _, ⟨rfl, .inr ⟨w.heap.size, 0, #[], rfl, Nat.le_refl _, HA1.out, Nat.le_refl _, by unfold maxLen; omega, rfl, rfl⟩⟩, HR1, HG1, Lib.hid ManyAt.start⟩
  case round =>
    obtain ⟨k, xs, s', bad', rfl, hk, hO, HR, HG, HM⟩ := hrel
    have hle := HM.out.le
    have hfew := HM.out.few
    have hl1 : s1.data.toList.length = s1.size := by simp
    have hl2 : s'.data.toList.length = s'.size := by simp
    have hxl : xs.length ≤ 1000001 := by split at hfew <;> omega
    have hfin : ∀ h : bad' = true ∨ k = 0, RdQ (manyR stR) (PRow w.heap.size 37 2 stC_) b s bad w (.returned u5) wr := fun h =>
      ⟨xs, u5, s', bad', rfl, ⟨row_slice hO, hO, hxl⟩, HR.out, HG.out, RdIs.many HD1.out (by rw [Int.toNat_natCast]; exact HM.out.done h)⟩
    have HF := Lib.hid hfin
    have c1 := HR.out.c1
    have hs' : s'.size ≤ 1000000 := by omega
    clear hfin hle hfew hl1 hl2
    cases bad' with
    | true =>
      go_wp2
      all_goals
        go_ret
        exact HF.out (.inl (by first | rfl | trivial))
    | false =>
      by_cases h0 : 0 < k
      · obtain ⟨m, rfl⟩ : ∃ m, k = m + 1 := ⟨k - 1, by omega⟩
        have HC := Lib.hid (rstamp_any b s' false wr hs' HR.out)
        have HB := Lib.hid (fun g e => (hO.lt g e).1)
        have HB2 := Lib.hid (show u5.ownBlock ≠ some b from fun e => by have := (hO.lt b e).1; omega)
        have hsz := HG.out.size
        have HO1 := Lib.hid hO
        clear hO
        go_wp2_with (first
          | (go_at_call 38; refine HC.out.mono ?_; rintro e w2 ⟨⟨t, r⟩, v2, s2, bad2, rfl, hv, hR2, hg2, hd2⟩; obtain rfl : v2 = .agg #[.int .i64 t, .int .i64 r] := hv; have HR2 := Lib.hid hR2; have HG2 := Lib.hid hg2; have HD2 := Lib.hid hd2; have hsz2 := hg2.size; have HO2 := Lib.hid (HO1.out.kept hg2 (.inr HB2.out)); clear hR2 hg2 hd2)
          | (at_builtin; refine wpList_append_own _ rfl _ _ 67 rfl w.heap.size 37 i0 (.agg #[.int .i64 0, .int .i64 0]) 2 16 Tryz.underlying67 hi hz0 hz1 hz2 rfl (by decide) _ _ _ rfl (by exact HO2.out.alloc _) ⟨w2.heap.size, 0, none⟩ 1 1 (stC_ (⟨t, r⟩ : Gst)) rfl rfl (by exact cellsN _ _ _) (by exact ocstC_ _) (by unfold maxLen; omega) (by omega) (by simp; omega) ?_; intro v' w3 hown' hgrow _; have HO3 := Lib.hid hown'; have HG3 := Lib.hid hgrow; clear hown' hgrow))
        go_roundw
        case rel => exact ⟨m, xs ++ [(⟨t, r⟩ : Gst)], s2, bad2, by go_num, by omega, by rw [List.length_append, List.flatMap_append, List.flatMap_singleton]; exact HO3.out, Lib.hid ((HR2.out.kept (World.grownBy_alloc w2 _ none) (by simp)).kept HG3.out HB2.out), Lib.hid (gby_new (gby_alloc (gby_trans HG.out HG2.out) _) HG3.out HB.out), Lib.hid (HM.out.next stT HD2.out)⟩
        case measure => simp [RowKit.intOf]
      · obtain rfl : k = 0 := by omega
        go_wp2
        go_ret
        exact HF.out (.inr (by first | rfl | trivial))
def idC_ (x : Gid) : List Value := [.int .i64 x.s.t, .int .i64 x.s.r, .int .i64 x.i]
theorem lenidC_ (xs : List Gid) : (xs.flatMap idC_).length = xs.length * 3 := by
  induction xs with
  | nil => rfl
  | cons x xs ih => rw [List.flatMap_cons, List.length_append, ih, List.length_cons]; show 3 + _ = _; omega
theorem ocidC_ (x : Gid) : ∀ u ∈ idC_ x, u.oneCell' = true := by
  intro u hu
  simp only [idC_, List.mem_cons, List.not_mem_nil, or_false] at hu
  rcases hu with rfl | rfl | rfl <;> rfl
theorem infoidC_ : (Tryz.prog.info? 66).map (fun i => (i.zero, i.size, i.bytes)) = some (some (.agg #[.int .i64 0, .int .i64 0, .int .i64 0]), 3, 24) := by kernel_rfl
set_option maxRecDepth 100000 in
set_option maxHeartbeats 4000000 in
theorem rmany_id (b : Nat) (s : ByteArray) (bad : Bool) (w : World) (hs : s.size ≤ 1000000) (hR : Rdr w b s bad) :
    Calls Tryz.prog 72 #[.pointer (some ⟨b, 0, none⟩), .func (Fn.func 69) #[.pointer (some ⟨b, 0, none⟩)] #[]] w (RdQ (manyR idR) (PRow w.heap.size 66 3 idC_) b s bad w) := by
  obtain ⟨i0, hi, hz0, hz1, hz2⟩ := info_parts infoidC_
  have hlt := hR.lt
  have HR0 := Lib.hid (hR.kept (World.grownBy_alloc w (.cells #[] 66) none) (by simp))
  have HA0 := Lib.hid (heap_alloc_new w (.cells #[] 66))
  have HG0 := Lib.hid (World.grownBy_alloc w (.cells #[] 66) (some b))
  clear hR
  go_enter Tryz.func72, Tryz.ntmps72
  go_wp2_with fail
  refine (rnat_any b s bad _ hs HR0.out).mono ?_
  rintro e w1 ⟨n0, v, s1, bad1, rfl, ⟨rfl, hn0⟩, hR1, hg1, hd1⟩
  obtain ⟨n, rfl⟩ := Int.eq_ofNat_of_zero_le hn0.1
  have hn : n < 9223372036854775808 := by have := hn0.2; omega
  have hs1 := rd_size hd1 hs
  have HD1 := Lib.hid hd1
  have HG1 := Lib.hid (gby_trans HG0.out hg1)
  have HA1 := Lib.hid ((hg1.block w.heap.size (by simp) (by intro e; cases e; omega)).trans HA0.out)
  have HR1 := Lib.hid hR1
  clear hd1 hg1 hR1 hn0
  go_wp2
  go_loopw [5, 6] (fun v m wr => ∃ (k : Nat) (xs : List Gid) (s' : ByteArray) (bad' : Bool), m = .int .i64 k ∧ k ≤ n ∧ wr.ownsRow w.heap.size 66 3 v xs.length (xs.flatMap idC_) ∧ Hid (Rdr wr b s' bad') ∧ Hid (w.grownBy wr (some b)) ∧ Hid (ManyAt idR n s1.data.toList bad1 k xs s'.data.toList bad')) (fun _ m _ => (RowKit.intOf m).toNat)
  case atStart => exact ⟨n, [], s1, bad1, rfl, Nat.le_refl _, ⟨rfl, .inr ⟨w.heap.size, 0, #[], rfl, Nat.le_refl _, HA1.out, Nat.le_refl _, by unfold maxLen; omega, rfl, rfl⟩⟩, HR1, HG1, Lib.hid ManyAt.start⟩
  case round =>
    obtain ⟨k, xs, s', bad', rfl, hk, hO, HR, HG, HM⟩ := hrel
    have hle := HM.out.le
    have hfew := HM.out.few
    have hl1 : s1.data.toList.length = s1.size := by simp
    have hl2 : s'.data.toList.length = s'.size := by simp
    have hxl : xs.length ≤ 1000001 := by split at hfew <;> omega
    have hfin : ∀ h : bad' = true ∨ k = 0, RdQ (manyR idR) (PRow w.heap.size 66 3 idC_) b s bad w (.returned u5) wr := fun h =>
      ⟨xs, u5, s', bad', rfl, ⟨row_slice hO, hO, hxl⟩, HR.out, HG.out, RdIs.many HD1.out (by rw [Int.toNat_natCast]; exact HM.out.done h)⟩
    have HF := Lib.hid hfin
    have c1 := HR.out.c1
    have hs' : s'.size ≤ 1000000 := by omega
    clear hfin hle hfew hl1 hl2
    cases bad' with
    | true =>
      go_wp2
      all_goals
        go_ret
        exact HF.out (.inl (by first | rfl | trivial))
    | false =>
      by_cases h0 : 0 < k
      · obtain ⟨m, rfl⟩ : ∃ m, k = m + 1 := ⟨k - 1, by omega⟩
        have HC := Lib.hid (rid_any b s' false wr hs' HR.out)
        have HB := Lib.hid (fun g e => (hO.lt g e).1)
        have HB2 := Lib.hid (show u5.ownBlock ≠ some b from fun e => by have := (hO.lt b e).1; omega)
        have hsz := HG.out.size
        have HO1 := Lib.hid hO
        clear hO
        go_wp2_with (first
          | (go_at_call 69; refine HC.out.mono ?_; rintro e w2 ⟨⟨⟨t, r⟩, i⟩, v2, s2, bad2, rfl, hv, hR2, hg2, hd2⟩; obtain rfl : v2 = .agg #[.int .i64 t, .int .i64 r, .int .i64 i] := hv; have HR2 := Lib.hid hR2; have HG2 := Lib.hid hg2; have HD2 := Lib.hid hd2; have hsz2 := hg2.size; have HO2 := Lib.hid (HO1.out.kept hg2 (.inr HB2.out)); clear hR2 hg2 hd2)
          | (at_builtin; refine wpList_append_own _ rfl _ _ 68 rfl w.heap.size 66 i0 (.agg #[.int .i64 0, .int .i64 0, .int .i64 0]) 3 24 Tryz.underlying68 hi hz0 hz1 hz2 rfl (by decide) _ _ _ rfl (by exact HO2.out.alloc _) ⟨w2.heap.size, 0, none⟩ 1 1 (idC_ (⟨⟨t, r⟩, i⟩ : Gid)) rfl rfl (by exact cellsN _ _ _) (by exact ocidC_ _) (by unfold maxLen; omega) (by omega) (by simp; omega) ?_; intro v' w3 hown' hgrow _; have HO3 := Lib.hid hown'; have HG3 := Lib.hid hgrow; clear hown' hgrow))
        go_roundw
        case rel => exact ⟨m, xs ++ [(⟨⟨t, r⟩, i⟩ : Gid)], s2, bad2, by go_num, by omega, by rw [List.length_append, List.flatMap_append, List.flatMap_singleton]; exact HO3.out, Lib.hid ((HR2.out.kept (World.grownBy_alloc w2 _ none) (by simp)).kept HG3.out HB2.out), Lib.hid (gby_new (gby_alloc (gby_trans HG.out HG2.out) _) HG3.out HB.out), Lib.hid (HM.out.next idT HD2.out)⟩
        case measure => simp [RowKit.intOf]
      · obtain rfl : k = 0 := by omega
        go_wp2
        go_ret
        exact HF.out (.inr (by first | rfl | trivial))
end Go.Proofs.YtalgbcgiiphoaaaGreatDoor
end
