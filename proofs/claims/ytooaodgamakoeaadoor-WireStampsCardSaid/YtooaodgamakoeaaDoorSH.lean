/- An id with another stamp. No condition. | An operation with another stamp where it has one. Conditions: lengths in reach. -/
import Derived.Test.YtooaodgamakoeaaDoorSA
import Derived.Test.YtooaodgamakoeaaDoorPA
import Derived.Test.YtooaodgamakoeaaDoorRB
import Derived.Deep.AppendLies
import Derived.Deep.RegionHeld3
section
namespace Go.Proofs.YtooaodgamakoeaaDoor
open Go.RowKit Go.Lib Go.Sort
set_option linter.unusedVariables false
set_option maxRecDepth 100000 in
set_option maxHeartbeats 1000000 in
theorem shift_any (x : Gid) (a b : Gst) (w : World) :
    Calls Tryd.prog 59 #[.agg #[.int .i64 x.s.t, .int .i64 x.s.r, .int .i64 x.i], .agg #[.int .i64 a.t, .int .i64 a.r], .agg #[.int .i64 b.t, .int .i64 b.r]] w fun e w' => e = .returned (.agg #[.int .i64 (shiftD a b x).s.t, .int .i64 (shiftD a b x).s.r, .int .i64 (shiftD a b x).i]) ∧ Below w.heap.size w w' := by
  obtain ⟨⟨xt, xr⟩, xi⟩ := x
  obtain ⟨at_, ar⟩ := a
  obtain ⟨bt, br⟩ := b
  simp only
  cases h : Gst.eqb ⟨xt, xr⟩ ⟨at_, ar⟩ with
  | true =>
    have e0 := eq_st xt xr at_ ar true h
    obtain ⟨y, hy⟩ : ∃ y, shiftD ⟨at_, ar⟩ ⟨bt, br⟩ ⟨⟨xt, xr⟩, xi⟩ = y := ⟨_, rfl⟩
    have hy2 : y = ⟨⟨bt, br⟩, xi⟩ := by rw [← hy]; unfold shiftD shiftS; rw [if_pos h]
    rw [hy]
    subst hy2
    clear h hy
    go_enter Tryd.func59, Tryd.ntmps59
    go_wp2
    refine bodyPost_ret (v := .agg #[.int .i64 bt, .int .i64 br, .int .i64 xi]) (by simp [results, Tryd.results59, go_sem]) rfl ⟨rfl, ?_⟩
    exact ((((Below.refl _ _).alloc (Nat.le_refl _) _).alloc (by simp) _).alloc (by simp; omega) _).alloc (by simp; omega) _
  | false =>
    have e0 := eq_st xt xr at_ ar false h
    obtain ⟨y, hy⟩ : ∃ y, shiftD ⟨at_, ar⟩ ⟨bt, br⟩ ⟨⟨xt, xr⟩, xi⟩ = y := ⟨_, rfl⟩
    have hy2 : y = ⟨⟨xt, xr⟩, xi⟩ := by rw [← hy]; unfold shiftD shiftS; rw [if_neg (by rw [h]; decide)]
    rw [hy]
    subst hy2
    clear h hy
    go_enter Tryd.func59, Tryd.ntmps59
    go_wp2
    refine bodyPost_ret (v := .agg #[.int .i64 xt, .int .i64 xr, .int .i64 xi]) (by simp [results, Tryd.results59, go_sem]) rfl ⟨rfl, ?_⟩
    exact ((((Below.refl _ _).alloc (Nat.le_refl _) _).alloc (by simp) _).alloc (by simp; omega) _).alloc (by simp; omega) _
end Go.Proofs.YtooaodgamakoeaaDoor
end
section
namespace Go.Proofs.YtooaodgamakoeaaDoor
open Go.RowKit Go.Lib Go.Sort
set_option linter.unusedVariables false
attribute [local go_sem ↓] Go.wp_at_zero Go.wp_at_succ
theorem heap_alloc_newS (w : World) (o : Obj) {n : Nat} (h : w.heap.size = n) : (w.alloc o).heap[n]? = some o := by subst h; exact heap_alloc_new w o
/-- where the walk stands: the operation's block, the two stamps, the result's block -/
structure ShS (w0 : World) (c : Array Value) (ft fr tt tr : Int) (w : World) : Prop where
  bo : w.heap[w0.heap.size]? = some (.cells c 31 (0, 0))
  bf : w.heap[w0.heap.size + 1]? = some (.cells #[.int .i64 ft, .int .i64 fr] 25 (0, 0))
  bt : w.heap[w0.heap.size + 1 + 1]? = some (.cells #[.int .i64 tt, .int .i64 tr] 25 (0, 0))
  bz : w.heap[w0.heap.size + 1 + 1 + 1]? = some (.cells #[.int .i64 0, .int .i64 0, .int .i64 0, .int .i64 0, .int .i64 0, .int .i64 0, .int .i64 0, .string ⟨#[]⟩, .bool false, .slice none 0 0, .int .i64 0, .int .i64 0, .int .i64 0, .int .i64 0, .int .i64 0, .int .i64 0, .string ⟨#[]⟩, .slice none 0 0] 31 (0, 0))
  bel : Below w0.heap.size w0 w
section
variable {w0 w w' : World} {c : Array Value} {ft fr tt tr : Int}
theorem ShS.below (h : ShS w0 c ft fr tt tr w) (hB : Below w.heap.size w w') : ShS w0 c ft fr tt tr w' :=
  ⟨(hB.block _ (lt_of_block h.bo)).trans h.bo, (hB.block _ (lt_of_block h.bf)).trans h.bf, (hB.block _ (lt_of_block h.bt)).trans h.bt, (hB.block _ (lt_of_block h.bz)).trans h.bz, h.bel.trans (hB.mono h.bel.size)⟩
theorem ShS.put (h : ShS w0 c ft fr tt tr w) (c' : Array Value) : ShS w0 c' ft fr tt tr (w.setRow w0.heap.size c') :=
  ⟨heap_setRow_same _ h.bo, (setRow_other w _ _ c' (by omega)).trans h.bf, (setRow_other w _ _ c' (by omega)).trans h.bt, (setRow_other w _ _ c' (by omega)).trans h.bz, Below.setRow' h.bel (Nat.le_refl _) _⟩
theorem ShS.gby (h : ShS w0 c ft fr tt tr w) {r : Option Nat} (hg : w.grownBy w' r) (hr : ∀ g, r = some g → w0.heap.size + 4 ≤ g) : ShS w0 c ft fr tt tr w' :=
  ⟨(hg.block _ (lt_of_block h.bo) (fun e => by have := hr _ e.symm; omega)).trans h.bo, (hg.block _ (lt_of_block h.bf) (fun e => by have := hr _ e.symm; omega)).trans h.bf,
   (hg.block _ (lt_of_block h.bt) (fun e => by have := hr _ e.symm; omega)).trans h.bt, (hg.block _ (lt_of_block h.bz) (fun e => by have := hr _ e.symm; omega)).trans h.bz,
   h.bel.grown hg h.bel.size (fun k e => by have := hr k e; omega)⟩
theorem ShS.cell (h : ShS w0 c ft fr tt tr w) (i : Nat) : w.cell? ⟨w0.heap.size, i, none⟩ = c[i]? := cell_of_row _ _ _ _ _ _ h.bo
theorem ShS.f0 (h : ShS w0 c ft fr tt tr w) : w.cell? ⟨w0.heap.size + 1, 0, none⟩ = some (.int .i64 ft) := cell_of_row _ _ _ _ _ _ h.bf
theorem ShS.f1 (h : ShS w0 c ft fr tt tr w) : w.cell? ⟨w0.heap.size + 1, 1, none⟩ = some (.int .i64 fr) := cell_of_row _ _ _ _ _ _ h.bf
theorem ShS.t0 (h : ShS w0 c ft fr tt tr w) : w.cell? ⟨w0.heap.size + 1 + 1, 0, none⟩ = some (.int .i64 tt) := cell_of_row _ _ _ _ _ _ h.bt
theorem ShS.t1 (h : ShS w0 c ft fr tt tr w) : w.cell? ⟨w0.heap.size + 1 + 1, 1, none⟩ = some (.int .i64 tr) := cell_of_row _ _ _ _ _ _ h.bt
theorem ShS.sz (h : ShS w0 c ft fr tt tr w) : w0.heap.size + 1 + 1 + 1 < w.heap.size := lt_of_block h.bz
end
theorem take_st (a b : Gst) (l : List Gst) (k : Nat) (h : k < l.length) : ((l.take (k + 1)).map (shiftS a b)).flatMap stC_ = ((l.take k).map (shiftS a b)).flatMap stC_ ++ stC_ (shiftS a b (l.getD k .zero)) := by
  rw [List.take_succ_eq_append_getElem h, List.map_append, List.flatMap_append]
  have : l.getD k .zero = l[k] := by rw [List.getD_eq_getElem?_getD, List.getElem?_eq_getElem h]; rfl
  rw [this]; simp
theorem take_id (a b : Gst) (l : List Gid) (k : Nat) (h : k < l.length) : ((l.take (k + 1)).map (shiftD a b)).flatMap idC_ = ((l.take k).map (shiftD a b)).flatMap idC_ ++ idC_ (shiftD a b (l.getD k .zero)) := by
  rw [List.take_succ_eq_append_getElem h, List.map_append, List.flatMap_append]
  have : l.getD k .zero = l[k] := by rw [List.getD_eq_getElem?_getD, List.getElem?_eq_getElem h]; rfl
  rw [this]; simp
theorem own_apart {q r : Option Nat} (h : ∀ g, r = some g → q ≠ some g) : q = none ∨ q ≠ r := by
  cases r with
  | none => exact Classical.em _
  | some g => exact .inr (h g rfl)
/-- what shifted answers -/
def ShQ (o : Gop) (w : World) (e : Ending) (w' : World) : Prop := ∃ X, e = .returned (.agg (opA o X)) ∧ OpIn w' (fun k => w.heap.size ≤ k) o X ∧ Below w.heap.size w w'
set_option maxRecDepth 100000 in
set_option maxHeartbeats 16000000 in
theorem shifted_any (o : Gop) (x : OpX) (a b : Gst) (S : Nat → Prop) (w : World) (hI : OpIn w S o x) (hd : o.dots.length ≤ 100000) (he : o.elems.length ≤ 100000) :
    Calls Tryd.prog 23 #[.agg (opA o x), .agg #[.int .i64 a.t, .int .i64 a.r], .agg #[.int .i64 b.t, .int .i64 b.r]] w (ShQ (shiftO a b o) w) := by
  obtain ⟨ft, fr⟩ := a
  obtain ⟨tt, tr⟩ := b
  obtain ⟨kind, ⟨⟨nt, nr⟩, ni⟩, ⟨⟨pt, pr⟩, pi⟩, name, dir, dots, ⟨⟨at_, ar⟩, ai⟩, ⟨⟨et, er⟩, ei⟩, text, elems⟩ := o
  obtain ⟨dA, dc, eA, ec⟩ := x
  have hnm := hI.name
  have htx := hI.text
  have HD := Lib.hid hI.dots
  have HE := Lib.hid hI.elems
  simp only at hd he
  obtain ⟨⟨⟨nt', nr'⟩, ni'⟩, hn'⟩ : ∃ y, y = shiftD ⟨ft, fr⟩ ⟨tt, tr⟩ ⟨⟨nt, nr⟩, ni⟩ := ⟨_, rfl⟩
  have Cn : Hid (∀ W, Calls Tryd.prog 59 #[.agg #[.int .i64 nt, .int .i64 nr, .int .i64 ni], .agg #[.int .i64 ft, .int .i64 fr], .agg #[.int .i64 tt, .int .i64 tr]] W fun e w' => e = .returned (.agg #[.int .i64 nt', .int .i64 nr', .int .i64 ni']) ∧ Below W.heap.size W w') := Lib.hid (fun W => by have := shift_any ⟨⟨nt, nr⟩, ni⟩ ⟨ft, fr⟩ ⟨tt, tr⟩ W; rw [← hn'] at this; exact this)
  have Hn := Lib.hid hn'
  obtain ⟨⟨⟨pt', pr'⟩, pi'⟩, hp'⟩ : ∃ y, y = shiftD ⟨ft, fr⟩ ⟨tt, tr⟩ ⟨⟨pt, pr⟩, pi⟩ := ⟨_, rfl⟩
  have Cp : Hid (∀ W, Calls Tryd.prog 59 #[.agg #[.int .i64 pt, .int .i64 pr, .int .i64 pi], .agg #[.int .i64 ft, .int .i64 fr], .agg #[.int .i64 tt, .int .i64 tr]] W fun e w' => e = .returned (.agg #[.int .i64 pt', .int .i64 pr', .int .i64 pi']) ∧ Below W.heap.size W w') := Lib.hid (fun W => by have := shift_any ⟨⟨pt, pr⟩, pi⟩ ⟨ft, fr⟩ ⟨tt, tr⟩ W; rw [← hp'] at this; exact this)
  have Hp := Lib.hid hp'
  obtain ⟨⟨⟨at', ar'⟩, ai'⟩, ha'⟩ : ∃ y, y = shiftD ⟨ft, fr⟩ ⟨tt, tr⟩ ⟨⟨at_, ar⟩, ai⟩ := ⟨_, rfl⟩
  have Ca : Hid (∀ W, Calls Tryd.prog 59 #[.agg #[.int .i64 at_, .int .i64 ar, .int .i64 ai], .agg #[.int .i64 ft, .int .i64 fr], .agg #[.int .i64 tt, .int .i64 tr]] W fun e w' => e = .returned (.agg #[.int .i64 at', .int .i64 ar', .int .i64 ai']) ∧ Below W.heap.size W w') := Lib.hid (fun W => by have := shift_any ⟨⟨at_, ar⟩, ai⟩ ⟨ft, fr⟩ ⟨tt, tr⟩ W; rw [← ha'] at this; exact this)
  have Ha := Lib.hid ha'
  obtain ⟨⟨⟨et', er'⟩, ei'⟩, he'⟩ : ∃ y, y = shiftD ⟨ft, fr⟩ ⟨tt, tr⟩ ⟨⟨et, er⟩, ei⟩ := ⟨_, rfl⟩
  have Ce : Hid (∀ W, Calls Tryd.prog 59 #[.agg #[.int .i64 et, .int .i64 er, .int .i64 ei], .agg #[.int .i64 ft, .int .i64 fr], .agg #[.int .i64 tt, .int .i64 tr]] W fun e w' => e = .returned (.agg #[.int .i64 et', .int .i64 er', .int .i64 ei']) ∧ Below W.heap.size W w') := Lib.hid (fun W => by have := shift_any ⟨⟨et, er⟩, ei⟩ ⟨ft, fr⟩ ⟨tt, tr⟩ W; rw [← he'] at this; exact this)
  have He := Lib.hid he'
  clear hn' hp' ha' he' hI
  show Calls _ _ #[.agg #[.int .i64 kind, .int .i64 nt, .int .i64 nr, .int .i64 ni, .int .i64 pt, .int .i64 pr, .int .i64 pi, .string name, .bool dir, .slice dA dots.length dc, .int .i64 at_, .int .i64 ar, .int .i64 ai, .int .i64 et, .int .i64 er, .int .i64 ei, .string text, .slice eA elems.length ec], .agg #[.int .i64 ft, .int .i64 fr], .agg #[.int .i64 tt, .int .i64 tr]] _ _
  obtain ⟨W0, hW0⟩ : ∃ W0, W0 = (((w.alloc (.cells #[.int .i64 kind, .int .i64 nt, .int .i64 nr, .int .i64 ni, .int .i64 pt, .int .i64 pr, .int .i64 pi, .string name, .bool dir, .slice dA dots.length dc, .int .i64 at_, .int .i64 ar, .int .i64 ai, .int .i64 et, .int .i64 er, .int .i64 ei, .string text, .slice eA elems.length ec] 31)).alloc (.cells #[.int .i64 ft, .int .i64 fr] 25)).alloc (.cells #[.int .i64 tt, .int .i64 tr] 25)).alloc (.cells #[.int .i64 0, .int .i64 0, .int .i64 0, .int .i64 0, .int .i64 0, .int .i64 0, .int .i64 0, .string ⟨#[]⟩, .bool false, .slice none 0 0, .int .i64 0, .int .i64 0, .int .i64 0, .int .i64 0, .int .i64 0, .int .i64 0, .string ⟨#[]⟩, .slice none 0 0] 31) := ⟨_, rfl⟩
  have hS0 : ShS w #[.int .i64 kind, .int .i64 nt, .int .i64 nr, .int .i64 ni, .int .i64 pt, .int .i64 pr, .int .i64 pi, .string name, .bool dir, .slice dA dots.length dc, .int .i64 at_, .int .i64 ar, .int .i64 ai, .int .i64 et, .int .i64 er, .int .i64 ei, .string text, .slice eA elems.length ec] ft fr tt tr W0 := by
    rw [hW0]
    refine ⟨?_, ?_, ?_, heap_alloc_newS _ _ (by simp), (((((Below.refl _ _).alloc (Nat.le_refl _) _).alloc (by simp) _).alloc (by simp; omega) _).alloc (by simp; omega) _)⟩
    · exact (Below.heap_alloc _ _ _ (by simp; omega)).trans ((Below.heap_alloc _ _ _ (by simp; omega)).trans ((Below.heap_alloc _ _ _ (by simp)).trans (heap_alloc_new _ _)))
    · exact (Below.heap_alloc _ _ _ (by simp)).trans ((Below.heap_alloc _ _ _ (by simp)).trans (heap_alloc_newS _ _ (by simp)))
    · exact (Below.heap_alloc _ _ _ (by simp)).trans (heap_alloc_newS _ _ (by simp))
  have HW0 := Lib.hid hW0
  have HS0 := Lib.hid hS0
  clear hW0 hS0
  go_enter Tryd.func23, Tryd.ntmps23
  go_upto_region 1 with fail
  rw [← HW0.out]
  have q1_0 : W0.cell? ⟨w.heap.size, 1, none⟩ = some (.int .i64 nt) := HS0.out.cell 1
  have q1_1 : W0.cell? ⟨w.heap.size, 2, none⟩ = some (.int .i64 nr) := HS0.out.cell 2
  have q1_2 : W0.cell? ⟨w.heap.size, 3, none⟩ = some (.int .i64 ni) := HS0.out.cell 3
  have u1_0 := HS0.out.f0
  have u1_1 := HS0.out.f1
  have u1_2 := HS0.out.t0
  have u1_3 := HS0.out.t1
  go_upto_region 2 with (first
    | (go_at_call 59; refine (Cn.out _).mono ?_; rintro e v1 ⟨rfl, hB1⟩; have HT1 := Lib.hid (HS0.out.below hB1); clear hB1)
    | (refine store_putAt rfl _ _ _ rfl w.heap.size 1 _ _ #[.int .i64 kind, .int .i64 nt', .int .i64 nr', .int .i64 ni', .int .i64 pt, .int .i64 pr, .int .i64 pi, .string name, .bool dir, .slice dA dots.length dc, .int .i64 at_, .int .i64 ar, .int .i64 ai, .int .i64 et, .int .i64 er, .int .i64 ei, .string text, .slice eA elems.length ec] _ rfl HT1.out.bo rfl ?_ ?_ ?_ rfl ?_; kernel_rfl; exact Nat.le_of_ble_eq_true rfl; rfl))
  have hT1 := HT1.out.put #[.int .i64 kind, .int .i64 nt', .int .i64 nr', .int .i64 ni', .int .i64 pt, .int .i64 pr, .int .i64 pi, .string name, .bool dir, .slice dA dots.length dc, .int .i64 at_, .int .i64 ar, .int .i64 ai, .int .i64 et, .int .i64 er, .int .i64 ei, .string text, .slice eA elems.length ec]
  generalize hV : v1.setRow w.heap.size #[.int .i64 kind, .int .i64 nt', .int .i64 nr', .int .i64 ni', .int .i64 pt, .int .i64 pr, .int .i64 pi, .string name, .bool dir, .slice dA dots.length dc, .int .i64 at_, .int .i64 ar, .int .i64 ai, .int .i64 et, .int .i64 er, .int .i64 ei, .string text, .slice eA elems.length ec] = W1 at *
  have HS1 := Lib.hid hT1
  clear hV hT1 HT1 Cn q1_0 q1_1 q1_2 u1_0 u1_1 u1_2 u1_3
  have q2_0 : W1.cell? ⟨w.heap.size, 4, none⟩ = some (.int .i64 pt) := HS1.out.cell 4
  have q2_1 : W1.cell? ⟨w.heap.size, 5, none⟩ = some (.int .i64 pr) := HS1.out.cell 5
  have q2_2 : W1.cell? ⟨w.heap.size, 6, none⟩ = some (.int .i64 pi) := HS1.out.cell 6
  have u2_0 := HS1.out.f0
  have u2_1 := HS1.out.f1
  have u2_2 := HS1.out.t0
  have u2_3 := HS1.out.t1
  go_upto_region 3 with (first
    | (go_at_call 59; refine (Cp.out _).mono ?_; rintro e v2 ⟨rfl, hB2⟩; have HT2 := Lib.hid (HS1.out.below hB2); clear hB2)
    | (refine store_putAt rfl _ _ _ rfl w.heap.size 4 _ _ #[.int .i64 kind, .int .i64 nt', .int .i64 nr', .int .i64 ni', .int .i64 pt', .int .i64 pr', .int .i64 pi', .string name, .bool dir, .slice dA dots.length dc, .int .i64 at_, .int .i64 ar, .int .i64 ai, .int .i64 et, .int .i64 er, .int .i64 ei, .string text, .slice eA elems.length ec] _ rfl HT2.out.bo rfl ?_ ?_ ?_ rfl ?_; kernel_rfl; exact Nat.le_of_ble_eq_true rfl; rfl))
  have hT2 := HT2.out.put #[.int .i64 kind, .int .i64 nt', .int .i64 nr', .int .i64 ni', .int .i64 pt', .int .i64 pr', .int .i64 pi', .string name, .bool dir, .slice dA dots.length dc, .int .i64 at_, .int .i64 ar, .int .i64 ai, .int .i64 et, .int .i64 er, .int .i64 ei, .string text, .slice eA elems.length ec]
  generalize hV : v2.setRow w.heap.size #[.int .i64 kind, .int .i64 nt', .int .i64 nr', .int .i64 ni', .int .i64 pt', .int .i64 pr', .int .i64 pi', .string name, .bool dir, .slice dA dots.length dc, .int .i64 at_, .int .i64 ar, .int .i64 ai, .int .i64 et, .int .i64 er, .int .i64 ei, .string text, .slice eA elems.length ec] = W2 at *
  have HS2 := Lib.hid hT2
  clear hV hT2 HT2 Cp q2_0 q2_1 q2_2 u2_0 u2_1 u2_2 u2_3
  have q3_0 : W2.cell? ⟨w.heap.size, 10, none⟩ = some (.int .i64 at_) := HS2.out.cell 10
  have q3_1 : W2.cell? ⟨w.heap.size, 11, none⟩ = some (.int .i64 ar) := HS2.out.cell 11
  have q3_2 : W2.cell? ⟨w.heap.size, 12, none⟩ = some (.int .i64 ai) := HS2.out.cell 12
  have u3_0 := HS2.out.f0
  have u3_1 := HS2.out.f1
  have u3_2 := HS2.out.t0
  have u3_3 := HS2.out.t1
  go_upto_region 4 with (first
    | (go_at_call 59; refine (Ca.out _).mono ?_; rintro e v3 ⟨rfl, hB3⟩; have HT3 := Lib.hid (HS2.out.below hB3); clear hB3)
    | (refine store_putAt rfl _ _ _ rfl w.heap.size 10 _ _ #[.int .i64 kind, .int .i64 nt', .int .i64 nr', .int .i64 ni', .int .i64 pt', .int .i64 pr', .int .i64 pi', .string name, .bool dir, .slice dA dots.length dc, .int .i64 at', .int .i64 ar', .int .i64 ai', .int .i64 et, .int .i64 er, .int .i64 ei, .string text, .slice eA elems.length ec] _ rfl HT3.out.bo rfl ?_ ?_ ?_ rfl ?_; kernel_rfl; exact Nat.le_of_ble_eq_true rfl; rfl))
  have hT3 := HT3.out.put #[.int .i64 kind, .int .i64 nt', .int .i64 nr', .int .i64 ni', .int .i64 pt', .int .i64 pr', .int .i64 pi', .string name, .bool dir, .slice dA dots.length dc, .int .i64 at', .int .i64 ar', .int .i64 ai', .int .i64 et, .int .i64 er, .int .i64 ei, .string text, .slice eA elems.length ec]
  generalize hV : v3.setRow w.heap.size #[.int .i64 kind, .int .i64 nt', .int .i64 nr', .int .i64 ni', .int .i64 pt', .int .i64 pr', .int .i64 pi', .string name, .bool dir, .slice dA dots.length dc, .int .i64 at', .int .i64 ar', .int .i64 ai', .int .i64 et, .int .i64 er, .int .i64 ei, .string text, .slice eA elems.length ec] = W3 at *
  have HS3 := Lib.hid hT3
  clear hV hT3 HT3 Ca q3_0 q3_1 q3_2 u3_0 u3_1 u3_2 u3_3
  have q4_0 : W3.cell? ⟨w.heap.size, 13, none⟩ = some (.int .i64 et) := HS3.out.cell 13
  have q4_1 : W3.cell? ⟨w.heap.size, 14, none⟩ = some (.int .i64 er) := HS3.out.cell 14
  have q4_2 : W3.cell? ⟨w.heap.size, 15, none⟩ = some (.int .i64 ei) := HS3.out.cell 15
  have u4_0 := HS3.out.f0
  have u4_1 := HS3.out.f1
  have u4_2 := HS3.out.t0
  have u4_3 := HS3.out.t1
  go_upto_region 5 with (first
    | (go_at_call 59; refine (Ce.out _).mono ?_; rintro e v4 ⟨rfl, hB4⟩; have HT4 := Lib.hid (HS3.out.below hB4); clear hB4)
    | (refine store_putAt rfl _ _ _ rfl w.heap.size 13 _ _ #[.int .i64 kind, .int .i64 nt', .int .i64 nr', .int .i64 ni', .int .i64 pt', .int .i64 pr', .int .i64 pi', .string name, .bool dir, .slice dA dots.length dc, .int .i64 at', .int .i64 ar', .int .i64 ai', .int .i64 et', .int .i64 er', .int .i64 ei', .string text, .slice eA elems.length ec] _ rfl HT4.out.bo rfl ?_ ?_ ?_ rfl ?_; kernel_rfl; exact Nat.le_of_ble_eq_true rfl; rfl))
  have hT4 := HT4.out.put #[.int .i64 kind, .int .i64 nt', .int .i64 nr', .int .i64 ni', .int .i64 pt', .int .i64 pr', .int .i64 pi', .string name, .bool dir, .slice dA dots.length dc, .int .i64 at', .int .i64 ar', .int .i64 ai', .int .i64 et', .int .i64 er', .int .i64 ei', .string text, .slice eA elems.length ec]
  generalize hV : v4.setRow w.heap.size #[.int .i64 kind, .int .i64 nt', .int .i64 nr', .int .i64 ni', .int .i64 pt', .int .i64 pr', .int .i64 pi', .string name, .bool dir, .slice dA dots.length dc, .int .i64 at', .int .i64 ar', .int .i64 ai', .int .i64 et', .int .i64 er', .int .i64 ei', .string text, .slice eA elems.length ec] = W4 at *
  have HS4 := Lib.hid hT4
  clear hV hT4 HT4 Ce q4_0 q4_1 q4_2 u4_0 u4_1 u4_2 u4_3
  have hb4 := HS4.out.sz
  obtain ⟨B, hB⟩ : ∃ B, B = W4.heap.size := ⟨_, rfl⟩
  rw [← hB] at hb4
  have HD4 := Lib.hid (HD.out.agr (Agr.below HS4.out.bel))
  have HE4 : True := trivial
  have HBQ := Lib.hid hB
  clear HS0 HS1 HS2 HS3 hB HW0 HD HE4
  obtain ⟨i0, hi, hz0, hz1, hz2⟩ := info_parts infostC_
  obtain ⟨i1, hj, hy0, hy1, hy2⟩ := info_parts infoidC_
  go_wp2
  go_loopw [7, 8] (fun v i wr => ∃ k : Nat, i = .int .i64 k ∧ k ≤ dots.length ∧ wr.ownsRow B 25 2 v k (((dots.take k).map (shiftS ⟨ft, fr⟩ ⟨tt, tr⟩)).flatMap stC_) ∧ Hid (ShS w #[.int .i64 kind, .int .i64 nt', .int .i64 nr', .int .i64 ni', .int .i64 pt', .int .i64 pr', .int .i64 pi', .string name, .bool dir, .slice dA dots.length dc, .int .i64 at', .int .i64 ar', .int .i64 ai', .int .i64 et', .int .i64 er', .int .i64 ei', .string text, .slice eA elems.length ec] ft fr tt tr wr) ∧ Hid (Below W4.heap.size W4 wr)) (fun _ i _ => dots.length - (RowKit.intOf i).toNat)
  case atStart => exact ⟨0, rfl, Nat.zero_le _, ⟨rfl, .inl ⟨rfl, rfl⟩⟩, HS4, Lib.hid (Below.refl _ _)⟩
  case round =>
    obtain ⟨k, rfl, hk, hO, HS, HBW⟩ := hrel
    have e9 : wr.cell? ⟨w.heap.size, 9, none⟩ = some (.slice dA dots.length dc) := HS.out.cell 9
    by_cases hlt : k < dots.length
    · obtain ⟨db, do_, hdA, -, hdl, c0, c1⟩ := StsS.at_ (HD4.out.agr (Agr.below HBW.out)) hlt
      subst hdA
      have i5 : (k : Int) < (dots.length : Int) := by omega
      have i4 : (0 : Int) ≤ (k : Int) := by omega
      have HTK := Lib.hid (take_st ⟨ft, fr⟩ ⟨tt, tr⟩ dots k hlt)
      obtain ⟨⟨dt, dr⟩, hdd⟩ : ∃ s, s = dots.getD k .zero := ⟨_, rfl⟩
      rw [← hdd] at c0 c1
      obtain ⟨⟨yt, yr⟩, hyy⟩ : ∃ s, s = shiftS ⟨ft, fr⟩ ⟨tt, tr⟩ (dots.getD k .zero) := ⟨_, rfl⟩
      have HYY := Lib.hid hyy
      rw [← hdd] at hyy
      have CD : Hid (∀ W, Calls Tryd.prog 59 #[.agg #[.int .i64 dt, .int .i64 dr, .int .i64 0], .agg #[.int .i64 ft, .int .i64 fr], .agg #[.int .i64 tt, .int .i64 tr]] W fun e w' => e = .returned (.agg #[.int .i64 yt, .int .i64 yr, .int .i64 0]) ∧ Below W.heap.size W w') := Lib.hid (fun W => by have := shift_any ⟨⟨dt, dr⟩, 0⟩ ⟨ft, fr⟩ ⟨tt, tr⟩ W; unfold shiftD at this; rw [← hyy] at this; exact this)
      have hfd : ∀ W, (Instr.field 27 (.agg #[.int .i64 yt, .int .i64 yr, .int .i64 0]) 0).run Tryd.prog W = .ok (.agg #[.int .i64 yt, .int .i64 yr]) W := fun _ => by kernel_rfl
      have HBO := Lib.hid (fun g e => (hO.lt g e).1)
      have HO1 := Lib.hid hO
      have hszB := HBW.out.size
      rw [← HBQ.out] at hszB
      clear hO hdd hyy
      go_upto_region 10 with fail
      generalize hV : wr.alloc (.cells #[.int .i64 dt, .int .i64 dr, .int .i64 0] 27) = V
      have HVS := Lib.hid (show ShS w _ ft fr tt tr V by rw [← hV]; exact HS.out.below ((Below.refl _ _).alloc (Nat.le_refl _) _))
      have HVB := Lib.hid (show Below W4.heap.size W4 V by rw [← hV]; exact HBW.out.alloc HBW.out.size _)
      have HVO := Lib.hid (show V.ownsRow B 25 2 u7 k _ by rw [← hV]; exact HO1.out.alloc _)
      have HVC := Lib.hid (show V.heap[wr.heap.size]? = some (.cells #[.int .i64 dt, .int .i64 dr, .int .i64 0] 27 (0, 0)) by rw [← hV]; exact heap_alloc_new _ _)
      have d0 : V.cell? ⟨wr.heap.size, 0, none⟩ = some (.int .i64 dt) := cell_of_row _ _ _ _ _ _ HVC.out
      have d1 : V.cell? ⟨wr.heap.size, 1, none⟩ = some (.int .i64 dr) := cell_of_row _ _ _ _ _ _ HVC.out
      have d2 : V.cell? ⟨wr.heap.size, 2, none⟩ = some (.int .i64 0) := cell_of_row _ _ _ _ _ _ HVC.out
      have u0 := HVS.out.f0
      have u1 := HVS.out.f1
      have u2 := HVS.out.t0
      have u3 := HVS.out.t1
      have hszV : B ≤ V.heap.size := by rw [HBQ.out]; exact HVB.out.size
      clear hV c0 c1 e9
      go_wp2_with fail
      refine (CD.out _).mono ?_
      rintro e w2 ⟨rfl, hB2⟩
      have HS2 := Lib.hid (HVS.out.below hB2)
      have HB2 := Lib.hid (HVB.out.trans (hB2.mono HVB.out.size))
      have HO2 := Lib.hid (HVO.out.kept (gby_below (r := none) hB2) (Classical.em _))
      have hsz2 : B ≤ w2.heap.size := by have := hB2.size; omega
      clear hB2
      go_wp2_with (first
        | (at_builtin; refine wpList_append_own _ rfl _ _ 28 rfl B 25 i0 (.agg #[.int .i64 0, .int .i64 0]) 2 16 Tryd.underlying28 hi hz0 hz1 hz2 rfl (by decide) _ _ _ rfl (by exact HO2.out.alloc _) ⟨w2.heap.size, 0, none⟩ 1 1 (stC_ (⟨yt, yr⟩ : Gst)) rfl rfl (by exact cellsN _ _ _) (by exact ocstC_ _) (by unfold maxLen; omega) (by omega) (by simp; omega) ?_; intro v' w3 hown' hgrow _; have HO3 := Lib.hid hown'; have HG3 := Lib.hid hgrow; clear hown' hgrow))
      have HRW := Lib.hid (show w3.ownsRow B 25 2 v' (k + 1) (((dots.take (k + 1)).map (shiftS ⟨ft, fr⟩ ⟨tt, tr⟩)).flatMap stC_) by rw [HTK.out, ← HYY.out]; exact HO3.out)
      have HSW := Lib.hid (show ShS w _ ft fr tt tr w3 from (HS2.out.below ((Below.refl _ _).alloc (Nat.le_refl _) _)).gby HG3.out (fun g e => by have := HBO.out g e; omega))
      have HBW3 := Lib.hid (show Below W4.heap.size W4 w3 from (HB2.out.alloc HB2.out.size _).grown HG3.out (HB2.out.alloc HB2.out.size _).size (fun g e => by have h1 := HBO.out g e; have h2 := HBQ.out; omega))
      go_wp2
      go_roundw
      case rel => exact ⟨k + 1, by go_num, by omega, HRW.out, HSW, HBW3⟩
      case measure => simp [RowKit.intOf]; omega
    · obtain rfl : k = dots.length := by omega
      rw [List.take_length] at hO
      obtain ⟨D, dk, rfl⟩ := row_slice hO
      have HOD := Lib.hid hO
      have HSD := Lib.hid HS.out
      clear hO HS4
      have i6 : ¬ (dots.length : Int) < (dots.length : Int) := by omega
      go_wp2
      have HBD := Lib.hid HBW.out
      clear HBW hlt i6 hk e9
      generalize wr = wD at *
      go_loopw [10, 11] (fun v i wr => ∃ k : Nat, i = .int .i64 k ∧ k ≤ elems.length ∧ wr.ownsRow B 27 3 v k (((elems.take k).map (shiftD ⟨ft, fr⟩ ⟨tt, tr⟩)).flatMap idC_) ∧ Hid (ShS w #[.int .i64 kind, .int .i64 nt', .int .i64 nr', .int .i64 ni', .int .i64 pt', .int .i64 pr', .int .i64 pi', .string name, .bool dir, .slice dA dots.length dc, .int .i64 at', .int .i64 ar', .int .i64 ai', .int .i64 et', .int .i64 er', .int .i64 ei', .string text, .slice eA elems.length ec] ft fr tt tr wr) ∧ Hid (Below W4.heap.size W4 wr) ∧ Hid (wr.ownsRow B 25 2 (.slice D dots.length dk) dots.length ((dots.map (shiftS ⟨ft, fr⟩ ⟨tt, tr⟩)).flatMap stC_)) ∧ (∀ g, v.ownBlock = some g → (Value.slice D dots.length dk).ownBlock ≠ some g)) (fun _ i _ => elems.length - (RowKit.intOf i).toNat)
      case atStart => exact ⟨0, rfl, Nat.zero_le _, ⟨rfl, .inl ⟨rfl, rfl⟩⟩, HSD, HBD, HOD, fun g e => by cases e⟩
      case round =>
        obtain ⟨k, rfl, hk, hO, HS, HBW, HOX, hne⟩ := hrel
        have HNE := Lib.hid hne
        have e17 : wr.cell? ⟨w.heap.size, 17, none⟩ = some (.slice eA elems.length ec) := HS.out.cell 17
        by_cases hlt : k < elems.length
        · obtain ⟨eb, eo, heA, -, hel, c0, c1, c2⟩ := HE.out.at_ hlt
          subst heA
          have i5 : (k : Int) < (elems.length : Int) := by omega
          have i4 : (0 : Int) ≤ (k : Int) := by omega
          have HTK := Lib.hid (take_id ⟨ft, fr⟩ ⟨tt, tr⟩ elems k hlt)
          obtain ⟨⟨⟨dt, dr⟩, di⟩, hdd⟩ : ∃ s, s = elems.getD k .zero := ⟨_, rfl⟩
          rw [← hdd] at c0 c1 c2
          have C0 := Lib.hid c0
          have C1 := Lib.hid c1
          have C2 := Lib.hid c2
          replace c0 := (HS.out.bel.cell (p := ⟨eb, eo + k * 3, none⟩) hel).trans c0
          replace c1 := (HS.out.bel.cell (p := ⟨eb, eo + k * 3 + 1, none⟩) hel).trans c1
          replace c2 := (HS.out.bel.cell (p := ⟨eb, eo + k * 3 + 2, none⟩) hel).trans c2
          obtain ⟨⟨⟨yt, yr⟩, yi⟩, hyy⟩ : ∃ s, s = shiftD ⟨ft, fr⟩ ⟨tt, tr⟩ (elems.getD k .zero) := ⟨_, rfl⟩
          have HYY := Lib.hid hyy
          rw [← hdd] at hyy
          have CD : Hid (∀ W, Calls Tryd.prog 59 #[.agg #[.int .i64 dt, .int .i64 dr, .int .i64 di], .agg #[.int .i64 ft, .int .i64 fr], .agg #[.int .i64 tt, .int .i64 tr]] W fun e w' => e = .returned (.agg #[.int .i64 yt, .int .i64 yr, .int .i64 yi]) ∧ Below W.heap.size W w') := Lib.hid (fun W => by have := shift_any ⟨⟨dt, dr⟩, di⟩ ⟨ft, fr⟩ ⟨tt, tr⟩ W; rw [← hyy] at this; exact this)
          have HBO := Lib.hid (fun g e => (hO.lt g e).1)
          have HO1 := Lib.hid hO
          have hszB := HBW.out.size
          rw [← HBQ.out] at hszB
          have u0 := HS.out.f0
          have u1 := HS.out.f1
          have u2 := HS.out.t0
          have u3 := HS.out.t1
          have z0 : w.heap.size < wr.heap.size := by omega
          have z1 : w.heap.size + 1 < wr.heap.size := by omega
          have z2 : w.heap.size + 1 + 1 < wr.heap.size := by omega
          clear hO hdd hyy hne
          go_upto_region 15 with fail
          have z3 : eb < wr.heap.size := by omega
          go_region_held3 (fun w' => w'.cell? ⟨w.heap.size, 17, none⟩ = some (.slice (some ⟨eb, eo, none⟩) elems.length ec) ∧ w'.cell? ⟨eb, eo + k * 3, none⟩ = some (.int .i64 dt) ∧ w'.cell? ⟨eb, eo + k * 3 + 1, none⟩ = some (.int .i64 dr) ∧ w'.cell? ⟨eb, eo + k * 3 + 2, none⟩ = some (.int .i64 di) ∧ w'.cell? ⟨w.heap.size + 1, 0, none⟩ = some (.int .i64 ft) ∧ w'.cell? ⟨w.heap.size + 1, 1, none⟩ = some (.int .i64 fr) ∧ w'.cell? ⟨w.heap.size + 1 + 1, 0, none⟩ = some (.int .i64 tt) ∧ w'.cell? ⟨w.heap.size + 1 + 1, 1, none⟩ = some (.int .i64 tr))
            (first
              | go_keep
              | (exact ⟨HS3.out.cell 17, (HS3.out.bel.cell (p := ⟨eb, eo + k * 3, none⟩) hel).trans C0.out, (HS3.out.bel.cell (p := ⟨eb, eo + k * 3 + 1, none⟩) hel).trans C1.out, (HS3.out.bel.cell (p := ⟨eb, eo + k * 3 + 2, none⟩) hel).trans C2.out, HS3.out.f0, HS3.out.f1, HS3.out.t0, HS3.out.t1⟩)
              | (exact ⟨HS2.out.cell 17, (HS2.out.bel.cell (p := ⟨eb, eo + k * 3, none⟩) hel).trans C0.out, (HS2.out.bel.cell (p := ⟨eb, eo + k * 3 + 1, none⟩) hel).trans C1.out, (HS2.out.bel.cell (p := ⟨eb, eo + k * 3 + 2, none⟩) hel).trans C2.out, HS2.out.f0, HS2.out.f1, HS2.out.t0, HS2.out.t1⟩))
            (first
              | (go_at_call 59; refine (CD.out _).mono ?_; rintro e w2 ⟨rfl, hB2⟩; have HO2 := Lib.hid ((show wr.drew.ownsRow B 27 3 u10 k _ from HO1.out).kept (gby_below (r := none) hB2) (Classical.em _)); have hsz2 : B ≤ w2.heap.size := Nat.le_trans hszB hB2.size; have HS2 := Lib.hid (HS.out.below (show Below wr.heap.size wr w2 from ⟨hB2.os, hB2.tape, hB2.output, hB2.size, hB2.block⟩)); have HB2 := Lib.hid (HBW.out.trans ((show Below wr.heap.size wr w2 from ⟨hB2.os, hB2.tape, hB2.output, hB2.size, hB2.block⟩).mono HBW.out.size)); have HOX2 := Lib.hid (HOX.out.kept (gby_below (r := none) (show Below wr.heap.size wr w2 from ⟨hB2.os, hB2.tape, hB2.output, hB2.size, hB2.block⟩)) (Classical.em _)))
              | (refine step_append_lies _ (by rfl) _ _ 29 (by rfl) B 27 i1 (.agg #[.int .i64 0, .int .i64 0, .int .i64 0]) 3 24 Tryd.underlying29 hj hy0 hy1 hy2 rfl (by decide) u10 k _ (by rfl) (by exact HO2.out.alloc _) ⟨w2.heap.size, 0, none⟩ 1 1 (idC_ (⟨⟨yt, yr⟩, yi⟩ : Gid)) (by rfl) rfl (by exact cellsN _ _ _) (by exact ocidC_ _) (by decide) (by unfold maxLen; omega) (by omega) (by simp; omega) (w2.heap.size + 1) (by simp) ?_; intro g cap w3 hown1 hgrow hat _; have HS3 := Lib.hid ((HS2.out.below ((Below.refl _ _).alloc (Nat.le_refl _) _)).gby hgrow (fun g e => by have := HBO.out g e; omega))))
          have HRW := Lib.hid (show w3.ownsRow B 27 3 (.slice (some ⟨g, 0, none⟩) (k + 1) cap) (k + 1) (((elems.take (k + 1)).map (shiftD ⟨ft, fr⟩ ⟨tt, tr⟩)).flatMap idC_) by rw [HTK.out, ← HYY.out]; exact hown1)
          have HBW3 := Lib.hid (show Below W4.heap.size W4 w3 from (HB2.out.alloc HB2.out.size _).grown hgrow (HB2.out.alloc HB2.out.size _).size (fun g e => by have h1 := HBO.out g e; have h2 := HBQ.out; omega))
          have HOX3 := Lib.hid ((HOX2.out.alloc (.cells #[.int .i64 yt, .int .i64 yr, .int .i64 yi] 27)).kept hgrow (own_apart HNE.out))
          have hne3 : ∀ q, (Value.slice (some ⟨g, 0, none⟩) (k + 1) cap).ownBlock = some q → (Value.slice D dots.length dk).ownBlock ≠ some q := fun q e => by
            cases e
            rcases hat with h1 | h1
            · exact HNE.out g h1
            · intro h2
              have := (HOX2.out.lt g h2).2
              omega
          have HNE3 := Lib.hid hne3
          clear hne3 hat hown1 hgrow
          go_wp2
          go_roundw
          case rel => exact ⟨k + 1, by go_num, by omega, HRW.out, HS3, HBW3, HOX3, HNE3.out⟩
          case measure => simp [RowKit.intOf]; omega
        · obtain rfl : k = elems.length := by omega
          rw [List.take_length] at hO
          obtain ⟨E, ek, rfl⟩ := row_slice hO
          have hD1 : StsS wr (fun q => B ≤ q) D (dots.map (shiftS ⟨ft, fr⟩ ⟨tt, tr⟩)) := sts_own (c := dk) (E := 25) (by rw [List.length_map]; exact HOX.out)
          have hE1 : IdsS wr (fun q => B ≤ q) E (elems.map (shiftD ⟨ft, fr⟩ ⟨tt, tr⟩)) := ids_own (c := ek) (E := 27) (by rw [List.length_map]; exact hO)
          have HD1 := Lib.hid hD1
          have HE1 := Lib.hid hE1
          have HDC := Lib.hid (own_cap HOX.out)
          have HEC := Lib.hid (own_cap hO)
          have HFIN := Lib.hid (show (Value.agg (opA (shiftO ⟨ft, fr⟩ ⟨tt, tr⟩ ⟨kind, ⟨⟨nt, nr⟩, ni⟩, ⟨⟨pt, pr⟩, pi⟩, name, dir, dots, ⟨⟨at_, ar⟩, ai⟩, ⟨⟨et, er⟩, ei⟩, text, elems⟩) ⟨D, dk, E, ek⟩)) = .agg #[.int .i64 kind, .int .i64 nt', .int .i64 nr', .int .i64 ni', .int .i64 pt', .int .i64 pr', .int .i64 pi', .string name, .bool dir, .slice D dots.length dk, .int .i64 at', .int .i64 ar', .int .i64 ai', .int .i64 et', .int .i64 er', .int .i64 ei', .string text, .slice E elems.length ek] by
            simp only [opA, shiftO, List.length_map, ← Hn.out, ← Hp.out, ← Ha.out, ← He.out])
          have HNT := Lib.hid (And.intro hnm htx)
          clear hO hD1 hE1 hne HNE HOX hnm htx
          go_upto_region 17 with (first
            | (refine store_putAt rfl _ _ _ rfl w.heap.size 9 _ _ #[.int .i64 kind, .int .i64 nt', .int .i64 nr', .int .i64 ni', .int .i64 pt', .int .i64 pr', .int .i64 pi', .string name, .bool dir, .slice D dots.length dk, .int .i64 at', .int .i64 ar', .int .i64 ai', .int .i64 et', .int .i64 er', .int .i64 ei', .string text, .slice eA elems.length ec] _ rfl HS.out.bo rfl ?_ ?_ ?_ rfl ?_; kernel_rfl; exact Nat.le_of_ble_eq_true rfl; rfl)
            | (refine store_putAt rfl _ _ _ rfl w.heap.size 17 _ _ #[.int .i64 kind, .int .i64 nt', .int .i64 nr', .int .i64 ni', .int .i64 pt', .int .i64 pr', .int .i64 pi', .string name, .bool dir, .slice D dots.length dk, .int .i64 at', .int .i64 ar', .int .i64 ai', .int .i64 et', .int .i64 er', .int .i64 ei', .string text, .slice E elems.length ek] _ rfl (HS.out.put #[.int .i64 kind, .int .i64 nt', .int .i64 nr', .int .i64 ni', .int .i64 pt', .int .i64 pr', .int .i64 pi', .string name, .bool dir, .slice D dots.length dk, .int .i64 at', .int .i64 ar', .int .i64 ai', .int .i64 et', .int .i64 er', .int .i64 ei', .string text, .slice eA elems.length ec]).bo rfl ?_ ?_ ?_ rfl ?_; kernel_rfl; exact Nat.le_of_ble_eq_true rfl; rfl))
          go_wp2_with (first
            | (refine load_at rfl _ _ rfl w.heap.size _ _ _ rfl ((HS.out.put #[.int .i64 kind, .int .i64 nt', .int .i64 nr', .int .i64 ni', .int .i64 pt', .int .i64 pr', .int .i64 pi', .string name, .bool dir, .slice D dots.length dk, .int .i64 at', .int .i64 ar', .int .i64 ai', .int .i64 et', .int .i64 er', .int .i64 ei', .string text, .slice eA elems.length ec]).put #[.int .i64 kind, .int .i64 nt', .int .i64 nr', .int .i64 ni', .int .i64 pt', .int .i64 pr', .int .i64 pi', .string name, .bool dir, .slice D dots.length dk, .int .i64 at', .int .i64 ar', .int .i64 ai', .int .i64 et', .int .i64 er', .int .i64 ei', .string text, .slice E elems.length ek]).bo Tryd.underlying31 rfl ?_ ?_; kernel_rfl)
            | (refine store_at rfl _ _ _ rfl (w.heap.size + 1 + 1 + 1) _ _ #[.int .i64 kind, .int .i64 nt', .int .i64 nr', .int .i64 ni', .int .i64 pt', .int .i64 pr', .int .i64 pi', .string name, .bool dir, .slice D dots.length dk, .int .i64 at', .int .i64 ar', .int .i64 ai', .int .i64 et', .int .i64 er', .int .i64 ei', .string text, .slice E elems.length ek] rfl rfl ((HS.out.put #[.int .i64 kind, .int .i64 nt', .int .i64 nr', .int .i64 ni', .int .i64 pt', .int .i64 pr', .int .i64 pi', .string name, .bool dir, .slice D dots.length dk, .int .i64 at', .int .i64 ar', .int .i64 ai', .int .i64 et', .int .i64 er', .int .i64 ei', .string text, .slice eA elems.length ec]).put #[.int .i64 kind, .int .i64 nt', .int .i64 nr', .int .i64 ni', .int .i64 pt', .int .i64 pr', .int .i64 pi', .string name, .bool dir, .slice D dots.length dk, .int .i64 at', .int .i64 ar', .int .i64 ai', .int .i64 et', .int .i64 er', .int .i64 ei', .string text, .slice E elems.length ek]).bz ?_ ?_ ?_ ?_; kernel_rfl; rfl; rfl))
          refine bodyPost_ret (results_cell_row rfl _ _ (w.heap.size + 1 + 1 + 1) _ _ (0, 0) _ rfl (heap_setRow_same _ ((HS.out.put #[.int .i64 kind, .int .i64 nt', .int .i64 nr', .int .i64 ni', .int .i64 pt', .int .i64 pr', .int .i64 pi', .string name, .bool dir, .slice D dots.length dk, .int .i64 at', .int .i64 ar', .int .i64 ai', .int .i64 et', .int .i64 er', .int .i64 ei', .string text, .slice eA elems.length ec]).put #[.int .i64 kind, .int .i64 nt', .int .i64 nr', .int .i64 ni', .int .i64 pt', .int .i64 pr', .int .i64 pi', .string name, .bool dir, .slice D dots.length dk, .int .i64 at', .int .i64 ar', .int .i64 ai', .int .i64 et', .int .i64 er', .int .i64 ei', .string text, .slice E elems.length ek]).bz) Tryd.underlying31 rfl (by kernel_rfl)) rfl ?_
          refine ⟨⟨D, dk, E, ek⟩, by rw [HFIN.out], ?_, Below.setRow' ((HS.out.put #[.int .i64 kind, .int .i64 nt', .int .i64 nr', .int .i64 ni', .int .i64 pt', .int .i64 pr', .int .i64 pi', .string name, .bool dir, .slice D dots.length dk, .int .i64 at', .int .i64 ar', .int .i64 ai', .int .i64 et', .int .i64 er', .int .i64 ei', .string text, .slice eA elems.length ec]).put #[.int .i64 kind, .int .i64 nt', .int .i64 nr', .int .i64 ni', .int .i64 pt', .int .i64 pr', .int .i64 pi', .string name, .bool dir, .slice D dots.length dk, .int .i64 at', .int .i64 ar', .int .i64 ai', .int .i64 et', .int .i64 er', .int .i64 ei', .string text, .slice E elems.length ek]).bel (by omega) _⟩
          have hag : ∀ (c1 c2 c3 : Array Value), Agr (fun q => B ≤ q) wr (((wr.setRow w.heap.size c1).setRow w.heap.size c2).setRow (w.heap.size + 1 + 1 + 1) c3) := fun c1 c2 c3 => ((Agr.setRow wr w.heap.size c1 (by show ¬ B ≤ w.heap.size; omega)).trans (Agr.setRow _ w.heap.size c2 (by show ¬ B ≤ w.heap.size; omega))).trans (Agr.setRow _ (w.heap.size + 1 + 1 + 1) c3 (by show ¬ B ≤ w.heap.size + 1 + 1 + 1; omega))
          exact OpIn.sub (S := fun q => B ≤ q) ⟨RowG.agr HD1.out (hag _ _ _), RowG.agr HE1.out (hag _ _ _), by show (dots.map _).length ≤ dk; rw [List.length_map]; exact HDC.out.1, by show (elems.map _).length ≤ ek; rw [List.length_map]; exact HEC.out.1, HDC.out.2, HEC.out.2, HNT.out.1, HNT.out.2⟩ (fun q _ h => by have h : B ≤ q := h; show w.heap.size ≤ q; omega)
end Go.Proofs.YtooaodgamakoeaaDoor
end
