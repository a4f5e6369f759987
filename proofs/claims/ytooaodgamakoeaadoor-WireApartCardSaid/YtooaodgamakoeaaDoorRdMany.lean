/- How wire's reader takes many numbers, stamps, ids. Conditions: lengths in reach. -/
import Derived.Test.YtooaodgamakoeaaDoorRd
namespace Go.Proofs.YtooaodgamakoeaaDoor
open Go.RowKit Go.Lib Go.Sort
set_option linter.unusedVariables false
theorem cellsN (W : World) (xs : List Value) (e : TypeId) (j : Nat) (u : Value) (h : xs[j]? = some u) : (W.alloc (.cells xs.toArray e)).cell? ((⟨W.heap.size, 0, none⟩ : Addr).add j) = some u := by
  rw [add_zero']
  have := World.cell?_alloc_mark W xs.toArray e (0, 0) j
  rw [this]
  simpa using h
/-- a list that a row of memory holds -/
def PRow {α : Type} (B : Nat) (e : TypeId) (size : Nat) (enc : α → List Value) (xs : List α) (w' : World) (v : Value) : Prop :=
  (∃ A c, v = .slice A xs.length c) ∧ w'.ownsRow B e size v xs.length (xs.flatMap enc) ∧ xs.length ≤ 1000001
def PRowI (B : Nat) (e : TypeId) (size : Nat) (enc : Int → List Value) (xs : List Int) (w' : World) (v : Value) : Prop :=
  (∃ A c, v = .slice A xs.length c) ∧ w'.ownsRow B e size v xs.length (xs.flatMap enc) ∧ xs.length ≤ 1000001 ∧ ∀ x ∈ xs, okI x
theorem row_slice {w : World} {B : Nat} {e : TypeId} {size : Nat} {v : Value} {n : Nat} {xs : List Value} (h : w.ownsRow B e size v n xs) : ∃ A c, v = .slice A n c := by
  rcases h.2 with ⟨rfl, rfl⟩ | ⟨g, cap, cur, rfl, _⟩
  · exact ⟨_, _, rfl⟩
  · exact ⟨_, _, rfl⟩
def intC_ (x : Int) : List Value := [.int .i64 x]
theorem lenintC_ (xs : List Int) : (xs.flatMap intC_).length = xs.length * 1 := by
  induction xs with
  | nil => rfl
  | cons x xs ih => rw [List.flatMap_cons, List.length_append, ih, List.length_cons]; show 1 + _ = _; omega
theorem ocintC_ (x : Int) : ∀ u ∈ intC_ x, u.oneCell' = true := by
  intro u hu
  simp only [intC_, List.mem_cons, List.not_mem_nil, or_false] at hu
  subst hu; rfl
theorem infointC_ : (Tryd.prog.info? 3).map (fun i => (i.zero, i.size, i.bytes)) = some (some (.int .i64 0), 1, 8) := by kernel_rfl
set_option maxRecDepth 100000 in
set_option maxHeartbeats 4000000 in
theorem rmany_int (b : Nat) (s : ByteArray) (bad : Bool) (w : World) (hs : s.size ≤ 1000000) (hR : Rdr w b s bad) :
    Calls Tryd.prog 51 #[.pointer (some ⟨b, 0, none⟩), .func (Fn.func 50) #[.pointer (some ⟨b, 0, none⟩)] #[]] w (RdQ (manyR intR) (PRowI w.heap.size 3 1 intC_) b s bad w) := by
  obtain ⟨i0, hi, hz0, hz1, hz2⟩ := info_parts infointC_
  have hlt := hR.lt
  have HR0 := Lib.hid (hR.kept (World.grownBy_alloc w (.cells #[] 3) none) (by simp))
  have HA0 := Lib.hid (heap_alloc_new w (.cells #[] 3))
  have HG0 := Lib.hid (World.grownBy_alloc w (.cells #[] 3) (some b))
  clear hR
  go_enter Tryd.func51, Tryd.ntmps51
  go_wp2_with fail
  refine (rnat_any b s bad _ hs HR0.out).mono ?_
  rintro e w1 ⟨n0, v, s1, bad1, rfl, ⟨rfl, hn0⟩, hR1, hg1, hd1⟩
  obtain ⟨n, rfl⟩ := Int.eq_ofNat_of_zero_le hn0.1
  have hn : n < 9223372036854775808 := by have := hn0.2; omega
  have hs1 := rd_size hd1 hs
  have HD1 := Lib.hid hd1
  have HG1 := Lib.hid (gby_trans HG0.out hg1)
  have HA1 := Lib.hid ((hg1.block w.heap.size (by simp) (by intro e; cases e; omega)).trans HA0.out)
  have HR1 := Lib.hid hR1
  clear hd1 hg1 hR1 hn0
  go_wp2
  go_loopw [5, 6] (fun v m wr => ∃ (k : Nat) (xs : List Int) (s' : ByteArray) (bad' : Bool), m = .int .i64 k ∧ k ≤ n ∧ wr.ownsRow w.heap.size 3 1 v xs.length (xs.flatMap intC_) ∧ Hid (Rdr wr b s' bad') ∧ Hid (w.grownBy wr (some b)) ∧ Hid (ManyAt intR n s1.data.toList bad1 k xs s'.data.toList bad') ∧ Hid (∀ x ∈ xs, okI x)) (fun _ m _ => (RowKit.intOf m).toNat)
  case atStart => exact ⟨n, [], s1, bad1, rfl, Nat.le_refl _, ⟨rfl, .inr ⟨w.heap.size, 0, #[], rfl, Nat.le_refl _, HA1.out, Nat.le_refl _, by unfold maxLen; omega, rfl, rfl⟩⟩, HR1, HG1, Lib.hid ManyAt.start, Lib.hid (fun x hx => by cases hx)⟩
  case round =>
    obtain ⟨k, xs, s', bad', rfl, hk, hO, HR, HG, HM, HX⟩ := hrel
    have hle := HM.out.le
    have hfew := HM.out.few
    have hl1 : s1.data.toList.length = s1.size := by simp
    have hl2 : s'.data.toList.length = s'.size := by simp
    have hxl : xs.length ≤ 1000001 := by split at hfew <;> omega
    have hfin : ∀ h : bad' = true ∨ k = 0, RdQ (manyR intR) (PRowI w.heap.size 3 1 intC_) b s bad w (.returned u5) wr := fun h =>
      ⟨xs, u5, s', bad', rfl, ⟨row_slice hO, hO, hxl, HX.out⟩, HR.out, HG.out, RdIs.many HD1.out (by rw [Int.toNat_natCast]; exact HM.out.done h)⟩
    have HF := Lib.hid hfin
    have c1 := HR.out.c1
    have hs' : s'.size ≤ 1000000 := by omega
    clear hfin hle hfew hl1 hl2
    cases bad' with
    | true =>
      go_wp2
      all_goals
        go_ret
        exact HF.out (.inl (by first | rfl | trivial))
    | false =>
      by_cases h0 : 0 < k
      · obtain ⟨m, rfl⟩ : ∃ m, k = m + 1 := ⟨k - 1, by omega⟩
        have HC := Lib.hid (rnat_any b s' false wr hs' HR.out)
        have HB := Lib.hid (fun g e => (hO.lt g e).1)
        have HB2 := Lib.hid (show u5.ownBlock ≠ some b from fun e => by have := (hO.lt b e).1; omega)
        have hsz := HG.out.size
        have HO1 := Lib.hid hO
        clear hO
        go_wp2_with (first
          | (go_at_call 50; refine HC.out.mono ?_; rintro e w2 ⟨x, v2, s2, bad2, rfl, ⟨hv, hx⟩, hR2, hg2, hd2⟩; obtain rfl : v2 = .int .i64 x := hv; have HR2 := Lib.hid hR2; have HG2 := Lib.hid hg2; have HD2 := Lib.hid hd2; have hsz2 := hg2.size; have HO2 := Lib.hid (HO1.out.kept hg2 (.inr HB2.out)); clear hR2 hg2 hd2; have HO := Lib.hid hx; clear hx)
          | (at_builtin; refine wpList_append_own _ rfl _ _ 23 rfl w.heap.size 3 i0 (.int .i64 0) 1 8 Tryd.underlying23 hi hz0 hz1 hz2 rfl (by decide) _ _ _ rfl (by exact HO2.out.alloc _) ⟨w2.heap.size, 0, none⟩ 1 1 (intC_ x) rfl rfl (by exact cellsN _ _ _) (by exact ocintC_ _) (by unfold maxLen; omega) (by omega) (by simp; omega) ?_; intro v' w3 hown' hgrow _; have HO3 := Lib.hid hown'; have HG3 := Lib.hid hgrow; clear hown' hgrow))
        go_roundw
        case rel => exact ⟨m, xs ++ [x], s2, bad2, by go_num, by omega, by rw [List.length_append, List.flatMap_append, List.flatMap_singleton]; exact HO3.out, Lib.hid ((HR2.out.kept (World.grownBy_alloc w2 _ none) (by simp)).kept HG3.out HB2.out), Lib.hid (gby_new (gby_alloc (gby_trans HG.out HG2.out) _) HG3.out HB.out), Lib.hid (HM.out.next intT HD2.out), Lib.hid (fun y hy => by rcases List.mem_append.1 hy with hy | hy; exact HX.out y hy; simp at hy; rw [hy]; exact HO.out)⟩
        case measure => simp [RowKit.intOf]
      · obtain rfl : k = 0 := by omega
        go_wp2
        go_ret
        exact HF.out (.inr (by first | rfl | trivial))
def stC_ (x : Gst) : List Value := [.int .i64 x.t, .int .i64 x.r]
theorem lenstC_ (xs : List Gst) : (xs.flatMap stC_).length = xs.length * 2 := by
  induction xs with
  | nil => rfl
  | cons x xs ih => rw [List.flatMap_cons, List.length_append, ih, List.length_cons]; show 2 + _ = _; omega
theorem ocstC_ (x : Gst) : ∀ u ∈ stC_ x, u.oneCell' = true := by
  intro u hu
  simp only [stC_, List.mem_cons, List.not_mem_nil, or_false] at hu
  rcases hu with rfl | rfl <;> rfl
theorem infostC_ : (Tryd.prog.info? 25).map (fun i => (i.zero, i.size, i.bytes)) = some (some (.agg #[.int .i64 0, .int .i64 0]), 2, 16) := by kernel_rfl
set_option maxRecDepth 100000 in
set_option maxHeartbeats 4000000 in
theorem rmany_st (b : Nat) (s : ByteArray) (bad : Bool) (w : World) (hs : s.size ≤ 1000000) (hR : Rdr w b s bad) :
    Calls Tryd.prog 83 #[.pointer (some ⟨b, 0, none⟩), .func (Fn.func 49) #[.pointer (some ⟨b, 0, none⟩)] #[]] w (RdQ (manyR stR) (PRow w.heap.size 25 2 stC_) b s bad w) := by
  obtain ⟨i0, hi, hz0, hz1, hz2⟩ := info_parts infostC_
  have hlt := hR.lt
  have HR0 := Lib.hid (hR.kept (World.grownBy_alloc w (.cells #[] 25) none) (by simp))
  have HA0 := Lib.hid (heap_alloc_new w (.cells #[] 25))
  have HG0 := Lib.hid (World.grownBy_alloc w (.cells #[] 25) (some b))
  clear hR
  go_enter Tryd.func83, Tryd.ntmps83
  go_wp2_with fail
  refine (rnat_any b s bad _ hs HR0.out).mono ?_
  rintro e w1 ⟨n0, v, s1, bad1, rfl, ⟨rfl, hn0⟩, hR1, hg1, hd1⟩
  obtain ⟨n, rfl⟩ := Int.eq_ofNat_of_zero_le hn0.1
  have hn : n < 9223372036854775808 := by have := hn0.2; omega
  have hs1 := rd_size hd1 hs
  have HD1 := Lib.hid hd1
  have HG1 := Lib.hid (gby_trans HG0.out hg1)
  have HA1 := Lib.hid ((hg1.block w.heap.size (by simp) (by intro e; cases e; omega)).trans HA0.out)
  have HR1 := Lib.hid hR1
  clear hd1 hg1 hR1 hn0
  go_wp2
  go_loopw [5, 6] (fun v m wr => ∃ (k : Nat) (xs : List Gst) (s' : ByteArray) (bad' : Bool), m = .int .i64 k ∧ k ≤ n ∧ wr.ownsRow w.heap.size 25 2 v xs.length (xs.flatMap stC_) ∧ Hid (Rdr wr b s' bad') ∧ Hid (w.grownBy wr (some b)) ∧ Hid (ManyAt stR n s1.data.toList bad1 k xs s'.data.toList bad')) (fun _ m _ => (RowKit.intOf m).toNat)
  case atStart => exact ⟨n, [], s1, bad1, rfl, Nat.le_refl _, ⟨rfl, .inr ⟨w.heap.size, 0, #[], rfl, Nat.le_refl _, HA1.out, Nat.le_refl _, by unfold maxLen; omega, rfl, rfl⟩⟩, HR1, HG1, Lib.hid ManyAt.start⟩
  case round =>
    obtain ⟨k, xs, s', bad', rfl, hk, hO, HR, HG, HM⟩ := hrel
    have hle := HM.out.le
    have hfew := HM.out.few
    have hl1 : s1.data.toList.length = s1.size := by simp
    have hl2 : s'.data.toList.length = s'.size := by simp
    have hxl : xs.length ≤ 1000001 := by split at hfew <;> omega
    have hfin : ∀ h : bad' = true ∨ k = 0, RdQ (manyR stR) (PRow w.heap.size 25 2 stC_) b s bad w (.returned u5) wr := fun h =>
      ⟨xs, u5, s', bad', rfl, ⟨row_slice hO, hO, hxl⟩, HR.out, HG.out, RdIs.many HD1.out (by rw [Int.toNat_natCast]; exact HM.out.done h)⟩
    have HF := Lib.hid hfin
    have c1 := HR.out.c1
    have hs' : s'.size ≤ 1000000 := by omega
    clear hfin hle hfew hl1 hl2
    cases bad' with
    | true =>
      go_wp2
      all_goals
        go_ret
        exact HF.out (.inl (by first | rfl | trivial))
    | false =>
      by_cases h0 : 0 < k
      · obtain ⟨m, rfl⟩ : ∃ m, k = m + 1 := ⟨k - 1, by omega⟩
        have HC := Lib.hid (rstamp_any b s' false wr hs' HR.out)
        have HB := Lib.hid (fun g e => (hO.lt g e).1)
        have HB2 := Lib.hid (show u5.ownBlock ≠ some b from fun e => by have := (hO.lt b e).1; omega)
        have hsz := HG.out.size
        have HO1 := Lib.hid hO
        clear hO
        go_wp2_with (first
          | (go_at_call 49; refine HC.out.mono ?_; rintro e w2 ⟨⟨t, r⟩, v2, s2, bad2, rfl, hv, hR2, hg2, hd2⟩; obtain rfl : v2 = .agg #[.int .i64 t, .int .i64 r] := hv; have HR2 := Lib.hid hR2; have HG2 := Lib.hid hg2; have HD2 := Lib.hid hd2; have hsz2 := hg2.size; have HO2 := Lib.hid (HO1.out.kept hg2 (.inr HB2.out)); clear hR2 hg2 hd2)
          | (at_builtin; refine wpList_append_own _ rfl _ _ 28 rfl w.heap.size 25 i0 (.agg #[.int .i64 0, .int .i64 0]) 2 16 Tryd.underlying28 hi hz0 hz1 hz2 rfl (by decide) _ _ _ rfl (by exact HO2.out.alloc _) ⟨w2.heap.size, 0, none⟩ 1 1 (stC_ (⟨t, r⟩ : Gst)) rfl rfl (by exact cellsN _ _ _) (by exact ocstC_ _) (by unfold maxLen; omega) (by omega) (by simp; omega) ?_; intro v' w3 hown' hgrow _; have HO3 := Lib.hid hown'; have HG3 := Lib.hid hgrow; clear hown' hgrow))
        go_roundw
        case rel => exact ⟨m, xs ++ [(⟨t, r⟩ : Gst)], s2, bad2, by go_num, by omega, by rw [List.length_append, List.flatMap_append, List.flatMap_singleton]; exact HO3.out, Lib.hid ((HR2.out.kept (World.grownBy_alloc w2 _ none) (by simp)).kept HG3.out HB2.out), Lib.hid (gby_new (gby_alloc (gby_trans HG.out HG2.out) _) HG3.out HB.out), Lib.hid (HM.out.next stT HD2.out)⟩
        case measure => simp [RowKit.intOf]
      · obtain rfl : k = 0 := by omega
        go_wp2
        go_ret
        exact HF.out (.inr (by first | rfl | trivial))
def idC_ (x : Gid) : List Value := [.int .i64 x.s.t, .int .i64 x.s.r, .int .i64 x.i]
theorem lenidC_ (xs : List Gid) : (xs.flatMap idC_).length = xs.length * 3 := by
  induction xs with
  | nil => rfl
  | cons x xs ih => rw [List.flatMap_cons, List.length_append, ih, List.length_cons]; show 3 + _ = _; omega
theorem ocidC_ (x : Gid) : ∀ u ∈ idC_ x, u.oneCell' = true := by
  intro u hu
  simp only [idC_, List.mem_cons, List.not_mem_nil, or_false] at hu
  rcases hu with rfl | rfl | rfl <;> rfl
theorem infoidC_ : (Tryd.prog.info? 27).map (fun i => (i.zero, i.size, i.bytes)) = some (some (.agg #[.int .i64 0, .int .i64 0, .int .i64 0]), 3, 24) := by kernel_rfl
set_option maxRecDepth 100000 in
set_option maxHeartbeats 4000000 in
theorem rmany_id (b : Nat) (s : ByteArray) (bad : Bool) (w : World) (hs : s.size ≤ 1000000) (hR : Rdr w b s bad) :
    Calls Tryd.prog 84 #[.pointer (some ⟨b, 0, none⟩), .func (Fn.func 81) #[.pointer (some ⟨b, 0, none⟩)] #[]] w (RdQ (manyR idR) (PRow w.heap.size 27 3 idC_) b s bad w) := by
  obtain ⟨i0, hi, hz0, hz1, hz2⟩ := info_parts infoidC_
  have hlt := hR.lt
  have HR0 := Lib.hid (hR.kept (World.grownBy_alloc w (.cells #[] 27) none) (by simp))
  have HA0 := Lib.hid (heap_alloc_new w (.cells #[] 27))
  have HG0 := Lib.hid (World.grownBy_alloc w (.cells #[] 27) (some b))
  clear hR
  go_enter Tryd.func84, Tryd.ntmps84
  go_wp2_with fail
  refine (rnat_any b s bad _ hs HR0.out).mono ?_
  rintro e w1 ⟨n0, v, s1, bad1, rfl, ⟨rfl, hn0⟩, hR1, hg1, hd1⟩
  obtain ⟨n, rfl⟩ := Int.eq_ofNat_of_zero_le hn0.1
  have hn : n < 9223372036854775808 := by have := hn0.2; omega
  have hs1 := rd_size hd1 hs
  have HD1 := Lib.hid hd1
  have HG1 := Lib.hid (gby_trans HG0.out hg1)
  have HA1 := Lib.hid ((hg1.block w.heap.size (by simp) (by intro e; cases e; omega)).trans HA0.out)
  have HR1 := Lib.hid hR1
  clear hd1 hg1 hR1 hn0
  go_wp2
  go_loopw [5, 6] (fun v m wr => ∃ (k : Nat) (xs : List Gid) (s' : ByteArray) (bad' : Bool), m = .int .i64 k ∧ k ≤ n ∧ wr.ownsRow w.heap.size 27 3 v xs.length (xs.flatMap idC_) ∧ Hid (Rdr wr b s' bad') ∧ Hid (w.grownBy wr (some b)) ∧ Hid (ManyAt idR n s1.data.toList bad1 k xs s'.data.toList bad')) (fun _ m _ => (RowKit.intOf m).toNat)
  case atStart => exact ⟨n, [], s1, bad1, rfl, Nat.le_refl _, ⟨rfl, .inr ⟨w.heap.size, 0, #[], rfl, Nat.le_refl _, HA1.out, Nat.le_refl _, by unfold maxLen; omega, rfl, rfl⟩⟩, HR1, HG1, Lib.hid ManyAt.start⟩
  case round =>
    obtain ⟨k, xs, s', bad', rfl, hk, hO, HR, HG, HM⟩ := hrel
    have hle := HM.out.le
    have hfew := HM.out.few
    have hl1 : s1.data.toList.length = s1.size := by simp
    have hl2 : s'.data.toList.length = s'.size := by simp
    have hxl : xs.length ≤ 1000001 := by split at hfew <;> omega
    have hfin : ∀ h : bad' = true ∨ k = 0, RdQ (manyR idR) (PRow w.heap.size 27 3 idC_) b s bad w (.returned u5) wr := fun h =>
      ⟨xs, u5, s', bad', rfl, ⟨row_slice hO, hO, hxl⟩, HR.out, HG.out, RdIs.many HD1.out (by rw [Int.toNat_natCast]; exact HM.out.done h)⟩
    have HF := Lib.hid hfin
    have c1 := HR.out.c1
    have hs' : s'.size ≤ 1000000 := by omega
    clear hfin hle hfew hl1 hl2
    cases bad' with
    | true =>
      go_wp2
      all_goals
        go_ret
        exact HF.out (.inl (by first | rfl | trivial))
    | false =>
      by_cases h0 : 0 < k
      · obtain ⟨m, rfl⟩ : ∃ m, k = m + 1 := ⟨k - 1, by omega⟩
        have HC := Lib.hid (rid_any b s' false wr hs' HR.out)
        have HB := Lib.hid (fun g e => (hO.lt g e).1)
        have HB2 := Lib.hid (show u5.ownBlock ≠ some b from fun e => by have := (hO.lt b e).1; omega)
        have hsz := HG.out.size
        have HO1 := Lib.hid hO
        clear hO
        go_wp2_with (first
          | (go_at_call 81; refine HC.out.mono ?_; rintro e w2 ⟨⟨⟨t, r⟩, i⟩, v2, s2, bad2, rfl, hv, hR2, hg2, hd2⟩; obtain rfl : v2 = .agg #[.int .i64 t, .int .i64 r, .int .i64 i] := hv; have HR2 := Lib.hid hR2; have HG2 := Lib.hid hg2; have HD2 := Lib.hid hd2; have hsz2 := hg2.size; have HO2 := Lib.hid (HO1.out.kept hg2 (.inr HB2.out)); clear hR2 hg2 hd2)
          | (at_builtin; refine wpList_append_own _ rfl _ _ 29 rfl w.heap.size 27 i0 (.agg #[.int .i64 0, .int .i64 0, .int .i64 0]) 3 24 Tryd.underlying29 hi hz0 hz1 hz2 rfl (by decide) _ _ _ rfl (by exact HO2.out.alloc _) ⟨w2.heap.size, 0, none⟩ 1 1 (idC_ (⟨⟨t, r⟩, i⟩ : Gid)) rfl rfl (by exact cellsN _ _ _) (by exact ocidC_ _) (by unfold maxLen; omega) (by omega) (by simp; omega) ?_; intro v' w3 hown' hgrow _; have HO3 := Lib.hid hown'; have HG3 := Lib.hid hgrow; clear hown' hgrow))
        go_roundw
        case rel => exact ⟨m, xs ++ [(⟨⟨t, r⟩, i⟩ : Gid)], s2, bad2, by go_num, by omega, by rw [List.length_append, List.flatMap_append, List.flatMap_singleton]; exact HO3.out, Lib.hid ((HR2.out.kept (World.grownBy_alloc w2 _ none) (by simp)).kept HG3.out HB2.out), Lib.hid (gby_new (gby_alloc (gby_trans HG.out HG2.out) _) HG3.out HB.out), Lib.hid (HM.out.next idT HD2.out)⟩
        case measure => simp [RowKit.intOf]
      · obtain rfl : k = 0 := by omega
        go_wp2
        go_ret
        exact HF.out (.inr (by first | rfl | trivial))
end Go.Proofs.YtooaodgamakoeaaDoor
