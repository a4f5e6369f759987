/- How wire's reader takes many operations. Conditions: lengths in reach. -/
import Derived.Test.YtooaodgamakoeaaDoorRdOp
import Derived.Maps.AppendAt
namespace Go.Proofs.YtooaodgamakoeaaDoor
open Go.RowKit Go.Lib Go.Sort
set_option linter.unusedVariables false
def opC_ (p : Gop × OpX) : List Value := (opA p.1 p.2).toList
theorem lenopC_ (xs : List (Gop × OpX)) : (xs.flatMap opC_).length = xs.length * 18 := by
  induction xs with
  | nil => rfl
  | cons x xs ih => rw [List.flatMap_cons, List.length_append, ih, List.length_cons]; show 18 + _ = _; omega
theorem oc_of {c : Array Value} (h : c.toList.all (·.oneCell') = true) : ∀ u ∈ c.toList, u.oneCell' = true := List.all_eq_true.1 h
theorem infoOp : (Tryd.prog.info? 31).map (fun i => (i.zero, i.size, i.bytes)) = some (some (.agg #[.int .i64 0, .int .i64 0, .int .i64 0, .int .i64 0, .int .i64 0, .int .i64 0, .int .i64 0, .string ⟨#[]⟩, .bool false, .slice none 0 0, .int .i64 0, .int .i64 0, .int .i64 0, .int .i64 0, .int .i64 0, .int .i64 0, .string ⟨#[]⟩, .slice none 0 0]), 18, 192) := by kernel_rfl
/-- what is known of an operation that was read -/
def OpGood (w : World) (S : Nat → Prop) (p : Gop × OpX) : Prop := OpIn w S p.1 p.2 ∧ p.1.name.size ≤ 1000000 ∧ p.1.text.size ≤ 1000000
theorem OpGood.agr {w w' : World} {S : Nat → Prop} {p : Gop × OpX} (h : OpGood w S p) (ha : Agr S w w') : OpGood w' S p := ⟨h.1.agr ha, h.2⟩
theorem OpGood.sub {w : World} {S T : Nat → Prop} {p : Gop × OpX} (h : OpGood w S p) (hs : ∀ b, b < w.heap.size → S b → T b) : OpGood w T p := ⟨h.1.sub hs, h.2⟩
/-- many operations that were read: their cells in a row of the call's own, all else in other blocks of the call's own -/
def POps (B : Nat) (xs : List Gop) (w' : World) (v : Value) : Prop :=
  ∃ (L : List (Gop × OpX)) (S : Nat → Prop), L.map Prod.fst = xs ∧ (∃ A c, v = .slice A xs.length c) ∧ w'.ownsRow B 31 18 v xs.length (L.flatMap opC_) ∧ xs.length ≤ 1000001 ∧ (∀ p ∈ L, OpGood w' S p) ∧ ∀ k, S k → B ≤ k ∧ k < w'.heap.size ∧ v.ownBlock ≠ some k
/-- where the walk stands -/
structure OpsAt (B : Nat) (v : Value) (L : List (Gop × OpX)) (S : Nat → Prop) (wr : World) : Prop where
  good : ∀ p ∈ L, OpGood wr S p
  old : ∀ k, S k → B ≤ k ∧ k < wr.heap.size ∧ v.ownBlock ≠ some k
theorem OpsAt.next {B : Nat} {v v' : Value} {L : List (Gop × OpX)} {S : Nat → Prop} {wr w2 w3 : World} {b : Nat} {c : Obj} {o : Gop} {x : OpX} (h : OpsAt B v L S wr) (hB : B ≤ wr.heap.size) (hb : b < B) (hv : ∀ g, v.ownBlock = some g → g < wr.heap.size)
    (hg : wr.grownBy w2 (some b)) (ho : OpIn w2 (fun k => wr.heap.size ≤ k) o x) (hn : o.name.size ≤ 1000000) (ht : o.text.size ≤ 1000000) (hgr : (w2.alloc c).grownBy w3 v.ownBlock) (hv' : v'.ownBlock = v.ownBlock ∨ v'.ownBlock = some (w2.alloc c).heap.size) :
    ∃ S', OpsAt B v' (L ++ [(o, x)]) S' w3 := by
  have hs := hg.size
  have hs3 : w2.heap.size + 1 ≤ w3.heap.size := by have := hgr.size; simpa using this
  have hA1 : Agr (fun k => S k ∨ (wr.heap.size ≤ k ∧ k < w2.heap.size)) w2 w3 := by
    have h1 : Agr (fun k => S k ∨ (wr.heap.size ≤ k ∧ k < w2.heap.size)) w2 (w2.alloc c) := Agr.below ((Below.refl _ _).alloc (Nat.le_refl _) _)
    refine h1.trans (Agr.grown hgr fun g e hS => ?_)
    have := hv g e
    rcases hS with hS | hS
    · exact (h.old g hS).2.2 e
    · omega
  have hA0 : Agr S wr w2 := Agr.grown hg fun g e hS => by cases e; have := (h.old b hS).1; omega
  refine ⟨fun k => S k ∨ (wr.heap.size ≤ k ∧ k < w2.heap.size), fun p hp => ?_, fun k hk => ?_⟩
  · rcases List.mem_append.1 hp with hp | hp
    · exact (((h.good p hp).agr hA0).sub fun b _ hS => .inl hS).agr hA1
    · rw [List.mem_singleton] at hp
      subst hp
      exact ⟨(ho.sub fun b hb hS => .inr ⟨hS, hb⟩).agr hA1, hn, ht⟩
  · rcases hk with hk | hk
    · have := h.old k hk
      refine ⟨this.1, by omega, fun e => ?_⟩
      rcases hv' with hv' | hv'
      · exact this.2.2 (hv'.symm.trans e)
      · rw [hv'] at e; cases e; simp at this; omega
    · refine ⟨by omega, by omega, fun e => ?_⟩
      rcases hv' with hv' | hv'
      · have := hv k (hv'.symm.trans e); omega
      · rw [hv'] at e; cases e; simp at hk; omega
set_option maxRecDepth 100000 in
set_option maxHeartbeats 8000000 in
theorem rmany_op (b : Nat) (s : ByteArray) (bad : Bool) (w : World) (hs : s.size ≤ 1000000) (hR : Rdr w b s bad) :
    Calls Tryd.prog 52 #[.pointer (some ⟨b, 0, none⟩), .func (Fn.func 53) #[.pointer (some ⟨b, 0, none⟩)] #[]] w (RdQ (manyR opR) (POps w.heap.size) b s bad w) := by
  obtain ⟨i0, hi, hz0, hz1, hz2⟩ := info_parts infoOp
  have hlt := hR.lt
  have HR0 := Lib.hid (hR.kept (World.grownBy_alloc w (.cells #[] 31) none) (by simp))
  have HA0 := Lib.hid (heap_alloc_new w (.cells #[] 31))
  have HG0 := Lib.hid (World.grownBy_alloc w (.cells #[] 31) (some b))
  clear hR
  go_enter Tryd.func52, Tryd.ntmps52
  go_wp2_with fail
  refine (rnat_any b s bad _ hs HR0.out).mono ?_
  rintro e w1 ⟨n0, v, s1, bad1, rfl, ⟨rfl, hn0⟩, hR1, hg1, hd1⟩
  obtain ⟨n, rfl⟩ := Int.eq_ofNat_of_zero_le hn0.1
  have hn : n < 9223372036854775808 := by have := hn0.2; omega
  have hs1 := rd_size hd1 hs
  have HD1 := Lib.hid hd1
  have HG1 := Lib.hid (gby_trans HG0.out hg1)
  have HA1 := Lib.hid ((hg1.block w.heap.size (by simp) (by intro e; cases e; omega)).trans HA0.out)
  have HR1 := Lib.hid hR1
  clear hd1 hg1 hR1 hn0
  go_wp2
  go_loopw [5, 6] (fun v m wr => ∃ (k : Nat) (L : List (Gop × OpX)) (s' : ByteArray) (bad' : Bool) (S : Nat → Prop), m = .int .i64 k ∧ k ≤ n ∧ wr.ownsRow w.heap.size 31 18 v L.length (L.flatMap opC_) ∧ Hid (Rdr wr b s' bad') ∧ Hid (w.grownBy wr (some b)) ∧ Hid (ManyAt opR n s1.data.toList bad1 k (L.map Prod.fst) s'.data.toList bad') ∧ Hid (OpsAt w.heap.size v L S wr)) (fun _ m _ => (RowKit.intOf m).toNat)
  case atStart => exact ⟨n, [], s1, bad1, fun _ => False, rfl, Nat.le_refl _, ⟨rfl, .inr ⟨w.heap.size, 0, #[], rfl, Nat.le_refl _, HA1.out, Nat.le_refl _, by unfold maxLen; omega, rfl, rfl⟩⟩, HR1, HG1, Lib.hid ManyAt.start, Lib.hid ⟨fun p hp => (by cases hp), fun k hk => hk.elim⟩⟩
  case round =>
    obtain ⟨k, L, s', bad', S, rfl, hk, hO, HR, HG, HM, HP⟩ := hrel
    have hle := HM.out.le
    have hfew := HM.out.few
    have hl1 : s1.data.toList.length = s1.size := by simp
    have hl2 : s'.data.toList.length = s'.size := by simp
    have hl3 : (L.map Prod.fst).length = L.length := by simp
    have hxl : L.length ≤ 1000001 := by split at hfew <;> omega
    have hfin : ∀ h : bad' = true ∨ k = 0, RdQ (manyR opR) (POps w.heap.size) b s bad w (.returned u5) wr := fun h =>
      ⟨L.map Prod.fst, u5, s', bad', rfl, ⟨L, S, rfl, by rw [hl3]; exact row_slice hO, by rw [hl3]; exact hO, by rw [hl3]; exact hxl, HP.out.good, HP.out.old⟩, HR.out, HG.out, RdIs.many HD1.out (by rw [Int.toNat_natCast]; exact HM.out.done h)⟩
    have HF := Lib.hid hfin
    have c1 := HR.out.c1
    have hs' : s'.size ≤ 1000000 := by omega
    clear hfin hle hfew hl1 hl2 hl3
    cases bad' with
    | true =>
      go_wp2
      all_goals
        go_ret
        exact HF.out (.inl (by first | rfl | trivial))
    | false =>
      by_cases h0 : 0 < k
      · obtain ⟨m, rfl⟩ : ∃ m, k = m + 1 := ⟨k - 1, by omega⟩
        have HC := Lib.hid (rop_any b s' false wr hs' HR.out)
        have HB := Lib.hid (fun g e => (hO.lt g e).1)
        have HB3 := Lib.hid (fun g e => (hO.lt g e).2)
        have HB2 := Lib.hid (show u5.ownBlock ≠ some b from fun e => by have := (hO.lt b e).1; omega)
        have hsz := HG.out.size
        have HO1 := Lib.hid hO
        clear hO
        go_wp2_with fail
        refine HC.out.mono ?_
        rintro e w2 ⟨o, v2, s2, bad2, rfl, ⟨x, hv, hin, hnm, htx⟩, hR2, hg2, hd2⟩
        have HR2 := Lib.hid hR2
        have HG2 := Lib.hid hg2
        have HD2 := Lib.hid hd2
        have hsz2 := hg2.size
        have HO2 := Lib.hid (HO1.out.kept hg2 (.inr HB2.out))
        have HI2 := Lib.hid hin
        have HN2 := Lib.hid (And.intro hnm htx)
        clear hR2 hg2 hd2 hin hnm htx
        have HOG := Lib.hid (fun v' w3 (c : Obj) (hgr : (w2.alloc c).grownBy w3 u5.ownBlock) h => OpsAt.next HP.out hsz hlt HB3.out HG2.out HI2.out HN2.out.1 HN2.out.2 hgr (v' := v') h)
        have HM2 := Lib.hid (HM.out.next opT HD2.out)
        clear HI2 HN2
        obtain ⟨kind, ⟨⟨nt, nr⟩, ni⟩, ⟨⟨pt, pr⟩, pi⟩, name, dir, dots, ⟨⟨at_, ar⟩, ai⟩, ⟨⟨et, er⟩, ei⟩, text, elems⟩ := o
        obtain ⟨xd, xdc, xe, xec⟩ := x
        obtain rfl : v2 = .agg #[.int .i64 kind, .int .i64 nt, .int .i64 nr, .int .i64 ni, .int .i64 pt, .int .i64 pr, .int .i64 pi, .string name, .bool dir, .slice xd dots.length xdc, .int .i64 at_, .int .i64 ar, .int .i64 ai, .int .i64 et, .int .i64 er, .int .i64 ei, .string text, .slice xe elems.length xec] := hv
        go_wp2_with (at_builtin; refine wpList_append_own_at _ rfl _ _ 32 rfl w.heap.size 31 i0 (.agg #[.int .i64 0, .int .i64 0, .int .i64 0, .int .i64 0, .int .i64 0, .int .i64 0, .int .i64 0, .string ⟨#[]⟩, .bool false, .slice none 0 0, .int .i64 0, .int .i64 0, .int .i64 0, .int .i64 0, .int .i64 0, .int .i64 0, .string ⟨#[]⟩, .slice none 0 0]) 18 192 Tryd.underlying32 hi hz0 hz1 hz2 rfl (by decide) _ _ _ rfl (by exact HO2.out.alloc _) ⟨w2.heap.size, 0, none⟩ 1 1 [.int .i64 kind, .int .i64 nt, .int .i64 nr, .int .i64 ni, .int .i64 pt, .int .i64 pr, .int .i64 pi, .string name, .bool dir, .slice xd dots.length xdc, .int .i64 at_, .int .i64 ar, .int .i64 ai, .int .i64 et, .int .i64 er, .int .i64 ei, .string text, .slice xe elems.length xec] rfl rfl (by exact cellsN _ _ _) (by exact oc_of (c := #[.int .i64 kind, .int .i64 nt, .int .i64 nr, .int .i64 ni, .int .i64 pt, .int .i64 pr, .int .i64 pi, .string name, .bool dir, .slice xd dots.length xdc, .int .i64 at_, .int .i64 ar, .int .i64 ai, .int .i64 et, .int .i64 er, .int .i64 ei, .string text, .slice xe elems.length xec]) rfl) (by unfold maxLen; omega) (by omega) (by simp; omega) ?_; intro v' w3 hown' hgrow _ hat; have HO3 := Lib.hid hown'; have HG3 := Lib.hid hgrow; have HA3 := Lib.hid hat; clear hown' hgrow hat)
        go_roundw
        case rel =>
          obtain ⟨S', hS'⟩ := HOG.out _ _ _ HG3.out HA3.out
          exact ⟨m, L ++ [(⟨kind, ⟨⟨nt, nr⟩, ni⟩, ⟨⟨pt, pr⟩, pi⟩, name, dir, dots, ⟨⟨at_, ar⟩, ai⟩, ⟨⟨et, er⟩, ei⟩, text, elems⟩, ⟨xd, xdc, xe, xec⟩)], s2, bad2, S', by go_num, by omega, by rw [List.length_append, List.flatMap_append, List.flatMap_singleton]; exact HO3.out, Lib.hid ((HR2.out.kept (World.grownBy_alloc w2 _ none) (by simp)).kept HG3.out HB2.out), Lib.hid (gby_new (gby_alloc (gby_trans HG.out HG2.out) _) HG3.out HB.out), Lib.hid (by rw [List.map_append]; exact HM2.out), Lib.hid hS'⟩
        case measure => simp [RowKit.intOf]
      · obtain rfl : k = 0 := by omega
        go_wp2
        go_ret
        exact HF.out (.inr (by first | rfl | trivial))
end Go.Proofs.YtooaodgamakoeaaDoor
