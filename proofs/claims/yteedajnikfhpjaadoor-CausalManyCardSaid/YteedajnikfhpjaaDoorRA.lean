/- How wire's reader takes numbers, texts, stamps and ids. Conditions: lengths in reach. | How wire's reader takes many numbers, stamps, ids. Conditions: lengths in reach. -/
import Derived.Test.YteedajnikfhpjaaDoorVA
import Derived.Test.YteedajnikfhpjaaDoorPA
import Derived.Test.YteedajnikfhpjaaDoorSA
section
namespace Go.Proofs.YteedajnikfhpjaaDoor
open Go.RowKit Go.Lib Go.Sort
set_option linter.unusedVariables false
section
variable {w w1 w2 : World} {r : Option Nat}
theorem gby_refl : w.grownBy w r := ⟨rfl, rfl, rfl, Nat.le_refl _, fun _ _ _ => rfl⟩
theorem gby_trans (h : w.grownBy w1 r) (k : w1.grownBy w2 r) : w.grownBy w2 r :=
  ⟨k.os.trans h.os, k.tape.trans h.tape, k.output.trans h.output, Nat.le_trans h.size k.size, fun i hi hr => (k.block i (Nat.lt_of_lt_of_le hi h.size) hr).trans (h.block i hi hr)⟩
theorem gby_below (h : Below w.heap.size w w1) : w.grownBy w1 r := ⟨h.os, h.tape, h.output, h.size, fun i hi _ => h.block i hi⟩
/-- writes to a block that is new change nothing that was -/
theorem gby_new {q : Option Nat} (h : w.grownBy w1 r) (k : w1.grownBy w2 q) (hq : ∀ g, q = some g → w.heap.size ≤ g) : w.grownBy w2 r :=
  ⟨k.os.trans h.os, k.tape.trans h.tape, k.output.trans h.output, Nat.le_trans h.size k.size, fun i hi hr => (k.block i (Nat.lt_of_lt_of_le hi h.size) (fun e => by have := hq i e.symm; omega)).trans (h.block i hi hr)⟩
theorem gby_set (b o : Nat) (v : Value) : w.grownBy (w.setCell ⟨b, o, none⟩ v) (some b) :=
  ⟨rfl, rfl, rfl, by simp [World.setCell], fun i hi hr => Below.heap_setCell _ _ _ _ (fun e => hr (by rw [e]))⟩
theorem gby_setNew (h : w.grownBy w1 r) (b o : Nat) (v : Value) (hb : w.heap.size ≤ b) : w.grownBy (w1.setCell ⟨b, o, none⟩ v) r :=
  gby_new h (gby_set b o v) (fun g e => by cases e; exact hb)
theorem gby_alloc (h : w.grownBy w1 r) (o : Obj) : w.grownBy (w1.alloc o) r := gby_trans h (World.grownBy_alloc w1 o r)
theorem gby_row (h : w.grownBy w1 r) (b : Nat) (c : Array Value) (hb : w.heap.size ≤ b) : w.grownBy (w1.setRow b c) r := by
  have hB : Below b w1 (w1.setRow b c) := Below.setRow' (Below.refl b w1) (Nat.le_refl b) c
  exact ⟨hB.os.trans h.os, hB.tape.trans h.tape, hB.output.trans h.output, Nat.le_trans h.size hB.size, fun i hi hr => (hB.block i (by omega)).trans (h.block i hi hr)⟩
theorem gby_drewN (h : w.grownBy w1 r) (k : Nat) : w.grownBy (w1.drewN k) r := ⟨h.os, h.tape, h.output, h.size, h.block⟩
end
section
variable {w w' : World} {b : Nat} {s : ByteArray} {bad : Bool}
end
def PInt (n : Int) (_ : World) (v : Value) : Prop := v = .int .i64 n ∧ okI n
def PStr (x : ByteArray) (_ : World) (v : Value) : Prop := v = .string x ∧ x.size ≤ 1000000
def PSt (x : Gst) (_ : World) (v : Value) : Prop := v = stV x
def PId (x : Gid) (_ : World) (v : Value) : Prop := v = idV x
theorem RdIs.take {s : ByteArray} {n : Nat} {R : ByteArray} {c : Nat} (h : TkIs s.data.toList n R c) (bad : Bool) : RdIs intR s.data.toList bad (n : Int) R.data.toList (bad || decide (c ≠ 0)) := by
  have hl : R.data.toList.length = R.size := by simp
  refine ⟨fun e => by rw [e]; rfl, fun e => ?_, by rw [hl]; exact h.len⟩
  obtain ⟨rfl, rfl, rfl⟩ := h
  unfold intR tkE tkN tkR
  cases e2 : Vr.take s.data.toList with
  | ok n r => exact .inl ⟨by rw [e]; simp, rfl⟩
  | err c =>
    refine .inr ⟨?_, rfl⟩
    have h1 : c ≠ 0 := by have := Vr.takeF_err _ _ _ _ e2; omega
    simp [h1]
theorem RdIs.takeb {s : ByteArray} {n : Nat} {R : ByteArray} {c : Nat} (h : TkIs s.data.toList n R c) (hs : s.size ≤ 1000000) (bad : Bool) :
    RdIs bytesR s.data.toList bad (tbT n R c) (tbR n R c).data.toList (bad || decide (tbE n R c ≠ 0)) ∧ (tbT n R c).size ≤ 1000000 := by
  have hl : R.data.toList.length = R.size := by simp
  have hle := h.len
  have hsl : s.data.toList.length = s.size := by simp
  have hi := RdIs.take h bad
  by_cases hc : c = 0
  · subst hc
    by_cases hn : R.size < n
    · have e1 : tbT n R 0 = ⟨#[]⟩ := by unfold tbT; rw [if_neg (by omega), if_pos hn]
      have e2 : tbR n R 0 = ⟨#[]⟩ := by unfold tbR; rw [if_neg (by omega), if_pos hn]
      have e3 : tbE n R 0 = 10 := by unfold tbE; rw [if_neg (by omega), if_pos hn]
      rw [e1, e2, e3]
      refine ⟨⟨fun e => by rw [e]; rfl, fun e => .inr ⟨by simp, ?_⟩, by simp⟩, by decide⟩
      rcases hi.step e with ⟨_, h2⟩ | ⟨h1, _⟩
      · unfold bytesR
        rw [rbind_some h2, Int.toNat_natCast, if_pos (by omega)]
      · rw [e] at h1; simp at h1
    · have e1 : tbT n R 0 = R.extract 0 n := by unfold tbT; rw [if_neg (by omega), if_neg hn]
      have e2 : tbR n R 0 = R.extract n R.size := by unfold tbR; rw [if_neg (by omega), if_neg hn]
      have e3 : tbE n R 0 = 0 := by unfold tbE; rw [if_neg (by omega), if_neg hn]
      have e4 : (R.extract n R.size).data.toList = R.data.toList.drop n := by rw [rest_of]
      have e5 : R.extract 0 n = ⟨(R.data.toList.take n).toArray⟩ := by
        apply ByteArray.ext
        rw [ByteArray.data_extract]
        apply Array.toList_inj.1
        rw [Array.toList_extract, List.extract_eq_take_drop]
        simp
      rw [e1, e2, e3, e4]
      refine ⟨⟨fun e => by rw [e]; rfl, fun e => .inl ⟨by rw [e]; simp, ?_⟩, by rw [List.length_drop]; omega⟩, by rw [ByteArray.size_extract]; omega⟩
      rcases hi.step e with ⟨_, h2⟩ | ⟨h1, _⟩
      · unfold bytesR
        rw [rbind_some h2, Int.toNat_natCast, if_neg (by omega), e5]
      · rw [e] at h1; simp at h1
  · have e1 : tbT n R c = ⟨#[]⟩ := by unfold tbT; rw [if_pos hc]
    have e2 : tbR n R c = ⟨#[]⟩ := by unfold tbR; rw [if_pos hc]
    have e3 : tbE n R c = c := by unfold tbE; rw [if_pos hc]
    rw [e1, e2, e3]
    refine ⟨⟨fun e => by rw [e]; rfl, fun e => .inr ⟨by simp [hc], ?_⟩, by simp⟩, by decide⟩
    rcases hi.step e with ⟨h1, _⟩ | ⟨_, h2⟩
    · simp [hc] at h1
    · unfold bytesR; rw [rbind_none h2]
theorem rd_size {s s' : ByteArray} {α : Type} {p : Rd α} {b b' : Bool} {x : α} (h : RdIs p s.data.toList b x s'.data.toList b') (hs : s.size ≤ 1000000) : s'.size ≤ 1000000 := by
  have := h.le
  have h1 : s.data.toList.length = s.size := by simp
  have h2 : s'.data.toList.length = s'.size := by simp
  omega
end Go.Proofs.YteedajnikfhpjaaDoor
end
section
namespace Go.Proofs.YteedajnikfhpjaaDoor
open Go.RowKit Go.Lib Go.Sort
set_option linter.unusedVariables false
theorem cellsN (W : World) (xs : List Value) (e : TypeId) (j : Nat) (u : Value) (h : xs[j]? = some u) : (W.alloc (.cells xs.toArray e)).cell? ((⟨W.heap.size, 0, none⟩ : Addr).add j) = some u := by
  rw [add_zero']
  have := World.cell?_alloc_mark W xs.toArray e (0, 0) j
  rw [this]
  simpa using h
/-- a list that a row of memory holds -/
def PRow {α : Type} (B : Nat) (e : TypeId) (size : Nat) (enc : α → List Value) (xs : List α) (w' : World) (v : Value) : Prop :=
  (∃ A c, v = .slice A xs.length c) ∧ w'.ownsRow B e size v xs.length (xs.flatMap enc) ∧ xs.length ≤ 1000001
def PRowI (B : Nat) (e : TypeId) (size : Nat) (enc : Int → List Value) (xs : List Int) (w' : World) (v : Value) : Prop :=
  (∃ A c, v = .slice A xs.length c) ∧ w'.ownsRow B e size v xs.length (xs.flatMap enc) ∧ xs.length ≤ 1000001 ∧ ∀ x ∈ xs, okI x
theorem row_slice {w : World} {B : Nat} {e : TypeId} {size : Nat} {v : Value} {n : Nat} {xs : List Value} (h : w.ownsRow B e size v n xs) : ∃ A c, v = .slice A n c := by
  rcases h.2 with ⟨rfl, rfl⟩ | ⟨g, cap, cur, rfl, _⟩
  · exact ⟨_, _, rfl⟩
  · exact ⟨_, _, rfl⟩
def intC_ (x : Int) : List Value := [.int .i64 x]
theorem lenintC_ (xs : List Int) : (xs.flatMap intC_).length = xs.length * 1 := by
  induction xs with
  | nil => rfl
  | cons x xs ih => rw [List.flatMap_cons, List.length_append, ih, List.length_cons]; show 1 + _ = _; omega
theorem ocintC_ (x : Int) : ∀ u ∈ intC_ x, u.oneCell' = true := by
  intro u hu
  simp only [intC_, List.mem_cons, List.not_mem_nil, or_false] at hu
  subst hu; rfl
theorem infointC_ : (Tryd.prog.info? 3).map (fun i => (i.zero, i.size, i.bytes)) = some (some (.int .i64 0), 1, 8) := by kernel_rfl
def stC_ (x : Gst) : List Value := [.int .i64 x.t, .int .i64 x.r]
theorem lenstC_ (xs : List Gst) : (xs.flatMap stC_).length = xs.length * 2 := by
  induction xs with
  | nil => rfl
  | cons x xs ih => rw [List.flatMap_cons, List.length_append, ih, List.length_cons]; show 2 + _ = _; omega
theorem ocstC_ (x : Gst) : ∀ u ∈ stC_ x, u.oneCell' = true := by
  intro u hu
  simp only [stC_, List.mem_cons, List.not_mem_nil, or_false] at hu
  rcases hu with rfl | rfl <;> rfl
theorem infostC_ : (Tryd.prog.info? 25).map (fun i => (i.zero, i.size, i.bytes)) = some (some (.agg #[.int .i64 0, .int .i64 0]), 2, 16) := by kernel_rfl
def idC_ (x : Gid) : List Value := [.int .i64 x.s.t, .int .i64 x.s.r, .int .i64 x.i]
theorem lenidC_ (xs : List Gid) : (xs.flatMap idC_).length = xs.length * 3 := by
  induction xs with
  | nil => rfl
  | cons x xs ih => rw [List.flatMap_cons, List.length_append, ih, List.length_cons]; show 3 + _ = _; omega
theorem ocidC_ (x : Gid) : ∀ u ∈ idC_ x, u.oneCell' = true := by
  intro u hu
  simp only [idC_, List.mem_cons, List.not_mem_nil, or_false] at hu
  rcases hu with rfl | rfl | rfl <;> rfl
theorem infoidC_ : (Tryd.prog.info? 27).map (fun i => (i.zero, i.size, i.bytes)) = some (some (.agg #[.int .i64 0, .int .i64 0, .int .i64 0]), 3, 24) := by kernel_rfl
end Go.Proofs.YteedajnikfhpjaaDoor
end
