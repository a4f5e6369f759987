/- What Split of frame computes. Conditions: bounds on sizes. -/
import Derived.Test.YtjeiklgaiefeaaaFrmPlain
import Derived.Deep.RegionWith
import Derived.RangeFuncBox
import Derived.Maps.AppendAt
namespace Go.Proofs.Ytjeiklgaiefeaaa
open Go.RowKit Go.Lib Go.Shelf
set_option linter.unusedVariables false
attribute [local go_sem] Oper.semAt_some
set_option maxRecDepth 100000 in
set_option maxHeartbeats 2000000 in
theorem all_any (A : Option Addr) (m cap : Nat) (s : ByteArray) (w : World) :
    Calls Try.prog 61 #[.slice A m cap, .string s] w fun e w' => e = .returned (.func (.func 63) #[] #[.pointer (some ⟨w.heap.size + 1, 0, none⟩), .pointer (some ⟨w.heap.size, 0, none⟩)]) ∧
      w' = (w.alloc (.cells #[.slice A m cap] 22)).alloc (.cells #[.string s] 9) := by
  go_enter Try.func61, Try.ntmps61
  go_wp2
  go_ret
  exact ⟨rfl, rfl⟩
set_option maxRecDepth 100000 in
set_option maxHeartbeats 2000000 in
theorem size_any (x : ByteArray) (hs : x.size ≤ 140737488351232) (w : World) :
    Calls Try.prog 62 #[.string x] w fun e w' => e = .returned (.int .i64 (((putS x.size ++ x).size + 4 : Nat) : Int)) ∧ Below w.heap.size w w' := by
  have hl : (putS x.size ++ x).size ≤ 140737488351242 := by rw [ByteArray.size_append]; have := putS_le x.size (by omega); omega
  obtain ⟨P, hP⟩ : ∃ P, P = putS x.size ++ x := ⟨_, rfl⟩
  rw [← hP] at hl ⊢
  have HP := Lib.hid hP
  clear hP
  go_enter Try.func62, Try.ntmps62
  go_wp2_with fail
  refine (bytes1_any x hs _).mono ?_
  rw [← HP.out]
  rintro e w1 ⟨rfl, hB1⟩
  go_wp2
  go_ret
  exact ⟨ret_int (by omega), hB1⟩
/-- the world in which the range begins -/
def spW (w : World) (A : Option Addr) (cap : Nat) (s : ByteArray) : World :=
  ((((w.alloc (.cells #[.slice none 0 0] 59)).alloc (.cells #[.int .i64 0] 3)).alloc (.cells #[.int .i64 0] 26)).alloc (.cells #[.slice A 256 cap] 22)).alloc (.cells #[.string s] 9)
theorem heap_alloc (w : World) (o : Obj) : (w.alloc o).heap = w.heap.push o := rfl
theorem spW_size (w : World) (A : Option Addr) (cap : Nat) (s : ByteArray) : (spW w A cap s).heap.size = w.heap.size + 5 := by simp [spW, heap_alloc]
theorem spW_below (w : World) (A : Option Addr) (cap : Nat) (s : ByteArray) : Below w.heap.size w (spW w A cap s) := by
  unfold spW
  exact (((((Below.refl _ w).alloc (by simp) _).alloc (by simp) _).alloc (by simp; omega) _).alloc (by simp; omega) _).alloc (by simp; omega) _
theorem spW_0 (w : World) (A : Option Addr) (cap : Nat) (s : ByteArray) : (spW w A cap s).heap[w.heap.size]? = some (.cells #[.slice none 0 0] 59 (0, 0)) := by
  simp only [spW, heap_alloc, Array.getElem?_push, Array.size_push]
  rw [if_neg (by omega), if_neg (by omega), if_neg (by omega), if_neg (by omega), if_pos trivial]
theorem spW_1 (w : World) (A : Option Addr) (cap : Nat) (s : ByteArray) : (spW w A cap s).heap[w.heap.size + 1]? = some (.cells #[.int .i64 0] 3 (0, 0)) := by
  simp only [spW, heap_alloc, Array.getElem?_push, Array.size_push]
  simp
theorem spW_2 (w : World) (A : Option Addr) (cap : Nat) (s : ByteArray) : (spW w A cap s).heap[w.heap.size + 2]? = some (.cells #[.int .i64 0] 26 (0, 0)) := by
  simp only [spW, heap_alloc, Array.getElem?_push, Array.size_push]
  simp
theorem spW_3 (w : World) (A : Option Addr) (cap : Nat) (s : ByteArray) : (spW w A cap s).heap[w.heap.size + 3]? = some (.cells #[.slice A 256 cap] 22 (0, 0)) := by
  simp only [spW, heap_alloc, Array.getElem?_push, Array.size_push]
  simp
theorem spW_4 (w : World) (A : Option Addr) (cap : Nat) (s : ByteArray) : (spW w A cap s).heap[w.heap.size + 4]? = some (.cells #[.string s] 9 (0, 0)) := by
  simp only [spW, heap_alloc, Array.getElem?_push, Array.size_push]
  simp
def strV (l : List (ByteArray × Nat)) : List Value := l.map fun p => .string p.1
/-- between two rounds -/
structure SpI (B : Nat) (w : World) (xs : List (ByteArray × Nat)) (c : Nat) (pre : List (ByteArray × Nat)) (W : World) : Prop where
  noerr : ∀ p ∈ pre, p.2 = 0
  pref : pre <+: xs
  row : ∃ v m, W.heap[B]? = some (.cells #[v] 59 (0, 0)) ∧ W.ownsRow (B + 5) 9 1 v m (strV pre)
  used : W.heap[B + 1]? = some (.cells #[.int .i64 (usedOf pre : Nat)] 3 (0, 0))
  err : W.heap[B + 2]? = some (.cells #[.int .i64 (c : Nat)] 26 (0, 0))
  below : Below B w W
  big : B + 5 ≤ W.heap.size
theorem own_cells {W : World} {base e n : Nat} {v : Value} {xs : List Value} (h : W.ownsRow base e 1 v n xs) {r : Nat} (hr : v.ownBlock = some r) : ∃ o, W.heap[r]? = some o ∧ o.isCells = true := by
  rcases h.2 with ⟨rfl, _⟩ | ⟨g, cap, cur, rfl, _, hh, _⟩
  · simp [Value.ownBlock] at hr
  · have : g = r := by simpa [Value.ownBlock] using hr
    subst this
    exact ⟨_, hh, rfl⟩
theorem own_slice {W : World} {base e n : Nat} {v : Value} {xs : List Value} (h : W.ownsRow base e 1 v n xs) : ∃ a k c, v = .slice a k c := by
  rcases h.2 with ⟨rfl, _⟩ | ⟨g, cap, cur, rfl, _⟩
  · exact ⟨_, _, _, rfl⟩
  · exact ⟨_, _, _, rfl⟩
theorem SpI.keep {B : Nat} {w W W' : World} {xs pre : List (ByteArray × Nat)} {c : Nat} {row : Option Nat} (h : SpI B w xs c pre W) (hg : W.grownBy W' row)
    (hr : ∀ r, row = some r → B + 3 ≤ r ∧ (r < B + 5 ∨ ∃ o, W.heap[r]? = some o ∧ o.isCells = false)) : SpI B w xs c pre W' := by
  have ne : ∀ k, k < B + 3 → some k ≠ row := fun k hk e => by have := (hr k e.symm).1; omega
  obtain ⟨v, m, hv, ho⟩ := h.row
  refine ⟨h.noerr, h.pref, ⟨v, m, ?_, ?_⟩, ?_, ?_, ?_, Nat.le_trans h.big hg.size⟩
  · exact (hg.block _ (box_lt hv) (ne _ (by omega))).trans hv
  · refine ho.kept hg ?_
    cases hb : v.ownBlock with
    | none => exact .inl rfl
    | some g =>
      refine .inr fun e => ?_
      have h1 := ho.lt g hb
      rcases (hr g e.symm).2 with h2 | ⟨o, h2, h3⟩
      · omega
      · obtain ⟨o', h4, h5⟩ := own_cells ho hb
        rw [h2] at h4
        injection h4 with h4
        rw [h4] at h3
        rw [h3] at h5
        cases h5
  · exact (hg.block _ (box_lt h.used) (ne _ (by omega))).trans h.used
  · exact (hg.block _ (box_lt h.err) (ne _ (by omega))).trans h.err
  · refine h.below.trans ⟨hg.os, hg.tape, hg.output, hg.size, fun k hk => hg.block k (by have := box_lt h.used; omega) (ne k (by omega))⟩
theorem own_drew {w : World} {base : Nat} {e : TypeId} {size : Nat} {v : Value} {n : Nat} {xs : List Value} (h : w.ownsRow base e size v n xs) : w.drew.ownsRow base e size v n xs := h
/-- behind the append -/
structure SpA (B : Nat) (w W w1 : World) (v : Value) (pre : List (ByteArray × Nat)) : Prop where
  box : w1.heap[B]? = some (.cells #[v] 59 (0, 0))
  used : w1.heap[B + 1]? = some (.cells #[.int .i64 (usedOf pre : Nat)] 3 (0, 0))
  err : w1.heap[B + 2]? = some (.cells #[.int .i64 0] 26 (0, 0))
  below : Below B w w1
  t : w1.heap[B + 3]? = W.heap[B + 3]?
  s : w1.heap[B + 4]? = W.heap[B + 4]?
  big : B + 5 ≤ w1.heap.size
  others : KeepsOthers W w1
  kp : Below B W w1
theorem SpI.after {B : Nat} {w W w1 : World} {xs pre : List (ByteArray × Nat)} {v : Value} {m : Nat} (h : SpI B w xs 0 pre W) (hv : W.heap[B]? = some (.cells #[v] 59 (0, 0))) (ho : W.ownsRow (B + 5) 9 1 v m (strV pre)) {o : Obj}
    (hg : (W.alloc o).grownBy w1 v.ownBlock) : SpA B w W w1 v pre := by
  have hbig := h.big
  have same : ∀ k, k < B + 5 → w1.heap[k]? = W.heap[k]? := fun k hk => by
    refine (hg.block k (by simp; omega) (fun e => ?_)).trans (Below.heap_alloc W o k (by omega))
    have := (ho.lt k e.symm).1
    omega
  have hb : Below B W w1 := ⟨hg.os, hg.tape, hg.output, Nat.le_trans (by simp) hg.size, fun k hk => same k (by omega)⟩
  refine ⟨(same _ (by omega)).trans hv, (same _ (by omega)).trans h.used, (same _ (by omega)).trans h.err, h.below.trans hb, same _ (by omega), same _ (by omega), Nat.le_trans hbig hb.size, ?_, hb⟩
  refine (KeepsOthers.alloc W o).trans (KeepsOthers.of_grownBy hg fun j o' hj hh => ?_)
  obtain ⟨o2, h2, h3⟩ := own_cells ho hj
  have := (Below.heap_alloc W o j (ho.lt j hj).2).trans h2
  rw [hh] at this
  injection this with this
  rw [this]; exact h3
theorem others_below {A B : World} (h : Below A.heap.size A B) : KeepsOthers A B := ⟨h.size, fun k o hk _ => (h.block k (box_lt hk)).trans hk⟩
theorem own_grow {w w' : World} {base : Nat} {e : TypeId} {size : Nat} {v : Value} {n : Nat} {xs : List Value} (h : w.ownsRow base e size v n xs) (hb : Below w.heap.size w w') : w'.ownsRow base e size v n xs :=
  h.kept (row := none) ⟨hb.os, hb.tape, hb.output, hb.size, fun i hi _ => hb.block i hi⟩ (by cases v.ownBlock <;> simp)
theorem SpA.fin {B : Nat} {w W w1 W2 w3 : World} {v v' : Value} {pre xs : List (ByteArray × Nat)} {x : ByteArray} {m u z : Nat} (hA : SpA B w W w1 v pre) (h0 : ∀ p ∈ pre, p.2 = 0) (hG : (pre ++ [(x, 0)]) <+: xs)
    (hrow : w1.ownsRow (B + 5) 9 1 v' m (strV pre ++ [.string x])) (h2 : W2 = w1.setCell ⟨B, 0, none⟩ v' ∨ W2 = (w1.setCell ⟨B, 0, none⟩ v').drew) (hb : Below W2.heap.size W2 w3) (hu : u = usedOf pre) (hz : z = (putS x.size ++ x).size + 4) (huz : u + z ≤ 3000000) :
    KeepsOthers W (w3.setCell ⟨B + 1, 0, none⟩ (.int .i64 (IntKind.i64.wrap ((u : Int) + (z : Int))))) ∧ KpF B (B + 4) (B + 3) W (w3.setCell ⟨B + 1, 0, none⟩ (.int .i64 (IntKind.i64.wrap ((u : Int) + (z : Int))))) ∧
      SpI B w xs 0 (pre ++ [(x, 0)]) (w3.setCell ⟨B + 1, 0, none⟩ (.int .i64 (IntKind.i64.wrap ((u : Int) + (z : Int))))) := by
  have hbig := hA.big
  have k12 : KeepsOthers w1 W2 := by
    rcases h2 with rfl | rfl
    · exact KeepsOthers.setCell _ _ _
    · exact (KeepsOthers.setCell _ _ _).trans (KeepsOthers.drew _)
  have b12 : Below B w1 W2 := by
    rcases h2 with rfl | rfl
    · exact (Below.refl _ _).setCell (by simp) _
    · exact ((Below.refl _ _).setCell (by simp) _).drew
  have r12 : W2.ownsRow (B + 5) 9 1 v' m (strV pre ++ [.string x]) := by
    rcases h2 with rfl | rfl
    · exact ownsRow_setCell_below hrow (by simp) _
    · exact own_drew (ownsRow_setCell_below hrow (by simp) _)
  have h12 : ∀ k, k ≠ B → W2.heap[k]? = w1.heap[k]? := fun k hk => by
    rcases h2 with rfl | rfl
    · exact Below.heap_setCell _ _ _ _ (by simpa using hk)
    · exact Below.heap_setCell _ _ _ _ (by simpa using hk)
  have hB2 : W2.heap[B]? = some (.cells #[v'] 59 (0, 0)) := by
    rcases h2 with rfl | rfl
    · exact box_set hA.box _
    · exact box_set hA.box _
  have s12 : w1.heap.size ≤ W2.heap.size := b12.size
  have h23 : ∀ k, k < B + 5 → w3.heap[k]? = W2.heap[k]? := fun k hk => hb.block k (by omega)
  have hwrap : IntKind.i64.wrap ((u : Int) + (z : Int)) = ((usedOf (pre ++ [(x, 0)]) : Nat) : Int) := by
    rw [IntWalk.i64_in _ (by omega), usedOf_snoc, hu, hz]
    simp
  rw [hwrap]
  have hsB : ∀ k, k ≠ B + 1 → (w3.setCell ⟨B + 1, 0, none⟩ (.int .i64 ((usedOf (pre ++ [(x, 0)]) : Nat) : Int))).heap[k]? = w3.heap[k]? := fun k hk => Below.heap_setCell _ _ _ _ (by simpa using hk)
  have bB : Below B w1 (w3.setCell ⟨B + 1, 0, none⟩ (.int .i64 ((usedOf (pre ++ [(x, 0)]) : Nat) : Int))) := (b12.trans (hb.mono (by omega))).setCell (by simp) _
  refine ⟨((hA.others.trans k12).trans (others_below hb)).trans (KeepsOthers.setCell _ _ _), ⟨hA.kp.trans bB, ?_, ?_⟩, ⟨?_, hG, ⟨v', m, ?_, ?_⟩, ?_, ?_, hA.below.trans bB, ?_⟩⟩
  · exact (hsB _ (by omega)).trans ((h23 _ (by omega)).trans ((h12 _ (by omega)).trans hA.s))
  · exact (hsB _ (by omega)).trans ((h23 _ (by omega)).trans ((h12 _ (by omega)).trans hA.t))
  · intro p hp
    rcases List.mem_append.1 hp with h | h
    · exact h0 p h
    · rw [List.mem_singleton.1 h]
  · exact (hsB _ (by omega)).trans ((h23 _ (by omega)).trans hB2)
  · have e : strV (pre ++ [(x, 0)]) = strV pre ++ [.string x] := by simp [strV]
    rw [e]
    exact ownsRow_setCell_below (own_grow r12 hb) (by simp) _
  · exact box_set ((h23 _ (by omega)).trans ((h12 _ (by omega)).trans hA.used)) _
  · exact (hsB _ (by omega)).trans ((h23 _ (by omega)).trans ((h12 _ (by omega)).trans hA.err))
  · have := hb.size
    have e : (w3.setCell ⟨B + 1, 0, none⟩ (.int .i64 ((usedOf (pre ++ [(x, 0)]) : Nat) : Int))).heap.size = w3.heap.size := by simp [World.setCell]
    rw [e]; omega
theorem SpI.fin {B : Nat} {w W : World} {xs pre : List (ByteArray × Nat)} {v : Value} {m : Nat} (h : SpI B w xs 0 pre W) (hv : W.heap[B]? = some (.cells #[v] 59 (0, 0))) (ho : W.ownsRow (B + 5) 9 1 v m (strV pre)) (e : Nat) :
    SpI B w xs e pre ((((W.setCell ⟨B, 0, none⟩ v).setCell ⟨B + 1, 0, none⟩ (.int .i64 (usedOf pre : Nat))).setCell ⟨B + 2, 0, none⟩ (.int .i64 (e : Nat))).drew) := by
  refine ⟨h.noerr, h.pref, ⟨v, m, ?_, ?_⟩, ?_, ?_, ?_, by simpa [World.setCell] using h.big⟩
  · exact (Below.heap_setCell _ _ _ _ (by simp)).trans ((Below.heap_setCell _ _ _ _ (by simp)).trans (box_set hv _))
  · exact own_drew (ownsRow_setCell_below (ownsRow_setCell_below (ownsRow_setCell_below ho (by simp) _) (by simp) _) (by simp) _)
  · exact (Below.heap_setCell _ _ _ _ (by simp)).trans (box_set ((Below.heap_setCell _ _ _ _ (by simp)).trans h.used) _)
  · exact box_set ((Below.heap_setCell _ _ _ _ (by simp)).trans ((Below.heap_setCell _ _ _ _ (by simp)).trans h.err)) _
  · exact (((h.below.setCell (by simp) _).setCell (by simp) _).setCell (by simp) _).drew
theorem fin_others (B : Nat) (W : World) (a b c : Value) : KeepsOthers W ((((W.setCell ⟨B, 0, none⟩ a).setCell ⟨B + 1, 0, none⟩ b).setCell ⟨B + 2, 0, none⟩ c).drew) :=
  (((KeepsOthers.setCell _ _ _).trans (KeepsOthers.setCell _ _ _)).trans (KeepsOthers.setCell _ _ _)).trans (KeepsOthers.drew _)
theorem KpF.trans {n₀ b bt : Nat} {A B C : World} (h : KpF n₀ b bt A B) (k : KpF n₀ b bt B C) : KpF n₀ b bt A C := ⟨h.1.trans k.1, k.2.1.trans h.2.1, k.2.2.trans h.2.2⟩
theorem KpF.put {n₀ b bt : Nat} {w : World} (hn : n₀ ≤ w.heap.size) (hb : b < w.heap.size) (hbt : bt < w.heap.size) (W : World) (l : Nat) (o o' : Obj) (hl : w.heap.size ≤ l) (h : W.heap[l]? = some o) (h1 : o.isCells = false) (h2 : o.isWalk = false) : KpF n₀ b bt W (W.putObj l o') :=
  ⟨belowK_b hn W l o o' hl h h1 h2, World.putObj_heap_other (by omega), World.putObj_heap_other (by omega)⟩

theorem used_len (l : List (ByteArray × Nat)) : l.length ≤ usedOf l := by
  induction l with
  | nil => simp
  | cons p l ih =>
    have : usedOf (p :: l) = ((putS p.1.size ++ p.1).size + 4) + usedOf l := by simp [usedOf]
    rw [this, List.length_cons]; omega
theorem own_len {w : World} {base e n : Nat} {v : Value} {xs : List Value} (h : w.ownsRow base e 1 v n xs) : n = xs.length := by have := h.1; omega
theorem Frs.last {t : Nat → Nat} {s : ByteArray} {xs : List (ByteArray × Nat)} (h : Frs t s xs) : ∀ {pre : List (ByteArray × Nat)} {p : ByteArray × Nat}, (pre ++ [p]) <+: xs → p.2 ≠ 0 → xs = pre ++ [(p.1, p.2)] := by
  induction h with
  | nil h => intro pre p hp; simp at hp
  | bad h h2 =>
    intro pre p hp hne
    cases pre with
    | nil =>
      have := (List.cons_prefix_cons.1 hp).1
      rw [this]; rfl
    | cons q pre =>
      have := (List.cons_prefix_cons.1 hp).2
      simp at this
  | ok h h2 h3 ih =>
    intro pre p hp hne
    cases pre with
    | nil =>
      have := (List.cons_prefix_cons.1 hp).1
      rw [this] at hne
      exact absurd rfl hne
    | cons q pre =>
      have h4 := List.cons_prefix_cons.1 hp
      rw [ih h4.2 hne, h4.1]
      rfl
/-- what Split has found: the texts, how many bytes, an error or none -/
def SplitIs (xs : List (ByteArray × Nat)) (l : List (ByteArray × Nat)) (c : Nat) : Prop := (∀ p ∈ l, p.2 = 0) ∧ (c = 0 ∧ xs = l ∨ c ≠ 0 ∧ ∃ y, xs = l ++ [(y, c)])
theorem own_base {w : World} {base base' e n : Nat} {v : Value} {xs : List Value} (h : w.ownsRow base e 1 v n xs) (hb : base' ≤ base) : w.ownsRow base' e 1 v n xs := by
  refine ⟨h.1, ?_⟩
  rcases h.2 with h2 | ⟨g, cap, cur, h3, h4, h5⟩
  · exact .inl h2
  · exact .inr ⟨g, cap, cur, h3, by omega, h5⟩
abbrev splitQ (xs : List (ByteArray × Nat)) (w : World) (e : Ending) (w' : World) : Prop :=
  ∃ v l c, e = .returned (.tuple #[v, .int .i64 (usedOf l : Nat), .int .i64 (c : Nat)]) ∧ SplitIs xs l c ∧ (∃ m, w'.ownsRow w.heap.size 9 1 v m (strV l)) ∧ Below w.heap.size w w'
set_option maxRecDepth 100000 in
theorem split_leave {c : Nat} {w W5 : World} {xs l : List (ByteArray × Nat)} {tmps : Array Value} (h4 : tmps[4]?.getD undef = .pointer (some ⟨w.heap.size, 0, none⟩)) (h5 : tmps[5]?.getD undef = .pointer (some ⟨w.heap.size + 1, 0, none⟩)) (h6 : tmps[6]?.getD undef = .pointer (some ⟨w.heap.size + 2, 0, none⟩))
    (hS : SpI w.heap.size w xs c l W5) (hx : SplitIs xs l c) : LeavesInM Fence.wide 3 Try.prog Try.f54 tmps (splitQ xs w) [] .returning W5 := by
  obtain ⟨v, m, hv, ho⟩ := hS.row
  obtain ⟨va, vn, vc, rfl⟩ := own_slice ho
  obtain ⟨c1, f1⟩ := box_cell hv
  obtain ⟨c2, f2⟩ := box_cell hS.used
  obtain ⟨c3, f3⟩ := box_cell hS.err
  refine ⟨.tuple #[.slice va vn vc, .int .i64 (usedOf l : Nat), .int .i64 (c : Nat)], ?_, _, l, c, rfl, hx, ⟨m, own_base ho (by omega)⟩, hS.below⟩
  simp [results, Try.results54, go_sem, h4, h5, h6, c1, c2, c3]
theorem info_str : (Try.prog.info? 9).map (fun i => (i.zero, i.size, i.bytes)) = some (some (.string ByteArray.empty), 1, 16) := by kernel_rfl
set_option maxRecDepth 100000 in
set_option maxHeartbeats 4000000 in
theorem split_any (A : Option Addr) (cap : Nat) (t : Nat → Nat) (ht : TabIs t) (s : ByteArray) (hs : s.size ≤ 1000000) (xs : List (ByteArray × Nat)) (hF : Frs t s xs) (w : World) (hR : TabRow w A t) :
    Calls Try.prog 54 #[.slice A 256 cap, .string s] w (splitQ xs w) := by
  refine (callsIn_wide (n := 3)).1 ?_
  refine callsIn_of_wp_marks Try.func54 rfl trivial ?_ rfl
  simp only [Try.ntmps54, List.size_toArray, List.length_cons, List.length_nil, Nat.reduceAdd, Nat.reduceSub, Array.replicate_succ, Array.replicate_zero, List.push_toArray, List.append_toArray, List.nil_append, List.cons_append]
  gi_wp2_with fail
  refine ⟨trivial, ?_⟩
  refine (callsIn_wide.2 (all_any A 256 cap s _)).mono ?_
  rintro e w1 ⟨rfl, rfl⟩
  gi_wp2_with fail
  have hsz := spW_size w A cap s
  refine wpIn_range_cap (w := spW w A cap s) (n := 3) (by omega) (gf := 63) (lb := #[.pointer (some ⟨w.heap.size + 4, 0, none⟩), .pointer (some ⟨w.heap.size + 3, 0, none⟩)]) rfl (enters_of Try.func63 (by kernel_rfl) rfl)
    (encs := encF) (Kp := KpF w.heap.size (w.heap.size + 4) (w.heap.size + 3)) (b := w.heap.size + 4) (G := fun pre x => (pre ++ [x]) <+: xs) (S := fun ys => ys = xs) (Sp := fun pre => pre <+: xs)
    ?iter (by omega) KpF.trans (KpF.put (by omega) (by omega) (by omega)) (fun _ => rfl)
    (fun pre W => SpI w.heap.size w xs 0 pre W)
    (fun c pre W => c = .ret ∧ ∃ pre' p, pre = pre' ++ [p] ∧ p.2 ≠ 0 ∧ (pre' ++ [p]) <+: xs ∧ SpI w.heap.size w xs p.2 pre' W)
    (fun s A B row h hg hr => h.keep hg fun r e => ⟨by have := (hr r e).1; omega, .inr (hr r e).2⟩)
    (fun c s A' B' row h hg hr => by
      obtain ⟨h1, pre', p, h2, h3, h4, h⟩ := h
      exact ⟨h1, pre', p, h2, h3, h4, h.keep hg fun r e => ⟨by have := (hr r e).1; omega, .inr (hr r e).2⟩⟩)
    (fun s A B h hg => h.keep hg fun r e => by cases e; exact ⟨by omega, .inl (by omega)⟩)
    (fun c s A' B' h hg => by
      obtain ⟨h1, pre', p, h2, h3, h4, h⟩ := h
      exact ⟨h1, pre', p, h2, h3, h4, h.keep hg fun r e => by cases e; exact ⟨by omega, .inl (by omega)⟩⟩)
    ⟨by simp, List.nil_prefix, ⟨_, 0, spW_0 w A cap s, World.ownsRow_nil _ _ _ _⟩, spW_1 w A cap s, spW_2 w A cap s, spW_below w A cap s, by omega⟩
    (fun x => { tmps := #[.slice A 256 cap, .string s, undef, undef, .pointer (some ⟨w.heap.size, 0, none⟩), .pointer (some ⟨w.heap.size + 1, 0, none⟩), .pointer (some ⟨w.heap.size + 2, 0, none⟩), .string x.1, .int .i64 (x.2 : Nat), .slice A 256 cap, .int .i64 256, .bool false, .slice A 256 cap, .string s,
      .func (.func 63) #[] #[.pointer (some ⟨w.heap.size + 4, 0, none⟩), .pointer (some ⟨w.heap.size + 3, 0, none⟩)], .string x.1, .int .i64 (x.2 : Nat), undef, undef, undef, undef, undef, undef, undef, undef, undef, undef, undef, undef, undef, undef, undef], defers := [] }) ?assign ?body ?done ?stop
  case iter =>
    intro l J Jx W hbW hJ hJx hY h0
    exact all1_in 2 l (w.heap.size + 4) (w.heap.size + 3) w.heap.size (by omega) A cap t ht s (by omega) xs hF J Jx hJ hY W ((hbW.block _ (by omega)).trans (spW_4 w A cap s)) ((hbW.block _ (by omega)).trans (spW_3 w A cap s)) (by omega) (by omega)
      (hR.below ((spW_below w A cap s).trans (hbW.mono (by omega)))) h0
  case assign =>
    intro l x W K hK
    simp only [encF]
    gi_wp2
    exact hK
  case body =>
    rintro l pre ⟨x, e⟩ W hI hG
    obtain ⟨v, m, hv, ho⟩ := hI.row
    obtain ⟨va, vn, vc, rfl⟩ := own_slice ho
    obtain ⟨c1, f1⟩ := box_cell hv
    obtain ⟨c2, f2⟩ := box_cell hI.used
    obtain ⟨c3, f3⟩ := box_cell hI.err
    have HI := Lib.hid hI
    clear hI
    by_cases he : e = 0
    · subst he
      have t1 : (((0 : Nat) : Int) != 0) = false := rfl
      obtain ⟨i0, hi, hz0, hz1, hz2⟩ := info_parts info_str
      have hus := hF.used _ hG (by
        intro p hp
        rcases List.mem_append.1 hp with h | h
        · exact HI.out.noerr p h
        · rw [List.mem_singleton.1 h])
      rw [usedOf_snoc] at hus
      have hus : usedOf pre + ((putS x.size ++ x).size + 4) ≤ s.size := hus
      have hm : m ≤ 1000000 := by
        have h1 := own_len ho
        have h2 : (strV pre).length = pre.length := by simp [strV]
        have h3 := used_len pre
        omega
      have hx0 : x.size ≤ (putS x.size ++ x).size := by rw [ByteArray.size_append]; omega
      have hbig := HI.out.big
      simp only []
      gi_wp2_with (gi_at_builtin; refine wpListIn_append_own _ rfl _ _ 59 rfl (w.heap.size + 5) 9 i0 (.string ByteArray.empty) 1 16 Try.underlying59 hi hz0 hz1 hz2 rfl (by decide) _ m _ rfl (ho.alloc _) ⟨W.heap.size, 0, none⟩ 1 1 [.string x] rfl rfl (cellOne _ _ _) (fun u hu => by simp at hu; subst hu; rfl) (by unfold maxLen; omega) (by omega) (by simp; omega) ?_; intro v' w1 hown' hgrow _; obtain ⟨a1, k1, c1', rfl⟩ := own_slice hown'; have hA := HI.out.after hv ho hgrow; obtain ⟨d1, g1⟩ := box_cell hA.box; obtain ⟨d2, g2⟩ := box_cell hA.used; have HA := Lib.hid hA; have HW := Lib.hid hown'; clear hA hown' hgrow)
      have hxs : x.size ≤ 140737488351232 := by omega
      have hu1 : (usedOf pre : Nat) ≤ 1000000 := by omega
      have hu2 : (putS x.size ++ x).size ≤ 1000000 := by omega
      obtain ⟨u, hu⟩ : ∃ u, u = usedOf pre := ⟨_, rfl⟩
      obtain ⟨z, hz⟩ : ∃ z, z = (putS x.size ++ x).size + 4 := ⟨_, rfl⟩
      have HSz := Lib.hid (fun W' => size_any x hxs W')
      rw [← hu] at d2 hu1
      have huz : u + z ≤ 3000000 := by omega
      have HU := Lib.hid hu
      have HZ := Lib.hid hz
      have hw1 := HA.out.big
      clear hu hz hu2
      gi_region_with (refine ⟨trivial, ?_⟩; refine (CallsIn.inRound l (callsIn_wide.2 (HSz.out _))).mono ?_; rw [← HZ.out]; rintro e w3 ⟨rfl, hb3⟩; have hb4 := (hb3.block (w.heap.size + 1) (by simp; omega)).trans ((Below.heap_setCell _ _ _ _ (by simp)).trans HA.out.used); rw [← HU.out] at hb4; obtain ⟨d3, g3⟩ := box_cell hb4)
      all_goals
        gi_wp2
        exact HA.out.fin HI.out.noerr hG HW.out (by first | exact .inl rfl | exact .inr rfl) hb3 HU.out HZ.out huz
    · have t1 : ((e : Int) != 0) = true := by rw [bne_iff_ne]; omega
      have HO := Lib.hid ho
      clear ho
      simp only []
      gi_wp2
      gi_region
      all_goals
        gi_wp2
        exact ⟨fin_others _ _ _ _ _, rfl, pre, (x, e), rfl, he, hG, HI.out.fin hv HO.out e⟩
  case done =>
    rintro D ys W hD rfl hI hK
    obtain ⟨v, m, hv, ho⟩ := hI.row
    obtain ⟨va, vn, vc, rfl⟩ := own_slice ho
    obtain ⟨c1, f1⟩ := box_cell hv
    obtain ⟨c2, f2⟩ := box_cell hI.used
    obtain ⟨c3, f3⟩ := box_cell hI.err
    have HI := Lib.hid hI
    have HO := Lib.hid ho
    have HK := Lib.hid hK
    clear hI ho hK
    gi_wp2
    gi_region
    all_goals
      gi_wp2
      have hfin := HI.out.fin hv HO.out 0
      have hK2 := (fin_others w.heap.size W (.slice va vn vc) (.int .i64 (usedOf ys : Nat)) (.int .i64 (0 : Nat))).same D _ HK.out rfl
      refine ⟨by simp, .inl ⟨_, _, rfl, run_takeDeferred hK2, ?_⟩⟩
      exact split_leave rfl rfl rfl (hfin.keep (grownBy_putObj' _ D (.deferred none)) (fun r e => by cases e; exact ⟨by omega, .inr ⟨_, hK2, rfl⟩⟩)) ⟨hfin.noerr, .inl ⟨rfl, rfl⟩⟩
  case stop =>
    rintro D c pre W hD hpre ⟨rfl, pre', p, rfl, hp, hpf, hI⟩ hK
    gi_wp2
    refine ⟨by simp, .inl ⟨_, _, rfl, run_takeDeferred hK, ?_⟩⟩
    refine split_leave rfl rfl rfl (hI.keep (grownBy_putObj' _ D (.deferred none)) (fun r e => by cases e; exact ⟨by omega, .inr ⟨_, hK, rfl⟩⟩)) ⟨hI.noerr, .inr ⟨hp, p.1, ?_⟩⟩
    exact hF.last hpf hp
end Go.Proofs.Ytjeiklgaiefeaaa
