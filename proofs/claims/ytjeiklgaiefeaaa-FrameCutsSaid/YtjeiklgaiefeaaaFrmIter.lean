/- The iterator of frame.all: every frame of a text in turn. Conditions: bounds on sizes. -/
import Derived.Test.YtjeiklgaiefeaaaFrmNext
import Derived.Test.YtjeiklgaiefeaaaRange
import Derived.RangeFuncNested
import Derived.RangeFuncBound
import Derived.RangeFuncCalls
import Derived.RangeFuncLeaves
import Derived.Shelf.Abstract
import Derived.Shelf.RegionOpen
import Derived.OwnWalkIn
import Derived.TacticsInMore
import Derived.LoopNIn
import Derived.LoopIn
namespace Go.Proofs.Ytjeiklgaiefeaaa
open Go.RowKit Go.Lib Go.Shelf
set_option linter.unusedVariables false
attribute [local go_sem] Oper.semAt_some
/-- the frames of a text: each one's text, and an error at the end, if there is one -/
inductive Frs (t : Nat → Nat) : ByteArray → List (ByteArray × Nat) → Prop
  | nil {s : ByteArray} (h : s.size = 0) : Frs t s []
  | bad {s : ByteArray} {c : Nat} (h : s.size ≠ 0) (h2 : nextS t s = .err c) : Frs t s [(⟨#[]⟩, c)]
  | ok {s x r : ByteArray} {l : List (ByteArray × Nat)} (h : s.size ≠ 0) (h2 : nextS t s = .ok x r) (h3 : Frs t r l) : Frs t s ((x, 0) :: l)
def encF (p : ByteArray × Nat) : Array Value := #[.string p.1, .int .i64 (p.2 : Nat)]
/-- what a round of the caller keeps -/
def KpF (n₀ b bt : Nat) (W W' : World) : Prop := Below n₀ W W' ∧ W'.heap[b]? = W.heap[b]? ∧ W'.heap[bt]? = W.heap[bt]?
theorem next_less {t : Nat → Nat} {s x r : ByteArray} (h : nextS t s = .ok x r) : r.size < s.size := by
  unfold nextS at h
  cases ht : Vr.take s.data.toList with
  | err c => rw [ht] at h; cases h
  | ok n q =>
    rw [ht] at h
    simp only [nextR] at h
    split at h
    · cases h
    · split at h
      · cases h
      · split at h
        · injection h with h1 h2
          rw [← h2, ByteArray.size_extract]
          have h3 := (Vr.take_ok ht).1
          have h4 : s.data.toList.length = s.size := by simp
          have h5 : (⟨q.toArray⟩ : ByteArray).size = q.length := by simp [ByteArray.size]
          rw [h3, List.length_append] at h4
          omega
        · cases h
theorem next_errne {t : Nat → Nat} {s : ByteArray} {c : Nat} (h : nextS t s = .err c) : c ≠ 0 := by
  unfold nextS at h
  cases ht : Vr.take s.data.toList with
  | err d => rw [ht] at h; injection h with h; subst h; have := Vr.takeF_err _ _ _ _ ht; omega
  | ok n q =>
    rw [ht] at h
    simp only [nextR] at h
    split at h
    · injection h; omega
    · split at h
      · injection h; omega
      · split at h
        · cases h
        · injection h; omega
theorem grown_below {w w' : World} (h : Below w.heap.size w w') (row : Option Nat) : w.grownBy w' row := ⟨h.os, h.tape, h.output, h.size, fun i hi _ => h.block i hi⟩
/-- how much is left -/
def leftF (b : Nat) (w : World) : Nat := match w.cell? ⟨b, 0, none⟩ with
  | some (.string s) => s.size
  | _ => 0
theorem leftF_eq {b : Nat} {w : World} {s : ByteArray} (h : w.cell? ⟨b, 0, none⟩ = some (.string s)) : leftF b w = s.size := by unfold leftF; rw [h]
theorem nonempty_toList {s : ByteArray} (h : s.size ≠ 0) : s.toList.isEmpty = false ∧ (s.toList == []) = false ∧ ¬ s.toList = [] := by
  have e : s.toList ≠ [] := by
    rw [ByteArray.toList_eq]
    intro e
    apply h
    have h2 : s.data.toList.length = s.size := by simp
    rw [e] at h2
    simpa using h2.symm
  refine ⟨?_, ?_, e⟩
  · cases hh : s.toList with
    | nil => exact absurd hh e
    | cons a b => rfl
  · rw [beq_eq_false_iff_ne]; exact e
theorem box_cell {w : World} {b t : Nat} {v : Value} (h : w.heap[b]? = some (.cells #[v] t (0, 0))) : w.cell? ⟨b, 0, none⟩ = some v ∧ w.frozen? ⟨b, 0, none⟩ = false := by
  constructor
  · simp [World.cell?, h]
  · simp [World.frozen?, h]
theorem box_lt {w : World} {b : Nat} {o : Obj} (h : w.heap[b]? = some o) : b < w.heap.size := (Array.getElem?_eq_some_iff.1 h).1
theorem box_set {w : World} {b t : Nat} {v : Value} (h : w.heap[b]? = some (.cells #[v] t (0, 0))) (u : Value) : (w.setCell ⟨b, 0, none⟩ u).heap[b]? = some (.cells #[u] t (0, 0)) := by
  simp [World.setCell, Array.getElem?_modify, h]
theorem grown_set (w : World) (b : Nat) (u : Value) : w.grownBy (w.setCell ⟨b, 0, none⟩ u) (some b) :=
  ⟨rfl, rfl, rfl, by simp [World.setCell], fun i hi hne => Below.heap_setCell _ _ _ _ (fun e => hne (by rw [e]))⟩
theorem grown_drewN (w : World) (k : Nat) (row : Option Nat) : w.grownBy (w.drewN k) row := ⟨rfl, rfl, rfl, Nat.le_refl _, fun _ _ _ => rfl⟩
set_option maxRecDepth 100000 in
set_option maxHeartbeats 4000000 in
theorem all1_in (n l b bt n₀ : Nat) (hn : 1 ≤ n) (A : Option Addr) (cap : Nat) (t : Nat → Nat) (ht : TabIs t) (s : ByteArray) (hs : s.size ≤ 281474976710656) (xs : List (ByteArray × Nat)) (hF : Frs t s xs) (J Jx : List (ByteArray × Nat) → World → Prop)
    (hJ : AbC b J)
    (hY : ∀ pre x W1, J pre W1 → (pre ++ [x]) <+: xs → YieldAt Fence.wide (n - 1) Try.prog l (encF x) W1 fun e W' =>
      (e = .returned (.bool true) ∧ J (pre ++ [x]) W' ∧ KpF n₀ b bt W1 W') ∨ (e = .returned (.bool false) ∧ Jx (pre ++ [x]) W'))
    (W : World) (hb : W.heap[b]? = some (.cells #[.string s] 9 (0, 0))) (hbt : W.heap[bt]? = some (.cells #[.slice A 256 cap] 22 (0, 0))) (hne : b ≠ bt) (hnb : n₀ ≤ b) (hR : Row1 W n₀ A 256 (fun i => .int .u32 (t i : Nat))) (h0 : J [] W) :
    CallsIn Fence.wide n Try.prog 63 #[.func (.yield l) #[] #[], .pointer (some ⟨b, 0, none⟩), .pointer (some ⟨bt, 0, none⟩)] W fun e W' => (∃ v, e = .returned v) ∧
      ((∃ ys, ys = xs ∧ J ys W') ∨ (∃ pre, pre <+: xs ∧ Jx pre W')) := by
  refine callsIn_of_wp Try.func63 rfl trivial ?_ rfl
  simp only [Try.ntmps63, List.size_toArray, List.length_cons, List.length_nil, Nat.reduceAdd, Nat.reduceSub, Array.replicate_succ, Array.replicate_zero, List.push_toArray, List.append_toArray, List.nil_append, List.cons_append]
  gi_wp2
  gi_loopw [4] (fun _ wr => ∃ (pre rest : List (ByteArray × Nat)) (r : ByteArray), xs = pre ++ rest ∧ r.size ≤ 281474976710656 ∧ Frs t r rest ∧ wr.heap[b]? = some (.cells #[.string r] 9 (0, 0)) ∧ wr.heap[bt]? = some (.cells #[.slice A 256 cap] 22 (0, 0)) ∧ Row1 wr n₀ A 256 (fun i => .int .u32 (t i : Nat)) ∧ J pre wr)
    (fun _ wr => leftF b wr)
  case atStart => exact ⟨[], xs, s, rfl, hs, hF, hb, hbt, hR, h0⟩
  case round =>
    obtain ⟨pre, rest, r, hx, hrs, hFr, hbr, hbtr, hRr, hJs⟩ := hrel
    obtain ⟨c1, f1⟩ := box_cell hbr
    obtain ⟨c2, f2⟩ := box_cell hbtr
    have hlb := box_lt hbr
    have hlbt := box_lt hbtr
    have HL := Lib.hid (leftF_eq c1)
    cases hFr with
    | nil hz =>
      have e1 : r.toList = [] := by
        rw [ByteArray.toList_eq]
        have h2 : r.data.toList.length = r.size := by simp
        exact List.eq_nil_of_length_eq_zero (by omega)
      have HX := Lib.hid hx
      clear hx hRr hF hb hbt h0 hz
      gi_wp2
      go_end0
      exact ⟨⟨_, rfl⟩, .inl ⟨pre, by simpa using HX.out.symm, hJs⟩⟩
    | @bad _ c hz hn2 =>
      obtain ⟨z1, z2, z3⟩ := nonempty_toList hz
      have hc0 : ((c : Int) != 0) = true := by rw [bne_iff_ne]; have := next_errne hn2; omega
      have HX := Lib.hid hx
      have HR := Lib.hid (hRr.more (B' := wr.heap.size) (by omega))
      have HN := Lib.hid hn2
      clear hx hRr hF hb hbt h0 hz hn2
      gi_wp2_with fail
      refine ⟨trivial, ?_⟩
      refine (callsIn_wide.2 (next_any A cap t ht r hrs wr HR.out)).mono ?_
      rw [HN.out]
      rintro e w2 ⟨rfl, hb2⟩
      obtain ⟨fn, tmps, assign, body, hy, hRd⟩ := hY pre (⟨#[]⟩, c) w2 (hJ _ _ _ hJs (grown_below hb2 _)) ⟨[], by rw [List.append_nil]; exact HX.out.symm⟩
      dsimp only [encF] at hy
      gi_wp2
      refine hRd.mono ?_
      rintro e W3 (⟨rfl, hJ3, hk3⟩ | ⟨rfl, hJx3⟩)
      · gi_wp2
        refine bodyPost_ret (results_none rfl _ _ _) rfl ?_
        exact ⟨⟨_, rfl⟩, .inl ⟨pre ++ [(⟨#[]⟩, c)], HX.out.symm, hJ3⟩⟩
      · gi_wp2
        refine bodyPost_ret (results_none rfl _ _ _) rfl ?_
        exact ⟨⟨_, rfl⟩, .inr ⟨pre ++ [(⟨#[]⟩, c)], ⟨[], by rw [List.append_nil]; exact HX.out.symm⟩, hJx3⟩⟩
    | @ok _ x q rest' hz hn2 hF2 =>
      obtain ⟨z1, z2, z3⟩ := nonempty_toList hz
      have hless := next_less hn2
      have HX := Lib.hid hx
      have HR := Lib.hid (hRr.more (B' := wr.heap.size) (by omega))
      have HR0 := Lib.hid hRr
      have HN := Lib.hid hn2
      clear hx hRr hF hb hbt h0 hz hn2
      gi_wp2_with fail
      refine ⟨trivial, ?_⟩
      refine (callsIn_wide.2 (next_any A cap t ht r hrs wr HR.out)).mono ?_
      rw [HN.out]
      rintro e w2 ⟨rfl, hb2⟩
      have hbr2 := (hb2.block b hlb).trans hbr
      have hbt2 := (hb2.block bt hlbt).trans hbtr
      obtain ⟨fn, tmps, assign, body, hy, hRd⟩ := hY pre (x, 0) w2 (hJ _ _ _ hJs (grown_below hb2 _)) ⟨rest', by rw [HX.out]; simp⟩
      replace hy : (Instr.yield l #[.string x, .int .i64 0]).run Try.prog w2 = _ := hy
      have HB2 := Lib.hid (hb2.mono (B' := n₀) (by omega))
      clear hb2 hJs c1 c2 f1 f2
      gi_wp2
      refine hRd.mono ?_
      rintro e W3 (⟨rfl, hJ3, hk3, hk4, hk5⟩ | ⟨rfl, hJx3⟩)
      · have hbr3 := hk4.trans hbr2
        have hbt3 := hk5.trans hbt2
        obtain ⟨c3, f3⟩ := box_cell hbr3
        have HK := Lib.hid hk3
        clear hk3 hk4 hk5 hbr2 hbt2 hy
        gi_wp2
        go_roundw
        case rel =>
          refine ⟨pre ++ [(x, 0)], rest', q, by rw [HX.out]; simp, by omega, hF2, box_set hbr3 _, ?_, ?_, hJ _ _ _ hJ3 (grown_set _ _ _)⟩
          · exact (Below.heap_setCell _ _ _ _ (fun e => hne e.symm)).trans hbt3
          · exact (HR0.out.below (HB2.out.trans HK.out)).keep fun p hp => World.cell?_setCell_other _ _ _ _ (fun e => by subst e; simp at hp; omega)
        case measure => rw [HL.out, leftF_eq (box_cell (box_set hbr3 _)).1]; exact hless
      · gi_wp2
        refine bodyPost_ret (results_none rfl _ _ _) rfl ?_
        exact ⟨⟨_, rfl⟩, .inr ⟨pre ++ [(x, 0)], ⟨rest', by rw [HX.out]; simp⟩, hJx3⟩⟩
end Go.Proofs.Ytjeiklgaiefeaaa
