/- How wire's writer puts texts and numbers: a builder inside a struct. Conditions: lengths in reach. -/
import Derived.Test.YtooaodgamakoeaaDoorDec
import Derived.Lib.OthersKept
import Derived.Lib.OwnKind
import Derived.Lib.AppendStr
import Derived.Lib.UnsafeStr
import Derived.Laws.Externs
namespace Go.Proofs.YtooaodgamakoeaaDoor
open Go.RowKit Go.Lib Go.Sort
set_option linter.unusedVariables false
theorem sizeBld : (Tryd.prog.info? 78).map (·.size) = some 2 := by kernel_rfl
theorem liesBld : liesAt Tryd.prog Tryd.prog.depth 80 (2 / Tryd.prog.cellsOf 80) 0 78 1 = true := by kernel_rfl
/-- the writer in block b holds bytes l; its cells lie from B on -/
def Wrt (w : World) (B b : Nat) (l : List UInt8) : Prop := IsBuilder 80 5 B b (byteCells l) w
set_option maxHeartbeats 1000000 in
set_option maxRecDepth 100000 in
theorem copy_fresh (b : Nat) (w : World) (h0 : w.cell? ⟨b, 0, none⟩ = some (.pointer none)) (hsh : w.shape? b = some (80, 2)) (hfz : w.frozen? ⟨b, 0, none⟩ = false) :
    Calls Tryd.prog 77 #[.pointer (some ⟨b, 0, none⟩)] w fun e w' => e = .returned (.tuple #[]) ∧ w' = w.setCell ⟨b, 0, none⟩ (.pointer (some ⟨b, 0, none⟩)) := by
  obtain ⟨j, hj, hjs⟩ := Option.map_eq_some_iff.1 sizeBld
  go_enter Tryd.func77, Tryd.ntmps77
  go_wp2
  rw [Lib.run_to_unsafe w ⟨b, 0, none⟩ Tryd.underlying75 Tryd.underlying144 hj (by rw [hjs]; decide) hsh (Nat.zero_lt_succ 1)]
  simp only [Result.andThen]
  rw [Oper.upon_value]
  go_wp2
  rw [run_callFunc_extern Tryd.func110 (by kernel_rfl) (by kernel_rfl) (by kernel_rfl) (e := Extern.AbiNoEscape.same) (by kernel_rfl)]
  rw [Lib.run_noEscape]
  simp only [Result.andThen]
  rw [Oper.upon_value]
  go_wp2
  rw [Lib.run_from_unsafe w ⟨b, 0, none⟩ Tryd.underlying144 Tryd.underlying75 hj hsh liesBld]
  simp only [Result.andThen]
  rw [Oper.upon_value]
  go_wp2
  go_end0
  exact ⟨rfl, rfl⟩
set_option maxHeartbeats 1000000 in
set_option maxRecDepth 100000 in
theorem copy_used (b : Nat) (w : World) (h0 : w.cell? ⟨b, 0, none⟩ = some (.pointer (some ⟨b, 0, none⟩))) :
    Calls Tryd.prog 77 #[.pointer (some ⟨b, 0, none⟩)] w fun e w' => e = .returned (.tuple #[]) ∧ w' = w := by
  obtain ⟨j, hj, hjs⟩ := Option.map_eq_some_iff.1 sizeBld
  go_enter Tryd.func77, Tryd.ntmps77
  go_wp2
  rw [Lib.run_neq_ptr_same w _ Tryd.underlying75 hj]
  go_wp2
  go_end0
  exact ⟨rfl, rfl⟩
theorem copy_any (B b : Nat) (l : List UInt8) (w : World) (h : Wrt w B b l) :
    Calls Tryd.prog 77 #[.pointer (some ⟨b, 0, none⟩)] w fun e w' => e = .returned (.tuple #[]) ∧ BuilderAt 80 5 B b (.pointer (some ⟨b, 0, none⟩)) (byteCells l) w' ∧ Below B w w' ∧ OthersKept 5 (some b) w w' := by
  rcases h with h | h
  · refine (copy_fresh b w h.cell0 h.shape h.frozen0).mono ?_
    rintro e w' ⟨rfl, rfl⟩
    exact ⟨rfl, h.used _, (Below.refl B w).setCell (p := ⟨b, 0, none⟩) h.1 _, (OthersKept.refl _ _ w).setCell ⟨b, 0, none⟩ rfl _⟩
  · refine (copy_used b w h.cell0).mono ?_
    rintro e w' ⟨rfl, rfl⟩
    exact ⟨rfl, h, Below.refl B _, OthersKept.refl _ _ _⟩
theorem infoB8 : (Tryd.prog.info? 5).map (fun i => (i.zero, i.size, i.bytes)) = some (some (.int .u8 0), 1, 1) := by kernel_rfl
theorem strC (s : ByteArray) : strCells s = byteCells s.data.toList := rfl
theorem byteC_app (l m : List UInt8) : byteCells l ++ byteCells m = byteCells (l ++ m) := by unfold byteCells; rw [List.map_append]
/-- what a writer's method answers -/
def WrQ (B b : Nat) (l : List UInt8) (w : World) (w' : World) : Prop := Wrt w' B b l ∧ Below B w w' ∧ OthersKept 5 (some b) w w'
set_option maxHeartbeats 2000000 in
set_option maxRecDepth 100000 in
theorem wstr_any (B b : Nat) (l : List UInt8) (s : ByteArray) (w : World) (h : Wrt w B b l) (hlen : l.length + s.size ≤ 140737488355328) (hBw : B ≤ w.heap.size) :
    Calls Tryd.prog 46 #[.pointer (some ⟨b, 0, none⟩), .string s] w fun e w' => e = .returned (.tuple #[.int .i64 s.size, .nilIface]) ∧ WrQ B b (l ++ s.data.toList) w w' := by
  obtain ⟨i0, hi, hz0, hz1, hz2⟩ := info_parts infoB8
  have hbl : (byteCells l).length = l.length := byteCells_length l
  go_enter Tryd.func46, Tryd.ntmps46
  go_wp2_with (go_at_call 77; refine (copy_any B b l _ h).mono ?_)
  rintro e w1 ⟨rfl, h1, hb1, hk1⟩
  obtain ⟨hB, v, hbk, hown, hne⟩ := h1
  have c0 : w1.cell? ⟨b, 0, none⟩ = some (.pointer (some ⟨b, 0, none⟩)) := by rw [Lib.cell_of_heap hbk]; rfl
  have c1 : w1.cell? ⟨b, 1, none⟩ = some v := by rw [Lib.cell_of_heap hbk]; rfl
  go_wp2_with (at_builtin; refine Lib.wpList_append_own_string _ rfl _ _ 76 9 rfl B 5 i0 Tryd.underlying76 Tryd.underlying9 hi hz0 hz1 hz2 _ _ _ rfl hown s rfl ?c3 ?c4 ?c5 ?_)
  case c3 => unfold maxLen; omega
  case c4 => omega
  case c5 => have := hb1.size; omega
  intro v' w2 hown' hgrow _
  have hlt : b < w1.heap.size := lt_of_block hbk
  have hb2 : w2.heap[b]? = some (.cells #[.pointer (some ⟨b, 0, none⟩), v] 80 (0, 0)) := by
    rw [hgrow.block b hlt (fun e => hne e.symm)]
    exact hbk
  have d0 : w2.cell? ⟨b, 0, none⟩ = some (.pointer (some ⟨b, 0, none⟩)) := by rw [Lib.cell_of_heap hb2]; rfl
  have d1 : w2.cell? ⟨b, 1, none⟩ = some v := by rw [Lib.cell_of_heap hb2]; rfl
  have f1 : w2.frozen? ⟨b, 1, none⟩ = false := Lib.frozen_of_heap hb2 1
  have HO := Lib.hid hown'
  have HOK := Lib.hid (hk1.grown hgrow (Lib.ownsRowF_kind (World.ownsRowF_of hown)))
  clear hown'
  obtain ⟨ao, n', cap, rfl⟩ : ∃ ao n' cap, v' = .slice ao n' cap := by
    rcases HO.out.2 with ⟨hv, _⟩ | ⟨g, cap, cur, hv, _⟩
    · exact ⟨_, _, _, hv⟩
    · exact ⟨_, _, _, hv⟩
  go_wp2
  go_ret2
  refine ⟨rfl, .inr ?_, ?_, ?_⟩
  · have hq : l.length + s.size = (byteCells l ++ strCells s).length := by rw [List.length_append, Lib.strCells_length, hbl]
    have := Lib.BuilderAt.put (T := 80) (e := 5) hB hb2 (bs' := byteCells l ++ strCells s) (hq ▸ HO.out) (by decide)
    rw [strC, byteC_app] at this
    exact this
  · exact (hb1.grown hgrow (by have := hb1.size; omega) (fun k hk => (hown.lt k hk).1)).setCell (p := ⟨b, 1, none⟩) hB _
  · exact HOK.out.setCell ⟨b, 1, none⟩ rfl _
theorem cells8 : Tryd.prog.cellsOf 5 = 1 := by kernel_rfl
set_option maxHeartbeats 1000000 in
set_option maxRecDepth 100000 in
theorem wstring_any (B b : Nat) (l : List UInt8) (w : World) (h : Wrt w B b l) (h0 : l ≠ []) :
    Calls Tryd.prog 48 #[.pointer (some ⟨b, 0, none⟩)] w fun e w' => e = .returned (.string ⟨l.toArray⟩) ∧ Below B w w' := by
  obtain ⟨p, hB, v, hbk, hown, hne⟩ : ∃ p, BuilderAt 80 5 B b p (byteCells l) w := by
    rcases h with h | h
    · exact ⟨_, h⟩
    · exact ⟨_, h⟩
  have hl0 : l.length ≠ 0 := by simpa using h0
  rw [byteCells_length] at hown
  obtain ⟨g, cap, cur, rfl, hbg, hg, hnc, hcm, hcs, htake⟩ : ∃ g cap cur, v = .slice (some ⟨g, 0, none⟩) l.length cap ∧ B ≤ g ∧ w.heap[g]? = some (.cells cur 5 (0, 0)) ∧ l.length ≤ cap ∧ cap ≤ maxLen ∧ cur.size = cap * 1 ∧ cur.toList.take (l.length * 1) = byteCells l := by
    rcases hown.2 with ⟨_, hz⟩ | ⟨g, cap, cur, hv, r⟩
    · exact absurd hz hl0
    · exact ⟨g, cap, cur, hv, r⟩
  have c1 : w.drew.cell? ⟨b, 1, none⟩ = some (.slice (some ⟨g, 0, none⟩) l.length cap) := by
    have : w.drew.heap[b]? = some (.cells #[p, .slice (some ⟨g, 0, none⟩) l.length cap] 80 (0, 0)) := hbk
    rw [cell_of_heap this]; rfl
  have hSD : (Builtin.unsafeSliceData_ #[76] 119 #[.slice (some ⟨g, 0, none⟩) l.length cap]).run Tryd.prog w.drew = .ok (.pointer (some ⟨g, 0, none⟩)) w.drew :=
    Lib.run_unsafeSliceData_row _ _ _ _ _ _ (by omega)
  have hUS : (Builtin.unsafeString_ #[119, 3] 9 #[.pointer (some ⟨g, 0, none⟩), .int .i64 l.length]).run Tryd.prog w.drew = .ok (.string ⟨l.toArray⟩) (w.drew.freeze ⟨g, 0, none⟩ l.length) := by
    refine Lib.run_unsafeString_row w.drew 119 3 9 5 Tryd.underlying119 cells8 g cur.size (by have hg' : w.drew.heap[g]? = some (.cells cur 5 (0, 0)) := hg; simp [World.shape?, hg']) l h0 (by omega) (by unfold maxLen at hcm; omega) ?_
    intro j x hx
    have := hown.cells (g := g) rfl j (.int .u8 x.toNat) (by simp [byteCells, hx])
    exact this
  clear hl0
  go_enter Tryd.func48, Tryd.ntmps48
  go_wp2
  go_region
  all_goals (go_wp2; go_ret; exact ⟨rfl, Lib.below_freeze (Below.drew (Below.refl B w)) (p := ⟨g, 0, none⟩) hbg _⟩)
section
variable {B b : Nat} {l m : List UInt8} {w w1 w2 : World}
theorem WrQ.trans (h : WrQ B b l w w1) (k : WrQ B b m w1 w2) : WrQ B b m w w2 := ⟨k.1, h.2.1.trans k.2.1, h.2.2.trans k.2.2⟩
theorem Wrt.pt (h : Wrt w B b l) : B ≤ b ∧ b < w.heap.size := by
  rcases h with h | h
  · exact ⟨h.1, h.lt⟩
  · exact ⟨h.1, h.lt⟩
theorem BuilderAt.alloc' {T e : TypeId} {p : Value} {bs : List Value} (h : BuilderAt T e B b p bs w) (o : Obj) : BuilderAt T e B b p bs (w.alloc o) := by
  have hl := BuilderAt.lt h
  obtain ⟨h1, v, h2, h3, h4⟩ := h
  exact ⟨h1, v, (Below.heap_alloc w o b hl).trans h2, h3.alloc o, h4⟩
theorem Wrt.alloc (h : Wrt w B b l) (o : Obj) : Wrt (w.alloc o) B b l := by
  rcases h with h | h
  · exact .inl (BuilderAt.alloc' h o)
  · exact .inr (BuilderAt.alloc' h o)
theorem BuilderAt.below' {T e : TypeId} {p : Value} {bs : List Value} (h : BuilderAt T e B b p bs w) (hb : Below w.heap.size w w1) : BuilderAt T e B b p bs w1 := by
  have hl := BuilderAt.lt h
  obtain ⟨h1, v, h2, h3, h4⟩ := h
  exact ⟨h1, v, (hb.block b hl).trans h2, h3.kept (row := none) (gby_below hb) (by cases hv : v.ownBlock <;> simp), h4⟩
theorem Wrt.below (h : Wrt w B b l) (hb : Below w.heap.size w w1) : Wrt w1 B b l := by
  rcases h with h | h
  · exact .inl (BuilderAt.below' h hb)
  · exact .inr (BuilderAt.below' h hb)
theorem OthersKept.below' {e : TypeId} {bo : Option Nat} {a : World} (h : OthersKept e bo a w) (hb : Below w.heap.size w w1) : OthersKept e bo a w1 := fun k o hk hne ho => by
  have h1 := h k o hk hne ho
  exact (hb.block k (lt_of_block h1)).trans h1
theorem WrQ.alloc (h : WrQ B b l w w1) (hB : B ≤ w1.heap.size) (o : Obj) : WrQ B b l w (w1.alloc o) := ⟨h.1.alloc o, h.2.1.alloc hB o, h.2.2.alloc o⟩
theorem WrQ.below (h : WrQ B b l w w1) (hb : Below w1.heap.size w1 w2) : WrQ B b l w w2 := ⟨h.1.below hb, h.2.1.trans (hb.mono (Nat.le_trans (Nat.le_trans h.1.pt.1 (Nat.le_of_lt h.1.pt.2)) (Nat.le_refl _))), OthersKept.below' h.2.2 hb⟩
theorem WrQ.refl (h : Wrt w B b l) : WrQ B b l w w := ⟨h, Below.refl _ _, OthersKept.refl _ _ _⟩
end
end Go.Proofs.YtooaodgamakoeaaDoor
