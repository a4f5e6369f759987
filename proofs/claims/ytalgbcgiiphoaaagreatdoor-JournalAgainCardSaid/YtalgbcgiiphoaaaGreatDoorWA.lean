/- How wire's writer puts texts and numbers: a builder inside a struct. Conditions: lengths in reach. | How wire's writer puts numbers and ids. Conditions: lengths in reach. | How wire's writer puts an operation. Conditions: lengths in reach. -/
import Derived.Test.YtalgbcgiiphoaaaGreatDoorDec
import Derived.Lib.OthersKept
import Derived.Lib.OwnKind
import Derived.Lib.AppendStr
import Derived.Lib.UnsafeStr
import Derived.Laws.Externs
section
namespace Go.Proofs.YtalgbcgiiphoaaaGreatDoor
open Go.RowKit Go.Lib Go.Sort
set_option linter.unusedVariables false
theorem sizeBld : (Tryz.prog.info? 100).map (·.size) = some 2 := by kernel_rfl
theorem liesBld : liesAt Tryz.prog Tryz.prog.depth 102 (2 / Tryz.prog.cellsOf 102) 0 100 1 = true := by kernel_rfl
/-- the writer in block b holds bytes l; its cells lie from B on -/
def Wrt (w : World) (B b : Nat) (l : List UInt8) : Prop := IsBuilder 102 5 B b (byteCells l) w
set_option maxHeartbeats 1000000 in
set_option maxRecDepth 100000 in
theorem copy_fresh (b : Nat) (w : World) (h0 : w.cell? ⟨b, 0, none⟩ = some (.pointer none)) (hsh : w.shape? b = some (102, 2)) (hfz : w.frozen? ⟨b, 0, none⟩ = false) :
    Calls Tryz.prog 96 #[.pointer (some ⟨b, 0, none⟩)] w fun e w' => e = .returned (.tuple #[]) ∧ w' = w.setCell ⟨b, 0, none⟩ (.pointer (some ⟨b, 0, none⟩)) := by
  obtain ⟨j, hj, hjs⟩ := Option.map_eq_some_iff.1 sizeBld
  go_enter Tryz.func96, Tryz.ntmps96
  go_wp2
  rw [Lib.run_to_unsafe w ⟨b, 0, none⟩ Tryz.underlying97 Tryz.underlying158 hj (by rw [hjs]; decide) hsh (Nat.zero_lt_succ 1)]
  simp only [Result.andThen]
  rw [Oper.upon_value]
  go_wp2
  rw [run_callFunc_extern Tryz.func127 (by kernel_rfl) (by kernel_rfl) (by kernel_rfl) (e := Extern.AbiNoEscape.same) (by kernel_rfl)]
  rw [Lib.run_noEscape]
  simp only [Result.andThen]
  rw [Oper.upon_value]
  go_wp2
  rw [Lib.run_from_unsafe w ⟨b, 0, none⟩ Tryz.underlying158 Tryz.underlying97 hj hsh liesBld]
  simp only [Result.andThen]
  rw [Oper.upon_value]
  go_wp2
  go_end0
  exact ⟨rfl, rfl⟩
set_option maxHeartbeats 1000000 in
set_option maxRecDepth 100000 in
theorem copy_used (b : Nat) (w : World) (h0 : w.cell? ⟨b, 0, none⟩ = some (.pointer (some ⟨b, 0, none⟩))) :
    Calls Tryz.prog 96 #[.pointer (some ⟨b, 0, none⟩)] w fun e w' => e = .returned (.tuple #[]) ∧ w' = w := by
  obtain ⟨j, hj, hjs⟩ := Option.map_eq_some_iff.1 sizeBld
  go_enter Tryz.func96, Tryz.ntmps96
  go_wp2
  rw [Lib.run_neq_ptr_same w _ Tryz.underlying97 hj]
  go_wp2
  go_end0
  exact ⟨rfl, rfl⟩
theorem copy_any (B b : Nat) (l : List UInt8) (w : World) (h : Wrt w B b l) :
    Calls Tryz.prog 96 #[.pointer (some ⟨b, 0, none⟩)] w fun e w' => e = .returned (.tuple #[]) ∧ BuilderAt 102 5 B b (.pointer (some ⟨b, 0, none⟩)) (byteCells l) w' ∧ Below B w w' ∧ OthersKept 5 (some b) w w' := by
  rcases h with h | h
  · refine (copy_fresh b w h.cell0 h.shape h.frozen0).mono ?_
    rintro e w' ⟨rfl, rfl⟩
    exact ⟨rfl, h.used _, (Below.refl B w).setCell (p := ⟨b, 0, none⟩) h.1 _, (OthersKept.refl _ _ w).setCell ⟨b, 0, none⟩ rfl _⟩
  · refine (copy_used b w h.cell0).mono ?_
    rintro e w' ⟨rfl, rfl⟩
    exact ⟨rfl, h, Below.refl B _, OthersKept.refl _ _ _⟩
theorem infoB8 : (Tryz.prog.info? 5).map (fun i => (i.zero, i.size, i.bytes)) = some (some (.int .u8 0), 1, 1) := by kernel_rfl
theorem strC (s : ByteArray) : strCells s = byteCells s.data.toList := rfl
theorem byteC_app (l m : List UInt8) : byteCells l ++ byteCells m = byteCells (l ++ m) := by unfold byteCells; rw [List.map_append]
/-- what a writer's method answers -/
def WrQ (B b : Nat) (l : List UInt8) (w : World) (w' : World) : Prop := Wrt w' B b l ∧ Below B w w' ∧ OthersKept 5 (some b) w w'
set_option maxHeartbeats 2000000 in
set_option maxRecDepth 100000 in
theorem wstr_any (B b : Nat) (l : List UInt8) (s : ByteArray) (w : World) (h : Wrt w B b l) (hlen : l.length + s.size ≤ 140737488355328) (hBw : B ≤ w.heap.size) :
    Calls Tryz.prog 61 #[.pointer (some ⟨b, 0, none⟩), .string s] w fun e w' => e = .returned (.tuple #[.int .i64 s.size, .nilIface]) ∧ WrQ B b (l ++ s.data.toList) w w' := by
  obtain ⟨i0, hi, hz0, hz1, hz2⟩ := info_parts infoB8
  have hbl : (byteCells l).length = l.length := byteCells_length l
  go_enter Tryz.func61, Tryz.ntmps61
  go_wp2_with (go_at_call 96; refine (copy_any B b l _ h).mono ?_)
  rintro e w1 ⟨rfl, h1, hb1, hk1⟩
  obtain ⟨hB, v, hbk, hown, hne⟩ := h1
  have c0 : w1.cell? ⟨b, 0, none⟩ = some (.pointer (some ⟨b, 0, none⟩)) := by rw [Lib.cell_of_heap hbk]; rfl
  have c1 : w1.cell? ⟨b, 1, none⟩ = some v := by rw [Lib.cell_of_heap hbk]; rfl
  go_wp2_with (at_builtin; refine Lib.wpList_append_own_string _ rfl _ _ 98 9 rfl B 5 i0 Tryz.underlying98 Tryz.underlying9 hi hz0 hz1 hz2 _ _ _ rfl hown s rfl ?c3 ?c4 ?c5 ?_)
  case c3 => unfold maxLen; omega
  case c4 => omega
  case c5 => have := hb1.size; omega
  intro v' w2 hown' hgrow _
  have hlt : b < w1.heap.size := lt_of_block hbk
  have hb2 : w2.heap[b]? = some (.cells #[.pointer (some ⟨b, 0, none⟩), v] 102 (0, 0)) := by
    rw [hgrow.block b hlt (fun e => hne e.symm)]
    exact hbk
  have d0 : w2.cell? ⟨b, 0, none⟩ = some (.pointer (some ⟨b, 0, none⟩)) := by rw [Lib.cell_of_heap hb2]; rfl
  have d1 : w2.cell? ⟨b, 1, none⟩ = some v := by rw [Lib.cell_of_heap hb2]; rfl
  have f1 : w2.frozen? ⟨b, 1, none⟩ = false := Lib.frozen_of_heap hb2 1
  have HO := Lib.hid hown'
  have HOK := Lib.hid (hk1.grown hgrow (Lib.ownsRowF_kind (World.ownsRowF_of hown)))
  clear hown'
  obtain ⟨ao, n', cap, rfl⟩ : ∃ ao n' cap, v' = .slice ao n' cap := by
    rcases HO.out.2 with ⟨hv, _⟩ | ⟨g, cap, cur, hv, _⟩
    · exact ⟨_, _, _, hv⟩
    · exact ⟨_, _, _, hv⟩
  go_wp2
  go_ret2
  refine ⟨rfl, .inr ?_, ?_, ?_⟩
  · have hq : l.length + s.size = (byteCells l ++ strCells s).length := by rw [List.length_append, Lib.strCells_length, hbl]
    have := Lib.BuilderAt.put (T := 102) (e := 5) hB hb2 (bs' := byteCells l ++ strCells s) (hq ▸ HO.out) (by decide)
    rw [strC, byteC_app] at this
    exact this
  · exact (hb1.grown hgrow (by have := hb1.size; omega) (fun k hk => (hown.lt k hk).1)).setCell (p := ⟨b, 1, none⟩) hB _
  · exact HOK.out.setCell ⟨b, 1, none⟩ rfl _
theorem cells8 : Tryz.prog.cellsOf 5 = 1 := by kernel_rfl
set_option maxHeartbeats 1000000 in
set_option maxRecDepth 100000 in
theorem wstring_any (B b : Nat) (l : List UInt8) (w : World) (h : Wrt w B b l) (h0 : l ≠ []) :
    Calls Tryz.prog 63 #[.pointer (some ⟨b, 0, none⟩)] w fun e w' => e = .returned (.string ⟨l.toArray⟩) ∧ Below B w w' := by
  obtain ⟨p, hB, v, hbk, hown, hne⟩ : ∃ p, BuilderAt 102 5 B b p (byteCells l) w := by
    rcases h with h | h
    · exact ⟨_, h⟩
    · exact ⟨_, h⟩
  have hl0 : l.length ≠ 0 := by simpa using h0
  rw [byteCells_length] at hown
  obtain ⟨g, cap, cur, rfl, hbg, hg, hnc, hcm, hcs, htake⟩ : ∃ g cap cur, v = .slice (some ⟨g, 0, none⟩) l.length cap ∧ B ≤ g ∧ w.heap[g]? = some (.cells cur 5 (0, 0)) ∧ l.length ≤ cap ∧ cap ≤ maxLen ∧ cur.size = cap * 1 ∧ cur.toList.take (l.length * 1) = byteCells l := by
    rcases hown.2 with ⟨_, hz⟩ | ⟨g, cap, cur, hv, r⟩
    · exact absurd hz hl0
    · exact ⟨g, cap, cur, hv, r⟩
  have c1 : w.drew.cell? ⟨b, 1, none⟩ = some (.slice (some ⟨g, 0, none⟩) l.length cap) := by
    have : w.drew.heap[b]? = some (.cells #[p, .slice (some ⟨g, 0, none⟩) l.length cap] 102 (0, 0)) := hbk
    rw [cell_of_heap this]; rfl
  have hSD : (Builtin.unsafeSliceData_ #[98] 140 #[.slice (some ⟨g, 0, none⟩) l.length cap]).run Tryz.prog w.drew = .ok (.pointer (some ⟨g, 0, none⟩)) w.drew :=
    Lib.run_unsafeSliceData_row _ _ _ _ _ _ (by omega)
  have hUS : (Builtin.unsafeString_ #[140, 3] 9 #[.pointer (some ⟨g, 0, none⟩), .int .i64 l.length]).run Tryz.prog w.drew = .ok (.string ⟨l.toArray⟩) (w.drew.freeze ⟨g, 0, none⟩ l.length) := by
    refine Lib.run_unsafeString_row w.drew 140 3 9 5 Tryz.underlying140 cells8 g cur.size (by have hg' : w.drew.heap[g]? = some (.cells cur 5 (0, 0)) := hg; simp [World.shape?, hg']) l h0 (by omega) (by unfold maxLen at hcm; omega) ?_
    intro j x hx
    have := hown.cells (g := g) rfl j (.int .u8 x.toNat) (by simp [byteCells, hx])
    exact this
  clear hl0
  go_enter Tryz.func63, Tryz.ntmps63
  go_wp2
  go_region
  all_goals (go_wp2; go_ret; exact ⟨rfl, Lib.below_freeze (Below.drew (Below.refl B w)) (p := ⟨g, 0, none⟩) hbg _⟩)
section
variable {B b : Nat} {l m : List UInt8} {w w1 w2 : World}
theorem WrQ.trans (h : WrQ B b l w w1) (k : WrQ B b m w1 w2) : WrQ B b m w w2 := ⟨k.1, h.2.1.trans k.2.1, h.2.2.trans k.2.2⟩
theorem Wrt.pt (h : Wrt w B b l) : B ≤ b ∧ b < w.heap.size := by
  rcases h with h | h
  · exact ⟨h.1, h.lt⟩
  · exact ⟨h.1, h.lt⟩
theorem BuilderAt.alloc' {T e : TypeId} {p : Value} {bs : List Value} (h : BuilderAt T e B b p bs w) (o : Obj) : BuilderAt T e B b p bs (w.alloc o) := by
  have hl := BuilderAt.lt h
  obtain ⟨h1, v, h2, h3, h4⟩ := h
  exact ⟨h1, v, (Below.heap_alloc w o b hl).trans h2, h3.alloc o, h4⟩
theorem Wrt.alloc (h : Wrt w B b l) (o : Obj) : Wrt (w.alloc o) B b l := by
  rcases h with h | h
  · exact .inl (BuilderAt.alloc' h o)
  · exact .inr (BuilderAt.alloc' h o)
theorem BuilderAt.below' {T e : TypeId} {p : Value} {bs : List Value} (h : BuilderAt T e B b p bs w) (hb : Below w.heap.size w w1) : BuilderAt T e B b p bs w1 := by
  have hl := BuilderAt.lt h
  obtain ⟨h1, v, h2, h3, h4⟩ := h
  exact ⟨h1, v, (hb.block b hl).trans h2, h3.kept (row := none) (gby_below hb) (by cases hv : v.ownBlock <;> simp), h4⟩
theorem Wrt.below (h : Wrt w B b l) (hb : Below w.heap.size w w1) : Wrt w1 B b l := by
  rcases h with h | h
  · exact .inl (BuilderAt.below' h hb)
  · exact .inr (BuilderAt.below' h hb)
theorem OthersKept.below' {e : TypeId} {bo : Option Nat} {a : World} (h : OthersKept e bo a w) (hb : Below w.heap.size w w1) : OthersKept e bo a w1 := fun k o hk hne ho => by
  have h1 := h k o hk hne ho
  exact (hb.block k (lt_of_block h1)).trans h1
theorem WrQ.alloc (h : WrQ B b l w w1) (hB : B ≤ w1.heap.size) (o : Obj) : WrQ B b l w (w1.alloc o) := ⟨h.1.alloc o, h.2.1.alloc hB o, h.2.2.alloc o⟩
theorem WrQ.below (h : WrQ B b l w w1) (hb : Below w1.heap.size w1 w2) : WrQ B b l w w2 := ⟨h.1.below hb, h.2.1.trans (hb.mono (Nat.le_trans (Nat.le_trans h.1.pt.1 (Nat.le_of_lt h.1.pt.2)) (Nat.le_refl _))), OthersKept.below' h.2.2 hb⟩
theorem WrQ.refl (h : Wrt w B b l) : WrQ B b l w w := ⟨h, Below.refl _ _, OthersKept.refl _ _ _⟩
end
end Go.Proofs.YtalgbcgiiphoaaaGreatDoor
end
section
namespace Go.Proofs.YtalgbcgiiphoaaaGreatDoor
open Go.RowKit Go.Lib Go.Sort
set_option linter.unusedVariables false
theorem natv_any (x : Int) (h : x < 9223372036854775808) (w : World) :
    Calls Tryz.prog 94 #[.int .i64 x] w fun e w' => ∃ c : Int, e = .returned (.tuple #[.string ⟨(natZ x).toArray⟩, .int .i64 c]) ∧ Below w.heap.size w w' := by
  by_cases h0 : 0 ≤ x
  · refine (nat_ok x h0 h w).mono ?_
    rintro e w' ⟨rfl, hB⟩
    exact ⟨0, by rw [natZ_of h0]; rfl, hB⟩
  · refine (nat_bad x (by omega) w).mono ?_
    rintro e w' ⟨rfl, rfl⟩
    refine ⟨1, ?_, Below.refl _ _⟩
    unfold natZ
    rw [if_pos (by omega)]
def intsA (xs : List Int) : Array Value := (xs.map (Value.int .i64)).toArray
set_option maxRecDepth 100000 in
set_option maxHeartbeats 4000000 in
theorem wnats_any (B b : Nat) (l : List UInt8) (g : Nat) (xs : List Int) (cap : Nat) (w : World) (hx : ∀ x ∈ xs, x < 9223372036854775808) (hl : l.length + 10 * xs.length ≤ 140737488355328) (hn : xs.length ≤ 100) (hW : Wrt w B b l) (hg : w.heap[g]? = some (.cells (intsA xs) 3 (0, 0))) (hgb : g ≠ b) :
    Calls Tryz.prog 59 #[.pointer (some ⟨b, 0, none⟩), .slice (some ⟨g, 0, none⟩) xs.length cap] w fun e w' => e = .returned (.tuple #[]) ∧ WrQ B b (l ++ xs.flatMap natZ) w w' := by
  have HW := Lib.hid (WrQ.refl hW)
  have HX := Lib.hid hx
  have HG := Lib.hid hg
  have hpt := hW.pt
  clear hW hx hg
  obtain ⟨n, hnn⟩ : ∃ n, n = xs.length := ⟨_, rfl⟩
  rw [← hnn] at hl hn ⊢
  have HN := Lib.hid hnn
  clear hnn
  go_enter Tryz.func59, Tryz.ntmps59
  go_wp2
  go_loopw [10] (fun i wr => ∃ k : Nat, k ≤ n ∧ i = .int .i64 k ∧ Hid (WrQ B b (l ++ (xs.take k).flatMap natZ) w wr)) (fun i _ => n - (RowKit.intOf i).toNat)
  case atStart => exact ⟨0, by omega, rfl, Lib.hid (by rw [List.take_zero, List.flatMap_nil, List.append_nil]; exact HW.out)⟩
  case round =>
    obtain ⟨k, hk, rfl, HQ⟩ := hrel
    by_cases hlt : k < n
    · have hkx : k < xs.length := by have := HN.out; omega
      have hgr := HQ.out.2.2 g _ HG.out (by intro e; cases e; exact hgb rfl) (by intro c fz e; injection e with _ e _; exact absurd e (by decide))
      obtain ⟨x, hxe⟩ : ∃ x, x = xs[k] := ⟨_, rfl⟩
      have hc : wr.cell? ⟨g, k, none⟩ = some (.int .i64 x) := by
        rw [cell_of_row _ _ _ _ _ _ hgr, hxe]
        simp [intsA, hkx]
      have hxb := HX.out x (by rw [hxe]; exact List.getElem_mem _)
      have hzl : (natZ x).length ≤ 10 := natZ_le hxb
      have HZL : Hid ((⟨(natZ x).toArray⟩ : ByteArray).size = (natZ x).length) := Lib.hid (by simp [ByteArray.size])
      have hpl : (l ++ (xs.take k).flatMap natZ).length ≤ l.length + 10 * k := by
        have h1 := flat_le (z := natZ) (c := 10) (l := xs.take k) fun y hy => natZ_le (HX.out y (List.mem_of_mem_take hy))
        have h2 : (xs.take k).length ≤ k := List.length_take_le _ _
        have h3 : 10 * (xs.take k).length ≤ 10 * k := Nat.mul_le_mul_left _ h2
        rw [List.length_append]; omega
      have HT : Hid ((l ++ (xs.take k).flatMap natZ) ++ natZ x = l ++ (xs.take (k + 1)).flatMap natZ) := by
        show _ = _
        rw [List.take_succ_eq_append_getElem hkx, List.flatMap_append, List.flatMap_singleton, hxe, List.append_assoc]
      have hC := natv_any x hxb
      clear hxe hgr hkx
      obtain ⟨P, hP⟩ : ∃ P, P = l ++ (xs.take k).flatMap natZ := ⟨_, rfl⟩
      rw [← hP] at hpl
      have HP := Lib.hid hP
      have HCC := Lib.hid hC
      clear hP hC
      go_wp2_with fail
      refine (HCC.out _).mono ?_
      rintro e w1 ⟨c, rfl, hB1⟩
      have HQ1 := Lib.hid ((show WrQ B b P w wr by rw [HP.out]; exact HQ.out).below hB1)
      clear hB1
      go_wp2_with fail
      refine (wstr_any B b P _ w1 HQ1.out.1 (by rw [HZL.out]; omega) (by have := HQ1.out.1.pt; omega)).mono ?_
      rintro e w2 ⟨rfl, hq2⟩
      have HQ2 := Lib.hid (HQ1.out.trans hq2)
      clear hq2
      go_wp2
      go_roundw
      case rel => exact ⟨k + 1, by omega, by go_num, Lib.hid (by rw [← HT.out, ← HP.out]; exact HQ2.out)⟩
      case measure => simp [RowKit.intOf]; omega
    · obtain rfl : k = n := by omega
      go_wp2
      go_end0
      exact ⟨rfl, by rw [HN.out, List.take_length] at HQ; exact HQ⟩
set_option maxRecDepth 100000 in
set_option maxHeartbeats 4000000 in
theorem wid_any (B b : Nat) (l : List UInt8) (x : Gid) (w : World) (hx : x.s.t < 9223372036854775808 ∧ x.s.r < 9223372036854775808 ∧ x.i < 9223372036854775808) (hl : l.length + 30 ≤ 140737488355328) (hW : Wrt w B b l) :
    Calls Tryz.prog 97 #[.pointer (some ⟨b, 0, none⟩), idV x] w fun e w' => e = .returned (.tuple #[]) ∧ WrQ B b (l ++ idZ x) w w' := by
  obtain ⟨⟨t, r⟩, i⟩ := x
  show Calls _ _ #[.pointer (some ⟨b, 0, none⟩), .agg #[.int .i64 t, .int .i64 r, .int .i64 i]] w _
  have hpt := hW.pt
  have HQ := Lib.hid (((WrQ.refl hW).alloc (by omega) (.cells #[.int .i64 t, .int .i64 r, .int .i64 i] 66)).alloc (by simp; omega) (.cells (intsA [t, r, i]) 3))
  have HG := Lib.hid (heap_alloc_newC (n := w.heap.size + 1) (w.alloc (.cells #[.int .i64 t, .int .i64 r, .int .i64 i] 66)) (.cells (intsA [t, r, i]) 3) (by simp))
  have HX := Lib.hid hx
  clear hW hx
  go_enter Tryz.func97, Tryz.ntmps97
  go_wp2_with fail
  refine (wnats_any B b l (w.heap.size + 1) [t, r, i] 3 _ (by have := HX.out; simp only [List.mem_cons, List.not_mem_nil, or_false]; rintro x (rfl | rfl | rfl); exact this.1; exact this.2.1; exact this.2.2) (by simp; omega) (by simp) HQ.out.1 HG.out (by omega)).mono ?_
  rintro e w' ⟨rfl, hq⟩
  have HQ2 := Lib.hid (HQ.out.trans hq)
  clear hq
  go_wp2
  go_end0
  refine ⟨rfl, ?_⟩
  have := HQ2.out
  have e : idZ ⟨⟨t, r⟩, i⟩ = [t, r, i].flatMap natZ := by simp [idZ, List.append_assoc]
  rw [e]
  exact this
end Go.Proofs.YtalgbcgiiphoaaaGreatDoor
end
section
namespace Go.Proofs.YtalgbcgiiphoaaaGreatDoor
open Go.RowKit Go.Lib Go.Sort
set_option linter.unusedVariables false
attribute [local go_sem ↓] Go.wp_at_zero Go.wp_at_succ
theorem WrQ.obj {B b : Nat} {l : List UInt8} {w w1 : World} {O : Nat} {c : Array Value} {T : TypeId} (h : WrQ B b l w w1) (ho : w.heap[O]? = some (.cells c T (0, 0))) (hb : O ≠ b) (hT : T ≠ 5) : w1.heap[O]? = some (.cells c T (0, 0)) :=
  h.2.2 O _ ho (by intro e; cases e; exact hb rfl) (by intro c' fz e; injection e with _ e _; exact hT e)
theorem bytesv_any (t : ByteArray) (hs : t.size ≤ 1000000) (w : World) :
    Calls Tryz.prog 64 #[.string t] w fun e w' => ∃ P : ByteArray, e = .returned (.string P) ∧ P.data.toList = bytesZ t ∧ P.size ≤ 1000010 ∧ Below w.heap.size w w' := by
  refine (bytes1_any t (by omega) w).mono ?_
  rintro e w' ⟨rfl, hB⟩
  have e1 : (putS t.size ++ t).data.toList = bytesZ t := by
    rw [ByteArray.data_append, Array.toList_append]; rfl
  refine ⟨_, rfl, e1, ?_, hB⟩
  have e2 : (putS t.size ++ t).size = (putS t.size ++ t).data.toList.length := by simp
  have h2 := bytesZ_le (s := t) (by omega)
  rw [e2, e1]; omega
theorem okD.b {x : Gid} (h : okD x) : x.s.t < 9223372036854775808 ∧ x.s.r < 9223372036854775808 ∧ x.i < 9223372036854775808 := ⟨h.1.1.2, h.1.2.2, h.2.2⟩
set_option maxRecDepth 100000 in
set_option maxHeartbeats 16000000 in
theorem wop_0 (B b : Nat) (l : List UInt8) (nt nr ni pt pr pi : Int) (name : ByteArray) (dir : Bool) (dots : List Gst) (at_ ar ai et er ei : Int) (text : ByteArray) (elems : List Gid) (xd : Option Addr) (xdc : Nat) (xe : Option Addr) (xec : Nat) (w : World)
    (hok : okO ⟨0, ⟨⟨nt, nr⟩, ni⟩, ⟨⟨pt, pr⟩, pi⟩, name, dir, dots, ⟨⟨at_, ar⟩, ai⟩, ⟨⟨et, er⟩, ei⟩, text, elems⟩) (hdl : dots.length ≤ 200) (hel : elems.length ≤ 2000) (hnl : name.size ≤ 1000000) (htl : text.size ≤ 1000000) (hl : l.length + 3000000 ≤ 140737488355328) (hW : Wrt w B b l) (hIn : OpIn w (fun k => k < B) ⟨0, ⟨⟨nt, nr⟩, ni⟩, ⟨⟨pt, pr⟩, pi⟩, name, dir, dots, ⟨⟨at_, ar⟩, ai⟩, ⟨⟨et, er⟩, ei⟩, text, elems⟩ ⟨xd, xdc, xe, xec⟩) :
    Calls Tryz.prog 62 #[.pointer (some ⟨b, 0, none⟩), .agg #[.int .i64 0, .int .i64 nt, .int .i64 nr, .int .i64 ni, .int .i64 pt, .int .i64 pr, .int .i64 pi, .string name, .bool dir, .slice xd dots.length xdc, .int .i64 at_, .int .i64 ar, .int .i64 ai, .int .i64 et, .int .i64 er, .int .i64 ei, .string text, .slice xe elems.length xec]] w fun e w' => e = .returned (.tuple #[]) ∧ WrQ B b (l ++ opZ ⟨0, ⟨⟨nt, nr⟩, ni⟩, ⟨⟨pt, pr⟩, pi⟩, name, dir, dots, ⟨⟨at_, ar⟩, ai⟩, ⟨⟨et, er⟩, ei⟩, text, elems⟩) w w' := by
  obtain ⟨-, -, -, okn, okp, -, okd, oka, oke, -, okel⟩ := hok
  simp only at okn okp okd oka oke okel
  have hpt := hW.pt
  have HIn := Lib.hid hIn
  have HQ0 := Lib.hid ((WrQ.refl hW).alloc (by omega) (.cells #[.int .i64 0, .int .i64 nt, .int .i64 nr, .int .i64 ni, .int .i64 pt, .int .i64 pr, .int .i64 pi, .string name, .bool dir, .slice xd dots.length xdc, .int .i64 at_, .int .i64 ar, .int .i64 ai, .int .i64 et, .int .i64 er, .int .i64 ei, .string text, .slice xe elems.length xec] 70))
  have HA := Lib.hid (heap_alloc_new w (.cells #[.int .i64 0, .int .i64 nt, .int .i64 nr, .int .i64 ni, .int .i64 pt, .int .i64 pr, .int .i64 pi, .string name, .bool dir, .slice xd dots.length xdc, .int .i64 at_, .int .i64 ar, .int .i64 ai, .int .i64 et, .int .i64 er, .int .i64 ei, .string text, .slice xe elems.length xec] 70))
  have HOn := Lib.hid okn.b
  have HOp := Lib.hid okp.b
  have HOd := Lib.hid okd
  have HOa := Lib.hid oka.b
  have HOe := Lib.hid oke.b
  have HOl := Lib.hid okel
  have hz1 := idZ_le okn
  have hz2 := idZ_le okp
  have hz3 := idZ_le oka
  have hz4 := idZ_le oke
  have hbn := bytesZ_le (s := name) (by omega)
  have hbt := bytesZ_le (s := text) (by omega)
  clear hW hIn okn okp okd oka oke okel
  obtain ⟨z1, hz1e⟩ : ∃ z, z = idZ ⟨⟨nt, nr⟩, ni⟩ := ⟨_, rfl⟩
  obtain ⟨z2, hz2e⟩ : ∃ z, z = idZ ⟨⟨pt, pr⟩, pi⟩ := ⟨_, rfl⟩
  obtain ⟨z3, hz3e⟩ : ∃ z, z = idZ ⟨⟨at_, ar⟩, ai⟩ := ⟨_, rfl⟩
  obtain ⟨z4, hz4e⟩ : ∃ z, z = idZ ⟨⟨et, er⟩, ei⟩ := ⟨_, rfl⟩
  rw [← hz1e] at hz1
  rw [← hz2e] at hz2
  rw [← hz3e] at hz3
  rw [← hz4e] at hz4
  have HZ1 := Lib.hid hz1e
  have HZ2 := Lib.hid hz2e
  have HZ3 := Lib.hid hz3e
  have HZ4 := Lib.hid hz4e
  clear hz1e hz2e hz3e hz4e
  go_enter Tryz.func62, Tryz.ntmps62
  have hlk : (natZ 0).length ≤ 10 := natZ_le (by decide)
  go_wp2_with fail
  have HK1 := Lib.hid (HQ0.out.alloc (by have := HQ0.out.1.pt; omega) (.cells #[.int .i64 0] 3))
  refine (wnats_any B b l (w.heap.size + 1) [0] 1 _ (by intro y hy; simp at hy; subst hy; decide) (by simp; omega) (by simp) (by exact HK1.out.1) (by exact heap_alloc_newC _ _ (by simp)) (by have := HQ0.out.1.pt; omega)).mono ?_
  rintro e y1 ⟨rfl, hq⟩
  have HQ1 := Lib.hid (show WrQ B b (l ++ natZ 0) w y1 by have := HK1.out.trans (by exact hq); simpa using this)
  have HA1 := Lib.hid (WrQ.obj hq ((Below.heap_alloc _ _ _ (lt_of_block HA.out)).trans HA.out) (by omega) (by decide))
  clear hq HK1
  have c1_1 : y1.cell? ⟨w.heap.size, 1, none⟩ = some (.int .i64 nt) := by rw [cell_of_row _ _ _ _ _ _ HA1.out]; rfl
  have c2_1 : y1.cell? ⟨w.heap.size, 2, none⟩ = some (.int .i64 nr) := by rw [cell_of_row _ _ _ _ _ _ HA1.out]; rfl
  have c3_1 : y1.cell? ⟨w.heap.size, 3, none⟩ = some (.int .i64 ni) := by rw [cell_of_row _ _ _ _ _ _ HA1.out]; rfl
  go_wp2_with fail
  refine (wid_any B b (l ++ natZ 0) ⟨⟨nt, nr⟩, ni⟩ _ HOn.out (by simp; omega) HQ1.out.1).mono ?_
  rintro e y2 ⟨rfl, hq⟩
  have HQ2 := Lib.hid (show WrQ B b ((l ++ natZ 0) ++ z1) w y2 by have := HQ1.out.trans hq; rw [← HZ1.out] at this; exact this)
  have HA2 := Lib.hid (hq.obj HA1.out (by omega) (by decide))
  clear hq
  have c0_2 : y2.cell? ⟨w.heap.size, 0, none⟩ = some (.int .i64 0) := by rw [cell_of_row _ _ _ _ _ _ HA2.out]; rfl
  have c9_2 : y2.cell? ⟨w.heap.size, 9, none⟩ = some (.slice xd dots.length xdc) := by rw [cell_of_row _ _ _ _ _ _ HA2.out]; rfl
  have c17_2 : y2.cell? ⟨w.heap.size, 17, none⟩ = some (.slice xe elems.length xec) := by rw [cell_of_row _ _ _ _ _ _ HA2.out]; rfl
  have c4_2 : y2.cell? ⟨w.heap.size, 4, none⟩ = some (.int .i64 pt) := by rw [cell_of_row _ _ _ _ _ _ HA2.out]; rfl
  have c5_2 : y2.cell? ⟨w.heap.size, 5, none⟩ = some (.int .i64 pr) := by rw [cell_of_row _ _ _ _ _ _ HA2.out]; rfl
  have c6_2 : y2.cell? ⟨w.heap.size, 6, none⟩ = some (.int .i64 pi) := by rw [cell_of_row _ _ _ _ _ _ HA2.out]; rfl
  go_wp2_with fail
  refine (wid_any B b ((l ++ natZ 0) ++ z1) ⟨⟨pt, pr⟩, pi⟩ _ HOp.out (by simp; omega) HQ2.out.1).mono ?_
  rintro e y3 ⟨rfl, hq⟩
  have HQ3 := Lib.hid (show WrQ B b (((l ++ natZ 0) ++ z1) ++ z2) w y3 by have := HQ2.out.trans hq; rw [← HZ2.out] at this; exact this)
  have HA3 := Lib.hid (hq.obj HA2.out (by omega) (by decide))
  clear hq
  have c7_3 : y3.cell? ⟨w.heap.size, 7, none⟩ = some (.string name) := by rw [cell_of_row _ _ _ _ _ _ HA3.out]; rfl
  have c0_3 : y3.cell? ⟨w.heap.size, 0, none⟩ = some (.int .i64 0) := by rw [cell_of_row _ _ _ _ _ _ HA3.out]; rfl
  have c8_3 : y3.cell? ⟨w.heap.size, 8, none⟩ = some (.bool dir) := by rw [cell_of_row _ _ _ _ _ _ HA3.out]; rfl
  go_upto_region 7 with (fail)
  go_region_with (first
    | (go_at_call 64; refine (bytesv_any name hnl _).mono ?_; rintro e v4 ⟨P, rfl, hP, hPs, hBv⟩; have HP := Lib.hid hP; have HV4 := Lib.hid (HQ3.out.below ⟨hBv.os, hBv.tape, hBv.output, hBv.size, hBv.block⟩); have HVA4 := Lib.hid ((hBv.block w.heap.size (lt_of_block HA3.out)).trans HA3.out); clear hP hBv)
    | (go_at_call 61; refine (wstr_any B b (((l ++ natZ 0) ++ z1) ++ z2) P _ (by exact HV4.out.1) (by simp; omega) (by have := HV4.out.1.pt; omega)).mono ?_; rintro e y4 ⟨rfl, hq⟩; have HQ4 := Lib.hid (show WrQ B b ((((l ++ natZ 0) ++ z1) ++ z2) ++ bytesZ name) w y4 by have := HV4.out.trans (by exact hq); rw [HP.out] at this; exact this); have HA4 := Lib.hid (WrQ.obj hq HVA4.out (by omega) (by decide)); clear hq))
  have c0_4 : y4.cell? ⟨w.heap.size, 0, none⟩ = some (.int .i64 0) := by rw [cell_of_row _ _ _ _ _ _ HA4.out]; rfl
  have c8_4 : y4.cell? ⟨w.heap.size, 8, none⟩ = some (.bool dir) := by rw [cell_of_row _ _ _ _ _ _ HA4.out]; rfl
  cases dir with
  | false =>
    go_wp2_with fail
    have HK5 := Lib.hid (HQ4.out.alloc (by have := HQ4.out.1.pt; omega) (.cells #[.int .i64 0] 3))
    refine (wnats_any B b ((((l ++ natZ 0) ++ z1) ++ z2) ++ bytesZ name) y4.heap.size [0] 1 _ (by intro y hy; simp at hy; subst hy; decide) (by simp; omega) (by simp) (by exact HK5.out.1) (by exact heap_alloc_newC _ _ (by simp)) (by have := HQ4.out.1.pt; omega)).mono ?_
    rintro e y5 ⟨rfl, hq⟩
    have HQ5 := Lib.hid (show WrQ B b (((((l ++ natZ 0) ++ z1) ++ z2) ++ bytesZ name) ++ natZ 0) w y5 by have := HK5.out.trans (by exact hq); simpa using this)
    have HA5 := Lib.hid (WrQ.obj hq ((Below.heap_alloc _ _ _ (lt_of_block HA4.out)).trans HA4.out) (by omega) (by decide))
    clear hq HK5
    go_wp2
    go_end0
    refine ⟨rfl, ?_⟩
    have := HQ5.out
    rw [HZ1.out, HZ2.out] at this
    simpa [opZ, List.append_assoc] using this
  | true =>
    go_wp2_with fail
    have HK5 := Lib.hid (HQ4.out.alloc (by have := HQ4.out.1.pt; omega) (.cells #[.int .i64 1] 3))
    refine (wnats_any B b ((((l ++ natZ 0) ++ z1) ++ z2) ++ bytesZ name) y4.heap.size [1] 1 _ (by intro y hy; simp at hy; subst hy; decide) (by simp; omega) (by simp) (by exact HK5.out.1) (by exact heap_alloc_newC _ _ (by simp)) (by have := HQ4.out.1.pt; omega)).mono ?_
    rintro e y5 ⟨rfl, hq⟩
    have HQ5 := Lib.hid (show WrQ B b (((((l ++ natZ 0) ++ z1) ++ z2) ++ bytesZ name) ++ natZ 1) w y5 by have := HK5.out.trans (by exact hq); simpa using this)
    have HA5 := Lib.hid (WrQ.obj hq ((Below.heap_alloc _ _ _ (lt_of_block HA4.out)).trans HA4.out) (by omega) (by decide))
    clear hq HK5
    go_wp2
    go_end0
    refine ⟨rfl, ?_⟩
    have := HQ5.out
    rw [HZ1.out, HZ2.out] at this
    simpa [opZ, List.append_assoc] using this
set_option maxRecDepth 100000 in
set_option maxHeartbeats 16000000 in
theorem wop_1 (B b : Nat) (l : List UInt8) (nt nr ni pt pr pi : Int) (name : ByteArray) (dir : Bool) (dots : List Gst) (at_ ar ai et er ei : Int) (text : ByteArray) (elems : List Gid) (xd : Option Addr) (xdc : Nat) (xe : Option Addr) (xec : Nat) (w : World)
    (hok : okO ⟨1, ⟨⟨nt, nr⟩, ni⟩, ⟨⟨pt, pr⟩, pi⟩, name, dir, dots, ⟨⟨at_, ar⟩, ai⟩, ⟨⟨et, er⟩, ei⟩, text, elems⟩) (hdl : dots.length ≤ 200) (hel : elems.length ≤ 2000) (hnl : name.size ≤ 1000000) (htl : text.size ≤ 1000000) (hl : l.length + 3000000 ≤ 140737488355328) (hW : Wrt w B b l) (hIn : OpIn w (fun k => k < B) ⟨1, ⟨⟨nt, nr⟩, ni⟩, ⟨⟨pt, pr⟩, pi⟩, name, dir, dots, ⟨⟨at_, ar⟩, ai⟩, ⟨⟨et, er⟩, ei⟩, text, elems⟩ ⟨xd, xdc, xe, xec⟩) :
    Calls Tryz.prog 62 #[.pointer (some ⟨b, 0, none⟩), .agg #[.int .i64 1, .int .i64 nt, .int .i64 nr, .int .i64 ni, .int .i64 pt, .int .i64 pr, .int .i64 pi, .string name, .bool dir, .slice xd dots.length xdc, .int .i64 at_, .int .i64 ar, .int .i64 ai, .int .i64 et, .int .i64 er, .int .i64 ei, .string text, .slice xe elems.length xec]] w fun e w' => e = .returned (.tuple #[]) ∧ WrQ B b (l ++ opZ ⟨1, ⟨⟨nt, nr⟩, ni⟩, ⟨⟨pt, pr⟩, pi⟩, name, dir, dots, ⟨⟨at_, ar⟩, ai⟩, ⟨⟨et, er⟩, ei⟩, text, elems⟩) w w' := by
  obtain ⟨-, -, -, okn, okp, -, okd, oka, oke, -, okel⟩ := hok
  simp only at okn okp okd oka oke okel
  have hpt := hW.pt
  have HIn := Lib.hid hIn
  have HQ0 := Lib.hid ((WrQ.refl hW).alloc (by omega) (.cells #[.int .i64 1, .int .i64 nt, .int .i64 nr, .int .i64 ni, .int .i64 pt, .int .i64 pr, .int .i64 pi, .string name, .bool dir, .slice xd dots.length xdc, .int .i64 at_, .int .i64 ar, .int .i64 ai, .int .i64 et, .int .i64 er, .int .i64 ei, .string text, .slice xe elems.length xec] 70))
  have HA := Lib.hid (heap_alloc_new w (.cells #[.int .i64 1, .int .i64 nt, .int .i64 nr, .int .i64 ni, .int .i64 pt, .int .i64 pr, .int .i64 pi, .string name, .bool dir, .slice xd dots.length xdc, .int .i64 at_, .int .i64 ar, .int .i64 ai, .int .i64 et, .int .i64 er, .int .i64 ei, .string text, .slice xe elems.length xec] 70))
  have HOn := Lib.hid okn.b
  have HOp := Lib.hid okp.b
  have HOd := Lib.hid okd
  have HOa := Lib.hid oka.b
  have HOe := Lib.hid oke.b
  have HOl := Lib.hid okel
  have hz1 := idZ_le okn
  have hz2 := idZ_le okp
  have hz3 := idZ_le oka
  have hz4 := idZ_le oke
  have hbn := bytesZ_le (s := name) (by omega)
  have hbt := bytesZ_le (s := text) (by omega)
  clear hW hIn okn okp okd oka oke okel
  obtain ⟨z1, hz1e⟩ : ∃ z, z = idZ ⟨⟨nt, nr⟩, ni⟩ := ⟨_, rfl⟩
  obtain ⟨z2, hz2e⟩ : ∃ z, z = idZ ⟨⟨pt, pr⟩, pi⟩ := ⟨_, rfl⟩
  obtain ⟨z3, hz3e⟩ : ∃ z, z = idZ ⟨⟨at_, ar⟩, ai⟩ := ⟨_, rfl⟩
  obtain ⟨z4, hz4e⟩ : ∃ z, z = idZ ⟨⟨et, er⟩, ei⟩ := ⟨_, rfl⟩
  rw [← hz1e] at hz1
  rw [← hz2e] at hz2
  rw [← hz3e] at hz3
  rw [← hz4e] at hz4
  have HZ1 := Lib.hid hz1e
  have HZ2 := Lib.hid hz2e
  have HZ3 := Lib.hid hz3e
  have HZ4 := Lib.hid hz4e
  clear hz1e hz2e hz3e hz4e
  go_enter Tryz.func62, Tryz.ntmps62
  have hlk : (natZ 1).length ≤ 10 := natZ_le (by decide)
  go_wp2_with fail
  have HK1 := Lib.hid (HQ0.out.alloc (by have := HQ0.out.1.pt; omega) (.cells #[.int .i64 1] 3))
  refine (wnats_any B b l (w.heap.size + 1) [1] 1 _ (by intro y hy; simp at hy; subst hy; decide) (by simp; omega) (by simp) (by exact HK1.out.1) (by exact heap_alloc_newC _ _ (by simp)) (by have := HQ0.out.1.pt; omega)).mono ?_
  rintro e y1 ⟨rfl, hq⟩
  have HQ1 := Lib.hid (show WrQ B b (l ++ natZ 1) w y1 by have := HK1.out.trans (by exact hq); simpa using this)
  have HA1 := Lib.hid (WrQ.obj hq ((Below.heap_alloc _ _ _ (lt_of_block HA.out)).trans HA.out) (by omega) (by decide))
  clear hq HK1
  have c1_1 : y1.cell? ⟨w.heap.size, 1, none⟩ = some (.int .i64 nt) := by rw [cell_of_row _ _ _ _ _ _ HA1.out]; rfl
  have c2_1 : y1.cell? ⟨w.heap.size, 2, none⟩ = some (.int .i64 nr) := by rw [cell_of_row _ _ _ _ _ _ HA1.out]; rfl
  have c3_1 : y1.cell? ⟨w.heap.size, 3, none⟩ = some (.int .i64 ni) := by rw [cell_of_row _ _ _ _ _ _ HA1.out]; rfl
  go_wp2_with fail
  refine (wid_any B b (l ++ natZ 1) ⟨⟨nt, nr⟩, ni⟩ _ HOn.out (by simp; omega) HQ1.out.1).mono ?_
  rintro e y2 ⟨rfl, hq⟩
  have HQ2 := Lib.hid (show WrQ B b ((l ++ natZ 1) ++ z1) w y2 by have := HQ1.out.trans hq; rw [← HZ1.out] at this; exact this)
  have HA2 := Lib.hid (hq.obj HA1.out (by omega) (by decide))
  clear hq
  have c0_2 : y2.cell? ⟨w.heap.size, 0, none⟩ = some (.int .i64 1) := by rw [cell_of_row _ _ _ _ _ _ HA2.out]; rfl
  have c9_2 : y2.cell? ⟨w.heap.size, 9, none⟩ = some (.slice xd dots.length xdc) := by rw [cell_of_row _ _ _ _ _ _ HA2.out]; rfl
  have c17_2 : y2.cell? ⟨w.heap.size, 17, none⟩ = some (.slice xe elems.length xec) := by rw [cell_of_row _ _ _ _ _ _ HA2.out]; rfl
  have c4_2 : y2.cell? ⟨w.heap.size, 4, none⟩ = some (.int .i64 pt) := by rw [cell_of_row _ _ _ _ _ _ HA2.out]; rfl
  have c5_2 : y2.cell? ⟨w.heap.size, 5, none⟩ = some (.int .i64 pr) := by rw [cell_of_row _ _ _ _ _ _ HA2.out]; rfl
  have c6_2 : y2.cell? ⟨w.heap.size, 6, none⟩ = some (.int .i64 pi) := by rw [cell_of_row _ _ _ _ _ _ HA2.out]; rfl
  go_wp2_with fail
  refine (wid_any B b ((l ++ natZ 1) ++ z1) ⟨⟨pt, pr⟩, pi⟩ _ HOp.out (by simp; omega) HQ2.out.1).mono ?_
  rintro e y3 ⟨rfl, hq⟩
  have HQ3 := Lib.hid (show WrQ B b (((l ++ natZ 1) ++ z1) ++ z2) w y3 by have := HQ2.out.trans hq; rw [← HZ2.out] at this; exact this)
  have HA3 := Lib.hid (hq.obj HA2.out (by omega) (by decide))
  clear hq
  have c7_3 : y3.cell? ⟨w.heap.size, 7, none⟩ = some (.string name) := by rw [cell_of_row _ _ _ _ _ _ HA3.out]; rfl
  have c0_3 : y3.cell? ⟨w.heap.size, 0, none⟩ = some (.int .i64 1) := by rw [cell_of_row _ _ _ _ _ _ HA3.out]; rfl
  have c8_3 : y3.cell? ⟨w.heap.size, 8, none⟩ = some (.bool dir) := by rw [cell_of_row _ _ _ _ _ _ HA3.out]; rfl
  go_upto_region 7 with (fail)
  go_region_with (first
    | (go_at_call 64; refine (bytesv_any name hnl _).mono ?_; rintro e v4 ⟨P, rfl, hP, hPs, hBv⟩; have HP := Lib.hid hP; have HV4 := Lib.hid (HQ3.out.below ⟨hBv.os, hBv.tape, hBv.output, hBv.size, hBv.block⟩); have HVA4 := Lib.hid ((hBv.block w.heap.size (lt_of_block HA3.out)).trans HA3.out); clear hP hBv)
    | (go_at_call 61; refine (wstr_any B b (((l ++ natZ 1) ++ z1) ++ z2) P _ (by exact HV4.out.1) (by simp; omega) (by have := HV4.out.1.pt; omega)).mono ?_; rintro e y4 ⟨rfl, hq⟩; have HQ4 := Lib.hid (show WrQ B b ((((l ++ natZ 1) ++ z1) ++ z2) ++ bytesZ name) w y4 by have := HV4.out.trans (by exact hq); rw [HP.out] at this; exact this); have HA4 := Lib.hid (WrQ.obj hq HVA4.out (by omega) (by decide)); clear hq))
  have c0_4 : y4.cell? ⟨w.heap.size, 0, none⟩ = some (.int .i64 1) := by rw [cell_of_row _ _ _ _ _ _ HA4.out]; rfl
  have c8_4 : y4.cell? ⟨w.heap.size, 8, none⟩ = some (.bool dir) := by rw [cell_of_row _ _ _ _ _ _ HA4.out]; rfl
  go_wp2
  go_end0
  refine ⟨rfl, ?_⟩
  have := HQ4.out
  rw [HZ1.out, HZ2.out] at this
  simpa [opZ, List.append_assoc] using this
set_option maxRecDepth 100000 in
set_option maxHeartbeats 16000000 in
theorem wop_2 (B b : Nat) (l : List UInt8) (nt nr ni pt pr pi : Int) (name : ByteArray) (dir : Bool) (dots : List Gst) (at_ ar ai et er ei : Int) (text : ByteArray) (elems : List Gid) (xd : Option Addr) (xdc : Nat) (xe : Option Addr) (xec : Nat) (w : World)
    (hok : okO ⟨2, ⟨⟨nt, nr⟩, ni⟩, ⟨⟨pt, pr⟩, pi⟩, name, dir, dots, ⟨⟨at_, ar⟩, ai⟩, ⟨⟨et, er⟩, ei⟩, text, elems⟩) (hdl : dots.length ≤ 200) (hel : elems.length ≤ 2000) (hnl : name.size ≤ 1000000) (htl : text.size ≤ 1000000) (hl : l.length + 3000000 ≤ 140737488355328) (hW : Wrt w B b l) (hIn : OpIn w (fun k => k < B) ⟨2, ⟨⟨nt, nr⟩, ni⟩, ⟨⟨pt, pr⟩, pi⟩, name, dir, dots, ⟨⟨at_, ar⟩, ai⟩, ⟨⟨et, er⟩, ei⟩, text, elems⟩ ⟨xd, xdc, xe, xec⟩) :
    Calls Tryz.prog 62 #[.pointer (some ⟨b, 0, none⟩), .agg #[.int .i64 2, .int .i64 nt, .int .i64 nr, .int .i64 ni, .int .i64 pt, .int .i64 pr, .int .i64 pi, .string name, .bool dir, .slice xd dots.length xdc, .int .i64 at_, .int .i64 ar, .int .i64 ai, .int .i64 et, .int .i64 er, .int .i64 ei, .string text, .slice xe elems.length xec]] w fun e w' => e = .returned (.tuple #[]) ∧ WrQ B b (l ++ opZ ⟨2, ⟨⟨nt, nr⟩, ni⟩, ⟨⟨pt, pr⟩, pi⟩, name, dir, dots, ⟨⟨at_, ar⟩, ai⟩, ⟨⟨et, er⟩, ei⟩, text, elems⟩) w w' := by
  obtain ⟨-, -, -, okn, okp, -, okd, oka, oke, -, okel⟩ := hok
  simp only at okn okp okd oka oke okel
  have hpt := hW.pt
  have HIn := Lib.hid hIn
  have HQ0 := Lib.hid ((WrQ.refl hW).alloc (by omega) (.cells #[.int .i64 2, .int .i64 nt, .int .i64 nr, .int .i64 ni, .int .i64 pt, .int .i64 pr, .int .i64 pi, .string name, .bool dir, .slice xd dots.length xdc, .int .i64 at_, .int .i64 ar, .int .i64 ai, .int .i64 et, .int .i64 er, .int .i64 ei, .string text, .slice xe elems.length xec] 70))
  have HA := Lib.hid (heap_alloc_new w (.cells #[.int .i64 2, .int .i64 nt, .int .i64 nr, .int .i64 ni, .int .i64 pt, .int .i64 pr, .int .i64 pi, .string name, .bool dir, .slice xd dots.length xdc, .int .i64 at_, .int .i64 ar, .int .i64 ai, .int .i64 et, .int .i64 er, .int .i64 ei, .string text, .slice xe elems.length xec] 70))
  have HOn := Lib.hid okn.b
  have HOp := Lib.hid okp.b
  have HOd := Lib.hid okd
  have HOa := Lib.hid oka.b
  have HOe := Lib.hid oke.b
  have HOl := Lib.hid okel
  have hz1 := idZ_le okn
  have hz2 := idZ_le okp
  have hz3 := idZ_le oka
  have hz4 := idZ_le oke
  have hbn := bytesZ_le (s := name) (by omega)
  have hbt := bytesZ_le (s := text) (by omega)
  clear hW hIn okn okp okd oka oke okel
  obtain ⟨z1, hz1e⟩ : ∃ z, z = idZ ⟨⟨nt, nr⟩, ni⟩ := ⟨_, rfl⟩
  obtain ⟨z2, hz2e⟩ : ∃ z, z = idZ ⟨⟨pt, pr⟩, pi⟩ := ⟨_, rfl⟩
  obtain ⟨z3, hz3e⟩ : ∃ z, z = idZ ⟨⟨at_, ar⟩, ai⟩ := ⟨_, rfl⟩
  obtain ⟨z4, hz4e⟩ : ∃ z, z = idZ ⟨⟨et, er⟩, ei⟩ := ⟨_, rfl⟩
  rw [← hz1e] at hz1
  rw [← hz2e] at hz2
  rw [← hz3e] at hz3
  rw [← hz4e] at hz4
  have HZ1 := Lib.hid hz1e
  have HZ2 := Lib.hid hz2e
  have HZ3 := Lib.hid hz3e
  have HZ4 := Lib.hid hz4e
  clear hz1e hz2e hz3e hz4e
  go_enter Tryz.func62, Tryz.ntmps62
  have hlk : (natZ 2).length ≤ 10 := natZ_le (by decide)
  go_wp2_with fail
  have HK1 := Lib.hid (HQ0.out.alloc (by have := HQ0.out.1.pt; omega) (.cells #[.int .i64 2] 3))
  refine (wnats_any B b l (w.heap.size + 1) [2] 1 _ (by intro y hy; simp at hy; subst hy; decide) (by simp; omega) (by simp) (by exact HK1.out.1) (by exact heap_alloc_newC _ _ (by simp)) (by have := HQ0.out.1.pt; omega)).mono ?_
  rintro e y1 ⟨rfl, hq⟩
  have HQ1 := Lib.hid (show WrQ B b (l ++ natZ 2) w y1 by have := HK1.out.trans (by exact hq); simpa using this)
  have HA1 := Lib.hid (WrQ.obj hq ((Below.heap_alloc _ _ _ (lt_of_block HA.out)).trans HA.out) (by omega) (by decide))
  clear hq HK1
  have c1_1 : y1.cell? ⟨w.heap.size, 1, none⟩ = some (.int .i64 nt) := by rw [cell_of_row _ _ _ _ _ _ HA1.out]; rfl
  have c2_1 : y1.cell? ⟨w.heap.size, 2, none⟩ = some (.int .i64 nr) := by rw [cell_of_row _ _ _ _ _ _ HA1.out]; rfl
  have c3_1 : y1.cell? ⟨w.heap.size, 3, none⟩ = some (.int .i64 ni) := by rw [cell_of_row _ _ _ _ _ _ HA1.out]; rfl
  go_wp2_with fail
  refine (wid_any B b (l ++ natZ 2) ⟨⟨nt, nr⟩, ni⟩ _ HOn.out (by simp; omega) HQ1.out.1).mono ?_
  rintro e y2 ⟨rfl, hq⟩
  have HQ2 := Lib.hid (show WrQ B b ((l ++ natZ 2) ++ z1) w y2 by have := HQ1.out.trans hq; rw [← HZ1.out] at this; exact this)
  have HA2 := Lib.hid (hq.obj HA1.out (by omega) (by decide))
  clear hq
  have c0_2 : y2.cell? ⟨w.heap.size, 0, none⟩ = some (.int .i64 2) := by rw [cell_of_row _ _ _ _ _ _ HA2.out]; rfl
  have c9_2 : y2.cell? ⟨w.heap.size, 9, none⟩ = some (.slice xd dots.length xdc) := by rw [cell_of_row _ _ _ _ _ _ HA2.out]; rfl
  have c17_2 : y2.cell? ⟨w.heap.size, 17, none⟩ = some (.slice xe elems.length xec) := by rw [cell_of_row _ _ _ _ _ _ HA2.out]; rfl
  go_wp2_with fail
  have HK3 := Lib.hid (HQ2.out.alloc (by have := HQ2.out.1.pt; omega) (.cells #[.int .i64 (dots.length : Int)] 3))
  refine (wnats_any B b ((l ++ natZ 2) ++ z1) y2.heap.size [(dots.length : Int)] 1 _ (by intro y hy; simp at hy; subst hy; omega) (by simp; omega) (by simp) (by exact HK3.out.1) (by exact heap_alloc_newC _ _ (by simp)) (by have := HQ2.out.1.pt; omega)).mono ?_
  rintro e y3 ⟨rfl, hq⟩
  have HQ3 := Lib.hid (show WrQ B b (((l ++ natZ 2) ++ z1) ++ natZ dots.length) w y3 by have := HK3.out.trans (by exact hq); simpa using this)
  have HA3 := Lib.hid (WrQ.obj hq ((Below.heap_alloc _ _ _ (lt_of_block HA2.out)).trans HA2.out) (by omega) (by decide))
  clear hq HK3
  have c9_3 : y3.cell? ⟨w.heap.size, 9, none⟩ = some (.slice xd dots.length xdc) := by rw [cell_of_row _ _ _ _ _ _ HA3.out]; rfl
  have c17_3 : y3.cell? ⟨w.heap.size, 17, none⟩ = some (.slice xe elems.length xec) := by rw [cell_of_row _ _ _ _ _ _ HA3.out]; rfl
  have c0_3 : y3.cell? ⟨w.heap.size, 0, none⟩ = some (.int .i64 2) := by rw [cell_of_row _ _ _ _ _ _ HA3.out]; rfl
  have hzk : (natZ (dots.length : Int)).length ≤ 10 := natZ_le (by omega)
  obtain ⟨n, hn⟩ : ∃ n, n = dots.length := ⟨_, rfl⟩
  obtain ⟨P, hP⟩ : ∃ P, P = (((l ++ natZ 2) ++ z1) ++ natZ dots.length) := ⟨_, rfl⟩
  have hPl : P.length ≤ l.length + 50 := by rw [hP]; simp; omega
  have HP := Lib.hid hP
  have HN := Lib.hid hn
  clear hP
  rw [← hn] at hdl c9_3
  clear hn hzk hlk
  have HQS := Lib.hid (show WrQ B b P w y3 by rw [HP.out]; exact HQ3.out)
  have hN : (dots.length : Int) = (n : Int) := by rw [HN.out]
  try rw [hN]
  clear hN
  go_upto_region 16 with (fail)
  go_loopw [54] (fun i wr => ∃ j : Nat, j ≤ n ∧ i = .int .i64 j ∧ Hid (WrQ B b (P ++ (dots.take j).flatMap stZ) w wr)) (fun i _ => n - (RowKit.intOf i).toNat)
  case atStart => exact ⟨0, by omega, rfl, Lib.hid (by rw [List.take_zero, List.flatMap_nil, List.append_nil]; exact HQS.out)⟩
  case round =>
    obtain ⟨j, hj, rfl, HR⟩ := hrel
    by_cases hlt : j < n
    · have hjl : j < dots.length := by have := HN.out; omega
      obtain ⟨ab, ao, rfl, -, hab, d0, d1⟩ := StsS.at_ (RowG.agr HIn.out.dots ⟨HR.out.2.1.size, fun k hk _ => HR.out.2.1.block k hk⟩) (k := j) hjl
      obtain ⟨x, hx⟩ : ∃ x, x = dots.getD j .zero := ⟨_, rfl⟩
      simp only [← hx] at d0 d1
      have hxm : x ∈ dots := by rw [hx, List.getD_eq_getElem?_getD, List.getElem?_eq_getElem hjl]; exact List.getElem_mem hjl
      have hxo := HOd.out.2 x hxm
      have HT := Lib.hid (show (P ++ (dots.take j).flatMap stZ) ++ stZ x = P ++ (dots.take (j + 1)).flatMap stZ by rw [List.take_succ_eq_append_getElem hjl, List.flatMap_append, List.flatMap_singleton, hx, List.getD_eq_getElem?_getD, List.getElem?_eq_getElem hjl, List.append_assoc]; rfl)
      have hpl : (P ++ (dots.take j).flatMap stZ).length ≤ P.length + 20 * n := by
        have h1 := flat_le (z := stZ) (c := 20) (l := dots.take j) fun y hy => stZ_le (HOd.out.2 y (List.mem_of_mem_take hy))
        have h2 : (dots.take j).length ≤ n := by have := List.length_take_le j dots; omega
        have h3 : 20 * (dots.take j).length ≤ 20 * n := Nat.mul_le_mul_left _ h2
        rw [List.length_append]; omega
      have hxb : x.t < 9223372036854775808 ∧ x.r < 9223372036854775808 := ⟨hxo.1.2, hxo.2.2⟩
      obtain ⟨xt, xr⟩ := x
      simp only at d0 d1 hxb
      obtain ⟨P2, hP2⟩ : ∃ P2, P2 = P ++ (dots.take j).flatMap stZ := ⟨_, rfl⟩
      rw [← hP2] at hpl
      have HP2 := Lib.hid hP2
      have HB2 := Lib.hid hxb
      clear hP2 hx hxm hxo hjl hxb
      have HR2 := Lib.hid (show WrQ B b P2 w wr by rw [HP2.out]; exact HR.out)
      have HK := Lib.hid ((HR2.out.alloc (by have := HR2.out.1.pt; omega) (.cells #[.int .i64 xt, .int .i64 xr] 37)).alloc (by have := HR2.out.1.pt; simp; omega) (.cells (intsA [xt, xr]) 3))
      go_wp2_with fail
      refine (wnats_any B b P2 (wr.heap.size + 1) [xt, xr] 2 _ (by have := HB2.out; simp only [List.mem_cons, List.not_mem_nil, or_false]; rintro x (rfl | rfl); exact this.1; exact this.2) (by simp; omega) (by simp) HK.out.1 (heap_alloc_newC _ _ (by simp)) (by have := HR2.out.1.pt; omega)).mono ?_
      rintro e w3 ⟨rfl, hq⟩
      have HQ9 := Lib.hid (show WrQ B b (P2 ++ stZ ⟨xt, xr⟩) w w3 by have := HK.out.trans hq; simpa [stZ] using this)
      clear hq
      go_wp2
      go_roundw
      case rel => exact ⟨j + 1, by omega, by go_num, Lib.hid (by rw [← HT.out, ← HP2.out]; exact HQ9.out)⟩
      case measure => simp [RowKit.intOf]; omega
    · obtain rfl : j = n := by omega
      go_wp2
      go_end0
      refine ⟨rfl, ?_⟩
      have := HR.out
      rw [HN.out, List.take_length, HP.out, HZ1.out] at this
      simpa [opZ, List.append_assoc] using this
set_option maxRecDepth 100000 in
set_option maxHeartbeats 16000000 in
theorem wop_3 (B b : Nat) (l : List UInt8) (nt nr ni pt pr pi : Int) (name : ByteArray) (dir : Bool) (dots : List Gst) (at_ ar ai et er ei : Int) (text : ByteArray) (elems : List Gid) (xd : Option Addr) (xdc : Nat) (xe : Option Addr) (xec : Nat) (w : World)
    (hok : okO ⟨3, ⟨⟨nt, nr⟩, ni⟩, ⟨⟨pt, pr⟩, pi⟩, name, dir, dots, ⟨⟨at_, ar⟩, ai⟩, ⟨⟨et, er⟩, ei⟩, text, elems⟩) (hdl : dots.length ≤ 200) (hel : elems.length ≤ 2000) (hnl : name.size ≤ 1000000) (htl : text.size ≤ 1000000) (hl : l.length + 3000000 ≤ 140737488355328) (hW : Wrt w B b l) (hIn : OpIn w (fun k => k < B) ⟨3, ⟨⟨nt, nr⟩, ni⟩, ⟨⟨pt, pr⟩, pi⟩, name, dir, dots, ⟨⟨at_, ar⟩, ai⟩, ⟨⟨et, er⟩, ei⟩, text, elems⟩ ⟨xd, xdc, xe, xec⟩) :
    Calls Tryz.prog 62 #[.pointer (some ⟨b, 0, none⟩), .agg #[.int .i64 3, .int .i64 nt, .int .i64 nr, .int .i64 ni, .int .i64 pt, .int .i64 pr, .int .i64 pi, .string name, .bool dir, .slice xd dots.length xdc, .int .i64 at_, .int .i64 ar, .int .i64 ai, .int .i64 et, .int .i64 er, .int .i64 ei, .string text, .slice xe elems.length xec]] w fun e w' => e = .returned (.tuple #[]) ∧ WrQ B b (l ++ opZ ⟨3, ⟨⟨nt, nr⟩, ni⟩, ⟨⟨pt, pr⟩, pi⟩, name, dir, dots, ⟨⟨at_, ar⟩, ai⟩, ⟨⟨et, er⟩, ei⟩, text, elems⟩) w w' := by
  obtain ⟨-, -, -, okn, okp, -, okd, oka, oke, -, okel⟩ := hok
  simp only at okn okp okd oka oke okel
  have hpt := hW.pt
  have HIn := Lib.hid hIn
  have HQ0 := Lib.hid ((WrQ.refl hW).alloc (by omega) (.cells #[.int .i64 3, .int .i64 nt, .int .i64 nr, .int .i64 ni, .int .i64 pt, .int .i64 pr, .int .i64 pi, .string name, .bool dir, .slice xd dots.length xdc, .int .i64 at_, .int .i64 ar, .int .i64 ai, .int .i64 et, .int .i64 er, .int .i64 ei, .string text, .slice xe elems.length xec] 70))
  have HA := Lib.hid (heap_alloc_new w (.cells #[.int .i64 3, .int .i64 nt, .int .i64 nr, .int .i64 ni, .int .i64 pt, .int .i64 pr, .int .i64 pi, .string name, .bool dir, .slice xd dots.length xdc, .int .i64 at_, .int .i64 ar, .int .i64 ai, .int .i64 et, .int .i64 er, .int .i64 ei, .string text, .slice xe elems.length xec] 70))
  have HOn := Lib.hid okn.b
  have HOp := Lib.hid okp.b
  have HOd := Lib.hid okd
  have HOa := Lib.hid oka.b
  have HOe := Lib.hid oke.b
  have HOl := Lib.hid okel
  have hz1 := idZ_le okn
  have hz2 := idZ_le okp
  have hz3 := idZ_le oka
  have hz4 := idZ_le oke
  have hbn := bytesZ_le (s := name) (by omega)
  have hbt := bytesZ_le (s := text) (by omega)
  clear hW hIn okn okp okd oka oke okel
  obtain ⟨z1, hz1e⟩ : ∃ z, z = idZ ⟨⟨nt, nr⟩, ni⟩ := ⟨_, rfl⟩
  obtain ⟨z2, hz2e⟩ : ∃ z, z = idZ ⟨⟨pt, pr⟩, pi⟩ := ⟨_, rfl⟩
  obtain ⟨z3, hz3e⟩ : ∃ z, z = idZ ⟨⟨at_, ar⟩, ai⟩ := ⟨_, rfl⟩
  obtain ⟨z4, hz4e⟩ : ∃ z, z = idZ ⟨⟨et, er⟩, ei⟩ := ⟨_, rfl⟩
  rw [← hz1e] at hz1
  rw [← hz2e] at hz2
  rw [← hz3e] at hz3
  rw [← hz4e] at hz4
  have HZ1 := Lib.hid hz1e
  have HZ2 := Lib.hid hz2e
  have HZ3 := Lib.hid hz3e
  have HZ4 := Lib.hid hz4e
  clear hz1e hz2e hz3e hz4e
  go_enter Tryz.func62, Tryz.ntmps62
  have hlk : (natZ 3).length ≤ 10 := natZ_le (by decide)
  go_wp2_with fail
  have HK1 := Lib.hid (HQ0.out.alloc (by have := HQ0.out.1.pt; omega) (.cells #[.int .i64 3] 3))
  refine (wnats_any B b l (w.heap.size + 1) [3] 1 _ (by intro y hy; simp at hy; subst hy; decide) (by simp; omega) (by simp) (by exact HK1.out.1) (by exact heap_alloc_newC _ _ (by simp)) (by have := HQ0.out.1.pt; omega)).mono ?_
  rintro e y1 ⟨rfl, hq⟩
  have HQ1 := Lib.hid (show WrQ B b (l ++ natZ 3) w y1 by have := HK1.out.trans (by exact hq); simpa using this)
  have HA1 := Lib.hid (WrQ.obj hq ((Below.heap_alloc _ _ _ (lt_of_block HA.out)).trans HA.out) (by omega) (by decide))
  clear hq HK1
  have c1_1 : y1.cell? ⟨w.heap.size, 1, none⟩ = some (.int .i64 nt) := by rw [cell_of_row _ _ _ _ _ _ HA1.out]; rfl
  have c2_1 : y1.cell? ⟨w.heap.size, 2, none⟩ = some (.int .i64 nr) := by rw [cell_of_row _ _ _ _ _ _ HA1.out]; rfl
  have c3_1 : y1.cell? ⟨w.heap.size, 3, none⟩ = some (.int .i64 ni) := by rw [cell_of_row _ _ _ _ _ _ HA1.out]; rfl
  go_wp2_with fail
  refine (wid_any B b (l ++ natZ 3) ⟨⟨nt, nr⟩, ni⟩ _ HOn.out (by simp; omega) HQ1.out.1).mono ?_
  rintro e y2 ⟨rfl, hq⟩
  have HQ2 := Lib.hid (show WrQ B b ((l ++ natZ 3) ++ z1) w y2 by have := HQ1.out.trans hq; rw [← HZ1.out] at this; exact this)
  have HA2 := Lib.hid (hq.obj HA1.out (by omega) (by decide))
  clear hq
  have c0_2 : y2.cell? ⟨w.heap.size, 0, none⟩ = some (.int .i64 3) := by rw [cell_of_row _ _ _ _ _ _ HA2.out]; rfl
  have c9_2 : y2.cell? ⟨w.heap.size, 9, none⟩ = some (.slice xd dots.length xdc) := by rw [cell_of_row _ _ _ _ _ _ HA2.out]; rfl
  have c17_2 : y2.cell? ⟨w.heap.size, 17, none⟩ = some (.slice xe elems.length xec) := by rw [cell_of_row _ _ _ _ _ _ HA2.out]; rfl
  have c10_2 : y2.cell? ⟨w.heap.size, 10, none⟩ = some (.int .i64 at_) := by rw [cell_of_row _ _ _ _ _ _ HA2.out]; rfl
  have c11_2 : y2.cell? ⟨w.heap.size, 11, none⟩ = some (.int .i64 ar) := by rw [cell_of_row _ _ _ _ _ _ HA2.out]; rfl
  have c12_2 : y2.cell? ⟨w.heap.size, 12, none⟩ = some (.int .i64 ai) := by rw [cell_of_row _ _ _ _ _ _ HA2.out]; rfl
  go_wp2_with fail
  refine (wid_any B b ((l ++ natZ 3) ++ z1) ⟨⟨at_, ar⟩, ai⟩ _ HOa.out (by simp; omega) HQ2.out.1).mono ?_
  rintro e y3 ⟨rfl, hq⟩
  have HQ3 := Lib.hid (show WrQ B b (((l ++ natZ 3) ++ z1) ++ z3) w y3 by have := HQ2.out.trans hq; rw [← HZ3.out] at this; exact this)
  have HA3 := Lib.hid (hq.obj HA2.out (by omega) (by decide))
  clear hq
  have c13_3 : y3.cell? ⟨w.heap.size, 13, none⟩ = some (.int .i64 et) := by rw [cell_of_row _ _ _ _ _ _ HA3.out]; rfl
  have c14_3 : y3.cell? ⟨w.heap.size, 14, none⟩ = some (.int .i64 er) := by rw [cell_of_row _ _ _ _ _ _ HA3.out]; rfl
  have c15_3 : y3.cell? ⟨w.heap.size, 15, none⟩ = some (.int .i64 ei) := by rw [cell_of_row _ _ _ _ _ _ HA3.out]; rfl
  go_wp2_with fail
  refine (wid_any B b (((l ++ natZ 3) ++ z1) ++ z3) ⟨⟨et, er⟩, ei⟩ _ HOe.out (by simp; omega) HQ3.out.1).mono ?_
  rintro e y4 ⟨rfl, hq⟩
  have HQ4 := Lib.hid (show WrQ B b ((((l ++ natZ 3) ++ z1) ++ z3) ++ z4) w y4 by have := HQ3.out.trans hq; rw [← HZ4.out] at this; exact this)
  have HA4 := Lib.hid (hq.obj HA3.out (by omega) (by decide))
  clear hq
  have c16_4 : y4.cell? ⟨w.heap.size, 16, none⟩ = some (.string text) := by rw [cell_of_row _ _ _ _ _ _ HA4.out]; rfl
  go_upto_region 23 with (fail)
  go_region_with (first
    | (go_at_call 64; refine (bytesv_any text htl _).mono ?_; rintro e v5 ⟨P, rfl, hP, hPs, hBv⟩; have HP := Lib.hid hP; have HV5 := Lib.hid (HQ4.out.below ⟨hBv.os, hBv.tape, hBv.output, hBv.size, hBv.block⟩); have HVA5 := Lib.hid ((hBv.block w.heap.size (lt_of_block HA4.out)).trans HA4.out); clear hP hBv)
    | (go_at_call 61; refine (wstr_any B b ((((l ++ natZ 3) ++ z1) ++ z3) ++ z4) P _ (by exact HV5.out.1) (by simp; omega) (by have := HV5.out.1.pt; omega)).mono ?_; rintro e y5 ⟨rfl, hq⟩; have HQ5 := Lib.hid (show WrQ B b (((((l ++ natZ 3) ++ z1) ++ z3) ++ z4) ++ bytesZ text) w y5 by have := HV5.out.trans (by exact hq); rw [HP.out] at this; exact this); have HA5 := Lib.hid (WrQ.obj hq HVA5.out (by omega) (by decide)); clear hq))
  have c0_5 : y5.cell? ⟨w.heap.size, 0, none⟩ = some (.int .i64 3) := by rw [cell_of_row _ _ _ _ _ _ HA5.out]; rfl
  go_wp2
  go_end0
  refine ⟨rfl, ?_⟩
  have := HQ5.out
  rw [HZ1.out, HZ3.out, HZ4.out] at this
  simpa [opZ, List.append_assoc] using this
set_option maxRecDepth 100000 in
set_option maxHeartbeats 16000000 in
theorem wop_4 (B b : Nat) (l : List UInt8) (nt nr ni pt pr pi : Int) (name : ByteArray) (dir : Bool) (dots : List Gst) (at_ ar ai et er ei : Int) (text : ByteArray) (elems : List Gid) (xd : Option Addr) (xdc : Nat) (xe : Option Addr) (xec : Nat) (w : World)
    (hok : okO ⟨4, ⟨⟨nt, nr⟩, ni⟩, ⟨⟨pt, pr⟩, pi⟩, name, dir, dots, ⟨⟨at_, ar⟩, ai⟩, ⟨⟨et, er⟩, ei⟩, text, elems⟩) (hdl : dots.length ≤ 200) (hel : elems.length ≤ 2000) (hnl : name.size ≤ 1000000) (htl : text.size ≤ 1000000) (hl : l.length + 3000000 ≤ 140737488355328) (hW : Wrt w B b l) (hIn : OpIn w (fun k => k < B) ⟨4, ⟨⟨nt, nr⟩, ni⟩, ⟨⟨pt, pr⟩, pi⟩, name, dir, dots, ⟨⟨at_, ar⟩, ai⟩, ⟨⟨et, er⟩, ei⟩, text, elems⟩ ⟨xd, xdc, xe, xec⟩) :
    Calls Tryz.prog 62 #[.pointer (some ⟨b, 0, none⟩), .agg #[.int .i64 4, .int .i64 nt, .int .i64 nr, .int .i64 ni, .int .i64 pt, .int .i64 pr, .int .i64 pi, .string name, .bool dir, .slice xd dots.length xdc, .int .i64 at_, .int .i64 ar, .int .i64 ai, .int .i64 et, .int .i64 er, .int .i64 ei, .string text, .slice xe elems.length xec]] w fun e w' => e = .returned (.tuple #[]) ∧ WrQ B b (l ++ opZ ⟨4, ⟨⟨nt, nr⟩, ni⟩, ⟨⟨pt, pr⟩, pi⟩, name, dir, dots, ⟨⟨at_, ar⟩, ai⟩, ⟨⟨et, er⟩, ei⟩, text, elems⟩) w w' := by
  obtain ⟨-, -, -, okn, okp, -, okd, oka, oke, -, okel⟩ := hok
  simp only at okn okp okd oka oke okel
  have hpt := hW.pt
  have HIn := Lib.hid hIn
  have HQ0 := Lib.hid ((WrQ.refl hW).alloc (by omega) (.cells #[.int .i64 4, .int .i64 nt, .int .i64 nr, .int .i64 ni, .int .i64 pt, .int .i64 pr, .int .i64 pi, .string name, .bool dir, .slice xd dots.length xdc, .int .i64 at_, .int .i64 ar, .int .i64 ai, .int .i64 et, .int .i64 er, .int .i64 ei, .string text, .slice xe elems.length xec] 70))
  have HA := Lib.hid (heap_alloc_new w (.cells #[.int .i64 4, .int .i64 nt, .int .i64 nr, .int .i64 ni, .int .i64 pt, .int .i64 pr, .int .i64 pi, .string name, .bool dir, .slice xd dots.length xdc, .int .i64 at_, .int .i64 ar, .int .i64 ai, .int .i64 et, .int .i64 er, .int .i64 ei, .string text, .slice xe elems.length xec] 70))
  have HOn := Lib.hid okn.b
  have HOp := Lib.hid okp.b
  have HOd := Lib.hid okd
  have HOa := Lib.hid oka.b
  have HOe := Lib.hid oke.b
  have HOl := Lib.hid okel
  have hz1 := idZ_le okn
  have hz2 := idZ_le okp
  have hz3 := idZ_le oka
  have hz4 := idZ_le oke
  have hbn := bytesZ_le (s := name) (by omega)
  have hbt := bytesZ_le (s := text) (by omega)
  clear hW hIn okn okp okd oka oke okel
  obtain ⟨z1, hz1e⟩ : ∃ z, z = idZ ⟨⟨nt, nr⟩, ni⟩ := ⟨_, rfl⟩
  obtain ⟨z2, hz2e⟩ : ∃ z, z = idZ ⟨⟨pt, pr⟩, pi⟩ := ⟨_, rfl⟩
  obtain ⟨z3, hz3e⟩ : ∃ z, z = idZ ⟨⟨at_, ar⟩, ai⟩ := ⟨_, rfl⟩
  obtain ⟨z4, hz4e⟩ : ∃ z, z = idZ ⟨⟨et, er⟩, ei⟩ := ⟨_, rfl⟩
  rw [← hz1e] at hz1
  rw [← hz2e] at hz2
  rw [← hz3e] at hz3
  rw [← hz4e] at hz4
  have HZ1 := Lib.hid hz1e
  have HZ2 := Lib.hid hz2e
  have HZ3 := Lib.hid hz3e
  have HZ4 := Lib.hid hz4e
  clear hz1e hz2e hz3e hz4e
  go_enter Tryz.func62, Tryz.ntmps62
  have hlk : (natZ 4).length ≤ 10 := natZ_le (by decide)
  go_wp2_with fail
  have HK1 := Lib.hid (HQ0.out.alloc (by have := HQ0.out.1.pt; omega) (.cells #[.int .i64 4] 3))
  refine (wnats_any B b l (w.heap.size + 1) [4] 1 _ (by intro y hy; simp at hy; subst hy; decide) (by simp; omega) (by simp) (by exact HK1.out.1) (by exact heap_alloc_newC _ _ (by simp)) (by have := HQ0.out.1.pt; omega)).mono ?_
  rintro e y1 ⟨rfl, hq⟩
  have HQ1 := Lib.hid (show WrQ B b (l ++ natZ 4) w y1 by have := HK1.out.trans (by exact hq); simpa using this)
  have HA1 := Lib.hid (WrQ.obj hq ((Below.heap_alloc _ _ _ (lt_of_block HA.out)).trans HA.out) (by omega) (by decide))
  clear hq HK1
  have c1_1 : y1.cell? ⟨w.heap.size, 1, none⟩ = some (.int .i64 nt) := by rw [cell_of_row _ _ _ _ _ _ HA1.out]; rfl
  have c2_1 : y1.cell? ⟨w.heap.size, 2, none⟩ = some (.int .i64 nr) := by rw [cell_of_row _ _ _ _ _ _ HA1.out]; rfl
  have c3_1 : y1.cell? ⟨w.heap.size, 3, none⟩ = some (.int .i64 ni) := by rw [cell_of_row _ _ _ _ _ _ HA1.out]; rfl
  go_wp2_with fail
  refine (wid_any B b (l ++ natZ 4) ⟨⟨nt, nr⟩, ni⟩ _ HOn.out (by simp; omega) HQ1.out.1).mono ?_
  rintro e y2 ⟨rfl, hq⟩
  have HQ2 := Lib.hid (show WrQ B b ((l ++ natZ 4) ++ z1) w y2 by have := HQ1.out.trans hq; rw [← HZ1.out] at this; exact this)
  have HA2 := Lib.hid (hq.obj HA1.out (by omega) (by decide))
  clear hq
  have c0_2 : y2.cell? ⟨w.heap.size, 0, none⟩ = some (.int .i64 4) := by rw [cell_of_row _ _ _ _ _ _ HA2.out]; rfl
  have c9_2 : y2.cell? ⟨w.heap.size, 9, none⟩ = some (.slice xd dots.length xdc) := by rw [cell_of_row _ _ _ _ _ _ HA2.out]; rfl
  have c17_2 : y2.cell? ⟨w.heap.size, 17, none⟩ = some (.slice xe elems.length xec) := by rw [cell_of_row _ _ _ _ _ _ HA2.out]; rfl
  go_wp2_with fail
  have HK3 := Lib.hid (HQ2.out.alloc (by have := HQ2.out.1.pt; omega) (.cells #[.int .i64 (elems.length : Int)] 3))
  refine (wnats_any B b ((l ++ natZ 4) ++ z1) y2.heap.size [(elems.length : Int)] 1 _ (by intro y hy; simp at hy; subst hy; omega) (by simp; omega) (by simp) (by exact HK3.out.1) (by exact heap_alloc_newC _ _ (by simp)) (by have := HQ2.out.1.pt; omega)).mono ?_
  rintro e y3 ⟨rfl, hq⟩
  have HQ3 := Lib.hid (show WrQ B b (((l ++ natZ 4) ++ z1) ++ natZ elems.length) w y3 by have := HK3.out.trans (by exact hq); simpa using this)
  have HA3 := Lib.hid (WrQ.obj hq ((Below.heap_alloc _ _ _ (lt_of_block HA2.out)).trans HA2.out) (by omega) (by decide))
  clear hq HK3
  have c9_3 : y3.cell? ⟨w.heap.size, 9, none⟩ = some (.slice xd dots.length xdc) := by rw [cell_of_row _ _ _ _ _ _ HA3.out]; rfl
  have c17_3 : y3.cell? ⟨w.heap.size, 17, none⟩ = some (.slice xe elems.length xec) := by rw [cell_of_row _ _ _ _ _ _ HA3.out]; rfl
  have c0_3 : y3.cell? ⟨w.heap.size, 0, none⟩ = some (.int .i64 4) := by rw [cell_of_row _ _ _ _ _ _ HA3.out]; rfl
  have hzk : (natZ (elems.length : Int)).length ≤ 10 := natZ_le (by omega)
  obtain ⟨n, hn⟩ : ∃ n, n = elems.length := ⟨_, rfl⟩
  obtain ⟨P, hP⟩ : ∃ P, P = (((l ++ natZ 4) ++ z1) ++ natZ elems.length) := ⟨_, rfl⟩
  have hPl : P.length ≤ l.length + 50 := by rw [hP]; simp; omega
  have HP := Lib.hid hP
  have HN := Lib.hid hn
  clear hP
  rw [← hn] at hel c17_3
  clear hn hzk hlk
  have HQS := Lib.hid (show WrQ B b P w y3 by rw [HP.out]; exact HQ3.out)
  have hN : (elems.length : Int) = (n : Int) := by rw [HN.out]
  try rw [hN]
  clear hN
  go_upto_region 27 with (fail)
  go_loopw [94] (fun i wr => ∃ j : Nat, j ≤ n ∧ i = .int .i64 j ∧ Hid (WrQ B b (P ++ (elems.take j).flatMap idZ) w wr)) (fun i _ => n - (RowKit.intOf i).toNat)
  case atStart => exact ⟨0, by omega, rfl, Lib.hid (by rw [List.take_zero, List.flatMap_nil, List.append_nil]; exact HQS.out)⟩
  case round =>
    obtain ⟨j, hj, rfl, HR⟩ := hrel
    by_cases hlt : j < n
    · have hjl : j < elems.length := by have := HN.out; omega
      obtain ⟨ab, ao, rfl, -, hab, d0, d1, d2⟩ := IdsS.at_ (RowG.agr HIn.out.elems ⟨HR.out.2.1.size, fun k hk _ => HR.out.2.1.block k hk⟩) (k := j) hjl
      obtain ⟨x, hx⟩ : ∃ x, x = elems.getD j .zero := ⟨_, rfl⟩
      simp only [← hx] at d0 d1 d2
      have hxm : x ∈ elems := by rw [hx, List.getD_eq_getElem?_getD, List.getElem?_eq_getElem hjl]; exact List.getElem_mem hjl
      have hxo := HOl.out.2 x hxm
      have HT := Lib.hid (show (P ++ (elems.take j).flatMap idZ) ++ idZ x = P ++ (elems.take (j + 1)).flatMap idZ by rw [List.take_succ_eq_append_getElem hjl, List.flatMap_append, List.flatMap_singleton, hx, List.getD_eq_getElem?_getD, List.getElem?_eq_getElem hjl, List.append_assoc]; rfl)
      have hpl : (P ++ (elems.take j).flatMap idZ).length ≤ P.length + 30 * n := by
        have h1 := flat_le (z := idZ) (c := 30) (l := elems.take j) fun y hy => idZ_le (HOl.out.2 y (List.mem_of_mem_take hy))
        have h2 : (elems.take j).length ≤ n := by have := List.length_take_le j elems; omega
        have h3 : 30 * (elems.take j).length ≤ 30 * n := Nat.mul_le_mul_left _ h2
        rw [List.length_append]; omega
      have hxb := hxo.b
      obtain ⟨⟨xt, xr⟩, xi⟩ := x
      simp only at d0 d1 d2 hxb
      obtain ⟨P2, hP2⟩ : ∃ P2, P2 = P ++ (elems.take j).flatMap idZ := ⟨_, rfl⟩
      rw [← hP2] at hpl
      have HP2 := Lib.hid hP2
      have HB2 := Lib.hid hxb
      clear hP2 hx hxm hxo hjl hxb
      have HR2 := Lib.hid (show WrQ B b P2 w wr by rw [HP2.out]; exact HR.out)
      have HK := Lib.hid (HR2.out.alloc (by have := HR2.out.1.pt; omega) (.cells #[.int .i64 xt, .int .i64 xr, .int .i64 xi] 66))
      go_wp2_with fail
      refine (wid_any B b P2 ⟨⟨xt, xr⟩, xi⟩ _ HB2.out (by omega) HK.out.1).mono ?_
      rintro e w3 ⟨rfl, hq⟩
      have HQ9 := Lib.hid (HK.out.trans hq)
      clear hq
      go_wp2
      go_roundw
      case rel => exact ⟨j + 1, by omega, by go_num, Lib.hid (by rw [← HT.out, ← HP2.out]; exact HQ9.out)⟩
      case measure => simp [RowKit.intOf]; omega
    · obtain rfl : j = n := by omega
      go_wp2
      go_end0
      refine ⟨rfl, ?_⟩
      have := HR.out
      rw [HN.out, List.take_length, HP.out, HZ1.out] at this
      simpa [opZ, List.append_assoc] using this
theorem wop_any (B b : Nat) (l : List UInt8) (o : Gop) (x : OpX) (w : World) (hok : okO o) (hdl : o.dots.length ≤ 200) (hel : o.elems.length ≤ 2000) (hnl : o.name.size ≤ 1000000) (htl : o.text.size ≤ 1000000) (hl : l.length + 3000000 ≤ 140737488355328) (hW : Wrt w B b l) (hIn : OpIn w (fun k => k < B) o x) :
    Calls Tryz.prog 62 #[.pointer (some ⟨b, 0, none⟩), .agg (opA o x)] w fun e w' => e = .returned (.tuple #[]) ∧ WrQ B b (l ++ opZ o) w w' := by
  obtain ⟨kind, ⟨⟨nt, nr⟩, ni⟩, ⟨⟨pt, pr⟩, pi⟩, name, dir, dots, ⟨⟨at_, ar⟩, ai⟩, ⟨⟨et, er⟩, ei⟩, text, elems⟩ := o
  obtain ⟨xd, xdc, xe, xec⟩ := x
  have h0 : 0 ≤ kind := hok.1
  have h4 : kind ≤ 4 := hok.2.1
  by_cases k0 : kind = 0
  · subst k0; exact wop_0 B b l nt nr ni pt pr pi name dir dots at_ ar ai et er ei text elems xd xdc xe xec w hok hdl hel hnl htl hl hW hIn
  by_cases k1 : kind = 1
  · subst k1; exact wop_1 B b l nt nr ni pt pr pi name dir dots at_ ar ai et er ei text elems xd xdc xe xec w hok hdl hel hnl htl hl hW hIn
  by_cases k2 : kind = 2
  · subst k2; exact wop_2 B b l nt nr ni pt pr pi name dir dots at_ ar ai et er ei text elems xd xdc xe xec w hok hdl hel hnl htl hl hW hIn
  by_cases k3 : kind = 3
  · subst k3; exact wop_3 B b l nt nr ni pt pr pi name dir dots at_ ar ai et er ei text elems xd xdc xe xec w hok hdl hel hnl htl hl hW hIn
  obtain rfl : kind = 4 := by omega
  exact wop_4 B b l nt nr ni pt pr pi name dir dots at_ ar ai et er ei text elems xd xdc xe xec w hok hdl hel hnl htl hl hW hIn
end Go.Proofs.YtalgbcgiiphoaaaGreatDoor
end
