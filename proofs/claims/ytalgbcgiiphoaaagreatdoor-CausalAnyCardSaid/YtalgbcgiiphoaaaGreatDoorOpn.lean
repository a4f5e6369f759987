/- How arguments open that are operations, groups, and lists of them. No condition. -/
import Derived.Test.YtalgbcgiiphoaaaGreatDoorSA
import Derived.Deep.Slices
import Derived.ChangeSame
import Derived.SizedLaws
namespace Go.Proofs.YtalgbcgiiphoaaaGreatDoor
open Go.ChangeShapes Go.WideShapes Go.RowKit Go.Lib Go.Deep
set_option linter.unusedVariables false
/-- the blocks that are there -/
def Here (w : World) : Nat → Prop := fun b => b < w.heap.size
theorem range_getD {α : Type} (f : Nat → α) (z : α) {n k : Nat} (h : k < n) : ((List.range n).map f).getD k z = f k := by
  rw [List.getD_eq_getElem?_getD, List.getElem?_map, List.getElem?_range h]; rfl
theorem range_len {α : Type} (f : Nat → α) (n : Nat) : ((List.range n).map f).length = n := by simp
section
variable {H : Type} {enc : TypeId × Value → H} {w : World} {spare : Nat → Bool} {held : Bool} {fuel : Nat} {cs : List Value} {x : DataW H × List MemPlace}
theorem weightsAll_mem {P : Program} {e : TypeId} : ∀ {l : List (DataW H)} {d : DataW H} {n : Nat}, d ∈ l → n ∈ d.weights P e → n ∈ DataW.weightsAll P e l
  | y :: l, d, n, h, hn => by
    show _ ∈ y.weights P e ++ DataW.weightsAll P e l
    rcases List.mem_cons.1 h with rfl | h
    · exact List.mem_append_left _ hn
    · exact List.mem_append_right _ (weightsAll_mem h hn)
theorem opn_rows {P : Program} {α : Type} [Inhabited α] {t e : TypeId} {s : Nat} (hs : 0 < s) (ht : P.underlying t = some (.slice e)) (hc : P.cellsOf e = s) (V : α → Nat → Value) (P1 : α → DataW H → Prop)
    (elem : ∀ (n : Nat) (cs' : List Value) (d : DataW H) (p : List MemPlace), DataW.trod enc P w 0 spare held n e cs' = some (d, p) → ∃ x : α, (∀ j, j < s → cs'[j]? = some (V x j)) ∧ P1 x d)
    (h : DataW.trod enc P w 0 spare held fuel t cs = some x) :
    ∃ (A : Option Addr) (len c : Nat) (f : Nat → α), cs = [.slice A len c] ∧ len ≤ c ∧ c ≤ maxLen ∧ RowG w (Here w) A len s (fun k j => V (f k) j) ∧ ∀ k, k < len → ∃ d, P1 (f k) d ∧ ∀ n ∈ d.weights P e, n ∈ x.1.weights P t := by
  rcases open_slice ht h with ⟨h1, h2⟩ | ⟨a, len, cap, m, n, D, Pl, hcs, hb, hl, hm, hmm, hx, hi⟩
  · exact ⟨none, 0, 0, fun _ => default, h1, Nat.le_refl _, Nat.zero_le _, RowG.zero, fun k hk => absurd hk (by omega)⟩
  · have hlm : len ≤ m := by rw [hmm]; split <;> omega
    have hall : ∀ i, i < len → ∃ x : α, (∀ j, j < s → w.cell? ((a.add (i * s)).add j) = some (V x j)) ∧ P1 x (D i) := fun i hi' => by
      obtain ⟨cs', h3, h4⟩ := hi i (by omega)
      rw [hc] at h3
      obtain ⟨_, hcl, hat⟩ := World.cells?_some h3
      obtain ⟨x, h5, h6⟩ := elem n cs' _ _ h4
      exact ⟨x, fun j hj => by rw [hat j hj, h5 j hj], h6⟩
    obtain ⟨f, hf⟩ := choose_lt hall
    refine ⟨some a, len, cap, f, hcs, hl, hm, fun k hk => ?_, fun k hk => ⟨D k, (hf k hk).2, fun n hn => ?_⟩⟩
    · obtain ⟨b, o, sp⟩ := a
      have h0 := (hf 0 (by omega)).1 0 hs
      have hsp : sp = none := by
        cases sp with
        | none => rfl
        | some q =>
          exfalso
          rw [Nat.zero_mul] at h0
          simp only [Addr.add, if_true, World.cell?, Option.isSome_some] at h0
          split at h0 <;> cases h0
      subst hsp
      have hbl : b < w.heap.size := by
        have := lt_of_cell h0
        simpa [Addr.add] using this
      refine ⟨b, o, rfl, hbl, hbl, fun j hj => ?_⟩
      have := (hf k hk).1 j hj
      rw [add_add, Addr.add_mid] at this
      rw [show o + k * s + j = o + (k * s + j) from by omega]
      exact this
    · rw [hx]
      simp only [DataW.weights, ht]
      exact List.mem_cons_of_mem _ (List.mem_append_left _ (weightsAll_mem (List.mem_map.2 ⟨k, List.mem_range.2 hk, rfl⟩) hn))
theorem fld {P : Program} {ty : TypeId} {n off c : Nat} {l : List Value} {ys : List (DataW H × List MemPlace)} {i : Nat} {y : DataW H × List MemPlace}
    (hf : DataW.trod enc P w 0 spare held n ty ((cs.drop off).take (P.cellsOf ty)) = ys[i]?) (hc : P.cellsOf ty = c) (hl : (cs.drop off).take c = l) (hy : ys[i]? = some y) : DataW.trod enc P w 0 spare held n ty l = some y := by
  rw [hc, hl, hy] at hf; exact hf
theorem cells_int : Tryz.prog.cellsOf 3 = 1 := by kernel_rfl
theorem cells_str : Tryz.prog.cellsOf 9 = 1 := by kernel_rfl
theorem cells_bool : Tryz.prog.cellsOf 4 = 1 := by kernel_rfl
theorem cells_st : Tryz.prog.cellsOf 37 = 2 := by kernel_rfl
theorem cells_id : Tryz.prog.cellsOf 66 = 3 := by kernel_rfl
theorem cells_op : Tryz.prog.cellsOf 70 = 18 := by kernel_rfl
theorem cells_gr : Tryz.prog.cellsOf 40 = 7 := by kernel_rfl
theorem cells_ints : Tryz.prog.cellsOf 29 = 1 := by kernel_rfl
theorem cells_sts : Tryz.prog.cellsOf 67 = 1 := by kernel_rfl
theorem cells_ids : Tryz.prog.cellsOf 68 = 1 := by kernel_rfl
theorem cells_ops : Tryz.prog.cellsOf 38 = 1 := by kernel_rfl
theorem wf_i63 {n : Int} (h : (Lit.int .i64 n).wf = true) : i63 n := by
  have : -9223372036854775808 ≤ n ∧ n ≤ 9223372036854775807 := by simpa [Lit.wf, IntKind.min, IntKind.max, IntKind.bits, IntKind.signed] using h
  exact ⟨by omega, by omega⟩
set_option maxRecDepth 100000 in
theorem opn_st (h : DataW.trod enc Tryz.prog w 0 spare held fuel 37 cs = some x) : ∃ s : Gst, cs = [.int .i64 s.t, .int .i64 s.r] ∧ i63 s.t ∧ i63 s.r := by
  obtain ⟨ys, n, _, _, hlen, hyl, hf⟩ := DataW.trod_struct Tryz.underlying37 h
  rw [cells_st] at hlen
  match cs, hlen, ys, hyl with
  | [c0, c1], _, [y0, y1], _ =>
    obtain ⟨t, e0, _, w0⟩ := DataW.trod_int Tryz.underlying3 (fld (hf 0 _ rfl) cells_int rfl rfl)
    obtain ⟨r, e1, _, w1⟩ := DataW.trod_int Tryz.underlying3 (fld (hf 1 _ rfl) cells_int rfl rfl)
    cases e0; cases e1
    exact ⟨⟨t, r⟩, rfl, wf_i63 w0, wf_i63 w1⟩
set_option maxRecDepth 100000 in
theorem opn_id (h : DataW.trod enc Tryz.prog w 0 spare held fuel 66 cs = some x) : ∃ s : Gid, cs = [.int .i64 s.s.t, .int .i64 s.s.r, .int .i64 s.i] ∧ i63 s.i := by
  obtain ⟨ys, n, _, _, hlen, hyl, hf⟩ := DataW.trod_struct Tryz.underlying66 h
  rw [cells_id] at hlen
  match cs, hlen, ys, hyl with
  | [c0, c1, c2], _, [y0, y1], _ =>
    obtain ⟨s, e0, _⟩ := opn_st (fld (hf 0 _ rfl) cells_st rfl rfl)
    obtain ⟨r, e1, _, w1⟩ := DataW.trod_int Tryz.underlying3 (fld (hf 1 _ rfl) cells_int rfl rfl)
    cases e0; cases e1
    exact ⟨⟨s, r⟩, rfl, wf_i63 w1⟩
instance : Inhabited Gst := ⟨.zero⟩
instance : Inhabited Gid := ⟨.zero⟩
instance : Inhabited OpX := ⟨⟨none, 0, none, 0⟩⟩
instance : Inhabited Gop := ⟨opO 0 .zero⟩
theorem opn_ints (h : DataW.trod enc Tryz.prog w 0 spare held fuel 29 cs = some x) : ∃ (A : Option Addr) (v : List Int) (c : Nat), cs = [.slice A v.length c] ∧ v.length ≤ c ∧ c ≤ maxLen ∧ VecS w (Here w) A v ∧ ∀ y ∈ v, i63 y := by
  obtain ⟨A, len, c, f, hcs, h1, h2, h3, h4⟩ := opn_rows (α := Int) (s := 1) (by decide) Tryz.underlying29 cells_int (fun v _ => .int .i64 v) (fun v _ => i63 v) (fun n cs' d p h => by
    obtain ⟨v, rfl, _, hw⟩ := DataW.trod_int Tryz.underlying3 h
    exact ⟨v, fun j hj => by obtain rfl : j = 0 := (by omega); rfl, wf_i63 hw⟩) h
  refine ⟨A, (List.range len).map f, c, by rw [range_len]; exact hcs, by rw [range_len]; exact h1, h2, ?_, fun y hy => ?_⟩
  · unfold VecS
    rw [range_len]
    exact RowG.congr h3 fun k j hk hj => by rw [range_getD f 0 hk]
  · obtain ⟨k, hk, rfl⟩ := List.mem_map.1 hy
    obtain ⟨d, hd, _⟩ := h4 k (List.mem_range.1 hk)
    exact hd
theorem opn_sts (h : DataW.trod enc Tryz.prog w 0 spare held fuel 67 cs = some x) : ∃ (A : Option Addr) (v : List Gst) (c : Nat), cs = [.slice A v.length c] ∧ v.length ≤ c ∧ c ≤ maxLen ∧ StsS w (Here w) A v := by
  obtain ⟨A, len, c, f, hcs, h1, h2, h3, h4⟩ := opn_rows (α := Gst) (s := 2) (by decide) Tryz.underlying67 cells_st (fun v j => if j = 0 then .int .i64 v.t else .int .i64 v.r) (fun v _ => True) (fun n cs' d p h => by
    obtain ⟨v, rfl, _⟩ := opn_st h
    exact ⟨v, fun j hj => by match j, hj with | 0, _ => rfl | 1, _ => rfl, trivial⟩) h
  refine ⟨A, (List.range len).map f, c, by rw [range_len]; exact hcs, by rw [range_len]; exact h1, h2, ?_⟩
  unfold StsS
  rw [range_len]
  exact RowG.congr h3 fun k j hk hj => by rw [range_getD f .zero hk]
theorem opn_ids (h : DataW.trod enc Tryz.prog w 0 spare held fuel 68 cs = some x) : ∃ (A : Option Addr) (v : List Gid) (c : Nat), cs = [.slice A v.length c] ∧ v.length ≤ c ∧ c ≤ maxLen ∧ IdsS w (Here w) A v := by
  obtain ⟨A, len, c, f, hcs, h1, h2, h3, h4⟩ := opn_rows (α := Gid) (s := 3) (by decide) Tryz.underlying68 cells_id (fun v j => if j = 0 then .int .i64 v.s.t else if j = 1 then .int .i64 v.s.r else .int .i64 v.i) (fun v _ => True) (fun n cs' d p h => by
    obtain ⟨v, rfl, _⟩ := opn_id h
    exact ⟨v, fun j hj => by match j, hj with | 0, _ => rfl | 1, _ => rfl | 2, _ => rfl, trivial⟩) h
  refine ⟨A, (List.range len).map f, c, by rw [range_len]; exact hcs, by rw [range_len]; exact h1, h2, ?_⟩
  unfold IdsS
  rw [range_len]
  exact RowG.congr h3 fun k j hk hj => by rw [range_getD f .zero hk]
theorem agg_mem {P : Program} {t : TypeId} {fs : Array Field} (ht : P.underlying t = some (.struct fs)) {ys : List (DataW H × List MemPlace)} {i : Nat} {f : Field} {y : DataW H × List MemPlace} (hf : fs[i]? = some f) (hy : ys[i]? = some y) {n : Nat} (hn : n ∈ y.1.weights P f.type) : n ∈ (DataW.agg (ys.map (·.1))).weights P t := by
  simp only [DataW.weights, ht]
  refine DataW.weights_mem_each (j := i) (t := f.type) (d := y.1) ?_ ?_ n hn
  · rw [List.getElem?_map, Array.getElem?_toList, hf]; rfl
  · rw [List.getElem?_map, hy]; rfl
set_option maxRecDepth 100000 in
theorem opn_op (h : DataW.trod enc Tryz.prog w 0 spare held fuel 70 cs = some x) : ∃ p : Gop × OpX, cs = (opA p.1 p.2).toList ∧ OpIn w (Here w) p.1 p.2 ∧ p.1.text.data.toList.length ∈ x.1.weights Tryz.prog 70 ∧ p.1.name.data.toList.length ∈ x.1.weights Tryz.prog 70 := by
  obtain ⟨ys, n, _, hx, hlen, hyl, hf⟩ := DataW.trod_struct Tryz.underlying70 h
  rw [cells_op] at hlen
  match cs, hlen, ys, hyl with
  | [c0, c1, c2, c3, c4, c5, c6, c7, c8, c9, c10, c11, c12, c13, c14, c15, c16, c17], _, [y0, y1, y2, y3, y4, y5, y6, y7, y8, y9], _ =>
    obtain ⟨k, e0, _, w0⟩ := DataW.trod_int Tryz.underlying3 (fld (hf 0 _ rfl) cells_int rfl rfl)
    obtain ⟨node, e1, _⟩ := opn_id (fld (hf 1 _ rfl) cells_id rfl rfl)
    obtain ⟨parent, e2, _⟩ := opn_id (fld (hf 2 _ rfl) cells_id rfl rfl)
    obtain ⟨name, e3, z3, hn⟩ := DataW.trod_string Tryz.underlying9 (fld (hf 3 _ rfl) cells_str rfl rfl)
    obtain ⟨dir, e4, _⟩ := DataW.trod_bool Tryz.underlying4 (fld (hf 4 _ rfl) cells_bool rfl rfl)
    obtain ⟨dA, dots, dc, e5, d1, d2, d3⟩ := opn_sts (fld (hf 5 _ rfl) cells_sts rfl rfl)
    obtain ⟨after, e6, _⟩ := opn_id (fld (hf 6 _ rfl) cells_id rfl rfl)
    obtain ⟨elem, e7, _⟩ := opn_id (fld (hf 7 _ rfl) cells_id rfl rfl)
    obtain ⟨text, e8, z8, ht⟩ := DataW.trod_string Tryz.underlying9 (fld (hf 8 _ rfl) cells_str rfl rfl)
    obtain ⟨eA, elems, ec, e9, f1, f2, f3⟩ := opn_ids (fld (hf 9 _ rfl) cells_ids rfl rfl)
    cases e0; cases e1; cases e2; cases e3; cases e4; cases e5; cases e6; cases e7; cases e8; cases e9
    refine ⟨(⟨k, node, parent, name, dir, dots, after, elem, text, elems⟩, ⟨dA, dc, eA, ec⟩), rfl, ⟨d3, f3, d1, f1, d2, f2, hn, ht⟩, ?_, ?_⟩
    · rw [hx]; exact agg_mem Tryz.underlying70 (i := 8) rfl rfl (by rw [z8]; simp [DataW.weights])
    · rw [hx]; exact agg_mem Tryz.underlying70 (i := 3) rfl rfl (by rw [z3]; simp [DataW.weights])
theorem opn_ops (h : DataW.trod enc Tryz.prog w 0 spare held fuel 38 cs = some x) : ∃ (A : Option Addr) (l : List Gop) (c : Nat), cs = [.slice A l.length c] ∧ l.length ≤ c ∧ c ≤ maxLen ∧ OpsS w (Here w) A l ∧ ∀ o ∈ l, o.text.data.toList.length ∈ x.1.weights Tryz.prog 38 ∧ o.name.data.toList.length ∈ x.1.weights Tryz.prog 38 := by
  obtain ⟨A, len, c, f, hcs, h1, h2, h3, h4⟩ := opn_rows (α := Gop × OpX) (s := 18) (by decide) Tryz.underlying38 cells_op (fun p j => (opA p.1 p.2).getD j undef)
    (fun p d => OpIn w (Here w) p.1 p.2 ∧ p.1.text.data.toList.length ∈ d.weights Tryz.prog 70 ∧ p.1.name.data.toList.length ∈ d.weights Tryz.prog 70) (fun n cs' d p h => by
    obtain ⟨v, rfl, h1, h2, h3⟩ := opn_op h
    refine ⟨v, fun j hj => ?_, h1, h2, h3⟩
    rw [Array.getElem?_toList, Array.getD_eq_getD_getElem?]
    have : j < (opA v.1 v.2).size := hj
    rw [Array.getElem?_eq_getElem this]
    rfl) h
  refine ⟨A, (List.range len).map (fun k => (f k).1), c, by rw [range_len]; exact hcs, by rw [range_len]; exact h1, h2, ⟨fun k => (f k).2, ?_, fun k hk => ?_⟩, fun o ho => ?_⟩
  · rw [range_len]
    exact RowG.congr h3 fun k j hk hj => by rw [range_getD (fun k => (f k).1) _ hk]
  · rw [range_len] at hk
    rw [range_getD (fun k => (f k).1) _ hk]
    obtain ⟨d, hd, _⟩ := h4 k hk
    exact hd.1
  · obtain ⟨k, hk, rfl⟩ := List.mem_map.1 ho
    obtain ⟨d, hd, hw⟩ := h4 k (List.mem_range.1 hk)
    exact ⟨hw _ hd.2.1, hw _ hd.2.2⟩
/-- where a group's lists lie -/
structure GrX where
  dA : Option Addr
  dc : Nat
  oA : Option Addr
  oc : Nat
instance : Inhabited GrX := ⟨⟨none, 0, none, 0⟩⟩
instance : Inhabited Grp := ⟨⟨.zero, 0, [], .zero, []⟩⟩
set_option maxRecDepth 100000 in
theorem opn_gr (h : DataW.trod enc Tryz.prog w 0 spare held fuel 40 cs = some x) : ∃ p : Grp × GrX, cs = (grA p.1 p.2.dA p.2.dc p.2.oA p.2.oc).toList ∧ GrIn w (Here w) p.1 p.2.dA p.2.dc p.2.oA p.2.oc ∧ (i63 p.1.s.t ∧ i63 p.1.s.r) ∧ ∀ o ∈ p.1.ops, o.text.data.toList.length ∈ x.1.weights Tryz.prog 40 ∧ o.name.data.toList.length ∈ x.1.weights Tryz.prog 40 := by
  obtain ⟨ys, n, _, hx, hlen, hyl, hf⟩ := DataW.trod_struct Tryz.underlying40 h
  rw [cells_gr] at hlen
  match cs, hlen, ys, hyl with
  | [c0, c1, c2, c3, c4, c5, c6], _, [y0, y1, y2, y3, y4], _ =>
    obtain ⟨s, e0, s1⟩ := opn_st (fld (hf 0 _ rfl) cells_st rfl rfl)
    obtain ⟨m, e1, _, w1⟩ := DataW.trod_int Tryz.underlying3 (fld (hf 1 _ rfl) cells_int rfl rfl)
    obtain ⟨dA, v, dc, e2, d1, d2, d3, d4⟩ := opn_ints (fld (hf 2 _ rfl) cells_ints rfl rfl)
    obtain ⟨u, e3, _⟩ := opn_st (fld (hf 3 _ rfl) cells_st rfl rfl)
    obtain ⟨oA, l, oc, e4, o1, o2, o3, o4⟩ := opn_ops (fld (hf 4 _ rfl) cells_ops rfl rfl)
    cases e0; cases e1; cases e2; cases e3; cases e4
    refine ⟨(⟨s, m, v, u, l⟩, ⟨dA, dc, oA, oc⟩), rfl, ⟨d3, o3, d1, o1, d2, o2, wf_i63 w1, d4⟩, s1, fun o ho => ?_⟩
    rw [hx]
    exact ⟨agg_mem Tryz.underlying40 (i := 4) rfl rfl (o4 o ho).1, agg_mem Tryz.underlying40 (i := 4) rfl rfl (o4 o ho).2⟩
end
end Go.Proofs.YtalgbcgiiphoaaaGreatDoor
