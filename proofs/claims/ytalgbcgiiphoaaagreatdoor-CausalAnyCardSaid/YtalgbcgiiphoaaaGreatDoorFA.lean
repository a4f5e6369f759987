/- The group that makes a directory at the root. No condition. | Whether a group is one that is looked at. Conditions: lengths in reach. | Plain bounds: how long the bytes of a group are that is looked at. No condition. -/
import Derived.Test.YtalgbcgiiphoaaaGreatDoorSA
import Derived.Test.YtalgbcgiiphoaaaGreatDoorPL
import Derived.Test.YtalgbcgiiphoaaaGreatDoorSM
import Derived.Test.YtalgbcgiiphoaaaGreatDoorPA
section
namespace Go.Proofs.YtalgbcgiiphoaaaGreatDoor
open Go.RowKit Go.Lib Go.Sort
set_option linter.unusedVariables false
attribute [local go_sem ↓] Go.wp_at_zero Go.wp_at_succ
def firstO : Gop := { opO 0 ⟨⟨1, 1⟩, 0⟩ with name := ⟨#[97]⟩, dir := true }
def firstG : Grp := ⟨⟨1, 1⟩, 1, [], ⟨0, 0⟩, [firstO]⟩
theorem first_in (w : World) (g : Nat) (B : Nat) (hB : B ≤ g) (h : w.heap[g]? = some (.cells #[.int .i64 0, .int .i64 1, .int .i64 1, .int .i64 0, .int .i64 0, .int .i64 0, .int .i64 0, .string ⟨#[97]⟩, .bool true, .slice none 0 0, .int .i64 0, .int .i64 0, .int .i64 0, .int .i64 0, .int .i64 0, .int .i64 0, .string ⟨#[]⟩, .slice none 0 0] 70 (0, 0))) :
    GrIn w (fun k => B ≤ k) firstG none 0 (some ⟨g, 0, none⟩) 1 := by
  refine ⟨RowG.zero, ⟨fun _ => ⟨none, 0, none, 0⟩, ?_, ?_⟩, Nat.le_refl _, Nat.le_refl _, Nat.zero_le _, by decide, ⟨by decide, by decide⟩, fun x hx => (by cases hx)⟩
  · intro k hk
    obtain rfl : k = 0 := by have : k < 1 := hk; omega
    have hl : g < w.heap.size := by
      rcases Nat.lt_or_ge g w.heap.size with hlt | hge
      · exact hlt
      · rw [Array.getElem?_eq_none hge] at h; cases h
    refine ⟨g, 0, rfl, hB, hl, fun j hj => ?_⟩
    have e : (0 + 0 * 18 + j : Nat) = j := by omega
    rw [e, cell_of_row _ _ _ _ _ _ h]
    match j, hj with
    | 0, _ => rfl
    | 1, _ => rfl
    | 2, _ => rfl
    | 3, _ => rfl
    | 4, _ => rfl
    | 5, _ => rfl
    | 6, _ => rfl
    | 7, _ => rfl
    | 8, _ => rfl
    | 9, _ => rfl
    | 10, _ => rfl
    | 11, _ => rfl
    | 12, _ => rfl
    | 13, _ => rfl
    | 14, _ => rfl
    | 15, _ => rfl
    | 16, _ => rfl
    | 17, _ => rfl
    | n + 18, h => exact absurd h (by omega)
  · intro k hk
    obtain rfl : k = 0 := by have : k < 1 := hk; omega
    exact ⟨RowG.zero, RowG.zero, Nat.le_refl _, Nat.le_refl _, Nat.zero_le _, Nat.zero_le _, by decide, Nat.zero_le _⟩
def firstL (a : Nat) : Array Value := #[.int .i64 1, .int .i64 1, .int .i64 1, .slice none 0 0, .int .i64 0, .int .i64 0, .slice (some ⟨a, 0, none⟩) 1 1]
/-- what First answers -/
def FirstQ (w : World) (e : Ending) (w' : World) : Prop := ∃ a, e = .returned (.agg #[.int .i64 1, .int .i64 1, .int .i64 1, .slice none 0 0, .int .i64 0, .int .i64 0, .slice (some ⟨a, 0, none⟩) 1 1]) ∧ GrIn w' (fun k => w.heap.size ≤ k) firstG none 0 (some ⟨a, 0, none⟩) 1 ∧ Below w.heap.size w w'
set_option maxRecDepth 100000 in
set_option maxHeartbeats 4000000 in
theorem firstg_any (w : World) : Calls Tryz.prog 18 #[] w (FirstQ w) := by
  go_enter Tryz.func18, Tryz.ntmps18
  go_wp2
  refine bodyPost_ret (v := .agg #[.int .i64 1, .int .i64 1, .int .i64 1, .slice none 0 0, .int .i64 0, .int .i64 0, .slice (some ⟨w.heap.size + 1 + 1, 0, none⟩) 1 1]) (by simp [results, Tryz.results18, go_sem]) rfl ?_
  exact ⟨w.heap.size + 1 + 1, rfl, first_in _ _ _ (by omega) (heap_alloc_newC _ _ (by simp)), (((Below.refl _ _).alloc (Nat.le_refl _) _).alloc (by simp) _).alloc (by simp; omega) _⟩
end Go.Proofs.YtalgbcgiiphoaaaGreatDoor
end
section
namespace Go.Proofs.YtalgbcgiiphoaaaGreatDoor
open Go.RowKit Go.Lib Go.Sort
set_option linter.unusedVariables false
attribute [local go_sem ↓] Go.wp_at_zero Go.wp_at_succ
/-- an operation that is looked at -/
def fewO (o : Gop) : Bool := !(decide (3000 < o.text.size) || (decide (100 < o.elems.length) && decide (o.elems.length ≤ 2000)) || decide (1000 < o.name.size))
def fewG (g : Grp) : Bool := !((decide (60 < g.ops.length) && decide (g.ops.length ≤ 200)) || decide (60 < g.deps.length)) && allIx (min g.ops.length 201) (fun i => fewO (g.ops.getD i (opO 0 .zero)))
theorem fewG_text {g : Grp} (h : fewG g = true) (hl : g.ops.length ≤ 200) : g.ops.length ≤ 60 ∧ ∀ o ∈ g.ops, o.text.size ≤ 3000 ∧ o.name.size ≤ 1000 := by
  simp only [fewG, Bool.and_eq_true, Bool.not_eq_true', Bool.or_eq_false_iff, Bool.and_eq_false_iff, decide_eq_false_iff_not] at h
  refine ⟨by rcases h.1.1 with h1 | h1 <;> omega, fun o ho => ?_⟩
  obtain ⟨k, hk, e⟩ := getD_of_mem (z := opO 0 .zero) ho
  have := allIx_of h.2 k (by omega)
  rw [e] at this
  simp only [fewO, Bool.not_eq_true', Bool.or_eq_false_iff, decide_eq_false_iff_not] at this
  omega
theorem oc_of' {o : Gop} {x : OpX} : (opL o x).toArray.toList.all (·.oneCell') = true := rfl
set_option maxRecDepth 100000 in
set_option maxHeartbeats 8000000 in
theorem few_any (g : Grp) (dA oA : Option Addr) (dc oc : Nat) (S : Nat → Prop) (w : World) (hI : GrIn w S g dA dc oA oc) :
    Calls Tryz.prog 14 #[.agg (grA g dA dc oA oc)] w fun e w' => e = .returned (.bool (fewG g)) ∧ Below w.heap.size w w' := by
  obtain ⟨ans, hans⟩ : ∃ r, r = fewG g := ⟨_, rfl⟩
  rw [← hans]
  obtain ⟨⟨t, r⟩, n, v, ⟨ut, ur⟩, ops⟩ := g
  have hv1 : v.length ≤ 9223372036854775807 := by have := hI.dle; have := hI.dmax; unfold maxLen at this; simp only at *; omega
  have ho1 : ops.length ≤ 9223372036854775807 := by have := hI.ole; have := hI.omax; unfold maxLen at this; simp only at *; omega
  have HI := Lib.hid hI.ops
  have HANS := Lib.hid hans
  clear hI hans
  show Calls _ _ #[.agg #[.int .i64 t, .int .i64 r, .int .i64 n, .slice dA v.length dc, .int .i64 ut, .int .i64 ur, .slice oA ops.length oc]] _ _
  have HB := Lib.hid (show Below w.heap.size w (w.alloc (.cells #[.int .i64 t, .int .i64 r, .int .i64 n, .slice dA v.length dc, .int .i64 ut, .int .i64 ur, .slice oA ops.length oc] 40)) from (Below.refl _ _).alloc (Nat.le_refl _) _)
  have HC := Lib.hid (heap_alloc_new w (.cells #[.int .i64 t, .int .i64 r, .int .i64 n, .slice dA v.length dc, .int .i64 ut, .int .i64 ur, .slice oA ops.length oc] 40))
  by_cases c1 : (60 < ops.length ∧ ops.length ≤ 200) ∨ 60 < v.length
  · obtain rfl : ans = false := by
      rw [HANS.out]; unfold fewG
      rcases c1 with ⟨c1, c2⟩ | c1
      · simp [c1, c2]
      · simp [c1]
    by_cases c2 : 60 < ops.length
    · by_cases c3 : ops.length ≤ 200
      · have e1 : decide (60 < (ops.length : Int)) = true := by rw [decide_eq_true_eq]; omega
        have e2 : decide ((ops.length : Int) ≤ 200) = true := by rw [decide_eq_true_eq]; omega
        have e3 : (60 : Int) < (ops.length : Int) := by omega
        clear c1
        go_enter Tryz.func14, Tryz.ntmps14
        go_wp2
        go_ret
        exact ⟨rfl, HB.out⟩
      · have c4 : 60 < v.length := by omega
        clear c1
        go_enter Tryz.func14, Tryz.ntmps14
        go_wp2
        all_goals
          go_ret
          exact ⟨rfl, HB.out⟩
    · have c4 : 60 < v.length := by omega
      clear c1
      go_enter Tryz.func14, Tryz.ntmps14
      go_wp2
      all_goals
        go_ret
        exact ⟨rfl, HB.out⟩
  · have HA2 := Lib.hid (show ans = allIx (min ops.length 201) (fun i => fewO (ops.getD i (opO 0 .zero))) by
      rw [HANS.out]; unfold fewG
      have h1 : ((decide (60 < ops.length) && decide (ops.length ≤ 200)) || decide (60 < v.length)) = false := by
        simp only [Bool.or_eq_false_iff, Bool.and_eq_false_iff, decide_eq_false_iff_not]; omega
      simp only [h1, Bool.not_false, Bool.true_and])
    have hvl : v.length ≤ 60 := by omega
    have hol : ops.length ≤ 60 ∨ 200 < ops.length := by omega
    clear c1
    obtain ⟨m, hm⟩ : ∃ m, m = ops.length := ⟨_, rfl⟩
    have HM := Lib.hid hm
    have e7 : decide (60 < v.length) = false := by rw [decide_eq_false_iff_not]; omega
    have e8 : ¬ 60 < (v.length : Int) := by omega
    rcases hol with hol | hol
    · have e5 : decide (60 < ops.length) = false := by rw [decide_eq_false_iff_not]; omega
      have e6 : ¬ 60 < (ops.length : Int) := by omega
      clear hm
      go_enter Tryz.func14, Tryz.ntmps14
      go_upto_region 4 with (fail)
      go_loopw [3] (fun i wr => ∃ j : Nat, j ≤ ops.length ∧ j ≤ 201 ∧ i = .int .i64 j ∧ Below (w.heap.size + 1) (w.alloc (.cells #[.int .i64 t, .int .i64 r, .int .i64 n, .slice dA v.length dc, .int .i64 ut, .int .i64 ur, .slice oA ops.length oc] 40)) wr ∧ Hid (∀ i, i < j → fewO (ops.getD i (opO 0 .zero)) = true)) (fun i _ => ops.length - (RowKit.intOf i).toNat)
      case atStart => exact ⟨0, by omega, by omega, rfl, Below.refl _ _, Lib.hid (fun i hi => absurd hi (by omega))⟩
      case round =>
        obtain ⟨j, hj, hj2, rfl, hBr, HK⟩ := hrel
        have hsz := hBr.size
        have HC2 := Lib.hid ((hBr.block w.heap.size (by omega)).trans HC.out)
        have f6 : wr.cell? ⟨w.heap.size, 6, none⟩ = some (.slice oA ops.length oc) := by rw [cell_of_row _ _ _ _ _ _ HC2.out]; rfl
        have HBw := Lib.hid (HB.out.trans (hBr.mono (Nat.le_succ _)))
        by_cases hlt : j < ops.length
        · by_cases h200 : j ≤ 200
          · obtain ⟨X, hX1, hX2⟩ := OpsS.agr HI.out (Agr.below HBw.out)
            obtain ⟨ab, ao, rfl, -, hab, hc⟩ := hX1 j hlt
            have hIn := hX2 j hlt
            obtain ⟨o, ho⟩ : ∃ o, o = ops.getD j (opO 0 .zero) := ⟨_, rfl⟩
            obtain ⟨x, hx⟩ : ∃ x, x = X j := ⟨_, rfl⟩
            simp only [← ho, ← hx] at hc hIn
            have hel : o.elems.length ≤ 9223372036854775807 := by have := hIn.ele; have := hIn.emax; unfold maxLen at this; omega
            have htl : o.text.size ≤ 9223372036854775807 := by have := hIn.text; unfold maxLen at this; omega
            have hnl : o.name.size ≤ 9223372036854775807 := by have := hIn.name; unfold maxLen at this; omega
            have hr := op_range hc
            have hlk : (opL o x).length = 18 := rfl
            have hn : (Tryz.prog.info? 70).map (·.size) = some (opL o x).length := by rw [hlk]; kernel_rfl
            have hx7 : (opL o x)[7]? = some (.string o.name) := rfl
            have hx16 : (opL o x)[16]? = some (.string o.text) := rfl
            have hx17 : (opL o x)[17]? = some (.slice x.eA o.elems.length x.ec) := rfl
            have hoc := oc_of' (o := o) (x := x)
            generalize opL o x = k at *
            have HR := Lib.hid hr
            have HNk := Lib.hid hn
            have HX7 := Lib.hid hx7
            have HX16 := Lib.hid hx16
            have HX17 := Lib.hid hx17
            have HOC := Lib.hid hoc
            have HNk2 := Lib.hid (show (Tryz.prog.info? 70).map (·.size) = some k.toArray.size from by rw [List.size_toArray]; exact hn)
            have HSZ := Lib.hid (show k.toArray.size = 18 from by rw [List.size_toArray]; exact hlk)
            clear hr hn hx7 hx16 hx17 hoc hlk
            have i0 : (0 : Int) ≤ (j : Int) := by omega
            have i1 : (j : Int) < (ops.length : Int) := by omega
            have i2 : (j : Int) ≤ 200 := by omega
            go_upto_region 7 with (first
                | (refine wpList_load_mid rfl _ _ rfl ab (ao + j * 18) rfl k _ HR.out Tryz.underlying70 rfl HNk.out ?_)
                | (refine store_last rfl _ _ _ rfl _ _ _ k.toArray rfl ?_ rfl ?_ ?_ HOC.out ?_; (focus (simp; done)); exact HNk2.out; exact HSZ.out.symm))
            have HL := Lib.hid (heap_alloc_new wr (.cells k.toArray 70))
            have HBA := Lib.hid (hBr.alloc (show w.heap.size + 1 ≤ wr.heap.size by have := hBr.size; simp at this; omega) (.cells k.toArray 70))
            have hA0 : Below w.heap.size w (wr.alloc (.cells k.toArray 70)) := HBw.out.alloc HBw.out.size _
            have HA0 := Lib.hid hA0
            clear hA0
            generalize hV : wr.alloc (.cells k.toArray 70) = V at *
            clear hV
            have e7c : V.cell? ⟨wr.heap.size, 7, none⟩ = some (.string o.name) := by rw [cell_of_row _ _ _ _ _ _ HL.out, List.getElem?_toArray]; exact HX7.out
            have e16c : V.cell? ⟨wr.heap.size, 16, none⟩ = some (.string o.text) := by rw [cell_of_row _ _ _ _ _ _ HL.out, List.getElem?_toArray]; exact HX16.out
            have e17c : V.cell? ⟨wr.heap.size, 17, none⟩ = some (.slice x.eA o.elems.length x.ec) := by rw [cell_of_row _ _ _ _ _ _ HL.out, List.getElem?_toArray]; exact HX17.out
            cases hf : fewO o with
            | false =>
              obtain rfl : ans = false := by rw [HA2.out, allIx_false (i := j) (by omega) (by rw [← ho]; exact hf)]
              clear hc hX1 hX2 hIn ho hx
              simp only [fewO, Bool.not_eq_false', Bool.or_eq_true, Bool.and_eq_true, decide_eq_true_eq] at hf
              have HFF := Lib.hid hf
              clear hf
              go_wp2
              all_goals first
                | (go_ret; exact ⟨rfl, HA0.out⟩)
                | (exfalso; have := HFF.out; omega)
            | true =>
              have HK2 := Lib.hid (show ∀ i, i < j + 1 → fewO (ops.getD i (opO 0 .zero)) = true from fun i hi => if h : i < j then HK.out i h else (by (obtain rfl : i = j := (by omega)); rw [← ho]; exact hf))
              clear hc hX1 hX2 hIn ho hx
              simp only [fewO, Bool.not_eq_true', Bool.or_eq_false_iff, Bool.and_eq_false_iff, decide_eq_false_iff_not] at hf
              have g1 : ¬ (3000 : Int) < (o.text.size : Int) := by have := hf.1.1; omega
              have g2 : ¬ (1000 : Int) < (o.name.size : Int) := by have := hf.2; omega
              have HFF := Lib.hid hf.1.2
              clear hf
              go_wp2
              all_goals first
                | (exfalso; have := HFF.out; omega)
                | (go_roundw; (case rel => exact ⟨j + 1, by omega, by omega, by go_num, HBA.out, HK2⟩); (case measure => (simp [RowKit.intOf]; omega)))
          · exfalso; omega
        · obtain rfl : j = ops.length := by omega
          obtain rfl : ans = true := by rw [HA2.out]; exact allIx_true fun i hi => HK.out i (by omega)
          go_wp2
          go_ret
          exact ⟨rfl, HBw.out⟩
    · have e5 : decide (60 < ops.length) = true := by rw [decide_eq_true_eq]; omega
      have e6 : 60 < (ops.length : Int) := by omega
      have e10 : decide (ops.length ≤ 200) = false := by rw [decide_eq_false_iff_not]; omega
      have e11 : ¬ (ops.length : Int) ≤ 200 := by omega
      clear hm
      go_enter Tryz.func14, Tryz.ntmps14
      go_upto_region 4 with (fail)
      go_loopw [3] (fun i wr => ∃ j : Nat, j ≤ ops.length ∧ j ≤ 201 ∧ i = .int .i64 j ∧ Below (w.heap.size + 1) (w.alloc (.cells #[.int .i64 t, .int .i64 r, .int .i64 n, .slice dA v.length dc, .int .i64 ut, .int .i64 ur, .slice oA ops.length oc] 40)) wr ∧ Hid (∀ i, i < j → fewO (ops.getD i (opO 0 .zero)) = true)) (fun i _ => ops.length - (RowKit.intOf i).toNat)
      case atStart => exact ⟨0, by omega, by omega, rfl, Below.refl _ _, Lib.hid (fun i hi => absurd hi (by omega))⟩
      case round =>
        obtain ⟨j, hj, hj2, rfl, hBr, HK⟩ := hrel
        have hsz := hBr.size
        have HC2 := Lib.hid ((hBr.block w.heap.size (by omega)).trans HC.out)
        have f6 : wr.cell? ⟨w.heap.size, 6, none⟩ = some (.slice oA ops.length oc) := by rw [cell_of_row _ _ _ _ _ _ HC2.out]; rfl
        have HBw := Lib.hid (HB.out.trans (hBr.mono (Nat.le_succ _)))
        by_cases hlt : j < ops.length
        · by_cases h200 : j ≤ 200
          · obtain ⟨X, hX1, hX2⟩ := OpsS.agr HI.out (Agr.below HBw.out)
            obtain ⟨ab, ao, rfl, -, hab, hc⟩ := hX1 j hlt
            have hIn := hX2 j hlt
            obtain ⟨o, ho⟩ : ∃ o, o = ops.getD j (opO 0 .zero) := ⟨_, rfl⟩
            obtain ⟨x, hx⟩ : ∃ x, x = X j := ⟨_, rfl⟩
            simp only [← ho, ← hx] at hc hIn
            have hel : o.elems.length ≤ 9223372036854775807 := by have := hIn.ele; have := hIn.emax; unfold maxLen at this; omega
            have htl : o.text.size ≤ 9223372036854775807 := by have := hIn.text; unfold maxLen at this; omega
            have hnl : o.name.size ≤ 9223372036854775807 := by have := hIn.name; unfold maxLen at this; omega
            have hr := op_range hc
            have hlk : (opL o x).length = 18 := rfl
            have hn : (Tryz.prog.info? 70).map (·.size) = some (opL o x).length := by rw [hlk]; kernel_rfl
            have hx7 : (opL o x)[7]? = some (.string o.name) := rfl
            have hx16 : (opL o x)[16]? = some (.string o.text) := rfl
            have hx17 : (opL o x)[17]? = some (.slice x.eA o.elems.length x.ec) := rfl
            have hoc := oc_of' (o := o) (x := x)
            generalize opL o x = k at *
            have HR := Lib.hid hr
            have HNk := Lib.hid hn
            have HX7 := Lib.hid hx7
            have HX16 := Lib.hid hx16
            have HX17 := Lib.hid hx17
            have HOC := Lib.hid hoc
            have HNk2 := Lib.hid (show (Tryz.prog.info? 70).map (·.size) = some k.toArray.size from by rw [List.size_toArray]; exact hn)
            have HSZ := Lib.hid (show k.toArray.size = 18 from by rw [List.size_toArray]; exact hlk)
            clear hr hn hx7 hx16 hx17 hoc hlk
            have i0 : (0 : Int) ≤ (j : Int) := by omega
            have i1 : (j : Int) < (ops.length : Int) := by omega
            have i2 : (j : Int) ≤ 200 := by omega
            go_upto_region 7 with (first
                | (refine wpList_load_mid rfl _ _ rfl ab (ao + j * 18) rfl k _ HR.out Tryz.underlying70 rfl HNk.out ?_)
                | (refine store_last rfl _ _ _ rfl _ _ _ k.toArray rfl ?_ rfl ?_ ?_ HOC.out ?_; (focus (simp; done)); exact HNk2.out; exact HSZ.out.symm))
            have HL := Lib.hid (heap_alloc_new wr (.cells k.toArray 70))
            have HBA := Lib.hid (hBr.alloc (show w.heap.size + 1 ≤ wr.heap.size by have := hBr.size; simp at this; omega) (.cells k.toArray 70))
            have hA0 : Below w.heap.size w (wr.alloc (.cells k.toArray 70)) := HBw.out.alloc HBw.out.size _
            have HA0 := Lib.hid hA0
            clear hA0
            generalize hV : wr.alloc (.cells k.toArray 70) = V at *
            clear hV
            have e7c : V.cell? ⟨wr.heap.size, 7, none⟩ = some (.string o.name) := by rw [cell_of_row _ _ _ _ _ _ HL.out, List.getElem?_toArray]; exact HX7.out
            have e16c : V.cell? ⟨wr.heap.size, 16, none⟩ = some (.string o.text) := by rw [cell_of_row _ _ _ _ _ _ HL.out, List.getElem?_toArray]; exact HX16.out
            have e17c : V.cell? ⟨wr.heap.size, 17, none⟩ = some (.slice x.eA o.elems.length x.ec) := by rw [cell_of_row _ _ _ _ _ _ HL.out, List.getElem?_toArray]; exact HX17.out
            cases hf : fewO o with
            | false =>
              obtain rfl : ans = false := by rw [HA2.out, allIx_false (i := j) (by omega) (by rw [← ho]; exact hf)]
              clear hc hX1 hX2 hIn ho hx
              simp only [fewO, Bool.not_eq_false', Bool.or_eq_true, Bool.and_eq_true, decide_eq_true_eq] at hf
              have HFF := Lib.hid hf
              clear hf
              go_wp2
              all_goals first
                | (go_ret; exact ⟨rfl, HA0.out⟩)
                | (exfalso; have := HFF.out; omega)
            | true =>
              have HK2 := Lib.hid (show ∀ i, i < j + 1 → fewO (ops.getD i (opO 0 .zero)) = true from fun i hi => if h : i < j then HK.out i h else (by (obtain rfl : i = j := (by omega)); rw [← ho]; exact hf))
              clear hc hX1 hX2 hIn ho hx
              simp only [fewO, Bool.not_eq_true', Bool.or_eq_false_iff, Bool.and_eq_false_iff, decide_eq_false_iff_not] at hf
              have g1 : ¬ (3000 : Int) < (o.text.size : Int) := by have := hf.1.1; omega
              have g2 : ¬ (1000 : Int) < (o.name.size : Int) := by have := hf.2; omega
              have HFF := Lib.hid hf.1.2
              clear hf
              go_wp2
              all_goals first
                | (exfalso; have := HFF.out; omega)
                | (go_roundw; (case rel => exact ⟨j + 1, by omega, by omega, by go_num, HBA.out, HK2⟩); (case measure => (simp [RowKit.intOf]; omega)))
          · obtain rfl : ans = true := by rw [HA2.out]; exact allIx_true fun i hi => HK.out i (by omega)
            have e12 : decide ((j : Int) ≤ 200) = false := by rw [decide_eq_false_iff_not]; omega
            have e13 : (200 : Int) < (j : Int) := by omega
            go_wp2
            go_ret
            exact ⟨rfl, HBw.out⟩
        · obtain rfl : j = ops.length := by omega
          obtain rfl : ans = true := by rw [HA2.out]; exact allIx_true fun i hi => HK.out i (by omega)
          go_wp2
          go_ret
          exact ⟨rfl, HBw.out⟩
end Go.Proofs.YtalgbcgiiphoaaaGreatDoor
end
section
namespace Go.Proofs.YtalgbcgiiphoaaaGreatDoor
open Go.Lib
set_option linter.unusedVariables false
theorem opZ_few {o : Gop} (h : okO o) (hs : Sho o) (ht : o.text.size ≤ 3000) (he : o.elems.length ≤ 100) : (opZ o).length ≤ 8000 := by
  obtain ⟨kind, node, parent, name, dir, dots, after, elem, text, elems⟩ := o
  obtain ⟨h0, h4, hb, h1, h2, h3, h5, h6, h7, h8, h9⟩ := h
  obtain ⟨s1, s2, s3⟩ := hs
  simp only at h0 h4 h1 h2 h3 h5 h6 h7 h8 h9 s1 s2 s3 ht he
  have e1 : (natZ kind).length ≤ 10 := natZ_le (by omega)
  have e2 := idZ_le h1
  have e3 := idZ_le h2
  have e4 := bytesZ_le h3
  have e5 := idZ_le h6
  have e6 := idZ_le h7
  have e7 := bytesZ_le h8
  have e8 := flat_le (z := stZ) (l := dots) fun x hx => stZ_le (h5.2 x hx)
  have e9 := flat_le (z := idZ) (l := elems) fun x hx => idZ_le (h9.2 x hx)
  have e10 : (natZ dots.length).length ≤ 10 := natZ_le (by omega)
  have e11 : (natZ elems.length).length ≤ 10 := natZ_le (by omega)
  have e12 : (natZ (if dir then 1 else 0)).length ≤ 10 := natZ_le (by split <;> omega)
  unfold opZ
  simp only
  split
  · simp only [List.length_append]; omega
  · split
    · simp only [List.length_append]; omega
    · split
      · simp only [List.length_append]; omega
      · split
        · simp only [List.length_append]; omega
        · simp only [List.length_append]; omega
theorem few_elems {g : Grp} (h : fewG g = true) (hc : chkB g = true) : ∀ o ∈ g.ops, o.elems.length ≤ 100 := by
  obtain ⟨s1, s2, s3⟩ := chk_sho hc
  simp only [fewG, Bool.and_eq_true, Bool.not_eq_true', Bool.or_eq_false_iff, Bool.and_eq_false_iff, decide_eq_false_iff_not] at h
  intro o ho
  have hs := s3 o ho
  obtain ⟨k, hk, e⟩ := getD_of_mem (z := opO 0 .zero) ho
  have := allIx_of h.2 k (by omega)
  rw [e] at this
  simp only [fewO, Bool.not_eq_true', Bool.or_eq_false_iff, Bool.and_eq_false_iff, decide_eq_false_iff_not] at this
  have := hs.elems
  omega
theorem grpZ_few {g : Grp} (hf : fitG g) (hw : fewG g = true) (h : chkB g = true) : (grpZ g).length ≤ 999000 := by
  obtain ⟨h1, h2, h3, h4, h5⟩ := chk_ok hf h
  obtain ⟨s1, s2, s3⟩ := chk_sho h
  obtain ⟨t1, t2⟩ := fewG_text hw s1
  have t3 := few_elems hw h
  have e1 := natZ_le h1.1.2
  have e2 := natZ_le h1.2.2
  have e3 := natZ_le h2.2
  have e4 := natZ_le h4.1.2
  have e5 := natZ_le h4.2.2
  have e6 : (natZ g.ops.length).length ≤ 10 := natZ_le (by omega)
  have e7 : (natZ g.deps.length).length ≤ 10 := natZ_le (by omega)
  have e8 := flat_le (z := natZ) (l := g.deps) fun x hx => natZ_le (h3.2 x hx).2
  have e9 := flat_le (z := opZ) (l := g.ops) fun o ho => opZ_few (h5.2 o ho) (s3 o ho) (t2 o ho).1 (t3 o ho)
  unfold grpZ numsZ
  simp only [List.length_append]
  omega
theorem few_text {g : Grp} (hw : fewG g = true) : g.ops.length ≤ 200 → ∀ o ∈ g.ops, o.text.size ≤ 1000000 := fun h o ho => by
  have := ((fewG_text hw h).2 o ho).1; omega
end Go.Proofs.YtalgbcgiiphoaaaGreatDoor
end
