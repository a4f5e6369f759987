/- Whether a group is one that is looked at. Conditions: lengths in reach. -/
import Derived.Test.YtooaodgamakoeaaDoorRep
import Derived.Test.YtooaodgamakoeaaDoorBig
import Derived.Test.YtooaodgamakoeaaDoorPlainC
import Derived.Test.YtooaodgamakoeaaDoorMid
namespace Go.Proofs.YtooaodgamakoeaaDoor
open Go.RowKit Go.Lib Go.Sort
set_option linter.unusedVariables false
attribute [local go_sem ↓] Go.wp_at_zero Go.wp_at_succ
/-- an operation that is looked at -/
def fewO (o : Gop) : Bool := !(decide (3000 < o.text.size) || (decide (100 < o.elems.length) && decide (o.elems.length ≤ 2000)) || decide (1000 < o.name.size))
def fewG (g : Grp) : Bool := !((decide (60 < g.ops.length) && decide (g.ops.length ≤ 200)) || decide (60 < g.deps.length)) && allIx (min g.ops.length 201) (fun i => fewO (g.ops.getD i (opO 0 .zero)))
theorem fewG_text {g : Grp} (h : fewG g = true) (hl : g.ops.length ≤ 200) : g.ops.length ≤ 60 ∧ ∀ o ∈ g.ops, o.text.size ≤ 3000 ∧ o.name.size ≤ 1000 := by
  simp only [fewG, Bool.and_eq_true, Bool.not_eq_true', Bool.or_eq_false_iff, Bool.and_eq_false_iff, decide_eq_false_iff_not] at h
  refine ⟨by rcases h.1.1 with h1 | h1 <;> omega, fun o ho => ?_⟩
  obtain ⟨k, hk, e⟩ := getD_of_mem (z := opO 0 .zero) ho
  have := allIx_of h.2 k (by omega)
  rw [e] at this
  simp only [fewO, Bool.not_eq_true', Bool.or_eq_false_iff, decide_eq_false_iff_not] at this
  omega
theorem oc_of' {o : Gop} {x : OpX} : (opL o x).toArray.toList.all (·.oneCell') = true := rfl
set_option maxRecDepth 100000 in
set_option maxHeartbeats 8000000 in
theorem few_any (g : Grp) (dA oA : Option Addr) (dc oc : Nat) (S : Nat → Prop) (w : World) (hI : GrIn w S g dA dc oA oc) :
    Calls Tryd.prog 18 #[.agg (grA g dA dc oA oc)] w fun e w' => e = .returned (.bool (fewG g)) ∧ Below w.heap.size w w' := by
  obtain ⟨ans, hans⟩ : ∃ r, r = fewG g := ⟨_, rfl⟩
  rw [← hans]
  obtain ⟨⟨t, r⟩, n, v, ⟨ut, ur⟩, ops⟩ := g
  have hv1 : v.length ≤ 9223372036854775807 := by have := hI.dle; have := hI.dmax; unfold maxLen at this; simp only at *; omega
  have ho1 : ops.length ≤ 9223372036854775807 := by have := hI.ole; have := hI.omax; unfold maxLen at this; simp only at *; omega
  have HI := Lib.hid hI.ops
  have HANS := Lib.hid hans
  clear hI hans
  show Calls _ _ #[.agg #[.int .i64 t, .int .i64 r, .int .i64 n, .slice dA v.length dc, .int .i64 ut, .int .i64 ur, .slice oA ops.length oc]] _ _
  have HB := Lib.hid (show Below w.heap.size w (w.alloc (.cells #[.int .i64 t, .int .i64 r, .int .i64 n, .slice dA v.length dc, .int .i64 ut, .int .i64 ur, .slice oA ops.length oc] 34)) from (Below.refl _ _).alloc (Nat.le_refl _) _)
  have HC := Lib.hid (heap_alloc_new w (.cells #[.int .i64 t, .int .i64 r, .int .i64 n, .slice dA v.length dc, .int .i64 ut, .int .i64 ur, .slice oA ops.length oc] 34))
  by_cases c1 : (60 < ops.length ∧ ops.length ≤ 200) ∨ 60 < v.length
  · obtain rfl : ans = false := by
      rw [HANS.out]; unfold fewG
      rcases c1 with ⟨c1, c2⟩ | c1
      · simp [c1, c2]
      · simp [c1]
    by_cases c2 : 60 < ops.length
    · by_cases c3 : ops.length ≤ 200
      · have e1 : decide (60 < (ops.length : Int)) = true := by rw [decide_eq_true_eq]; omega
        have e2 : decide ((ops.length : Int) ≤ 200) = true := by rw [decide_eq_true_eq]; omega
        have e3 : (60 : Int) < (ops.length : Int) := by omega
        clear c1
        go_enter Tryd.func18, Tryd.ntmps18
        go_wp2
        go_ret
        exact ⟨rfl, HB.out⟩
      · have c4 : 60 < v.length := by omega
        clear c1
        go_enter Tryd.func18, Tryd.ntmps18
        go_wp2
        all_goals
          go_ret
          exact ⟨rfl, HB.out⟩
    · have c4 : 60 < v.length := by omega
      clear c1
      go_enter Tryd.func18, Tryd.ntmps18
      go_wp2
      all_goals
        go_ret
        exact ⟨rfl, HB.out⟩
  · have HA2 := Lib.hid (show ans = allIx (min ops.length 201) (fun i => fewO (ops.getD i (opO 0 .zero))) by
      rw [HANS.out]; unfold fewG
      have h1 : ((decide (60 < ops.length) && decide (ops.length ≤ 200)) || decide (60 < v.length)) = false := by
        simp only [Bool.or_eq_false_iff, Bool.and_eq_false_iff, decide_eq_false_iff_not]; omega
      simp only [h1, Bool.not_false, Bool.true_and])
    have hvl : v.length ≤ 60 := by omega
    have hol : ops.length ≤ 60 ∨ 200 < ops.length := by omega
    clear c1
    obtain ⟨m, hm⟩ : ∃ m, m = ops.length := ⟨_, rfl⟩
    have HM := Lib.hid hm
    have e7 : decide (60 < v.length) = false := by rw [decide_eq_false_iff_not]; omega
    have e8 : ¬ 60 < (v.length : Int) := by omega
    rcases hol with hol | hol
    · have e5 : decide (60 < ops.length) = false := by rw [decide_eq_false_iff_not]; omega
      have e6 : ¬ 60 < (ops.length : Int) := by omega
      clear hm
      go_enter Tryd.func18, Tryd.ntmps18
      go_upto_region 4 with (fail)
      go_loopw [3] (fun i wr => ∃ j : Nat, j ≤ ops.length ∧ j ≤ 201 ∧ i = .int .i64 j ∧ Below (w.heap.size + 1) (w.alloc (.cells #[.int .i64 t, .int .i64 r, .int .i64 n, .slice dA v.length dc, .int .i64 ut, .int .i64 ur, .slice oA ops.length oc] 34)) wr ∧ Hid (∀ i, i < j → fewO (ops.getD i (opO 0 .zero)) = true)) (fun i _ => ops.length - (RowKit.intOf i).toNat)
      case atStart => exact ⟨0, by omega, by omega, rfl, Below.refl _ _, Lib.hid (fun i hi => absurd hi (by omega))⟩
      case round =>
        obtain ⟨j, hj, hj2, rfl, hBr, HK⟩ := hrel
        have hsz := hBr.size
        have HC2 := Lib.hid ((hBr.block w.heap.size (by omega)).trans HC.out)
        have f6 : wr.cell? ⟨w.heap.size, 6, none⟩ = some (.slice oA ops.length oc) := by rw [cell_of_row _ _ _ _ _ _ HC2.out]; rfl
        have HBw := Lib.hid (HB.out.trans (hBr.mono (Nat.le_succ _)))
        by_cases hlt : j < ops.length
        · by_cases h200 : j ≤ 200
          · obtain ⟨X, hX1, hX2⟩ := OpsS.agr HI.out (Agr.below HBw.out)
            obtain ⟨ab, ao, rfl, -, hab, hc⟩ := hX1 j hlt
            have hIn := hX2 j hlt
            obtain ⟨o, ho⟩ : ∃ o, o = ops.getD j (opO 0 .zero) := ⟨_, rfl⟩
            obtain ⟨x, hx⟩ : ∃ x, x = X j := ⟨_, rfl⟩
            simp only [← ho, ← hx] at hc hIn
            have hel : o.elems.length ≤ 9223372036854775807 := by have := hIn.ele; have := hIn.emax; unfold maxLen at this; omega
            have htl : o.text.size ≤ 9223372036854775807 := by have := hIn.text; unfold maxLen at this; omega
            have hnl : o.name.size ≤ 9223372036854775807 := by have := hIn.name; unfold maxLen at this; omega
            have hr := op_range hc
            have hlk : (opL o x).length = 18 := rfl
            have hn : (Tryd.prog.info? 31).map (·.size) = some (opL o x).length := by rw [hlk]; kernel_rfl
            have hx7 : (opL o x)[7]? = some (.string o.name) := rfl
            have hx16 : (opL o x)[16]? = some (.string o.text) := rfl
            have hx17 : (opL o x)[17]? = some (.slice x.eA o.elems.length x.ec) := rfl
            have hoc := oc_of' (o := o) (x := x)
            generalize opL o x = k at *
            have HR := Lib.hid hr
            have HNk := Lib.hid hn
            have HX7 := Lib.hid hx7
            have HX16 := Lib.hid hx16
            have HX17 := Lib.hid hx17
            have HOC := Lib.hid hoc
            have HNk2 := Lib.hid (show (Tryd.prog.info? 31).map (·.size) = some k.toArray.size from by rw [List.size_toArray]; exact hn)
            have HSZ := Lib.hid (show k.toArray.size = 18 from by rw [List.size_toArray]; exact hlk)
            clear hr hn hx7 hx16 hx17 hoc hlk
            have i0 : (0 : Int) ≤ (j : Int) := by omega
            have i1 : (j : Int) < (ops.length : Int) := by omega
            have i2 : (j : Int) ≤ 200 := by omega
            go_upto_region 7 with (first
                | (refine wpList_load_mid rfl _ _ rfl ab (ao + j * 18) rfl k _ HR.out Tryd.underlying31 rfl HNk.out ?_)
                | (refine store_last rfl _ _ _ rfl _ _ _ k.toArray rfl ?_ rfl ?_ ?_ HOC.out ?_; (focus (simp; done)); exact HNk2.out; exact HSZ.out.symm))
            have HL := Lib.hid (heap_alloc_new wr (.cells k.toArray 31))
            have HBA := Lib.hid (hBr.alloc (show w.heap.size + 1 ≤ wr.heap.size by have := hBr.size; simp at this; omega) (.cells k.toArray 31))
            have hA0 : Below w.heap.size w (wr.alloc (.cells k.toArray 31)) := HBw.out.alloc HBw.out.size _
            have HA0 := Lib.hid hA0
            clear hA0
            generalize hV : wr.alloc (.cells k.toArray 31) = V at *
            clear hV
            have e7c : V.cell? ⟨wr.heap.size, 7, none⟩ = some (.string o.name) := by rw [cell_of_row _ _ _ _ _ _ HL.out, List.getElem?_toArray]; exact HX7.out
            have e16c : V.cell? ⟨wr.heap.size, 16, none⟩ = some (.string o.text) := by rw [cell_of_row _ _ _ _ _ _ HL.out, List.getElem?_toArray]; exact HX16.out
            have e17c : V.cell? ⟨wr.heap.size, 17, none⟩ = some (.slice x.eA o.elems.length x.ec) := by rw [cell_of_row _ _ _ _ _ _ HL.out, List.getElem?_toArray]; exact HX17.out
            cases hf : fewO o with
            | false =>
              obtain rfl : ans = false := by rw [HA2.out, allIx_false (i := j) (by omega) (by rw [← ho]; exact hf)]
              clear hc hX1 hX2 hIn ho hx
              simp only [fewO, Bool.not_eq_false', Bool.or_eq_true, Bool.and_eq_true, decide_eq_true_eq] at hf
              have HFF := Lib.hid hf
              clear hf
              go_wp2
              all_goals first
                | (go_ret; exact ⟨rfl, HA0.out⟩)
                | (exfalso; have := HFF.out; omega)
            | true =>
              have HK2 := Lib.hid (show ∀ i, i < j + 1 → fewO (ops.getD i (opO 0 .zero)) = true from fun i hi => if h : i < j then HK.out i h else (by (obtain rfl : i = j := (by omega)); rw [← ho]; exact hf))
              clear hc hX1 hX2 hIn ho hx
              simp only [fewO, Bool.not_eq_true', Bool.or_eq_false_iff, Bool.and_eq_false_iff, decide_eq_false_iff_not] at hf
              have g1 : ¬ (3000 : Int) < (o.text.size : Int) := by have := hf.1.1; omega
              have g2 : ¬ (1000 : Int) < (o.name.size : Int) := by have := hf.2; omega
              have HFF := Lib.hid hf.1.2
              clear hf
              go_wp2
              all_goals first
                | (exfalso; have := HFF.out; omega)
                | (go_roundw; (case rel => exact ⟨j + 1, by omega, by omega, by go_num, HBA.out, HK2⟩); (case measure => (simp [RowKit.intOf]; omega)))
          · exfalso; omega
        · obtain rfl : j = ops.length := by omega
          obtain rfl : ans = true := by rw [HA2.out]; exact allIx_true fun i hi => HK.out i (by omega)
          go_wp2
          go_ret
          exact ⟨rfl, HBw.out⟩
    · have e5 : decide (60 < ops.length) = true := by rw [decide_eq_true_eq]; omega
      have e6 : 60 < (ops.length : Int) := by omega
      have e10 : decide (ops.length ≤ 200) = false := by rw [decide_eq_false_iff_not]; omega
      have e11 : ¬ (ops.length : Int) ≤ 200 := by omega
      clear hm
      go_enter Tryd.func18, Tryd.ntmps18
      go_upto_region 4 with (fail)
      go_loopw [3] (fun i wr => ∃ j : Nat, j ≤ ops.length ∧ j ≤ 201 ∧ i = .int .i64 j ∧ Below (w.heap.size + 1) (w.alloc (.cells #[.int .i64 t, .int .i64 r, .int .i64 n, .slice dA v.length dc, .int .i64 ut, .int .i64 ur, .slice oA ops.length oc] 34)) wr ∧ Hid (∀ i, i < j → fewO (ops.getD i (opO 0 .zero)) = true)) (fun i _ => ops.length - (RowKit.intOf i).toNat)
      case atStart => exact ⟨0, by omega, by omega, rfl, Below.refl _ _, Lib.hid (fun i hi => absurd hi (by omega))⟩
      case round =>
        obtain ⟨j, hj, hj2, rfl, hBr, HK⟩ := hrel
        have hsz := hBr.size
        have HC2 := Lib.hid ((hBr.block w.heap.size (by omega)).trans HC.out)
        have f6 : wr.cell? ⟨w.heap.size, 6, none⟩ = some (.slice oA ops.length oc) := by rw [cell_of_row _ _ _ _ _ _ HC2.out]; rfl
        have HBw := Lib.hid (HB.out.trans (hBr.mono (Nat.le_succ _)))
        by_cases hlt : j < ops.length
        · by_cases h200 : j ≤ 200
          · obtain ⟨X, hX1, hX2⟩ := OpsS.agr HI.out (Agr.below HBw.out)
            obtain ⟨ab, ao, rfl, -, hab, hc⟩ := hX1 j hlt
            have hIn := hX2 j hlt
            obtain ⟨o, ho⟩ : ∃ o, o = ops.getD j (opO 0 .zero) := ⟨_, rfl⟩
            obtain ⟨x, hx⟩ : ∃ x, x = X j := ⟨_, rfl⟩
            simp only [← ho, ← hx] at hc hIn
            have hel : o.elems.length ≤ 9223372036854775807 := by have := hIn.ele; have := hIn.emax; unfold maxLen at this; omega
            have htl : o.text.size ≤ 9223372036854775807 := by have := hIn.text; unfold maxLen at this; omega
            have hnl : o.name.size ≤ 9223372036854775807 := by have := hIn.name; unfold maxLen at this; omega
            have hr := op_range hc
            have hlk : (opL o x).length = 18 := rfl
            have hn : (Tryd.prog.info? 31).map (·.size) = some (opL o x).length := by rw [hlk]; kernel_rfl
            have hx7 : (opL o x)[7]? = some (.string o.name) := rfl
            have hx16 : (opL o x)[16]? = some (.string o.text) := rfl
            have hx17 : (opL o x)[17]? = some (.slice x.eA o.elems.length x.ec) := rfl
            have hoc := oc_of' (o := o) (x := x)
            generalize opL o x = k at *
            have HR := Lib.hid hr
            have HNk := Lib.hid hn
            have HX7 := Lib.hid hx7
            have HX16 := Lib.hid hx16
            have HX17 := Lib.hid hx17
            have HOC := Lib.hid hoc
            have HNk2 := Lib.hid (show (Tryd.prog.info? 31).map (·.size) = some k.toArray.size from by rw [List.size_toArray]; exact hn)
            have HSZ := Lib.hid (show k.toArray.size = 18 from by rw [List.size_toArray]; exact hlk)
            clear hr hn hx7 hx16 hx17 hoc hlk
            have i0 : (0 : Int) ≤ (j : Int) := by omega
            have i1 : (j : Int) < (ops.length : Int) := by omega
            have i2 : (j : Int) ≤ 200 := by omega
            go_upto_region 7 with (first
                | (refine wpList_load_mid rfl _ _ rfl ab (ao + j * 18) rfl k _ HR.out Tryd.underlying31 rfl HNk.out ?_)
                | (refine store_last rfl _ _ _ rfl _ _ _ k.toArray rfl ?_ rfl ?_ ?_ HOC.out ?_; (focus (simp; done)); exact HNk2.out; exact HSZ.out.symm))
            have HL := Lib.hid (heap_alloc_new wr (.cells k.toArray 31))
            have HBA := Lib.hid (hBr.alloc (show w.heap.size + 1 ≤ wr.heap.size by have := hBr.size; simp at this; omega) (.cells k.toArray 31))
            have hA0 : Below w.heap.size w (wr.alloc (.cells k.toArray 31)) := HBw.out.alloc HBw.out.size _
            have HA0 := Lib.hid hA0
            clear hA0
            generalize hV : wr.alloc (.cells k.toArray 31) = V at *
            clear hV
            have e7c : V.cell? ⟨wr.heap.size, 7, none⟩ = some (.string o.name) := by rw [cell_of_row _ _ _ _ _ _ HL.out, List.getElem?_toArray]; exact HX7.out
            have e16c : V.cell? ⟨wr.heap.size, 16, none⟩ = some (.string o.text) := by rw [cell_of_row _ _ _ _ _ _ HL.out, List.getElem?_toArray]; exact HX16.out
            have e17c : V.cell? ⟨wr.heap.size, 17, none⟩ = some (.slice x.eA o.elems.length x.ec) := by rw [cell_of_row _ _ _ _ _ _ HL.out, List.getElem?_toArray]; exact HX17.out
            cases hf : fewO o with
            | false =>
              obtain rfl : ans = false := by rw [HA2.out, allIx_false (i := j) (by omega) (by rw [← ho]; exact hf)]
              clear hc hX1 hX2 hIn ho hx
              simp only [fewO, Bool.not_eq_false', Bool.or_eq_true, Bool.and_eq_true, decide_eq_true_eq] at hf
              have HFF := Lib.hid hf
              clear hf
              go_wp2
              all_goals first
                | (go_ret; exact ⟨rfl, HA0.out⟩)
                | (exfalso; have := HFF.out; omega)
            | true =>
              have HK2 := Lib.hid (show ∀ i, i < j + 1 → fewO (ops.getD i (opO 0 .zero)) = true from fun i hi => if h : i < j then HK.out i h else (by (obtain rfl : i = j := (by omega)); rw [← ho]; exact hf))
              clear hc hX1 hX2 hIn ho hx
              simp only [fewO, Bool.not_eq_true', Bool.or_eq_false_iff, Bool.and_eq_false_iff, decide_eq_false_iff_not] at hf
              have g1 : ¬ (3000 : Int) < (o.text.size : Int) := by have := hf.1.1; omega
              have g2 : ¬ (1000 : Int) < (o.name.size : Int) := by have := hf.2; omega
              have HFF := Lib.hid hf.1.2
              clear hf
              go_wp2
              all_goals first
                | (exfalso; have := HFF.out; omega)
                | (go_roundw; (case rel => exact ⟨j + 1, by omega, by omega, by go_num, HBA.out, HK2⟩); (case measure => (simp [RowKit.intOf]; omega)))
          · obtain rfl : ans = true := by rw [HA2.out]; exact allIx_true fun i hi => HK.out i (by omega)
            have e12 : decide ((j : Int) ≤ 200) = false := by rw [decide_eq_false_iff_not]; omega
            have e13 : (200 : Int) < (j : Int) := by omega
            go_wp2
            go_ret
            exact ⟨rfl, HBw.out⟩
        · obtain rfl : j = ops.length := by omega
          obtain rfl : ans = true := by rw [HA2.out]; exact allIx_true fun i hi => HK.out i (by omega)
          go_wp2
          go_ret
          exact ⟨rfl, HBw.out⟩
end Go.Proofs.YtooaodgamakoeaaDoor
