/- Whether a list of groups is one that is looked at. Conditions: lengths in reach. -/
import Derived.Test.YtalgbcgiiphoaaaGreatDoorFA
import Derived.Test.YtalgbcgiiphoaaaGreatDoorBxCl
import Derived.Test.YtalgbcgiiphoaaaGreatDoorOpg
namespace Go.Proofs.YtalgbcgiiphoaaaGreatDoor
open Go.RowKit Go.Lib Go.Sort
set_option linter.unusedVariables false
attribute [local go_sem ↓] Go.wp_at_zero Go.wp_at_succ
def few1 (g : Grp) : Bool := fewG g && decide (g.ops.length ≤ 8)
def fewL (l : List Grp) : Bool := allIx (min l.length 21) (fun i => few1 (l.getD i gz)) && decide (l.length ≤ 20)
theorem fewL_of {l : List Grp} (h : fewL l = true) : l.length ≤ 20 ∧ ∀ g ∈ l, fewG g = true ∧ g.ops.length ≤ 8 := by
  simp only [fewL, Bool.and_eq_true, decide_eq_true_eq] at h
  refine ⟨h.2, fun g hg => ?_⟩
  obtain ⟨k, hk, e⟩ := getD_of_mem (z := gz) hg
  have := allIx_of h.1 k (by omega)
  rw [e] at this
  simpa [few1] using this
theorem grL_len (g : Grp) (x : GrX) : (grL g x).length = 7 := rfl
theorem getD_fst' (L : List (Grp × GrX)) (k : Nat) : (L.getD k gp0).1 = (L.map Prod.fst).getD k gz := by
  rw [List.getD_eq_getElem?_getD, List.getD_eq_getElem?_getD, List.getElem?_map]
  cases L[k]? <;> rfl
set_option maxRecDepth 100000 in
set_option maxHeartbeats 8000000 in
theorem few21_any (L : List (Grp × GrX)) (A : Option Addr) (c : Nat) (w : World) (hc : L.length ≤ c) (hm : c ≤ maxLen) (hG : GrsS w (Here w) A L) :
    Calls Tryz.prog 11 #[.slice A L.length c] w fun e w' => e = .returned (.bool (fewL (L.map Prod.fst))) ∧ Below w.heap.size w w' := by
  obtain ⟨ans, hans⟩ : ∃ b, b = fewL (L.map Prod.fst) := ⟨_, rfl⟩
  rw [← hans]
  have HANS := Lib.hid hans
  have HG := Lib.hid hG
  have hL : L.length ≤ 9223372036854775807 := by unfold maxLen at hm; omega
  clear hans hG
  go_enter Tryz.func11, Tryz.ntmps11
  go_upto_region 2 with (fail)
  go_loopw [3] (fun i wr => ∃ j : Nat, j ≤ L.length ∧ j ≤ 21 ∧ i = .int .i64 j ∧ Below w.heap.size w wr ∧ Hid (∀ i, i < j → few1 ((L.map Prod.fst).getD i gz) = true)) (fun i _ => L.length - (RowKit.intOf i).toNat)
  case atStart => exact ⟨0, by omega, by omega, rfl, Below.refl _ _, Lib.hid (fun i hi => absurd hi (by omega))⟩
  case round =>
    obtain ⟨j, hj, hj2, rfl, hBr, HK⟩ := hrel
    have hsz := hBr.size
    by_cases hlt : j < L.length
    · have i0 : (0 : Int) ≤ (j : Int) := by omega
      have i1 : (j : Int) < (L.length : Int) := by omega
      by_cases h20 : j ≤ 20
      · have i2 : (j : Int) ≤ 20 := by omega
        have hGr := HG.out.agr (Agr.below hBr)
        obtain ⟨b, o, rfl, hb, hR⟩ := hGr.row.range hlt
        have hgood : GrG wr (Here w) (L.getD j gp0) := hGr.good _ (by rw [List.getD_eq_getElem?_getD, List.getElem?_eq_getElem hlt]; exact List.getElem_mem hlt)
        have hgd := getD_fst' L j
        generalize L.getD j gp0 = p at *
        obtain ⟨g, x⟩ := p
        obtain ⟨GA, hGA⟩ : ∃ l, l = grL g x := ⟨_, rfl⟩
        have HF := Lib.hid (few_any g x.dA x.oA x.dc x.oc (Here w) wr hgood)
        have hol : g.ops.length ≤ 9223372036854775807 := by have h1 : g.ops.length ≤ x.oc := hgood.ole; have h2 : x.oc ≤ maxLen := hgood.omax; unfold maxLen at h2; omega
        have e1 : grA g x.dA x.dc x.oA x.oc = GA.toArray := by rw [hGA]; rfl
        rw [e1] at HF
        rw [← hGA] at hR
        have HR := Lib.hid hR
        have HN := Lib.hid (show (Tryz.prog.info? 40).map (·.size) = some GA.length by rw [hGA]; kernel_rfl)
        have c6 : wr.cell? ⟨b, o + j * 7 + 6, none⟩ = some (.slice x.oA g.ops.length x.oc) := hR 6 _ (by rw [hGA]; rfl)
        have HGD := Lib.hid (show g = (L.map Prod.fst).getD j gz from hgd)
        clear hGr hgood hR hgd e1 hGA
        cases hf : fewG g with
        | false =>
          obtain rfl : ans = false := by
            rw [HANS.out]; unfold fewL
            rw [allIx_false (i := j) (by rw [List.length_map]; omega) (by rw [← HGD.out]; unfold few1; rw [hf]; rfl)]; rfl
          rw [hf] at HF
          clear hf
          go_wp2_with (first
            | (refine wpList_load_mid rfl _ _ rfl b (o + j * 7) rfl GA _ HR.out Tryz.underlying40 rfl HN.out ?_)
            | (go_at_call 14; refine HF.out.mono ?_; rintro e w1 ⟨rfl, hB1⟩))
          go_ret
          exact ⟨rfl, hBr.trans (hB1.mono hsz)⟩
        | true =>
          rw [hf] at HF
          by_cases h8 : g.ops.length ≤ 8
          · have HK2 := Lib.hid (show ∀ i, i < j + 1 → few1 ((L.map Prod.fst).getD i gz) = true from fun i hi => if h : i < j then HK.out i h else (by (obtain rfl : i = j := (by omega)); rw [← HGD.out]; unfold few1; rw [hf]; simpa using h8))
            have g1 : ¬ (8 : Int) < (g.ops.length : Int) := by omega
            have g2 : decide ((8 : Int) < (g.ops.length : Int)) = false := by rw [decide_eq_false_iff_not]; omega
            have g3 : decide (8 < g.ops.length) = false := by rw [decide_eq_false_iff_not]; omega
            clear hf
            go_wp2_with (first
              | (refine wpList_load_mid rfl _ _ rfl b (o + j * 7) rfl GA _ HR.out Tryz.underlying40 rfl HN.out ?_)
              | (go_at_call 14; refine HF.out.mono ?_; rintro e w1 ⟨rfl, hB1⟩; have c6' := (World.cell?_of_block (w := wr) (w' := w1) (a := ⟨b, o + j * 7 + 6, none⟩) (hB1.block b hb)).trans c6))
            go_roundw
            case rel => exact ⟨j + 1, by omega, by omega, by go_num, hBr.trans (hB1.mono hsz), HK2⟩
            case measure => (simp [RowKit.intOf]; omega)
          · obtain rfl : ans = false := by
              rw [HANS.out]; unfold fewL
              rw [allIx_false (i := j) (by rw [List.length_map]; omega) (by rw [← HGD.out]; unfold few1; rw [hf]; simpa using h8)]; rfl
            have g1 : (8 : Int) < (g.ops.length : Int) := by omega
            have g2 : decide ((8 : Int) < (g.ops.length : Int)) = true := by rw [decide_eq_true_eq]; omega
            have g3 : decide (8 < g.ops.length) = true := by rw [decide_eq_true_eq]; omega
            clear hf
            go_wp2_with (first
              | (refine wpList_load_mid rfl _ _ rfl b (o + j * 7) rfl GA _ HR.out Tryz.underlying40 rfl HN.out ?_)
              | (go_at_call 14; refine HF.out.mono ?_; rintro e w1 ⟨rfl, hB1⟩; have c6' := (World.cell?_of_block (w := wr) (w' := w1) (a := ⟨b, o + j * 7 + 6, none⟩) (hB1.block b hb)).trans c6))
            go_ret
            exact ⟨rfl, hBr.trans (hB1.mono hsz)⟩
      · obtain rfl : ans = false := by
          rw [HANS.out]; unfold fewL
          rw [show decide ((L.map Prod.fst).length ≤ 20) = false from by rw [decide_eq_false_iff_not, List.length_map]; omega, Bool.and_false]
        have i2 : ¬ (j : Int) ≤ 20 := by omega
        have i3 : ¬ (L.length : Int) ≤ 20 := by omega
        have i4 : decide ((L.length : Int) ≤ 20) = false := by rw [decide_eq_false_iff_not]; omega
        go_wp2
        go_ret
        exact ⟨rfl, hBr⟩
    · obtain rfl : j = L.length := by omega
      have i1 : ¬ (L.length : Int) < (L.length : Int) := by omega
      by_cases h20 : L.length ≤ 20
      · obtain rfl : ans = true := by
          rw [HANS.out]; unfold fewL
          rw [allIx_true (fun i hi => HK.out i (by rw [List.length_map] at hi; omega))]
          simpa using h20
        have i4 : decide ((L.length : Int) ≤ 20) = true := by rw [decide_eq_true_eq]; omega
        have i3 : (L.length : Int) ≤ 20 := by omega
        go_wp2
        go_ret
        exact ⟨rfl, hBr⟩
      · obtain rfl : ans = false := by
          rw [HANS.out]; unfold fewL
          rw [show decide ((L.map Prod.fst).length ≤ 20) = false from by rw [decide_eq_false_iff_not, List.length_map]; omega, Bool.and_false]
        have i3 : ¬ (L.length : Int) ≤ 20 := by omega
        have i4 : decide ((L.length : Int) ≤ 20) = false := by rw [decide_eq_false_iff_not]; omega
        go_wp2
        go_ret
        exact ⟨rfl, hBr⟩
end Go.Proofs.YtalgbcgiiphoaaaGreatDoor
