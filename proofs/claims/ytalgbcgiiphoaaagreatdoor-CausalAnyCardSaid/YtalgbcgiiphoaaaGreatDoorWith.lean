/- A vector with another number. Conditions: lengths in reach. -/
import Derived.Test.YtalgbcgiiphoaaaGreatDoorCov
import Derived.Test.YtalgbcgiiphoaaaGreatDoorDec
import Derived.Laws.CopyOwn
namespace Go.Proofs.YtalgbcgiiphoaaaGreatDoor
open Go.RowKit Go.Lib Go.Sort
set_option linter.unusedVariables false
attribute [local go_sem ↓] Go.wp_at_zero Go.wp_at_succ
theorem setV_len (v : List Int) (r n : Int) : (setV v r n).length = max v.length r.toNat := by unfold setV; simp
theorem vecS_plain {w : World} {S : Nat → Prop} {A : Option Addr} {xs : List Int} (h : VecS w S A xs) : VecS w S A (plainV xs) := fun k hk => by
  obtain ⟨b, o, e, hS, hb, hc⟩ := h k (Nat.lt_of_lt_of_le hk (pv_len xs))
  exact ⟨b, o, e, hS, hb, fun j hj => by rw [hc j hj]; simp only [pv_getD]⟩
theorem take_int (l : List Int) (k : Nat) (h : k < l.length) : (l.take (k + 1)).flatMap intC_ = (l.take k).flatMap intC_ ++ intC_ (l.getD k 0) := by
  rw [List.take_succ_eq_append_getElem h, List.flatMap_append]
  have : l.getD k 0 = l[k] := by rw [List.getD_eq_getElem?_getD, List.getElem?_eq_getElem h]; rfl
  rw [this]; simp
/-- what With answers -/
def WithQ (r : List Int) (w : World) (e : Ending) (w' : World) : Prop := Below w.heap.size w w' ∧ ∃ A c, e = .returned (.tuple #[.slice A r.length c, .int .i64 0]) ∧ VecS w' (fun k => w.heap.size ≤ k) A r ∧ r.length ≤ c ∧ c ≤ maxLen
set_option maxRecDepth 100000 in
set_option maxHeartbeats 8000000 in
theorem refwith_any (A : Option Addr) (c : Nat) (v : List Int) (r n : Int) (w : World) (hv : v.length ≤ 1000) (hr1 : 1 ≤ r) (hr2 : r ≤ 16) (hA : VecR w A v) :
    Calls Tryz.prog 125 #[.slice A v.length c, .int .i64 r, .int .i64 n] w fun e w' => WithQ (withV v r n) w e w' := by
  obtain ⟨xs, hxs⟩ : ∃ xs, xs = setV v r n := ⟨_, rfl⟩
  have HW := Lib.hid (show withV v r n = plainV xs by rw [hxs]; rfl)
  have hxl : xs.length = max v.length r.toNat := by rw [hxs, setV_len]
  have HXG := Lib.hid (show ∀ k : Nat, xs.getD k 0 = if (k : Int) + 1 = r then n else v.getD k 0 from fun k => by rw [hxs]; exact setV_getD v r n k hr1)
  obtain ⟨m, hm⟩ : ∃ m, m = xs.length := ⟨_, rfl⟩
  have hml : m ≤ 1000 := by omega
  have HM := Lib.hid (show m = max v.length r.toNat by rw [hm, hxl])
  have HXL := Lib.hid hm
  have HA := Lib.hid hA
  rw [HW.out]
  obtain ⟨i0, hi, hz0, hz1, hz2⟩ := info_parts infointC_
  have t1 : ¬ r < 1 := by omega
  have t2 : ¬ 16 < r := by omega
  have t3 : decide (r < 1) = false := decide_eq_false t1
  have t4 : decide (16 < r) = false := decide_eq_false t2
  clear hxs hxl hm hA
  go_enter Tryz.func125, Tryz.ntmps125
  by_cases hlt0 : (v.length : Int) < r
  all_goals
    go_wp2_with fail
    clear t3 t4
    go_loopw [8, 9] (fun o i wr => ∃ k : Nat, i = .int .i64 ((k : Int) + 1) ∧ k ≤ m ∧ wr.ownsRow w.heap.size 3 1 o k ((xs.take k).flatMap intC_) ∧ Hid (Below w.heap.size w wr)) (fun _ i _ => m + 1 - (RowKit.intOf i).toNat)
    case atStart => exact ⟨0, by go_num, Nat.zero_le _, ⟨rfl, .inl ⟨rfl, rfl⟩⟩, Lib.hid (Below.refl _ _)⟩
    case round =>
      obtain ⟨k, rfl, hk, hO, HB⟩ := hrel
      have tU : (v.length : Int) < r → ((k : Int) + 1 ≤ r ↔ k < m) := fun h => by have := HM.out; omega
      have tV : ¬ (v.length : Int) < r → ((k : Int) + 1 ≤ (v.length : Int) ↔ k < m) := fun h => by have := HM.out; omega
      by_cases hlt : k < m
      · first
          | (have tt := (tU hlt0).2 hlt)
          | (have tt := (tV (Int.not_lt.2 hlt0)).2 hlt)
        have td := decide_eq_true tt
        have HTK := Lib.hid (take_int xs k (by rw [← HXL.out]; exact hlt))
        have HBO := Lib.hid (fun g e => (hO.lt g e).1)
        have HO1 := Lib.hid hO
        have hsz := HB.out.size
        clear hO tU tV
        by_cases hkr : (k : Int) + 1 = r
        · have s1 : ((k : Int) + 1 == r) = true := by rw [beq_iff_eq]; exact hkr
          have HX := Lib.hid (show xs.getD k 0 = n by rw [HXG.out, if_pos hkr])
          have HKR := Lib.hid hkr
          clear hkr
          go_wp2_with (at_builtin; refine wpList_append_own _ rfl _ _ 29 rfl w.heap.size 3 i0 (.int .i64 0) 1 8 Tryz.underlying29 hi hz0 hz1 hz2 rfl (by decide) _ _ _ rfl (by exact HO1.out.alloc _) ⟨wr.heap.size, 0, none⟩ 1 1 (intC_ n) rfl rfl (by exact cellsN _ _ _) (by exact ocintC_ _) (by unfold maxLen; omega) (by omega) (by simp; omega) ?_; intro v' w3 hown' hgrow _; have HO3 := Lib.hid hown'; have HG3 := Lib.hid hgrow; clear hown' hgrow)
          go_roundw
          case rel => exact ⟨k + 1, by go_num, by omega, by rw [HTK.out, HX.out]; exact HO3.out, Lib.hid ((HB.out.alloc HB.out.size _).grown HG3.out (HB.out.alloc HB.out.size _).size (fun g e => HBO.out g e))⟩
          case measure => simp [RowKit.intOf]; omega
        · have s1 : ((k : Int) + 1 == r) = false := by rw [beq_eq_false_iff_ne]; exact hkr
          have HX := Lib.hid (show xs.getD k 0 = v.getD k 0 by rw [HXG.out, if_neg hkr])
          have CA := refat_any A c v ((k : Int) + 1) wr (by omega) (HA.out.below HB.out)
          rw [show atV v ((k : Int) + 1) = v.getD k 0 from atV_in] at CA
          obtain ⟨y, hy⟩ : ∃ y, y = v.getD k 0 := ⟨_, rfl⟩
          rw [← hy] at CA
          have HY := Lib.hid hy
          have HCA := Lib.hid CA
          clear hkr CA hy
          go_wp2_with fail
          refine HCA.out.mono ?_
          rintro e w1 ⟨rfl, rfl⟩
          go_wp2_with (at_builtin; refine wpList_append_own _ rfl _ _ 29 rfl w.heap.size 3 i0 (.int .i64 0) 1 8 Tryz.underlying29 hi hz0 hz1 hz2 rfl (by decide) _ _ _ rfl (by exact HO1.out.alloc _) ⟨w1.heap.size, 0, none⟩ 1 1 (intC_ y) rfl rfl (by exact cellsN _ _ _) (by exact ocintC_ _) (by unfold maxLen; omega) (by omega) (by simp; omega) ?_; intro v' w3 hown' hgrow _; have HO3 := Lib.hid hown'; have HG3 := Lib.hid hgrow; clear hown' hgrow)
          go_roundw
          case rel => exact ⟨k + 1, by go_num, by omega, by rw [HTK.out, HX.out, ← HY.out]; exact HO3.out, Lib.hid ((HB.out.alloc HB.out.size _).grown HG3.out (HB.out.alloc HB.out.size _).size (fun g e => HBO.out g e))⟩
          case measure => simp [RowKit.intOf]; omega
      · obtain rfl : k = m := by omega
        first
          | (have tt : ¬ ((k : Int) + 1 ≤ r) := fun h => hlt ((tU hlt0).1 h))
          | (have tt : ¬ ((k : Int) + 1 ≤ (v.length : Int)) := fun h => hlt ((tV (Int.not_lt.2 hlt0)).1 h))
        have td := decide_eq_false tt
        obtain ⟨o, oc, rfl⟩ := row_slice hO
        have hO2 : wr.ownsRow w.heap.size 3 1 (.slice o xs.length oc) xs.length (xs.flatMap intC_) := by
          have := hO
          rw [HXL.out, List.take_length] at this
          exact this
        have hVS := vec_own hO2
        have hcap := own_cap hO2
        have HVS := Lib.hid hVS
        have HCP := Lib.hid hcap
        have hcl : oc ≤ 9223372036854775807 := by have := hcap.2; unfold maxLen at this; omega
        have HPL := Lib.hid (show Calls Tryz.prog 116 #[.slice o k oc] wr fun e w' => e = .returned (.slice o (plainV xs).length oc) ∧ w' = wr by have := refplain_any o oc xs wr hcap.1 (by omega) hVS.vec; rw [← HXL.out] at this; exact this)
        clear hO hO2 hVS hcap hlt tU tV
        go_wp2_with fail
        refine HPL.out.mono ?_
        rintro e w1 ⟨rfl, rfl⟩
        go_wp2
        go_ret2
        exact ⟨HB.out, o, oc, rfl, vecS_plain HVS.out, by have := pv_len xs; have := HCP.out.1; omega, HCP.out.2⟩
theorem made_ints (n : Nat) : madeCells #[Value.int .i64 0] n = (List.replicate n (Value.int .i64 0)).toArray := by
  apply Array.ext_getElem?
  intro i
  unfold madeCells
  by_cases h : i < n
  · simp [h, Nat.mod_one]
  · simp [h]
theorem splice_ints (v : List Int) (m : Nat) (h : v.length ≤ m) (j : Nat) (hj : j < m) : (splice (List.replicate m (Value.int .i64 0)) 0 (v.map (Value.int .i64)))[j]? = some (.int .i64 (v.getD j 0)) := by
  unfold splice
  rw [List.take_zero, List.nil_append, Nat.zero_add, List.length_map]
  by_cases h1 : j < v.length
  · rw [List.getElem?_append_left (by simpa using h1), List.getElem?_map, List.getD_eq_getElem?_getD, List.getElem?_eq_getElem h1]; rfl
  · rw [List.getElem?_append_right (by simp; omega), List.length_map, List.getElem?_drop, List.getElem?_replicate, if_pos (by omega), List.getD_eq_getElem?_getD, List.getElem?_eq_none (by omega)]; rfl
set_option maxRecDepth 100000 in
set_option maxHeartbeats 8000000 in
theorem with_any (A : Option Addr) (c : Nat) (v : List Int) (q : Nat) (n : Int) (w : World) (hv : v.length ≤ 1000) (hr2 : q < 16) (hA : VecR w A v) :
    Calls Tryz.prog 81 #[.slice A v.length c, .int .i64 ((q : Int) + 1), .int .i64 n] w fun e w' => WithQ (withV v ((q : Int) + 1) n) w e w' := by
  obtain ⟨xs, hxs⟩ : ∃ xs, xs = setV v ((q : Int) + 1) n := ⟨_, rfl⟩
  have HW := Lib.hid (show withV v ((q : Int) + 1) n = plainV xs by rw [hxs]; rfl)
  have hxl : xs.length = max v.length (q + 1) := by rw [hxs, setV_len]; congr 1
  have HXG := Lib.hid (show ∀ k : Nat, xs.getD k 0 = if k = q then n else v.getD k 0 from fun k => by
    rw [hxs, setV_getD v _ n k (by omega)]
    by_cases h : k = q
    · rw [if_pos h, if_pos (by omega)]
    · rw [if_neg h, if_neg (by omega)])
  obtain ⟨m, hm⟩ : ∃ m, m = xs.length := ⟨_, rfl⟩
  have hml : m ≤ 1000 := by omega
  have hvm : v.length ≤ m := by omega
  have hqm : q < m := by omega
  have HM := Lib.hid (show m = max v.length (q + 1) by rw [hm, hxl])
  have HXL := Lib.hid hm
  have HA := Lib.hid hA
  rw [HW.out]
  have t1 : ¬ (q : Int) + 1 < 1 := by omega
  have t2 : ¬ (16 : Int) < (q : Int) + 1 := by omega
  have t3 : decide ((q : Int) + 1 < 1) = false := decide_eq_false t1
  have t4 : decide ((16 : Int) < (q : Int) + 1) = false := decide_eq_false t2
  have t5 : (0 : Int) ≤ (q : Int) := by omega
  have t6 : (q : Int) < (m : Int) := by omega
  have hmk := run_make_row' (P := Tryz.prog) 151 3 (.int .i64 0) 8 Tryz.underlying151 infoI rfl .i64 .i64 m (by omega) (by omega)
  have hinf : (Tryz.prog.info? 3).map (·.size) = some 1 := by kernel_rfl
  clear hxs hxl hm hA
  go_enter Tryz.func81, Tryz.ntmps81
  have hmax : max (v.length : Int) ((q : Int) + 1) = (m : Int) := by have := HM.out; omega
  go_upto_region 4 with fail
  have HV0 := Lib.hid (heap_alloc_new w (.cells (madeCells #[Value.int .i64 0] m) 3))
  rw [made_ints] at HV0 ⊢
  have HB0 := Lib.hid (show Below w.heap.size w (w.alloc (.cells (List.replicate m (Value.int .i64 0)).toArray 3)) from (Below.refl _ _).alloc (Nat.le_refl _) _)
  generalize hV : w.alloc (.cells (List.replicate m (Value.int .i64 0)).toArray 3) = V0 at *
  clear hV hmk
  have hcl : (v.map (Value.int .i64)).length = Nat.min v.length m := by rw [List.length_map]; exact (Nat.min_eq_left hvm).symm
  have hpos : 0 < (v.map (Value.int .i64)).length → (some (⟨w.heap.size, 0, none⟩ : Addr)) = some ⟨w.heap.size, 0, none⟩ ∧ ∃ ad, A = some ad ∧ ∀ j u, (v.map (Value.int .i64))[j]? = some u → V0.cell? (ad.add j) = some u := fun h => by
    rw [List.length_map] at h
    obtain ⟨ad, e0, hb0, -⟩ := (HA.out.below HB0.out) 0 h
    refine ⟨rfl, ad, e0, fun j u hu => ?_⟩
    have hj : j < v.length := by have := (List.getElem?_eq_some_iff.1 hu).1; simpa using this
    obtain ⟨ad', e1, hb1, hc1⟩ := (HA.out.below HB0.out) j hj
    rw [e0] at e1
    cases e1
    rw [hc1]
    rw [List.getElem?_map, List.getElem?_eq_getElem hj] at hu
    show some (Value.int .i64 (v.getD j 0)) = some u
    rw [List.getD_eq_getElem?_getD, List.getElem?_eq_getElem hj]
    exact hu
  have HPOS := Lib.hid hpos
  have HCL := Lib.hid hcl
  have h1c : ∀ u ∈ v.map (Value.int .i64), u.oneCell' = true := fun u hu => by obtain ⟨x, -, rfl⟩ := List.mem_map.1 hu; rfl
  have hfit : 0 + (v.map (Value.int .i64)).length ≤ (List.replicate m (Value.int .i64 0)).length := by simp; exact hvm
  clear hpos hcl
  go_upto_region 5 with (with_reducible refine wpList_copy_splice rfl _ _ 151 29 rfl 3 Tryz.underlying151 hinf (some ⟨w.heap.size, 0, none⟩) A m m v.length c rfl rfl w.heap.size 0 (List.replicate m (Value.int .i64 0)) 3 HV0.out (v.map (Value.int .i64)) HCL.out HPOS.out hfit h1c w.heap.size w HB0.out (Nat.le_refl _) ?_; intro w1 HG1 hB1)
  have HB1 := Lib.hid hB1
  have hcell : ∀ j, j < m → w1.cell? ⟨w.heap.size, j, none⟩ = some (.int .i64 (v.getD j 0)) := fun j hj => by
    rw [cell_of_row _ _ _ _ _ _ HG1.out, List.getElem?_toArray]
    exact splice_ints v m hvm j hj
  have cq := hcell q hqm
  have fq : w1.frozen? ⟨w.heap.size, q, none⟩ = false := frozen_of_row _ _ _ _ _ HG1.out
  have hVR : VecR (w1.setCell ⟨w.heap.size, q, none⟩ (.int .i64 n)) (some ⟨w.heap.size, 0, none⟩) xs := fun k hk => by
    refine ⟨⟨w.heap.size, 0, none⟩, rfl, by have := lt_of_block HG1.out; simp; exact this, ?_⟩
    show _ = some (Value.int .i64 (xs.getD k 0))
    rw [add_zero', HXG.out]
    by_cases hkq : k = q
    · subst hkq; rw [if_pos rfl]; exact World.cell?_setCell_same _ _ _ cq
    · rw [if_neg hkq]; exact (World.cell?_setCell_other _ _ _ _ (by intro e; injection e with _ e2; exact hkq e2.symm)).trans (hcell k (by have := HXL.out; omega))
  have hVS : VecS (w1.setCell ⟨w.heap.size, q, none⟩ (.int .i64 n)) (fun k => w.heap.size ≤ k) (some ⟨w.heap.size, 0, none⟩) xs := fun k hk => by
    obtain ⟨ad, e0, hb, hc⟩ := hVR k hk
    cases e0
    refine ⟨w.heap.size, 0, rfl, Nat.le_refl _, hb, fun j hj => ?_⟩
    obtain rfl : j = 0 := by omega
    rw [add_zero'] at hc
    simpa using hc
  have HVS := Lib.hid (vecS_plain hVS)
  have HPL := Lib.hid (show Calls Tryz.prog 115 #[.slice (some ⟨w.heap.size, 0, none⟩) m m] (w1.setCell ⟨w.heap.size, q, none⟩ (.int .i64 n)) fun e w' => e = .returned (.slice (some ⟨w.heap.size, 0, none⟩) (plainV xs).length m) ∧ w' = w1.setCell ⟨w.heap.size, q, none⟩ (.int .i64 n) by
    have := vplain_any (some ⟨w.heap.size, 0, none⟩) m xs _ (by have := HXL.out; omega) (by have := HXL.out; omega) hVR
    rw [← HXL.out] at this; exact this)
  clear hVS hVR hcell hB1 h1c hfit
  go_wp2_with fail
  refine HPL.out.mono ?_
  rintro e w2 ⟨rfl, rfl⟩
  go_wp2
  go_ret2
  exact ⟨HB1.out.grown (gby_set w.heap.size q (.int .i64 n)) HB1.out.size (fun k e => by cases e; exact Nat.le_refl _), some ⟨w.heap.size, 0, none⟩, m, rfl, HVS.out, by have := pv_len xs; have := HXL.out; omega, by unfold maxLen; omega⟩
end Go.Proofs.YtalgbcgiiphoaaaGreatDoor
