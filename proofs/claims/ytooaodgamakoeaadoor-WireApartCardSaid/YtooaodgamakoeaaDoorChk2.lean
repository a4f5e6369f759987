/- What the checker of groups computes: ids that go. Conditions: lengths in reach. -/
import Derived.Test.YtooaodgamakoeaaDoorChk
import Derived.Outline
namespace Go.Proofs.YtooaodgamakoeaaDoor
open Go.RowKit Go.Lib Go.Sort
set_option linter.unusedVariables false
attribute [local go_sem ↓] Go.wp_at_zero Go.wp_at_succ
/-- the order of ids, as the program says it -/
def cmpD (a b : Gid) : Int := orI (cmpS a.s b.s) (cmpI a.i b.i)
theorem cmpS_zero (a b : Gst) : cmpS a b = 0 ↔ a.eqb b = true := by
  simp only [cmpS, orI, cmpI, Gst.eqb, Bool.and_eq_true, decide_eq_true_eq]
  repeat' split
  all_goals omega
theorem cmpI_lt (a b : Int) : cmpI a b < 0 ↔ a < b := by
  unfold cmpI
  repeat' split
  all_goals omega
theorem cmpD_lt (a b : Gid) : decide (cmpD a b < 0) = a.lt b := by
  rw [Bool.eq_iff_iff, decide_eq_true_eq]
  have h1 := cmpI_lt a.i b.i
  have h2 : cmpS a.s b.s < 0 ↔ a.s.lt b.s = true := by rw [← cmpS_lt]; simp
  have h3 := cmpS_zero a.s b.s
  unfold cmpD orI
  simp only [Gid.lt, Bool.or_eq_true, Bool.and_eq_true, decide_eq_true_eq, ← h2, ← h3]
  split <;> omega
theorem cmpD_ge (a b : Gid) : decide (0 ≤ cmpD a b) = !a.lt b := by
  rw [← cmpD_lt, Bool.eq_iff_iff]; simp
theorem or_blk (b : Nat) (x y : Int) (T : TypeId) (W : World) (hb : W.heap[b]? = some (.cells #[.int .i64 x, .int .i64 y] T (0, 0))) :
    Calls Tryd.prog 88 #[.slice (some ⟨b, 0, none⟩) 2 2] W fun e w' => e = .returned (.int .i64 (orI x y)) ∧ w' = W :=
  or_any _ _ _ _ (by rw [cell_of_row _ _ _ _ _ _ hb]; rfl) (by rw [cell_of_row _ _ _ _ _ _ hb]; rfl)
set_option maxRecDepth 100000 in
set_option maxHeartbeats 4000000 in
theorem cmpid_any (t r i t' r' i' : Int) (w : World) :
    Calls Tryd.prog 119 #[.agg #[.int .i64 t, .int .i64 r, .int .i64 i], .agg #[.int .i64 t', .int .i64 r', .int .i64 i']] w fun e w' => e = .returned (.int .i64 (cmpD ⟨⟨t, r⟩, i⟩ ⟨⟨t', r'⟩, i'⟩)) ∧ Below w.heap.size w w' := by
  go_enter Tryd.func119, Tryd.ntmps119
  go_wp2
  generalize hW : (w.alloc (.cells #[.int .i64 t, .int .i64 r, .int .i64 i] 27)).alloc (.cells #[.int .i64 t', .int .i64 r', .int .i64 i'] 27) = W
  have hs : w.heap.size + 2 = W.heap.size := by subst hW; simp
  have a0 : W.cell? ⟨w.heap.size, 0, none⟩ = some (.int .i64 t) := by subst hW; go_simp
  have a1 : W.cell? ⟨w.heap.size, 1, none⟩ = some (.int .i64 r) := by subst hW; go_simp
  have a2 : W.cell? ⟨w.heap.size, 2, none⟩ = some (.int .i64 i) := by subst hW; go_simp
  have b0 : W.cell? ⟨w.heap.size + 1, 0, none⟩ = some (.int .i64 t') := by subst hW; go_simp
  have b1 : W.cell? ⟨w.heap.size + 1, 1, none⟩ = some (.int .i64 r') := by subst hW; go_simp
  have b2 : W.cell? ⟨w.heap.size + 1, 2, none⟩ = some (.int .i64 i') := by subst hW; go_simp
  have hBW : Below w.heap.size w W := by subst hW; exact ((Below.refl _ _).alloc (Nat.le_refl _) _).alloc (by simp) _
  have HS := Lib.hid hs
  have l0 := lt_of_cell a0
  have l1 := lt_of_cell b0
  clear hW hs
  go_region_held3 (fun w' => w'.cell? ⟨w.heap.size, 0, none⟩ = some (.int .i64 t) ∧ w'.cell? ⟨w.heap.size, 1, none⟩ = some (.int .i64 r) ∧ w'.cell? ⟨w.heap.size, 2, none⟩ = some (.int .i64 i) ∧ w'.cell? ⟨w.heap.size + 1, 0, none⟩ = some (.int .i64 t') ∧ w'.cell? ⟨w.heap.size + 1, 1, none⟩ = some (.int .i64 r') ∧ w'.cell? ⟨w.heap.size + 1, 2, none⟩ = some (.int .i64 i')) (first | go_keep | (refine ⟨?_, ?_, ?_, ?_, ?_, ?_⟩ <;> (rw [hB1.cell (by simpa using (by assumption))]; assumption))) (first
    | (go_at_call 57; refine (cmp_any _ _ _ _ _).mono ?_; rintro e w1 ⟨rfl, hB1⟩)
    | (go_at_call 89; refine (compare_any _ _ _).mono ?_; rintro e w1 ⟨rfl, rfl⟩)
    | (go_at_call 88; refine (or_blk _ _ _ _ _ (by exact heap_alloc_new _ _)).mono ?_; rintro e w1 ⟨rfl, rfl⟩))
  all_goals
    go_wp2
    go_ret
    have h9 : W.heap.size ≤ w1.heap.size := hB1.size
    exact ⟨rfl, (hBW.drew.trans (hB1.mono (show w.heap.size ≤ W.heap.size by omega))).alloc (by omega) _⟩
set_option maxRecDepth 100000 in
set_option maxHeartbeats 4000000 in
theorem celems_any (b : Nat) (g : Gst) (k : Nat) (A : Option Addr) (c : Nat) (l : List Gid) (S : Nat → Prop) (w : World) (hC : Chkr w b g k) (hl : l.length ≤ 9223372036854775807) (hA : IdsS w S A l) :
    Calls Tryd.prog 97 #[.pointer (some ⟨b, 0, none⟩), .slice A l.length c] w fun e w' => e = .returned (.bool (elemsB g l k)) ∧ Below w.heap.size w w' := by
  have HC := Lib.hid hC
  have HA := Lib.hid hA
  obtain ⟨n, hn⟩ : ∃ n, n = l.length := ⟨_, rfl⟩
  obtain ⟨ans, hans⟩ : ∃ r, r = elemsB g l k := ⟨_, rfl⟩
  rw [← hn] at hl ⊢
  rw [← hans]
  have HN := Lib.hid hn
  have HV := Lib.hid hans
  clear hC hA hn hans
  go_enter Tryd.func97, Tryd.ntmps97
  go_wp2
  go_loopw [9] (fun i wr => ∃ j : Nat, j ≤ n ∧ i = .int .i64 j ∧ Hid (∀ i, i < j → elemB g l k i = true) ∧ Below w.heap.size w wr) (fun i _ => n - (intOf i).toNat)
  case atStart => exact ⟨0, by omega, rfl, fun i hi => absurd hi (by omega), Below.refl _ _⟩
  case round =>
    obtain ⟨j, hj, rfl, HK, hBr⟩ := hrel
    by_cases hlt : j < n
    · obtain ⟨ab, ao, rfl, -, hab, c0, c1, c2⟩ := IdsS.at_ (RowG.agr HA.out (Agr.below hBr)) (k := j) (by have := HN.out; omega)
      obtain ⟨x, hx⟩ : ∃ x, x = l.getD j .zero := ⟨_, rfl⟩
      rw [← hx] at c0 c1 c2
      have HX := Lib.hid hx
      clear hx
      obtain ⟨⟨xt, xr⟩, xi⟩ := x
      simp only at c0 c1 c2
      have x0 := cell_regrown (w := (wr.alloc (.cells #[.int .i64 xt, .int .i64 xr, .int .i64 xi] 27))) (a := ⟨wr.heap.size, 0, none⟩) (v := .int .i64 xt) (by go_simp)
      have x1 := cell_regrown (w := (wr.alloc (.cells #[.int .i64 xt, .int .i64 xr, .int .i64 xi] 27))) (a := ⟨wr.heap.size, 1, none⟩) (v := .int .i64 xr) (by go_simp)
      have x2 := cell_regrown (w := (wr.alloc (.cells #[.int .i64 xt, .int .i64 xr, .int .i64 xi] 27))) (a := ⟨wr.heap.size, 2, none⟩) (v := .int .i64 xi) (by go_simp)
      have HCr := HC.out.below hBr
      have cA : ∀ d os, Calls Tryd.prog 94 #[.pointer (some ⟨b, 0, none⟩), .agg #[.int .i64 xt, .int .i64 xr, .int .i64 xi]] (grow (redrawn (wr.alloc (.cells #[.int .i64 xt, .int .i64 xr, .int .i64 xi] 27)) d) os) fun e w'' => e = .returned (.bool (aheadB g ⟨⟨xt, xr⟩, xi⟩ k)) ∧ ∃ p : Regrown, w'' = grow (redrawn (wr.alloc (.cells #[.int .i64 xt, .int .i64 xr, .int .i64 xi] 27)) p.d) p.os := fun d os =>
        Calls.regrown_of (ahead_any b g k ⟨⟨xt, xr⟩, xi⟩ _ (cell_regrown (HCr.alloc _).t d os) (cell_regrown (HCr.alloc _).r d os) (cell_regrown (HCr.alloc _).k d os))
      clear HCr
      have bad : elemB g l k j = false → ans = false := fun h => by
        rw [HV.out]
        unfold elemsB
        rw [allIx_false (by rw [← HN.out]; exact hlt) h]
        rfl
      have HBad := Lib.hid bad
      clear bad
      cases hR : aheadB g ⟨⟨xt, xr⟩, xi⟩ k with
      | false =>
        rw [hR] at cA
        obtain rfl : ans = false := HBad.out (by unfold elemB; rw [← HX.out, hR]; rfl)
        clear hR
        go_wp2
        refine wp_region_quiet_below (by kernel_rfl) (by kernel_rfl) ?_
        repeat (any_goals (first | go_big_quiet_step (with_reducible exact cA _ _) | quiet_step (with_reducible exact cA _ _)))
        refine wpQuiet_nil ?_
        intro _ hw'
        obtain ⟨⟨dq, osq⟩, hw''⟩ := hw'
        subst hw''
        have hBq := below_regrown (wr.alloc (.cells #[.int .i64 xt, .int .i64 xr, .int .i64 xi] 27)) dq osq
        generalize grow (redrawn (wr.alloc (.cells #[.int .i64 xt, .int .i64 xr, .int .i64 xi] 27)) dq) osq = wq at *
        go_wp2
        go_ret
        exact ⟨rfl, (hBr.alloc hBr.size _).trans (hBq.mono (by have := hBr.size; simp; omega))⟩
      | true =>
        rw [hR] at cA
        have HR := Lib.hid hR
        clear hR
        by_cases hj0 : j = 0
        · have b1 : decide (0 < j) = false := by rw [decide_eq_false_iff_not]; omega
          have HK2 : Hid (∀ i, i < j + 1 → elemB g l k i = true) := fun i hi => by
            obtain rfl : i = j := by omega
            unfold elemB
            rw [← HX.out, HR.out]
            simp [hj0]
          clear hj0
          go_wp2
          refine wp_region_quiet_below (by kernel_rfl) (by kernel_rfl) ?_
          repeat (any_goals (first | go_big_quiet_step (with_reducible exact cA _ _) | quiet_step (with_reducible exact cA _ _)))
          refine wpQuiet_nil ?_
          intro _ hw'
          obtain ⟨⟨dq, osq⟩, hw''⟩ := hw'
          subst hw''
          have hBq := below_regrown (wr.alloc (.cells #[.int .i64 xt, .int .i64 xr, .int .i64 xi] 27)) dq osq
          generalize grow (redrawn (wr.alloc (.cells #[.int .i64 xt, .int .i64 xr, .int .i64 xi] 27)) dq) osq = wq at *
          go_wp2
          go_roundw
          case rel => exact ⟨j + 1, by omega, by go_num, HK2, (hBr.alloc hBr.size _).trans (hBq.mono (by have := hBr.size; simp; omega))⟩
          case measure => simp [intOf]; omega
        · obtain ⟨m, hm⟩ : ∃ m, m + 1 = j := ⟨j - 1, by omega⟩
          obtain ⟨ab2, ao2, e2, -, -, d0, d1, d2⟩ := IdsS.at_ (RowG.agr HA.out (Agr.below hBr)) (k := m) (by have := HN.out; omega)
          injection e2 with e2
          injection e2 with e3 e4
          subst e3 e4
          obtain ⟨y, hy⟩ : ∃ y, y = l.getD m .zero := ⟨_, rfl⟩
          rw [← hy] at d0 d1 d2
          have HY := Lib.hid hy
          clear hy
          obtain ⟨⟨yt, yr⟩, yi⟩ := y
          simp only at d0 d1 d2
          have y0 := cell_regrown (w := (wr.alloc (.cells #[.int .i64 xt, .int .i64 xr, .int .i64 xi] 27))) (a := ⟨ab, ao + m * 3, none⟩) (v := .int .i64 yt) (by rw [World.cell?_alloc_lt _ _ _ hab]; exact d0)
          have y1 := cell_regrown (w := (wr.alloc (.cells #[.int .i64 xt, .int .i64 xr, .int .i64 xi] 27))) (a := ⟨ab, ao + m * 3 + 1, none⟩) (v := .int .i64 yr) (by rw [World.cell?_alloc_lt _ _ _ hab]; exact d1)
          have y2 := cell_regrown (w := (wr.alloc (.cells #[.int .i64 xt, .int .i64 xr, .int .i64 xi] 27))) (a := ⟨ab, ao + m * 3 + 2, none⟩) (v := .int .i64 yi) (by rw [World.cell?_alloc_lt _ _ _ hab]; exact d2)
          have cD := fun d os => Calls.regrown_of (cmpid_any yt yr yi xt xr xi (grow (redrawn (wr.alloc (.cells #[.int .i64 xt, .int .i64 xr, .int .i64 xi] 27)) d) os))
          have hd := cmpD_ge ⟨⟨yt, yr⟩, yi⟩ ⟨⟨xt, xr⟩, xi⟩
          have b1 : decide (0 < j) = true := by rw [decide_eq_true_eq]; omega
          have b2 : (j : Int) - 1 = (m : Int) := by omega
          have b3 : (0 : Int) ≤ (m : Int) := by omega
          have b4 : (m : Int) < (n : Int) := by omega
          have b5 : IntKind.i64.wrap ((j : Int) - 1) = (m : Int) := by rw [b2]; exact IntWalk.i64_in _ (by omega)
          have b6 : m = j - 1 := by omega
          have HM := Lib.hid b6
          clear b6 hm hj0
          cases hL : Gid.lt ⟨⟨yt, yr⟩, yi⟩ ⟨⟨xt, xr⟩, xi⟩ with
          | false =>
            rw [hL] at hd
            obtain rfl : ans = false := HBad.out (by
              unfold elemB
              rw [← HX.out, HR.out, ← HM.out, ← HY.out, hL]
              have : ¬ j = 0 := fun e => by rw [e] at b1; simp at b1
              simp [this])
            clear hL
            go_wp2
            refine wp_region_quiet_below (by kernel_rfl) (by kernel_rfl) ?_
            repeat (any_goals (first | go_big_quiet_step (first | with_reducible exact cA _ _ | with_reducible exact cD _ _) | quiet_step (first | with_reducible exact cA _ _ | with_reducible exact cD _ _)))
            refine wpQuiet_nil ?_
            intro _ hw'
            obtain ⟨⟨dq, osq⟩, hw''⟩ := hw'
            subst hw''
            have hBq := below_regrown (wr.alloc (.cells #[.int .i64 xt, .int .i64 xr, .int .i64 xi] 27)) dq osq
            generalize grow (redrawn (wr.alloc (.cells #[.int .i64 xt, .int .i64 xr, .int .i64 xi] 27)) dq) osq = wq at *
            go_wp2
            go_ret
            exact ⟨rfl, (hBr.alloc hBr.size _).trans (hBq.mono (by have := hBr.size; simp; omega))⟩
          | true =>
            rw [hL] at hd
            have HK2 : Hid (∀ i, i < j + 1 → elemB g l k i = true) := fun i hi => by
              rcases Nat.lt_or_ge i j with h | h
              · exact HK.out i h
              · obtain rfl : i = j := by omega
                unfold elemB
                rw [← HX.out, HR.out, ← HM.out, ← HY.out, hL]
                simp
            clear hL
            go_wp2
            refine wp_region_quiet_below (by kernel_rfl) (by kernel_rfl) ?_
            repeat (any_goals (first | go_big_quiet_step (first | with_reducible exact cA _ _ | with_reducible exact cD _ _) | quiet_step (first | with_reducible exact cA _ _ | with_reducible exact cD _ _)))
            refine wpQuiet_nil ?_
            intro _ hw'
            obtain ⟨⟨dq, osq⟩, hw''⟩ := hw'
            subst hw''
            have hBq := below_regrown (wr.alloc (.cells #[.int .i64 xt, .int .i64 xr, .int .i64 xi] 27)) dq osq
            generalize grow (redrawn (wr.alloc (.cells #[.int .i64 xt, .int .i64 xr, .int .i64 xi] 27)) dq) osq = wq at *
            clear b5
            go_wp2
            go_roundw
            case rel => exact ⟨j + 1, by omega, by go_num, HK2, (hBr.alloc hBr.size _).trans (hBq.mono (by have := hBr.size; simp; omega))⟩
            case measure => simp [intOf]; omega
    · obtain rfl : j = n := by omega
      have hv : ans = (decide (1 ≤ j) && decide (j ≤ 2000)) := by
        rw [HV.out]
        unfold elemsB
        rw [allIx_true (fun i hi => HK.out i (by have := HN.out; omega)), ← HN.out]
        rfl
      by_cases h1 : 1 ≤ j
      · have t0 : (1 : Int) ≤ (j : Int) := by omega
        by_cases h2 : j ≤ 2000
        · obtain rfl : ans = true := by rw [hv]; simp [h1, h2]
          have t1 : (j : Int) ≤ 2000 := by omega
          clear hv
          go_wp2
          go_ret
          exact ⟨rfl, hBr⟩
        · obtain rfl : ans = false := by rw [hv]; simp; omega
          have t1 : ¬ (j : Int) ≤ 2000 := by omega
          clear hv
          go_wp2
          go_ret
          exact ⟨rfl, hBr⟩
      · obtain rfl : ans = false := by rw [hv]; simp; omega
        have t1 : ¬ (1 : Int) ≤ (j : Int) := by omega
        clear hv
        go_wp2
        go_ret
        exact ⟨rfl, hBr⟩
end Go.Proofs.YtooaodgamakoeaaDoor
