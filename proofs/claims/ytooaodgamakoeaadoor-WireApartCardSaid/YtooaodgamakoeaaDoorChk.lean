/- What the checker of groups computes, its small parts. Conditions: lengths in reach. -/
import Derived.Test.YtooaodgamakoeaaDoorRep
namespace Go.Proofs.YtooaodgamakoeaaDoor
open Go.RowKit Go.Lib Go.Sort
set_option linter.unusedVariables false
attribute [local go_sem ↓] Go.wp_at_zero Go.wp_at_succ
/-- the checker at block b: its group's stamp, and how many ids came to be -/
structure Chkr (w : World) (b : Nat) (g : Gst) (k : Nat) : Prop where
  t : w.cell? ⟨b, 0, none⟩ = some (.int .i64 g.t)
  r : w.cell? ⟨b, 1, none⟩ = some (.int .i64 g.r)
  k : w.cell? ⟨b, 7, none⟩ = some (.int .i64 k)
theorem Chkr.lt {w : World} {b : Nat} {g : Gst} {k : Nat} (h : Chkr w b g k) : b < w.heap.size := lt_of_cell h.t
theorem Chkr.below {w w' : World} {b : Nat} {g : Gst} {k : Nat} (h : Chkr w b g k) (hb : Below w.heap.size w w') : Chkr w' b g k :=
  ⟨(hb.cell (p := ⟨b, 0, none⟩) h.lt).trans h.t, (hb.cell (p := ⟨b, 1, none⟩) h.lt).trans h.r, (hb.cell (p := ⟨b, 7, none⟩) h.lt).trans h.k⟩
theorem Chkr.alloc {w : World} {b : Nat} {g : Gst} {k : Nat} (h : Chkr w b g k) (o : Obj) : Chkr (w.alloc o) b g k := h.below ((Below.refl _ _).alloc (Nat.le_refl _) _)
set_option maxRecDepth 100000 in
set_option maxHeartbeats 2000000 in
theorem ornone_any (b : Nat) (g : Gst) (k : Nat) (x : Gid) (w : World) (hC : Chkr w b g k) :
    Calls Tryd.prog 92 #[.pointer (some ⟨b, 0, none⟩), idV x] w fun e w' => e = .returned (.bool (parentB g x k)) ∧ Below w.heap.size w w' := by
  obtain ⟨⟨t, r⟩, i⟩ := x
  have HC := Lib.hid hC
  clear hC
  show Calls _ _ #[_, .agg #[.int .i64 t, .int .i64 r, .int .i64 i]] _ _
  cases hN : Gid.eqb ⟨⟨t, r⟩, i⟩ ⟨⟨0, 0⟩, 0⟩ with
  | true =>
    have he := eq_id t r i 0 0 0 true hN
    have HN := Lib.hid hN
    clear hN
    go_enter Tryd.func92, Tryd.ntmps92
    go_wp2
    go_ret
    refine ⟨ret_bool ?_, (Below.refl _ _).alloc (Nat.le_refl _) _⟩
    have : Gid.none ⟨⟨t, r⟩, i⟩ = true := HN.out
    simp [parentB, this]
  | false =>
    have he := eq_id t r i 0 0 0 false hN
    have HN := Lib.hid hN
    clear hN
    go_enter Tryd.func92, Tryd.ntmps92
    go_wp2_with fail
    refine (ahead_any b g k ⟨⟨t, r⟩, i⟩ _ (HC.out.alloc _).t (HC.out.alloc _).r (HC.out.alloc _).k).mono ?_
    rintro e w1 ⟨rfl, hB⟩
    go_wp2
    go_ret
    refine ⟨ret_bool ?_, ((Below.refl _ _).alloc (Nat.le_refl _) _).trans (hB.mono (by simp))⟩
    have : Gid.none ⟨⟨t, r⟩, i⟩ = false := HN.out
    simp [parentB, this]
set_option maxRecDepth 100000 in
set_option maxHeartbeats 2000000 in
theorem own_any (b : Nat) (g : Gst) (k : Nat) (w : World) (hC : Chkr w b g k) :
    Calls Tryd.prog 91 #[.pointer (some ⟨b, 0, none⟩)] w fun e w' => e = .returned (idV ⟨g, k⟩) ∧ Below w.heap.size w w' := by
  obtain ⟨t, r⟩ := g
  obtain ⟨h0, h1, h7⟩ := hC
  simp only at h0 h1
  show Calls _ _ _ _ fun e w' => e = .returned (.agg #[.int .i64 t, .int .i64 r, .int .i64 k]) ∧ _
  have hb := lt_of_cell h0
  go_enter Tryd.func91, Tryd.ntmps91
  have hf : w.frozen? ⟨b, 0, none⟩ = w.frozen? ⟨b, 0, none⟩ := rfl
  go_wp2
  go_region_held3 (fun w' => w'.cell? ⟨b, 0, none⟩ = some (.int .i64 t) ∧ w'.cell? ⟨b, 1, none⟩ = some (.int .i64 r) ∧ w'.cell? ⟨b, 7, none⟩ = some (.int .i64 k)) (go_keep) (fail)
  all_goals
    go_wp2
    refine bodyPost_ret (v := .agg #[.int .i64 t, .int .i64 r, .int .i64 k]) (by simp [results, Tryd.results91, go_sem]) rfl ⟨rfl, ?_⟩
    exact ((Below.refl _ _).alloc (Nat.le_refl _) _).drew
set_option maxRecDepth 100000 in
set_option maxHeartbeats 2000000 in
theorem cdots_any (b : Nat) (g : Gst) (k : Nat) (A : Option Addr) (c : Nat) (l : List Gst) (S : Nat → Prop) (w : World) (hC : Chkr w b g k) (hl : l.length ≤ 9223372036854775807) (hA : StsS w S A l) :
    Calls Tryd.prog 95 #[.pointer (some ⟨b, 0, none⟩), .slice A l.length c] w fun e w' => e = .returned (.bool (dotsB g l)) ∧ Below w.heap.size w w' := by
  have HC := Lib.hid hC
  have HA := Lib.hid hA
  obtain ⟨n, hn⟩ : ∃ n, n = l.length := ⟨_, rfl⟩
  obtain ⟨ans, hans⟩ : ∃ r, r = dotsB g l := ⟨_, rfl⟩
  rw [← hn] at hl ⊢
  rw [← hans]
  have HN := Lib.hid hn
  have HV := Lib.hid hans
  clear hC hA hn hans
  go_enter Tryd.func95, Tryd.ntmps95
  go_wp2
  go_loopw [9] (fun i wr => ∃ k : Nat, k ≤ n ∧ i = .int .i64 k ∧ Hid (∀ i, i < k → dotB g l i = true) ∧ Below w.heap.size w wr) (fun i _ => n - (intOf i).toNat)
  case atStart => exact ⟨0, by omega, rfl, fun i hi => absurd hi (by omega), Below.refl _ _⟩
  case round =>
    obtain ⟨j, hj, rfl, HK, hBr⟩ := hrel
    by_cases hlt : j < n
    · obtain ⟨ab, ao, rfl, -, hab, c0, c1⟩ := StsS.at_ (RowG.agr HA.out (Agr.below hBr)) (k := j) (by have := HN.out; omega)
      obtain ⟨x, hx⟩ : ∃ x, x = l.getD j .zero := ⟨_, rfl⟩
      rw [← hx] at c0 c1
      have HX := Lib.hid hx
      clear hx
      obtain ⟨xt, xr⟩ := x
      obtain ⟨gt, gr⟩ := g
      simp only at c0 c1
      have HC1 := HC.out.below hBr
      have kt := cell_regrown (((HC1).alloc (.cells #[.int .i64 xt, .int .i64 xr] 25))).t
      have kr := cell_regrown (((HC1).alloc (.cells #[.int .i64 xt, .int .i64 xr] 25))).r
      clear HC1
      simp only at kt kr
      have x0 := cell_regrown (w := wr.alloc (.cells #[.int .i64 xt, .int .i64 xr] 25)) (a := ⟨wr.heap.size, 0, none⟩) (v := .int .i64 xt) (by go_simp)
      have x1 := cell_regrown (w := wr.alloc (.cells #[.int .i64 xt, .int .i64 xr] 25)) (a := ⟨wr.heap.size, 1, none⟩) (v := .int .i64 xr) (by go_simp)
      have cR := fun d os => Calls.regrown_of (right_any xt xr (grow (redrawn (wr.alloc (.cells #[.int .i64 xt, .int .i64 xr] 25)) d) os))
      have cC := fun d os => Calls.regrown_of (cmp_any xt xr gt gr (grow (redrawn (wr.alloc (.cells #[.int .i64 xt, .int .i64 xr] 25)) d) os))
      have hc := cmpS_gt ⟨xt, xr⟩ ⟨gt, gr⟩
      have bad : dotB ⟨gt, gr⟩ l j = false → ans = false := fun h => by
        rw [HV.out]
        unfold dotsB
        rw [allIx_false (by rw [← HN.out]; exact hlt) h]
        rfl
      have HBad := Lib.hid bad
      clear bad
      cases hR : Gst.right ⟨xt, xr⟩ with
      | false =>
        rw [hR] at cR
        obtain rfl : ans = false := HBad.out (by unfold dotB; rw [← HX.out, hR]; rfl)
        clear hR cC hc
        go_wp2
        refine wp_region_quiet_below (by kernel_rfl) (by kernel_rfl) ?_
        repeat (any_goals (first | go_big_quiet_step (with_reducible exact cR _ _) | quiet_step (with_reducible exact cR _ _)))
        refine wpQuiet_nil ?_
        intro _ hw'
        obtain ⟨⟨dq, osq⟩, hw''⟩ := hw'
        subst hw''
        have hBq := below_regrown (wr.alloc (.cells #[.int .i64 xt, .int .i64 xr] 25)) dq osq
        generalize grow (redrawn (wr.alloc (.cells #[.int .i64 xt, .int .i64 xr] 25)) dq) osq = wq at *
        go_wp2
        go_ret
        exact ⟨rfl, (hBr.alloc hBr.size _).trans (hBq.mono (by have := hBr.size; simp; omega))⟩
      | true =>
        rw [hR] at cR
        have HR := Lib.hid hR
        clear hR
        cases hG : Gst.lt ⟨gt, gr⟩ ⟨xt, xr⟩ with
        | true =>
          rw [hG] at hc
          obtain rfl : ans = false := HBad.out (by unfold dotB; rw [← HX.out, hG, HR.out]; rfl)
          clear hG
          go_wp2
          refine wp_region_quiet_below (by kernel_rfl) (by kernel_rfl) ?_
          repeat (any_goals (first | go_big_quiet_step (first | with_reducible exact cR _ _ | with_reducible exact cC _ _) | quiet_step (first | with_reducible exact cR _ _ | with_reducible exact cC _ _)))
          refine wpQuiet_nil ?_
          intro _ hw'
          obtain ⟨⟨dq, osq⟩, hw''⟩ := hw'
          subst hw''
          have hBq := below_regrown (wr.alloc (.cells #[.int .i64 xt, .int .i64 xr] 25)) dq osq
          generalize grow (redrawn (wr.alloc (.cells #[.int .i64 xt, .int .i64 xr] 25)) dq) osq = wq at *
          go_wp2
          go_ret
          exact ⟨rfl, (hBr.alloc hBr.size _).trans (hBq.mono (by have := hBr.size; simp; omega))⟩
        | false =>
          rw [hG] at hc
          have HG := Lib.hid hG
          clear hG
          by_cases hj0 : j = 0
          · have b1 : decide (0 < j) = false := by rw [decide_eq_false_iff_not]; omega
            have HK2 : Hid (∀ i, i < j + 1 → dotB ⟨gt, gr⟩ l i = true) := fun i hi => by
              obtain rfl : i = j := by omega
              unfold dotB
              rw [← HX.out, HG.out, HR.out]
              simp [hj0]
            clear hj0
            go_wp2
            refine wp_region_quiet_below (by kernel_rfl) (by kernel_rfl) ?_
            repeat (any_goals (first | go_big_quiet_step (first | with_reducible exact cR _ _ | with_reducible exact cC _ _) | quiet_step (first | with_reducible exact cR _ _ | with_reducible exact cC _ _)))
            refine wpQuiet_nil ?_
            intro _ hw'
            obtain ⟨⟨dq, osq⟩, hw''⟩ := hw'
            subst hw''
            have hBq := below_regrown (wr.alloc (.cells #[.int .i64 xt, .int .i64 xr] 25)) dq osq
            generalize grow (redrawn (wr.alloc (.cells #[.int .i64 xt, .int .i64 xr] 25)) dq) osq = wq at *
            go_wp2
            go_roundw
            case rel => exact ⟨j + 1, by omega, by go_num, HK2, (hBr.alloc hBr.size _).trans (hBq.mono (by have := hBr.size; simp; omega))⟩
            case measure => simp [intOf]; omega
          · obtain ⟨m, hm⟩ : ∃ m, m + 1 = j := ⟨j - 1, by omega⟩
            obtain ⟨ab2, ao2, e2, -, -, d0, d1⟩ := StsS.at_ (RowG.agr HA.out (Agr.below hBr)) (k := m) (by have := HN.out; omega)
            injection e2 with e2
            injection e2 with e3 e4
            subst e3 e4
            obtain ⟨y, hy⟩ : ∃ y, y = l.getD m .zero := ⟨_, rfl⟩
            rw [← hy] at d0 d1
            have HY := Lib.hid hy
            clear hy
            obtain ⟨yt, yr⟩ := y
            simp only at d0 d1
            have y0 := cell_regrown (w := (wr.alloc (.cells #[.int .i64 xt, .int .i64 xr] 25))) (a := ⟨ab, ao + m * 2, none⟩) (v := .int .i64 yt) (by rw [World.cell?_alloc_lt _ _ _ hab]; exact d0)
            have y1 := cell_regrown (w := (wr.alloc (.cells #[.int .i64 xt, .int .i64 xr] 25))) (a := ⟨ab, ao + m * 2 + 1, none⟩) (v := .int .i64 yr) (by rw [World.cell?_alloc_lt _ _ _ hab]; exact d1)
            have cD := fun d os => Calls.regrown_of (cmp_any yt yr xt xr (grow (redrawn (wr.alloc (.cells #[.int .i64 xt, .int .i64 xr] 25)) d) os))
            have hd := cmpS_ge ⟨yt, yr⟩ ⟨xt, xr⟩
            have b1 : decide (0 < j) = true := by rw [decide_eq_true_eq]; omega
            have b2 : (j : Int) - 1 = (m : Int) := by omega
            have b3 : (0 : Int) ≤ (m : Int) := by omega
            have b4 : (m : Int) < (n : Int) := by omega
            have b5 : IntKind.i64.wrap ((j : Int) - 1) = (m : Int) := by rw [b2]; exact IntWalk.i64_in _ (by omega)
            have b6 : m = j - 1 := by omega
            have HM := Lib.hid b6
            clear b6 hm hj0
            cases hL : Gst.lt ⟨yt, yr⟩ ⟨xt, xr⟩ with
            | false =>
              rw [hL] at hd
              obtain rfl : ans = false := HBad.out (by
                unfold dotB
                rw [← HX.out, HG.out, HR.out, ← HM.out, ← HY.out, hL]
                simp; have := HM.out; omega)
              clear hL
              go_wp2
              refine wp_region_quiet_below (by kernel_rfl) (by kernel_rfl) ?_
              repeat (any_goals (first | go_big_quiet_step (first | with_reducible exact cR _ _ | with_reducible exact cC _ _ | with_reducible exact cD _ _) | quiet_step (first | with_reducible exact cR _ _ | with_reducible exact cC _ _ | with_reducible exact cD _ _)))
              refine wpQuiet_nil ?_
              intro _ hw'
              obtain ⟨⟨dq, osq⟩, hw''⟩ := hw'
              subst hw''
              have hBq := below_regrown (wr.alloc (.cells #[.int .i64 xt, .int .i64 xr] 25)) dq osq
              generalize grow (redrawn (wr.alloc (.cells #[.int .i64 xt, .int .i64 xr] 25)) dq) osq = wq at *
              go_wp2
              go_ret
              exact ⟨rfl, (hBr.alloc hBr.size _).trans (hBq.mono (by have := hBr.size; simp; omega))⟩
            | true =>
              rw [hL] at hd
              have HK2 : Hid (∀ i, i < j + 1 → dotB ⟨gt, gr⟩ l i = true) := fun i hi => by
                rcases Nat.lt_or_ge i j with h | h
                · exact HK.out i h
                · obtain rfl : i = j := by omega
                  unfold dotB
                  rw [← HX.out, HG.out, HR.out, ← HM.out, ← HY.out, hL]
                  simp
              clear hL
              go_wp2
              refine wp_region_quiet_below (by kernel_rfl) (by kernel_rfl) ?_
              repeat (any_goals (first | go_big_quiet_step (first | with_reducible exact cR _ _ | with_reducible exact cC _ _ | with_reducible exact cD _ _) | quiet_step (first | with_reducible exact cR _ _ | with_reducible exact cC _ _ | with_reducible exact cD _ _)))
              refine wpQuiet_nil ?_
              intro _ hw'
              obtain ⟨⟨dq, osq⟩, hw''⟩ := hw'
              subst hw''
              have hBq := below_regrown (wr.alloc (.cells #[.int .i64 xt, .int .i64 xr] 25)) dq osq
              generalize grow (redrawn (wr.alloc (.cells #[.int .i64 xt, .int .i64 xr] 25)) dq) osq = wq at *
              clear b5
              go_wp2
              go_roundw
              case rel => exact ⟨j + 1, by omega, by go_num, HK2, (hBr.alloc hBr.size _).trans (hBq.mono (by have := hBr.size; simp; omega))⟩
              case measure => simp [intOf]; omega
    · obtain rfl : j = n := by omega
      have hv : ans = decide (j ≤ 200) := by
        rw [HV.out]
        unfold dotsB
        rw [allIx_true (fun i hi => HK.out i (by have := HN.out; omega)), ← HN.out]
        rfl
      by_cases h2 : j ≤ 200
      · obtain rfl : ans = true := by rw [hv]; exact decide_eq_true h2
        have t1 : (j : Int) ≤ 200 := by omega
        clear hv
        go_wp2
        go_ret
        exact ⟨rfl, hBr⟩
      · obtain rfl : ans = false := by rw [hv]; exact decide_eq_false h2
        have t1 : ¬ (j : Int) ≤ 200 := by omega
        clear hv
        go_wp2
        go_ret
        exact ⟨rfl, hBr⟩
end Go.Proofs.YtooaodgamakoeaaDoor
