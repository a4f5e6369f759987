/- What the checker of groups computes, its small parts. Conditions: lengths in reach. | What the checker of groups computes: ids that go. Conditions: lengths in reach. | What the program says of a group beside its operations. Conditions: lengths in reach. -/
import Derived.Test.YtalgbcgiiphoaaaGreatDoorSA
import Derived.Outline
section
namespace Go.Proofs.YtalgbcgiiphoaaaGreatDoor
open Go.RowKit Go.Lib Go.Sort
set_option linter.unusedVariables false
attribute [local go_sem ↓] Go.wp_at_zero Go.wp_at_succ
/-- the checker at block b: its group's stamp, and how many ids came to be -/
structure Chkr (w : World) (b : Nat) (g : Gst) (k : Nat) : Prop where
  t : w.cell? ⟨b, 0, none⟩ = some (.int .i64 g.t)
  r : w.cell? ⟨b, 1, none⟩ = some (.int .i64 g.r)
  k : w.cell? ⟨b, 7, none⟩ = some (.int .i64 k)
theorem Chkr.lt {w : World} {b : Nat} {g : Gst} {k : Nat} (h : Chkr w b g k) : b < w.heap.size := lt_of_cell h.t
theorem Chkr.below {w w' : World} {b : Nat} {g : Gst} {k : Nat} (h : Chkr w b g k) (hb : Below w.heap.size w w') : Chkr w' b g k :=
  ⟨(hb.cell (p := ⟨b, 0, none⟩) h.lt).trans h.t, (hb.cell (p := ⟨b, 1, none⟩) h.lt).trans h.r, (hb.cell (p := ⟨b, 7, none⟩) h.lt).trans h.k⟩
theorem Chkr.alloc {w : World} {b : Nat} {g : Gst} {k : Nat} (h : Chkr w b g k) (o : Obj) : Chkr (w.alloc o) b g k := h.below ((Below.refl _ _).alloc (Nat.le_refl _) _)
set_option maxRecDepth 100000 in
set_option maxHeartbeats 2000000 in
theorem ornone_any (b : Nat) (g : Gst) (k : Nat) (x : Gid) (w : World) (hC : Chkr w b g k) :
    Calls Tryz.prog 108 #[.pointer (some ⟨b, 0, none⟩), idV x] w fun e w' => e = .returned (.bool (parentB g x k)) ∧ Below w.heap.size w w' := by
  obtain ⟨⟨t, r⟩, i⟩ := x
  have HC := Lib.hid hC
  clear hC
  show Calls _ _ #[_, .agg #[.int .i64 t, .int .i64 r, .int .i64 i]] _ _
  cases hN : Gid.eqb ⟨⟨t, r⟩, i⟩ ⟨⟨0, 0⟩, 0⟩ with
  | true =>
    have he := eq_id t r i 0 0 0 true hN
    have HN := Lib.hid hN
    clear hN
    go_enter Tryz.func108, Tryz.ntmps108
    go_wp2
    go_ret
    refine ⟨ret_bool ?_, (Below.refl _ _).alloc (Nat.le_refl _) _⟩
    have : Gid.none ⟨⟨t, r⟩, i⟩ = true := HN.out
    simp [parentB, this]
  | false =>
    have he := eq_id t r i 0 0 0 false hN
    have HN := Lib.hid hN
    clear hN
    go_enter Tryz.func108, Tryz.ntmps108
    go_wp2_with fail
    refine (ahead_any b g k ⟨⟨t, r⟩, i⟩ _ (HC.out.alloc _).t (HC.out.alloc _).r (HC.out.alloc _).k).mono ?_
    rintro e w1 ⟨rfl, hB⟩
    go_wp2
    go_ret
    refine ⟨ret_bool ?_, ((Below.refl _ _).alloc (Nat.le_refl _) _).trans (hB.mono (by simp))⟩
    have : Gid.none ⟨⟨t, r⟩, i⟩ = false := HN.out
    simp [parentB, this]
set_option maxRecDepth 100000 in
set_option maxHeartbeats 2000000 in
theorem own_any (b : Nat) (g : Gst) (k : Nat) (w : World) (hC : Chkr w b g k) :
    Calls Tryz.prog 107 #[.pointer (some ⟨b, 0, none⟩)] w fun e w' => e = .returned (idV ⟨g, k⟩) ∧ Below w.heap.size w w' := by
  obtain ⟨t, r⟩ := g
  obtain ⟨h0, h1, h7⟩ := hC
  simp only at h0 h1
  show Calls _ _ _ _ fun e w' => e = .returned (.agg #[.int .i64 t, .int .i64 r, .int .i64 k]) ∧ _
  have hb := lt_of_cell h0
  go_enter Tryz.func107, Tryz.ntmps107
  have hf : w.frozen? ⟨b, 0, none⟩ = w.frozen? ⟨b, 0, none⟩ := rfl
  go_wp2
  go_region_held3 (fun w' => w'.cell? ⟨b, 0, none⟩ = some (.int .i64 t) ∧ w'.cell? ⟨b, 1, none⟩ = some (.int .i64 r) ∧ w'.cell? ⟨b, 7, none⟩ = some (.int .i64 k)) (go_keep) (fail)
  all_goals
    go_wp2
    refine bodyPost_ret (v := .agg #[.int .i64 t, .int .i64 r, .int .i64 k]) (by simp [results, Tryz.results107, go_sem]) rfl ⟨rfl, ?_⟩
    exact ((Below.refl _ _).alloc (Nat.le_refl _) _).drew
set_option maxRecDepth 100000 in
set_option maxHeartbeats 2000000 in
theorem cdots_any (b : Nat) (g : Gst) (k : Nat) (A : Option Addr) (c : Nat) (l : List Gst) (S : Nat → Prop) (w : World) (hC : Chkr w b g k) (hl : l.length ≤ 9223372036854775807) (hA : StsS w S A l) :
    Calls Tryz.prog 111 #[.pointer (some ⟨b, 0, none⟩), .slice A l.length c] w fun e w' => e = .returned (.bool (dotsB g l)) ∧ Below w.heap.size w w' := by
  have HC := Lib.hid hC
  have HA := Lib.hid hA
  obtain ⟨n, hn⟩ : ∃ n, n = l.length := ⟨_, rfl⟩
  obtain ⟨ans, hans⟩ : ∃ r, r = dotsB g l := ⟨_, rfl⟩
  rw [← hn] at hl ⊢
  rw [← hans]
  have HN := Lib.hid hn
  have HV := Lib.hid hans
  clear hC hA hn hans
  go_enter Tryz.func111, Tryz.ntmps111
  go_wp2
  go_loopw [9] (fun i wr => ∃ k : Nat, k ≤ n ∧ i = .int .i64 k ∧ Hid (∀ i, i < k → dotB g l i = true) ∧ Below w.heap.size w wr) (fun i _ => n - (intOf i).toNat)
  case atStart => exact ⟨0, by omega, rfl, fun i hi => absurd hi (by omega), Below.refl _ _⟩
  case round =>
    obtain ⟨j, hj, rfl, HK, hBr⟩ := hrel
    by_cases hlt : j < n
    · obtain ⟨ab, ao, rfl, -, hab, c0, c1⟩ := StsS.at_ (RowG.agr HA.out (Agr.below hBr)) (k := j) (by have := HN.out; omega)
      obtain ⟨x, hx⟩ : ∃ x, x = l.getD j .zero := ⟨_, rfl⟩
      rw [← hx] at c0 c1
      have HX := Lib.hid hx
      clear hx
      obtain ⟨xt, xr⟩ := x
      obtain ⟨gt, gr⟩ := g
      simp only at c0 c1
      have HC1 := HC.out.below hBr
      have kt := cell_regrown (((HC1).alloc (.cells #[.int .i64 xt, .int .i64 xr] 37))).t
      have kr := cell_regrown (((HC1).alloc (.cells #[.int .i64 xt, .int .i64 xr] 37))).r
      clear HC1
      simp only at kt kr
      have x0 := cell_regrown (w := wr.alloc (.cells #[.int .i64 xt, .int .i64 xr] 37)) (a := ⟨wr.heap.size, 0, none⟩) (v := .int .i64 xt) (by go_simp)
      have x1 := cell_regrown (w := wr.alloc (.cells #[.int .i64 xt, .int .i64 xr] 37)) (a := ⟨wr.heap.size, 1, none⟩) (v := .int .i64 xr) (by go_simp)
      have cR := fun d os => Calls.regrown_of (right_any xt xr (grow (redrawn (wr.alloc (.cells #[.int .i64 xt, .int .i64 xr] 37)) d) os))
      have cC := fun d os => Calls.regrown_of (cmp_any xt xr gt gr (grow (redrawn (wr.alloc (.cells #[.int .i64 xt, .int .i64 xr] 37)) d) os))
      have hc := cmpS_gt ⟨xt, xr⟩ ⟨gt, gr⟩
      have bad : dotB ⟨gt, gr⟩ l j = false → ans = false := fun h => by
        rw [HV.out]
        unfold dotsB
        rw [allIx_false (by rw [← HN.out]; exact hlt) h]
        rfl
      have HBad := Lib.hid bad
      clear bad
      cases hR : Gst.right ⟨xt, xr⟩ with
      | false =>
        rw [hR] at cR
        obtain rfl : ans = false := HBad.out (by unfold dotB; rw [← HX.out, hR]; rfl)
        clear hR cC hc
        go_wp2
        refine wp_region_quiet_below (by kernel_rfl) (by kernel_rfl) ?_
        repeat (any_goals (first | go_big_quiet_step (with_reducible exact cR _ _) | quiet_step (with_reducible exact cR _ _)))
        refine wpQuiet_nil ?_
        intro _ hw'
        obtain ⟨⟨dq, osq⟩, hw''⟩ := hw'
        subst hw''
        have hBq := below_regrown (wr.alloc (.cells #[.int .i64 xt, .int .i64 xr] 37)) dq osq
        generalize grow (redrawn (wr.alloc (.cells #[.int .i64 xt, .int .i64 xr] 37)) dq) osq = wq at *
        go_wp2
        go_ret
        exact ⟨rfl, (hBr.alloc hBr.size _).trans (hBq.mono (by have := hBr.size; simp; omega))⟩
      | true =>
        rw [hR] at cR
        have HR := Lib.hid hR
        clear hR
        cases hG : Gst.lt ⟨gt, gr⟩ ⟨xt, xr⟩ with
        | true =>
          rw [hG] at hc
          obtain rfl : ans = false := HBad.out (by unfold dotB; rw [← HX.out, hG, HR.out]; rfl)
          clear hG
          go_wp2
          refine wp_region_quiet_below (by kernel_rfl) (by kernel_rfl) ?_
          repeat (any_goals (first | go_big_quiet_step (first | with_reducible exact cR _ _ | with_reducible exact cC _ _) | quiet_step (first | with_reducible exact cR _ _ | with_reducible exact cC _ _)))
          refine wpQuiet_nil ?_
          intro _ hw'
          obtain ⟨⟨dq, osq⟩, hw''⟩ := hw'
          subst hw''
          have hBq := below_regrown (wr.alloc (.cells #[.int .i64 xt, .int .i64 xr] 37)) dq osq
          generalize grow (redrawn (wr.alloc (.cells #[.int .i64 xt, .int .i64 xr] 37)) dq) osq = wq at *
          go_wp2
          go_ret
          exact ⟨rfl, (hBr.alloc hBr.size _).trans (hBq.mono (by have := hBr.size; simp; omega))⟩
        | false =>
          rw [hG] at hc
          have HG := Lib.hid hG
          clear hG
          by_cases hj0 : j = 0
          · have b1 : decide (0 < j) = false := by rw [decide_eq_false_iff_not]; omega
            have HK2 : Hid (∀ i, i < j + 1 → dotB ⟨gt, gr⟩ l i = true) := fun i hi => by
              obtain rfl : i = j := by omega
              unfold dotB
              rw [← HX.out, HG.out, HR.out]
              simp [hj0]
            clear hj0
            go_wp2
            refine wp_region_quiet_below (by kernel_rfl) (by kernel_rfl) ?_
            repeat (any_goals (first | go_big_quiet_step (first | with_reducible exact cR _ _ | with_reducible exact cC _ _) | quiet_step (first | with_reducible exact cR _ _ | with_reducible exact cC _ _)))
            refine wpQuiet_nil ?_
            intro _ hw'
            obtain ⟨⟨dq, osq⟩, hw''⟩ := hw'
            subst hw''
            have hBq := below_regrown (wr.alloc (.cells #[.int .i64 xt, .int .i64 xr] 37)) dq osq
            generalize grow (redrawn (wr.alloc (.cells #[.int .i64 xt, .int .i64 xr] 37)) dq) osq = wq at *
            go_wp2
            go_roundw
            case rel => exact ⟨j + 1, by omega, by go_num, HK2, (hBr.alloc hBr.size _).trans (hBq.mono (by have := hBr.size; simp; omega))⟩
            case measure => simp [intOf]; omega
          · obtain ⟨m, hm⟩ : ∃ m, m + 1 = j := ⟨j - 1, by omega⟩
            obtain ⟨ab2, ao2, e2, -, -, d0, d1⟩ := StsS.at_ (RowG.agr HA.out (Agr.below hBr)) (k := m) (by have := HN.out; omega)
            injection e2 with e2
            injection e2 with e3 e4
            subst e3 e4
            obtain ⟨y, hy⟩ : ∃ y, y = l.getD m .zero := ⟨_, rfl⟩
            rw [← hy] at d0 d1
            have HY := Lib.hid hy
            clear hy
            obtain ⟨yt, yr⟩ := y
            simp only at d0 d1
            have y0 := cell_regrown (w := (wr.alloc (.cells #[.int .i64 xt, .int .i64 xr] 37))) (a := ⟨ab, ao + m * 2, none⟩) (v := .int .i64 yt) (by rw [World.cell?_alloc_lt _ _ _ hab]; exact d0)
            have y1 := cell_regrown (w := (wr.alloc (.cells #[.int .i64 xt, .int .i64 xr] 37))) (a := ⟨ab, ao + m * 2 + 1, none⟩) (v := .int .i64 yr) (by rw [World.cell?_alloc_lt _ _ _ hab]; exact d1)
            have cD := fun d os => Calls.regrown_of (cmp_any yt yr xt xr (grow (redrawn (wr.alloc (.cells #[.int .i64 xt, .int .i64 xr] 37)) d) os))
            have hd := cmpS_ge ⟨yt, yr⟩ ⟨xt, xr⟩
            have b1 : decide (0 < j) = true := by rw [decide_eq_true_eq]; omega
            have b2 : (j : Int) - 1 = (m : Int) := by omega
            have b3 : (0 : Int) ≤ (m : Int) := by omega
            have b4 : (m : Int) < (n : Int) := by omega
            have b5 : IntKind.i64.wrap ((j : Int) - 1) = (m : Int) := by rw [b2]; exact IntWalk.i64_in _ (by omega)
            have b6 : m = j - 1 := by omega
            have HM := Lib.hid b6
            clear b6 hm hj0
            cases hL : Gst.lt ⟨yt, yr⟩ ⟨xt, xr⟩ with
            | false =>
              rw [hL] at hd
              obtain rfl : ans = false := HBad.out (by
                unfold dotB
                rw [← HX.out, HG.out, HR.out, ← HM.out, ← HY.out, hL]
                simp; have := HM.out; omega)
              clear hL
              go_wp2
              refine wp_region_quiet_below (by kernel_rfl) (by kernel_rfl) ?_
              repeat (any_goals (first | go_big_quiet_step (first | with_reducible exact cR _ _ | with_reducible exact cC _ _ | with_reducible exact cD _ _) | quiet_step (first | with_reducible exact cR _ _ | with_reducible exact cC _ _ | with_reducible exact cD _ _)))
              refine wpQuiet_nil ?_
              intro _ hw'
              obtain ⟨⟨dq, osq⟩, hw''⟩ := hw'
              subst hw''
              have hBq := below_regrown (wr.alloc (.cells #[.int .i64 xt, .int .i64 xr] 37)) dq osq
              generalize grow (redrawn (wr.alloc (.cells #[.int .i64 xt, .int .i64 xr] 37)) dq) osq = wq at *
              go_wp2
              go_ret
              exact ⟨rfl, (hBr.alloc hBr.size _).trans (hBq.mono (by have := hBr.size; simp; omega))⟩
            | true =>
              rw [hL] at hd
              have HK2 : Hid (∀ i, i < j + 1 → dotB ⟨gt, gr⟩ l i = true) := fun i hi => by
                rcases Nat.lt_or_ge i j with h | h
                · exact HK.out i h
                · obtain rfl : i = j := by omega
                  unfold dotB
                  rw [← HX.out, HG.out, HR.out, ← HM.out, ← HY.out, hL]
                  simp
              clear hL
              go_wp2
              refine wp_region_quiet_below (by kernel_rfl) (by kernel_rfl) ?_
              repeat (any_goals (first | go_big_quiet_step (first | with_reducible exact cR _ _ | with_reducible exact cC _ _ | with_reducible exact cD _ _) | quiet_step (first | with_reducible exact cR _ _ | with_reducible exact cC _ _ | with_reducible exact cD _ _)))
              refine wpQuiet_nil ?_
              intro _ hw'
              obtain ⟨⟨dq, osq⟩, hw''⟩ := hw'
              subst hw''
              have hBq := below_regrown (wr.alloc (.cells #[.int .i64 xt, .int .i64 xr] 37)) dq osq
              generalize grow (redrawn (wr.alloc (.cells #[.int .i64 xt, .int .i64 xr] 37)) dq) osq = wq at *
              clear b5
              go_wp2
              go_roundw
              case rel => exact ⟨j + 1, by omega, by go_num, HK2, (hBr.alloc hBr.size _).trans (hBq.mono (by have := hBr.size; simp; omega))⟩
              case measure => simp [intOf]; omega
    · obtain rfl : j = n := by omega
      have hv : ans = decide (j ≤ 200) := by
        rw [HV.out]
        unfold dotsB
        rw [allIx_true (fun i hi => HK.out i (by have := HN.out; omega)), ← HN.out]
        rfl
      by_cases h2 : j ≤ 200
      · obtain rfl : ans = true := by rw [hv]; exact decide_eq_true h2
        have t1 : (j : Int) ≤ 200 := by omega
        clear hv
        go_wp2
        go_ret
        exact ⟨rfl, hBr⟩
      · obtain rfl : ans = false := by rw [hv]; exact decide_eq_false h2
        have t1 : ¬ (j : Int) ≤ 200 := by omega
        clear hv
        go_wp2
        go_ret
        exact ⟨rfl, hBr⟩
end Go.Proofs.YtalgbcgiiphoaaaGreatDoor
end
section
namespace Go.Proofs.YtalgbcgiiphoaaaGreatDoor
open Go.RowKit Go.Lib Go.Sort
set_option linter.unusedVariables false
attribute [local go_sem ↓] Go.wp_at_zero Go.wp_at_succ
/-- the order of ids, as the program says it -/
def cmpD (a b : Gid) : Int := orI (cmpS a.s b.s) (cmpI a.i b.i)
theorem cmpS_zero (a b : Gst) : cmpS a b = 0 ↔ a.eqb b = true := by
  simp only [cmpS, orI, cmpI, Gst.eqb, Bool.and_eq_true, decide_eq_true_eq]
  repeat' split
  all_goals omega
theorem cmpI_lt (a b : Int) : cmpI a b < 0 ↔ a < b := by
  unfold cmpI
  repeat' split
  all_goals omega
theorem cmpD_lt (a b : Gid) : decide (cmpD a b < 0) = a.lt b := by
  rw [Bool.eq_iff_iff, decide_eq_true_eq]
  have h1 := cmpI_lt a.i b.i
  have h2 : cmpS a.s b.s < 0 ↔ a.s.lt b.s = true := by rw [← cmpS_lt]; simp
  have h3 := cmpS_zero a.s b.s
  unfold cmpD orI
  simp only [Gid.lt, Bool.or_eq_true, Bool.and_eq_true, decide_eq_true_eq, ← h2, ← h3]
  split <;> omega
theorem cmpD_ge (a b : Gid) : decide (0 ≤ cmpD a b) = !a.lt b := by
  rw [← cmpD_lt, Bool.eq_iff_iff]; simp
theorem or_blk (b : Nat) (x y : Int) (T : TypeId) (W : World) (hb : W.heap[b]? = some (.cells #[.int .i64 x, .int .i64 y] T (0, 0))) :
    Calls Tryz.prog 104 #[.slice (some ⟨b, 0, none⟩) 2 2] W fun e w' => e = .returned (.int .i64 (orI x y)) ∧ w' = W :=
  or_any _ _ _ _ (by rw [cell_of_row _ _ _ _ _ _ hb]; rfl) (by rw [cell_of_row _ _ _ _ _ _ hb]; rfl)
set_option maxRecDepth 100000 in
set_option maxHeartbeats 4000000 in
theorem cmpid_any (t r i t' r' i' : Int) (w : World) :
    Calls Tryz.prog 136 #[.agg #[.int .i64 t, .int .i64 r, .int .i64 i], .agg #[.int .i64 t', .int .i64 r', .int .i64 i']] w fun e w' => e = .returned (.int .i64 (cmpD ⟨⟨t, r⟩, i⟩ ⟨⟨t', r'⟩, i'⟩)) ∧ Below w.heap.size w w' := by
  go_enter Tryz.func136, Tryz.ntmps136
  go_wp2
  generalize hW : (w.alloc (.cells #[.int .i64 t, .int .i64 r, .int .i64 i] 66)).alloc (.cells #[.int .i64 t', .int .i64 r', .int .i64 i'] 66) = W
  have hs : w.heap.size + 2 = W.heap.size := by subst hW; simp
  have a0 : W.cell? ⟨w.heap.size, 0, none⟩ = some (.int .i64 t) := by subst hW; go_simp
  have a1 : W.cell? ⟨w.heap.size, 1, none⟩ = some (.int .i64 r) := by subst hW; go_simp
  have a2 : W.cell? ⟨w.heap.size, 2, none⟩ = some (.int .i64 i) := by subst hW; go_simp
  have b0 : W.cell? ⟨w.heap.size + 1, 0, none⟩ = some (.int .i64 t') := by subst hW; go_simp
  have b1 : W.cell? ⟨w.heap.size + 1, 1, none⟩ = some (.int .i64 r') := by subst hW; go_simp
  have b2 : W.cell? ⟨w.heap.size + 1, 2, none⟩ = some (.int .i64 i') := by subst hW; go_simp
  have hBW : Below w.heap.size w W := by subst hW; exact ((Below.refl _ _).alloc (Nat.le_refl _) _).alloc (by simp) _
  have HS := Lib.hid hs
  have l0 := lt_of_cell a0
  have l1 := lt_of_cell b0
  clear hW hs
  go_region_held3 (fun w' => w'.cell? ⟨w.heap.size, 0, none⟩ = some (.int .i64 t) ∧ w'.cell? ⟨w.heap.size, 1, none⟩ = some (.int .i64 r) ∧ w'.cell? ⟨w.heap.size, 2, none⟩ = some (.int .i64 i) ∧ w'.cell? ⟨w.heap.size + 1, 0, none⟩ = some (.int .i64 t') ∧ w'.cell? ⟨w.heap.size + 1, 1, none⟩ = some (.int .i64 r') ∧ w'.cell? ⟨w.heap.size + 1, 2, none⟩ = some (.int .i64 i')) (first | go_keep | (refine ⟨?_, ?_, ?_, ?_, ?_, ?_⟩ <;> (rw [hB1.cell (by simpa using (by assumption))]; assumption))) (first
    | (go_at_call 75; refine (cmp_any _ _ _ _ _).mono ?_; rintro e w1 ⟨rfl, hB1⟩)
    | (go_at_call 105; refine (compare_any _ _ _).mono ?_; rintro e w1 ⟨rfl, rfl⟩)
    | (go_at_call 104; refine (or_blk _ _ _ _ _ (by exact heap_alloc_new _ _)).mono ?_; rintro e w1 ⟨rfl, rfl⟩))
  all_goals
    go_wp2
    go_ret
    have h9 : W.heap.size ≤ w1.heap.size := hB1.size
    exact ⟨rfl, (hBW.drew.trans (hB1.mono (show w.heap.size ≤ W.heap.size by omega))).alloc (by omega) _⟩
set_option maxRecDepth 100000 in
set_option maxHeartbeats 4000000 in
theorem celems_any (b : Nat) (g : Gst) (k : Nat) (A : Option Addr) (c : Nat) (l : List Gid) (S : Nat → Prop) (w : World) (hC : Chkr w b g k) (hl : l.length ≤ 9223372036854775807) (hA : IdsS w S A l) :
    Calls Tryz.prog 113 #[.pointer (some ⟨b, 0, none⟩), .slice A l.length c] w fun e w' => e = .returned (.bool (elemsB g l k)) ∧ Below w.heap.size w w' := by
  have HC := Lib.hid hC
  have HA := Lib.hid hA
  obtain ⟨n, hn⟩ : ∃ n, n = l.length := ⟨_, rfl⟩
  obtain ⟨ans, hans⟩ : ∃ r, r = elemsB g l k := ⟨_, rfl⟩
  rw [← hn] at hl ⊢
  rw [← hans]
  have HN := Lib.hid hn
  have HV := Lib.hid hans
  clear hC hA hn hans
  go_enter Tryz.func113, Tryz.ntmps113
  go_wp2
  go_loopw [9] (fun i wr => ∃ j : Nat, j ≤ n ∧ i = .int .i64 j ∧ Hid (∀ i, i < j → elemB g l k i = true) ∧ Below w.heap.size w wr) (fun i _ => n - (intOf i).toNat)
  case atStart => exact ⟨0, by omega, rfl, fun i hi => absurd hi (by omega), Below.refl _ _⟩
  case round =>
    obtain ⟨j, hj, rfl, HK, hBr⟩ := hrel
    by_cases hlt : j < n
    · obtain ⟨ab, ao, rfl, -, hab, c0, c1, c2⟩ := IdsS.at_ (RowG.agr HA.out (Agr.below hBr)) (k := j) (by have := HN.out; omega)
      obtain ⟨x, hx⟩ : ∃ x, x = l.getD j .zero := ⟨_, rfl⟩
      rw [← hx] at c0 c1 c2
      have HX := Lib.hid hx
      clear hx
      obtain ⟨⟨xt, xr⟩, xi⟩ := x
      simp only at c0 c1 c2
      have x0 := cell_regrown (w := (wr.alloc (.cells #[.int .i64 xt, .int .i64 xr, .int .i64 xi] 66))) (a := ⟨wr.heap.size, 0, none⟩) (v := .int .i64 xt) (by go_simp)
      have x1 := cell_regrown (w := (wr.alloc (.cells #[.int .i64 xt, .int .i64 xr, .int .i64 xi] 66))) (a := ⟨wr.heap.size, 1, none⟩) (v := .int .i64 xr) (by go_simp)
      have x2 := cell_regrown (w := (wr.alloc (.cells #[.int .i64 xt, .int .i64 xr, .int .i64 xi] 66))) (a := ⟨wr.heap.size, 2, none⟩) (v := .int .i64 xi) (by go_simp)
      have HCr := HC.out.below hBr
      have cA : ∀ d os, Calls Tryz.prog 110 #[.pointer (some ⟨b, 0, none⟩), .agg #[.int .i64 xt, .int .i64 xr, .int .i64 xi]] (grow (redrawn (wr.alloc (.cells #[.int .i64 xt, .int .i64 xr, .int .i64 xi] 66)) d) os) fun e w'' => e = .returned (.bool (aheadB g ⟨⟨xt, xr⟩, xi⟩ k)) ∧ ∃ p : Regrown, w'' = grow (redrawn (wr.alloc (.cells #[.int .i64 xt, .int .i64 xr, .int .i64 xi] 66)) p.d) p.os := fun d os =>
        Calls.regrown_of (ahead_any b g k ⟨⟨xt, xr⟩, xi⟩ _ (cell_regrown (HCr.alloc _).t d os) (cell_regrown (HCr.alloc _).r d os) (cell_regrown (HCr.alloc _).k d os))
      clear HCr
      have bad : elemB g l k j = false → ans = false := fun h => by
        rw [HV.out]
        unfold elemsB
        rw [allIx_false (by rw [← HN.out]; exact hlt) h]
        rfl
      have HBad := Lib.hid bad
      clear bad
      cases hR : aheadB g ⟨⟨xt, xr⟩, xi⟩ k with
      | false =>
        rw [hR] at cA
        obtain rfl : ans = false := HBad.out (by unfold elemB; rw [← HX.out, hR]; rfl)
        clear hR
        go_wp2
        refine wp_region_quiet_below (by kernel_rfl) (by kernel_rfl) ?_
        repeat (any_goals (first | go_big_quiet_step (with_reducible exact cA _ _) | quiet_step (with_reducible exact cA _ _)))
        refine wpQuiet_nil ?_
        intro _ hw'
        obtain ⟨⟨dq, osq⟩, hw''⟩ := hw'
        subst hw''
        have hBq := below_regrown (wr.alloc (.cells #[.int .i64 xt, .int .i64 xr, .int .i64 xi] 66)) dq osq
        generalize grow (redrawn (wr.alloc (.cells #[.int .i64 xt, .int .i64 xr, .int .i64 xi] 66)) dq) osq = wq at *
        go_wp2
        go_ret
        exact ⟨rfl, (hBr.alloc hBr.size _).trans (hBq.mono (by have := hBr.size; simp; omega))⟩
      | true =>
        rw [hR] at cA
        have HR := Lib.hid hR
        clear hR
        by_cases hj0 : j = 0
        · have b1 : decide (0 < j) = false := by rw [decide_eq_false_iff_not]; omega
          have HK2 : Hid (∀ i, i < j + 1 → elemB g l k i = true) := fun i hi => by
            obtain rfl : i = j := by omega
            unfold elemB
            rw [← HX.out, HR.out]
            simp [hj0]
          clear hj0
          go_wp2
          refine wp_region_quiet_below (by kernel_rfl) (by kernel_rfl) ?_
          repeat (any_goals (first | go_big_quiet_step (with_reducible exact cA _ _) | quiet_step (with_reducible exact cA _ _)))
          refine wpQuiet_nil ?_
          intro _ hw'
          obtain ⟨⟨dq, osq⟩, hw''⟩ := hw'
          subst hw''
          have hBq := below_regrown (wr.alloc (.cells #[.int .i64 xt, .int .i64 xr, .int .i64 xi] 66)) dq osq
          generalize grow (redrawn (wr.alloc (.cells #[.int .i64 xt, .int .i64 xr, .int .i64 xi] 66)) dq) osq = wq at *
          go_wp2
          go_roundw
          case rel => exact ⟨j + 1, by omega, by go_num, HK2, (hBr.alloc hBr.size _).trans (hBq.mono (by have := hBr.size; simp; omega))⟩
          case measure => simp [intOf]; omega
        · obtain ⟨m, hm⟩ : ∃ m, m + 1 = j := ⟨j - 1, by omega⟩
          obtain ⟨ab2, ao2, e2, -, -, d0, d1, d2⟩ := IdsS.at_ (RowG.agr HA.out (Agr.below hBr)) (k := m) (by have := HN.out; omega)
          injection e2 with e2
          injection e2 with e3 e4
          subst e3 e4
          obtain ⟨y, hy⟩ : ∃ y, y = l.getD m .zero := ⟨_, rfl⟩
          rw [← hy] at d0 d1 d2
          have HY := Lib.hid hy
          clear hy
          obtain ⟨⟨yt, yr⟩, yi⟩ := y
          simp only at d0 d1 d2
          have y0 := cell_regrown (w := (wr.alloc (.cells #[.int .i64 xt, .int .i64 xr, .int .i64 xi] 66))) (a := ⟨ab, ao + m * 3, none⟩) (v := .int .i64 yt) (by rw [World.cell?_alloc_lt _ _ _ hab]; exact d0)
          have y1 := cell_regrown (w := (wr.alloc (.cells #[.int .i64 xt, .int .i64 xr, .int .i64 xi] 66))) (a := ⟨ab, ao + m * 3 + 1, none⟩) (v := .int .i64 yr) (by rw [World.cell?_alloc_lt _ _ _ hab]; exact d1)
          have y2 := cell_regrown (w := (wr.alloc (.cells #[.int .i64 xt, .int .i64 xr, .int .i64 xi] 66))) (a := ⟨ab, ao + m * 3 + 2, none⟩) (v := .int .i64 yi) (by rw [World.cell?_alloc_lt _ _ _ hab]; exact d2)
          have cD := fun d os => Calls.regrown_of (cmpid_any yt yr yi xt xr xi (grow (redrawn (wr.alloc (.cells #[.int .i64 xt, .int .i64 xr, .int .i64 xi] 66)) d) os))
          have hd := cmpD_ge ⟨⟨yt, yr⟩, yi⟩ ⟨⟨xt, xr⟩, xi⟩
          have b1 : decide (0 < j) = true := by rw [decide_eq_true_eq]; omega
          have b2 : (j : Int) - 1 = (m : Int) := by omega
          have b3 : (0 : Int) ≤ (m : Int) := by omega
          have b4 : (m : Int) < (n : Int) := by omega
          have b5 : IntKind.i64.wrap ((j : Int) - 1) = (m : Int) := by rw [b2]; exact IntWalk.i64_in _ (by omega)
          have b6 : m = j - 1 := by omega
          have HM := Lib.hid b6
          clear b6 hm hj0
          cases hL : Gid.lt ⟨⟨yt, yr⟩, yi⟩ ⟨⟨xt, xr⟩, xi⟩ with
          | false =>
            rw [hL] at hd
            obtain rfl : ans = false := HBad.out (by
              unfold elemB
              rw [← HX.out, HR.out, ← HM.out, ← HY.out, hL]
              have : ¬ j = 0 := fun e => by rw [e] at b1; simp at b1
              simp [this])
            clear hL
            go_wp2
            refine wp_region_quiet_below (by kernel_rfl) (by kernel_rfl) ?_
            repeat (any_goals (first | go_big_quiet_step (first | with_reducible exact cA _ _ | with_reducible exact cD _ _) | quiet_step (first | with_reducible exact cA _ _ | with_reducible exact cD _ _)))
            refine wpQuiet_nil ?_
            intro _ hw'
            obtain ⟨⟨dq, osq⟩, hw''⟩ := hw'
            subst hw''
            have hBq := below_regrown (wr.alloc (.cells #[.int .i64 xt, .int .i64 xr, .int .i64 xi] 66)) dq osq
            generalize grow (redrawn (wr.alloc (.cells #[.int .i64 xt, .int .i64 xr, .int .i64 xi] 66)) dq) osq = wq at *
            go_wp2
            go_ret
            exact ⟨rfl, (hBr.alloc hBr.size _).trans (hBq.mono (by have := hBr.size; simp; omega))⟩
          | true =>
            rw [hL] at hd
            have HK2 : Hid (∀ i, i < j + 1 → elemB g l k i = true) := fun i hi => by
              rcases Nat.lt_or_ge i j with h | h
              · exact HK.out i h
              · obtain rfl : i = j := by omega
                unfold elemB
                rw [← HX.out, HR.out, ← HM.out, ← HY.out, hL]
                simp
            clear hL
            go_wp2
            refine wp_region_quiet_below (by kernel_rfl) (by kernel_rfl) ?_
            repeat (any_goals (first | go_big_quiet_step (first | with_reducible exact cA _ _ | with_reducible exact cD _ _) | quiet_step (first | with_reducible exact cA _ _ | with_reducible exact cD _ _)))
            refine wpQuiet_nil ?_
            intro _ hw'
            obtain ⟨⟨dq, osq⟩, hw''⟩ := hw'
            subst hw''
            have hBq := below_regrown (wr.alloc (.cells #[.int .i64 xt, .int .i64 xr, .int .i64 xi] 66)) dq osq
            generalize grow (redrawn (wr.alloc (.cells #[.int .i64 xt, .int .i64 xr, .int .i64 xi] 66)) dq) osq = wq at *
            clear b5
            go_wp2
            go_roundw
            case rel => exact ⟨j + 1, by omega, by go_num, HK2, (hBr.alloc hBr.size _).trans (hBq.mono (by have := hBr.size; simp; omega))⟩
            case measure => simp [intOf]; omega
    · obtain rfl : j = n := by omega
      have hv : ans = (decide (1 ≤ j) && decide (j ≤ 2000)) := by
        rw [HV.out]
        unfold elemsB
        rw [allIx_true (fun i hi => HK.out i (by have := HN.out; omega)), ← HN.out]
        rfl
      by_cases h1 : 1 ≤ j
      · have t0 : (1 : Int) ≤ (j : Int) := by omega
        by_cases h2 : j ≤ 2000
        · obtain rfl : ans = true := by rw [hv]; simp [h1, h2]
          have t1 : (j : Int) ≤ 2000 := by omega
          clear hv
          go_wp2
          go_ret
          exact ⟨rfl, hBr⟩
        · obtain rfl : ans = false := by rw [hv]; simp; omega
          have t1 : ¬ (j : Int) ≤ 2000 := by omega
          clear hv
          go_wp2
          go_ret
          exact ⟨rfl, hBr⟩
      · obtain rfl : ans = false := by rw [hv]; simp; omega
        have t1 : ¬ (1 : Int) ≤ (j : Int) := by omega
        clear hv
        go_wp2
        go_ret
        exact ⟨rfl, hBr⟩
end Go.Proofs.YtalgbcgiiphoaaaGreatDoor
end
section
namespace Go.Proofs.YtalgbcgiiphoaaaGreatDoor
open Go.RowKit Go.Lib Go.Sort
set_option linter.unusedVariables false
theorem Calls.regrown_same {P : Program} {f : FuncId} {args : Array Value} {w : World} {d : Nat} {os : Array Obj} {v : Value}
    (h : Calls P f args (grow (redrawn w d) os) fun e w' => e = .returned v ∧ w' = grow (redrawn w d) os) : Calls P f args (grow (redrawn w d) os) fun e w'' => e = .returned v ∧ ∃ p : Regrown, w'' = grow (redrawn w p.d) p.os :=
  h.mono fun _ _ ⟨he, hb⟩ => ⟨he, ⟨d, os⟩, hb⟩
theorem VecR.regrown {w : World} {A : Option Addr} {v : List Int} (h : VecR w A v) (d : Nat) (os : Array Obj) : VecR (grow (redrawn w d) os) A v := h.below (below_regrown w d os)
set_option maxRecDepth 100000 in
set_option maxHeartbeats 4000000 in
theorem head_any (g : Grp) (dA : Option Addr) (dc : Nat) (oA : Option Addr) (oc : Nat) (w : World) (hl : g.deps.length ≤ dc) (hc : dc ≤ 9223372036854775807) (hn : i63 g.n) (hD : VecR w dA g.deps) :
    Calls Tryz.prog 73 #[.agg (grA g dA dc oA oc)] w fun e w' => e = .returned (.bool (headB g)) ∧ Below w.heap.size w w' := by
  obtain ⟨⟨t, r⟩, n, v, ⟨ut, ur⟩, ops⟩ := g
  obtain ⟨ans, ha⟩ : ∃ a, a = headB ⟨⟨t, r⟩, n, v, ⟨ut, ur⟩, ops⟩ := ⟨_, rfl⟩
  rw [← ha]
  have HV := Lib.hid ha
  clear ha
  unfold i63 at hn
  simp only at hl hn hD
  show Calls _ _ #[.agg #[.int .i64 t, .int .i64 r, .int .i64 n, .slice dA v.length dc, .int .i64 ut, .int .i64 ur, .slice oA ops.length oc]] _ _
  generalize ops.length = on
  obtain ⟨W, hW⟩ : ∃ W, W = w.alloc (.cells #[.int .i64 t, .int .i64 r, .int .i64 n, .slice dA v.length dc, .int .i64 ut, .int .i64 ur, .slice oA on oc] 40) := ⟨_, rfl⟩
  have hBW : Below w.heap.size w W := by subst hW; exact (Below.refl _ _).alloc (Nat.le_refl _) _
  have hD2 := hD.below hBW
  have hA : W.heap[w.heap.size]? = some (.cells #[.int .i64 t, .int .i64 r, .int .i64 n, .slice dA v.length dc, .int .i64 ut, .int .i64 ur, .slice oA on oc] 40 (0, 0)) := by subst hW; exact heap_alloc_new _ _
  have x0 := cell_regrown (w := W) (a := ⟨w.heap.size, 0, none⟩) (v := .int .i64 t) (by rw [cell_of_row _ _ _ _ _ _ hA]; rfl)
  have x1 := cell_regrown (w := W) (a := ⟨w.heap.size, 1, none⟩) (v := .int .i64 r) (by rw [cell_of_row _ _ _ _ _ _ hA]; rfl)
  have x2 := cell_regrown (w := W) (a := ⟨w.heap.size, 2, none⟩) (v := .int .i64 n) (by rw [cell_of_row _ _ _ _ _ _ hA]; rfl)
  have x3 := cell_regrown (w := W) (a := ⟨w.heap.size, 3, none⟩) (v := .slice dA v.length dc) (by rw [cell_of_row _ _ _ _ _ _ hA]; rfl)
  have cR := fun d os => Calls.regrown_of (right_any t r (grow (redrawn W d) os))
  have cV := fun d os => Calls.regrown_same (vector_any dA dc v (grow (redrawn W d) os) hl (by omega) (hD2.regrown d os))
  have cA := fun d os => Calls.regrown_same (at_any dA dc v r (grow (redrawn W d) os) (by omega) (hD2.regrown d os))
  have hlv : v.length ≤ 9223372036854775807 := by omega
  have HW := Lib.hid hW
  clear hA hD hD2
  cases hR : Gst.right ⟨t, r⟩ with
  | false =>
    rw [hR] at cR
    obtain rfl : ans = false := by rw [HV.out]; simp [headB, hR]
    clear hR cV cA hW
    go_enter Tryz.func73, Tryz.ntmps73
    go_wp2
    rw [← HW.out]
    refine wp_region_quiet_below (by kernel_rfl) (by kernel_rfl) ?_
    repeat (any_goals (first | go_big_quiet_step (with_reducible exact cR _ _) | quiet_step (with_reducible exact cR _ _)))
    refine wpQuiet_nil ?_
    intro _ hw'
    obtain ⟨⟨dq, osq⟩, hw''⟩ := hw'
    subst hw''
    have hBq := below_regrown W dq osq
    generalize grow (redrawn W dq) osq = wq at *
    go_wp2
    go_ret
    exact ⟨rfl, hBW.trans (hBq.mono hBW.size)⟩
  | true =>
  rw [hR] at cR
  have HR := Lib.hid hR
  clear hR
  by_cases h1 : 1 ≤ n
  · by_cases h2 : n ≤ 1099511627776
    · have hw : IntKind.i64.wrap (n - 1) = n - 1 := IntWalk.i64_in _ (by omega)
      cases hV : vecB v with
      | false =>
        rw [hV] at cV
        obtain rfl : ans = false := by rw [HV.out]; simp [headB, hV]
        clear hV cA hW hw
        go_enter Tryz.func73, Tryz.ntmps73
        go_wp2
        rw [← HW.out]
        refine wp_region_quiet_below (by kernel_rfl) (by kernel_rfl) ?_
        repeat (any_goals (first | go_big_quiet_step (first | with_reducible exact cR _ _ | with_reducible exact cV _ _) | quiet_step (first | with_reducible exact cR _ _ | with_reducible exact cV _ _)))
        refine wpQuiet_nil ?_
        intro _ hw'
        obtain ⟨⟨dq, osq⟩, hw''⟩ := hw'
        subst hw''
        have hBq := below_regrown W dq osq
        generalize grow (redrawn W dq) osq = wq at *
        go_wp2
        go_ret
        exact ⟨rfl, hBW.trans (hBq.mono hBW.size)⟩
      | true =>
        rw [hV] at cV
        have HVV := Lib.hid hV
        have hv : ans = decide (atV v r = n - 1) := by rw [HV.out]; simp [headB, HR.out, HVV.out, h1, h2]
        generalize atV v r = a at *
        clear hV hW
        by_cases h3 : a = n - 1
        · obtain rfl : ans = true := by rw [hv]; exact decide_eq_true h3
          have t3 : (a == n - 1) = true := by rw [beq_iff_eq]; exact h3
          clear hv h3
          go_enter Tryz.func73, Tryz.ntmps73
          go_wp2
          rw [← HW.out]
          refine wp_region_quiet_below (by kernel_rfl) (by kernel_rfl) ?_
          repeat (any_goals (first | go_big_quiet_step (first | with_reducible exact cR _ _ | with_reducible exact cV _ _ | with_reducible exact cA _ _) | quiet_step (first | with_reducible exact cR _ _ | with_reducible exact cV _ _ | with_reducible exact cA _ _)))
          refine wpQuiet_nil ?_
          intro _ hw'
          obtain ⟨⟨dq, osq⟩, hw''⟩ := hw'
          subst hw''
          have hBq := below_regrown W dq osq
          generalize grow (redrawn W dq) osq = wq at *
          clear hw
          go_wp2
          go_ret
          exact ⟨rfl, hBW.trans (hBq.mono hBW.size)⟩
        · obtain rfl : ans = false := by rw [hv]; exact decide_eq_false h3
          have t3 : (a == n - 1) = false := by rw [beq_eq_false_iff_ne]; exact h3
          clear hv h3
          go_enter Tryz.func73, Tryz.ntmps73
          go_wp2
          rw [← HW.out]
          refine wp_region_quiet_below (by kernel_rfl) (by kernel_rfl) ?_
          repeat (any_goals (first | go_big_quiet_step (first | with_reducible exact cR _ _ | with_reducible exact cV _ _ | with_reducible exact cA _ _) | quiet_step (first | with_reducible exact cR _ _ | with_reducible exact cV _ _ | with_reducible exact cA _ _)))
          refine wpQuiet_nil ?_
          intro _ hw'
          obtain ⟨⟨dq, osq⟩, hw''⟩ := hw'
          subst hw''
          have hBq := below_regrown W dq osq
          generalize grow (redrawn W dq) osq = wq at *
          clear hw
          go_wp2
          go_ret
          exact ⟨rfl, hBW.trans (hBq.mono hBW.size)⟩
    · obtain rfl : ans = false := by rw [HV.out]; simp [headB, h2]
      have t2 : decide (n ≤ 1099511627776) = false := decide_eq_false h2
      clear cV cA hW
      go_enter Tryz.func73, Tryz.ntmps73
      go_wp2
      rw [← HW.out]
      refine wp_region_quiet_below (by kernel_rfl) (by kernel_rfl) ?_
      repeat (any_goals (first | go_big_quiet_step (with_reducible exact cR _ _) | quiet_step (with_reducible exact cR _ _)))
      refine wpQuiet_nil ?_
      intro _ hw'
      obtain ⟨⟨dq, osq⟩, hw''⟩ := hw'
      subst hw''
      have hBq := below_regrown W dq osq
      generalize grow (redrawn W dq) osq = wq at *
      go_wp2
      go_ret
      exact ⟨rfl, hBW.trans (hBq.mono hBW.size)⟩
  · obtain rfl : ans = false := by rw [HV.out]; simp [headB, h1]
    have t1 : decide (1 ≤ n) = false := decide_eq_false h1
    clear cV cA hW
    go_enter Tryz.func73, Tryz.ntmps73
    go_wp2
    rw [← HW.out]
    refine wp_region_quiet_below (by kernel_rfl) (by kernel_rfl) ?_
    repeat (any_goals (first | go_big_quiet_step (with_reducible exact cR _ _) | quiet_step (with_reducible exact cR _ _)))
    refine wpQuiet_nil ?_
    intro _ hw'
    obtain ⟨⟨dq, osq⟩, hw''⟩ := hw'
    subst hw''
    have hBq := below_regrown W dq osq
    generalize grow (redrawn W dq) osq = wq at *
    go_wp2
    go_ret
    exact ⟨rfl, hBW.trans (hBq.mono hBW.size)⟩
end Go.Proofs.YtalgbcgiiphoaaaGreatDoor
end
