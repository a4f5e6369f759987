/- What the reference says of ids and lists of them. Conditions: lengths in reach. | What the reference says of lists of stamps and of ids. Conditions: lengths in reach. -/
import Derived.Test.YtalgbcgiiphoaaaGreatDoorQA
section
namespace Go.Proofs.YtalgbcgiiphoaaaGreatDoor
open Go.RowKit Go.Lib Go.Sort
set_option linter.unusedVariables false
/-- a group's cells beside its stamp -/
structure GX where
  n : Int
  dA : Option Addr
  dn : Nat
  dc : Nat
  ut : Int
  ur : Int
  oA : Option Addr
  on : Nat
  oc : Nat
def gxV (g : Gst) (x : GX) : Value := .agg #[.int .i64 g.t, .int .i64 g.r, .int .i64 x.n, .slice x.dA x.dn x.dc, .int .i64 x.ut, .int .i64 x.ur, .slice x.oA x.on x.oc]
set_option maxRecDepth 100000 in
set_option maxHeartbeats 2000000 in
theorem refnone_any (t r i : Int) (w : World) :
    Calls Tryz.prog 137 #[.agg #[.int .i64 t, .int .i64 r, .int .i64 i]] w fun e w' => e = .returned (.bool (Gid.none ⟨⟨t, r⟩, i⟩)) ∧ Below w.heap.size w w' := by
  have he := eq_id t r i 0 0 0 (Gid.none ⟨⟨t, r⟩, i⟩) rfl
  generalize Gid.none ⟨⟨t, r⟩, i⟩ = v at *
  go_enter Tryz.func137, Tryz.ntmps137
  go_wp2
  go_ret
  exact ⟨rfl, (Below.refl _ _).alloc (Nat.le_refl _) _⟩
set_option maxRecDepth 100000 in
set_option maxHeartbeats 4000000 in
theorem refahead_any (g : Gst) (y : GX) (x : Gid) (k : Nat) (w : World) :
    Calls Tryz.prog 120 #[gxV g y, idV x, .int .i64 k] w fun e w' => e = .returned (.bool (aheadB g x k)) ∧ Below w.heap.size w w' := by
  obtain ⟨⟨t, r⟩, i⟩ := x
  obtain ⟨gt, gr⟩ := g
  obtain ⟨n, dA, dn, dc, ut, ur, oA, on, oc⟩ := y
  show Calls _ _ #[.agg #[.int .i64 gt, .int .i64 gr, .int .i64 n, .slice dA dn dc, .int .i64 ut, .int .i64 ur, .slice oA on oc], .agg #[.int .i64 t, .int .i64 r, .int .i64 i], _] _ _
  obtain ⟨ans, ha⟩ : ∃ a, a = aheadB ⟨gt, gr⟩ ⟨⟨t, r⟩, i⟩ k := ⟨_, rfl⟩
  rw [← ha]
  have HV := Lib.hid ha
  clear ha
  cases hR : Gid.right ⟨⟨t, r⟩, i⟩ with
  | false =>
    obtain rfl : ans = false := by rw [HV.out]; simp [aheadB, hR]
    have HR := Lib.hid hR
    clear hR
    go_enter Tryz.func120, Tryz.ntmps120
    go_wp2_with fail
    refine (refrightid_any _ _ _ _).mono ?_
    rw [HR.out]
    rintro e w1 ⟨rfl, hB⟩
    go_wp2
    go_ret
    exact ⟨rfl, (((Below.refl _ _).alloc (Nat.le_refl _) _).alloc (by simp) _).trans (hB.mono (by simp; omega))⟩
  | true =>
  have HR := Lib.hid hR
  clear hR
  obtain ⟨l, hl⟩ : ∃ l, l = Gst.lt ⟨t, r⟩ ⟨gt, gr⟩ := ⟨_, rfl⟩
  have HL := Lib.hid hl
  clear hl
  go_enter Tryz.func120, Tryz.ntmps120
  go_wp2_with fail
  refine (refrightid_any _ _ _ _).mono ?_
  rw [HR.out]
  rintro e w1 ⟨rfl, hB⟩
  have g0 : w1.cell? ⟨w.heap.size, 0, none⟩ = some (.int .i64 gt) := by rw [hB.cell (by simp; omega)]; go_simp
  have g1 : w1.cell? ⟨w.heap.size, 1, none⟩ = some (.int .i64 gr) := by rw [hB.cell (by simp; omega)]; go_simp
  have c0 : w1.cell? ⟨w.heap.size + 1, 0, none⟩ = some (.int .i64 t) := by rw [hB.cell (by simp)]; go_simp
  have c1 : w1.cell? ⟨w.heap.size + 1, 1, none⟩ = some (.int .i64 r) := by rw [hB.cell (by simp)]; go_simp
  have c2 : w1.cell? ⟨w.heap.size + 1, 2, none⟩ = some (.int .i64 i) := by rw [hB.cell (by simp)]; go_simp
  have hBB := (((Below.refl w.heap.size w).alloc (Nat.le_refl _) (.cells #[.int .i64 gt, .int .i64 gr, .int .i64 n, .slice dA dn dc, .int .i64 ut, .int .i64 ur, .slice oA on oc] 40)).alloc (by simp) (.cells #[.int .i64 t, .int .i64 r, .int .i64 i] 66)).trans (hB.mono (by simp; omega))
  clear hB
  go_wp2_with fail
  refine (before_any _ _ _ _ _).mono ?_
  rw [← HL.out]
  rintro e w2 ⟨rfl, hB2⟩
  have hs := hBB.size
  have l0 := lt_of_cell g0
  have l1 := lt_of_cell c0
  have g0' : w2.cell? ⟨w.heap.size, 0, none⟩ = some (.int .i64 gt) := (hB2.cell (p := ⟨w.heap.size, 0, none⟩) l0).trans g0
  have g1' : w2.cell? ⟨w.heap.size, 1, none⟩ = some (.int .i64 gr) := (hB2.cell (p := ⟨w.heap.size, 1, none⟩) l0).trans g1
  have c0' : w2.cell? ⟨w.heap.size + 1, 0, none⟩ = some (.int .i64 t) := (hB2.cell (p := ⟨w.heap.size + 1, 0, none⟩) l1).trans c0
  have c1' : w2.cell? ⟨w.heap.size + 1, 1, none⟩ = some (.int .i64 r) := (hB2.cell (p := ⟨w.heap.size + 1, 1, none⟩) l1).trans c1
  have c2' : w2.cell? ⟨w.heap.size + 1, 2, none⟩ = some (.int .i64 i) := (hB2.cell (p := ⟨w.heap.size + 1, 2, none⟩) l1).trans c2
  have hB3 := hBB.trans (hB2.mono hs)
  clear hBB hB2 g0 g1 c0 c1 c2 l0 l1 hs
  cases l with
  | true =>
    obtain rfl : ans = true := by rw [HV.out]; simp [aheadB, HR.out, ← HL.out]
    go_wp2
    go_ret
    exact ⟨rfl, hB3⟩
  | false =>
    cases hE : Gst.eqb ⟨t, r⟩ ⟨gt, gr⟩ with
    | false =>
      have he := eq_st t r gt gr false hE
      obtain rfl : ans = false := by rw [HV.out]; simp [aheadB, HR.out, ← HL.out, hE]
      clear hE
      go_wp2
      go_ret
      exact ⟨rfl, hB3⟩
    | true =>
      have he := eq_st t r gt gr true hE
      obtain rfl : ans = decide (i < k) := by rw [HV.out]; simp [aheadB, HR.out, ← HL.out, hE]
      clear hE
      go_wp2
      go_ret
      exact ⟨rfl, hB3⟩
set_option maxRecDepth 100000 in
set_option maxHeartbeats 4000000 in
theorem refparent_any (g : Gst) (y : GX) (x : Gid) (k : Nat) (w : World) :
    Calls Tryz.prog 117 #[gxV g y, idV x, .int .i64 k] w fun e w' => e = .returned (.bool (parentB g x k)) ∧ Below w.heap.size w w' := by
  obtain ⟨⟨t, r⟩, i⟩ := x
  obtain ⟨gt, gr⟩ := g
  obtain ⟨n, dA, dn, dc, ut, ur, oA, on, oc⟩ := y
  show Calls _ _ #[.agg #[.int .i64 gt, .int .i64 gr, .int .i64 n, .slice dA dn dc, .int .i64 ut, .int .i64 ur, .slice oA on oc], .agg #[.int .i64 t, .int .i64 r, .int .i64 i], _] _ _
  obtain ⟨ans, ha⟩ : ∃ a, a = parentB ⟨gt, gr⟩ ⟨⟨t, r⟩, i⟩ k := ⟨_, rfl⟩
  rw [← ha]
  have HV := Lib.hid ha
  clear ha
  have hAh := fun w => refahead_any ⟨gt, gr⟩ ⟨n, dA, dn, dc, ut, ur, oA, on, oc⟩ ⟨⟨t, r⟩, i⟩ k w
  have HAh := Lib.hid hAh
  clear hAh
  obtain ⟨b, hb⟩ : ∃ b, b = Gid.none ⟨⟨t, r⟩, i⟩ := ⟨_, rfl⟩
  have HB := Lib.hid hb
  clear hb
  go_enter Tryz.func117, Tryz.ntmps117
  go_wp2_with fail
  refine (refnone_any _ _ _ _).mono ?_
  rw [← HB.out]
  rintro e w1 ⟨rfl, hB⟩
  have hBB := (((Below.refl w.heap.size w).alloc (Nat.le_refl _) (.cells #[.int .i64 gt, .int .i64 gr, .int .i64 n, .slice dA dn dc, .int .i64 ut, .int .i64 ur, .slice oA on oc] 40)).alloc (by simp) (.cells #[.int .i64 t, .int .i64 r, .int .i64 i] 66)).trans (hB.mono (by simp; omega))
  cases b with
  | true =>
    obtain rfl : ans = true := by rw [HV.out]; simp [parentB, ← HB.out]
    go_wp2
    go_ret
    exact ⟨rfl, hBB⟩
  | false =>
    obtain rfl : ans = aheadB ⟨gt, gr⟩ ⟨⟨t, r⟩, i⟩ k := by rw [HV.out]; simp [parentB, ← HB.out]
    have g0 : w1.cell? ⟨w.heap.size, 0, none⟩ = some (.int .i64 gt) := by rw [hB.cell (by simp; omega)]; go_simp
    have g1 : w1.cell? ⟨w.heap.size, 1, none⟩ = some (.int .i64 gr) := by rw [hB.cell (by simp; omega)]; go_simp
    have g2 : w1.cell? ⟨w.heap.size, 2, none⟩ = some (.int .i64 n) := by rw [hB.cell (by simp; omega)]; go_simp
    have g3 : w1.cell? ⟨w.heap.size, 3, none⟩ = some (.slice dA dn dc) := by rw [hB.cell (by simp; omega)]; go_simp
    have g4 : w1.cell? ⟨w.heap.size, 4, none⟩ = some (.int .i64 ut) := by rw [hB.cell (by simp; omega)]; go_simp
    have g5 : w1.cell? ⟨w.heap.size, 5, none⟩ = some (.int .i64 ur) := by rw [hB.cell (by simp; omega)]; go_simp
    have g6 : w1.cell? ⟨w.heap.size, 6, none⟩ = some (.slice oA on oc) := by rw [hB.cell (by simp; omega)]; go_simp
    have c0 : w1.cell? ⟨w.heap.size + 1, 0, none⟩ = some (.int .i64 t) := by rw [hB.cell (by simp)]; go_simp
    have c1 : w1.cell? ⟨w.heap.size + 1, 1, none⟩ = some (.int .i64 r) := by rw [hB.cell (by simp)]; go_simp
    have c2 : w1.cell? ⟨w.heap.size + 1, 2, none⟩ = some (.int .i64 i) := by rw [hB.cell (by simp)]; go_simp
    clear hB
    go_wp2_with fail
    refine (HAh.out _).mono ?_
    rintro e w2 ⟨rfl, hB2⟩
    go_wp2
    go_ret
    exact ⟨rfl, hBB.trans (hB2.mono hBB.size)⟩
end Go.Proofs.YtalgbcgiiphoaaaGreatDoor
end
section
namespace Go.Proofs.YtalgbcgiiphoaaaGreatDoor
open Go.RowKit Go.Lib Go.Sort
set_option linter.unusedVariables false
set_option maxRecDepth 100000 in
set_option maxHeartbeats 4000000 in
theorem refdots_any (g : Gst) (y : GX) (A : Option Addr) (c : Nat) (l : List Gst) (S : Nat → Prop) (w : World) (hl : l.length ≤ 9223372036854775807) (hA : StsS w S A l) :
    Calls Tryz.prog 121 #[gxV g y, .slice A l.length c] w fun e w' => e = .returned (.bool (dotsB g l)) ∧ Below w.heap.size w w' := by
  obtain ⟨gt, gr⟩ := g
  obtain ⟨n', dA, dn, dc, ut, ur, oA, on, oc⟩ := y
  show Calls _ _ #[.agg #[.int .i64 gt, .int .i64 gr, .int .i64 n', .slice dA dn dc, .int .i64 ut, .int .i64 ur, .slice oA on oc], _] _ _
  have HA := Lib.hid hA
  obtain ⟨n, hn⟩ : ∃ n, n = l.length := ⟨_, rfl⟩
  obtain ⟨ans, hans⟩ : ∃ r, r = dotsB ⟨gt, gr⟩ l := ⟨_, rfl⟩
  rw [← hn] at hl ⊢
  rw [← hans]
  have HN := Lib.hid hn
  have HV := Lib.hid hans
  clear hA hn hans
  obtain ⟨W0, hW0⟩ : ∃ W0, W0 = w.alloc (.cells #[.int .i64 gt, .int .i64 gr, .int .i64 n', .slice dA dn dc, .int .i64 ut, .int .i64 ur, .slice oA on oc] 40) := ⟨_, rfl⟩
  have hB0 : Below w.heap.size w W0 := by subst hW0; exact (Below.refl _ _).alloc (Nat.le_refl _) _
  have hG : W0.heap[w.heap.size]? = some (.cells #[.int .i64 gt, .int .i64 gr, .int .i64 n', .slice dA dn dc, .int .i64 ut, .int .i64 ur, .slice oA on oc] 40 (0, 0)) := by subst hW0; exact heap_alloc_new _ _
  have g0 : W0.cell? ⟨w.heap.size, 0, none⟩ = some (.int .i64 gt) := by rw [cell_of_row _ _ _ _ _ _ hG]; rfl
  have g1 : W0.cell? ⟨w.heap.size, 1, none⟩ = some (.int .i64 gr) := by rw [cell_of_row _ _ _ _ _ _ hG]; rfl
  have HW := Lib.hid hW0
  have HG0 := Lib.hid g0
  have HG1 := Lib.hid g1
  have hsz := lt_of_cell g0
  clear hW0 hG g0 g1
  go_enter Tryz.func121, Tryz.ntmps121
  go_wp2
  rw [← HW.out]
  go_loopw [5] (fun i wr => ∃ k : Nat, k ≤ n ∧ i = .int .i64 k ∧ Hid (∀ i, i < k → dotB ⟨gt, gr⟩ l i = true) ∧ Below W0.heap.size W0 wr) (fun i _ => n - (intOf i).toNat)
  case atStart => exact ⟨0, by omega, rfl, fun i hi => absurd hi (by omega), Below.refl _ _⟩
  case round =>
    obtain ⟨j, hj, rfl, HK, hBr⟩ := hrel
    have hBw : Below w.heap.size w wr := hB0.trans (hBr.mono hB0.size)
    by_cases hlt : j < n
    · obtain ⟨ab, ao, rfl, -, hab, c0, c1⟩ := StsS.at_ (RowG.agr HA.out (Agr.below hBw)) (k := j) (by have := HN.out; omega)
      obtain ⟨x, hx⟩ : ∃ x, x = l.getD j .zero := ⟨_, rfl⟩
      rw [← hx] at c0 c1
      have HX := Lib.hid hx
      clear hx
      obtain ⟨xt, xr⟩ := x
      simp only at c0 c1
      have kt := cell_regrown ((hBr.cell (p := ⟨w.heap.size, 0, none⟩) hsz).trans HG0.out)
      have kr := cell_regrown ((hBr.cell (p := ⟨w.heap.size, 1, none⟩) hsz).trans HG1.out)
      have x0 := cell_regrown c0
      have x1 := cell_regrown c1
      have cR := fun d os => Calls.regrown_of (refright_any xt xr (grow (redrawn wr d) os))
      have cC := fun d os => Calls.regrown_of (before_any gt gr xt xr (grow (redrawn wr d) os))
      have bad : dotB ⟨gt, gr⟩ l j = false → ans = false := fun h => by
        rw [HV.out]
        unfold dotsB
        rw [allIx_false (by rw [← HN.out]; exact hlt) h]
        rfl
      have HBad := Lib.hid bad
      clear bad c0 c1
      cases hR : Gst.right ⟨xt, xr⟩ with
      | false =>
        rw [hR] at cR
        obtain rfl : ans = false := HBad.out (by unfold dotB; rw [← HX.out, hR]; rfl)
        clear hR cC
        go_wp2
        refine wp_region_quiet_below (by kernel_rfl) (by kernel_rfl) ?_
        repeat (any_goals (first | go_big_quiet_step (with_reducible exact cR _ _) | quiet_step (with_reducible exact cR _ _)))
        refine wpQuiet_nil ?_
        intro _ hw'
        obtain ⟨⟨dq, osq⟩, hw''⟩ := hw'
        subst hw''
        have hBq := below_regrown wr dq osq
        generalize grow (redrawn wr dq) osq = wq at *
        go_wp2
        go_ret
        exact ⟨rfl, hBw.trans (hBq.mono hBw.size)⟩
      | true =>
        rw [hR] at cR
        have HR := Lib.hid hR
        clear hR
        cases hG : Gst.lt ⟨gt, gr⟩ ⟨xt, xr⟩ with
        | true =>
          rw [hG] at cC
          obtain rfl : ans = false := HBad.out (by unfold dotB; rw [← HX.out, hG, HR.out]; rfl)
          clear hG
          go_wp2
          refine wp_region_quiet_below (by kernel_rfl) (by kernel_rfl) ?_
          repeat (any_goals (first | go_big_quiet_step (first | with_reducible exact cR _ _ | with_reducible exact cC _ _) | quiet_step (first | with_reducible exact cR _ _ | with_reducible exact cC _ _)))
          refine wpQuiet_nil ?_
          intro _ hw'
          obtain ⟨⟨dq, osq⟩, hw''⟩ := hw'
          subst hw''
          have hBq := below_regrown wr dq osq
          generalize grow (redrawn wr dq) osq = wq at *
          go_wp2
          go_ret
          exact ⟨rfl, hBw.trans (hBq.mono hBw.size)⟩
        | false =>
          rw [hG] at cC
          have HG := Lib.hid hG
          clear hG
          by_cases hj0 : j = 0
          · have b1 : decide (0 < j) = false := by rw [decide_eq_false_iff_not]; omega
            have HK2 : Hid (∀ i, i < j + 1 → dotB ⟨gt, gr⟩ l i = true) := fun i hi => by
              obtain rfl : i = j := by omega
              unfold dotB
              rw [← HX.out, HG.out, HR.out]
              simp [hj0]
            clear hj0
            go_wp2
            refine wp_region_quiet_below (by kernel_rfl) (by kernel_rfl) ?_
            repeat (any_goals (first | go_big_quiet_step (first | with_reducible exact cR _ _ | with_reducible exact cC _ _) | quiet_step (first | with_reducible exact cR _ _ | with_reducible exact cC _ _)))
            refine wpQuiet_nil ?_
            intro _ hw'
            obtain ⟨⟨dq, osq⟩, hw''⟩ := hw'
            subst hw''
            have hBq := below_regrown wr dq osq
            generalize grow (redrawn wr dq) osq = wq at *
            go_wp2
            go_roundw
            case rel => exact ⟨j + 1, by omega, by go_num, HK2, hBr.trans (hBq.mono hBr.size)⟩
            case measure => simp [intOf]; omega
          · obtain ⟨m, hm⟩ : ∃ m, m + 1 = j := ⟨j - 1, by omega⟩
            obtain ⟨ab2, ao2, e2, -, -, d0, d1⟩ := StsS.at_ (RowG.agr HA.out (Agr.below hBw)) (k := m) (by have := HN.out; omega)
            injection e2 with e2
            injection e2 with e3 e4
            subst e3 e4
            obtain ⟨y, hy⟩ : ∃ y, y = l.getD m .zero := ⟨_, rfl⟩
            rw [← hy] at d0 d1
            have HY := Lib.hid hy
            clear hy
            obtain ⟨yt, yr⟩ := y
            simp only at d0 d1
            have y0 := cell_regrown d0
            have y1 := cell_regrown d1
            have cD := fun d os => Calls.regrown_of (before_any yt yr xt xr (grow (redrawn wr d) os))
            have b1 : decide (0 < j) = true := by rw [decide_eq_true_eq]; omega
            have b2 : (j : Int) - 1 = (m : Int) := by omega
            have b3 : (0 : Int) ≤ (m : Int) := by omega
            have b4 : (m : Int) < (n : Int) := by omega
            have b5 : IntKind.i64.wrap ((j : Int) - 1) = (m : Int) := by rw [b2]; exact IntWalk.i64_in _ (by omega)
            have b6 : m = j - 1 := by omega
            have HM := Lib.hid b6
            clear b6 hm hj0 d0 d1
            cases hL : Gst.lt ⟨yt, yr⟩ ⟨xt, xr⟩ with
            | false =>
              rw [hL] at cD
              obtain rfl : ans = false := HBad.out (by
                unfold dotB
                rw [← HX.out, HG.out, HR.out, ← HM.out, ← HY.out, hL]
                have : ¬ j = 0 := fun e => by rw [e] at b1; simp at b1
                simp [this])
              clear hL
              go_wp2
              refine wp_region_quiet_below (by kernel_rfl) (by kernel_rfl) ?_
              repeat (any_goals (first | go_big_quiet_step (first | with_reducible exact cR _ _ | with_reducible exact cC _ _ | with_reducible exact cD _ _) | quiet_step (first | with_reducible exact cR _ _ | with_reducible exact cC _ _ | with_reducible exact cD _ _)))
              refine wpQuiet_nil ?_
              intro _ hw'
              obtain ⟨⟨dq, osq⟩, hw''⟩ := hw'
              subst hw''
              have hBq := below_regrown wr dq osq
              generalize grow (redrawn wr dq) osq = wq at *
              go_wp2
              go_ret
              exact ⟨rfl, hBw.trans (hBq.mono hBw.size)⟩
            | true =>
              rw [hL] at cD
              have HK2 : Hid (∀ i, i < j + 1 → dotB ⟨gt, gr⟩ l i = true) := fun i hi => by
                rcases Nat.lt_or_ge i j with h | h
                · exact HK.out i h
                · obtain rfl : i = j := by omega
                  unfold dotB
                  rw [← HX.out, HG.out, HR.out, ← HM.out, ← HY.out, hL]
                  simp
              clear hL
              go_wp2
              refine wp_region_quiet_below (by kernel_rfl) (by kernel_rfl) ?_
              repeat (any_goals (first | go_big_quiet_step (first | with_reducible exact cR _ _ | with_reducible exact cC _ _ | with_reducible exact cD _ _) | quiet_step (first | with_reducible exact cR _ _ | with_reducible exact cC _ _ | with_reducible exact cD _ _)))
              refine wpQuiet_nil ?_
              intro _ hw'
              obtain ⟨⟨dq, osq⟩, hw''⟩ := hw'
              subst hw''
              have hBq := below_regrown wr dq osq
              generalize grow (redrawn wr dq) osq = wq at *
              clear b5
              go_wp2
              go_roundw
              case rel => exact ⟨j + 1, by omega, by go_num, HK2, hBr.trans (hBq.mono hBr.size)⟩
              case measure => simp [intOf]; omega
    · obtain rfl : j = n := by omega
      have hv : ans = decide (j ≤ 200) := by
        rw [HV.out]
        unfold dotsB
        rw [allIx_true (fun i hi => HK.out i (by have := HN.out; omega)), ← HN.out]
        rfl
      by_cases h2 : j ≤ 200
      · obtain rfl : ans = true := by rw [hv]; exact decide_eq_true h2
        have t1 : (j : Int) ≤ 200 := by omega
        clear hv
        go_wp2
        go_ret
        exact ⟨rfl, hBw⟩
      · obtain rfl : ans = false := by rw [hv]; exact decide_eq_false h2
        have t1 : ¬ (j : Int) ≤ 200 := by omega
        clear hv
        go_wp2
        go_ret
        exact ⟨rfl, hBw⟩
set_option maxRecDepth 100000 in
set_option maxHeartbeats 4000000 in
theorem refelems_any (g : Gst) (y : GX) (k : Nat) (A : Option Addr) (c : Nat) (l : List Gid) (S : Nat → Prop) (w : World) (hl : l.length ≤ 9223372036854775807) (hA : IdsS w S A l) :
    Calls Tryz.prog 123 #[gxV g y, .slice A l.length c, .int .i64 k] w fun e w' => e = .returned (.bool (elemsB g l k)) ∧ Below w.heap.size w w' := by
  obtain ⟨gt, gr⟩ := g
  obtain ⟨n', dA, dn, dc, ut, ur, oA, on, oc⟩ := y
  have cA0 := fun x w => refahead_any ⟨gt, gr⟩ ⟨n', dA, dn, dc, ut, ur, oA, on, oc⟩ x k w
  have HCA := Lib.hid cA0
  clear cA0
  show Calls _ _ #[.agg #[.int .i64 gt, .int .i64 gr, .int .i64 n', .slice dA dn dc, .int .i64 ut, .int .i64 ur, .slice oA on oc], _, _] _ _
  have HA := Lib.hid hA
  obtain ⟨n, hn⟩ : ∃ n, n = l.length := ⟨_, rfl⟩
  obtain ⟨ans, hans⟩ : ∃ r, r = elemsB ⟨gt, gr⟩ l k := ⟨_, rfl⟩
  rw [← hn] at hl ⊢
  rw [← hans]
  have HN := Lib.hid hn
  have HV := Lib.hid hans
  clear hA hn hans
  obtain ⟨W0, hW0⟩ : ∃ W0, W0 = w.alloc (.cells #[.int .i64 gt, .int .i64 gr, .int .i64 n', .slice dA dn dc, .int .i64 ut, .int .i64 ur, .slice oA on oc] 40) := ⟨_, rfl⟩
  have hB0 : Below w.heap.size w W0 := by subst hW0; exact (Below.refl _ _).alloc (Nat.le_refl _) _
  have hG : W0.heap[w.heap.size]? = some (.cells #[.int .i64 gt, .int .i64 gr, .int .i64 n', .slice dA dn dc, .int .i64 ut, .int .i64 ur, .slice oA on oc] 40 (0, 0)) := by subst hW0; exact heap_alloc_new _ _
  have HW := Lib.hid hW0
  have HG := Lib.hid hG
  have hsz : w.heap.size < W0.heap.size := by subst hW0; simp
  clear hW0 hG
  go_enter Tryz.func123, Tryz.ntmps123
  go_wp2
  rw [← HW.out]
  go_loopw [7] (fun i wr => ∃ j : Nat, j ≤ n ∧ i = .int .i64 j ∧ Hid (∀ i, i < j → elemB ⟨gt, gr⟩ l k i = true) ∧ Below W0.heap.size W0 wr) (fun i _ => n - (intOf i).toNat)
  case atStart => exact ⟨0, by omega, rfl, fun i hi => absurd hi (by omega), Below.refl _ _⟩
  case round =>
    obtain ⟨j, hj, rfl, HK, hBr⟩ := hrel
    have hBw : Below w.heap.size w wr := hB0.trans (hBr.mono hB0.size)
    by_cases hlt : j < n
    · obtain ⟨ab, ao, rfl, -, hab, c0, c1, c2⟩ := IdsS.at_ (RowG.agr HA.out (Agr.below hBw)) (k := j) (by have := HN.out; omega)
      obtain ⟨x, hx⟩ : ∃ x, x = l.getD j .zero := ⟨_, rfl⟩
      rw [← hx] at c0 c1 c2
      have HX := Lib.hid hx
      clear hx
      obtain ⟨⟨xt, xr⟩, xi⟩ := x
      simp only at c0 c1 c2
      have hGr := (hBr.block _ hsz).trans HG.out
      have k0 := cell_regrown (w := wr) (a := ⟨w.heap.size, 0, none⟩) (v := .int .i64 gt) (by rw [cell_of_row _ _ _ _ _ _ hGr]; rfl)
      have k1 := cell_regrown (w := wr) (a := ⟨w.heap.size, 1, none⟩) (v := .int .i64 gr) (by rw [cell_of_row _ _ _ _ _ _ hGr]; rfl)
      have k2 := cell_regrown (w := wr) (a := ⟨w.heap.size, 2, none⟩) (v := .int .i64 n') (by rw [cell_of_row _ _ _ _ _ _ hGr]; rfl)
      have k3 := cell_regrown (w := wr) (a := ⟨w.heap.size, 3, none⟩) (v := .slice dA dn dc) (by rw [cell_of_row _ _ _ _ _ _ hGr]; rfl)
      have k4 := cell_regrown (w := wr) (a := ⟨w.heap.size, 4, none⟩) (v := .int .i64 ut) (by rw [cell_of_row _ _ _ _ _ _ hGr]; rfl)
      have k5 := cell_regrown (w := wr) (a := ⟨w.heap.size, 5, none⟩) (v := .int .i64 ur) (by rw [cell_of_row _ _ _ _ _ _ hGr]; rfl)
      have k6 := cell_regrown (w := wr) (a := ⟨w.heap.size, 6, none⟩) (v := .slice oA on oc) (by rw [cell_of_row _ _ _ _ _ _ hGr]; rfl)
      have x0 := cell_regrown c0
      have x1 := cell_regrown c1
      have x2 := cell_regrown c2
      have cA : ∀ d os, Calls Tryz.prog 120 #[.agg #[.int .i64 gt, .int .i64 gr, .int .i64 n', .slice dA dn dc, .int .i64 ut, .int .i64 ur, .slice oA on oc], .agg #[.int .i64 xt, .int .i64 xr, .int .i64 xi], .int .i64 k] (grow (redrawn wr d) os) fun e w'' => e = .returned (.bool (aheadB ⟨gt, gr⟩ ⟨⟨xt, xr⟩, xi⟩ k)) ∧ ∃ p : Regrown, w'' = grow (redrawn wr p.d) p.os := fun d os =>
        Calls.regrown_of (HCA.out ⟨⟨xt, xr⟩, xi⟩ _)
      have bad : elemB ⟨gt, gr⟩ l k j = false → ans = false := fun h => by
        rw [HV.out]
        unfold elemsB
        rw [allIx_false (by rw [← HN.out]; exact hlt) h]
        rfl
      have HBad := Lib.hid bad
      clear bad hGr c0 c1 c2
      cases hR : aheadB ⟨gt, gr⟩ ⟨⟨xt, xr⟩, xi⟩ k with
      | false =>
        rw [hR] at cA
        obtain rfl : ans = false := HBad.out (by unfold elemB; rw [← HX.out, hR]; rfl)
        clear hR
        go_wp2
        refine wp_region_quiet_below (by kernel_rfl) (by kernel_rfl) ?_
        repeat (any_goals (first | go_big_quiet_step (with_reducible exact cA _ _) | quiet_step (with_reducible exact cA _ _)))
        refine wpQuiet_nil ?_
        intro _ hw'
        obtain ⟨⟨dq, osq⟩, hw''⟩ := hw'
        subst hw''
        have hBq := below_regrown wr dq osq
        generalize grow (redrawn wr dq) osq = wq at *
        go_wp2
        go_ret
        exact ⟨rfl, hBw.trans (hBq.mono hBw.size)⟩
      | true =>
        rw [hR] at cA
        have HR := Lib.hid hR
        clear hR
        by_cases hj0 : j = 0
        · have b1 : decide (0 < j) = false := by rw [decide_eq_false_iff_not]; omega
          have HK2 : Hid (∀ i, i < j + 1 → elemB ⟨gt, gr⟩ l k i = true) := fun i hi => by
            obtain rfl : i = j := by omega
            unfold elemB
            rw [← HX.out, HR.out]
            simp [hj0]
          clear hj0
          go_wp2
          refine wp_region_quiet_below (by kernel_rfl) (by kernel_rfl) ?_
          repeat (any_goals (first | go_big_quiet_step (with_reducible exact cA _ _) | quiet_step (with_reducible exact cA _ _)))
          refine wpQuiet_nil ?_
          intro _ hw'
          obtain ⟨⟨dq, osq⟩, hw''⟩ := hw'
          subst hw''
          have hBq := below_regrown wr dq osq
          generalize grow (redrawn wr dq) osq = wq at *
          go_wp2
          go_roundw
          case rel => exact ⟨j + 1, by omega, by go_num, HK2, hBr.trans (hBq.mono hBr.size)⟩
          case measure => simp [intOf]; omega
        · obtain ⟨m, hm⟩ : ∃ m, m + 1 = j := ⟨j - 1, by omega⟩
          obtain ⟨ab2, ao2, e2, -, -, d0, d1, d2⟩ := IdsS.at_ (RowG.agr HA.out (Agr.below hBw)) (k := m) (by have := HN.out; omega)
          injection e2 with e2
          injection e2 with e3 e4
          subst e3 e4
          obtain ⟨y, hy⟩ : ∃ y, y = l.getD m .zero := ⟨_, rfl⟩
          rw [← hy] at d0 d1 d2
          have HY := Lib.hid hy
          clear hy
          obtain ⟨⟨yt, yr⟩, yi⟩ := y
          simp only at d0 d1 d2
          have y0 := cell_regrown d0
          have y1 := cell_regrown d1
          have y2 := cell_regrown d2
          have cD := fun d os => Calls.regrown_of (refcmpid_any yt yr yi xt xr xi (grow (redrawn wr d) os))
          have hd := rcmpD_ge ⟨⟨yt, yr⟩, yi⟩ ⟨⟨xt, xr⟩, xi⟩
          have b1 : decide (0 < j) = true := by rw [decide_eq_true_eq]; omega
          have b2 : (j : Int) - 1 = (m : Int) := by omega
          have b3 : (0 : Int) ≤ (m : Int) := by omega
          have b4 : (m : Int) < (n : Int) := by omega
          have b5 : IntKind.i64.wrap ((j : Int) - 1) = (m : Int) := by rw [b2]; exact IntWalk.i64_in _ (by omega)
          have b6 : m = j - 1 := by omega
          have HM := Lib.hid b6
          clear b6 hm hj0 d0 d1 d2
          cases hL : Gid.lt ⟨⟨yt, yr⟩, yi⟩ ⟨⟨xt, xr⟩, xi⟩ with
          | false =>
            rw [hL] at hd
            obtain rfl : ans = false := HBad.out (by
              unfold elemB
              rw [← HX.out, HR.out, ← HM.out, ← HY.out, hL]
              have : ¬ j = 0 := fun e => by rw [e] at b1; simp at b1
              simp [this])
            clear hL
            go_wp2
            refine wp_region_quiet_below (by kernel_rfl) (by kernel_rfl) ?_
            repeat (any_goals (first | go_big_quiet_step (first | with_reducible exact cA _ _ | with_reducible exact cD _ _) | quiet_step (first | with_reducible exact cA _ _ | with_reducible exact cD _ _)))
            refine wpQuiet_nil ?_
            intro _ hw'
            obtain ⟨⟨dq, osq⟩, hw''⟩ := hw'
            subst hw''
            have hBq := below_regrown wr dq osq
            generalize grow (redrawn wr dq) osq = wq at *
            go_wp2
            go_ret
            exact ⟨rfl, hBw.trans (hBq.mono hBw.size)⟩
          | true =>
            rw [hL] at hd
            have HK2 : Hid (∀ i, i < j + 1 → elemB ⟨gt, gr⟩ l k i = true) := fun i hi => by
              rcases Nat.lt_or_ge i j with h | h
              · exact HK.out i h
              · obtain rfl : i = j := by omega
                unfold elemB
                rw [← HX.out, HR.out, ← HM.out, ← HY.out, hL]
                simp
            clear hL
            go_wp2
            refine wp_region_quiet_below (by kernel_rfl) (by kernel_rfl) ?_
            repeat (any_goals (first | go_big_quiet_step (first | with_reducible exact cA _ _ | with_reducible exact cD _ _) | quiet_step (first | with_reducible exact cA _ _ | with_reducible exact cD _ _)))
            refine wpQuiet_nil ?_
            intro _ hw'
            obtain ⟨⟨dq, osq⟩, hw''⟩ := hw'
            subst hw''
            have hBq := below_regrown wr dq osq
            generalize grow (redrawn wr dq) osq = wq at *
            clear b5
            go_wp2
            go_roundw
            case rel => exact ⟨j + 1, by omega, by go_num, HK2, hBr.trans (hBq.mono hBr.size)⟩
            case measure => simp [intOf]; omega
    · obtain rfl : j = n := by omega
      have hv : ans = (decide (1 ≤ j) && decide (j ≤ 2000)) := by
        rw [HV.out]
        unfold elemsB
        rw [allIx_true (fun i hi => HK.out i (by have := HN.out; omega)), ← HN.out]
        rfl
      by_cases h1 : 1 ≤ j
      · have t0 : (1 : Int) ≤ (j : Int) := by omega
        by_cases h2 : j ≤ 2000
        · obtain rfl : ans = true := by rw [hv]; simp [h1, h2]
          have t1 : (j : Int) ≤ 2000 := by omega
          clear hv
          go_wp2
          go_ret
          exact ⟨rfl, hBw⟩
        · obtain rfl : ans = false := by rw [hv]; simp; omega
          have t1 : ¬ (j : Int) ≤ 2000 := by omega
          clear hv
          go_wp2
          go_ret
          exact ⟨rfl, hBw⟩
      · obtain rfl : ans = false := by rw [hv]; simp; omega
        have t1 : ¬ (1 : Int) ≤ (j : Int) := by omega
        clear hv
        go_wp2
        go_ret
        exact ⟨rfl, hBw⟩
end Go.Proofs.YtalgbcgiiphoaaaGreatDoor
end
