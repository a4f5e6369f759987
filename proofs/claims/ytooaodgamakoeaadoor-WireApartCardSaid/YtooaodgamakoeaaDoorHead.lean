/- What the program says of a group beside its operations. Conditions: lengths in reach. -/
import Derived.Test.YtooaodgamakoeaaDoorChk2
namespace Go.Proofs.YtooaodgamakoeaaDoor
open Go.RowKit Go.Lib Go.Sort
set_option linter.unusedVariables false
theorem Calls.regrown_same {P : Program} {f : FuncId} {args : Array Value} {w : World} {d : Nat} {os : Array Obj} {v : Value}
    (h : Calls P f args (grow (redrawn w d) os) fun e w' => e = .returned v ∧ w' = grow (redrawn w d) os) : Calls P f args (grow (redrawn w d) os) fun e w'' => e = .returned v ∧ ∃ p : Regrown, w'' = grow (redrawn w p.d) p.os :=
  h.mono fun _ _ ⟨he, hb⟩ => ⟨he, ⟨d, os⟩, hb⟩
theorem VecR.regrown {w : World} {A : Option Addr} {v : List Int} (h : VecR w A v) (d : Nat) (os : Array Obj) : VecR (grow (redrawn w d) os) A v := h.below (below_regrown w d os)
set_option maxRecDepth 100000 in
set_option maxHeartbeats 4000000 in
theorem head_any (g : Grp) (dA : Option Addr) (dc : Nat) (oA : Option Addr) (oc : Nat) (w : World) (hl : g.deps.length ≤ dc) (hc : dc ≤ 9223372036854775807) (hn : i63 g.n) (hD : VecR w dA g.deps) :
    Calls Tryd.prog 55 #[.agg (grA g dA dc oA oc)] w fun e w' => e = .returned (.bool (headB g)) ∧ Below w.heap.size w w' := by
  obtain ⟨⟨t, r⟩, n, v, ⟨ut, ur⟩, ops⟩ := g
  obtain ⟨ans, ha⟩ : ∃ a, a = headB ⟨⟨t, r⟩, n, v, ⟨ut, ur⟩, ops⟩ := ⟨_, rfl⟩
  rw [← ha]
  have HV := Lib.hid ha
  clear ha
  unfold i63 at hn
  simp only at hl hn hD
  show Calls _ _ #[.agg #[.int .i64 t, .int .i64 r, .int .i64 n, .slice dA v.length dc, .int .i64 ut, .int .i64 ur, .slice oA ops.length oc]] _ _
  generalize ops.length = on
  obtain ⟨W, hW⟩ : ∃ W, W = w.alloc (.cells #[.int .i64 t, .int .i64 r, .int .i64 n, .slice dA v.length dc, .int .i64 ut, .int .i64 ur, .slice oA on oc] 34) := ⟨_, rfl⟩
  have hBW : Below w.heap.size w W := by subst hW; exact (Below.refl _ _).alloc (Nat.le_refl _) _
  have hD2 := hD.below hBW
  have hA : W.heap[w.heap.size]? = some (.cells #[.int .i64 t, .int .i64 r, .int .i64 n, .slice dA v.length dc, .int .i64 ut, .int .i64 ur, .slice oA on oc] 34 (0, 0)) := by subst hW; exact heap_alloc_new _ _
  have x0 := cell_regrown (w := W) (a := ⟨w.heap.size, 0, none⟩) (v := .int .i64 t) (by rw [cell_of_row _ _ _ _ _ _ hA]; rfl)
  have x1 := cell_regrown (w := W) (a := ⟨w.heap.size, 1, none⟩) (v := .int .i64 r) (by rw [cell_of_row _ _ _ _ _ _ hA]; rfl)
  have x2 := cell_regrown (w := W) (a := ⟨w.heap.size, 2, none⟩) (v := .int .i64 n) (by rw [cell_of_row _ _ _ _ _ _ hA]; rfl)
  have x3 := cell_regrown (w := W) (a := ⟨w.heap.size, 3, none⟩) (v := .slice dA v.length dc) (by rw [cell_of_row _ _ _ _ _ _ hA]; rfl)
  have cR := fun d os => Calls.regrown_of (right_any t r (grow (redrawn W d) os))
  have cV := fun d os => Calls.regrown_same (vector_any dA dc v (grow (redrawn W d) os) hl (by omega) (hD2.regrown d os))
  have cA := fun d os => Calls.regrown_same (at_any dA dc v r (grow (redrawn W d) os) (by omega) (hD2.regrown d os))
  have hlv : v.length ≤ 9223372036854775807 := by omega
  have HW := Lib.hid hW
  clear hA hD hD2
  cases hR : Gst.right ⟨t, r⟩ with
  | false =>
    rw [hR] at cR
    obtain rfl : ans = false := by rw [HV.out]; simp [headB, hR]
    clear hR cV cA hW
    go_enter Tryd.func55, Tryd.ntmps55
    go_wp2
    rw [← HW.out]
    refine wp_region_quiet_below (by kernel_rfl) (by kernel_rfl) ?_
    repeat (any_goals (first | go_big_quiet_step (with_reducible exact cR _ _) | quiet_step (with_reducible exact cR _ _)))
    refine wpQuiet_nil ?_
    intro _ hw'
    obtain ⟨⟨dq, osq⟩, hw''⟩ := hw'
    subst hw''
    have hBq := below_regrown W dq osq
    generalize grow (redrawn W dq) osq = wq at *
    go_wp2
    go_ret
    exact ⟨rfl, hBW.trans (hBq.mono hBW.size)⟩
  | true =>
  rw [hR] at cR
  have HR := Lib.hid hR
  clear hR
  by_cases h1 : 1 ≤ n
  · by_cases h2 : n ≤ 1099511627776
    · have hw : IntKind.i64.wrap (n - 1) = n - 1 := IntWalk.i64_in _ (by omega)
      cases hV : vecB v with
      | false =>
        rw [hV] at cV
        obtain rfl : ans = false := by rw [HV.out]; simp [headB, hV]
        clear hV cA hW hw
        go_enter Tryd.func55, Tryd.ntmps55
        go_wp2
        rw [← HW.out]
        refine wp_region_quiet_below (by kernel_rfl) (by kernel_rfl) ?_
        repeat (any_goals (first | go_big_quiet_step (first | with_reducible exact cR _ _ | with_reducible exact cV _ _) | quiet_step (first | with_reducible exact cR _ _ | with_reducible exact cV _ _)))
        refine wpQuiet_nil ?_
        intro _ hw'
        obtain ⟨⟨dq, osq⟩, hw''⟩ := hw'
        subst hw''
        have hBq := below_regrown W dq osq
        generalize grow (redrawn W dq) osq = wq at *
        go_wp2
        go_ret
        exact ⟨rfl, hBW.trans (hBq.mono hBW.size)⟩
      | true =>
        rw [hV] at cV
        have HVV := Lib.hid hV
        have hv : ans = decide (atV v r = n - 1) := by rw [HV.out]; simp [headB, HR.out, HVV.out, h1, h2]
        generalize atV v r = a at *
        clear hV hW
        by_cases h3 : a = n - 1
        · obtain rfl : ans = true := by rw [hv]; exact decide_eq_true h3
          have t3 : (a == n - 1) = true := by rw [beq_iff_eq]; exact h3
          clear hv h3
          go_enter Tryd.func55, Tryd.ntmps55
          go_wp2
          rw [← HW.out]
          refine wp_region_quiet_below (by kernel_rfl) (by kernel_rfl) ?_
          repeat (any_goals (first | go_big_quiet_step (first | with_reducible exact cR _ _ | with_reducible exact cV _ _ | with_reducible exact cA _ _) | quiet_step (first | with_reducible exact cR _ _ | with_reducible exact cV _ _ | with_reducible exact cA _ _)))
          refine wpQuiet_nil ?_
          intro _ hw'
          obtain ⟨⟨dq, osq⟩, hw''⟩ := hw'
          subst hw''
          have hBq := below_regrown W dq osq
          generalize grow (redrawn W dq) osq = wq at *
          clear hw
          go_wp2
          go_ret
          exact ⟨rfl, hBW.trans (hBq.mono hBW.size)⟩
        · obtain rfl : ans = false := by rw [hv]; exact decide_eq_false h3
          have t3 : (a == n - 1) = false := by rw [beq_eq_false_iff_ne]; exact h3
          clear hv h3
          go_enter Tryd.func55, Tryd.ntmps55
          go_wp2
          rw [← HW.out]
          refine wp_region_quiet_below (by kernel_rfl) (by kernel_rfl) ?_
          repeat (any_goals (first | go_big_quiet_step (first | with_reducible exact cR _ _ | with_reducible exact cV _ _ | with_reducible exact cA _ _) | quiet_step (first | with_reducible exact cR _ _ | with_reducible exact cV _ _ | with_reducible exact cA _ _)))
          refine wpQuiet_nil ?_
          intro _ hw'
          obtain ⟨⟨dq, osq⟩, hw''⟩ := hw'
          subst hw''
          have hBq := below_regrown W dq osq
          generalize grow (redrawn W dq) osq = wq at *
          clear hw
          go_wp2
          go_ret
          exact ⟨rfl, hBW.trans (hBq.mono hBW.size)⟩
    · obtain rfl : ans = false := by rw [HV.out]; simp [headB, h2]
      have t2 : decide (n ≤ 1099511627776) = false := decide_eq_false h2
      clear cV cA hW
      go_enter Tryd.func55, Tryd.ntmps55
      go_wp2
      rw [← HW.out]
      refine wp_region_quiet_below (by kernel_rfl) (by kernel_rfl) ?_
      repeat (any_goals (first | go_big_quiet_step (with_reducible exact cR _ _) | quiet_step (with_reducible exact cR _ _)))
      refine wpQuiet_nil ?_
      intro _ hw'
      obtain ⟨⟨dq, osq⟩, hw''⟩ := hw'
      subst hw''
      have hBq := below_regrown W dq osq
      generalize grow (redrawn W dq) osq = wq at *
      go_wp2
      go_ret
      exact ⟨rfl, hBW.trans (hBq.mono hBW.size)⟩
  · obtain rfl : ans = false := by rw [HV.out]; simp [headB, h1]
    have t1 : decide (1 ≤ n) = false := decide_eq_false h1
    clear cV cA hW
    go_enter Tryd.func55, Tryd.ntmps55
    go_wp2
    rw [← HW.out]
    refine wp_region_quiet_below (by kernel_rfl) (by kernel_rfl) ?_
    repeat (any_goals (first | go_big_quiet_step (with_reducible exact cR _ _) | quiet_step (with_reducible exact cR _ _)))
    refine wpQuiet_nil ?_
    intro _ hw'
    obtain ⟨⟨dq, osq⟩, hw''⟩ := hw'
    subst hw''
    have hBq := below_regrown W dq osq
    generalize grow (redrawn W dq) osq = wq at *
    go_wp2
    go_ret
    exact ⟨rfl, hBW.trans (hBq.mono hBW.size)⟩
end Go.Proofs.YtooaodgamakoeaaDoor
