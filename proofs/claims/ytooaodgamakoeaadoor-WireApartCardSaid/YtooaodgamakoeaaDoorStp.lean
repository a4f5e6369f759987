/- What the program's functions of stamps compute. No condition. -/
import Derived.Test.YtooaodgamakoeaaDoorWords
import Derived.Test.YtooaodgamakoeaaDoorGrp
import Derived.Deep.QuietTactic
import Derived.BigQuiet
import Derived.Deep.RegionHeld3
import Derived.Deep.DrawnRows
import Derived.Lib.QuietBelow
namespace Go.Proofs.YtooaodgamakoeaaDoor
open Go.RowKit Go.Lib Go.Sort
set_option linter.unusedVariables false
attribute [local go_sem ↓] Go.wp_at_zero Go.wp_at_succ
def orI (x y : Int) : Int := if x = 0 then y else x
def cmpI (x y : Int) : Int := if x < y then -1 else if y < x then 1 else 0
/-- the order of stamps, as the program says it -/
def cmpS (a b : Gst) : Int := orI (cmpI a.t b.t) (cmpI a.r b.r)
theorem cmpS_lt (a b : Gst) : decide (cmpS a b < 0) = a.lt b := by
  rw [Bool.eq_iff_iff, decide_eq_true_eq]
  simp only [cmpS, orI, cmpI, Gst.lt, Bool.or_eq_true, Bool.and_eq_true, decide_eq_true_eq]
  repeat' split
  all_goals omega
theorem cmpS_gt (a b : Gst) : decide (0 < cmpS a b) = b.lt a := by
  rw [Bool.eq_iff_iff, decide_eq_true_eq]
  simp only [cmpS, orI, cmpI, Gst.lt, Bool.or_eq_true, Bool.and_eq_true, decide_eq_true_eq]
  repeat' split
  all_goals omega
theorem cmpS_ge (a b : Gst) : decide (0 ≤ cmpS a b) = !a.lt b := by
  rw [← cmpS_lt, Bool.eq_iff_iff]
  simp
theorem below_dn {B : Nat} {a w : World} (h : Below B a w) (n : Nat) : Below B a (w.drewN n) := ⟨h.os, h.tape, h.output, h.size, h.block⟩
theorem ret_bool {a b : Bool} (h : a = b) : Ending.returned (Value.bool a) = .returned (.bool b) := by rw [h]
/-- a stamp, an id, as a value -/
def stV (s : Gst) : Value := .agg #[.int .i64 s.t, .int .i64 s.r]
def idV (x : Gid) : Value := .agg #[.int .i64 x.s.t, .int .i64 x.s.r, .int .i64 x.i]
set_option maxRecDepth 100000 in
set_option maxHeartbeats 2000000 in
theorem right_any (t r : Int) (w : World) :
    Calls Tryd.prog 56 #[.agg #[.int .i64 t, .int .i64 r]] w fun e w' => e = .returned (.bool (Gst.right ⟨t, r⟩)) ∧ Below w.heap.size w w' := by
  obtain ⟨v, hv⟩ : ∃ v, v = Gst.right ⟨t, r⟩ := ⟨_, rfl⟩
  have HV := Lib.hid hv
  rw [← hv]
  clear hv
  go_enter Tryd.func56, Tryd.ntmps56
  go_wp2
  all_goals
    go_ret
    refine ⟨ret_bool ?_, (Below.refl _ _).alloc (Nat.le_refl _) _⟩
    rw [HV.out]
    simp [Gst.right]
    try omega
set_option maxRecDepth 100000 in
set_option maxHeartbeats 2000000 in
theorem compare_any (x y : Int) (w : World) :
    Calls Tryd.prog 89 #[.int .i64 x, .int .i64 y] w fun e w' => e = .returned (.int .i64 (cmpI x y)) ∧ w' = w := by
  obtain ⟨v, hv⟩ : ∃ v, v = cmpI x y := ⟨_, rfl⟩
  have HV := Lib.hid hv
  rw [← hv]
  clear hv
  go_enter Tryd.func89, Tryd.ntmps89
  go_wp2
  all_goals
    go_ret
    refine ⟨ret_int ?_, rfl⟩
    rw [HV.out]
    unfold cmpI
    first | rw [if_pos (by omega)] | rw [if_neg (by omega), if_pos (by omega)] | rw [if_neg (by omega), if_neg (by omega)]
set_option maxRecDepth 100000 in
set_option maxHeartbeats 2000000 in
theorem or_any (b : Nat) (x y : Int) (w : World) (h0 : w.cell? ⟨b, 0, none⟩ = some (.int .i64 x)) (h1 : w.cell? ⟨b, 1, none⟩ = some (.int .i64 y)) :
    Calls Tryd.prog 88 #[.slice (some ⟨b, 0, none⟩) 2 2] w fun e w' => e = .returned (.int .i64 (orI x y)) ∧ w' = w := by
  go_enter Tryd.func88, Tryd.ntmps88
  by_cases hx : x = 0
  · subst hx
    have hv : orI 0 y = y := by unfold orI; rw [if_pos rfl]
    rw [hv]
    clear hv
    by_cases hy : y = 0
    · subst hy
      go_wp2
      go_loop [8] (fun i => ∃ k : Nat, k ≤ 2 ∧ i = .int .i64 k) (fun i => 2 - (intOf i).toNat)
      case atStart => exact ⟨0, by omega, rfl⟩
      case round =>
        obtain ⟨k, hk, rfl⟩ := hrel
        obtain rfl | rfl | rfl : k = 0 ∨ k = 1 ∨ k = 2 := by omega
        · go_wp2
          go_round
          case rel => exact ⟨1, by omega, rfl⟩
          case measure => simp [intOf]
        · go_wp2
          go_round
          case rel => exact ⟨2, by omega, rfl⟩
          case measure => simp [intOf]
        · go_wp2
          go_ret
          exact ⟨rfl, rfl⟩
    · have t1 : (y != 0) = true := by rw [bne_iff_ne]; exact hy
      go_wp2
      go_loop [8] (fun i => ∃ k : Nat, k ≤ 1 ∧ i = .int .i64 k) (fun i => 2 - (intOf i).toNat)
      case atStart => exact ⟨0, by omega, rfl⟩
      case round =>
        obtain ⟨k, hk, rfl⟩ := hrel
        obtain rfl | rfl : k = 0 ∨ k = 1 := by omega
        · go_wp2
          go_round
          case rel => exact ⟨1, by omega, rfl⟩
          case measure => simp [intOf]
        · go_wp2
          go_ret
          exact ⟨rfl, rfl⟩
  · have t1 : (x != 0) = true := by rw [bne_iff_ne]; exact hx
    have hv : orI x y = x := by unfold orI; rw [if_neg hx]
    rw [hv]
    clear hv
    go_wp2
    go_loop [8] (fun i => i = .int .i64 0) (fun i => 2 - (intOf i).toNat)
    case atStart => rfl
    case round =>
      obtain rfl := hrel
      go_wp2
      go_ret
      exact ⟨rfl, rfl⟩
theorem or_new (x y : Int) (w : World) (n : Nat) (T : TypeId) (hn : w.heap.size = n) :
    Calls Tryd.prog 88 #[.slice (some ⟨n, 0, none⟩) 2 2] (w.alloc (.cells #[.int .i64 x, .int .i64 y] T)).drew fun e w' => e = .returned (.int .i64 (orI x y)) ∧ w' = (w.alloc (.cells #[.int .i64 x, .int .i64 y] T)).drew := by
  subst hn
  have hb : (w.alloc (.cells #[.int .i64 x, .int .i64 y] T)).drew.heap[w.heap.size]? = some (.cells #[.int .i64 x, .int .i64 y] T (0, 0)) := heap_alloc_new w _
  exact or_any _ _ _ _ (by rw [cell_of_row _ _ _ _ _ _ hb]; rfl) (by rw [cell_of_row _ _ _ _ _ _ hb]; rfl)
set_option maxRecDepth 100000 in
set_option maxHeartbeats 2000000 in
theorem cmp_any (t r t' r' : Int) (w : World) :
    Calls Tryd.prog 57 #[.agg #[.int .i64 t, .int .i64 r], .agg #[.int .i64 t', .int .i64 r']] w fun e w' => e = .returned (.int .i64 (cmpS ⟨t, r⟩ ⟨t', r'⟩)) ∧ Below w.heap.size w w' := by
  go_enter Tryd.func57, Tryd.ntmps57
  go_wp2
  go_region_held3 (fun w' => w'.cell? ⟨w.heap.size, 0, none⟩ = some (.int .i64 t) ∧ w'.cell? ⟨w.heap.size, 1, none⟩ = some (.int .i64 r) ∧ w'.cell? ⟨w.heap.size + 1, 0, none⟩ = some (.int .i64 t') ∧ w'.cell? ⟨w.heap.size + 1, 1, none⟩ = some (.int .i64 r')) (go_keep) (first
    | (go_at_call_of 89 (t); refine (compare_any _ _ _).mono ?_; rintro e w1 ⟨rfl, rfl⟩)
    | (go_at_call_of 89 (r); refine (compare_any _ _ _).mono ?_; rintro e w1 ⟨rfl, rfl⟩)
    | (go_at_call 88; refine (or_new _ _ _ _ _ (by simp)).mono ?_; rintro e w1 ⟨rfl, rfl⟩))
  all_goals
    go_wp2
    go_ret
    exact ⟨rfl, ((((Below.refl _ _).alloc (Nat.le_refl _) _).alloc (by simp) _).alloc (by simp; omega) _).drew⟩
set_option maxRecDepth 100000 in
set_option maxHeartbeats 2000000 in
theorem rightid_any (t r i : Int) (w : World) :
    Calls Tryd.prog 116 #[.agg #[.int .i64 t, .int .i64 r, .int .i64 i]] w fun e w' => e = .returned (.bool (Gid.right ⟨⟨t, r⟩, i⟩)) ∧ Below w.heap.size w w' := by
  obtain ⟨v, hv⟩ : ∃ v, v = Gid.right ⟨⟨t, r⟩, i⟩ := ⟨_, rfl⟩
  have HV := Lib.hid hv
  rw [← hv]
  clear hv
  cases hs : Gst.right ⟨t, r⟩ with
  | false =>
    have HS := Lib.hid hs
    clear hs
    go_enter Tryd.func116, Tryd.ntmps116
    go_wp2_with fail
    refine (right_any _ _ _).mono ?_
    rw [HS.out]
    rintro e w1 ⟨rfl, hB⟩
    go_wp2
    go_ret
    refine ⟨ret_bool ?_, ((Below.refl _ _).alloc (Nat.le_refl _) _).trans (hB.mono (by simp))⟩
    rw [HV.out]
    simp [Gid.right, HS.out]
  | true =>
    have HS := Lib.hid hs
    clear hs
    go_enter Tryd.func116, Tryd.ntmps116
    go_wp2_with fail
    refine (right_any _ _ _).mono ?_
    rw [HS.out]
    rintro e w1 ⟨rfl, hB⟩
    have hc : w1.cell? ⟨w.heap.size, 2, none⟩ = some (.int .i64 i) := by
      rw [hB.cell (by simp)]; go_simp
    go_wp2
    all_goals
      go_ret
      refine ⟨ret_bool ?_, ((Below.refl _ _).alloc (Nat.le_refl _) _).trans (hB.mono (by simp))⟩
      rw [HV.out]
      simp [Gid.right, HS.out]
      try omega
theorem eq_st (a b c d : Int) (v : Bool) (h : Gst.eqb ⟨a, b⟩ ⟨c, d⟩ = v) (w : World) : (binOp .eql 25 (.agg #[.int .i64 a, .int .i64 b]) (.agg #[.int .i64 c, .int .i64 d])).run Tryd.prog w = .ok (.bool v) w := by
  subst h
  go_simp
  simp only [Gst.eqb]
  by_cases h1 : a = c <;> by_cases h2 : b = d <;> simp [h1, h2]
theorem eq_id (a b i c d j : Int) (v : Bool) (h : Gid.eqb ⟨⟨a, b⟩, i⟩ ⟨⟨c, d⟩, j⟩ = v) (w : World) : (binOp .eql 27 (.agg #[.int .i64 a, .int .i64 b, .int .i64 i]) (.agg #[.int .i64 c, .int .i64 d, .int .i64 j])).run Tryd.prog w = .ok (.bool v) w := by
  subst h
  go_simp
  simp only [Gid.eqb, Gst.eqb]
  by_cases h1 : a = c <;> by_cases h2 : b = d <;> by_cases h3 : i = j <;> simp [h1, h2, h3]
theorem ne_st (a b c d : Int) (v : Bool) (h : Gst.eqb ⟨a, b⟩ ⟨c, d⟩ = v) (w : World) : (binOp .neq 25 (.agg #[.int .i64 a, .int .i64 b]) (.agg #[.int .i64 c, .int .i64 d])).run Tryd.prog w = .ok (.bool !v) w := by
  subst h
  go_simp
  simp only [Gst.eqb]
  by_cases h1 : a = c <;> by_cases h2 : b = d <;> simp [h1, h2]
theorem ne_id (a b i c d j : Int) (v : Bool) (h : Gid.eqb ⟨⟨a, b⟩, i⟩ ⟨⟨c, d⟩, j⟩ = v) (w : World) : (binOp .neq 27 (.agg #[.int .i64 a, .int .i64 b, .int .i64 i]) (.agg #[.int .i64 c, .int .i64 d, .int .i64 j])).run Tryd.prog w = .ok (.bool !v) w := by
  subst h
  go_simp
  simp only [Gid.eqb, Gst.eqb]
  by_cases h1 : a = c <;> by_cases h2 : b = d <;> by_cases h3 : i = j <;> simp [h1, h2, h3]
set_option maxRecDepth 100000 in
set_option maxHeartbeats 2000000 in
theorem ahead_any (b : Nat) (g : Gst) (k : Nat) (x : Gid) (w : World) (h0 : w.cell? ⟨b, 0, none⟩ = some (.int .i64 g.t)) (h1 : w.cell? ⟨b, 1, none⟩ = some (.int .i64 g.r)) (h7 : w.cell? ⟨b, 7, none⟩ = some (.int .i64 k)) :
    Calls Tryd.prog 94 #[.pointer (some ⟨b, 0, none⟩), idV x] w fun e w' => e = .returned (.bool (aheadB g x k)) ∧ Below w.heap.size w w' := by
  obtain ⟨⟨t, r⟩, i⟩ := x
  obtain ⟨gt, gr⟩ := g
  show Calls _ _ #[_, .agg #[.int .i64 t, .int .i64 r, .int .i64 i]] _ _
  simp only at h0 h1
  have k0 := cell_regrown (w := w.alloc (.cells #[.int .i64 t, .int .i64 r, .int .i64 i] 27)) (a := ⟨b, 0, none⟩) (v := .int .i64 gt) (by rw [World.cell?_alloc_lt _ _ _ (lt_of_cell h0)]; exact h0)
  have k1 := cell_regrown (w := w.alloc (.cells #[.int .i64 t, .int .i64 r, .int .i64 i] 27)) (a := ⟨b, 1, none⟩) (v := .int .i64 gr) (by rw [World.cell?_alloc_lt _ _ _ (lt_of_cell h1)]; exact h1)
  have k7 := cell_regrown (w := w.alloc (.cells #[.int .i64 t, .int .i64 r, .int .i64 i] 27)) (a := ⟨b, 7, none⟩) (v := .int .i64 k) (by rw [World.cell?_alloc_lt _ _ _ (lt_of_cell h7)]; exact h7)
  have x0 := cell_regrown (w := w.alloc (.cells #[.int .i64 t, .int .i64 r, .int .i64 i] 27)) (a := ⟨w.heap.size, 0, none⟩) (v := .int .i64 t) (by go_simp)
  have x1 := cell_regrown (w := w.alloc (.cells #[.int .i64 t, .int .i64 r, .int .i64 i] 27)) (a := ⟨w.heap.size, 1, none⟩) (v := .int .i64 r) (by go_simp)
  have x2 := cell_regrown (w := w.alloc (.cells #[.int .i64 t, .int .i64 r, .int .i64 i] 27)) (a := ⟨w.heap.size, 2, none⟩) (v := .int .i64 i) (by go_simp)
  clear h0 h1 h7
  have cR := fun d os => Calls.regrown_of (rightid_any t r i (grow (redrawn (w.alloc (.cells #[.int .i64 t, .int .i64 r, .int .i64 i] 27)) d) os))
  have cC := fun d os => Calls.regrown_of (cmp_any t r gt gr (grow (redrawn (w.alloc (.cells #[.int .i64 t, .int .i64 r, .int .i64 i] 27)) d) os))
  have hc := cmpS_lt ⟨t, r⟩ ⟨gt, gr⟩
  cases hR : Gid.right ⟨⟨t, r⟩, i⟩ with
  | false =>
    rw [hR] at cR
    have HR := Lib.hid hR
    clear hR cC hc
    go_enter Tryd.func94, Tryd.ntmps94
    go_wp2
    refine wp_region_quiet_below (by kernel_rfl) (by kernel_rfl) ?_
    repeat (any_goals (first | go_big_quiet_step (first | exact cR _ _) | quiet_step (first | exact cR _ _)))
    refine wpQuiet_nil ?_
    intro _ hw'
    obtain ⟨⟨dq, osq⟩, hw''⟩ := hw'
    subst hw''
    have hBq := below_regrown (w.alloc (.cells #[.int .i64 t, .int .i64 r, .int .i64 i] 27)) dq osq
    generalize grow (redrawn (w.alloc (.cells #[.int .i64 t, .int .i64 r, .int .i64 i] 27)) dq) osq = wq at *
    go_wp2
    go_ret
    refine ⟨ret_bool ?_, ?_⟩
    · simp [aheadB, HR.out]
    · exact ((Below.refl _ _).alloc (Nat.le_refl _) _).trans (hBq.mono (by simp))
  | true =>
    rw [hR] at cR
    have HR := Lib.hid hR
    clear hR
    cases hL : Gst.lt ⟨t, r⟩ ⟨gt, gr⟩ with
    | true =>
      rw [hL] at hc
      have HL := Lib.hid hL
      clear hL
      go_enter Tryd.func94, Tryd.ntmps94
      go_wp2
      refine wp_region_quiet_below (by kernel_rfl) (by kernel_rfl) ?_
      repeat (any_goals (first | go_big_quiet_step (first | exact cR _ _ | exact cC _ _) | quiet_step (first | exact cR _ _ | exact cC _ _)))
      refine wpQuiet_nil ?_
      intro _ hw'
      obtain ⟨⟨dq, osq⟩, hw''⟩ := hw'
      subst hw''
      have hBq := below_regrown (w.alloc (.cells #[.int .i64 t, .int .i64 r, .int .i64 i] 27)) dq osq
      generalize grow (redrawn (w.alloc (.cells #[.int .i64 t, .int .i64 r, .int .i64 i] 27)) dq) osq = wq at *
      go_wp2
      go_ret
      refine ⟨ret_bool ?_, ?_⟩
      · simp [aheadB, HR.out, HL.out]
      · exact ((Below.refl _ _).alloc (Nat.le_refl _) _).trans (hBq.mono (by simp))
    | false =>
      rw [hL] at hc
      have HL := Lib.hid hL
      clear hL
      cases hE : Gst.eqb ⟨t, r⟩ ⟨gt, gr⟩ with
      | false =>
        have he := eq_st t r gt gr false hE
        have HE := Lib.hid hE
        clear hE
        go_enter Tryd.func94, Tryd.ntmps94
        go_wp2
        refine wp_region_quiet_below (by kernel_rfl) (by kernel_rfl) ?_
        repeat (any_goals (first | go_big_quiet_step (first | exact cR _ _ | exact cC _ _) | quiet_step (first | exact cR _ _ | exact cC _ _)))
        refine wpQuiet_nil ?_
        intro _ hw'
        obtain ⟨⟨dq, osq⟩, hw''⟩ := hw'
        subst hw''
        have hBq := below_regrown (w.alloc (.cells #[.int .i64 t, .int .i64 r, .int .i64 i] 27)) dq osq
        generalize grow (redrawn (w.alloc (.cells #[.int .i64 t, .int .i64 r, .int .i64 i] 27)) dq) osq = wq at *
        go_wp2
        go_ret
        refine ⟨ret_bool ?_, ?_⟩
        · simp [aheadB, HR.out, HL.out, HE.out]
        · exact ((Below.refl _ _).alloc (Nat.le_refl _) _).trans (hBq.mono (by simp))
      | true =>
        have he := eq_st t r gt gr true hE
        have HE := Lib.hid hE
        clear hE
        go_enter Tryd.func94, Tryd.ntmps94
        go_wp2
        refine wp_region_quiet_below (by kernel_rfl) (by kernel_rfl) ?_
        repeat (any_goals (first | go_big_quiet_step (first | exact cR _ _ | exact cC _ _) | quiet_step (first | exact cR _ _ | exact cC _ _)))
        refine wpQuiet_nil ?_
        intro _ hw'
        obtain ⟨⟨dq, osq⟩, hw''⟩ := hw'
        subst hw''
        have hBq := below_regrown (w.alloc (.cells #[.int .i64 t, .int .i64 r, .int .i64 i] 27)) dq osq
        generalize grow (redrawn (w.alloc (.cells #[.int .i64 t, .int .i64 r, .int .i64 i] 27)) dq) osq = wq at *
        go_wp2
        go_ret
        refine ⟨ret_bool ?_, ?_⟩
        · simp [aheadB, HR.out, HL.out, HE.out]
        · exact ((Below.refl _ _).alloc (Nat.le_refl _) _).trans (hBq.mono (by simp))
end Go.Proofs.YtooaodgamakoeaaDoor
