/- Vectors: does one cover another? Conditions: lengths in reach. -/
import Derived.Test.YtalgbcgiiphoaaaGreatDoorSA
import Derived.Test.YtalgbcgiiphoaaaGreatDoorPA
namespace Go.Proofs.YtalgbcgiiphoaaaGreatDoor
open Go.RowKit Go.Lib Go.Sort
set_option linter.unusedVariables false
set_option maxRecDepth 100000 in
set_option maxHeartbeats 4000000 in
theorem covers_any (A B : Option Addr) (c d : Nat) (v u : List Int) (w : World) (hv : v.length ≤ 9223372036854775806) (hu : u.length ≤ 9223372036854775806) (hA : VecR w A v) (hB : VecR w B u) :
    Calls Tryz.prog 80 #[.slice A v.length c, .slice B u.length d] w fun e w' => e = .returned (.bool (covB v u)) ∧ w' = w := by
  obtain ⟨ans, hans⟩ : ∃ r, r = covB v u := ⟨_, rfl⟩
  rw [← hans]
  obtain ⟨m, hm⟩ : ∃ m, m = max v.length u.length := ⟨_, rfl⟩
  have HANS := Lib.hid (show ans = allIx m fun r => decide (u.getD r 0 ≤ v.getD r 0) by rw [hans, hm]; rfl)
  have hm2 := Lib.hid hm
  have hml : m ≤ 9223372036854775806 := by omega
  have CA := Lib.hid (fun r => at_any A c v r w (by omega) hA)
  have CB := Lib.hid (fun r => at_any B d u r w (by omega) hB)
  clear hans hm hA hB
  go_enter Tryz.func80, Tryz.ntmps80
  by_cases hlt0 : (v.length : Int) < (u.length : Int)
  all_goals
    go_wp2_with fail
    first
      | rw [show (u.length : Int) = (m : Int) from by have := hm2.out; omega]
      | rw [show (v.length : Int) = (m : Int) from by have := hm2.out; omega]
    clear hlt0
    go_loop [11] (fun i => ∃ k : Nat, i = .int .i64 k ∧ k ≤ m ∧ Hid (∀ j, j < k → decide (u.getD j 0 ≤ v.getD j 0) = true)) (fun i => m - (RowKit.intOf i).toNat)
    case atStart => exact ⟨0, rfl, Nat.zero_le _, Lib.hid (fun j hj => absurd hj (Nat.not_lt_zero j))⟩
    case round =>
      obtain ⟨k, rfl, hk, HK⟩ := hrel
      by_cases hlt : k < m
      · have i1 : (k : Int) < (m : Int) := by omega
        have ha : atV v ((k : Int) + 1) = v.getD k 0 := atV_in
        have hb : atV u ((k : Int) + 1) = u.getD k 0 := atV_in
        have CA1 := Lib.hid (CA.out ((k : Int) + 1))
        have CB1 := Lib.hid (CB.out ((k : Int) + 1))
        rw [ha] at CA1
        rw [hb] at CB1
        obtain ⟨x, hx⟩ : ∃ x, x = v.getD k 0 := ⟨_, rfl⟩
        obtain ⟨y, hy⟩ : ∃ y, y = u.getD k 0 := ⟨_, rfl⟩
        rw [← hx] at CA1
        rw [← hy] at CB1
        have HX := Lib.hid hx
        have HY := Lib.hid hy
        clear ha hb hx hy
        by_cases hle : y ≤ x
        · have t1 : ¬ x < y := by omega
          have t2 : decide (x < y) = false := decide_eq_false t1
          have HK2 := Lib.hid (show ∀ j, j < k + 1 → decide (u.getD j 0 ≤ v.getD j 0) = true from fun j hj => if h : j < k then HK.out j h else (by (obtain rfl : j = k := (by omega)); rw [← HX.out, ← HY.out]; exact decide_eq_true hle))
          go_wp2_with fail
          refine CA1.out.mono ?_
          rintro e w1 ⟨rfl, rfl⟩
          go_wp2_with fail
          refine CB1.out.mono ?_
          rintro e w1 ⟨rfl, rfl⟩
          go_wp2
          go_round
          case rel => exact ⟨k + 1, by go_num, by omega, HK2⟩
          case measure => simp [RowKit.intOf]; omega
        · have t1 : x < y := by omega
          have t2 : decide (x < y) = true := decide_eq_true t1
          obtain rfl : ans = false := by rw [HANS.out]; exact allIx_false hlt (by rw [← HX.out, ← HY.out]; exact decide_eq_false hle)
          go_wp2_with fail
          refine CA1.out.mono ?_
          rintro e w1 ⟨rfl, rfl⟩
          go_wp2_with fail
          refine CB1.out.mono ?_
          rintro e w1 ⟨rfl, rfl⟩
          go_wp2
          go_ret
          exact ⟨rfl, rfl⟩
      · obtain rfl : k = m := by omega
        obtain rfl : ans = true := by rw [HANS.out]; exact allIx_true HK.out
        have i2 : ¬ (k : Int) < (k : Int) := by omega
        go_wp2
        go_ret
        exact ⟨rfl, rfl⟩
set_option maxRecDepth 100000 in
set_option maxHeartbeats 4000000 in
theorem refcovers_any (A B : Option Addr) (c d : Nat) (v u : List Int) (w : World) (hv : v.length ≤ 9223372036854775800) (hu : u.length ≤ 9223372036854775800) (hA : VecR w A v) (hB : VecR w B u) :
    Calls Tryz.prog 89 #[.slice A v.length c, .slice B u.length d] w fun e w' => e = .returned (.bool (covB v u)) ∧ w' = w := by
  obtain ⟨ans, hans⟩ : ∃ r, r = covB v u := ⟨_, rfl⟩
  rw [← hans]
  obtain ⟨m, hm⟩ : ∃ m, m = max v.length u.length := ⟨_, rfl⟩
  have HANS := Lib.hid (show ans = allIx m fun r => decide (u.getD r 0 ≤ v.getD r 0) by rw [hans, hm]; rfl)
  have hml : m ≤ 9223372036854775806 := by omega
  have HM := Lib.hid hm
  have CA := Lib.hid (fun r => refat_any A c v r w (by omega) hA)
  have CB := Lib.hid (fun r => refat_any B d u r w (by omega) hB)
  clear hans hm hA hB
  go_enter Tryz.func89, Tryz.ntmps89
  by_cases hlt0 : (v.length : Int) < (u.length : Int)
  all_goals
    go_wp2_with fail
    go_loop [5] (fun i => ∃ k : Nat, i = .int .i64 ((k : Int) + 1) ∧ k ≤ m ∧ Hid (∀ j, j < k → decide (u.getD j 0 ≤ v.getD j 0) = true)) (fun i => m + 1 - (RowKit.intOf i).toNat)
    case atStart => exact ⟨0, by go_num, Nat.zero_le _, Lib.hid (fun j hj => absurd hj (Nat.not_lt_zero j))⟩
    case round =>
      obtain ⟨k, rfl, hk, HK⟩ := hrel
      by_cases hlt : k < m
      · have i1 : (k : Int) + 1 ≤ (u.length : Int) ∨ (k : Int) + 1 ≤ (v.length : Int) := by have := HM.out; omega
        have i2 : (k : Int) + 1 ≤ (m : Int) := by omega
        have ha : atV v ((k : Int) + 1) = v.getD k 0 := atV_in
        have hb : atV u ((k : Int) + 1) = u.getD k 0 := atV_in
        have CA1 := Lib.hid (CA.out ((k : Int) + 1))
        have CB1 := Lib.hid (CB.out ((k : Int) + 1))
        rw [ha] at CA1
        rw [hb] at CB1
        obtain ⟨x, hx⟩ : ∃ x, x = v.getD k 0 := ⟨_, rfl⟩
        obtain ⟨y, hy⟩ : ∃ y, y = u.getD k 0 := ⟨_, rfl⟩
        rw [← hx] at CA1
        rw [← hy] at CB1
        have HX := Lib.hid hx
        have HY := Lib.hid hy
        have tU : (v.length : Int) < (u.length : Int) → (k : Int) + 1 ≤ (u.length : Int) := fun h => by omega
        have tV : ¬ (v.length : Int) < (u.length : Int) → (k : Int) + 1 ≤ (v.length : Int) := fun h => by omega
        first
          | (have tt := tU hlt0)
          | (have tt := tV (Int.not_lt.2 hlt0))
        have td := decide_eq_true tt
        clear ha hb hx hy i1 tU tV
        by_cases hle : y ≤ x
        · have t1 : ¬ x < y := by omega
          have t2 : decide (x < y) = false := decide_eq_false t1
          have HK2 := Lib.hid (show ∀ j, j < k + 1 → decide (u.getD j 0 ≤ v.getD j 0) = true from fun j hj => if h : j < k then HK.out j h else (by (obtain rfl : j = k := (by omega)); rw [← HX.out, ← HY.out]; exact decide_eq_true hle))
          go_wp2_with fail
          refine CA1.out.mono ?_
          rintro e w1 ⟨rfl, rfl⟩
          go_wp2_with fail
          refine CB1.out.mono ?_
          rintro e w1 ⟨rfl, rfl⟩
          go_wp2
          go_round
          case rel => exact ⟨k + 1, by go_num, by omega, HK2⟩
          case measure => simp [RowKit.intOf]; omega
        · have t1 : x < y := by omega
          have t2 : decide (x < y) = true := decide_eq_true t1
          obtain rfl : ans = false := by rw [HANS.out]; exact allIx_false hlt (by rw [← HX.out, ← HY.out]; exact decide_eq_false hle)
          go_wp2_with fail
          refine CA1.out.mono ?_
          rintro e w1 ⟨rfl, rfl⟩
          go_wp2_with fail
          refine CB1.out.mono ?_
          rintro e w1 ⟨rfl, rfl⟩
          go_wp2
          go_ret
          exact ⟨rfl, rfl⟩
      · obtain rfl : k = m := by omega
        obtain rfl : ans = true := by rw [HANS.out]; exact allIx_true HK.out
        have tU : (v.length : Int) < (u.length : Int) → ¬ (k : Int) + 1 ≤ (u.length : Int) := fun h => by have := HM.out; omega
        have tV : ¬ (v.length : Int) < (u.length : Int) → ¬ (k : Int) + 1 ≤ (v.length : Int) := fun h => by have := HM.out; omega
        first
          | (have tt := tU hlt0)
          | (have tt := tV (Int.not_lt.2 hlt0))
        have td := decide_eq_false tt
        clear tU tV
        go_wp2
        go_ret
        exact ⟨rfl, rfl⟩
end Go.Proofs.YtalgbcgiiphoaaaGreatDoor
