/- What the functions of vectors compute, the program's and the reference's. Conditions: lengths in reach. -/
import Derived.Test.YtooaodgamakoeaaDoorStp
import Derived.Deep.DeepCutAuto
namespace Go.Proofs.YtooaodgamakoeaaDoor
open Go.RowKit Go.Lib Go.Sort
set_option linter.unusedVariables false
/-- a slice that reads as numbers -/
def VecR (w : World) (A : Option Addr) (v : List Int) : Prop := Row1 w w.heap.size A v.length (fun i => .int .i64 (v.getD i 0))
theorem VecR.below {w w' : World} {A : Option Addr} {v : List Int} (h : VecR w A v) (hb : Below w.heap.size w w') : VecR w' A v := (Row1.below h hb).more hb.size
theorem VecR.nil {w : World} : VecR w none [] := Row1.nil
theorem atV_low {v : List Int} {r : Int} (h : r < 1) : atV v r = 0 := by unfold atV; rw [if_pos h]
theorem atV_in {v : List Int} {k : Nat} : atV v ((k : Int) + 1) = v.getD k 0 := by
  unfold atV; rw [if_neg (by omega)]; congr 1; omega
theorem atV_out {v : List Int} {k : Nat} (h : v.length ≤ k) : v.getD k 0 = 0 := by
  rw [List.getD_eq_getElem?_getD, List.getElem?_eq_none h]; rfl
set_option maxRecDepth 100000 in
set_option maxHeartbeats 2000000 in
theorem vat_any (A : Option Addr) (c : Nat) (v : List Int) (r : Int) (w : World) (hl : v.length ≤ 9223372036854775807) (h : VecR w A v) :
    Calls Tryd.prog 112 #[.slice A v.length c, .int .i64 r] w fun e w' => e = .returned (.int .i64 (atV v r)) ∧ w' = w := by
  unfold VecR at h
  by_cases h1 : r < 1
  · rw [atV_low h1]
    clear h
    go_enter Tryd.func112, Tryd.ntmps112
    go_wp2
    go_ret
    exact ⟨rfl, rfl⟩
  obtain ⟨k, rfl⟩ : ∃ k : Nat, r = (k : Int) + 1 := ⟨(r - 1).toNat, by omega⟩
  rw [atV_in]
  by_cases h2 : k < v.length
  · obtain ⟨ad, rfl, -, hc⟩ := h k h2
    replace hc : w.cell? (ad.add k) = some (.int .i64 (v.getD k 0)) := hc
    generalize v.getD k 0 = x at *
    generalize v.length = n at *
    have t1 : ¬ (n : Int) < (k : Int) + 1 := by omega
    clear h
    go_enter Tryd.func112, Tryd.ntmps112
    go_wp2
    go_ret
    exact ⟨rfl, rfl⟩
  · rw [atV_out (by omega)]
    generalize v.length = n at *
    have t1 : (n : Int) < (k : Int) + 1 := by omega
    clear h
    go_enter Tryd.func112, Tryd.ntmps112
    go_wp2
    go_ret
    exact ⟨rfl, rfl⟩
set_option maxRecDepth 100000 in
set_option maxHeartbeats 2000000 in
theorem at_any (A : Option Addr) (c : Nat) (v : List Int) (r : Int) (w : World) (hl : v.length ≤ 9223372036854775807) (h : VecR w A v) :
    Calls Tryd.prog 87 #[.slice A v.length c, .int .i64 r] w fun e w' => e = .returned (.int .i64 (atV v r)) ∧ w' = w := by
  go_enter Tryd.func87, Tryd.ntmps87
  go_wp2_with fail
  refine (vat_any A c v r _ hl h).mono ?_
  rintro e w1 ⟨rfl, rfl⟩
  go_wp2
  go_ret
  exact ⟨rfl, rfl⟩
set_option maxRecDepth 100000 in
set_option maxHeartbeats 2000000 in
theorem refat_any (A : Option Addr) (c : Nat) (v : List Int) (r : Int) (w : World) (hl : v.length ≤ 9223372036854775807) (h : VecR w A v) :
    Calls Tryd.prog 37 #[.slice A v.length c, .int .i64 r] w fun e w' => e = .returned (.int .i64 (atV v r)) ∧ w' = w := by
  unfold VecR at h
  by_cases h1 : r < 1
  · rw [atV_low h1]
    clear h
    go_enter Tryd.func37, Tryd.ntmps37
    go_wp2
    go_ret
    exact ⟨rfl, rfl⟩
  obtain ⟨k, rfl⟩ : ∃ k : Nat, r = (k : Int) + 1 := ⟨(r - 1).toNat, by omega⟩
  rw [atV_in]
  by_cases h2 : k < v.length
  · obtain ⟨ad, rfl, -, hc⟩ := h k h2
    replace hc : w.cell? (ad.add k) = some (.int .i64 (v.getD k 0)) := hc
    generalize v.getD k 0 = x at *
    generalize v.length = n at *
    have t1 : ¬ (n : Int) < (k : Int) + 1 := by omega
    clear h
    go_enter Tryd.func37, Tryd.ntmps37
    go_wp2
    go_ret
    exact ⟨rfl, rfl⟩
  · rw [atV_out (by omega)]
    generalize v.length = n at *
    have t1 : (n : Int) < (k : Int) + 1 := by omega
    clear h
    go_enter Tryd.func37, Tryd.ntmps37
    go_wp2
    go_ret
    exact ⟨rfl, rfl⟩
/-- without noughts behind: one step -/
theorem plainV_snoc0 (v : List Int) : plainV (v ++ [0]) = plainV v := by
  unfold plainV; simp
theorem plainV_snoc (v : List Int) (x : Int) (h : x ≠ 0) : plainV (v ++ [x]) = v ++ [x] := by
  unfold plainV; simp [h]
theorem take_succ_getD (v : List Int) (k : Nat) (h : k < v.length) : v.take (k + 1) = v.take k ++ [v.getD k 0] := by
  rw [List.take_succ_eq_append_getElem h, List.getD_eq_getElem?_getD, List.getElem?_eq_getElem h]; rfl
theorem plainV_len (v : List Int) : (plainV v).length ≤ v.length := by
  unfold plainV
  rw [List.length_reverse]
  have := (List.dropWhile_sublist (l := v.reverse) (fun x => decide (x = 0))).length_le
  rw [List.length_reverse] at this
  exact this
theorem plainV_take (v : List Int) : plainV v = v.take (plainV v).length := by
  unfold plainV
  obtain ⟨p, hp⟩ := List.dropWhile_suffix (l := v.reverse) (fun x => decide (x = 0))
  obtain ⟨q, hq⟩ : ∃ q, q = List.dropWhile (fun x => decide (x = 0)) v.reverse := ⟨_, rfl⟩
  rw [← hq] at hp ⊢
  have h2 := congrArg List.reverse hp
  rw [List.reverse_append, List.reverse_reverse] at h2
  rw [← h2, List.take_left]
set_option maxRecDepth 100000 in
set_option maxHeartbeats 2000000 in
theorem vplain_any (A : Option Addr) (c : Nat) (v : List Int) (w : World) (hc0 : v.length ≤ c) (hl : v.length ≤ 9223372036854775807) (h : VecR w A v) :
    Calls Tryd.prog 101 #[.slice A v.length c] w fun e w' => e = .returned (.slice A (plainV v).length c) ∧ w' = w := by
  unfold VecR at h
  have HR := Lib.hid h
  obtain ⟨n, hn⟩ : ∃ n, n = v.length := ⟨_, rfl⟩
  obtain ⟨p, hp⟩ : ∃ p, p = (plainV v).length := ⟨_, rfl⟩
  rw [← hn] at hc0 hl ⊢
  rw [← hp]
  have HN := Lib.hid hn
  have HP := Lib.hid hp
  clear h hn hp
  go_enter Tryd.func101, Tryd.ntmps101
  go_wp2
  go_loop [0] (fun s => ∃ k : Nat, k ≤ n ∧ s = .slice A k c ∧ Hid (plainV v = plainV (v.take k))) (fun s => match s with | .slice _ k _ => k | _ => 0)
  case atStart => exact ⟨n, Nat.le_refl _, rfl, by show _ = _; rw [HN.out, List.take_length]⟩
  case round =>
    obtain ⟨k, hk, rfl, HK⟩ := hrel
    cases k with
    | zero =>
      have hp0 : p = 0 := by rw [HP.out, HK.out]; rfl
      subst hp0
      go_wp2
      go_ret
      exact ⟨rfl, rfl⟩
    | succ k =>
      obtain ⟨ad, hA, -, hc⟩ := HR.out k (by have := HN.out; omega)
      subst hA
      replace hc : w.cell? (ad.add k) = some (.int .i64 (v.getD k 0)) := hc
      have HT := Lib.hid (take_succ_getD v k (by have := HN.out; omega))
      obtain ⟨x, hx⟩ : ∃ x, x = v.getD k 0 := ⟨_, rfl⟩
      rw [← hx] at hc
      have HX := Lib.hid hx
      clear hx
      have b1 : (0 : Int) ≤ (k : Int) := by omega
      have b2 : (k : Int) + 1 - 1 = (k : Int) := by omega
      have b3 : (k : Int) ≤ (c : Int) := by omega
      by_cases hx0 : x = 0
      · subst hx0
        have HK2 : Hid (plainV v = plainV (v.take k)) := by show _ = _; rw [HK.out, HT.out, ← HX.out, plainV_snoc0]
        go_wp2
        go_round
        case rel => exact ⟨k, by omega, rfl, HK2⟩
        case measure => simp
      · have t1 : (x == 0) = false := by rw [beq_eq_false_iff_ne]; exact hx0
        have hpk : p = k + 1 := by
          rw [HP.out, HK.out, HT.out, ← HX.out, plainV_snoc _ _ hx0, List.length_append, List.length_take]
          have := HN.out
          simp; omega
        subst hpk
        go_wp2
        go_ret
        exact ⟨rfl, rfl⟩
set_option maxRecDepth 100000 in
set_option maxHeartbeats 2000000 in
theorem plain_any (A : Option Addr) (c : Nat) (v : List Int) (w : World) (hc0 : v.length ≤ c) (hl : v.length ≤ 9223372036854775807) (h : VecR w A v) :
    Calls Tryd.prog 98 #[.slice A v.length c] w fun e w' => e = .returned (.slice A (plainV v).length c) ∧ w' = w := by
  go_enter Tryd.func98, Tryd.ntmps98
  go_wp2_with fail
  refine (vplain_any A c v _ hc0 hl h).mono ?_
  rintro e w1 ⟨rfl, rfl⟩
  go_wp2
  go_ret
  exact ⟨rfl, rfl⟩
set_option maxRecDepth 100000 in
set_option maxHeartbeats 2000000 in
theorem refplain_any (A : Option Addr) (c : Nat) (v : List Int) (w : World) (hc0 : v.length ≤ c) (hl : v.length ≤ 9223372036854775807) (h : VecR w A v) :
    Calls Tryd.prog 74 #[.slice A v.length c] w fun e w' => e = .returned (.slice A (plainV v).length c) ∧ w' = w := by
  unfold VecR at h
  have HR := Lib.hid h
  obtain ⟨n, hn⟩ : ∃ n, n = v.length := ⟨_, rfl⟩
  obtain ⟨p, hp⟩ : ∃ p, p = (plainV v).length := ⟨_, rfl⟩
  rw [← hn] at hc0 hl ⊢
  rw [← hp]
  have HN := Lib.hid hn
  have HP := Lib.hid hp
  clear h hn hp
  go_enter Tryd.func74, Tryd.ntmps74
  go_wp2
  go_loop [3] (fun s => ∃ k : Nat, k ≤ n ∧ s = .int .i64 k ∧ Hid (plainV v = plainV (v.take k))) (fun s => (intOf s).toNat)
  case atStart => exact ⟨n, Nat.le_refl _, rfl, by show _ = _; rw [HN.out, List.take_length]⟩
  case round =>
    obtain ⟨k, hk, rfl, HK⟩ := hrel
    cases k with
    | zero =>
      have hp0 : p = 0 := by rw [HP.out, HK.out]; rfl
      subst hp0
      go_wp2
      go_ret
      exact ⟨rfl, rfl⟩
    | succ k =>
      obtain ⟨ad, hA, -, hc⟩ := HR.out k (by have := HN.out; omega)
      subst hA
      replace hc : w.cell? (ad.add k) = some (.int .i64 (v.getD k 0)) := hc
      have HT := Lib.hid (take_succ_getD v k (by have := HN.out; omega))
      obtain ⟨x, hx⟩ : ∃ x, x = v.getD k 0 := ⟨_, rfl⟩
      rw [← hx] at hc
      have HX := Lib.hid hx
      clear hx
      have b1 : (0 : Int) ≤ (k : Int) := by omega
      have b2 : (k : Int) + 1 - 1 = (k : Int) := by omega
      have b3 : (k : Int) + 1 ≤ (c : Int) := by omega
      by_cases hx0 : x = 0
      · subst hx0
        have HK2 : Hid (plainV v = plainV (v.take k)) := by show _ = _; rw [HK.out, HT.out, ← HX.out, plainV_snoc0]
        go_wp2
        go_round
        case rel => exact ⟨k, by omega, by go_num, HK2⟩
        case measure => simp [intOf]
      · have t1 : (x == 0) = false := by rw [beq_eq_false_iff_ne]; exact hx0
        have hpk : p = k + 1 := by
          rw [HP.out, HK.out, HT.out, ← HX.out, plainV_snoc _ _ hx0, List.length_append, List.length_take]
          have := HN.out
          simp; omega
        subst hpk
        go_wp2
        go_ret
        exact ⟨rfl, rfl⟩
set_option maxRecDepth 100000 in
set_option maxHeartbeats 2000000 in
theorem same_any (A B : Option Addr) (c d : Nat) (v u : List Int) (w : World) (hl : v.length ≤ 9223372036854775807) (hA : VecR w A v) (hB : VecR w B u) :
    Calls Tryd.prog 27 #[.slice A v.length c, .slice B u.length d] w fun e w' => e = .returned (.bool (decide (v = u))) ∧ Below w.heap.size w w' := by
  unfold VecR at hA hB
  have HA := Lib.hid hA
  have HB := Lib.hid hB
  clear hA hB
  obtain ⟨n, hn⟩ : ∃ n, n = v.length := ⟨_, rfl⟩
  obtain ⟨m, hm⟩ : ∃ m, m = u.length := ⟨_, rfl⟩
  rw [← hn] at hl ⊢
  rw [← hm]
  obtain ⟨r, hr⟩ : ∃ r, r = decide (v = u) := ⟨_, rfl⟩
  rw [← hr]
  have HN := Lib.hid hn
  have HM := Lib.hid hm
  have HV := Lib.hid hr
  clear hn hm hr
  by_cases hnm : n = m
  · subst hnm
    go_enter Tryd.func27, Tryd.ntmps27
    go_wp2
    go_loopw [5] (fun i wr => ∃ k j : Nat, k ≤ n ∧ i = .int .i64 k ∧ wr = w.drewN j ∧ Hid (∀ i, i < k → v.getD i 0 = u.getD i 0)) (fun i _ => n - (intOf i).toNat)
    case atStart => exact ⟨0, 0, by omega, rfl, rfl, fun i hi => absurd hi (by omega)⟩
    case round =>
      obtain ⟨k, j, hk, rfl, rfl, HK⟩ := hrel
      by_cases hlt : k < n
      · obtain ⟨ad, hA, -, hc⟩ := HA.out k (by have := HN.out; omega)
        obtain ⟨bd, hB, -, hd⟩ := HB.out k (by have := HM.out; omega)
        subst hA hB
        replace hc : w.cell? (ad.add k) = some (.int .i64 (v.getD k 0)) := hc
        replace hd : w.cell? (bd.add k) = some (.int .i64 (u.getD k 0)) := hd
        obtain ⟨x, hx⟩ : ∃ x, x = v.getD k 0 := ⟨_, rfl⟩
        obtain ⟨y, hy⟩ : ∃ y, y = u.getD k 0 := ⟨_, rfl⟩
        rw [← hx] at hc
        rw [← hy] at hd
        by_cases hxy : x = y
        · have HK2 : Hid (∀ i, i < k + 1 → v.getD i 0 = u.getD i 0) := fun i hi => by
            rcases Nat.lt_or_ge i k with h | h
            · exact HK.out i h
            · obtain rfl : i = k := by omega
              rw [← hx, ← hy, hxy]
          clear hx hy
          subst hxy
          go_wp2
          go_quiet (fail)
          go_wp2
          go_roundw
          case rel => exact ⟨k + 1, _, by omega, by go_num, rfl, HK2⟩
          case measure => simp [intOf]; omega
        · have t1 : (x != y) = true := by rw [bne_iff_ne]; exact hxy
          have hr : r = false := by
            rw [HV.out, decide_eq_false_iff_not]
            rintro rfl
            exact hxy (hx.trans hy.symm)
          subst hr
          clear hx hy
          go_wp2
          go_quiet (fail)
          go_wp2
          go_ret
          exact ⟨rfl, below_dn (below_dn (Below.refl _ _) _) _⟩
      · obtain rfl : k = n := by omega
        have hr : r = true := by
          rw [HV.out, decide_eq_true_eq]
          refine List.ext_getElem (by rw [← HN.out, ← HM.out]) fun i h1 h2 => ?_
          have := HK.out i (by rw [HN.out]; exact h1)
          rw [List.getD_eq_getElem?_getD, List.getD_eq_getElem?_getD, List.getElem?_eq_getElem h1, List.getElem?_eq_getElem h2] at this
          exact this
        subst hr
        go_wp2
        go_ret
        exact ⟨rfl, below_dn (Below.refl _ _) _⟩
  · have t1 : ((n : Int) != (m : Int)) = true := by rw [bne_iff_ne]; omega
    have hr : r = false := by
      rw [HV.out, decide_eq_false_iff_not]
      rintro rfl
      exact hnm (HN.out.trans HM.out.symm)
    subst hr
    go_enter Tryd.func27, Tryd.ntmps27
    go_wp2
    go_ret
    exact ⟨rfl, Below.refl _ _⟩
theorem vecB_neg {v : List Int} {k : Nat} (hk : k < v.length) (h : v.getD k 0 < 0) : vecB v = false := by
  rw [← Bool.not_eq_true]
  intro hv
  simp only [vecB, Bool.and_eq_true, List.all_eq_true, decide_eq_true_eq] at hv
  have := hv.1.1 (v.getD k 0) (by
    rw [List.getD_eq_getElem?_getD, List.getElem?_eq_getElem hk]; exact List.getElem_mem hk)
  omega
theorem vecB_pos {v : List Int} (h : ∀ k, k < v.length → 0 ≤ v.getD k 0) : vecB v = (decide (v.length ≤ 16) && decide ((plainV v).length = v.length)) := by
  have : v.all (fun x => decide (0 ≤ x)) = true := by
    rw [List.all_eq_true]
    intro x hx
    obtain ⟨i, hi, rfl⟩ := getD_of_mem (z := (0 : Int)) hx
    exact decide_eq_true (h i hi)
  simp only [vecB, this, Bool.true_and]
set_option maxRecDepth 100000 in
set_option maxHeartbeats 2000000 in
theorem vector_any (A : Option Addr) (c : Nat) (v : List Int) (w : World) (hc0 : v.length ≤ c) (hl : v.length ≤ 9223372036854775807) (h : VecR w A v) :
    Calls Tryd.prog 60 #[.slice A v.length c] w fun e w' => e = .returned (.bool (vecB v)) ∧ w' = w := by
  have HP := Lib.hid (plain_any A c v w hc0 hl h)
  unfold VecR at h
  have HR := Lib.hid h
  obtain ⟨r, hr⟩ : ∃ r, r = vecB v := ⟨_, rfl⟩
  rw [← hr]
  obtain ⟨n, hn⟩ : ∃ n, n = v.length := ⟨_, rfl⟩
  rw [← hn] at hc0 hl HP ⊢
  obtain ⟨p, hp⟩ : ∃ p, p = (plainV v).length := ⟨_, rfl⟩
  rw [← hp] at HP
  have HN := Lib.hid hn
  have HV := Lib.hid hr
  have HPP := Lib.hid hp
  have hpn : p ≤ n := by rw [hp, hn]; exact plainV_len v
  clear h hn hr hp
  go_enter Tryd.func60, Tryd.ntmps60
  go_wp2
  go_loop [7] (fun i => ∃ k : Nat, k ≤ n ∧ i = .int .i64 k ∧ Hid (∀ i, i < k → 0 ≤ v.getD i 0)) (fun i => n - (intOf i).toNat)
  case atStart => exact ⟨0, by omega, rfl, fun i hi => absurd hi (by omega)⟩
  case round =>
    obtain ⟨k, hk, rfl, HK⟩ := hrel
    by_cases hlt : k < n
    · obtain ⟨ad, hA, -, hc⟩ := HR.out k (by have := HN.out; omega)
      subst hA
      replace hc : w.cell? (ad.add k) = some (.int .i64 (v.getD k 0)) := hc
      obtain ⟨x, hx⟩ : ∃ x, x = v.getD k 0 := ⟨_, rfl⟩
      rw [← hx] at hc
      by_cases h0 : x < 0
      · have hr : r = false := by rw [HV.out, vecB_neg (by have h9 := HN.out; rw [← h9]; exact hlt) (by rw [← hx]; exact h0)]
        subst hr
        clear hx
        go_wp2
        go_ret
        exact ⟨rfl, rfl⟩
      · have HK2 : Hid (∀ i, i < k + 1 → 0 ≤ v.getD i 0) := fun i hi => by
          rcases Nat.lt_or_ge i k with h | h
          · exact HK.out i h
          · obtain rfl : i = k := by omega
            rw [← hx]; exact Int.not_lt.1 h0
        clear hx
        have h0' : 0 ≤ x := by omega
        clear h0
        go_wp2
        go_round
        case rel => exact ⟨k + 1, by omega, by go_num, HK2⟩
        case measure => simp [intOf]; omega
    · obtain rfl : k = n := by omega
      have hr : r = (decide (k ≤ 16) && decide (p = k)) := by
        rw [HV.out, vecB_pos (fun i hi => HK.out i (by have := HN.out; omega)), ← HN.out, ← HPP.out]
      by_cases h16 : k ≤ 16
      · have t1 : (k : Int) ≤ 16 := by omega
        by_cases hpk : p = k
        · have hr2 : r = true := by rw [hr]; simp [h16, hpk]
          clear hr
          subst hr2 hpk
          go_wp2_with (go_at_call 98; refine HP.out.mono ?_; rintro e w1 ⟨rfl, rfl⟩)
          go_ret
          exact ⟨rfl, rfl⟩
        · have hr2 : r = false := by rw [hr]; simp [hpk]
          have t2 : ((p : Int) == (k : Int)) = false := by rw [beq_eq_false_iff_ne]; omega
          clear hr
          subst hr2
          go_wp2_with (go_at_call 98; refine HP.out.mono ?_; rintro e w1 ⟨rfl, rfl⟩)
          go_ret
          exact ⟨rfl, rfl⟩
      · have hr2 : r = false := by rw [hr]; simp; omega
        have t1 : ¬ (k : Int) ≤ 16 := by omega
        clear hr
        subst hr2
        go_wp2
        go_ret
        exact ⟨rfl, rfl⟩
set_option maxRecDepth 100000 in
set_option maxHeartbeats 2000000 in
theorem refvector_any (A : Option Addr) (c : Nat) (v : List Int) (w : World) (hc0 : v.length ≤ c) (hl : v.length ≤ 9223372036854775807) (h : VecR w A v) :
    Calls Tryd.prog 69 #[.slice A v.length c] w fun e w' => e = .returned (.bool (vecB v)) ∧ Below w.heap.size w w' := by
  have HP := Lib.hid (refplain_any A c v w hc0 hl h)
  have hh := plainV_take v
  have hpl := plainV_len v
  have HS := Lib.hid (same_any A A c c v (plainV v) w hl h (by
    intro k hk
    obtain ⟨ad, e, hb, hx⟩ := h k (by omega)
    refine ⟨ad, e, hb, ?_⟩
    rw [hx]
    show some (Value.int .i64 (v.getD k 0)) = some (.int .i64 ((plainV v).getD k 0))
    have e2 : (plainV v).getD k 0 = v.getD k 0 := by
      rw [hh, List.getD_eq_getElem?_getD, List.getD_eq_getElem?_getD, List.getElem?_take_of_lt hk]
    rw [e2]))
  have hd : decide (v = plainV v) = decide ((plainV v).length = v.length) := by
    rw [Bool.eq_iff_iff, decide_eq_true_eq, decide_eq_true_eq]
    exact ⟨fun e => by rw [← e], fun e => by rw [hh, e, List.take_length]⟩
  rw [hd] at HS
  clear hd hh
  unfold VecR at h
  have HR := Lib.hid h
  obtain ⟨r, hr⟩ : ∃ r, r = vecB v := ⟨_, rfl⟩
  rw [← hr]
  obtain ⟨n, hn⟩ : ∃ n, n = v.length := ⟨_, rfl⟩
  rw [← hn] at hc0 hl HP HS ⊢
  obtain ⟨p, hp⟩ : ∃ p, p = (plainV v).length := ⟨_, rfl⟩
  rw [← hp] at HP HS
  have HN := Lib.hid hn
  have HV := Lib.hid hr
  have HPP := Lib.hid hp
  have hpn : p ≤ n := by rw [hp, hn]; exact plainV_len v
  clear h hn hr hp
  go_enter Tryd.func69, Tryd.ntmps69
  go_wp2
  go_loop [3] (fun i => ∃ k : Nat, k ≤ n ∧ i = .int .i64 k ∧ Hid (∀ i, i < k → 0 ≤ v.getD i 0)) (fun i => n - (intOf i).toNat)
  case atStart => exact ⟨0, by omega, rfl, fun i hi => absurd hi (by omega)⟩
  case round =>
    obtain ⟨k, hk, rfl, HK⟩ := hrel
    by_cases hlt : k < n
    · obtain ⟨ad, hA, -, hc⟩ := HR.out k (by have := HN.out; omega)
      subst hA
      replace hc : w.cell? (ad.add k) = some (.int .i64 (v.getD k 0)) := hc
      obtain ⟨x, hx⟩ : ∃ x, x = v.getD k 0 := ⟨_, rfl⟩
      rw [← hx] at hc
      by_cases h0 : x < 0
      · have hr : r = false := by rw [HV.out, vecB_neg (by have h9 := HN.out; rw [← h9]; exact hlt) (by rw [← hx]; exact h0)]
        subst hr
        clear hx
        go_wp2
        go_ret
        exact ⟨rfl, Below.refl _ _⟩
      · have HK2 : Hid (∀ i, i < k + 1 → 0 ≤ v.getD i 0) := fun i hi => by
          rcases Nat.lt_or_ge i k with h | h
          · exact HK.out i h
          · obtain rfl : i = k := by omega
            rw [← hx]; exact Int.not_lt.1 h0
        clear hx
        have h0' : 0 ≤ x := by omega
        clear h0
        go_wp2
        go_round
        case rel => exact ⟨k + 1, by omega, by go_num, HK2⟩
        case measure => simp [intOf]; omega
    · obtain rfl : k = n := by omega
      have hr : r = (decide (k ≤ 16) && decide (p = k)) := by
        rw [HV.out, vecB_pos (fun i hi => HK.out i (by have := HN.out; omega)), ← HN.out, ← HPP.out]
      by_cases h16 : k ≤ 16
      · have t1 : (k : Int) ≤ 16 := by omega
        have hr2 : r = decide (p = k) := by rw [hr]; simp [h16]
        clear hr
        subst hr2
        go_wp2_with fail
        refine HP.out.mono ?_
        rintro e w1 ⟨rfl, rfl⟩
        go_wp2_with fail
        refine HS.out.mono ?_
        rintro e w1 ⟨rfl, hB⟩
        go_wp2
        go_ret
        exact ⟨rfl, hB⟩
      · have hr2 : r = false := by rw [hr]; simp; omega
        have t1 : ¬ (k : Int) ≤ 16 := by omega
        clear hr
        subst hr2
        go_wp2
        go_ret
        exact ⟨rfl, Below.refl _ _⟩
end Go.Proofs.YtooaodgamakoeaaDoor
