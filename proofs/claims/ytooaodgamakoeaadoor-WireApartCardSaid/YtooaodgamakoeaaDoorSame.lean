/- Whether two lists of stamps, or of ids, are the same. Conditions: lengths in reach. -/
import Derived.Test.YtooaodgamakoeaaDoorChk2
namespace Go.Proofs.YtooaodgamakoeaaDoor
open Go.RowKit Go.Lib Go.Sort
set_option linter.unusedVariables false
def sameSt (u v : List Gst) : Bool := decide (u.length = v.length) && allIx u.length (fun i => (u.getD i .zero).eqb (v.getD i .zero))
theorem sameSt_iff {u v : List Gst} : sameSt u v = true ↔ u = v := by
  unfold sameSt
  rw [Bool.and_eq_true, decide_eq_true_eq]
  refine ⟨fun ⟨h1, h2⟩ => List.ext_getElem h1 fun i hi hj => ?_, fun h => ⟨by rw [h], allIx_true fun i _ => by rw [h, Gst.eqb_iff]⟩⟩
  have := allIx_of h2 i hi
  rw [Gst.eqb_iff, List.getD_eq_getElem?_getD, List.getD_eq_getElem?_getD, List.getElem?_eq_getElem hi, List.getElem?_eq_getElem hj] at this
  exact this
set_option maxRecDepth 100000 in
set_option maxHeartbeats 2000000 in
theorem sames_any (A B : Option Addr) (c d : Nat) (u v : List Gst) (S T : Nat → Prop) (w : World) (hl : u.length ≤ 9223372036854775807) (hA : StsS w S A u) (hB : StsS w T B v) :
    Calls Tryd.prog 85 #[.slice A u.length c, .slice B v.length d] w fun e w' => e = .returned (.bool (sameSt u v)) ∧ Below w.heap.size w w' := by
  have HA := Lib.hid hA
  have HB := Lib.hid hB
  obtain ⟨n, hn⟩ : ∃ n, n = u.length := ⟨_, rfl⟩
  obtain ⟨m, hm⟩ : ∃ m, m = v.length := ⟨_, rfl⟩
  obtain ⟨r, hr⟩ : ∃ r, r = sameSt u v := ⟨_, rfl⟩
  rw [← hr]
  rw [← hn] at hl ⊢
  rw [← hm]
  have HN := Lib.hid hn
  have HM := Lib.hid hm
  have HV := Lib.hid hr
  clear hn hm hr hA hB
  by_cases hnm : n = m
  · subst hnm
    go_enter Tryd.func85, Tryd.ntmps85
    go_wp2
    go_loopw [5] (fun i wr => ∃ k : Nat, k ≤ n ∧ i = .int .i64 k ∧ Below w.heap.size w wr ∧ Hid (∀ i, i < k → (u.getD i .zero).eqb (v.getD i .zero) = true)) (fun i _ => n - (intOf i).toNat)
    case atStart => exact ⟨0, by omega, rfl, Below.refl _ _, fun i hi => absurd hi (by omega)⟩
    case round =>
      obtain ⟨k, hk, rfl, hBr, HK⟩ := hrel
      by_cases hlt : k < n
      · obtain ⟨ab, ao, rfl, -, hab, c0, c1⟩ := StsS.at_ (RowG.agr HA.out (Agr.below hBr)) (k := k) (by have := HN.out; omega)
        obtain ⟨bb, bo, rfl, -, hbb, d0, d1⟩ := StsS.at_ (RowG.agr HB.out (Agr.below hBr)) (k := k) (by have := HM.out; omega)
        have hx : ∃ x, x = u.getD k .zero := ⟨_, rfl⟩
        obtain ⟨x, hx⟩ := hx
        obtain ⟨y, hy⟩ : ∃ y, y = v.getD k .zero := ⟨_, rfl⟩
        rw [← hx] at c0 c1
        rw [← hy] at d0 d1
        cases hxy : x.eqb y with
        | true =>
          have HK2 : Hid (∀ i, i < k + 1 → (u.getD i .zero).eqb (v.getD i .zero) = true) := fun i hi => by
            rcases Nat.lt_or_ge i k with h | h
            · exact HK.out i h
            · obtain rfl : i = k := by omega
              rw [← hx, ← hy, hxy]
          clear hx hy
          obtain ⟨xt, xr⟩ := x
          obtain ⟨yt, yr⟩ := y
          simp only at c0 c1 d0 d1
          have hne := ne_st xt xr yt yr true hxy
          clear hxy
          go_wp2
          go_quiet (fail)
          go_wp2
          go_roundw
          case rel => exact ⟨k + 1, by omega, by go_num, below_dn hBr _, HK2⟩
          case measure => simp [intOf]; omega
        | false =>
          have hr : r = false := by
            rw [HV.out]
            unfold sameSt
            rw [allIx_false (by rw [← HN.out]; exact hlt) (by rw [← hx, ← hy]; exact hxy), Bool.and_false]
          subst hr
          clear hx hy
          obtain ⟨xt, xr⟩ := x
          obtain ⟨yt, yr⟩ := y
          simp only at c0 c1 d0 d1
          have hne := ne_st xt xr yt yr false hxy
          clear hxy
          go_wp2
          go_quiet (fail)
          go_wp2
          go_ret
          exact ⟨rfl, below_dn hBr _⟩
      · obtain rfl : k = n := by omega
        have hr : r = true := by
          rw [HV.out]
          unfold sameSt
          rw [allIx_true (by rw [← HN.out]; exact HK.out), decide_eq_true (by rw [← HN.out, ← HM.out]), Bool.and_self]
        subst hr
        go_wp2
        go_ret
        exact ⟨rfl, hBr⟩
  · have t1 : ((n : Int) != (m : Int)) = true := by rw [bne_iff_ne]; omega
    have hr : r = false := by
      rw [HV.out]
      unfold sameSt
      rw [decide_eq_false (by rw [← HN.out, ← HM.out]; exact hnm), Bool.false_and]
    subst hr
    go_enter Tryd.func85, Tryd.ntmps85
    go_wp2
    go_ret
    exact ⟨rfl, Below.refl _ _⟩
def sameId (u v : List Gid) : Bool := decide (u.length = v.length) && allIx u.length (fun i => (u.getD i .zero).eqb (v.getD i .zero))
theorem sameId_iff {u v : List Gid} : sameId u v = true ↔ u = v := by
  unfold sameId
  rw [Bool.and_eq_true, decide_eq_true_eq]
  refine ⟨fun ⟨h1, h2⟩ => List.ext_getElem h1 fun i hi hj => ?_, fun h => ⟨by rw [h], allIx_true fun i _ => by rw [h, Gid.eqb_iff]⟩⟩
  have := allIx_of h2 i hi
  rw [Gid.eqb_iff, List.getD_eq_getElem?_getD, List.getD_eq_getElem?_getD, List.getElem?_eq_getElem hi, List.getElem?_eq_getElem hj] at this
  exact this
set_option maxRecDepth 100000 in
set_option maxHeartbeats 2000000 in
theorem sameids_any (A B : Option Addr) (c d : Nat) (u v : List Gid) (S T : Nat → Prop) (w : World) (hl : u.length ≤ 9223372036854775807) (hA : IdsS w S A u) (hB : IdsS w T B v) :
    Calls Tryd.prog 86 #[.slice A u.length c, .slice B v.length d] w fun e w' => e = .returned (.bool (sameId u v)) ∧ Below w.heap.size w w' := by
  have HA := Lib.hid hA
  have HB := Lib.hid hB
  obtain ⟨n, hn⟩ : ∃ n, n = u.length := ⟨_, rfl⟩
  obtain ⟨m, hm⟩ : ∃ m, m = v.length := ⟨_, rfl⟩
  obtain ⟨r, hr⟩ : ∃ r, r = sameId u v := ⟨_, rfl⟩
  rw [← hr]
  rw [← hn] at hl ⊢
  rw [← hm]
  have HN := Lib.hid hn
  have HM := Lib.hid hm
  have HV := Lib.hid hr
  clear hn hm hr hA hB
  by_cases hnm : n = m
  · subst hnm
    go_enter Tryd.func86, Tryd.ntmps86
    go_wp2
    go_loopw [5] (fun i wr => ∃ k : Nat, k ≤ n ∧ i = .int .i64 k ∧ Below w.heap.size w wr ∧ Hid (∀ i, i < k → (u.getD i .zero).eqb (v.getD i .zero) = true)) (fun i _ => n - (intOf i).toNat)
    case atStart => exact ⟨0, by omega, rfl, Below.refl _ _, fun i hi => absurd hi (by omega)⟩
    case round =>
      obtain ⟨k, hk, rfl, hBr, HK⟩ := hrel
      by_cases hlt : k < n
      · obtain ⟨ab, ao, rfl, -, hab, c0, c1, c2⟩ := IdsS.at_ (RowG.agr HA.out (Agr.below hBr)) (k := k) (by have := HN.out; omega)
        obtain ⟨bb, bo, rfl, -, hbb, d0, d1, d2⟩ := IdsS.at_ (RowG.agr HB.out (Agr.below hBr)) (k := k) (by have := HM.out; omega)
        have hx : ∃ x, x = u.getD k .zero := ⟨_, rfl⟩
        obtain ⟨x, hx⟩ := hx
        obtain ⟨y, hy⟩ : ∃ y, y = v.getD k .zero := ⟨_, rfl⟩
        rw [← hx] at c0 c1 c2
        rw [← hy] at d0 d1 d2
        cases hxy : x.eqb y with
        | true =>
          have HK2 : Hid (∀ i, i < k + 1 → (u.getD i .zero).eqb (v.getD i .zero) = true) := fun i hi => by
            rcases Nat.lt_or_ge i k with h | h
            · exact HK.out i h
            · obtain rfl : i = k := by omega
              rw [← hx, ← hy, hxy]
          clear hx hy
          obtain ⟨⟨xt, xr⟩, xi⟩ := x
          obtain ⟨⟨yt, yr⟩, yi⟩ := y
          simp only at c0 c1 c2 d0 d1 d2
          have hne := ne_id xt xr xi yt yr yi true hxy
          clear hxy
          go_wp2
          go_quiet (fail)
          go_wp2
          go_roundw
          case rel => exact ⟨k + 1, by omega, by go_num, below_dn hBr _, HK2⟩
          case measure => simp [intOf]; omega
        | false =>
          have hr : r = false := by
            rw [HV.out]
            unfold sameId
            rw [allIx_false (by rw [← HN.out]; exact hlt) (by rw [← hx, ← hy]; exact hxy), Bool.and_false]
          subst hr
          clear hx hy
          obtain ⟨⟨xt, xr⟩, xi⟩ := x
          obtain ⟨⟨yt, yr⟩, yi⟩ := y
          simp only at c0 c1 c2 d0 d1 d2
          have hne := ne_id xt xr xi yt yr yi false hxy
          clear hxy
          go_wp2
          go_quiet (fail)
          go_wp2
          go_ret
          exact ⟨rfl, below_dn hBr _⟩
      · obtain rfl : k = n := by omega
        have hr : r = true := by
          rw [HV.out]
          unfold sameId
          rw [allIx_true (by rw [← HN.out]; exact HK.out), decide_eq_true (by rw [← HN.out, ← HM.out]), Bool.and_self]
        subst hr
        go_wp2
        go_ret
        exact ⟨rfl, hBr⟩
  · have t1 : ((n : Int) != (m : Int)) = true := by rw [bne_iff_ne]; omega
    have hr : r = false := by
      rw [HV.out]
      unfold sameId
      rw [decide_eq_false (by rw [← HN.out, ← HM.out]; exact hnm), Bool.false_and]
    subst hr
    go_enter Tryd.func86, Tryd.ntmps86
    go_wp2
    go_ret
    exact ⟨rfl, Below.refl _ _⟩
end Go.Proofs.YtooaodgamakoeaaDoor
