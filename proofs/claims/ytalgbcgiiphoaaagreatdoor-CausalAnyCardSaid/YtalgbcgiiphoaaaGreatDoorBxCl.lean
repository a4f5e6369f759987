/- Copies of slices: what is told of a box. Conditions: lengths in reach. -/
import Derived.Test.YtalgbcgiiphoaaaGreatDoorBxN
namespace Go.Proofs.YtalgbcgiiphoaaaGreatDoor
open Go.RowKit Go.Lib Go.Sort
set_option linter.unusedVariables false
attribute [local go_sem ↓] Go.wp_at_zero Go.wp_at_succ
theorem infoint_ : (Tryz.prog.info? 3).map (fun i => (i.zero, i.size, i.bytes)) = some (some (.int .i64 0), 1, 8) := by kernel_rfl
set_option maxRecDepth 100000 in
set_option maxHeartbeats 4000000 in
theorem clonegr_any (A : Option Addr) (n c : Nat) (xs : List Value) (w : World) (hx : xs.length = n * 7) (h0 : A = none → n = 0) (hc : ∀ ad, A = some ad → ∀ j u, xs[j]? = some u → w.cell? (ad.add j) = some u) (h1 : ∀ u ∈ xs, u.oneCell' = true) (hl : n ≤ 1000000) :
    Calls Tryz.prog 48 #[.slice A n c] w fun e w' => ∃ A' c', e = .returned (.slice A' n c') ∧ w'.ownsRow w.heap.size 40 7 (.slice A' n c') n xs ∧ Below w.heap.size w w' := by
  obtain ⟨i0, hi, hz0, hz1, hz2⟩ := info_parts infogrC_
  have q0 : ∀ (w : World) (a : Option Addr) (n c n' c' : Nat), (binOp .eql 23 (.slice a n c) (.slice none n' c')).run Tryz.prog w = .ok (.bool a.isNone) w := fun w a n c n' c' => Lib.run_eql_slice_nil w _ _ a n c n' c' Tryz.underlying23
  cases A with
  | none =>
    obtain rfl := h0 rfl
    obtain rfl : xs = [] := List.length_eq_zero_iff.1 (by omega)
    clear h0 hc h1 hx
    go_enter Tryz.func48, Tryz.ntmps48
    go_wp2
    go_ret
    exact ⟨_, _, rfl, World.ownsRow_nil _ _ _ _, Below.refl _ _⟩
  | some ad =>
    have HC := Lib.hid (hc ad rfl)
    have H1 := Lib.hid h1
    have HX := Lib.hid hx
    clear h0 hc h1 hx
    have u0 : ∀ w, Sem.run Tryz.prog (underlying 23) w = .ok (TypeDesc.slice 40) w := run_underlying Tryz.underlying23
    go_enter Tryz.func48, Tryz.ntmps48
    go_wp2_with (at_builtin; refine wpList_append_own _ rfl _ _ 23 rfl w.heap.size 40 i0 (.agg #[.int .i64 0, .int .i64 0, .int .i64 0, .slice none 0 0, .int .i64 0, .int .i64 0, .slice none 0 0]) 7 88 Tryz.underlying23 hi hz0 hz1 hz2 rfl (by decide) _ _ _ rfl (World.ownsRow_made w #[] 0 (Nat.le_refl _) (Nat.zero_le _) rfl) ad n c xs rfl HX.out (fun j u hj => Lib.cell?_alloc_some _ (HC.out j u hj)) H1.out (by unfold maxLen; omega) (by omega) (by simp) ?_; intro v' w1 hown hgrow hnil)
    go_ret
    obtain ⟨A', c', rfl⟩ := row_slice hown
    rw [Nat.zero_add] at hown ⊢
    exact ⟨_, _, rfl, by simpa using hown, ((Below.refl _ w).alloc (Nat.le_refl _) _).grown hgrow (by simp) (by intro k hk; have hk : some w.heap.size = some k := hk; injection hk with hk; omega)⟩
set_option maxRecDepth 100000 in
set_option maxHeartbeats 4000000 in
theorem cloneint_any (A : Option Addr) (n c : Nat) (xs : List Value) (w : World) (hx : xs.length = n * 1) (h0 : A = none → n = 0) (hc : ∀ ad, A = some ad → ∀ j u, xs[j]? = some u → w.cell? (ad.add j) = some u) (h1 : ∀ u ∈ xs, u.oneCell' = true) (hl : n ≤ 1000000) :
    Calls Tryz.prog 50 #[.slice A n c] w fun e w' => ∃ A' c', e = .returned (.slice A' n c') ∧ w'.ownsRow w.heap.size 3 1 (.slice A' n c') n xs ∧ Below w.heap.size w w' := by
  obtain ⟨i0, hi, hz0, hz1, hz2⟩ := info_parts infoint_
  have q0 : ∀ (w : World) (a : Option Addr) (n c n' c' : Nat), (binOp .eql 29 (.slice a n c) (.slice none n' c')).run Tryz.prog w = .ok (.bool a.isNone) w := fun w a n c n' c' => Lib.run_eql_slice_nil w _ _ a n c n' c' Tryz.underlying29
  cases A with
  | none =>
    obtain rfl := h0 rfl
    obtain rfl : xs = [] := List.length_eq_zero_iff.1 (by omega)
    clear h0 hc h1 hx
    go_enter Tryz.func50, Tryz.ntmps50
    go_wp2
    go_ret
    exact ⟨_, _, rfl, World.ownsRow_nil _ _ _ _, Below.refl _ _⟩
  | some ad =>
    have HC := Lib.hid (hc ad rfl)
    have H1 := Lib.hid h1
    have HX := Lib.hid hx
    clear h0 hc h1 hx
    have u0 : ∀ w, Sem.run Tryz.prog (underlying 29) w = .ok (TypeDesc.slice 3) w := run_underlying Tryz.underlying29
    go_enter Tryz.func50, Tryz.ntmps50
    go_wp2_with (at_builtin; refine wpList_append_own _ rfl _ _ 29 rfl w.heap.size 3 i0 (.int .i64 0) 1 8 Tryz.underlying29 hi hz0 hz1 hz2 rfl (by decide) _ _ _ rfl (World.ownsRow_made w #[] 0 (Nat.le_refl _) (Nat.zero_le _) rfl) ad n c xs rfl HX.out (fun j u hj => Lib.cell?_alloc_some _ (HC.out j u hj)) H1.out (by unfold maxLen; omega) (by omega) (by simp) ?_; intro v' w1 hown hgrow hnil)
    go_ret
    obtain ⟨A', c', rfl⟩ := row_slice hown
    rw [Nat.zero_add] at hown ⊢
    exact ⟨_, _, rfl, by simpa using hown, ((Below.refl _ w).alloc (Nat.le_refl _) _).grown hgrow (by simp) (by intro k hk; have hk : some w.heap.size = some k := hk; injection hk with hk; omega)⟩
theorem row_at {w : World} {B E s n : Nat} {A : Option Addr} {c : Nat} {xs : List Value} (h : w.ownsRow B E s (.slice A n c) n xs) : (A = none → n = 0) ∧ ∀ ad, A = some ad → ∀ j u, xs[j]? = some u → w.cell? (ad.add j) = some u := by
  rcases h.2 with ⟨e, rfl⟩ | ⟨g, cap, cur, e, -, hg, -, -, -, htk⟩
  · cases e
    exact ⟨fun _ => rfl, (fun ad e => by cases e)⟩
  · cases e
    refine ⟨(fun e => by cases e), fun ad e j u hj => ?_⟩
    cases e
    rw [Addr.add_mid, Nat.zero_add, cell_of_row _ _ _ _ _ _ hg, ← Array.getElem?_toList]
    rw [← htk, List.getElem?_take] at hj
    split at hj
    · exact hj
    · cases hj
theorem row_cap {w : World} {B E s n c : Nat} {A : Option Addr} {xs : List Value} (h : w.ownsRow B E s (.slice A n c) n xs) : n ≤ c := by
  rcases h.2 with ⟨e, rfl⟩ | ⟨g, cap, cur, e, -, -, h3, -⟩
  · exact Nat.zero_le _
  · cases e; exact h3
set_option maxRecDepth 100000 in
set_option maxHeartbeats 4000000 in
theorem bxdone_any {B P : Nat} {S : Nat → Prop} {dn mp wt : List Grp} {v : List Int} {X : BoxX} {w : World} (h : BoxIn B P S dn mp wt v X w) (hl : dn.length ≤ 1000000) :
    Calls Tryz.prog 23 #[.pointer (some ⟨P, 0, none⟩)] w fun e w' => ∃ A c, e = .returned (.slice A dn.length c) ∧ w'.ownsRow w.heap.size 40 7 (.slice A X.L.length c) X.L.length (X.L.flatMap grC_) ∧ Below w.heap.size w w' := by
  obtain ⟨A0, c0, hv⟩ := row_slice h.done
  have hO := h.done
  rw [hv] at hO
  have hx := row_at hO
  have hn : X.L.length = dn.length := h.dlen
  have HCL := Lib.hid (clonegr_any A0 X.L.length c0 (X.L.flatMap grC_) w (lengrC_ _) hx.1 hx.2 (fun u hu => by obtain ⟨x, -, hx⟩ := List.mem_flatMap.1 hu; exact ocgrC_ x u hx) (by omega))
  have d0 : w.cell? ⟨P, 0, none⟩ = some (.slice A0 X.L.length c0) := by rw [h.cell, ← hv]; rfl
  rw [← hn]
  clear h hO hx hv hl hn
  go_enter Tryz.func23, Tryz.ntmps23
  go_wp2_with (go_at_call 48; refine HCL.out.mono ?_; rintro e w1 ⟨A1, c1, rfl, hown, hB⟩)
  go_ret
  exact ⟨_, _, rfl, hown, hB⟩
set_option maxRecDepth 100000 in
set_option maxHeartbeats 4000000 in
theorem bxwait_any {B P : Nat} {S : Nat → Prop} {dn mp wt : List Grp} {v : List Int} {X : BoxX} {w : World} (h : BoxIn B P S dn mp wt v X w) (hl : wt.length ≤ 1000000) :
    Calls Tryz.prog 26 #[.pointer (some ⟨P, 0, none⟩)] w fun e w' => ∃ A c, e = .returned (.slice A wt.length c) ∧ w'.ownsRow w.heap.size 40 7 (.slice A X.M.length c) X.M.length (X.M.flatMap grC_) ∧ Below w.heap.size w w' := by
  obtain ⟨A0, c0, hv⟩ := row_slice h.wait
  have hO := h.wait
  rw [hv] at hO
  have hx := row_at hO
  have hn : X.M.length = wt.length := h.wlen
  have HCL := Lib.hid (clonegr_any A0 X.M.length c0 (X.M.flatMap grC_) w (lengrC_ _) hx.1 hx.2 (fun u hu => by obtain ⟨x, -, hx⟩ := List.mem_flatMap.1 hu; exact ocgrC_ x u hx) (by omega))
  have d0 : w.cell? ⟨P, 1, none⟩ = some (.slice A0 X.M.length c0) := by rw [h.cell, ← hv]; rfl
  rw [← hn]
  clear h hO hx hv hl hn
  go_enter Tryz.func26, Tryz.ntmps26
  go_wp2_with (go_at_call 48; refine HCL.out.mono ?_; rintro e w1 ⟨A1, c1, rfl, hown, hB⟩)
  go_ret
  exact ⟨_, _, rfl, hown, hB⟩
set_option maxRecDepth 100000 in
set_option maxHeartbeats 4000000 in
theorem bxvec_any {B P : Nat} {S : Nat → Prop} {dn mp wt : List Grp} {v : List Int} {X : BoxX} {w : World} (h : BoxIn B P S dn mp wt v X w) :
    Calls Tryz.prog 28 #[.pointer (some ⟨P, 0, none⟩)] w fun e w' => ∃ A c, e = .returned (.slice A v.length c) ∧ VecS w' (fun k => w.heap.size ≤ k) A v ∧ v.length ≤ c ∧ Below w.heap.size w w' := by
  have hvec := h.vec
  have HCL := Lib.hid (cloneint_any X.vA v.length X.vc (v.flatMap intC_) w (lenintC_ v) (fun e => by
      rcases Nat.eq_zero_or_pos v.length with h0 | h0
      · exact h0
      · obtain ⟨b, o, e2, _⟩ := hvec 0 h0; rw [e] at e2; cases e2) (fun ad e j u hj => by
      rw [show v.flatMap intC_ = v.map (Value.int .i64) from by rw [List.map_eq_flatMap]; rfl, List.getElem?_map] at hj
      obtain ⟨y, hy, rfl⟩ := Option.map_eq_some_iff.1 hj
      obtain ⟨b, o, e2, -, -, hc⟩ := hvec j (List.getElem?_eq_some_iff.1 hy).1
      rw [e] at e2; cases e2
      have := hc 0 (by omega)
      rw [Addr.add_mid]
      simpa [List.getD_eq_getElem?_getD, hy] using this) (fun u hu => by obtain ⟨x, -, hx⟩ := List.mem_flatMap.1 hu; obtain rfl := List.mem_singleton.1 hx; rfl) (by have := h.vlen; omega))
  have d0 : w.cell? ⟨P, 3, none⟩ = some (.slice X.vA v.length X.vc) := by rw [h.cell]; rfl
  clear h hvec
  go_enter Tryz.func28, Tryz.ntmps28
  go_wp2_with (go_at_call 50; refine HCL.out.mono ?_; rintro e w1 ⟨A1, c1, rfl, hown, hB⟩)
  go_ret
  exact ⟨_, _, rfl, vec_own hown, row_cap hown, hB⟩
end Go.Proofs.YtalgbcgiiphoaaaGreatDoor
