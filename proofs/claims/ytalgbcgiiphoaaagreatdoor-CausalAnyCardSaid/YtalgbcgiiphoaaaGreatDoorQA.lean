/- What the reference's functions of stamps compute. No condition. | A plain region whose operations only read, and whose callees leave what was there as it was: walked over the class of worlds 'Below'. No condition. -/
import Derived.Test.YtalgbcgiiphoaaaGreatDoorCA
section
namespace Go.Proofs.YtalgbcgiiphoaaaGreatDoor
open Go.RowKit Go.Lib Go.Sort
set_option linter.unusedVariables false
set_option maxRecDepth 100000 in
set_option maxHeartbeats 2000000 in
theorem refright_any (t r : Int) (w : World) :
    Calls Tryz.prog 85 #[.agg #[.int .i64 t, .int .i64 r]] w fun e w' => e = .returned (.bool (Gst.right ⟨t, r⟩)) ∧ Below w.heap.size w w' := by
  obtain ⟨v, hv⟩ : ∃ v, v = Gst.right ⟨t, r⟩ := ⟨_, rfl⟩
  have HV := Lib.hid hv
  rw [← hv]
  clear hv
  go_enter Tryz.func85, Tryz.ntmps85
  go_wp2
  all_goals
    go_ret
    refine ⟨ret_bool ?_, (Below.refl _ _).alloc (Nat.le_refl _) _⟩
    rw [HV.out]
    simp [Gst.right]
    try omega
set_option maxRecDepth 100000 in
set_option maxHeartbeats 2000000 in
theorem before_any (t r t' r' : Int) (w : World) :
    Calls Tryz.prog 87 #[.agg #[.int .i64 t, .int .i64 r], .agg #[.int .i64 t', .int .i64 r']] w fun e w' => e = .returned (.bool (Gst.lt ⟨t, r⟩ ⟨t', r'⟩)) ∧ Below w.heap.size w w' := by
  obtain ⟨v, hv⟩ : ∃ v, v = Gst.lt ⟨t, r⟩ ⟨t', r'⟩ := ⟨_, rfl⟩
  have HV := Lib.hid hv
  rw [← hv]
  clear hv
  by_cases h1 : t < t'
  · obtain rfl : v = true := by rw [HV.out]; simp [Gst.lt, h1]
    have t1 : decide (t < t') = true := decide_eq_true h1
    go_enter Tryz.func87, Tryz.ntmps87
    go_wp2
    go_ret
    exact ⟨rfl, ((Below.refl _ _).alloc (Nat.le_refl _) _).alloc (by simp) _⟩
  have t1 : decide (t < t') = false := decide_eq_false h1
  by_cases h2 : t = t'
  · subst h2
    obtain rfl : v = decide (r < r') := by rw [HV.out]; simp [Gst.lt]
    clear h1
    go_enter Tryz.func87, Tryz.ntmps87
    go_wp2
    go_ret
    exact ⟨rfl, ((Below.refl _ _).alloc (Nat.le_refl _) _).alloc (by simp) _⟩
  · obtain rfl : v = false := by rw [HV.out]; simp [Gst.lt, h1, h2]
    have t2 : (t == t') = false := by rw [beq_eq_false_iff_ne]; exact h2
    clear h1 h2
    go_enter Tryz.func87, Tryz.ntmps87
    go_wp2
    go_ret
    exact ⟨rfl, ((Below.refl _ _).alloc (Nat.le_refl _) _).alloc (by simp) _⟩
set_option maxRecDepth 100000 in
set_option maxHeartbeats 2000000 in
theorem refrightid_any (t r i : Int) (w : World) :
    Calls Tryz.prog 138 #[.agg #[.int .i64 t, .int .i64 r, .int .i64 i]] w fun e w' => e = .returned (.bool (Gid.right ⟨⟨t, r⟩, i⟩)) ∧ Below w.heap.size w w' := by
  obtain ⟨v, hv⟩ : ∃ v, v = Gid.right ⟨⟨t, r⟩, i⟩ := ⟨_, rfl⟩
  have HV := Lib.hid hv
  rw [← hv]
  clear hv
  cases hs : Gst.right ⟨t, r⟩ with
  | false =>
    have HS := Lib.hid hs
    clear hs
    go_enter Tryz.func138, Tryz.ntmps138
    go_wp2_with fail
    refine (refright_any _ _ _).mono ?_
    rw [HS.out]
    rintro e w1 ⟨rfl, hB⟩
    go_wp2
    go_ret
    refine ⟨ret_bool ?_, ((Below.refl _ _).alloc (Nat.le_refl _) _).trans (hB.mono (by simp))⟩
    rw [HV.out]
    simp [Gid.right, HS.out]
  | true =>
    have HS := Lib.hid hs
    clear hs
    go_enter Tryz.func138, Tryz.ntmps138
    go_wp2_with fail
    refine (refright_any _ _ _).mono ?_
    rw [HS.out]
    rintro e w1 ⟨rfl, hB⟩
    have hc : w1.cell? ⟨w.heap.size, 2, none⟩ = some (.int .i64 i) := by
      rw [hB.cell (by simp)]; go_simp
    go_wp2
    all_goals
      go_ret
      refine ⟨ret_bool ?_, ((Below.refl _ _).alloc (Nat.le_refl _) _).trans (hB.mono (by simp))⟩
      rw [HV.out]
      simp [Gid.right, HS.out]
      try omega
/-- the order of stamps, of ids, as the reference says it -/
def rcmpS (a b : Gst) : Int := if a.lt b = true then -1 else if b.lt a = true then 1 else 0
def rcmpD (a b : Gid) : Int := if rcmpS a.s b.s ≠ 0 then rcmpS a.s b.s else if a.i < b.i then -1 else if b.i < a.i then 1 else 0
theorem rcmpS_zero (a b : Gst) : rcmpS a b = 0 ↔ a.eqb b = true := by
  have h1 : a.lt b = true ↔ (a.t < b.t ∨ (a.t = b.t ∧ a.r < b.r)) := by simp [Gst.lt]
  have h2 : b.lt a = true ↔ (b.t < a.t ∨ (b.t = a.t ∧ b.r < a.r)) := by simp [Gst.lt]
  have h3 : a.eqb b = true ↔ (a.t = b.t ∧ a.r = b.r) := by simp [Gst.eqb]
  unfold rcmpS
  rw [h3]
  split
  · rename_i c; rw [h1] at c; omega
  · rename_i c; rw [h1] at c
    split
    · rename_i d; rw [h2] at d; omega
    · rename_i d; rw [h2] at d; omega
theorem rcmpD_ge (a b : Gid) : decide (0 ≤ rcmpD a b) = !a.lt b := by
  have h0 := rcmpS_zero a.s b.s
  have h1 : a.s.lt b.s = true → rcmpS a.s b.s = -1 := fun h => by unfold rcmpS; rw [if_pos h]
  have h2 : ¬ a.s.lt b.s = true → rcmpS a.s b.s = 1 ∨ rcmpS a.s b.s = 0 := fun h => by
    unfold rcmpS; rw [if_neg h]; split <;> simp
  rw [Bool.eq_iff_iff]
  unfold rcmpD
  simp only [Gid.lt, decide_eq_true_eq, Bool.not_eq_true', Bool.or_eq_false_iff, Bool.and_eq_false_iff, decide_eq_false_iff_not]
  by_cases c1 : a.s.lt b.s = true
  · have := h1 c1
    rw [this]; simp [c1]
  · have c1' : a.s.lt b.s = false := by simpa using c1
    rcases h2 c1 with c2 | c2
    · rw [c2]
      have : a.s.eqb b.s = false := by
        rw [← Bool.not_eq_true, ← h0, c2]; decide
      simp [c1', this]
    · rw [c2]
      have : a.s.eqb b.s = true := h0.1 c2
      simp only [c1', this]
      simp
      split
      · omega
      · split <;> omega
set_option maxRecDepth 100000 in
set_option maxHeartbeats 2000000 in
theorem refcmp_any (t r t' r' : Int) (w : World) :
    Calls Tryz.prog 151 #[.agg #[.int .i64 t, .int .i64 r], .agg #[.int .i64 t', .int .i64 r']] w fun e w' => e = .returned (.int .i64 (rcmpS ⟨t, r⟩ ⟨t', r'⟩)) ∧ Below w.heap.size w w' := by
  obtain ⟨v, hv⟩ : ∃ v, v = rcmpS ⟨t, r⟩ ⟨t', r'⟩ := ⟨_, rfl⟩
  have HV := Lib.hid hv
  rw [← hv]
  clear hv
  cases h1 : Gst.lt ⟨t, r⟩ ⟨t', r'⟩ with
  | true =>
    obtain rfl : v = -1 := by rw [HV.out]; unfold rcmpS; rw [if_pos h1]
    have H1 := Lib.hid h1
    clear h1
    go_enter Tryz.func151, Tryz.ntmps151
    go_wp2_with fail
    refine (before_any _ _ _ _ _).mono ?_
    rw [H1.out]
    rintro e w1 ⟨rfl, hB⟩
    go_wp2
    go_ret
    exact ⟨rfl, (((Below.refl _ _).alloc (Nat.le_refl _) _).alloc (by simp) _).trans (hB.mono (by simp; omega))⟩
  | false =>
  have H1 := Lib.hid h1
  have key : ∀ b : Bool, Gst.lt ⟨t', r'⟩ ⟨t, r⟩ = b → v = (if b = true then 1 else 0) := fun b hb => by
    rw [HV.out]; unfold rcmpS; rw [h1, hb]; rfl
  clear h1
  cases h2 : Gst.lt ⟨t', r'⟩ ⟨t, r⟩ with
  | true =>
    obtain rfl : v = 1 := key true h2
    have H2 := Lib.hid h2
    clear h2 key
    go_enter Tryz.func151, Tryz.ntmps151
    go_wp2_with fail
    refine (before_any _ _ _ _ _).mono ?_
    rw [H1.out]
    rintro e w1 ⟨rfl, hB⟩
    have c0 : w1.cell? ⟨w.heap.size, 0, none⟩ = some (.int .i64 t) := by rw [hB.cell (by simp; omega)]; go_simp
    have c1 : w1.cell? ⟨w.heap.size, 1, none⟩ = some (.int .i64 r) := by rw [hB.cell (by simp; omega)]; go_simp
    have d0 : w1.cell? ⟨w.heap.size + 1, 0, none⟩ = some (.int .i64 t') := by rw [hB.cell (by simp)]; go_simp
    have d1 : w1.cell? ⟨w.heap.size + 1, 1, none⟩ = some (.int .i64 r') := by rw [hB.cell (by simp)]; go_simp
    go_wp2_with fail
    refine (before_any _ _ _ _ _).mono ?_
    rw [H2.out]
    rintro e w2 ⟨rfl, hB2⟩
    go_wp2
    go_ret
    exact ⟨rfl, ((((Below.refl _ _).alloc (Nat.le_refl _) _).alloc (by simp) _).trans (hB.mono (by simp; omega))).trans (hB2.mono (by have := hB.size; simp at this; omega))⟩
  | false =>
    obtain rfl : v = 0 := key false h2
    have H2 := Lib.hid h2
    clear h2 key
    go_enter Tryz.func151, Tryz.ntmps151
    go_wp2_with fail
    refine (before_any _ _ _ _ _).mono ?_
    rw [H1.out]
    rintro e w1 ⟨rfl, hB⟩
    have c0 : w1.cell? ⟨w.heap.size, 0, none⟩ = some (.int .i64 t) := by rw [hB.cell (by simp; omega)]; go_simp
    have c1 : w1.cell? ⟨w.heap.size, 1, none⟩ = some (.int .i64 r) := by rw [hB.cell (by simp; omega)]; go_simp
    have d0 : w1.cell? ⟨w.heap.size + 1, 0, none⟩ = some (.int .i64 t') := by rw [hB.cell (by simp)]; go_simp
    have d1 : w1.cell? ⟨w.heap.size + 1, 1, none⟩ = some (.int .i64 r') := by rw [hB.cell (by simp)]; go_simp
    go_wp2_with fail
    refine (before_any _ _ _ _ _).mono ?_
    rw [H2.out]
    rintro e w2 ⟨rfl, hB2⟩
    go_wp2
    go_ret
    exact ⟨rfl, ((((Below.refl _ _).alloc (Nat.le_refl _) _).alloc (by simp) _).trans (hB.mono (by simp; omega))).trans (hB2.mono (by have := hB.size; simp at this; omega))⟩
set_option maxRecDepth 100000 in
set_option maxHeartbeats 2000000 in
theorem refcmpid_any (t r i t' r' i' : Int) (w : World) :
    Calls Tryz.prog 140 #[.agg #[.int .i64 t, .int .i64 r, .int .i64 i], .agg #[.int .i64 t', .int .i64 r', .int .i64 i']] w fun e w' => e = .returned (.int .i64 (rcmpD ⟨⟨t, r⟩, i⟩ ⟨⟨t', r'⟩, i'⟩)) ∧ Below w.heap.size w w' := by
  obtain ⟨v, hv⟩ : ∃ v, v = rcmpD ⟨⟨t, r⟩, i⟩ ⟨⟨t', r'⟩, i'⟩ := ⟨_, rfl⟩
  have HV := Lib.hid hv
  rw [← hv]
  clear hv
  obtain ⟨q, hq⟩ : ∃ q, q = rcmpS ⟨t, r⟩ ⟨t', r'⟩ := ⟨_, rfl⟩
  have hvq : v = (if q ≠ 0 then q else if i < i' then -1 else if i' < i then 1 else 0) := by rw [HV.out, hq]; rfl
  have HQ := Lib.hid hq
  have HVQ := Lib.hid hvq
  clear hq hvq HV
  go_enter Tryz.func140, Tryz.ntmps140
  go_wp2_with fail
  refine (refcmp_any _ _ _ _ _).mono ?_
  rw [← HQ.out]
  rintro e w1 ⟨rfl, hB⟩
  have c2 : w1.cell? ⟨w.heap.size, 2, none⟩ = some (.int .i64 i) := by rw [hB.cell (by simp; omega)]; go_simp
  have d2 : w1.cell? ⟨w.heap.size + 1, 2, none⟩ = some (.int .i64 i') := by rw [hB.cell (by simp)]; go_simp
  have hBB := (((Below.refl w.heap.size w).alloc (Nat.le_refl _) (.cells #[.int .i64 t, .int .i64 r, .int .i64 i] 66)).alloc (by simp) (.cells #[.int .i64 t', .int .i64 r', .int .i64 i'] 66)).trans (hB.mono (by simp; omega))
  clear hB
  by_cases h0 : q = 0
  · subst h0
    by_cases h1 : i < i'
    · obtain rfl : v = -1 := by rw [HVQ.out]; simp [h1]
      go_wp2
      go_ret
      exact ⟨rfl, hBB⟩
    · by_cases h2 : i' < i
      · obtain rfl : v = 1 := by rw [HVQ.out]; simp [h1, h2]
        have t1 : decide (i < i') = false := decide_eq_false h1
        clear h1
        go_wp2
        go_ret
        exact ⟨rfl, hBB⟩
      · obtain rfl : v = 0 := by rw [HVQ.out]; simp [h1, h2]
        have t1 : decide (i < i') = false := decide_eq_false h1
        have t2 : decide (i' < i) = false := decide_eq_false h2
        clear h1 h2
        go_wp2
        go_ret
        exact ⟨rfl, hBB⟩
  · obtain rfl : v = q := by rw [HVQ.out]; simp [h0]
    have t1 : (v != 0) = true := by rw [bne_iff_ne]; exact h0
    clear h0
    go_wp2
    go_ret
    exact ⟨rfl, hBB⟩
end Go.Proofs.YtalgbcgiiphoaaaGreatDoor
end
section
namespace Go.Proofs.YtalgbcgiiphoaaaGreatDoor
open Go.RowKit Go.Lib Go.Sort
set_option linter.unusedVariables false
section
variable {P : Program} {ops : Array Oper} {C : World → Prop} {Q : Exit → Act → World → Prop} {Q' : Act → Prop}
theorem wpList_of_quiet (hQ : ∀ a w, C w → Q' a → Q .normal a w) : ∀ (l : List Oper) (a : Act) (w : World), C w → wpQuiet P ops C Q' l a → wpList P ops Q l a w
  | [], a, w, hc, h => hQ a w hc h
  | o :: rest, a, w, hc, h => by
    unfold wpList
    unfold wpQuiet at h
    by_cases hw : Region.wanted o (yielded ops a.tmps) = true
    · rw [if_pos hw] at h ⊢
      exact .inl (Oper.wp_of_quiet hc (fun a' w' hc' hk => wpList_of_quiet hQ rest a' w' hc' hk) h)
    · rw [if_neg hw] at h ⊢
      exact wpList_of_quiet hQ rest _ w hc h
theorem wp_plain_quiet_below {id : Nat} {a : Act} {w : World} {l : List Oper}
    (h : wpQuiet P l.toArray (fun w' => ∃ p : Regrown, w' = grow (redrawn w p.d) p.os) (fun a' => ∀ w', (∃ p : Regrown, w' = grow (redrawn w p.d) p.os) → Q .normal a' w') l a) : (Code.region id l.toArray false).wp P Q a w := by
  refine wp_region ?_
  have e := wpOps_eq_wpList (P := P) (ops := l.toArray) (Q := Q) l 0 (by simp)
  rw [List.range_eq_range', List.size_toArray, e]
  exact wpList_of_quiet (fun a w hc h => h w hc) l a w ⟨⟨w.drawn, #[]⟩, by rw [grow_empty]; rfl⟩ h
end
end Go.Proofs.YtalgbcgiiphoaaaGreatDoor
end
