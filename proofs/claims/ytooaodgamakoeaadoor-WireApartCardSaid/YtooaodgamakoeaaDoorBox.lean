/- Plain words of a box: groups that come in any order are delivered in one that may be. No condition. -/
import Derived.Test.YtooaodgamakoeaaDoorGrp
namespace Go.Proofs.YtooaodgamakoeaaDoor
open Go.Lib
set_option linter.unusedVariables false
def gz : Grp := ⟨.zero, 0, [], .zero, []⟩
def covB (v w : List Int) : Bool := allIx (max v.length w.length) fun r => decide (w.getD r 0 ≤ v.getD r 0)
def setV (v : List Int) (r n : Int) : List Int := (List.range (max v.length r.toNat)).map fun (k : Nat) => if (k : Int) + 1 = r then n else v.getD k 0
def withV (v : List Int) (r n : Int) : List Int := plainV (setV v r n)
theorem pv_snoc0 (v : List Int) : plainV (v ++ [0]) = plainV v := by unfold plainV; simp
theorem pv_snoc (v : List Int) (x : Int) (h : x ≠ 0) : plainV (v ++ [x]) = v ++ [x] := by unfold plainV; simp [h]
theorem getD_snoc (v : List Int) (x : Int) (k : Nat) : (v ++ [x]).getD k 0 = if k = v.length then x else v.getD k 0 := by
  simp only [List.getD_eq_getElem?_getD, List.getElem?_append, List.getElem?_singleton]
  by_cases h1 : k < v.length
  · rw [if_pos h1, if_neg (by omega)]
  · rw [if_neg h1]
    by_cases h2 : k = v.length
    · rw [if_pos h2, if_pos (by omega)]; rfl
    · rw [if_neg h2, if_neg (by omega), List.getElem?_eq_none (by omega)]
theorem snoc_ind {P : List Int → Prop} (h0 : P []) (h1 : ∀ v x, P v → P (v ++ [x])) (v : List Int) : P v := by
  have : ∀ u : List Int, P u.reverse := fun u => by
    induction u with
    | nil => exact h0
    | cons a u ih => rw [List.reverse_cons]; exact h1 _ _ ih
  have h := this v.reverse
  rwa [List.reverse_reverse] at h
theorem pv_getD (v : List Int) (k : Nat) : (plainV v).getD k 0 = v.getD k 0 := by
  refine snoc_ind (P := fun v => (plainV v).getD k 0 = v.getD k 0) rfl (fun v x ih => ?_) v
  by_cases hx : x = 0
  · subst hx
    rw [pv_snoc0, ih, getD_snoc]
    split
    · rename_i h; subst h; simp [List.getD_eq_getElem?_getD]
    · rfl
  · rw [pv_snoc _ _ hx]
theorem pv_len (v : List Int) : (plainV v).length ≤ v.length := by
  refine snoc_ind (P := fun v => (plainV v).length ≤ v.length) (Nat.le_refl _) (fun v x ih => ?_) v
  by_cases hx : x = 0
  · subst hx; rw [pv_snoc0, List.length_append]; omega
  · rw [pv_snoc _ _ hx]; exact Nat.le_refl _
theorem pv_pv (v : List Int) : plainV (plainV v) = plainV v := by
  refine snoc_ind (P := fun v => plainV (plainV v) = plainV v) rfl (fun v x ih => ?_) v
  by_cases hx : x = 0
  · subst hx; rw [pv_snoc0]; exact ih
  · rw [pv_snoc _ _ hx, pv_snoc _ _ hx]
/-- a plain vector's last number is none that is 0 -/
theorem pv_last {v : List Int} (h : plainV v = v) (h0 : v ≠ []) : v.getD (v.length - 1) 0 ≠ 0 := by
  revert h h0
  refine snoc_ind (P := fun v => plainV v = v → v ≠ [] → v.getD (v.length - 1) 0 ≠ 0) (fun _ h => absurd rfl h) (fun v x ih h h0 => ?_) v
  rw [getD_snoc, if_pos (by simp)]
  intro hx
  subst hx
  have := pv_len v
  rw [pv_snoc0] at h
  rw [h, List.length_append, List.length_singleton] at this
  omega
theorem pv_ext {v u : List Int} (hv : plainV v = v) (hu : plainV u = u) (h : ∀ k, v.getD k 0 = u.getD k 0) : v = u := by
  have hz : ∀ {w : List Int} {k : Nat}, w.length ≤ k → w.getD k 0 = 0 := fun hk => by simp [List.getD_eq_getElem?_getD, List.getElem?_eq_none hk]
  have hl : v.length = u.length := by
    rcases Nat.lt_trichotomy v.length u.length with c | c | c
    · exfalso
      refine pv_last hu (fun e => by subst e; simp at c) ?_
      rw [← h]; exact hz (by omega)
    · exact c
    · exfalso
      refine pv_last hv (fun e => by subst e; simp at c) ?_
      rw [h]; exact hz (by omega)
  refine List.ext_getElem hl fun k h1 h2 => ?_
  have := h k
  simpa [List.getD_eq_getElem?_getD, h1, h2] using this
theorem atV_nat {v : List Int} {r : Int} (h : 1 ≤ r) : atV v r = v.getD (r - 1).toNat 0 := by unfold atV; rw [if_neg (by omega)]
theorem setV_getD (v : List Int) (r n : Int) (k : Nat) (hr : 1 ≤ r) : (setV v r n).getD k 0 = if (k : Int) + 1 = r then n else v.getD k 0 := by
  unfold setV
  rw [List.getD_eq_getElem?_getD, List.getElem?_map]
  by_cases h : k < max v.length r.toNat
  · rw [List.getElem?_range h]; rfl
  · rw [List.getElem?_eq_none (by simpa using h), Option.map_none, Option.getD_none, if_neg (by omega)]
    simp [List.getD_eq_getElem?_getD, List.getElem?_eq_none (show v.length ≤ k by omega)]
theorem withV_getD (v : List Int) (r n : Int) (k : Nat) (hr : 1 ≤ r) : (withV v r n).getD k 0 = if (k : Int) + 1 = r then n else v.getD k 0 := by
  unfold withV; rw [pv_getD, setV_getD v r n k hr]
theorem atV_with (v : List Int) (r n q : Int) (hr : 1 ≤ r) : atV (withV v r n) q = if q = r then n else atV v q := by
  unfold atV
  by_cases hq : q < 1
  · rw [if_pos hq, if_neg (by omega), if_pos hq]
  · rw [if_neg hq, if_neg hq, withV_getD _ _ _ _ hr]
    by_cases h : q = r
    · rw [if_pos h, if_pos (by omega)]
    · rw [if_neg h, if_neg (by omega)]
theorem withV_plain (v : List Int) (r n : Int) : plainV (withV v r n) = withV v r n := pv_pv _
theorem covB_iff {v w : List Int} : covB v w = true ↔ ∀ k, w.getD k 0 ≤ v.getD k 0 := by
  refine ⟨fun h k => ?_, fun h => allIx_true fun k _ => decide_eq_true (h k)⟩
  by_cases hk : k < max v.length w.length
  · have := allIx_of h k hk; simpa using this
  · simp [List.getD_eq_getElem?_getD, List.getElem?_eq_none (show v.length ≤ k by omega), List.getElem?_eq_none (show w.length ≤ k by omega)]
theorem covB_at {v w : List Int} (h : covB v w = true) (r : Int) : atV w r ≤ atV v r := by
  unfold atV; split
  · exact Int.le_refl _
  · exact covB_iff.1 h _

/-- a box: what was delivered, what waits, and how much was delivered -/
structure Bx where
  done : List Grp
  wait : List Grp
  v : List Int
def Bx.new : Bx := ⟨[], [], []⟩
def readyB (v : List Int) (g : Grp) : Bool := covB v g.deps
def oldB (v : List Int) (g : Grp) : Bool := decide (g.n ≤ atV v g.s.r)
def clashB (a g : Grp) : Bool := (decide (a.s.r = g.s.r) && decide (a.n = g.n)) || a.s.eqb g.s
def knownB (b : Bx) (g : Grp) : Bool := b.done.any (fun d => d.s.eqb g.s) || oldB b.v g || b.wait.any (fun a => clashB a g)
def Bx.put (b : Bx) (g : Grp) : Bx := ⟨b.done ++ [g], b.wait, withV b.v g.s.r g.n⟩
/-- is a group ahead of the best one so far? -/
def behB (l : List Grp) (g : Grp) : Option Nat → Bool
  | none => true
  | some k => g.s.lt (l.getD k gz).s
/-- of the first so many that wait: the place of the one with the least stamp that may be delivered -/
def bestN (v : List Int) (l : List Grp) : Nat → Option Nat
  | 0 => none
  | i + 1 => if readyB v (l.getD i gz) && behB l (l.getD i gz) (bestN v l i) then some i else bestN v l i
theorem bestN_lt {v : List Int} {l : List Grp} : ∀ {n k : Nat}, bestN v l n = some k → k < n ∧ readyB v (l.getD k gz) = true
  | 0, k, h => by cases h
  | n + 1, k, h => by
    unfold bestN at h
    split at h
    · rename_i c
      simp only [Bool.and_eq_true] at c
      cases h
      exact ⟨by omega, c.1⟩
    · have := bestN_lt h
      exact ⟨by omega, this.2⟩
theorem bestN_none {v : List Int} {l : List Grp} : ∀ {n : Nat}, bestN v l n = none → ∀ k, k < n → readyB v (l.getD k gz) = false
  | 0, h => fun k hk => by omega
  | n + 1, h => fun k hk => by
    unfold bestN at h
    split at h
    · cases h
    · rename_i c
      rw [h] at c
      simp only [behB, Bool.and_true, Bool.not_eq_true] at c
      rcases Nat.lt_or_ge k n with h1 | h1
      · exact bestN_none h k h1
      · obtain rfl : k = n := by omega
        exact c
def drainF : Nat → Bx → Bx × Nat
  | 0, b => (b, 0)
  | f + 1, b => match bestN b.v b.wait b.wait.length with
    | none => (b, 0)
    | some k =>
      if oldB b.v (b.wait.getD k gz) = true then drainF f ⟨b.done, b.wait.eraseIdx k, b.v⟩
      else ((drainF f (Bx.put ⟨b.done, b.wait.eraseIdx k, b.v⟩ (b.wait.getD k gz))).1, (drainF f (Bx.put ⟨b.done, b.wait.eraseIdx k, b.v⟩ (b.wait.getD k gz))).2 + 1)
theorem drainF_none {f : Nat} {b : Bx} (h : bestN b.v b.wait b.wait.length = none) : drainF f b = (b, 0) := by
  cases f with
  | zero => rfl
  | succ f => unfold drainF; rw [h]
theorem drainF_old {f k : Nat} {b : Bx} (h : bestN b.v b.wait b.wait.length = some k) (ho : oldB b.v (b.wait.getD k gz) = true) : drainF (f + 1) b = drainF f ⟨b.done, b.wait.eraseIdx k, b.v⟩ := by
  rw [drainF, h]; simp only; rw [if_pos ho]
theorem drainF_put {f k : Nat} {b : Bx} (h : bestN b.v b.wait b.wait.length = some k) (ho : oldB b.v (b.wait.getD k gz) = false) :
    drainF (f + 1) b = ((drainF f (Bx.put ⟨b.done, b.wait.eraseIdx k, b.v⟩ (b.wait.getD k gz))).1, (drainF f (Bx.put ⟨b.done, b.wait.eraseIdx k, b.v⟩ (b.wait.getD k gz))).2 + 1) := by
  rw [drainF, h]; simp only; rw [ho, if_neg (by decide)]
def hearB (b : Bx) (g : Grp) : Bx × Nat × Int :=
  if chkB g = false then (b, 0, 80)
  else if knownB b g = true then (b, 0, 210)
  else if readyB b.v g = true then ((drainF b.wait.length (b.put g)).1, (drainF b.wait.length (b.put g)).2 + 1, 0)
  else if 100 ≤ b.wait.length then (b, 0, 211)
  else (⟨b.done, b.wait ++ [g], b.v⟩, 0, 0)
/-- groups one behind the other: each may be delivered where it stands; what is known behind them -/
def aheadV : List Int → List Grp → Option (List Int)
  | v, [] => some v
  | v, g :: l => if chkB g && covB v g.deps && decide (atV v g.s.r = g.n - 1) then aheadV (withV v g.s.r g.n) l else none
theorem aheadV_append : ∀ (l m : List Grp) (v : List Int), aheadV v (l ++ m) = (aheadV v l).bind fun u => aheadV u m
  | [], m, v => rfl
  | g :: l, m, v => by
    simp only [List.cons_append, aheadV]
    split
    · exact aheadV_append l m _
    · rfl
theorem aheadV_snoc {l : List Grp} {v u : List Int} {g : Grp} (h : aheadV v l = some u) (hc : chkB g = true) (hr : covB u g.deps = true) (hn : atV u g.s.r = g.n - 1) : aheadV v (l ++ [g]) = some (withV u g.s.r g.n) := by
  rw [aheadV_append, h]
  simp [aheadV, hc, hr, hn]
/-- a box that came to be by hearing -/
structure BxOk (b : Bx) : Prop where
  apart : ((b.done ++ b.wait).map (·.s)).Nodup
  chk : ∀ g ∈ b.done ++ b.wait, chkB g = true
  ahead : aheadV [] b.done = some b.v
theorem chk_right {g : Grp} (h : chkB g = true) : g.s.right = true ∧ 1 ≤ g.n ∧ g.n ≤ 1099511627776 ∧ atV g.deps g.s.r = g.n - 1 := by
  simp only [chkB, headB, Bool.and_eq_true, decide_eq_true_eq] at h
  exact ⟨h.1.1.1.1.1, h.1.1.1.1.2, h.1.1.1.2, h.1.2⟩
theorem right_r {s : Gst} (h : s.right = true) : 1 ≤ s.r ∧ s.r ≤ 16 := by
  simp only [Gst.right, Bool.and_eq_true, decide_eq_true_eq] at h
  exact ⟨h.1.2, h.2⟩
theorem next_n {v : List Int} {g : Grp} (hc : chkB g = true) (hr : readyB v g = true) (ho : oldB v g = false) : atV v g.s.r = g.n - 1 := by
  have h1 := (chk_right hc).2.2.2
  have h2 := covB_at hr g.s.r
  simp only [oldB, decide_eq_false_iff_not] at ho
  omega
theorem BxOk.new : BxOk Bx.new := ⟨List.nodup_nil, fun g h => (by cases h), rfl⟩
theorem perm_put (d w : List Grp) (g : Grp) : (d ++ [g] ++ w).Perm (d ++ (g :: w)) := by rw [List.append_assoc]; exact List.Perm.refl _
theorem BxOk.put {b : Bx} (h : BxOk b) {g : Grp} (hc : chkB g = true) (hr : readyB b.v g = true) (ho : oldB b.v g = false) (hs : ∀ x ∈ b.done ++ b.wait, x.s ≠ g.s) : BxOk (b.put g) := by
  refine ⟨?_, fun x hx => ?_, aheadV_snoc h.ahead hc hr (next_n hc hr ho)⟩
  · have e : ((b.put g).done ++ (b.put g).wait).map (·.s) = b.done.map (·.s) ++ (g.s :: b.wait.map (·.s)) := by simp [Bx.put]
    rw [e, List.perm_middle.nodup_iff, List.nodup_cons]
    refine ⟨fun hm => ?_, by simpa using h.apart⟩
    rw [← List.map_append, List.mem_map] at hm
    obtain ⟨x, hx, he⟩ := hm
    exact hs x hx he
  · simp only [Bx.put, List.mem_append, List.mem_singleton] at hx
    rcases hx with (hx | rfl) | hx
    · exact h.chk x (by simp [hx])
    · exact hc
    · exact h.chk x (by simp [hx])
theorem BxOk.drop {b : Bx} (h : BxOk b) (k : Nat) : BxOk ⟨b.done, b.wait.eraseIdx k, b.v⟩ := by
  have hsub : (b.done ++ b.wait.eraseIdx k).Sublist (b.done ++ b.wait) := (List.Sublist.refl _).append (List.eraseIdx_sublist _ _)
  exact ⟨(hsub.map _).nodup h.apart, fun g hg => h.chk g (hsub.subset hg), h.ahead⟩
theorem getD_mem {l : List Grp} {k : Nat} (hk : k < l.length) : l.getD k gz ∈ l := by
  rw [List.getD_eq_getElem?_getD, List.getElem?_eq_getElem hk]; exact List.getElem_mem hk
/-- what is taken out is another one than those that stay -/
theorem erase_ne {l : List Grp} {k : Nat} (hk : k < l.length) (h : (l.map (·.s)).Nodup) : ∀ x ∈ l.eraseIdx k, x.s ≠ (l.getD k gz).s := by
  intro x hx e
  have e2 : l.getD k gz = l[k] := by simp [List.getD_eq_getElem?_getD, hk]
  rw [e2] at e
  rw [List.mem_eraseIdx_iff_getElem] at hx
  obtain ⟨i, hi, hne, hx⟩ := hx
  have := (List.pairwise_iff_getElem.1 h)
  have hik : (l.map (·.s))[i]'(by simpa using hi) = (l.map (·.s))[k]'(by simpa using hk) := by simp [hx, e]
  exact hne ((List.getElem_inj h).1 hik)
theorem drainF_ok : ∀ (f : Nat) (b : Bx), BxOk b → BxOk (drainF f b).1
  | 0, b, h => h
  | f + 1, b, h => by
    cases hb : bestN b.v b.wait b.wait.length with
    | none => rw [drainF_none hb]; exact h
    | some k =>
      obtain ⟨hk, hr⟩ := bestN_lt hb
      cases ho : oldB b.v (b.wait.getD k gz) with
      | true => rw [drainF_old hb ho]; exact drainF_ok f _ (h.drop k)
      | false =>
        rw [drainF_put hb ho]
        refine drainF_ok f _ ((h.drop k).put (h.chk _ (List.mem_append.2 (.inr (getD_mem hk)))) hr ho fun x hx => ?_)
        have hn := h.apart
        rw [List.map_append, List.nodup_append] at hn
        rcases List.mem_append.1 hx with hx | hx
        · exact fun e => hn.2.2 _ (List.mem_map.2 ⟨x, hx, rfl⟩) _ (List.mem_map.2 ⟨_, getD_mem hk, rfl⟩) e
        · exact erase_ne hk hn.2.1 x hx
theorem not_known {b : Bx} {g : Grp} (h : knownB b g = false) : oldB b.v g = false ∧ ∀ x ∈ b.done ++ b.wait, x.s ≠ g.s := by
  simp only [knownB, Bool.or_eq_false_iff, List.any_eq_false] at h
  refine ⟨h.1.2, fun x hx e => ?_⟩
  rcases List.mem_append.1 hx with hx | hx
  · exact h.1.1 x hx (by rw [Gst.eqb_iff]; exact e)
  · refine h.2 x hx ?_
    unfold clashB
    rw [Bool.or_eq_true, Gst.eqb_iff]
    exact .inr e
theorem hearB_ok {b : Bx} (h : BxOk b) (g : Grp) : BxOk (hearB b g).1 := by
  unfold hearB
  split
  · exact h
  · rename_i hc
    simp only [Bool.not_eq_false] at hc
    split
    · exact h
    · rename_i hk
      simp only [Bool.not_eq_true] at hk
      obtain ⟨h1, h2⟩ := not_known hk
      split
      · rename_i hr
        exact drainF_ok _ _ (h.put hc hr h1 h2)
      · split
        · exact h
        · refine ⟨?_, fun x hx => ?_, h.ahead⟩
          · show ((b.done ++ (b.wait ++ [g])).map (·.s)).Nodup
            rw [← List.append_assoc, List.map_append, List.nodup_append]
            refine ⟨h.apart, by simp, fun a ha c hc' => ?_⟩
            simp only [List.map_cons, List.map_nil, List.mem_singleton] at hc'
            obtain ⟨x, hx, rfl⟩ := List.mem_map.1 ha
            rw [hc']; exact h2 x hx
          · simp only [List.mem_append, List.mem_singleton] at hx
            rcases hx with hx | hx | rfl
            · exact h.chk x (by simp [hx])
            · exact h.chk x (by simp [hx])
            · exact hc
/-- the reference's way: groups that may be, the first one of each name; how much they are -/
def findB (l : List Grp) (s : Gst) : Bool := l.any fun d => d.s.eqb s
def rightL : List Grp → List Grp → List Grp
  | out, [] => out
  | out, g :: l => if chkB g && !findB out g.s then rightL (out ++ [g]) l else rightL out l
def vecL : List Int → List Grp → List Int
  | v, [] => v
  | v, g :: l => vecL (withV v g.s.r (max g.n (atV v g.s.r))) l
theorem rightL_id : ∀ (l out : List Grp), (∀ g ∈ l, chkB g = true) → ((out ++ l).map (·.s)).Nodup → rightL out l = out ++ l
  | [], out, _, _ => by simp [rightL]
  | g :: l, out, hc, hn => by
    have hf : findB out g.s = false := by
      unfold findB
      rw [List.any_eq_false]
      intro x hx e
      rw [Gst.eqb_iff] at e
      rw [List.map_append, List.nodup_append] at hn
      exact hn.2.2 _ (List.mem_map.2 ⟨x, hx, rfl⟩) _ (List.mem_map.2 ⟨g, by simp, rfl⟩) e
    unfold rightL
    rw [hc g (by simp), hf]
    simp only [Bool.not_false, Bool.and_self, if_true]
    rw [rightL_id l (out ++ [g]) (fun x hx => hc x (by simp [hx])) (by simpa using hn)]
    simp
theorem vecL_ahead : ∀ (l : List Grp) (v u : List Int), aheadV v l = some u → vecL v l = u
  | [], v, u, h => by simp only [aheadV, Option.some.injEq] at h; exact h
  | g :: l, v, u, h => by
    unfold aheadV at h
    split at h
    · rename_i c
      simp only [Bool.and_eq_true, decide_eq_true_eq] at c
      unfold vecL
      have : max g.n (atV v g.s.r) = g.n := by omega
      rw [this]
      exact vecL_ahead l _ u h
    · cases h
theorem BxOk.vec {b : Bx} (h : BxOk b) : vecL [] (rightL [] b.done) = b.v := by
  rw [rightL_id b.done [] (fun g hg => h.chk g (by simp [hg])) (by
    have := h.apart
    rw [List.map_append, List.nodup_append] at this
    simpa using this.1), List.nil_append]
  exact vecL_ahead _ _ _ h.ahead
end Go.Proofs.YtooaodgamakoeaaDoor
