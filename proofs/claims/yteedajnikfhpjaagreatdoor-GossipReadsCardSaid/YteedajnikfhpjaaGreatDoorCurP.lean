/- Plain words of numbers that a cursor takes. No condition. -/
import Derived.Test.YteedajnikfhpjaaGreatDoorPA
namespace Go.Proofs.YteedajnikfhpjaaGreatDoor
open Go.Lib
set_option linter.unusedVariables false
theorem times_takeN : ∀ (n : Nat) (l : List UInt8), timesR intR n l = match Vr.takeN n l with
    | .ok ns r => some (ns.map fun (m : Nat) => (m : Int), r)
    | .err _ => none
  | 0, l => rfl
  | n + 1, l => by
    cases ht : Vr.take l with
    | err e =>
      rw [Vr.takeN_err ht]
      exact rbind_none (f := fun x => rbind (timesR intR n) fun xs => rpure (x :: xs)) (by unfold intR; rw [ht])
    | ok m r =>
      rw [Vr.takeN_ok ht]
      have h1 : intR l = some ((m : Int), r) := by unfold intR; rw [ht]
      have e1 : timesR intR (n + 1) l = rbind (timesR intR n) (fun xs => rpure ((m : Int) :: xs)) r := rbind_some (f := fun x => rbind (timesR intR n) fun xs => rpure (x :: xs)) h1
      rw [e1]
      have ih := times_takeN n r
      cases h2 : Vr.takeN n r with
      | err e => rw [h2] at ih; rw [rbind_none ih]; rfl
      | ok ns q => rw [h2] at ih; rw [rbind_some ih]; rfl
theorem times_le : ∀ (n : Nat) (l : List UInt8) (xs : List Int) (r : List UInt8), timesR intR n l = some (xs, r) → r.length + n ≤ l.length
  | 0, l, xs, r, h => by cases h; exact Nat.le_refl _
  | n + 1, l, xs, r, h => by
    obtain ⟨x, q, h1, h2⟩ := rbind_inv (f := fun x => rbind (timesR intR n) fun xs => rpure (x :: xs)) h
    obtain ⟨ys, q2, h3, h4⟩ := rbind_inv h2
    cases h4
    have := intT _ _ _ h1
    have := times_le n _ _ _ h3
    omega
theorem many_nats (l : List UInt8) : manyR intR l = match Vr.takeNats l with
    | .ok ns r => some (ns.map fun (m : Nat) => (m : Int), r)
    | .err _ => none := by
  unfold Vr.takeNats
  cases ht : Vr.take l with
  | err e => exact rbind_none (p := intR) (f := fun n : Int => timesR intR n.toNat) (by unfold intR; rw [ht])
  | ok n r =>
    have e1 : manyR intR l = timesR intR n r := by
      have := rbind_some (f := fun n : Int => timesR intR n.toNat) (show intR l = some ((n : Int), r) by unfold intR; rw [ht])
      rw [Int.toNat_natCast] at this
      exact this
    rw [e1]
    by_cases hn : r.length < n
    · simp only [if_pos hn]
      cases h : timesR intR n r with
      | none => rfl
      | some y => obtain ⟨xs, q⟩ := y; have := times_le _ _ _ _ h; omega
    · simp only [if_neg hn]
      exact times_takeN n r
theorem takeNats_le {l : List UInt8} {ns : List Nat} {r : List UInt8} (h : Vr.takeNats l = .ok ns r) : r.length ≤ l.length := by
  have := (Vr.takeNats_back h).1
  rw [this, List.length_append]; omega
theorem RdIs.nats {l : List UInt8} {ns : List Nat} {r : List UInt8} (h : Vr.takeNats l = .ok ns r) (b : Bool) : RdIs (manyR intR) l b (ns.map fun (m : Nat) => (m : Int)) r b :=
  ⟨fun e => e, fun e => .inl ⟨e, by rw [many_nats, h]⟩, takeNats_le h⟩
theorem RdIs.nonats {l : List UInt8} {c : Nat} (h : Vr.takeNats l = .err c) (b : Bool) (x : List Int) : RdIs (manyR intR) l b x [] true :=
  ⟨fun _ => rfl, fun e => .inr ⟨rfl, by rw [many_nats, h]⟩, Nat.zero_le _⟩
theorem takeN_pos : ∀ (k : Nat) (l : List UInt8) (e : Nat), Vr.takeN k l = .err e → 1 ≤ e
  | 0, l, e, h => by cases h
  | k + 1, l, e, h => by
    cases ht : Vr.take l with
    | err c =>
      rw [Vr.takeN_err ht] at h
      cases h
      have := Vr.takeF_err _ _ _ _ ht; omega
    | ok n r =>
      rw [Vr.takeN_ok ht] at h
      cases h2 : Vr.takeN k r with
      | err c => rw [h2] at h; cases h; exact takeN_pos k r _ h2
      | ok ms q => rw [h2] at h; cases h
theorem takeNats_pos {l : List UInt8} {e : Nat} (h : Vr.takeNats l = .err e) : 1 ≤ e := by
  unfold Vr.takeNats at h
  cases ht : Vr.take l with
  | err c => rw [ht] at h; cases h; have := Vr.takeF_err _ _ _ _ ht; omega
  | ok n r =>
    rw [ht] at h
    simp only at h
    split at h
    · cases h; omega
    · exact takeN_pos _ _ _ h
/-- what could not be read of a group's bytes is no group -/
theorem decZ_bad {α : Type} {l l' : List UInt8} {x : α} {p : Rd α} {f : α → Rd Grp} (hp : grpR = rbind p f) (h : RdIs p l false x l' true) : decZ l = none := by
  unfold decZ
  rcases h.step rfl with ⟨h1, _⟩ | ⟨_, h2⟩
  · cases h1
  · rw [hp, rbind_none h2]
theorem decZ_lost {l l1 l2 l3 : List UInt8} {b1 b2 b3 : Bool} {st : Gst} {n : Int} {v : List Int} (h1 : RdIs stR l false st l1 b1) (h2 : RdIs intR l1 b1 n l2 b2) (h3 : RdIs (manyR intR) l2 b2 v l3 b3) (hb : b3 = true) : decZ l = none := by
  subst hb
  refine decZ_bad (p := rbind stR fun s => rbind intR fun n => rbind (manyR intR) fun v => rpure (s, n, v)) (x := (st, n, v)) (l' := l3) (f := fun y => rbind stR fun u => rbind (manyR opR) fun o => rpure (⟨y.1, y.2.1, y.2.2, u, o⟩ : Grp)) ?_ ?_
  · funext l
    unfold grpR rbind rpure
    cases stR l with
    | none => rfl
    | some a =>
      obtain ⟨a, la⟩ := a
      dsimp only
      cases intR la with
      | none => rfl
      | some c =>
        obtain ⟨c, lc⟩ := c
        dsimp only
        cases manyR intR lc with
        | none => rfl
        | some d => rfl
  · exact RdIs.bind (f := fun s => rbind intR fun n => rbind (manyR intR) fun v => rpure (s, n, v)) h1 (RdIs.bind (f := fun n => rbind (manyR intR) fun v => rpure (st, n, v)) h2 (RdIs.bind (f := fun v => rpure (st, n, v)) h3 RdIs.pure))
end Go.Proofs.YteedajnikfhpjaaGreatDoor
