/- Plain words of journals: records of groups, one behind the other, and what is recovered of them. No condition. -/
import Derived.Test.YtalgbcgiiphoaaaGreatDoorFR
import Derived.Test.YtalgbcgiiphoaaaGreatDoorPA
namespace Go.Proofs.YtalgbcgiiphoaaaGreatDoor
open Go.RowKit Go.Lib
set_option linter.unusedVariables false
/-- a group's bytes, as a text -/
def grpS (g : Grp) : ByteArray := ⟨(grpZ g).toArray⟩
/-- what is recovered of a text: from a box and a rest to a box and a rest -/
inductive Rec (t : Nat → Nat) : Bx → ByteArray → Bx → ByteArray → Prop
  | stop1 {b : Bx} {r : ByteArray} {c : Nat} (h : nextS t r = .err c) : Rec t b r b r
  | stop2 {b : Bx} {r x r' : ByteArray} (h : nextS t r = .ok x r') (hd : decZ x.data.toList = none) : Rec t b r b r
  | stop3 {b : Bx} {r x r' : ByteArray} {g : Grp} (h : nextS t r = .ok x r') (hd : decZ x.data.toList = some g) (hn : (hearB b g).2.1 ≠ 1) : Rec t b r (hearB b g).1 r
  | go {b b2 : Bx} {r x r' r2 : ByteArray} {g : Grp} (h : nextS t r = .ok x r') (hd : decZ x.data.toList = some g) (hn : (hearB b g).2.1 = 1) (k : Rec t (hearB b g).1 r' b2 r2) : Rec t b r b2 r2
theorem Rec.det {t : Nat → Nat} {b b2 : Bx} {r r2 : ByteArray} (h : Rec t b r b2 r2) : ∀ {b3 : Bx} {r3 : ByteArray}, Rec t b r b3 r3 → b2 = b3 ∧ r2 = r3 := by
  induction h with
  | stop1 h =>
    intro b3 r3 k
    cases k with
    | stop1 h2 => exact ⟨rfl, rfl⟩
    | stop2 h2 hd2 => exact ⟨rfl, rfl⟩
    | stop3 h2 hd2 hn2 => rw [h] at h2; cases h2
    | go h2 hd2 hn2 k2 => rw [h] at h2; cases h2
  | stop2 h hd =>
    intro b3 r3 k
    cases k with
    | stop1 h2 => exact ⟨rfl, rfl⟩
    | stop2 h2 hd2 => exact ⟨rfl, rfl⟩
    | stop3 h2 hd2 hn2 => rw [h] at h2; cases h2; rw [hd] at hd2; cases hd2
    | go h2 hd2 hn2 k2 => rw [h] at h2; cases h2; rw [hd] at hd2; cases hd2
  | stop3 h hd hn =>
    intro b3 r3 k
    cases k with
    | stop1 h2 => rw [h] at h2; cases h2
    | stop2 h2 hd2 => rw [h] at h2; cases h2; rw [hd] at hd2; cases hd2
    | stop3 h2 hd2 hn2 => rw [h] at h2; cases h2; rw [hd] at hd2; cases hd2; exact ⟨rfl, rfl⟩
    | go h2 hd2 hn2 k2 => rw [h] at h2; cases h2; rw [hd] at hd2; cases hd2; exact absurd hn2 hn
  | go h hd hn k ih =>
    intro b3 r3 k
    cases k with
    | stop1 h2 => rw [h] at h2; cases h2
    | stop2 h2 hd2 => rw [h] at h2; cases h2; rw [hd] at hd2; cases hd2
    | stop3 h2 hd2 hn2 => rw [h] at h2; cases h2; rw [hd] at hd2; cases hd2; exact absurd hn hn2
    | go h2 hd2 hn2 k2 => rw [h] at h2; cases h2; rw [hd] at hd2; cases hd2; exact ih k2
theorem Rec.le {t : Nat → Nat} {b b2 : Bx} {r r2 : ByteArray} (h : Rec t b r b2 r2) : r2.size ≤ r.size := by
  induction h with
  | stop1 h => exact Nat.le_refl _
  | stop2 h hd => exact Nat.le_refl _
  | stop3 h hd hn => exact Nat.le_refl _
  | go h hd hn k ih => have := next_less h; omega
/-- a group's record, if it may be -/
def recB (g : Grp) : ByteArray := if chkB g = true ∧ (grpZ g).length ≤ 1048576 then frameS Crc.tab (grpS g) else ⟨#[]⟩
def catR (l : List Grp) : ByteArray := l.foldr (fun g s => recB g ++ s) ⟨#[]⟩
theorem catR_cons (g : Grp) (l : List Grp) : catR (g :: l) = recB g ++ catR l := rfl
theorem catR_app (l m : List Grp) : catR (l ++ m) = catR l ++ catR m := by
  induction l with
  | nil => show catR m = ⟨#[]⟩ ++ catR m; exact bs_ext (by rw [bs_app]; rfl)
  | cons g l ih => rw [List.cons_append, catR_cons, catR_cons, ih, ByteArray.append_assoc]
theorem catR_snoc (l : List Grp) (g : Grp) : catR (l ++ [g]) = catR l ++ recB g := by
  rw [catR_app, catR_cons]
  show _ ++ (recB g ++ ⟨#[]⟩) = _
  congr 1
  exact bs_ext (by rw [bs_app]; simp)
theorem catR_nil (s : ByteArray) : catR [] ++ s = s := bs_ext (by rw [bs_app]; rfl)
theorem hear_one {b : Bx} {g : Grp} (hw : b.wait = []) (hn : (hearB b g).2.1 = 1) : chkB g = true ∧ knownB b g = false ∧ readyB b.v g = true ∧ hearB b g = (b.put g, 1, 0) := by
  unfold hearB at hn ⊢
  split at hn
  · cases hn
  · rename_i hc
    split at hn
    · cases hn
    · rename_i hk
      split at hn
      · rename_i hr
        rw [if_neg hc, if_neg hk, if_pos hr]
        refine ⟨by simpa using hc, by simpa using hk, hr, ?_⟩
        rw [hw]
        rfl
      · split at hn <;> cases hn
theorem hear_done {b : Bx} {g : Grp} (hw : b.wait = []) (hn : (hearB b g).2.1 ≠ 1) : (hearB b g).1.done = b.done := by
  unfold hearB at hn ⊢
  split at hn
  · rename_i hc; rw [if_pos hc]
  · rename_i hc
    rw [if_neg hc]
    split at hn
    · rename_i hk; rw [if_pos hk]
    · rename_i hk
      rw [if_neg hk]
      split at hn
      · rename_i hr
        rw [hw] at hn
        exact absurd rfl hn
      · rename_i hr
        rw [if_neg hr]
        split at hn
        · rename_i h1; rw [if_pos h1]
        · rename_i h1; rw [if_neg h1]
/-- a group that was read from a frame -/
def recOk (g : Grp) : Prop := chkB g = true ∧ okG g ∧ (grpZ g).length ≤ 1048576
theorem recOk.rec {g : Grp} (h : recOk g) : recB g = frameS Crc.tab (grpS g) := if_pos ⟨h.1, h.2.2⟩
theorem rec_of {x r r' : ByteArray} {g : Grp} (h : nextS Crc.tab r = .ok x r') (hd : decZ x.data.toList = some g) : recOk g ∧ r = recB g ++ r' ∧ x = grpS g := by
  obtain ⟨h1, h2⟩ := next_bytes h
  obtain ⟨h3, h4, h5⟩ := enc_dec hd
  have hx : x = grpS g := bs_ext (by rw [h3]; rfl)
  have hok : recOk g := ⟨h4, h5, by rw [← h3, bs_len]; exact h2⟩
  exact ⟨hok, by rw [hok.rec, ← hx]; exact h1, hx⟩
/-- what is recovered is some groups, one behind the other; their records stand ahead of what is left; with something else behind that is no frame the same is recovered -/
theorem Rec.all {b b2 : Bx} {r r2 : ByteArray} (h : Rec Crc.tab b r b2 r2) (hw : b.wait = []) : ∃ gs : List Grp, b2.done = b.done ++ gs ∧ r = catR gs ++ r2 ∧ (∀ g ∈ gs, recOk g) ∧
    ∀ (r3 : ByteArray) (c : Nat), nextS Crc.tab r3 = .err c → ∃ b3, Rec Crc.tab b (catR gs ++ r3) b3 r3 ∧ b3.done = b2.done := by
  induction h with
  | stop1 h => exact ⟨[], by simp, (catR_nil _).symm, fun g hg => (by cases hg), fun r3 c hc => ⟨_, by rw [catR_nil]; exact .stop1 hc, rfl⟩⟩
  | stop2 h hd => exact ⟨[], by simp, (catR_nil _).symm, fun g hg => (by cases hg), fun r3 c hc => ⟨_, by rw [catR_nil]; exact .stop1 hc, rfl⟩⟩
  | stop3 h hd hn => exact ⟨[], by rw [hear_done hw hn]; simp, (catR_nil _).symm, fun g hg => (by cases hg), fun r3 c hc => ⟨_, by rw [catR_nil]; exact .stop1 hc, by rw [hear_done hw hn]⟩⟩
  | @go b b2 r x r' r2 g h hd hn k ih =>
    obtain ⟨h1, h2, h3, h4⟩ := hear_one hw hn
    rw [h4] at ih k
    obtain ⟨gs, e1, e2, e3, e4⟩ := ih hw
    obtain ⟨k1, k2, k3⟩ := rec_of h hd
    refine ⟨g :: gs, ?_, ?_, ?_, ?_⟩
    · rw [e1]; show (b.done ++ [g]) ++ gs = _; simp
    · rw [k2, e2, catR_cons, ByteArray.append_assoc]
    · intro y hy
      rcases List.mem_cons.1 hy with rfl | hy
      · exact k1
      · exact e3 y hy
    · intro r3 c hc
      obtain ⟨b3, f1, f2⟩ := e4 r3 c hc
      refine ⟨b3, ?_, f2⟩
      rw [catR_cons, ByteArray.append_assoc]
      refine .go (x := x) (r' := catR gs ++ r3) (g := g) ?_ hd hn ?_
      · rw [k1.rec, k3]
        exact next_frame _ _ _ (by show (grpS g).size ≤ _; unfold grpS; rw [mkS]; exact k1.2.2)
      · rw [h4]; exact f1
/-- a text of which some was recovered: what comes ahead of the rest is recovered again -/
theorem Rec.again {b2 : Bx} {s r2 : ByteArray} (h : Rec Crc.tab Bx.new s b2 r2) : r2.size ≤ s.size ∧ s.extract 0 (s.size - r2.size) = catR b2.done ∧ (∀ g ∈ b2.done, recOk g) ∧ ∃ b3, Rec Crc.tab Bx.new (catR b2.done) b3 ⟨#[]⟩ ∧ b3.done = b2.done := by
  obtain ⟨gs, e1, e2, e3, e4⟩ := h.all rfl
  have e1 : b2.done = gs := e1
  rw [e1]
  have hl := congrArg ByteArray.size e2
  rw [ByteArray.size_append] at hl
  refine ⟨h.le, bs_ext ?_, e3, ?_⟩
  · rw [bs_pre, e2, bs_app, ByteArray.size_append]
    rw [show (catR gs).size + r2.size - r2.size = (catR gs).data.toList.length by rw [bs_len]; omega, List.take_left]
  · obtain ⟨b3, f1, f2⟩ := e4 ⟨#[]⟩ 10 (next_nil rfl)
    rw [e1] at f2
    refine ⟨b3, ?_, f2⟩
    rwa [show catR gs ++ ⟨#[]⟩ = catR gs from bs_ext (by rw [bs_app]; simp)] at f1
end Go.Proofs.YtalgbcgiiphoaaaGreatDoor
