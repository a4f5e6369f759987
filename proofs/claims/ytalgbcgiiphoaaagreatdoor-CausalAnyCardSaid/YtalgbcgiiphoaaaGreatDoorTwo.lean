/- Two boxes that hear of the same groups. Conditions: lengths in reach; the tables of utf8. -/
import Derived.Test.YtalgbcgiiphoaaaGreatDoorRbH
import Derived.Test.YtalgbcgiiphoaaaGreatDoorAw21
namespace Go.Proofs.YtalgbcgiiphoaaaGreatDoor
open Go.RowKit Go.Lib Go.Sort
set_option linter.unusedVariables false
theorem own_gr {w w' : World} {B E s n : Nat} {v : Value} {xs : List Value} {O : Nat → Prop} (h : w.ownsRow B E s v n xs) (hg : GrB O w w') (hO : ∀ k, v.ownBlock = some k → ¬ O k) : w'.ownsRow B E s v n xs := by
  refine ⟨h.1, ?_⟩
  rcases h.2 with h1 | ⟨g, cap, cur, rfl, h2, h3, h4⟩
  · exact .inl h1
  · exact .inr ⟨g, cap, cur, rfl, h2, (hg.block g (lt_of_block h3) (hO g rfl)).trans h3, h4⟩
theorem map_gr {H : Type} {w w' : World} {P : Program} {k b n : Nat} {R : Value → Option (DataW H × List MemPlace)} {D : DataW H} {O : Nat → Prop} (h : w.ownsMap P k R b n D) (hg : GrB O w w') (hO : ¬ O b) : w'.ownsMap P k R b n D := by
  have hlt := h.lt
  obtain ⟨es, clock, hb, F, hs, hD⟩ := h
  exact ⟨es, clock, (hg.block b hlt hO).trans hb, F, hs, hD⟩
theorem RbIn.gr {B P : Nat} {S O : Nat → Prop} {dn wt : List Grp} {X : RbX} {w w' : World} (h : RbIn B P S dn wt X w) (hg : GrB O w w') (hO : ∀ k, OwnR P X k → ¬ O k) (hS : ∀ k, S k → ¬ O k) : RbIn B P S dn wt X w' :=
  ⟨(hg.block P (lt_of_block h.obj) (hO P (.inl rfl))).trans h.obj, own_gr h.done hg (fun k hk => hO k (.inr (.inl hk))), own_gr h.wait hg (fun k hk => hO k (.inr (.inr hk))), h.dl, h.wl, fun p hp => (h.good p hp).agr (hg.agr fun k _ hk => hS k hk), h.hP, h.dP, h.wP, h.dw, fun k hk => ⟨Nat.lt_of_lt_of_le (h.sep k hk).1 hg.size, (h.sep k hk).2⟩⟩
theorem BoxIn.gr {B P : Nat} {S O : Nat → Prop} {dn mp wt : List Grp} {v : List Int} {X : BoxX} {w w' : World} (h : BoxIn B P S dn mp wt v X w) (hg : GrB O w w') (hO : ∀ k, Own P X k → ¬ O k) (hS : ∀ k, S k → ¬ O k) : BoxIn B P S dn mp wt v X w' :=
  have ha : Agr S w w' := hg.agr fun k _ hk => hS k hk
  ⟨(hg.block P (lt_of_block h.obj) (hO P (.inl rfl))).trans h.obj, own_gr h.done hg (fun k hk => hO k (.inr (.inr (.inl hk)))), own_gr h.wait hg (fun k hk => hO k (.inr (.inr (.inr hk)))), h.dl, h.wl, map_gr h.map hg (hO _ (.inr (.inl rfl))), RowG.agr h.vec ha, h.vle, h.vmax, h.vlen, fun p hp => (h.good p hp).agr ha, h.hP, h.hm, h.pm, h.dP, h.dm, h.wP, h.wm, h.dw, fun k hk => ⟨Nat.lt_of_lt_of_le (h.sep k hk).1 hg.size, (h.sep k hk).2⟩⟩
/-- a box of the program's and one of the reference's, one beside the other; what was there ahead of them is as it was -/
structure Two (B P Q n : Nat) (w1 : World) (bc br : Bx) (wr : World) : Prop where
  low : Below B w1 wr
  okc : RbOk bc
  okr : RbOk br
  wlc : bc.wait.length ≤ 100
  wlr : br.wait.length ≤ 100
  lenc : bc.done.length + bc.wait.length ≤ n
  lenr : br.done.length + br.wait.length ≤ n
  box : ∃ X S XR, BoxIn B P S bc.done bc.done bc.wait bc.v X wr ∧ RbIn B Q (fun k => k < B) br.done br.wait XR wr ∧ (∀ k, k < B → S k) ∧ (∀ k, S k → ¬ OwnR Q XR k) ∧ (∀ k, OwnR Q XR k → ¬ Own P X k)
theorem Two.below {B P Q n : Nat} {w1 wr w' : World} {bc br : Bx} (h : Two B P Q n w1 bc br wr) (hB : B ≤ wr.heap.size) (hb : Below wr.heap.size wr w') : Two B P Q n w1 bc br w' := by
  obtain ⟨X, S, XR, h1, h2, h3, h4, h5⟩ := h.box
  exact ⟨h.low.trans (hb.mono hB), h.okc, h.okr, h.wlc, h.wlr, h.lenc, h.lenr, X, S, XR, h1.below hb, h2.below hb, h3, h4, h5⟩
theorem Two.hear {B P Q n : Nat} {w1 wr : World} {bc br : Bx} (h : Two B P Q n w1 bc br wr) (hn : n ≤ 99998) (hB : B ≤ w1.heap.size) (p : Grp × GrX) (hG : GrG w1 (fun k => k < B) p) (hT : ∀ o ∈ p.1.ops, o.text.size ≤ 1000000) (hTb : Tabs wr) :
    Calls Tryz.prog 22 #[.pointer (some ⟨P, 0, none⟩), .agg (grA p.1 p.2.dA p.2.dc p.2.oA p.2.oc)] wr fun e w' => e = .returned (.tuple #[.int .i64 ((hearB bc p.1).2.1 : Nat), .int .i64 (hearB bc p.1).2.2]) ∧ Two B P Q (n + 1) w1 (hearB bc p.1).1 br w' := by
  obtain ⟨X, S, XR, h1, h2, h3, h4, h5⟩ := h.box
  have hl := h.lenc
  have hlr := h.lenr
  refine (bxhear_any h1 h.okc.ok p.1 p.2 ((hG.agr ⟨h.low.size, fun b hb _ => h.low.block b hb⟩).sub fun k _ hk => h3 k hk) (fun o ho => by have := hT o ho; omega) hTb h.wlc (by omega)).mono ?_
  rintro e w' ⟨rfl, X', S', hX', hTo⟩
  have hl2 := hearB_len bc p.1 h.wlc
  refine ⟨rfl, h.low.trans (hTo.gr.below (by have := h.low.size; omega) fun k hk => (h1.own_lt hk).1), h.okc.hear h.wlc p.1 hT (by omega), h.okr, hl2.1, h.wlr, by omega, by omega, X', S', XR, hX', h2.gr hTo.gr h5 (fun k hk ho => by have := (h1.own_lt ho).1; omega), fun k hk => hTo.more k (h3 k hk), fun k hk ho => ?_, fun k ho hk => ?_⟩
  · rcases hTo.new k hk with h6 | h6
    · exact h4 k h6 ho
    · have := (h2.own_lt ho).2; omega
  · rcases hTo.own k hk with h6 | h6
    · exact h5 k ho h6
    · have := (h2.own_lt ho).2; omega
theorem Two.rhear {B P Q n : Nat} {w1 wr : World} {bc br : Bx} (h : Two B P Q n w1 bc br wr) (hn : n ≤ 99998) (hB : B ≤ w1.heap.size) (p : Grp × GrX) (hG : GrG w1 (fun k => k < B) p) (hT : ∀ o ∈ p.1.ops, o.text.size ≤ 1000000) :
    Calls Tryz.prog 29 #[.pointer (some ⟨Q, 0, none⟩), .agg (grA p.1 p.2.dA p.2.dc p.2.oA p.2.oc)] wr fun e w' => e = .returned (.tuple #[.int .i64 ((hearB br p.1).2.1 : Nat), .int .i64 (hearB br p.1).2.2]) ∧ Two B P Q (n + 1) w1 bc (hearB br p.1).1 w' := by
  obtain ⟨X, S, XR, h1, h2, h3, h4, h5⟩ := h.box
  have hl := h.lenc
  have hlr := h.lenr
  refine (rbhear_any h2 h.okr p.1 p.2 (hG.agr ⟨h.low.size, fun b hb _ => h.low.block b hb⟩) hT h.wlr (by omega)).mono ?_
  rintro e w' ⟨rfl, X', hX', hTo⟩
  have hl2 := hearB_len br p.1 h.wlr
  refine ⟨rfl, h.low.trans (hTo.gr.below (by have := h.low.size; omega) fun k hk => (h2.own_lt hk).1), h.okc, h.okr.hear h.wlr p.1 hT (by omega), h.wlc, hl2.1, by omega, by omega, X, S, X', h1.gr hTo.gr (fun k hk ho => h5 k ho hk) h4, hX', h3, fun k hk ho => ?_, fun k ho hk => ?_⟩
  · rcases hTo.own k ho with h6 | h6
    · exact h4 k hk h6
    · have := (h1.sep k hk).1; omega
  · rcases hTo.own k ho with h6 | h6
    · exact h5 k h6 hk
    · have := (h1.own_lt hk).2; omega
/-- two new ones -/
theorem Two.new {w w1 w2 : World} (hw : w1 = (w.alloc (.map #[] 0)).alloc (.cells #[.slice none 0 0, .slice none 0 0, .map (some w.heap.size), .slice none 0 0] 75)) (hw2 : w2 = w1.alloc (.cells #[.slice none 0 0, .slice none 0 0] 63)) :
    Two w.heap.size (w.heap.size + 1) w1.heap.size 0 w Bx.new Bx.new w2 := by
  have hok : RbOk Bx.new := ⟨BxOk.new, fun g hg => (by cases hg), Nat.zero_le _⟩
  have hs1 : w1.heap.size = w.heap.size + 2 := by rw [hw]; simp
  have hb1 : Below w.heap.size w w1 := by rw [hw]; exact ((Below.refl _ _).alloc (Nat.le_refl _) _).alloc (by simp) _
  have hb2 : Below w1.heap.size w1 w2 := by rw [hw2]; exact (Below.refl _ _).alloc (Nat.le_refl _) _
  have hs2 : w2.heap.size = w1.heap.size + 1 := by rw [hw2]; simp
  have hX := (BoxIn.made (S := fun k => k < w.heap.size) (B := w.heap.size) (Nat.le_refl _) (fun k hk => hk) hw).below hb2
  refine ⟨hb1.trans (hb2.mono (by omega)), hok, hok, Nat.zero_le _, Nat.zero_le _, Nat.le_refl _, Nat.le_refl _, boxN w, fun k => k < w.heap.size, ⟨.slice none 0 0, .slice none 0 0, [], []⟩, hX, ⟨?_, World.ownsRow_nil _ _ _ _, World.ownsRow_nil _ _ _ _, rfl, rfl, (fun p hp => by cases hp), by omega, (fun e => by cases e), (fun e => by cases e), (fun g e => by cases e), fun k hk => ⟨?_, ?_⟩⟩, fun k hk => hk, ?_, ?_⟩
  · rw [hw2]; exact heap_alloc_new _ _
  · have hk : k < w.heap.size := hk; omega
  · have hk : k < w.heap.size := hk
    rintro (h | h | h)
    · omega
    · cases h
    · cases h
  · rintro k hk (h | h | h)
    · have hk : k < w.heap.size := hk; omega
    · cases h
    · cases h
  · rintro k (h | h | h) h2
    · rcases own_new_iff h2 with h3 | h3 <;> omega
    · cases h
    · cases h
end Go.Proofs.YtalgbcgiiphoaaaGreatDoor
