/- How a box lies in memory, and what stays of it when something is written. No condition. -/
import Derived.Test.YtalgbcgiiphoaaaGreatDoorBxK
namespace Go.Proofs.YtalgbcgiiphoaaaGreatDoor
open Go.RowKit Go.Lib Go.Sort
set_option linter.unusedVariables false
/-- where a box's parts lie -/
structure BoxX where
  dv : Value
  wv : Value
  vA : Option Addr
  vc : Nat
  bm : Nat
  L : List (Grp × GrX)
  M : List (Grp × GrX)
/-- the blocks that are a box's own -/
def Own (P : Nat) (X : BoxX) (k : Nat) : Prop := k = P ∨ k = X.bm ∨ X.dv.ownBlock = some k ∨ X.wv.ownBlock = some k
/-- a box: what was delivered, the names of what was, what waits, how much was -/
structure BoxIn (B P : Nat) (S : Nat → Prop) (dn mp wt : List Grp) (v : List Int) (X : BoxX) (w : World) : Prop where
  obj : w.heap[P]? = some (.cells #[X.dv, X.wv, .map (some X.bm), .slice X.vA v.length X.vc] 75 (0, 0))
  done : w.ownsRow B 40 7 X.dv X.L.length (X.L.flatMap grC_)
  wait : w.ownsRow B 40 7 X.wv X.M.length (X.M.flatMap grC_)
  dl : X.L.map Prod.fst = dn
  wl : X.M.map Prod.fst = wt
  map : w.ownsMap Tryz.prog 37 (unitElem (H := Unit)) X.bm mp.length (setG mp)
  vec : VecS w S X.vA v
  vle : v.length ≤ X.vc
  vmax : X.vc ≤ maxLen
  vlen : v.length ≤ 16
  good : ∀ p ∈ X.L ++ X.M, GrG w S p
  hP : B ≤ P
  hm : B ≤ X.bm
  pm : P ≠ X.bm
  dP : X.dv.ownBlock ≠ some P
  dm : X.dv.ownBlock ≠ some X.bm
  wP : X.wv.ownBlock ≠ some P
  wm : X.wv.ownBlock ≠ some X.bm
  dw : ∀ g, X.dv.ownBlock = some g → X.wv.ownBlock ≠ some g
  sep : ∀ k, S k → k < w.heap.size ∧ ¬ Own P X k
/-- what was done to a box and to the world -/
structure BTo (P : Nat) (X : BoxX) (S : Nat → Prop) (w : World) (X' : BoxX) (S' : Nat → Prop) (w' : World) : Prop where
  gr : GrB (Own P X) w w'
  own : ∀ k, Own P X' k → Own P X k ∨ w.heap.size ≤ k
  more : ∀ k, S k → S' k
  new : ∀ k, S' k → S k ∨ (w.heap.size ≤ k ∧ k < w'.heap.size)
theorem agr_setCell {S : Nat → Prop} (w : World) (g i : Nat) (v : Value) (h : ¬ S g) : Agr S w (w.setCell ⟨g, i, none⟩ v) := ⟨by simp [World.setCell], fun b hb _ => Below.heap_setCell _ _ _ _ (fun e : b = g => h (e ▸ hb))⟩
section
variable {B P : Nat} {S S' S'' : Nat → Prop} {dn mp wt : List Grp} {v : List Int} {X X' X'' : BoxX} {w w' w'' : World}
theorem BTo.refl : BTo P X S w X S w := ⟨GrB.refl, fun _ h => .inl h, fun _ h => h, fun _ h => .inl h⟩
theorem BTo.trans (h : BTo P X S w X' S' w') (k : BTo P X' S' w' X'' S'' w'') : BTo P X S w X'' S'' w'' :=
  ⟨h.gr.trans k.gr fun i hi e => (h.own i e).resolve_right (by omega), fun i hi => by
    rcases k.own i hi with h1 | h1
    · exact h.own i h1
    · exact .inr (Nat.le_trans h.gr.size h1), fun i hi => k.more i (h.more i hi), fun i hi => by
    rcases k.new i hi with h1 | h1
    · rcases h.new i h1 with h2 | h2
      · exact .inl h2
      · exact .inr ⟨h2.1, Nat.lt_of_lt_of_le h2.2 k.gr.size⟩
    · exact .inr ⟨Nat.le_trans h.gr.size h1.1, h1.2⟩⟩
theorem BTo.of_below (h : Below w.heap.size w w') : BTo P X S w X S w' := ⟨GrB.of_below h, fun _ h => .inl h, fun _ h => h, fun _ h => .inl h⟩
theorem BoxIn.own_lt (h : BoxIn B P S dn mp wt v X w) {k : Nat} (hk : Own P X k) : B ≤ k ∧ k < w.heap.size := by
  rcases hk with rfl | rfl | hk | hk
  · exact ⟨h.hP, lt_of_block h.obj⟩
  · exact ⟨h.hm, h.map.lt⟩
  · exact h.done.lt k hk
  · exact h.wait.lt k hk
theorem BoxIn.agr (h : BoxIn B P S dn mp wt v X w) (hg : w.grownBy w' none ∨ Below w.heap.size w w') : Agr S w w' := by
  rcases hg with hg | hg
  · exact Agr.grown hg (fun g e => by cases e)
  · exact Agr.below hg
theorem BoxIn.below (h : BoxIn B P S dn mp wt v X w) (hb : Below w.heap.size w w') : BoxIn B P S dn mp wt v X w' := by
  have hg := gby_below (r := none) hb
  refine ⟨(hb.block P (lt_of_block h.obj)).trans h.obj, h.done.kept hg (Classical.em _), h.wait.kept hg (Classical.em _), h.dl, h.wl, h.map.kept hg (by simp), h.vec.agr (Agr.below hb), h.vle, h.vmax, h.vlen, fun p hp => (h.good p hp).agr (Agr.below hb), h.hP, h.hm, h.pm, h.dP, h.dm, h.wP, h.wm, h.dw, fun k hk => ⟨Nat.lt_of_lt_of_le (h.sep k hk).1 hb.size, (h.sep k hk).2⟩⟩
/-- the groups' memory may be said to be more -/
theorem BoxIn.sup (h : BoxIn B P S dn mp wt v X w) (h1 : ∀ k, S k → S' k) (h2 : ∀ k, S' k → S k ∨ (k < w.heap.size ∧ ¬ Own P X k)) : BoxIn B P S' dn mp wt v X w :=
  ⟨h.obj, h.done, h.wait, h.dl, h.wl, h.map, RowG.sub h.vec (fun k _ hk => h1 k hk), h.vle, h.vmax, h.vlen, fun p hp => (h.good p hp).sub (fun k _ hk => h1 k hk), h.hP, h.hm, h.pm, h.dP, h.dm, h.wP, h.wm, h.dw, fun k hk => (h2 k hk).elim (h.sep k) id⟩
theorem BoxIn.cell (h : BoxIn B P S dn mp wt v X w) (i : Nat) : w.cell? ⟨P, i, none⟩ = #[X.dv, X.wv, .map (some X.bm), .slice X.vA v.length X.vc][i]? := cell_of_row _ _ _ _ _ _ h.obj
theorem BoxIn.frz (h : BoxIn B P S dn mp wt v X w) (i : Nat) : w.frozen? ⟨P, i, none⟩ = false := frozen_of_row _ _ _ _ _ h.obj
theorem BoxIn.dlen (h : BoxIn B P S dn mp wt v X w) : X.L.length = dn.length := by rw [← h.dl, List.length_map]
theorem BoxIn.wlen (h : BoxIn B P S dn mp wt v X w) : X.M.length = wt.length := by rw [← h.wl, List.length_map]
theorem set_obj {w : World} {P : Nat} {c c' : Array Value} {T : TypeId} (h : w.heap[P]? = some (.cells c T (0, 0))) (i : Nat) (u : Value) (hc : c.setIfInBounds i u = c') : (w.setCell ⟨P, i, none⟩ u).heap[P]? = some (.cells c' T (0, 0)) := by
  simp [World.setCell, Array.getElem?_modify, h, hc]
theorem own_ne {u : Value} {a : Nat} (h : ∀ g, u.ownBlock = some g → g ≠ a) : u.ownBlock ≠ some a := fun e => h a e rfl
/-- a row whose block is another one stays, whatever is written -/
theorem own_set {w : World} {B E s n : Nat} {u : Value} {xs : List Value} (h : w.ownsRow B E s u n xs) {P : Nat} (hu : u.ownBlock ≠ some P) (i : Nat) (x : Value) : (w.setCell ⟨P, i, none⟩ x).ownsRow B E s u n xs :=
  h.kept (gby_set P i x) (.inr hu)
theorem agr_own {S : Nat → Prop} {w w' : World} {r : Option Nat} (hg : w.grownBy w' r) (h : ∀ g, r = some g → ¬ S g) : Agr S w w' := Agr.grown hg h
theorem kept_or {a b : Option Nat} (h : ∀ g, a = some g → b ≠ some g) : b = none ∨ b ≠ a := by
  cases b with
  | none => exact .inl rfl
  | some g => exact .inr fun e => h g e.symm rfl
theorem own_new {u u' : Value} {P n m : Nat} (hat : u'.ownBlock = u.ownBlock ∨ u'.ownBlock = some m) (h : u.ownBlock ≠ some P) (hP : P < n) (hm : n ≤ m) : u'.ownBlock ≠ some P := by
  rcases hat with e | e
  · rw [e]; exact h
  · rw [e]; intro e2; injection e2 with e2; omega
/-- a group more was delivered: it stands in the row, the box leads to the row -/
theorem BoxIn.dput (h : BoxIn B P S dn mp wt v X w) {w1 w3 : World} {dv' : Value} {p : Grp × GrX} (hb : Below w.heap.size w w1) (hg : w1.grownBy w3 X.dv.ownBlock) (hown : w3.ownsRow B 40 7 dv' (X.L.length + 1) (X.L.flatMap grC_ ++ grC_ p))
    (hat : dv'.ownBlock = X.dv.ownBlock ∨ dv'.ownBlock = some w1.heap.size) (hp : GrG w S p) :
    BoxIn B P S (dn ++ [p.1]) mp wt v { X with dv := dv', L := X.L ++ [p] } (w3.setCell ⟨P, 0, none⟩ dv') ∧ BTo P X S w { X with dv := dv', L := X.L ++ [p] } S (w3.setCell ⟨P, 0, none⟩ dv') := by
  have hPl := lt_of_block h.obj
  have hml := h.map.lt
  have h1 := h.below hb
  have hs1 := hb.size
  have hS : ∀ g, X.dv.ownBlock = some g → ¬ S g := fun g e hS => (h.sep g hS).2 (.inr (.inr (.inl e)))
  have hPS : ¬ S P := fun hs => (h.sep P hs).2 (.inl rfl)
  have ha : Agr S w (w3.setCell ⟨P, 0, none⟩ dv') := ((Agr.below hb).trans (Agr.grown hg hS)).trans (agr_setCell w3 P 0 dv' hPS)
  have hgr : GrB (Own P X) w (w3.setCell ⟨P, 0, none⟩ dv') := ((GrB.of_below hb).grown hg (fun g e _ => .inr (.inr (.inl e)))).set P 0 dv' (fun _ => .inl rfl)
  have hown' : ∀ k, Own P { X with dv := dv', L := X.L ++ [p] } k → Own P X k ∨ w.heap.size ≤ k := fun k hk => by
    rcases hk with e | e | e | e
    · exact .inl (.inl e)
    · exact .inl (.inr (.inl e))
    · have e : dv'.ownBlock = some k := e
      rcases hat with e3 | e3
      · exact .inl (.inr (.inr (.inl (e3.symm.trans e))))
      · right; rw [e3] at e; injection e with e; omega
    · exact .inl (.inr (.inr (.inr e)))
  refine ⟨⟨set_obj (c := #[X.dv, X.wv, .map (some X.bm), .slice X.vA v.length X.vc]) ((hg.block P (by omega) (fun e => h.dP e.symm)).trans h1.obj) 0 dv' rfl, ?_, own_set (h1.wait.kept hg (kept_or h.dw)) h.wP 0 dv', ?_, h.wl, ?_, RowG.agr h.vec ha, h.vle, h.vmax, h.vlen, ?_, h.hP, h.hm, h.pm, own_new hat h.dP hPl hs1, own_new hat h.dm hml hs1, h.wP, h.wm, ?_, ?_⟩, ⟨hgr, hown', fun _ h => h, fun _ h => .inl h⟩⟩
  · refine own_set ?_ (own_new hat h.dP hPl hs1) 0 dv'
    show w3.ownsRow B _ 7 dv' (X.L ++ [p]).length ((X.L ++ [p]).flatMap grC_)
    rw [List.length_append, List.flatMap_append, List.flatMap_singleton]; exact hown
  · show (X.L ++ [p]).map Prod.fst = _
    rw [List.map_append, h.dl]; rfl
  · exact (h1.map.kept hg (fun e => h.dm e.symm)).setCell (fun e => h.pm e.symm) dv'
  · intro q hq
    have hq : q ∈ (X.L ++ [p]) ++ X.M := hq
    rw [List.append_assoc, List.mem_append, List.mem_append, List.mem_singleton] at hq
    rcases hq with hq | rfl | hq
    · exact (h.good q (List.mem_append.2 (.inl hq))).agr ha
    · exact hp.agr ha
    · exact (h.good q (List.mem_append.2 (.inr hq))).agr ha
  · intro g e e2
    have e : dv'.ownBlock = some g := e
    rcases hat with e3 | e3
    · rw [e3] at e; exact h.dw g e e2
    · rw [e3] at e; injection e with e; have := (h.wait.lt g e2).2; omega
  · intro k hk
    have h3 := h.sep k hk
    exact ⟨Nat.lt_of_lt_of_le h3.1 hgr.size, fun ho => (hown' k ho).elim h3.2 (by omega)⟩
theorem BoxIn.mput (h : BoxIn B P S dn mp wt v X w) {g : Grp} (hg : w.grownBy w' (some X.bm)) (hm : w'.ownsMap Tryz.prog 37 (unitElem (H := Unit)) X.bm (mp.length + 1) ((setG mp).put (kst g.s) (.agg []))) :
    BoxIn B P S dn (mp ++ [g]) wt v X w' ∧ BTo P X S w X S w' := by
  have hPl := lt_of_block h.obj
  have hS : ∀ b, some X.bm = some b → ¬ S b := fun b e hs => by cases e; exact (h.sep _ hs).2 (.inr (.inl rfl))
  have ha : Agr S w w' := Agr.grown hg hS
  have hgr : GrB (Own P X) w w' := GrB.of_grown hg (fun b e _ => by cases e; exact .inr (.inl rfl))
  refine ⟨⟨(hg.block P hPl (fun e => by injection e with e; exact h.pm e)).trans h.obj, h.done.kept hg (.inr h.dm), h.wait.kept hg (.inr h.wm), h.dl, h.wl, ?_, RowG.agr h.vec ha, h.vle, h.vmax, h.vlen, fun p hp => (h.good p hp).agr ha, h.hP, h.hm, h.pm, h.dP, h.dm, h.wP, h.wm, h.dw, fun k hk => ⟨Nat.lt_of_lt_of_le (h.sep k hk).1 hg.size, (h.sep k hk).2⟩⟩, ⟨hgr, fun _ h => .inl h, fun _ h => h, fun _ h => .inl h⟩⟩
  rw [List.length_append, setG_snoc]; exact hm
theorem BoxIn.vput (h : BoxIn B P S dn mp wt v X w) {w1 : World} {A : Option Addr} {c : Nat} {u : List Int} (hb : Below w.heap.size w w1) (hv : VecS w1 (fun k => w.heap.size ≤ k) A u) (hc : u.length ≤ c) (hc2 : c ≤ maxLen) (hl : u.length ≤ 16) :
    BoxIn B P (fun k => S k ∨ (w.heap.size ≤ k ∧ k < w1.heap.size)) dn mp wt u { X with vA := A, vc := c } (w1.setCell ⟨P, 3, none⟩ (.slice A u.length c)) ∧ BTo P X S w { X with vA := A, vc := c } (fun k => S k ∨ (w.heap.size ≤ k ∧ k < w1.heap.size)) (w1.setCell ⟨P, 3, none⟩ (.slice A u.length c)) := by
  have hPl := lt_of_block h.obj
  have h1 := h.below hb
  have hPS : ¬ S P := fun hs => (h.sep P hs).2 (.inl rfl)
  have hgr : GrB (Own P X) w (w1.setCell ⟨P, 3, none⟩ (.slice A u.length c)) := (GrB.of_below hb).set P 3 _ (fun _ => .inl rfl)
  have ha1 : Agr S w1 (w1.setCell ⟨P, 3, none⟩ (.slice A u.length c)) := agr_setCell w1 P 3 _ hPS
  have hsz : (w1.setCell ⟨P, 3, none⟩ (.slice A u.length c)).heap.size = w1.heap.size := by simp
  refine ⟨⟨set_obj (c := #[X.dv, X.wv, .map (some X.bm), .slice X.vA v.length X.vc]) h1.obj 3 _ rfl, own_set h1.done h.dP 3 _, own_set h1.wait h.wP 3 _, h.dl, h.wl, h1.map.setCell (fun e => h.pm e.symm) _, ?_, hc, hc2, hl, fun p hp => ?_, h.hP, h.hm, h.pm, h.dP, h.dm, h.wP, h.wm, h.dw, fun k hk => ?_⟩, ⟨hgr, fun _ h => .inl h, fun _ h => .inl h, fun k hk => hk.imp id (fun h => ⟨h.1, by rw [hsz]; exact h.2⟩)⟩⟩
  · exact (hv.agr (agr_setCell w1 P 3 _ (by show ¬ w.heap.size ≤ P; omega))).sub (fun k hk h => .inr ⟨h, by rw [hsz] at hk; exact hk⟩)
  · exact ((h1.good p hp).agr ha1).sub (fun k _ hk => .inl hk)
  · rw [hsz]
    rcases hk with hk | hk
    · exact ⟨Nat.lt_of_lt_of_le (h.sep k hk).1 hb.size, (h.sep k hk).2⟩
    · exact ⟨hk.2, fun ho => by have := (h.own_lt ho).2; omega⟩
/-- those that wait are others now -/
theorem BoxIn.wset (h : BoxIn B P S dn mp wt v X w) {w1 w3 : World} {wv' : Value} {M' : List (Grp × GrX)} (hb : Below w.heap.size w w1) (hg : w1.grownBy w3 X.wv.ownBlock) (hown : w3.ownsRow B 40 7 wv' M'.length (M'.flatMap grC_))
    (hat : wv'.ownBlock = X.wv.ownBlock ∨ wv'.ownBlock = some w1.heap.size) (hgood : ∀ p ∈ M', GrG w S p) :
    BoxIn B P S dn mp (M'.map Prod.fst) v { X with wv := wv', M := M' } (w3.setCell ⟨P, 1, none⟩ wv') ∧ BTo P X S w { X with wv := wv', M := M' } S (w3.setCell ⟨P, 1, none⟩ wv') := by
  have hPl := lt_of_block h.obj
  have hml := h.map.lt
  have h1 := h.below hb
  have hs1 := hb.size
  have hS : ∀ g, X.wv.ownBlock = some g → ¬ S g := fun g e hS => (h.sep g hS).2 (.inr (.inr (.inr e)))
  have hPS : ¬ S P := fun hs => (h.sep P hs).2 (.inl rfl)
  have ha : Agr S w (w3.setCell ⟨P, 1, none⟩ wv') := ((Agr.below hb).trans (Agr.grown hg hS)).trans (agr_setCell w3 P 1 wv' hPS)
  have hgr : GrB (Own P X) w (w3.setCell ⟨P, 1, none⟩ wv') := ((GrB.of_below hb).grown hg (fun g e _ => .inr (.inr (.inr e)))).set P 1 wv' (fun _ => .inl rfl)
  have hown' : ∀ k, Own P { X with wv := wv', M := M' } k → Own P X k ∨ w.heap.size ≤ k := fun k hk => by
    rcases hk with e | e | e | e
    · exact .inl (.inl e)
    · exact .inl (.inr (.inl e))
    · exact .inl (.inr (.inr (.inl e)))
    · have e : wv'.ownBlock = some k := e
      rcases hat with e3 | e3
      · exact .inl (.inr (.inr (.inr (e3.symm.trans e))))
      · right; rw [e3] at e; injection e with e; omega
  refine ⟨⟨set_obj (c := #[X.dv, X.wv, .map (some X.bm), .slice X.vA v.length X.vc]) ((hg.block P (by omega) (fun e => h.wP e.symm)).trans h1.obj) 1 wv' rfl, own_set (h1.done.kept hg (kept_or (fun g e e2 => h.dw g e2 e))) h.dP 1 wv', own_set hown (own_new hat h.wP hPl hs1) 1 wv', h.dl, rfl, ?_, RowG.agr h.vec ha, h.vle, h.vmax, h.vlen, ?_, h.hP, h.hm, h.pm, h.dP, h.dm, own_new hat h.wP hPl hs1, own_new hat h.wm hml hs1, ?_, ?_⟩, ⟨hgr, hown', fun _ h => h, fun _ h => .inl h⟩⟩
  · exact (h1.map.kept hg (fun e => h.wm e.symm)).setCell (fun e => h.pm e.symm) wv'
  · intro q hq
    rcases List.mem_append.1 hq with hq | hq
    · exact (h.good q (List.mem_append.2 (.inl hq))).agr ha
    · exact (hgood q hq).agr ha
  · intro g e e2
    have e2 : wv'.ownBlock = some g := e2
    rcases hat with e3 | e3
    · rw [e3] at e2; exact h.dw g e e2
    · rw [e3] at e2; injection e2 with e2; have := (h.done.lt g e).2; omega
  · intro k hk
    have h3 := h.sep k hk
    exact ⟨Nat.lt_of_lt_of_le h3.1 hgr.size, fun ho => (hown' k ho).elim h3.2 (by omega)⟩
end
end Go.Proofs.YtalgbcgiiphoaaaGreatDoor
