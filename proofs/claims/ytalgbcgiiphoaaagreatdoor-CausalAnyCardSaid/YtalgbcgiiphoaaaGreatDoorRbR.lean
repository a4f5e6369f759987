/- How the reference's box lies in memory. No condition. -/
import Derived.Test.YtalgbcgiiphoaaaGreatDoorRbV
namespace Go.Proofs.YtalgbcgiiphoaaaGreatDoor
open Go.RowKit Go.Lib Go.Sort
set_option linter.unusedVariables false
/-- where the parts of the reference's box lie -/
structure RbX where
  dv : Value
  wv : Value
  L : List (Grp × GrX)
  M : List (Grp × GrX)
def OwnR (P : Nat) (X : RbX) (k : Nat) : Prop := k = P ∨ X.dv.ownBlock = some k ∨ X.wv.ownBlock = some k
structure RbIn (B P : Nat) (S : Nat → Prop) (dn wt : List Grp) (X : RbX) (w : World) : Prop where
  obj : w.heap[P]? = some (.cells #[X.dv, X.wv] 63 (0, 0))
  done : w.ownsRow B 40 7 X.dv X.L.length (X.L.flatMap grC_)
  wait : w.ownsRow B 40 7 X.wv X.M.length (X.M.flatMap grC_)
  dl : X.L.map Prod.fst = dn
  wl : X.M.map Prod.fst = wt
  good : ∀ p ∈ X.L ++ X.M, GrG w S p
  hP : B ≤ P
  dP : X.dv.ownBlock ≠ some P
  wP : X.wv.ownBlock ≠ some P
  dw : ∀ g, X.dv.ownBlock = some g → X.wv.ownBlock ≠ some g
  sep : ∀ k, S k → k < w.heap.size ∧ ¬ OwnR P X k
structure RbTo (P : Nat) (X : RbX) (w : World) (X' : RbX) (w' : World) : Prop where
  gr : GrB (OwnR P X) w w'
  own : ∀ k, OwnR P X' k → OwnR P X k ∨ w.heap.size ≤ k
section
variable {B P : Nat} {S : Nat → Prop} {dn wt : List Grp} {X X' X'' : RbX} {w w' w'' : World}
theorem RbTo.refl : RbTo P X w X w := ⟨GrB.refl, fun _ h => .inl h⟩
theorem RbTo.trans (h : RbTo P X w X' w') (k : RbTo P X' w' X'' w'') : RbTo P X w X'' w'' :=
  ⟨h.gr.trans k.gr fun i hi e => (h.own i e).resolve_right (by omega), fun i hi => by
    rcases k.own i hi with h1 | h1
    · exact h.own i h1
    · exact .inr (Nat.le_trans h.gr.size h1)⟩
theorem RbTo.of_below (h : Below w.heap.size w w') : RbTo P X w X w' := ⟨GrB.of_below h, fun _ h => .inl h⟩
theorem RbIn.own_lt (h : RbIn B P S dn wt X w) {k : Nat} (hk : OwnR P X k) : B ≤ k ∧ k < w.heap.size := by
  rcases hk with rfl | hk | hk
  · exact ⟨h.hP, lt_of_block h.obj⟩
  · exact h.done.lt k hk
  · exact h.wait.lt k hk
theorem RbIn.below (h : RbIn B P S dn wt X w) (hb : Below w.heap.size w w') : RbIn B P S dn wt X w' := by
  have hg := gby_below (r := none) hb
  exact ⟨(hb.block P (lt_of_block h.obj)).trans h.obj, h.done.kept hg (Classical.em _), h.wait.kept hg (Classical.em _), h.dl, h.wl, fun p hp => (h.good p hp).agr (Agr.below hb), h.hP, h.dP, h.wP, h.dw, fun k hk => ⟨Nat.lt_of_lt_of_le (h.sep k hk).1 hb.size, (h.sep k hk).2⟩⟩
theorem RbIn.cell (h : RbIn B P S dn wt X w) (i : Nat) : w.cell? ⟨P, i, none⟩ = #[X.dv, X.wv][i]? := cell_of_row _ _ _ _ _ _ h.obj
theorem RbIn.frz (h : RbIn B P S dn wt X w) (i : Nat) : w.frozen? ⟨P, i, none⟩ = false := frozen_of_row _ _ _ _ _ h.obj
theorem RbIn.dlen (h : RbIn B P S dn wt X w) : X.L.length = dn.length := by rw [← h.dl, List.length_map]
theorem RbIn.wlen (h : RbIn B P S dn wt X w) : X.M.length = wt.length := by rw [← h.wl, List.length_map]
/-- the block of a new row: the old one's, or a new one -/
def NewAt (u u' : Value) (n : Nat) : Prop := u'.ownBlock = u.ownBlock ∨ ∀ k, u'.ownBlock = some k → n ≤ k
theorem NewAt.ne {u u' : Value} {n P : Nat} (hat : NewAt u u' n) (h : u.ownBlock ≠ some P) (hP : P < n) : u'.ownBlock ≠ some P := by
  rcases hat with e | e
  · rw [e]; exact h
  · intro e2; have := e P e2; omega
/-- what was delivered is another row now -/
theorem RbIn.dset (h : RbIn B P S dn wt X w) {w1 w3 : World} {dv' : Value} {L' : List (Grp × GrX)} (hb : Below w.heap.size w w1) (hg : w1.grownBy w3 X.dv.ownBlock) (hown : w3.ownsRow B 40 7 dv' L'.length (L'.flatMap grC_))
    (hat : NewAt X.dv dv' w.heap.size) (hgood : ∀ p ∈ L', GrG w S p) :
    RbIn B P S (L'.map Prod.fst) wt { X with dv := dv', L := L' } (w3.setCell ⟨P, 0, none⟩ dv') ∧ RbTo P X w { X with dv := dv', L := L' } (w3.setCell ⟨P, 0, none⟩ dv') := by
  have hPl := lt_of_block h.obj
  have h1 := h.below hb
  have hs1 := hb.size
  have hS : ∀ g, X.dv.ownBlock = some g → ¬ S g := fun g e hS => (h.sep g hS).2 (.inr (.inl e))
  have hPS : ¬ S P := fun hs => (h.sep P hs).2 (.inl rfl)
  have ha : Agr S w (w3.setCell ⟨P, 0, none⟩ dv') := ((Agr.below hb).trans (Agr.grown hg hS)).trans (agr_setCell w3 P 0 dv' hPS)
  have hgr : GrB (OwnR P X) w (w3.setCell ⟨P, 0, none⟩ dv') := ((GrB.of_below hb).grown hg (fun g e _ => .inr (.inl e))).set P 0 dv' (fun _ => .inl rfl)
  have hown' : ∀ k, OwnR P { X with dv := dv', L := L' } k → OwnR P X k ∨ w.heap.size ≤ k := fun k hk => by
    rcases hk with e | e | e
    · exact .inl (.inl e)
    · have e : dv'.ownBlock = some k := e
      rcases hat with e3 | e3
      · exact .inl (.inr (.inl (e3.symm.trans e)))
      · exact .inr (e3 k e)
    · exact .inl (.inr (.inr e))
  refine ⟨⟨set_obj (c := #[X.dv, X.wv]) ((hg.block P (by omega) (fun e => h.dP e.symm)).trans h1.obj) 0 dv' rfl, own_set hown (hat.ne h.dP hPl) 0 dv', own_set (h1.wait.kept hg (kept_or h.dw)) h.wP 0 dv', rfl, h.wl, ?_, h.hP, hat.ne h.dP hPl, h.wP, ?_, ?_⟩, ⟨hgr, hown'⟩⟩
  · intro q hq
    rcases List.mem_append.1 hq with hq | hq
    · exact (hgood q hq).agr ha
    · exact (h.good q (List.mem_append.2 (.inr hq))).agr ha
  · intro g e e2
    have e : dv'.ownBlock = some g := e
    rcases hat with e3 | e3
    · rw [e3] at e; exact h.dw g e e2
    · have := e3 g e; have := (h.wait.lt g e2).2; omega
  · intro k hk
    have h3 := h.sep k hk
    exact ⟨Nat.lt_of_lt_of_le h3.1 hgr.size, fun ho => (hown' k ho).elim h3.2 (by omega)⟩
/-- those that wait are others now -/
theorem RbIn.wset (h : RbIn B P S dn wt X w) {w1 w3 : World} {wv' : Value} {M' : List (Grp × GrX)} (hb : Below w.heap.size w w1) (hg : w1.grownBy w3 X.wv.ownBlock) (hown : w3.ownsRow B 40 7 wv' M'.length (M'.flatMap grC_))
    (hat : NewAt X.wv wv' w.heap.size) (hgood : ∀ p ∈ M', GrG w S p) :
    RbIn B P S dn (M'.map Prod.fst) { X with wv := wv', M := M' } (w3.setCell ⟨P, 1, none⟩ wv') ∧ RbTo P X w { X with wv := wv', M := M' } (w3.setCell ⟨P, 1, none⟩ wv') := by
  have hPl := lt_of_block h.obj
  have h1 := h.below hb
  have hs1 := hb.size
  have hS : ∀ g, X.wv.ownBlock = some g → ¬ S g := fun g e hS => (h.sep g hS).2 (.inr (.inr e))
  have hPS : ¬ S P := fun hs => (h.sep P hs).2 (.inl rfl)
  have ha : Agr S w (w3.setCell ⟨P, 1, none⟩ wv') := ((Agr.below hb).trans (Agr.grown hg hS)).trans (agr_setCell w3 P 1 wv' hPS)
  have hgr : GrB (OwnR P X) w (w3.setCell ⟨P, 1, none⟩ wv') := ((GrB.of_below hb).grown hg (fun g e _ => .inr (.inr e))).set P 1 wv' (fun _ => .inl rfl)
  have hown' : ∀ k, OwnR P { X with wv := wv', M := M' } k → OwnR P X k ∨ w.heap.size ≤ k := fun k hk => by
    rcases hk with e | e | e
    · exact .inl (.inl e)
    · exact .inl (.inr (.inl e))
    · have e : wv'.ownBlock = some k := e
      rcases hat with e3 | e3
      · exact .inl (.inr (.inr (e3.symm.trans e)))
      · exact .inr (e3 k e)
  refine ⟨⟨set_obj (c := #[X.dv, X.wv]) ((hg.block P (by omega) (fun e => h.wP e.symm)).trans h1.obj) 1 wv' rfl, own_set (h1.done.kept hg (kept_or (fun g e e2 => h.dw g e2 e))) h.dP 1 wv', own_set hown (hat.ne h.wP hPl) 1 wv', h.dl, rfl, ?_, h.hP, h.dP, hat.ne h.wP hPl, ?_, ?_⟩, ⟨hgr, hown'⟩⟩
  · intro q hq
    rcases List.mem_append.1 hq with hq | hq
    · exact (h.good q (List.mem_append.2 (.inl hq))).agr ha
    · exact (hgood q hq).agr ha
  · intro g e e2
    have e2 : wv'.ownBlock = some g := e2
    rcases hat with e3 | e3
    · rw [e3] at e2; exact h.dw g e e2
    · have := e3 g e2; have := (h.done.lt g e).2; omega
  · intro k hk
    have h3 := h.sep k hk
    exact ⟨Nat.lt_of_lt_of_le h3.1 hgr.size, fun ho => (hown' k ho).elim h3.2 (by omega)⟩
/-- what all these groups are -/
structure RbOk (b : Bx) : Prop where
  ok : BxOk b
  txt : ∀ g ∈ b.done ++ b.wait, ∀ o ∈ g.ops, o.text.size ≤ 1000000
  len : b.done.length + b.wait.length ≤ 100000
end
set_option maxRecDepth 100000 in
set_option maxHeartbeats 4000000 in
theorem rbvec_any {B P : Nat} {S : Nat → Prop} {b : Bx} {X : RbX} {w : World} (h : RbIn B P S b.done b.wait X w) (ho : RbOk b) :
    Calls Tryz.prog 56 #[.pointer (some ⟨P, 0, none⟩)] w fun e w' => ∃ A' c', e = .returned (.slice A' b.v.length c') ∧ VecS w' (fun _ => True) A' b.v ∧ b.v.length ≤ 16 ∧ Below w.heap.size w w' := by
  obtain ⟨A0, c0, hv⟩ := row_slice h.done
  have hO := h.done
  rw [hv] at hO
  have hln := ho.len
  have hm : ∀ p ∈ X.L, p.1 ∈ b.done := fun p hp => by rw [← h.dl]; exact List.mem_map.2 ⟨p, hp, rfl⟩
  have HV := Lib.hid (rvector_any X.L A0 c0 S w (by rw [h.dlen]; omega) (RowGr.own hO) (fun p hp => h.good p (List.mem_append.2 (.inl hp))) (fun p hp => ho.txt p.1 (List.mem_append.2 (.inl (hm p hp)))) (fun p hp => ho.ok.chk p.1 (List.mem_append.2 (.inl (hm p hp)))) (by
    have := ho.ok.apart
    rw [List.map_append, List.nodup_append] at this
    have h1 := this.1
    rw [← h.dl, List.map_map] at h1
    exact h1) b.v (by rw [h.dl]; exact ho.ok.ahead))
  have d0 : w.cell? ⟨P, 0, none⟩ = some (.slice A0 X.L.length c0) := by rw [h.cell, ← hv]; rfl
  obtain ⟨n, hn⟩ : ∃ n, n = X.L.length := ⟨_, rfl⟩
  rw [← hn] at HV d0
  clear h hO hv ho hm hln hn
  go_enter Tryz.func56, Tryz.ntmps56
  go_wp2_with (go_at_call 90; refine HV.out.mono ?_; rintro e w1 ⟨A1, c1, rfl, hv1, hl1, hB1⟩)
  go_ret
  exact ⟨A1, c1, rfl, hv1, hl1, hB1⟩
end Go.Proofs.YtalgbcgiiphoaaaGreatDoor
