/- WireStamps: of a group that may be with another stamp it may be still, if the stamp is behind it. Conditions: lengths in reach; the tables of utf8. -/
import Derived.Test.YtooaodgamakoeaaDoorBack8
import Derived.Test.YtooaodgamakoeaaDoorSH
namespace Go.Proofs.YtooaodgamakoeaaDoor
open Go.RowKit Go.Lib Go.Sort
set_option linter.unusedVariables false
attribute [local go_sem ↓] Go.wp_at_zero Go.wp_at_succ
theorem and_low9 (n : Int) (M : Nat) (hM : M < 4611686018427387904) : ∃ m : Nat, bits .and .i64 n (M : Int) = (m : Int) ∧ m ≤ M := by
  have hle : (BitVec.ofInt 64 n &&& BitVec.ofInt 64 (M : Int)).toNat ≤ M := by
    rw [BitVec.toNat_and, ofInt_63 M (by omega)]
    exact Nat.and_le_right
  refine ⟨(BitVec.ofInt 64 n &&& BitVec.ofInt 64 (M : Int)).toNat, ?_, hle⟩
  show IntKind.i64.wrap ((BitVec.ofInt 64 n &&& BitVec.ofInt 64 (M : Int)).toNat : Int) = _
  rw [IntKind.wrap_i64]
  omega
theorem heap_alloc_newS2 : True := trivial
/-- where the walk stands: the group's block, the later stamp's, the other group's -/
structure St8 (w0 : World) (b1 : Nat) (cg c1 c2 : Array Value) (w : World) : Prop where
  bg : w.heap[w0.heap.size]? = some (.cells cg 34 (0, 0))
  bl : w.heap[b1]? = some (.cells c1 25 (0, 0))
  bh : w.heap[b1 + 1]? = some (.cells c2 34 (0, 0))
  bel : Below w0.heap.size w0 w
  lt : w0.heap.size < b1
section
variable {w0 w w' : World} {b1 : Nat} {cg c1 c2 : Array Value}
theorem St8.below (h : St8 w0 b1 cg c1 c2 w) (hB : Below w.heap.size w w') : St8 w0 b1 cg c1 c2 w' :=
  ⟨(hB.block _ (lt_of_block h.bg)).trans h.bg, (hB.block _ (lt_of_block h.bl)).trans h.bl, (hB.block _ (lt_of_block h.bh)).trans h.bh, h.bel.trans (hB.mono h.bel.size), h.lt⟩
theorem St8.gby (h : St8 w0 b1 cg c1 c2 w) {r : Option Nat} (hg : w.grownBy w' r) (hr : ∀ g, r = some g → b1 + 1 < g) : St8 w0 b1 cg c1 c2 w' := by
  have := h.lt
  exact ⟨(hg.block _ (lt_of_block h.bg) (fun e => by have := hr _ e.symm; omega)).trans h.bg, (hg.block _ (lt_of_block h.bl) (fun e => by have := hr _ e.symm; omega)).trans h.bl,
   (hg.block _ (lt_of_block h.bh) (fun e => by have := hr _ e.symm; omega)).trans h.bh, h.bel.grown hg h.bel.size (fun k e => by have := hr k e; omega), h.lt⟩
theorem St8.put (h : St8 w0 b1 cg c1 c2 w) (i : Nat) (u : Value) : St8 w0 b1 cg c1 (c2.setIfInBounds i u) (w.setCell ⟨b1 + 1, i, none⟩ u) := by
  have := h.lt
  exact ⟨(Below.heap_setCell _ _ _ _ (by show w0.heap.size ≠ b1 + 1; omega)).trans h.bg, (Below.heap_setCell _ _ _ _ (by show b1 ≠ b1 + 1; omega)).trans h.bl,
   heap_setCell_same _ _ _ _ _ _ h.bh, h.bel.setCell (by show w0.heap.size ≤ b1 + 1; omega) _, h.lt⟩
theorem St8.rng (h : St8 w0 b1 cg c1 c2 w) {ob q : Nat} {cs : List Value} (hr : w0.rangeAt ob q cs) (hb : ob < w0.heap.size) : w.rangeAt ob q cs := fun j v hv => (h.bel.cell (p := ⟨ob, q + j, none⟩) hb).trans (hr j v hv)
theorem St8.frz (h : St8 w0 b1 cg c1 c2 w) (i : Nat) : w.frozen? ⟨b1 + 1, i, none⟩ = false := frozen_of_row _ _ _ _ _ h.bh
end
theorem OpsAt.set {B : Nat} {v : Value} {L : List (Gop × OpX)} {S : Nat → Prop} {w : World} (h : OpsAt B v L S w) {b i : Nat} (hb : b < B) (u : Value) : OpsAt B v L S (w.setCell ⟨b, i, none⟩ u) :=
  ⟨fun p hp => (h.good p hp).agr ⟨by simp, fun k hk _ => Below.heap_setCell _ _ _ _ (by show k ≠ b; have := (h.old k hk).1; omega)⟩, fun k hk => by have := h.old k hk; simpa using this⟩
def findReg (i : Nat) : Code → Option Code
  | .region j ops b => if j = i then some (.region j ops b) else none
  | .loop c => findReg i c
  | .seq a b => match findReg i a with
    | some c => some c
    | none => findReg i b
  | .block _ c => findReg i c
  | .scope c => findReg i c
  | .cond _ a b => match findReg i a with
    | some c => some c
    | none => findReg i b
  | _ => none
noncomputable def reg15 : Code := ((Tryd.f7.body.bind (findReg 15)).getD .skip)
set_option maxRecDepth 100000 in
set_option maxHeartbeats 16000000 in
theorem st_region (w wr : World) (b1 B k : Nat) (t r lt n ut ur : Int) (v : List Int) (dA : Option Addr) (dc oc : Nat) (ops : List Gop) (ob oo : Nat) (V : Value) (L : List (Gop × OpX)) (S : Nat → Prop) (k1 : List Value) (o2 : Gop)
    {Q : Exit → Act → World → Prop} {s0 s1 s3 s4 s5 s9 s10 s11 s12 s13 s14 s15 s16 s17 s18 s19 s20 s21 s22 s23 s24 s25 s26 s27 s28 s29 s30 s31 s32 s33 s34 s35 s36 s37 s38 s39 s40 s41 s42 s43 s44 s45 s46 s47 s48 s49 s50 s51 s52 s53 s54 s55 s56 s57 s58 s59 s60 s61 s62 s63 s64 s65 s66 : Value}
    (hB2 : b1 + 1 < B) (hszB : B ≤ wr.heap.size) (hlt : k < ops.length) (hops : ops.length ≤ 60) (HS : Hid (St8 w b1 #[.int .i64 t, .int .i64 r, .int .i64 n, .slice dA v.length dc, .int .i64 ut, .int .i64 ur, .slice (some ⟨ob, oo, none⟩) ops.length oc] #[.int .i64 lt, .int .i64 r] #[.int .i64 lt, .int .i64 r, .int .i64 n, .slice dA v.length dc, .int .i64 ut, .int .i64 ur, V] wr)) (HO1 : Hid (wr.ownsRow B 31 18 V k (L.flatMap opC_))) (HP : Hid (OpsAt B V L S wr))
    (HR : Hid (w.rangeAt ob (oo + k * 18) k1)) (hol : ob < w.heap.size) (hl1 : k1.length = 18)
    (HCA : Hid (∀ W, Below w.heap.size w W → Calls Tryd.prog 23 #[.agg k1.toArray, .agg #[.int .i64 t, .int .i64 r], .agg #[.int .i64 lt, .int .i64 r]] W (ShQ o2 W))) (HNT : Hid (o2.name.size ≤ 1000000 ∧ o2.text.size ≤ 1000000))
    (hP : ∀ c (a : Act) (T : Array Value) W, Q (.panic c) { a with tmps := T } W → Q (.panic c) a W)
    (hq : ∀ (u47 u48 u49 u50 u51 u52 u53 u54 u55 u56 u57 u58 u59 u60 V' : Value) (x : OpX) (S' : Nat → Prop) (W : World), W.ownsRow B 31 18 V' (k + 1) ((L ++ [(o2, x)]).flatMap opC_) → OpsAt B V' (L ++ [(o2, x)]) S' W → St8 w b1 #[.int .i64 t, .int .i64 r, .int .i64 n, .slice dA v.length dc, .int .i64 ut, .int .i64 ur, .slice (some ⟨ob, oo, none⟩) ops.length oc] #[.int .i64 lt, .int .i64 r] #[.int .i64 lt, .int .i64 r, .int .i64 n, .slice dA v.length dc, .int .i64 ut, .int .i64 ur, V'] W → B ≤ W.heap.size → Q .normal ⟨#[s0, s1, .pointer (some ⟨w.heap.size, 0, none⟩), s3, s4, s5, .pointer (some ⟨b1, 0, none⟩), .pointer (some ⟨b1 + 1, 0, none⟩), .int .i64 (k : Int), s9, s10, s11, s12, s13, s14, s15, s16, s17, s18, s19, s20, s21, s22, s23, s24, s25, s26, s27, s28, s29, s30, s31, s32, s33, s34, s35, s36, s37, s38, s39, s40, s41, s42, s43, s44, s45, s46, u47, u48, u49, u50, u51, u52, u53, u54, u55, u56, u57, u58, u59, u60, s61, s62, s63, s64, s65, s66], []⟩ W) :
    Code.wp Tryd.prog reg15 Q ⟨#[s0, s1, .pointer (some ⟨w.heap.size, 0, none⟩), s3, s4, s5, .pointer (some ⟨b1, 0, none⟩), .pointer (some ⟨b1 + 1, 0, none⟩), .int .i64 (k : Int), s9, s10, s11, s12, s13, s14, s15, s16, s17, s18, s19, s20, s21, s22, s23, s24, s25, s26, s27, s28, s29, s30, s31, s32, s33, s34, s35, s36, s37, s38, s39, s40, s41, s42, s43, s44, s45, s46, s47, s48, s49, s50, s51, s52, s53, s54, s55, s56, s57, s58, s59, s60, s61, s62, s63, s64, s65, s66], []⟩ wr := by
  obtain ⟨i0, hi, hz0, hz1, hz2⟩ := info_parts infoOp
  obtain ⟨SS, hSS⟩ : ∃ SS : World → Prop, SS = fun w' => w'.cell? ⟨w.heap.size, 6, none⟩ = some (.slice (some ⟨ob, oo, none⟩) ops.length oc) ∧ w'.rangeAt ob (oo + k * 18) k1 ∧ w'.cell? ⟨w.heap.size, 0, none⟩ = some (.int .i64 t) ∧ w'.cell? ⟨w.heap.size, 1, none⟩ = some (.int .i64 r) ∧ w'.cell? ⟨b1, 0, none⟩ = some (.int .i64 lt) ∧ w'.cell? ⟨b1, 1, none⟩ = some (.int .i64 r) := ⟨_, rfl⟩
  have HSU := Lib.hid (show ∀ W', SS W' → W'.cell? ⟨w.heap.size, 6, none⟩ = some (.slice (some ⟨ob, oo, none⟩) ops.length oc) ∧ W'.rangeAt ob (oo + k * 18) k1 ∧ W'.cell? ⟨w.heap.size, 0, none⟩ = some (.int .i64 t) ∧ W'.cell? ⟨w.heap.size, 1, none⟩ = some (.int .i64 r) ∧ W'.cell? ⟨b1, 0, none⟩ = some (.int .i64 lt) ∧ W'.cell? ⟨b1, 1, none⟩ = some (.int .i64 r) from fun W' h => by rw [hSS] at h; exact h)
  have HSO := Lib.hid (show ∀ (c2 : Array Value) (W' : World), St8 w b1 #[.int .i64 t, .int .i64 r, .int .i64 n, .slice dA v.length dc, .int .i64 ut, .int .i64 ur, .slice (some ⟨ob, oo, none⟩) ops.length oc] #[.int .i64 lt, .int .i64 r] c2 W' → SS W' from fun c2 W' h => by rw [hSS]; exact ⟨by rw [cell_of_row _ _ _ _ _ _ h.bg]; rfl, h.rng HR.out hol, by rw [cell_of_row _ _ _ _ _ _ h.bg]; rfl, by rw [cell_of_row _ _ _ _ _ _ h.bg]; rfl, by rw [cell_of_row _ _ _ _ _ _ h.bl]; rfl, by rw [cell_of_row _ _ _ _ _ _ h.bl]; rfl⟩)
  have HDS := Lib.hid (HS.out.below (show Below wr.heap.size wr wr.drew from ⟨rfl, rfl, rfl, Nat.le_refl _, fun _ _ => rfl⟩))
  have HDR := Lib.hid (HSO.out _ _ HDS.out)
  clear hSS
  have i5 : (k : Int) < (ops.length : Int) := by omega
  have i4 : (0 : Int) ≤ (k : Int) := by omega
  have d4 : wr.cell? ⟨b1 + 1, 6, none⟩ = some V := by rw [cell_of_row _ _ _ _ _ _ HS.out.bh]; rfl
  have HBO := Lib.hid (fun g e => (HO1.out.lt g e).1)
  have HBL := Lib.hid (fun g e => (HO1.out.lt g e).2)
  conv => arg 2; whnf
  refine wp_region_held_drew (S := SS) (by kernel_rfl) HDR.out (fun hHeld => ?_)
  clear hHeld
  refine wpAnyH_take (i := 0) (v := .pointer (some ⟨b1 + 1, 6, none⟩)) rfl (by kernel_rfl) (by kernel_rfl) (by kernel_rfl) (fun c a W => hP c a _ W) (Or.inl ⟨by rfl, fun W' _ => by go_simp⟩) HDR.out ?_
  go_simp
  refine wpAnyH_take (i := 2) (v := .pointer (some ⟨w.heap.size, 6, none⟩)) rfl (by kernel_rfl) (by kernel_rfl) (by kernel_rfl) (fun c a W => hP c a _ W) (Or.inl ⟨by rfl, fun W' _ => by go_simp⟩) HDR.out ?_
  go_simp
  refine wpAnyH_take (i := 3) (v := .slice (some ⟨ob, oo, none⟩) ops.length oc) rfl (by kernel_rfl) (by kernel_rfl) (by kernel_rfl) (fun c a W => hP c a _ W) (Or.inl ⟨by rfl, fun W' hW' => by (have hW' := HSU.out W' hW'; obtain ⟨y0, -, -, -, -, -⟩ := hW'; go_simp)⟩) HDR.out ?_
  go_simp
  refine wpAnyH_take (i := 4) (v := .int .i64 (k : Int)) rfl (by kernel_rfl) (by kernel_rfl) (by kernel_rfl) (fun c a W => hP c a _ W) (Or.inl ⟨by rfl, fun W' _ => by go_simp⟩) HDR.out ?_
  go_simp
  refine wpAnyH_take (i := 5) (v := .pointer (some ⟨ob, oo + k * 18, none⟩)) rfl (by kernel_rfl) (by kernel_rfl) (by kernel_rfl) (fun c a W => hP c a _ W) (Or.inl ⟨by rfl, fun W' _ => by go_simp⟩) HDR.out ?_
  go_simp
  refine wpAnyH_take (i := 6) (v := .agg k1.toArray) rfl (by kernel_rfl) (by kernel_rfl) (by kernel_rfl) (fun c a W => hP c a _ W) (yieldsIf_load_mid (by rfl) _ _ rfl _ _ rfl _ _ (fun W' hW' => (HSU.out W' hW').2.1) Tryd.underlying31 rfl (by rw [hl1]; kernel_rfl)) HDR.out ?_
  go_simp
  refine wpAnyH_take (i := 7) (v := .pointer (some ⟨w.heap.size, 0, none⟩)) rfl (by kernel_rfl) (by kernel_rfl) (by kernel_rfl) (fun c a W => hP c a _ W) (Or.inl ⟨by rfl, fun W' _ => by go_simp⟩) HDR.out ?_
  go_simp
  refine wpAnyH_take (i := 8) (v := .agg #[.int .i64 t, .int .i64 r]) rfl (by kernel_rfl) (by kernel_rfl) (by kernel_rfl) (fun c a W => hP c a _ W) (Or.inl ⟨by rfl, fun W' hW' => by (have hW' := HSU.out W' hW'; obtain ⟨-, -, y2, y3, -, -⟩ := hW'; go_simp)⟩) HDR.out ?_
  go_simp
  refine wpAnyH_take (i := 9) (v := .agg #[.int .i64 lt, .int .i64 r]) rfl (by kernel_rfl) (by kernel_rfl) (by kernel_rfl) (fun c a W => hP c a _ W) (Or.inl ⟨by rfl, fun W' hW' => by (have hW' := HSU.out W' hW'; obtain ⟨-, -, -, -, y4, y5⟩ := hW'; go_simp)⟩) HDR.out ?_
  go_simp
  refine wpAnyH_ready (rs := [1, 10]) (by kernel_rfl) (by simp) ?_
  refine AllReadyH.cons rfl (fun K hK => ?_) (AllReadyH.cons rfl (fun K hK => ?_) AllReadyH.nil)
  · go_simp
    refine hK.out _ _ (HSO.out _ _ HDS.out) (fun _ => ?_)
    clear hK K
    refine wpAnyH_ready (rs := [10]) (by kernel_rfl) (by simp) ?_
    refine AllReadyH.cons rfl (fun K hK => ?_) AllReadyH.nil
    go_simp
    refine (HCA.out _ (HS.out.bel.trans ((show Below wr.heap.size wr wr.drew from ⟨rfl, rfl, rfl, Nat.le_refl _, fun _ _ => rfl⟩).mono HS.out.bel.size))).mono ?_
    rintro e w2 ⟨⟨xd, xdc, xe, xec⟩, he, hin2, hB2'⟩
    obtain ⟨kind, ⟨⟨nt, nr⟩, ni⟩, ⟨⟨pt, pr⟩, pi⟩, name, dir, dots, ⟨⟨at_, ar⟩, ai⟩, ⟨⟨et, er⟩, ei⟩, text, elems⟩ := o2
    obtain rfl : e = .returned (.agg #[.int .i64 kind, .int .i64 nt, .int .i64 nr, .int .i64 ni, .int .i64 pt, .int .i64 pr, .int .i64 pi, .string name, .bool dir, .slice xd dots.length xdc, .int .i64 at_, .int .i64 ar, .int .i64 ai, .int .i64 et, .int .i64 er, .int .i64 ei, .string text, .slice xe elems.length xec]) := he
    replace hB2' : Below wr.heap.size wr w2 := ⟨hB2'.os, hB2'.tape, hB2'.output, hB2'.size, hB2'.block⟩
    have HS2 := Lib.hid (HS.out.below hB2')
    have HO2 := Lib.hid (HO1.out.kept (gby_below (r := none) hB2') (Classical.em _))
    have hsz2 : B ≤ w2.heap.size := Nat.le_trans hszB hB2'.size
    have HIN := Lib.hid hin2
    have HG2 := Lib.hid (gby_below (r := some b1) hB2')
    have d5 : w2.cell? ⟨b1 + 1, 6, none⟩ = some V := by rw [cell_of_row _ _ _ _ _ _ HS2.out.bh]; rfl
    have HSA := Lib.hid (HS2.out.below ((Below.refl _ _).alloc (Nat.le_refl _) (.cells #[.int .i64 kind, .int .i64 nt, .int .i64 nr, .int .i64 ni, .int .i64 pt, .int .i64 pr, .int .i64 pi, .string name, .bool dir, .slice xd dots.length xdc, .int .i64 at_, .int .i64 ar, .int .i64 ai, .int .i64 et, .int .i64 er, .int .i64 ei, .string text, .slice xe elems.length xec] 31)))
    have d7 : (w2.alloc (.cells #[.int .i64 kind, .int .i64 nt, .int .i64 nr, .int .i64 ni, .int .i64 pt, .int .i64 pr, .int .i64 pi, .string name, .bool dir, .slice xd dots.length xdc, .int .i64 at_, .int .i64 ar, .int .i64 ai, .int .i64 et, .int .i64 er, .int .i64 ei, .string text, .slice xe elems.length xec] 31)).cell? ⟨b1 + 1, 6, none⟩ = some V := by rw [cell_of_row _ _ _ _ _ _ HSA.out.bh]; rfl
    clear hB2' hin2
    go_simp
    refine hK.out _ _ (HSO.out _ _ HS2.out) (fun _ => ?_)
    clear hK K
    refine wpAnyH_ready (rs := [11]) (by kernel_rfl) (by simp) ?_
    refine AllReadyH.cons rfl (fun K hK => ?_) AllReadyH.nil
    go_simp
    refine hK.out _ _ (HSO.out _ _ HSA.out) (fun _ => ?_)
    clear hK K
    refine wpAnyH_ready (rs := [12]) (by kernel_rfl) (by simp) ?_
    refine AllReadyH.cons rfl (fun K hK => ?_) AllReadyH.nil
    refine step_append_lies _ (by rfl) _ _ 32 (by rfl) B 31 i0 (.agg #[.int .i64 0, .int .i64 0, .int .i64 0, .int .i64 0, .int .i64 0, .int .i64 0, .int .i64 0, .string ⟨#[]⟩, .bool false, .slice none 0 0, .int .i64 0, .int .i64 0, .int .i64 0, .int .i64 0, .int .i64 0, .int .i64 0, .string ⟨#[]⟩, .slice none 0 0]) 18 192 Tryd.underlying32 hi hz0 hz1 hz2 rfl (by decide) V k _ (by rfl) (by exact HO2.out.alloc _) ⟨w2.heap.size, 0, none⟩ 1 1 [.int .i64 kind, .int .i64 nt, .int .i64 nr, .int .i64 ni, .int .i64 pt, .int .i64 pr, .int .i64 pi, .string name, .bool dir, .slice xd dots.length xdc, .int .i64 at_, .int .i64 ar, .int .i64 ai, .int .i64 et, .int .i64 er, .int .i64 ei, .string text, .slice xe elems.length xec] (by rfl) rfl (by exact cellsN _ _ _) (by exact oc_of (c := #[.int .i64 kind, .int .i64 nt, .int .i64 nr, .int .i64 ni, .int .i64 pt, .int .i64 pr, .int .i64 pi, .string name, .bool dir, .slice xd dots.length xdc, .int .i64 at_, .int .i64 ar, .int .i64 ai, .int .i64 et, .int .i64 er, .int .i64 ei, .string text, .slice xe elems.length xec]) rfl) (by decide) (by unfold maxLen; omega) (by omega) (by simp; omega) (w2.heap.size + 1) (by simp) ?_
    intro gq cap w3 hown1 hgrow hat hlt3
    have HS3 := Lib.hid (HSA.out.gby hgrow (fun g e => by have := HBO.out g e; omega))
    have fz := HS3.out.frz 6
    have d6 : w3.cell? ⟨b1 + 1, 6, none⟩ = some V := by rw [cell_of_row _ _ _ _ _ _ HS3.out.bh]; rfl
    have HOW := Lib.hid hown1
    have HGR := Lib.hid hgrow
    have HAT := Lib.hid hat
    clear hown1 hgrow hat
    refine hK.out _ _ (HSO.out _ _ HS3.out) (fun _ => ?_)
    clear hK K
    go_simp
    refine wpAnyH_take (i := 13) (v := .pointer (some ⟨b1 + 1, 6, none⟩)) rfl (by kernel_rfl) (by kernel_rfl) (by kernel_rfl) (fun c a W => hP c a _ W) (Or.inl ⟨by rfl, fun W' _ => by go_simp⟩) (HSO.out _ _ HS3.out) ?_
    go_simp
    refine wpAnyH_ready (rs := [14]) (by kernel_rfl) (by simp) ?_
    refine AllReadyH.cons rfl (fun K hK => ?_) AllReadyH.nil
    go_simp
    have HS4 := Lib.hid (show St8 w b1 #[.int .i64 t, .int .i64 r, .int .i64 n, .slice dA v.length dc, .int .i64 ut, .int .i64 ur, .slice (some ⟨ob, oo, none⟩) ops.length oc] #[.int .i64 lt, .int .i64 r] #[.int .i64 lt, .int .i64 r, .int .i64 n, .slice dA v.length dc, .int .i64 ut, .int .i64 ur, .slice (some ⟨gq, 0, none⟩) (k + 1) cap] (w3.setCell ⟨b1 + 1, 6, none⟩ (.slice (some ⟨gq, 0, none⟩) (k + 1) cap)) from HS3.out.put 6 (.slice (some ⟨gq, 0, none⟩) (k + 1) cap))
    refine hK.out _ _ (HSO.out _ _ HS4.out) (fun _ => ?_)
    clear hK K
    refine wpAnyH_done (by kernel_rfl) ?_ _
    go_simp
    obtain ⟨S', hS'⟩ := OpsAt.next (v' := .slice (some ⟨gq, 0, none⟩) (k + 1) cap) HP.out hszB (show b1 < B by omega) HBL.out HG2.out HIN.out HNT.out.1 HNT.out.2 HGR.out (HAT.out.imp (fun h => h.symm) (fun h => by rw [h]; simp; rfl))
    refine hq _ _ _ _ _ _ _ _ _ _ _ _ _ _ (.slice (some ⟨gq, 0, none⟩) (k + 1) cap) ⟨xd, xdc, xe, xec⟩ S' _ ?_ (hS'.set (b := b1 + 1) (i := 6) hB2 (.slice (some ⟨gq, 0, none⟩) (k + 1) cap)) HS4.out ?_
    · rw [List.flatMap_append, List.flatMap_singleton]; exact ownsRow_setCell_below (a := ⟨b1 + 1, 6, none⟩) HOW.out hB2 _
    · have := HGR.out.size
      simp at this ⊢
      omega
  · go_simp
    refine (HCA.out _ (HS.out.bel.trans ((show Below wr.heap.size wr wr.drew from ⟨rfl, rfl, rfl, Nat.le_refl _, fun _ _ => rfl⟩).mono HS.out.bel.size))).mono ?_
    rintro e w2 ⟨⟨xd, xdc, xe, xec⟩, he, hin2, hB2'⟩
    obtain ⟨kind, ⟨⟨nt, nr⟩, ni⟩, ⟨⟨pt, pr⟩, pi⟩, name, dir, dots, ⟨⟨at_, ar⟩, ai⟩, ⟨⟨et, er⟩, ei⟩, text, elems⟩ := o2
    obtain rfl : e = .returned (.agg #[.int .i64 kind, .int .i64 nt, .int .i64 nr, .int .i64 ni, .int .i64 pt, .int .i64 pr, .int .i64 pi, .string name, .bool dir, .slice xd dots.length xdc, .int .i64 at_, .int .i64 ar, .int .i64 ai, .int .i64 et, .int .i64 er, .int .i64 ei, .string text, .slice xe elems.length xec]) := he
    replace hB2' : Below wr.heap.size wr w2 := ⟨hB2'.os, hB2'.tape, hB2'.output, hB2'.size, hB2'.block⟩
    have HS2 := Lib.hid (HS.out.below hB2')
    have HO2 := Lib.hid (HO1.out.kept (gby_below (r := none) hB2') (Classical.em _))
    have hsz2 : B ≤ w2.heap.size := Nat.le_trans hszB hB2'.size
    have HIN := Lib.hid hin2
    have HG2 := Lib.hid (gby_below (r := some b1) hB2')
    have d5 : w2.cell? ⟨b1 + 1, 6, none⟩ = some V := by rw [cell_of_row _ _ _ _ _ _ HS2.out.bh]; rfl
    have HSA := Lib.hid (HS2.out.below ((Below.refl _ _).alloc (Nat.le_refl _) (.cells #[.int .i64 kind, .int .i64 nt, .int .i64 nr, .int .i64 ni, .int .i64 pt, .int .i64 pr, .int .i64 pi, .string name, .bool dir, .slice xd dots.length xdc, .int .i64 at_, .int .i64 ar, .int .i64 ai, .int .i64 et, .int .i64 er, .int .i64 ei, .string text, .slice xe elems.length xec] 31)))
    have d7 : (w2.alloc (.cells #[.int .i64 kind, .int .i64 nt, .int .i64 nr, .int .i64 ni, .int .i64 pt, .int .i64 pr, .int .i64 pi, .string name, .bool dir, .slice xd dots.length xdc, .int .i64 at_, .int .i64 ar, .int .i64 ai, .int .i64 et, .int .i64 er, .int .i64 ei, .string text, .slice xe elems.length xec] 31)).cell? ⟨b1 + 1, 6, none⟩ = some V := by rw [cell_of_row _ _ _ _ _ _ HSA.out.bh]; rfl
    clear hB2' hin2
    go_simp
    refine hK.out _ _ (HSO.out _ _ HS2.out) (fun _ => ?_)
    clear hK K
    refine wpAnyH_ready (rs := [1, 11]) (by kernel_rfl) (by simp) ?_
    refine AllReadyH.cons rfl (fun K hK => ?_) (AllReadyH.cons rfl (fun K hK => ?_) AllReadyH.nil)
    · go_simp
      refine hK.out _ _ (HSO.out _ _ HS2.out) (fun _ => ?_)
      clear hK K
      refine wpAnyH_ready (rs := [11]) (by kernel_rfl) (by simp) ?_
      refine AllReadyH.cons rfl (fun K hK => ?_) AllReadyH.nil
      go_simp
      refine hK.out _ _ (HSO.out _ _ HSA.out) (fun _ => ?_)
      clear hK K
      refine wpAnyH_ready (rs := [12]) (by kernel_rfl) (by simp) ?_
      refine AllReadyH.cons rfl (fun K hK => ?_) AllReadyH.nil
      refine step_append_lies _ (by rfl) _ _ 32 (by rfl) B 31 i0 (.agg #[.int .i64 0, .int .i64 0, .int .i64 0, .int .i64 0, .int .i64 0, .int .i64 0, .int .i64 0, .string ⟨#[]⟩, .bool false, .slice none 0 0, .int .i64 0, .int .i64 0, .int .i64 0, .int .i64 0, .int .i64 0, .int .i64 0, .string ⟨#[]⟩, .slice none 0 0]) 18 192 Tryd.underlying32 hi hz0 hz1 hz2 rfl (by decide) V k _ (by rfl) (by exact HO2.out.alloc _) ⟨w2.heap.size, 0, none⟩ 1 1 [.int .i64 kind, .int .i64 nt, .int .i64 nr, .int .i64 ni, .int .i64 pt, .int .i64 pr, .int .i64 pi, .string name, .bool dir, .slice xd dots.length xdc, .int .i64 at_, .int .i64 ar, .int .i64 ai, .int .i64 et, .int .i64 er, .int .i64 ei, .string text, .slice xe elems.length xec] (by rfl) rfl (by exact cellsN _ _ _) (by exact oc_of (c := #[.int .i64 kind, .int .i64 nt, .int .i64 nr, .int .i64 ni, .int .i64 pt, .int .i64 pr, .int .i64 pi, .string name, .bool dir, .slice xd dots.length xdc, .int .i64 at_, .int .i64 ar, .int .i64 ai, .int .i64 et, .int .i64 er, .int .i64 ei, .string text, .slice xe elems.length xec]) rfl) (by decide) (by unfold maxLen; omega) (by omega) (by simp; omega) (w2.heap.size + 1) (by simp) ?_
      intro gq cap w3 hown1 hgrow hat hlt3
      have HS3 := Lib.hid (HSA.out.gby hgrow (fun g e => by have := HBO.out g e; omega))
      have fz := HS3.out.frz 6
      have d6 : w3.cell? ⟨b1 + 1, 6, none⟩ = some V := by rw [cell_of_row _ _ _ _ _ _ HS3.out.bh]; rfl
      have HOW := Lib.hid hown1
      have HGR := Lib.hid hgrow
      have HAT := Lib.hid hat
      clear hown1 hgrow hat
      refine hK.out _ _ (HSO.out _ _ HS3.out) (fun _ => ?_)
      clear hK K
      go_simp
      refine wpAnyH_take (i := 13) (v := .pointer (some ⟨b1 + 1, 6, none⟩)) rfl (by kernel_rfl) (by kernel_rfl) (by kernel_rfl) (fun c a W => hP c a _ W) (Or.inl ⟨by rfl, fun W' _ => by go_simp⟩) (HSO.out _ _ HS3.out) ?_
      go_simp
      refine wpAnyH_ready (rs := [14]) (by kernel_rfl) (by simp) ?_
      refine AllReadyH.cons rfl (fun K hK => ?_) AllReadyH.nil
      go_simp
      have HS4 := Lib.hid (show St8 w b1 #[.int .i64 t, .int .i64 r, .int .i64 n, .slice dA v.length dc, .int .i64 ut, .int .i64 ur, .slice (some ⟨ob, oo, none⟩) ops.length oc] #[.int .i64 lt, .int .i64 r] #[.int .i64 lt, .int .i64 r, .int .i64 n, .slice dA v.length dc, .int .i64 ut, .int .i64 ur, .slice (some ⟨gq, 0, none⟩) (k + 1) cap] (w3.setCell ⟨b1 + 1, 6, none⟩ (.slice (some ⟨gq, 0, none⟩) (k + 1) cap)) from HS3.out.put 6 (.slice (some ⟨gq, 0, none⟩) (k + 1) cap))
      refine hK.out _ _ (HSO.out _ _ HS4.out) (fun _ => ?_)
      clear hK K
      refine wpAnyH_done (by kernel_rfl) ?_ _
      go_simp
      obtain ⟨S', hS'⟩ := OpsAt.next (v' := .slice (some ⟨gq, 0, none⟩) (k + 1) cap) HP.out hszB (show b1 < B by omega) HBL.out HG2.out HIN.out HNT.out.1 HNT.out.2 HGR.out (HAT.out.imp (fun h => h.symm) (fun h => by rw [h]; simp; rfl))
      refine hq _ _ _ _ _ _ _ _ _ _ _ _ _ _ (.slice (some ⟨gq, 0, none⟩) (k + 1) cap) ⟨xd, xdc, xe, xec⟩ S' _ ?_ (hS'.set (b := b1 + 1) (i := 6) hB2 (.slice (some ⟨gq, 0, none⟩) (k + 1) cap)) HS4.out ?_
      · rw [List.flatMap_append, List.flatMap_singleton]; exact ownsRow_setCell_below (a := ⟨b1 + 1, 6, none⟩) HOW.out hB2 _
      · have := HGR.out.size
        simp at this ⊢
        omega
    · go_simp
      refine hK.out _ _ (HSO.out _ _ HSA.out) (fun _ => ?_)
      clear hK K
      refine wpAnyH_ready (rs := [1]) (by kernel_rfl) (by simp) ?_
      refine AllReadyH.cons rfl (fun K hK => ?_) AllReadyH.nil
      go_simp
      refine hK.out _ _ (HSO.out _ _ HSA.out) (fun _ => ?_)
      clear hK K
      refine wpAnyH_ready (rs := [12]) (by kernel_rfl) (by simp) ?_
      refine AllReadyH.cons rfl (fun K hK => ?_) AllReadyH.nil
      refine step_append_lies _ (by rfl) _ _ 32 (by rfl) B 31 i0 (.agg #[.int .i64 0, .int .i64 0, .int .i64 0, .int .i64 0, .int .i64 0, .int .i64 0, .int .i64 0, .string ⟨#[]⟩, .bool false, .slice none 0 0, .int .i64 0, .int .i64 0, .int .i64 0, .int .i64 0, .int .i64 0, .int .i64 0, .string ⟨#[]⟩, .slice none 0 0]) 18 192 Tryd.underlying32 hi hz0 hz1 hz2 rfl (by decide) V k _ (by rfl) (by exact HO2.out.alloc _) ⟨w2.heap.size, 0, none⟩ 1 1 [.int .i64 kind, .int .i64 nt, .int .i64 nr, .int .i64 ni, .int .i64 pt, .int .i64 pr, .int .i64 pi, .string name, .bool dir, .slice xd dots.length xdc, .int .i64 at_, .int .i64 ar, .int .i64 ai, .int .i64 et, .int .i64 er, .int .i64 ei, .string text, .slice xe elems.length xec] (by rfl) rfl (by exact cellsN _ _ _) (by exact oc_of (c := #[.int .i64 kind, .int .i64 nt, .int .i64 nr, .int .i64 ni, .int .i64 pt, .int .i64 pr, .int .i64 pi, .string name, .bool dir, .slice xd dots.length xdc, .int .i64 at_, .int .i64 ar, .int .i64 ai, .int .i64 et, .int .i64 er, .int .i64 ei, .string text, .slice xe elems.length xec]) rfl) (by decide) (by unfold maxLen; omega) (by omega) (by simp; omega) (w2.heap.size + 1) (by simp) ?_
      intro gq cap w3 hown1 hgrow hat hlt3
      have HS3 := Lib.hid (HSA.out.gby hgrow (fun g e => by have := HBO.out g e; omega))
      have fz := HS3.out.frz 6
      have d6 : w3.cell? ⟨b1 + 1, 6, none⟩ = some V := by rw [cell_of_row _ _ _ _ _ _ HS3.out.bh]; rfl
      have HOW := Lib.hid hown1
      have HGR := Lib.hid hgrow
      have HAT := Lib.hid hat
      clear hown1 hgrow hat
      refine hK.out _ _ (HSO.out _ _ HS3.out) (fun _ => ?_)
      clear hK K
      go_simp
      refine wpAnyH_take (i := 13) (v := .pointer (some ⟨b1 + 1, 6, none⟩)) rfl (by kernel_rfl) (by kernel_rfl) (by kernel_rfl) (fun c a W => hP c a _ W) (Or.inl ⟨by rfl, fun W' _ => by go_simp⟩) (HSO.out _ _ HS3.out) ?_
      go_simp
      refine wpAnyH_ready (rs := [14]) (by kernel_rfl) (by simp) ?_
      refine AllReadyH.cons rfl (fun K hK => ?_) AllReadyH.nil
      go_simp
      have HS4 := Lib.hid (show St8 w b1 #[.int .i64 t, .int .i64 r, .int .i64 n, .slice dA v.length dc, .int .i64 ut, .int .i64 ur, .slice (some ⟨ob, oo, none⟩) ops.length oc] #[.int .i64 lt, .int .i64 r] #[.int .i64 lt, .int .i64 r, .int .i64 n, .slice dA v.length dc, .int .i64 ut, .int .i64 ur, .slice (some ⟨gq, 0, none⟩) (k + 1) cap] (w3.setCell ⟨b1 + 1, 6, none⟩ (.slice (some ⟨gq, 0, none⟩) (k + 1) cap)) from HS3.out.put 6 (.slice (some ⟨gq, 0, none⟩) (k + 1) cap))
      refine hK.out _ _ (HSO.out _ _ HS4.out) (fun _ => ?_)
      clear hK K
      refine wpAnyH_done (by kernel_rfl) ?_ _
      go_simp
      obtain ⟨S', hS'⟩ := OpsAt.next (v' := .slice (some ⟨gq, 0, none⟩) (k + 1) cap) HP.out hszB (show b1 < B by omega) HBL.out HG2.out HIN.out HNT.out.1 HNT.out.2 HGR.out (HAT.out.imp (fun h => h.symm) (fun h => by rw [h]; simp; rfl))
      refine hq _ _ _ _ _ _ _ _ _ _ _ _ _ _ (.slice (some ⟨gq, 0, none⟩) (k + 1) cap) ⟨xd, xdc, xe, xec⟩ S' _ ?_ (hS'.set (b := b1 + 1) (i := 6) hB2 (.slice (some ⟨gq, 0, none⟩) (k + 1) cap)) HS4.out ?_
      · rw [List.flatMap_append, List.flatMap_singleton]; exact ownsRow_setCell_below (a := ⟨b1 + 1, 6, none⟩) HOW.out hB2 _
      · have := HGR.out.size
        simp at this ⊢
        omega
theorem take_ops (a b : Gst) (l : List Gop) (k : Nat) (h : k < l.length) : (l.take (k + 1)).map (shiftO a b) = (l.take k).map (shiftO a b) ++ [shiftO a b (l.getD k (opO 0 .zero))] := by
  rw [List.take_succ_eq_append_getElem h, List.map_append]
  have : l.getD k (opO 0 .zero) = l[k] := by rw [List.getD_eq_getElem?_getD, List.getElem?_eq_getElem h]; rfl
  rw [this]; simp
set_option maxRecDepth 100000 in
set_option maxHeartbeats 16000000 in
theorem stamps_any (g : Grp) (dA oA : Option Addr) (dc oc : Nat) (more : Int) (w : World) (hI : GrIn w (Here w) g dA dc oA oc) (hT1 : ∀ o ∈ g.ops, o.text.size < 9223372036854775807) (wm : (Lit.int .i64 more).wf = true) (hTb : Tabs w) :
    Calls Tryd.prog 7 #[.agg (grA g dA dc oA oc), .int .i64 more] w fun e w' => e = .returned (.bool true) ∧ Below w.heap.size w w' := by
  obtain ⟨fw, hfw⟩ : ∃ b, b = fewG g := ⟨_, rfl⟩
  obtain ⟨ck, hck⟩ : ∃ b, b = chkB g := ⟨_, rfl⟩
  have HFW := Lib.hid hfw
  have HCK := Lib.hid hck
  have HTB := Lib.hid hTb
  have hAW : ∀ W, Below w.heap.size w W → Calls Tryd.prog 17 #[] W fun e w' => e = .returned (.bool true) ∧ Below W.heap.size W w' := fun W hB => awake8_any W (hTb.below hB)
  have hFE : ∀ W, Below w.heap.size w W → Calls Tryd.prog 18 #[.agg (grA g dA dc oA oc)] W fun e w' => e = .returned (.bool fw) ∧ Below W.heap.size W w' := fun W hB => by
    rw [hfw]; exact few_any g dA oA dc oc (Here w) W (hI.agr (Agr.below hB))
  have hCH : ∀ W, Below w.heap.size w W → Calls Tryd.prog 22 #[.agg (grA g dA dc oA oc)] W fun e w' => e = .returned (.int .i64 (if ck = true then 0 else 80)) ∧ Below W.heap.size W w' := fun W hB => by
    rw [hck]; exact check_any g dA dc oA oc (Here w) W (hI.agr (Agr.below hB)) hT1 (hTb.below hB)
  obtain ⟨m1, e1, l1⟩ := and_low9 more 1023 (by decide)
  replace e1 : bits .and .i64 more 1023 = (m1 : Int) := e1
  have HI := Lib.hid hI
  obtain ⟨⟨t, r⟩, n, v, ⟨ut, ur⟩, ops⟩ := g
  show Calls _ _ #[.agg #[.int .i64 t, .int .i64 r, .int .i64 n, .slice dA v.length dc, .int .i64 ut, .int .i64 ur, .slice oA ops.length oc], .int .i64 more] _ _
  have HAW := Lib.hid hAW
  have HFE : Hid (∀ W, Below w.heap.size w W → Calls Tryd.prog 18 #[.agg #[.int .i64 t, .int .i64 r, .int .i64 n, .slice dA v.length dc, .int .i64 ut, .int .i64 ur, .slice oA ops.length oc]] W fun e w' => e = .returned (.bool fw) ∧ Below W.heap.size W w') := Lib.hid (hFE)
  have HCH : Hid (∀ W, Below w.heap.size w W → Calls Tryd.prog 22 #[.agg #[.int .i64 t, .int .i64 r, .int .i64 n, .slice dA v.length dc, .int .i64 ut, .int .i64 ur, .slice oA ops.length oc]] W fun e w' => e = .returned (.int .i64 (if ck = true then 0 else 80)) ∧ Below W.heap.size W w') := Lib.hid (hCH)
  clear hfw hck hTb hAW hFE hCH hI hT1 wm
  have HB0 := Lib.hid (show Below w.heap.size w (w.alloc (.cells #[.int .i64 t, .int .i64 r, .int .i64 n, .slice dA v.length dc, .int .i64 ut, .int .i64 ur, .slice oA ops.length oc] 34)) from (Below.refl _ _).alloc (Nat.le_refl _) _)
  go_enter Tryd.func7, Tryd.ntmps7
  go_wp2_with fail
  refine (HAW.out _ HB0.out).mono ?_
  rintro e w1 ⟨rfl, hB1⟩
  have hG1 := (hB1.block w.heap.size (by simp)).trans (heap_alloc_new w (.cells #[.int .i64 t, .int .i64 r, .int .i64 n, .slice dA v.length dc, .int .i64 ut, .int .i64 ur, .slice oA ops.length oc] 34))
  have HG1 := Lib.hid hG1
  have HB1 := Lib.hid (HB0.out.trans (hB1.mono (by simp)))
  clear hB1
  go_upto_region 4 with fail
  have x0 := cell_regrown (w := w1) (a := ⟨w.heap.size, 0, none⟩) (v := .int .i64 t) (by rw [cell_of_row _ _ _ _ _ _ hG1]; rfl)
  have x1 := cell_regrown (w := w1) (a := ⟨w.heap.size, 1, none⟩) (v := .int .i64 r) (by rw [cell_of_row _ _ _ _ _ _ hG1]; rfl)
  have x2 := cell_regrown (w := w1) (a := ⟨w.heap.size, 2, none⟩) (v := .int .i64 n) (by rw [cell_of_row _ _ _ _ _ _ hG1]; rfl)
  have x3 := cell_regrown (w := w1) (a := ⟨w.heap.size, 3, none⟩) (v := .slice dA v.length dc) (by rw [cell_of_row _ _ _ _ _ _ hG1]; rfl)
  have x4 := cell_regrown (w := w1) (a := ⟨w.heap.size, 4, none⟩) (v := .int .i64 ut) (by rw [cell_of_row _ _ _ _ _ _ hG1]; rfl)
  have x5 := cell_regrown (w := w1) (a := ⟨w.heap.size, 5, none⟩) (v := .int .i64 ur) (by rw [cell_of_row _ _ _ _ _ _ hG1]; rfl)
  have x6 := cell_regrown (w := w1) (a := ⟨w.heap.size, 6, none⟩) (v := .slice oA ops.length oc) (by rw [cell_of_row _ _ _ _ _ _ hG1]; rfl)
  have cF : ∀ d1 os, Calls Tryd.prog 18 #[.agg #[.int .i64 t, .int .i64 r, .int .i64 n, .slice dA v.length dc, .int .i64 ut, .int .i64 ur, .slice oA ops.length oc]] (grow (redrawn w1 d1) os) fun e w'' => e = .returned (.bool fw) ∧ ∃ p : Regrown, w'' = grow (redrawn w1 p.d) p.os := fun d1 os => Calls.regrown_of (HFE.out (grow (redrawn w1 d1) os) (below_grow HB1.out HB1.out.size d1 os))
  have cK : ∀ d1 os, Calls Tryd.prog 22 #[.agg #[.int .i64 t, .int .i64 r, .int .i64 n, .slice dA v.length dc, .int .i64 ut, .int .i64 ur, .slice oA ops.length oc]] (grow (redrawn w1 d1) os) fun e w'' => e = .returned (.int .i64 (if ck = true then 0 else 80)) ∧ ∃ p : Regrown, w'' = grow (redrawn w1 p.d) p.os := fun d1 os => Calls.regrown_of (HCH.out (grow (redrawn w1 d1) os) (below_grow HB1.out HB1.out.size d1 os))
  clear hG1
  cases fw with
  | false =>
    clear e1 cK
    refine wp_plain_quiet_below ?_
    repeat (any_goals (first | go_big_quiet_step (with_reducible exact cF _ _) | quiet_step (with_reducible exact cF _ _)))
    refine wpQuiet_nil ?_
    intro _ hw'
    obtain ⟨⟨dq, osq⟩, hw''⟩ := hw'
    subst hw''
    have hBq := below_regrown w1 dq osq
    generalize grow (redrawn w1 dq) osq = wq at *
    have HBQ := Lib.hid hBq
    clear hBq
    go_wp2
    go_ret
    exact ⟨rfl, HB1.out.trans (HBQ.out.mono HB1.out.size)⟩
  | true =>
  cases ck with
  | false =>
    replace cK : ∀ d1 os, Calls Tryd.prog 22 #[.agg #[.int .i64 t, .int .i64 r, .int .i64 n, .slice dA v.length dc, .int .i64 ut, .int .i64 ur, .slice oA ops.length oc]] (grow (redrawn w1 d1) os) fun e w'' => e = .returned (.int .i64 80) ∧ ∃ p : Regrown, w'' = grow (redrawn w1 p.d) p.os := cK
    clear e1
    refine wp_plain_quiet_below ?_
    repeat (any_goals (first | go_big_quiet_step (first | with_reducible exact cF _ _ | with_reducible exact cK _ _) | quiet_step (first | with_reducible exact cF _ _ | with_reducible exact cK _ _)))
    refine wpQuiet_nil ?_
    intro _ hw'
    obtain ⟨⟨dq, osq⟩, hw''⟩ := hw'
    subst hw''
    have hBq := below_regrown w1 dq osq
    generalize grow (redrawn w1 dq) osq = wq at *
    have HBQ := Lib.hid hBq
    clear hBq
    go_wp2
    go_ret
    exact ⟨rfl, HB1.out.trans (HBQ.out.mono HB1.out.size)⟩
  | true =>
  replace cK : ∀ d1 os, Calls Tryd.prog 22 #[.agg #[.int .i64 t, .int .i64 r, .int .i64 n, .slice dA v.length dc, .int .i64 ut, .int .i64 ur, .slice oA ops.length oc]] (grow (redrawn w1 d1) os) fun e w'' => e = .returned (.int .i64 0) ∧ ∃ p : Regrown, w'' = grow (redrawn w1 p.d) p.os := cK
  refine wp_plain_quiet_below ?_
  repeat (any_goals (first | go_big_quiet_step (first | with_reducible exact cF _ _ | with_reducible exact cK _ _) | quiet_step (first | with_reducible exact cF _ _ | with_reducible exact cK _ _)))
  refine wpQuiet_nil ?_
  intro _ hw'
  obtain ⟨⟨dq, osq⟩, hw''⟩ := hw'
  subst hw''
  have hBq := below_regrown w1 dq osq
  generalize grow (redrawn w1 dq) osq = wq at *
  have hG2 := (hBq.block w.heap.size (lt_of_block HG1.out)).trans HG1.out
  have HG2 := Lib.hid hG2
  have HB2 := Lib.hid (HB1.out.trans (hBq.mono HB1.out.size))
  clear hBq cF cK x0 x1 x2 x3 x4 x5 x6
  have hrt := (chk_right HCK.out.symm).1
  simp only [Gst.right, Bool.and_eq_true, decide_eq_true_eq] at hrt
  obtain ⟨⟨⟨t1, t2⟩, t3⟩, t4⟩ := hrt
  obtain ⟨s1, s2, s3⟩ := chk_sho HCK.out.symm
  obtain ⟨s4, s5⟩ := fewG_text HFW.out.symm s1
  simp only at s4 s5 s1 s2 s3
  have HS5 := Lib.hid (And.intro s5 s3)
  clear s5 s3 s2 s1
  have c0 : wq.cell? ⟨w.heap.size, 0, none⟩ = some (.int .i64 t) := by rw [cell_of_row _ _ _ _ _ _ hG2]; rfl
  have c1 : wq.cell? ⟨w.heap.size, 1, none⟩ = some (.int .i64 r) := by rw [cell_of_row _ _ _ _ _ _ hG2]; rfl
  clear hG2
  obtain ⟨lt, hlt0⟩ : ∃ lt : Int, lt = t + 1 + (m1 : Int) := ⟨_, rfl⟩
  have l2 : t < lt := by omega
  have l3 : lt ≤ 2199023255552 := by omega
  have HLT := Lib.hid hlt0
  have q1 : IntKind.i64.wrap (t + 1) = t + 1 := IntWalk.i64_in _ (by omega)
  have q2 : IntKind.i64.wrap (t + 1 + (m1 : Int)) = lt := by rw [hlt0]; exact IntWalk.i64_in _ (by omega)
  clear hlt0
  go_upto_region 7 with fail
  clear q1 q2 e1 c0 c1
  by_cases hmx : 1099511627776 < lt
  · go_wp2
    go_ret
    exact ⟨rfl, HB2.out.alloc HB2.out.size _⟩
  · have l4 : ¬ 1099511627776 < lt := hmx
    have l5 : lt ≤ 1099511627776 := by omega
    have l6 : decide (1099511627776 < lt) = false := decide_eq_false hmx
    clear hmx
    have HGA := Lib.hid ((Below.heap_alloc wq (.cells #[.int .i64 lt, .int .i64 r] 25) _ (lt_of_block HG2.out)).trans HG2.out)
    go_wp2_with (first | (refine load_at rfl _ _ rfl w.heap.size _ _ _ rfl HGA.out Tryd.underlying34 rfl ?_ ?_; kernel_rfl))
    obtain ⟨V0, hV0⟩ : ∃ V0, V0 = (wq.alloc (.cells #[.int .i64 lt, .int .i64 r] 25)).alloc (.cells #[.int .i64 lt, .int .i64 r, .int .i64 n, .slice dA v.length dc, .int .i64 ut, .int .i64 ur, .slice none 0 0] 34) := ⟨_, rfl⟩
    have hS0 : St8 w wq.heap.size #[.int .i64 t, .int .i64 r, .int .i64 n, .slice dA v.length dc, .int .i64 ut, .int .i64 ur, .slice oA ops.length oc] #[.int .i64 lt, .int .i64 r] #[.int .i64 lt, .int .i64 r, .int .i64 n, .slice dA v.length dc, .int .i64 ut, .int .i64 ur, .slice none 0 0] V0 := by
      rw [hV0]
      exact ⟨(Below.heap_alloc _ _ _ (by have := lt_of_block HG2.out; simp; omega)).trans HGA.out, (Below.heap_alloc _ _ _ (by simp)).trans (heap_alloc_new _ _), heap_alloc_newS _ _ (by simp), (HB2.out.alloc HB2.out.size _).alloc (by have := HB2.out.size; simp; omega) _, lt_of_block HG2.out⟩
    have HS0 := Lib.hid hS0
    have hsz0 : V0.heap.size = wq.heap.size + 2 := by rw [hV0]; simp
    rw [← hV0]
    obtain ⟨b1, hb1⟩ : ∃ b, b = wq.heap.size := ⟨_, rfl⟩
    rw [← hb1] at HS0 ⊢
    obtain ⟨B, hB⟩ : ∃ B, B = V0.heap.size := ⟨_, rfl⟩
    have hB2 : b1 + 1 < B := by omega
    have hlb := HS0.out.lt
    have HBQ := Lib.hid hB
    clear hV0 hS0 hsz0 hb1 hB HGA HG2 HB2 HG1 HB1 HB0
    obtain ⟨X, hX1, hX2⟩ := HI.out.ops
    have HX1 := Lib.hid hX1
    have HX2 := Lib.hid hX2
    obtain ⟨i0, hi, hz0, hz1, hz2⟩ := info_parts infoOp
    clear hX1 hX2
    simp only at HX1 HX2
    go_loopw [8] (fun i wr => ∃ (k : Nat) (V : Value) (L : List (Gop × OpX)) (S : Nat → Prop), i = .int .i64 k ∧ k ≤ ops.length ∧ wr.ownsRow B 31 18 V k (L.flatMap opC_) ∧ Hid (L.map Prod.fst = (ops.take k).map (shiftO ⟨t, r⟩ ⟨lt, r⟩)) ∧ Hid (OpsAt B V L S wr) ∧ Hid (St8 w b1 #[.int .i64 t, .int .i64 r, .int .i64 n, .slice dA v.length dc, .int .i64 ut, .int .i64 ur, .slice oA ops.length oc] #[.int .i64 lt, .int .i64 r] #[.int .i64 lt, .int .i64 r, .int .i64 n, .slice dA v.length dc, .int .i64 ut, .int .i64 ur, V] wr) ∧ B ≤ wr.heap.size) (fun i _ => ops.length - (RowKit.intOf i).toNat)
    case atStart => exact ⟨0, .slice none 0 0, [], fun _ => False, rfl, Nat.zero_le _, ⟨rfl, .inl ⟨rfl, rfl⟩⟩, Lib.hid rfl, Lib.hid ⟨fun p hp => (by cases hp), fun k hk => hk.elim⟩, HS0, by rw [HBQ.out]; exact Nat.le_refl _⟩
    case round =>
      obtain ⟨k, V, L, S, rfl, hk, hO, HL, HP, HS, hszB⟩ := hrel
      have e6 : wr.cell? ⟨w.heap.size, 6, none⟩ = some (.slice oA ops.length oc) := by rw [cell_of_row _ _ _ _ _ _ HS.out.bg]; rfl
      by_cases hlt : k < ops.length
      · obtain ⟨ob, oo, hoA, -, hol, hc⟩ := HX1.out k hlt
        have hin := HX2.out k hlt
        have hmem : ops.getD k (opO 0 .zero) ∈ ops := by rw [List.getD_eq_getElem?_getD, List.getElem?_eq_getElem hlt]; exact List.getElem_mem hlt
        have HTK := Lib.hid (take_ops ⟨t, r⟩ ⟨lt, r⟩ ops k hlt)
        obtain ⟨o1, ho1⟩ : ∃ o, o = ops.getD k (opO 0 .zero) := ⟨_, rfl⟩
        obtain ⟨x1, hx1⟩ : ∃ x, x = X k := ⟨_, rfl⟩
        rw [← ho1] at hmem
        have HHO := Lib.hid ho1
        simp only [← ho1, ← hx1] at hc hin
        obtain ⟨o2, hoo⟩ : ∃ o, o = shiftO ⟨t, r⟩ ⟨lt, r⟩ o1 := ⟨_, rfl⟩
        have hsh := (HS5.out.2 o1 hmem)
        have hCA : ∀ W, Below w.heap.size w W → Calls Tryd.prog 23 #[.agg (opA o1 x1), .agg #[.int .i64 t, .int .i64 r], .agg #[.int .i64 lt, .int .i64 r]] W (ShQ o2 W) := fun W hB => by
          rw [hoo]; exact shifted_any o1 x1 ⟨t, r⟩ ⟨lt, r⟩ _ W (hin.agr (Agr.below hB)) (by have := hsh.dots; omega) (by have := hsh.elems; omega)
        have hnt : o2.name.size ≤ 1000000 ∧ o2.text.size ≤ 1000000 := by
          have := HS5.out.1 o1 hmem
          rw [hoo]; show o1.name.size ≤ 1000000 ∧ o1.text.size ≤ 1000000
          omega
        have HNT := Lib.hid hnt
        have HOO := Lib.hid hoo
        subst hoA
        clear hnt hsh hin hmem hx1 hoo ho1
        have hr1 := op_range hc
        have hl1 : (opL o1 x1).length = 18 := rfl
        have HCA : Hid (∀ W, Below w.heap.size w W → Calls Tryd.prog 23 #[.agg (opL o1 x1).toArray, .agg #[.int .i64 t, .int .i64 r], .agg #[.int .i64 lt, .int .i64 r]] W (ShQ o2 W)) := Lib.hid hCA
        clear hCA hc
        generalize opL o1 x1 = k1 at *
        have HR1 := Lib.hid hr1
        have HO1 := Lib.hid hO
        clear hr1 hO
        go_upto_region 15 with fail
        refine st_region w wr b1 B k t r lt n ut ur v dA dc oc ops ob oo V L S k1 o2 hB2 hszB hlt s4 HS HO1 HP HR1 hol hl1 HCA HNT (fun _ _ _ _ h => h) ?_
        intro u47 u48 u49 u50 u51 u52 u53 u54 u55 u56 u57 u58 u59 u60 V' x S' W hW1 hW2 hW3 hW4
        have HRW := Lib.hid hW1
        have HPP := Lib.hid hW2
        have HSW := Lib.hid hW3
        have HLL := Lib.hid (show (L ++ [(o2, x)]).map Prod.fst = (ops.take (k + 1)).map (shiftO ⟨t, r⟩ ⟨lt, r⟩) by rw [HTK.out, ← HHO.out, ← HOO.out, List.map_append, HL.out]; rfl)
        clear hW1 hW2 hW3
        go_wp2
        go_roundw
        case rel => exact ⟨k + 1, V', L ++ [(o2, x)], S', by go_num, by omega, HRW.out, HLL, HPP, HSW, hW4⟩
        case measure => simp [RowKit.intOf]; omega
      · obtain rfl : k = ops.length := by omega
        obtain ⟨A, ac, rfl⟩ := row_slice hO
        have hll : (L.map Prod.fst).length = ops.length := by rw [HL.out, List.length_map, List.take_length]
        have hLM : L.map Prod.fst = ops.map (shiftO ⟨t, r⟩ ⟨lt, r⟩) := by rw [HL.out, List.take_length]
        have hOO := ops_own (A := A) (c := ac) (B := B) (by rw [hll]; exact hO) HP.out.good (fun q hq => (HP.out.old q hq).1)
        rw [hLM] at hOO
        have hcap := own_cap hO
        have hGI : GrIn wr (fun _ => True) ⟨⟨lt, r⟩, n, v, ⟨ut, ur⟩, ops.map (shiftO ⟨t, r⟩ ⟨lt, r⟩)⟩ dA dc A ac :=
          ⟨(RowG.agr HI.out.deps (Agr.below HS.out.bel)).sub (fun _ _ _ => trivial), hOO.sub (fun _ _ _ => trivial), HI.out.dle, by show (ops.map _).length ≤ ac; rw [List.length_map]; exact hcap.1, HI.out.dmax, hcap.2, HI.out.nin, HI.out.din⟩
        have HGI := Lib.hid hGI
        have hck2 : chkB (⟨⟨lt, r⟩, n, v, ⟨ut, ur⟩, ops.map (shiftO ⟨t, r⟩ ⟨lt, r⟩)⟩ : Grp) = true := chk_later (g := ⟨⟨t, r⟩, n, v, ⟨ut, ur⟩, ops⟩) (b := ⟨lt, r⟩) HCK.out.symm l2 l5 rfl
        have HC2 := Lib.hid hck2
        have hCX : ∀ W, Below wr.heap.size wr W → Calls Tryd.prog 22 #[.agg #[.int .i64 lt, .int .i64 r, .int .i64 n, .slice dA v.length dc, .int .i64 ut, .int .i64 ur, .slice A ops.length ac]] W fun e w' => e = .returned (.int .i64 0) ∧ Below W.heap.size W w' := fun W hB => by
          have := check_any ⟨⟨lt, r⟩, n, v, ⟨ut, ur⟩, ops.map (shiftO ⟨t, r⟩ ⟨lt, r⟩)⟩ dA dc A ac _ W (HGI.out.agr (Agr.below hB)) (fun o ho => by
            obtain ⟨o1, h1, rfl⟩ := List.mem_map.1 ho
            have := (HS5.out.1 o1 h1).1
            show o1.text.size < _
            omega) ((HTB.out.below HS.out.bel).below hB)
          rw [HC2.out] at this
          have e : grA ⟨⟨lt, r⟩, n, v, ⟨ut, ur⟩, ops.map (shiftO ⟨t, r⟩ ⟨lt, r⟩)⟩ dA dc A ac = #[.int .i64 lt, .int .i64 r, .int .i64 n, .slice dA v.length dc, .int .i64 ut, .int .i64 ur, .slice A ops.length ac] := by unfold grA; simp only [List.length_map]
          rw [e] at this
          exact this
        have HCX := Lib.hid hCX
        clear hO hll hLM hOO hcap hGI hck2 hCX
        have hbh := HS.out.bh
        go_upto_region 16 with fail
        have z0 := cell_regrown (w := wr) (a := ⟨b1 + 1, 0, none⟩) (v := .int .i64 lt) (by rw [cell_of_row _ _ _ _ _ _ hbh]; rfl)
        have z1 := cell_regrown (w := wr) (a := ⟨b1 + 1, 1, none⟩) (v := .int .i64 r) (by rw [cell_of_row _ _ _ _ _ _ hbh]; rfl)
        have z2 := cell_regrown (w := wr) (a := ⟨b1 + 1, 2, none⟩) (v := .int .i64 n) (by rw [cell_of_row _ _ _ _ _ _ hbh]; rfl)
        have z3 := cell_regrown (w := wr) (a := ⟨b1 + 1, 3, none⟩) (v := .slice dA v.length dc) (by rw [cell_of_row _ _ _ _ _ _ hbh]; rfl)
        have z4 := cell_regrown (w := wr) (a := ⟨b1 + 1, 4, none⟩) (v := .int .i64 ut) (by rw [cell_of_row _ _ _ _ _ _ hbh]; rfl)
        have z5 := cell_regrown (w := wr) (a := ⟨b1 + 1, 5, none⟩) (v := .int .i64 ur) (by rw [cell_of_row _ _ _ _ _ _ hbh]; rfl)
        have z6 := cell_regrown (w := wr) (a := ⟨b1 + 1, 6, none⟩) (v := .slice A ops.length ac) (by rw [cell_of_row _ _ _ _ _ _ hbh]; rfl)
        have cK : ∀ d1 os, Calls Tryd.prog 22 #[.agg #[.int .i64 lt, .int .i64 r, .int .i64 n, .slice dA v.length dc, .int .i64 ut, .int .i64 ur, .slice A ops.length ac]] (grow (redrawn wr d1) os) fun e w'' => e = .returned (.int .i64 0) ∧ ∃ p : Regrown, w'' = grow (redrawn wr p.d) p.os := fun d1 os => Calls.regrown_of (HCX.out (grow (redrawn wr d1) os) (below_regrown wr d1 os))
        clear hbh e6
        refine wp_plain_quiet_below ?_
        repeat (any_goals (first | go_big_quiet_step (with_reducible exact cK _ _) | quiet_step (with_reducible exact cK _ _)))
        refine wpQuiet_nil ?_
        intro _ hw'
        obtain ⟨⟨dq, osq⟩, hw''⟩ := hw'
        subst hw''
        have hBq := below_regrown wr dq osq
        generalize grow (redrawn wr dq) osq = wq at *
        have HBQ2 := Lib.hid hBq
        clear hBq
        go_wp2
        go_ret
        exact ⟨rfl, HS.out.bel.trans (HBQ2.out.mono HS.out.bel.size)⟩
end Go.Proofs.YtooaodgamakoeaaDoor
