/- What Record of journal and of its reference computes, and the records of a list. Conditions: lengths in reach; the tables of utf8. -/
import Derived.Test.YtalgbcgiiphoaaaGreatDoorJrnP
import Derived.Test.YtalgbcgiiphoaaaGreatDoorRefEnc
import Derived.Test.YtalgbcgiiphoaaaGreatDoorFew21
namespace Go.Proofs.YtalgbcgiiphoaaaGreatDoor
open Go.RowKit Go.Lib Go.Sort
set_option linter.unusedVariables false
attribute [local go_sem ↓] Go.wp_at_zero Go.wp_at_succ
theorem encV_yes {g : Grp} (h : chkB g = true) : encV g = .tuple #[.string (grpS g), .int .i64 0] := by unfold encV; rw [if_pos h]; rfl
theorem encV_nix {g : Grp} (h : chkB g = false) : encV g = .tuple #[.string ⟨#[]⟩, .int .i64 80] := by unfold encV; rw [h, if_neg (by decide)]
def ofV (odd : Bool) (X : ByteArray) : ByteArray × Int := if 1048576 < X.size then (⟨#[]⟩, 2) else if odd = true then (⟨#[]⟩, 1) else (frameS Crc.tab X, 0)
def recV (odd : Bool) (g : Grp) : ByteArray × Int := if chkB g = false then (⟨#[]⟩, 80) else if 1048576 < (grpZ g).length then (⟨#[]⟩, 2) else if odd = true then (⟨#[]⟩, 1) else (frameS Crc.tab (grpS g), 0)
theorem recV_recB (g : Grp) : (recV false g).1 = recB g := by
  unfold recV recB
  cases h : chkB g with
  | false => rw [if_pos rfl, if_neg (by simp)]
  | true =>
    rw [if_neg (by decide)]
    by_cases h1 : 1048576 < (grpZ g).length
    · rw [if_pos h1, if_neg (by omega)]
    · rw [if_neg h1, if_neg (by decide), if_pos ⟨rfl, by omega⟩]
/-- a table: the right one, or one of another length -/
def TabOf (odd : Bool) (m : Nat) (A : Option Addr) (w : World) : Prop := match odd with
  | true => m ≠ 256
  | false => m = 256 ∧ TabRow w A Crc.tab
theorem TabOf.below {odd : Bool} {m : Nat} {A : Option Addr} {w w' : World} (h : TabOf odd m A w) (hB : Below w.heap.size w w') : TabOf odd m A w' := by
  cases odd with
  | true => exact h
  | false => exact ⟨h.1, h.2.go hB⟩
theorem range_below {w w' : World} {b o : Nat} {cs : List Value} (h : w.rangeAt b o cs) (hb : b < w.heap.size) (hB : Below w.heap.size w w') : w'.rangeAt b o cs := fun j v hv => (World.cell?_of_block (w := w) (w' := w') (a := ⟨b, o + j, none⟩) (hB.block b hb)).trans (h j v hv)
theorem of_v (odd : Bool) (A : Option Addr) (m cap : Nat) (X : ByteArray) (w : World) (h : TabOf odd m A w) :
    Calls Tryz.prog 32 #[.slice A m cap, .string X] w fun e w' => e = .returned (.tuple #[.string (ofV odd X).1, .int .i64 (ofV odd X).2]) ∧ Below w.heap.size w w' := by
  unfold ofV
  by_cases h1 : 1048576 < X.size
  · rw [if_pos h1]
    exact (of_long A m cap X h1 w).mono (by rintro e w' ⟨rfl, rfl⟩; exact ⟨rfl, Below.refl _ _⟩)
  · rw [if_neg h1]
    cases odd with
    | true =>
      have h : m ≠ 256 := h
      exact (of_bad A m cap h X (by omega) w).mono (by rintro e w' ⟨rfl, rfl⟩; exact ⟨rfl, Below.refl _ _⟩)
    | false =>
      obtain ⟨rfl, h2⟩ : m = 256 ∧ TabRow w A Crc.tab := h
      exact of_ok A cap Crc.tab tabIs X (by omega) w h2
theorem refof_v (odd : Bool) (A : Option Addr) (m cap : Nat) (X : ByteArray) (w : World) (h : TabOf odd m A w) :
    Calls Tryz.prog 34 #[.slice A m cap, .string X] w fun e w' => e = .returned (.tuple #[.string (ofV odd X).1, .int .i64 (ofV odd X).2]) ∧ Below w.heap.size w w' := by
  unfold ofV
  by_cases h1 : 1048576 < X.size
  · rw [if_pos h1]
    exact (refof_long A m cap X h1 w).mono (by rintro e w' ⟨rfl, rfl⟩; exact ⟨rfl, Below.refl _ _⟩)
  · rw [if_neg h1]
    cases odd with
    | true =>
      have h : m ≠ 256 := h
      exact (refof_bad A m cap h X (by omega) w).mono (by rintro e w' ⟨rfl, rfl⟩; exact ⟨rfl, Below.refl _ _⟩)
    | false =>
      obtain ⟨rfl, h2⟩ : m = 256 ∧ TabRow w A Crc.tab := h
      exact refof_ok A cap Crc.tab tabIs X (by omega) w h2
section
variable {w : World}
set_option maxRecDepth 100000 in
set_option maxHeartbeats 4000000 in
theorem record_any (odd : Bool) (A : Option Addr) (m cap : Nat) (hodd : TabOf odd m A w) (g : Grp) (dA : Option Addr) (dc : Nat) (oA : Option Addr) (oc : Nat) (S : Nat → Prop) (hI : GrIn w S g dA dc oA oc) (hT1 : ∀ o ∈ g.ops, o.text.size < 9223372036854775807) (hTx : g.ops.length ≤ 200 → ∀ o ∈ g.ops, o.text.size ≤ 1000000) (hTb : Tabs w) :
    Calls Tryz.prog 15 #[.slice A m cap, .agg (grA g dA dc oA oc)] w fun e w' => e = .returned (.tuple #[.string (recV odd g).1, .int .i64 (recV odd g).2]) ∧ Below w.heap.size w w' := by
  have hEN : ∀ W, Below w.heap.size w W → Calls Tryz.prog 31 #[.agg (grA g dA dc oA oc)] W fun e w' => e = .returned (encV g) ∧ Below W.heap.size W w' := fun W hB => encode_any g dA dc oA oc S W (hI.agr (Agr.below hB)) hT1 hTx (hTb.below hB)
  have hTO : ∀ W, Below w.heap.size w W → TabOf odd m A W := fun W hB => hodd.below hB
  obtain ⟨R, hR⟩ : ∃ R, R = recV odd g := ⟨_, rfl⟩
  rw [← hR]
  obtain ⟨⟨t, r⟩, n, u, ⟨ut, ur⟩, ops⟩ := g
  have hb0 : Below w.heap.size w (w.alloc (.cells #[.int .i64 t, .int .i64 r, .int .i64 n, .slice dA u.length dc, .int .i64 ut, .int .i64 ur, .slice oA ops.length oc] 40)) := (Below.refl _ _).alloc (Nat.le_refl _) _
  have HB := Lib.hid hb0
  have HC := Lib.hid (heap_alloc_new w (.cells #[.int .i64 t, .int .i64 r, .int .i64 n, .slice dA u.length dc, .int .i64 ut, .int .i64 ur, .slice oA ops.length oc] 40))
  show Calls _ _ #[.slice A m cap, .agg #[.int .i64 t, .int .i64 r, .int .i64 n, .slice dA u.length dc, .int .i64 ut, .int .i64 ur, .slice oA ops.length oc]] _ _
  clear hI hT1 hTx hTb hodd hb0
  cases hck : chkB ⟨⟨t, r⟩, n, u, ⟨ut, ur⟩, ops⟩ with
  | false =>
    have hR2 : R = (⟨#[]⟩, 80) := by rw [hR]; unfold recV; rw [hck, if_pos rfl]
    have HEN : Hid (∀ W, Below w.heap.size w W → Calls Tryz.prog 31 #[.agg #[.int .i64 t, .int .i64 r, .int .i64 n, .slice dA u.length dc, .int .i64 ut, .int .i64 ur, .slice oA ops.length oc]] W fun e w' => e = .returned (.tuple #[.string ⟨#[]⟩, .int .i64 80]) ∧ Below W.heap.size W w') := Lib.hid (fun W hB => by rw [← encV_nix hck]; exact hEN W hB)
    clear hR hck hEN
    subst hR2
    go_enter Tryz.func15, Tryz.ntmps15
    go_upto_region 1 with fail
    generalize hW : w.alloc (.cells #[.int .i64 t, .int .i64 r, .int .i64 n, .slice dA u.length dc, .int .i64 ut, .int .i64 ur, .slice oA ops.length oc] 40) = W at *
    clear hW
    go_wp2_with (first
      | (refine load_at rfl _ _ rfl w.heap.size _ _ _ rfl HC.out Tryz.underlying40 rfl ?_ ?_; kernel_rfl)
      | (go_at_call 31; refine (HEN.out W HB.out).mono ?_; rintro e w2 ⟨rfl, hB2⟩))
    go_ret2
    exact ⟨rfl, HB.out.trans (hB2.mono HB.out.size)⟩
  | true =>
    obtain ⟨Z, hZ⟩ : ∃ Z, Z = grpS ⟨⟨t, r⟩, n, u, ⟨ut, ur⟩, ops⟩ := ⟨_, rfl⟩
    have hzs : Z.size = (grpZ ⟨⟨t, r⟩, n, u, ⟨ut, ur⟩, ops⟩).length := by rw [hZ]; unfold grpS; rw [mkS]
    have hR2 : R = ofV odd Z := by
      rw [hR]; unfold recV ofV; rw [hck, if_neg (by decide), ← hzs, ← hZ]
    have HEN : Hid (∀ W, Below w.heap.size w W → Calls Tryz.prog 31 #[.agg #[.int .i64 t, .int .i64 r, .int .i64 n, .slice dA u.length dc, .int .i64 ut, .int .i64 ur, .slice oA ops.length oc]] W fun e w' => e = .returned (.tuple #[.string Z, .int .i64 0]) ∧ Below W.heap.size W w') := Lib.hid (fun W hB => by
      have h9 := hEN W hB
      rw [encV_yes hck] at h9
      rw [hZ]; exact h9)
    have HOF := Lib.hid (fun W (hB : Below w.heap.size w W) => of_v odd A m cap Z W (hTO W hB))
    clear hR hck hEN hZ hzs hTO
    rw [← hR2] at HOF
    obtain ⟨RB, RZ⟩ := R
    clear hR2
    go_enter Tryz.func15, Tryz.ntmps15
    go_upto_region 1 with fail
    generalize hW : w.alloc (.cells #[.int .i64 t, .int .i64 r, .int .i64 n, .slice dA u.length dc, .int .i64 ut, .int .i64 ur, .slice oA ops.length oc] 40) = W at *
    clear hW
    go_wp2_with (first
      | (refine load_at rfl _ _ rfl w.heap.size _ _ _ rfl HC.out Tryz.underlying40 rfl ?_ ?_; kernel_rfl)
      | (go_at_call 31; refine (HEN.out W HB.out).mono ?_; rintro e w2 ⟨rfl, hB2⟩; have HB2 := Lib.hid (HB.out.trans (hB2.mono HB.out.size)); clear hB2)
      | (go_at_call 32; refine (HOF.out w2 HB2.out).mono ?_; rintro e w3 ⟨rfl, hB3⟩; have HB3 := Lib.hid (HB2.out.trans (hB3.mono HB2.out.size)); clear hB3))
    go_ret2
    exact ⟨rfl, HB3.out⟩
set_option maxRecDepth 100000 in
set_option maxHeartbeats 4000000 in
theorem refrecord_any (odd : Bool) (A : Option Addr) (m cap : Nat) (hodd : TabOf odd m A w) (g : Grp) (dA : Option Addr) (dc : Nat) (oA : Option Addr) (oc : Nat) (S : Nat → Prop) (hI : GrIn w S g dA dc oA oc) (hT1 : ∀ o ∈ g.ops, o.text.size < 9223372036854775807) (hTx : g.ops.length ≤ 200 → ∀ o ∈ g.ops, o.text.size ≤ 1000000) (hTb : Tabs w) :
    Calls Tryz.prog 17 #[.slice A m cap, .agg (grA g dA dc oA oc)] w fun e w' => e = .returned (.tuple #[.string (recV odd g).1, .int .i64 (recV odd g).2]) ∧ Below w.heap.size w w' := by
  have hEN : ∀ W, Below w.heap.size w W → Calls Tryz.prog 33 #[.agg (grA g dA dc oA oc)] W fun e w' => e = .returned (encV g) ∧ Below W.heap.size W w' := fun W hB => refencode_any g dA dc oA oc S W (hI.agr (Agr.below hB)) hTx
  have hTO : ∀ W, Below w.heap.size w W → TabOf odd m A W := fun W hB => hodd.below hB
  obtain ⟨R, hR⟩ : ∃ R, R = recV odd g := ⟨_, rfl⟩
  rw [← hR]
  obtain ⟨⟨t, r⟩, n, u, ⟨ut, ur⟩, ops⟩ := g
  have hb0 : Below w.heap.size w (w.alloc (.cells #[.int .i64 t, .int .i64 r, .int .i64 n, .slice dA u.length dc, .int .i64 ut, .int .i64 ur, .slice oA ops.length oc] 40)) := (Below.refl _ _).alloc (Nat.le_refl _) _
  have HB := Lib.hid hb0
  have HC := Lib.hid (heap_alloc_new w (.cells #[.int .i64 t, .int .i64 r, .int .i64 n, .slice dA u.length dc, .int .i64 ut, .int .i64 ur, .slice oA ops.length oc] 40))
  show Calls _ _ #[.slice A m cap, .agg #[.int .i64 t, .int .i64 r, .int .i64 n, .slice dA u.length dc, .int .i64 ut, .int .i64 ur, .slice oA ops.length oc]] _ _
  clear hI hT1 hTx hTb hodd hb0
  cases hck : chkB ⟨⟨t, r⟩, n, u, ⟨ut, ur⟩, ops⟩ with
  | false =>
    have hR2 : R = (⟨#[]⟩, 80) := by rw [hR]; unfold recV; rw [hck, if_pos rfl]
    have HEN : Hid (∀ W, Below w.heap.size w W → Calls Tryz.prog 33 #[.agg #[.int .i64 t, .int .i64 r, .int .i64 n, .slice dA u.length dc, .int .i64 ut, .int .i64 ur, .slice oA ops.length oc]] W fun e w' => e = .returned (.tuple #[.string ⟨#[]⟩, .int .i64 80]) ∧ Below W.heap.size W w') := Lib.hid (fun W hB => by rw [← encV_nix hck]; exact hEN W hB)
    clear hR hck hEN
    subst hR2
    go_enter Tryz.func17, Tryz.ntmps17
    go_upto_region 1 with fail
    generalize hW : w.alloc (.cells #[.int .i64 t, .int .i64 r, .int .i64 n, .slice dA u.length dc, .int .i64 ut, .int .i64 ur, .slice oA ops.length oc] 40) = W at *
    clear hW
    go_wp2_with (first
      | (refine load_at rfl _ _ rfl w.heap.size _ _ _ rfl HC.out Tryz.underlying40 rfl ?_ ?_; kernel_rfl)
      | (go_at_call 33; refine (HEN.out W HB.out).mono ?_; rintro e w2 ⟨rfl, hB2⟩))
    go_ret2
    exact ⟨rfl, HB.out.trans (hB2.mono HB.out.size)⟩
  | true =>
    obtain ⟨Z, hZ⟩ : ∃ Z, Z = grpS ⟨⟨t, r⟩, n, u, ⟨ut, ur⟩, ops⟩ := ⟨_, rfl⟩
    have hzs : Z.size = (grpZ ⟨⟨t, r⟩, n, u, ⟨ut, ur⟩, ops⟩).length := by rw [hZ]; unfold grpS; rw [mkS]
    have hR2 : R = ofV odd Z := by
      rw [hR]; unfold recV ofV; rw [hck, if_neg (by decide), ← hzs, ← hZ]
    have HEN : Hid (∀ W, Below w.heap.size w W → Calls Tryz.prog 33 #[.agg #[.int .i64 t, .int .i64 r, .int .i64 n, .slice dA u.length dc, .int .i64 ut, .int .i64 ur, .slice oA ops.length oc]] W fun e w' => e = .returned (.tuple #[.string Z, .int .i64 0]) ∧ Below W.heap.size W w') := Lib.hid (fun W hB => by
      have h9 := hEN W hB
      rw [encV_yes hck] at h9
      rw [hZ]; exact h9)
    have HOF := Lib.hid (fun W (hB : Below w.heap.size w W) => refof_v odd A m cap Z W (hTO W hB))
    clear hR hck hEN hZ hzs hTO
    rw [← hR2] at HOF
    obtain ⟨RB, RZ⟩ := R
    clear hR2
    go_enter Tryz.func17, Tryz.ntmps17
    go_upto_region 1 with fail
    generalize hW : w.alloc (.cells #[.int .i64 t, .int .i64 r, .int .i64 n, .slice dA u.length dc, .int .i64 ut, .int .i64 ur, .slice oA ops.length oc] 40) = W at *
    clear hW
    go_wp2_with (first
      | (refine load_at rfl _ _ rfl w.heap.size _ _ _ rfl HC.out Tryz.underlying40 rfl ?_ ?_; kernel_rfl)
      | (go_at_call 33; refine (HEN.out W HB.out).mono ?_; rintro e w2 ⟨rfl, hB2⟩; have HB2 := Lib.hid (HB.out.trans (hB2.mono HB.out.size)); clear hB2)
      | (go_at_call 34; refine (HOF.out w2 HB2.out).mono ?_; rintro e w3 ⟨rfl, hB3⟩; have HB3 := Lib.hid (HB2.out.trans (hB3.mono HB2.out.size)); clear hB3))
    go_ret2
    exact ⟨rfl, HB3.out⟩
end
theorem infoInt25 : (Tryz.prog.info? 3).map (fun i => (i.zero, i.size, i.bytes)) = some (some (.int .i64 0), 1, 8) := by kernel_rfl
def endsR (l : List Grp) (k : Nat) : List Value := (List.range k).map fun i => .int .i64 ((catR (l.take (i + 1))).size : Nat)
theorem endsR_succ (l : List Grp) (k : Nat) : endsR l (k + 1) = endsR l k ++ [.int .i64 ((catR (l.take (k + 1))).size : Nat)] := by unfold endsR; rw [List.range_succ]; simp
theorem catR_take {l : List Grp} {k : Nat} (hk : k < l.length) : catR (l.take (k + 1)) = catR (l.take k) ++ recB (l.getD k gz) := by
  rw [List.take_add_one, List.getElem?_eq_getElem hk, List.getD_eq_getElem?_getD, List.getElem?_eq_getElem hk]
  exact catR_snoc _ _
theorem catR_pre (l : List Grp) (k : Nat) : (catR (l.take k)).size ≤ (catR l).size := by
  have h := congrArg ByteArray.size (catR_app (l.take k) (l.drop k))
  rw [List.take_append_drop, ByteArray.size_append] at h
  omega
theorem cell_one (W : World) (v : Value) (t : TypeId) : ∀ (j : Nat) (y : Value), ([v] : List Value)[j]? = some y → (W.alloc (.cells #[v] t)).cell? ((⟨W.heap.size, 0, none⟩ : Addr).add j) = some y := fun j y h => one_cell W v t j y h
set_option maxRecDepth 100000 in
set_option maxHeartbeats 8000000 in
theorem records_any (A : Option Addr) (c : Nat) (L : List (Grp × GrX)) (S : Nat → Prop) (w : World) (hl : L.length ≤ 1000000) (hcs : (catR (L.map Prod.fst)).size ≤ 1000000000) (hR : RowGr w A L) (hG : ∀ p ∈ L, GrG w S p) (hTx : ∀ p ∈ L, ∀ o ∈ p.1.ops, o.text.size ≤ 1000000) (hTb : Tabs w) :
    Calls Tryz.prog 9 #[.slice A L.length c] w fun e w' => ∃ v, e = .returned (.tuple #[.string (catR (L.map Prod.fst)), v]) ∧ w'.ownsRow w.heap.size 3 1 v L.length (endsR (L.map Prod.fst) L.length) ∧ Below w.heap.size w w' := by
  obtain ⟨i0, hi, hz0, hz1, hz2⟩ := info_parts infoInt25
  obtain ⟨gs, hgs⟩ : ∃ gs, gs = L.map Prod.fst := ⟨_, rfl⟩
  rw [← hgs] at hcs ⊢
  have hgl : gs.length = L.length := by rw [hgs, List.length_map]
  have HGL := Lib.hid hgl
  have HGD := Lib.hid (show ∀ k, (L.getD k gp0).1 = gs.getD k gz from fun k => by rw [getD_fst', hgs])
  have HCS := Lib.hid hcs
  have HR := Lib.hid hR
  have HG := Lib.hid hG
  have HTX := Lib.hid hTx
  have HTB := Lib.hid hTb
  clear hcs hR hG hTx hTb hgs hgl
  go_enter Tryz.func9, Tryz.ntmps9
  go_upto_region 4 with fail
  go_loopw [4, 5, 6] (fun s v i wr => ∃ (k : Nat) (B : ByteArray), k ≤ L.length ∧ i = .int .i64 k ∧ s = .string B ∧ Hid (B = catR (gs.take k)) ∧ Hid (wr.ownsRow w.heap.size 3 1 v k (endsR gs k)) ∧ Hid (Below w.heap.size w wr)) (fun _ _ i _ => L.length - (RowKit.intOf i).toNat)
  case atStart => exact ⟨0, ⟨#[]⟩, Nat.zero_le _, rfl, rfl, Lib.hid rfl, Lib.hid (World.ownsRow_nil _ _ _ _), Lib.hid (Below.refl _ _)⟩
  case round =>
    obtain ⟨k, B, hk, rfl, rfl, HBK, HO, HBr⟩ := hrel
    by_cases hlt : k < L.length
    · have i1 : (0 : Int) ≤ (k : Int) := by omega
      have i2 : (k : Int) < (L.length : Int) := by omega
      obtain ⟨rb, ro, rfl, hrb, hrange⟩ := RowGr.range (RowGr.below HR.out HBr.out) hlt
      have hmem : L.getD k gp0 ∈ L := by rw [List.getD_eq_getElem?_getD, List.getElem?_eq_getElem hlt]; exact List.getElem_mem hlt
      have hgg : GrG wr S (L.getD k gp0) := (HG.out _ hmem).agr (Agr.below HBr.out)
      have htx := HTX.out _ hmem
      have hee := HGD.out k
      have hct := catR_take (l := gs) (k := k) (by rw [HGL.out]; exact hlt)
      have hel := endsR_succ gs k
      have hpr := catR_pre gs (k + 1)
      have hcs := HCS.out
      obtain ⟨X, hX⟩ : ∃ X, X = recB (gs.getD k gz) := ⟨_, rfl⟩
      obtain ⟨z, hz⟩ : ∃ z, z = (recV false (gs.getD k gz)).2 := ⟨_, rfl⟩
      have hrv : recV false (gs.getD k gz) = (X, z) := by rw [hX, hz, ← recV_recB]
      rw [← hX, ← HBK.out] at hct
      rw [hct] at hpr hel
      rw [ByteArray.size_append] at hpr
      generalize L.getD k gp0 = p at *
      obtain ⟨⟨⟨t, r⟩, n, u, ⟨ut, ur⟩, ops⟩, ⟨dA, dc, oA, oc⟩⟩ := p
      have HRC := Lib.hid (fun W (hB : Below wr.heap.size wr W) (TA : Option Addr) (tc : Nat) (hT : TabOf false 256 TA W) => show Calls Tryz.prog 15 #[.slice TA 256 tc, .agg #[.int .i64 t, .int .i64 r, .int .i64 n, .slice dA u.length dc, .int .i64 ut, .int .i64 ur, .slice oA ops.length oc]] W fun e w' => e = .returned (.tuple #[.string X, .int .i64 z]) ∧ Below W.heap.size W w' from by
        have h9 := record_any (w := W) false TA 256 tc hT ⟨⟨t, r⟩, n, u, ⟨ut, ur⟩, ops⟩ dA dc oA oc S (GrIn.agr hgg (Agr.below hB)) (fun o ho => by have := htx o ho; omega) (fun _ => htx) (HTB.out.below (HBr.out.trans (hB.mono HBr.out.size)))
        rw [show (⟨⟨t, r⟩, n, u, ⟨ut, ur⟩, ops⟩ : Grp) = gs.getD k gz from hee, hrv] at h9
        rw [← hee] at h9
        exact h9)
      have HRG := Lib.hid (show wr.rangeAt rb (ro + k * 7) [.int .i64 t, .int .i64 r, .int .i64 n, .slice dA u.length dc, .int .i64 ut, .int .i64 ur, .slice oA ops.length oc] from hrange)
      have HCT := Lib.hid hct
      have HEL := Lib.hid hel
      have hcc : ¬ maxLen < B.size + X.size := by unfold maxLen; omega
      have hsum : B.size + X.size ≤ 1000000000 := by omega
      clear hct hel hpr hcs hX hz hrv hgg htx hee hrange hmem
      go_upto_region 6 with fail

      refine wp_region_held (S := fun w' => w'.rangeAt rb (ro + k * 7) [.int .i64 t, .int .i64 r, .int .i64 n, .slice dA u.length dc, .int .i64 ut, .int .i64 ur, .slice oA ops.length oc]) (by kernel_rfl) ?_
      try (change wpAnyH _ _ _ _ _ _ _ _ (World.drew _))
      refine wpAnyH_take (i := 1) (v := .slice (some ⟨rb, ro, none⟩) L.length c) rfl (by kernel_rfl) (by kernel_rfl) (by kernel_rfl) (fun _ _ _ h => h) (Or.inl ⟨by rfl, fun W' hW' => by go_simp⟩) ((show wr.drew.rangeAt _ _ _ from HRG.out)) ?_
      go_simp
      refine wpAnyH_take (i := 2) (v := .int .i64 (k : Int)) rfl (by kernel_rfl) (by kernel_rfl) (by kernel_rfl) (fun _ _ _ h => h) (Or.inl ⟨by rfl, fun W' hW' => by go_simp⟩) ((show wr.drew.rangeAt _ _ _ from HRG.out)) ?_
      go_simp
      refine wpAnyH_take (i := 3) (v := .pointer (some ⟨rb, ro + k * 7, none⟩)) rfl (by kernel_rfl) (by kernel_rfl) (by kernel_rfl) (fun _ _ _ h => h) (Or.inl ⟨by rfl, fun W' hW' => by go_simp⟩) ((show wr.drew.rangeAt _ _ _ from HRG.out)) ?_
      go_simp
      refine wpAnyH_take (i := 4) (v := .agg ([.int .i64 t, .int .i64 r, .int .i64 n, .slice dA u.length dc, .int .i64 ut, .int .i64 ur, .slice oA ops.length oc] : List Value).toArray) rfl (by kernel_rfl) (by kernel_rfl) (by kernel_rfl) (fun _ _ _ h => h) (yieldsIf_load_mid (by rfl) _ _ rfl rb (ro + k * 7) rfl [.int .i64 t, .int .i64 r, .int .i64 n, .slice dA u.length dc, .int .i64 ut, .int .i64 ur, .slice oA ops.length oc] _ (fun W' hW' => hW') Tryz.underlying40 rfl (by kernel_rfl)) ((show wr.drew.rangeAt _ _ _ from HRG.out)) ?_
      go_simp
      refine wpAnyH_ready (rs := [0]) (by kernel_rfl) (by simp) ?_
      refine AllReadyH.cons rfl (fun K hK => ?_) AllReadyH.nil
      go_simp
      have hbd : Below wr.heap.size wr wr.drew := ⟨rfl, rfl, rfl, Nat.le_refl _, fun _ _ => rfl⟩
      refine (reftable_any wr.drew).mono ?_
      rintro e wa ⟨v, rfl, hO, hBa⟩
      obtain ⟨TA, tc, rfl, -, hT⟩ := own_tab hO
      have HBa := Lib.hid (hbd.trans hBa)
      have HTa := Lib.hid (show TabOf false 256 TA wa from ⟨rfl, hT⟩)
      have HRa := Lib.hid (range_below HRG.out hrb HBa.out)
      clear hBa hbd hO hT
      go_simp
      refine hK.out _ _ (HRa.out) (fun _ => ?_)
      clear hK K
      refine wpAnyH_ready (rs := [5]) (by kernel_rfl) (by simp) ?_
      refine AllReadyH.cons rfl (fun K hK => ?_) AllReadyH.nil
      go_simp
      refine (HRC.out wa HBa.out TA tc HTa.out).mono ?_
      rintro e wb ⟨rfl, hBb⟩
      have HBb := Lib.hid (HBa.out.trans (hBb.mono HBa.out.size))
      have HRb := Lib.hid (range_below HRG.out hrb HBb.out)
      clear hBb
      go_simp
      refine hK.out _ _ (HRb.out) (fun _ => ?_)
      clear hK K
      refine wpAnyH_take (i := 6) (v := .tuple #[.string X, .int .i64 z]) rfl (by kernel_rfl) (by kernel_rfl) (by kernel_rfl) (fun _ _ _ h => h) (Or.inl ⟨by rfl, fun W' hW' => by go_simp⟩) (HRb.out) ?_
      go_simp
      refine wpAnyH_take (i := 7) (v := .string X) rfl (by kernel_rfl) (by kernel_rfl) (by kernel_rfl) (fun _ _ _ h => h) (Or.inl ⟨by rfl, fun W' hW' => by go_simp⟩) (HRb.out) ?_
      go_simp
      refine wpAnyH_take (i := 8) (v := .int .i64 z) rfl (by kernel_rfl) (by kernel_rfl) (by kernel_rfl) (fun _ _ _ h => h) (Or.inl ⟨by rfl, fun W' hW' => by go_simp⟩) (HRb.out) ?_
      go_simp
      refine wpAnyH_take (i := 9) (v := .string X) rfl (by kernel_rfl) (by kernel_rfl) (by kernel_rfl) (fun _ _ _ h => h) (Or.inl ⟨by rfl, fun W' hW' => by go_simp⟩) (HRb.out) ?_
      go_simp
      refine wpAnyH_take (i := 10) (v := .int .i64 z) rfl (by kernel_rfl) (by kernel_rfl) (by kernel_rfl) (fun _ _ _ h => h) (Or.inl ⟨by rfl, fun W' hW' => by go_simp⟩) (HRb.out) ?_
      go_simp
      refine wpAnyH_done (by kernel_rfl) ?_ _
      go_simp
      have hszb := HBb.out.size
      have hszr := HBr.out.size
      have HBw := Lib.hid (HBr.out.trans (HBb.out.mono hszr))
      have HO2 := Lib.hid (HO.out.kept (gby_below (r := none) HBb.out) (Classical.em _))
      clear HBa HTa HRa HRb HRC
      go_wp2_with (at_builtin; refine wpList_append_own _ rfl _ _ 29 rfl w.heap.size 3 i0 (.int .i64 0) 1 8 Tryz.underlying29 hi hz0 hz1 hz2 rfl (by decide) _ _ _ rfl (by exact HO2.out.alloc _) ⟨wb.heap.size, 0, none⟩ 1 1 [.int .i64 ((B.size : Int) + (X.size : Int))] rfl rfl (by exact cell_one _ _ _) (fun u hu => by simp at hu; subst hu; rfl) (by unfold maxLen; omega) (by omega) (by simp; omega) ?_; intro v' w3 hown' hgrow _)
      go_roundw
      case rel =>
        refine ⟨k + 1, B ++ X, by omega, by go_num, rfl, Lib.hid HCT.out.symm, Lib.hid ?_, Lib.hid ((HBw.out.alloc (by omega) _).grown hgrow (by simp; omega) (fun i h => (HO2.out.lt i h).1))⟩
        rw [HEL.out, ByteArray.size_append, Int.natCast_add]; exact hown'
      case measure => (simp [RowKit.intOf]; omega)
    · obtain rfl : k = L.length := by omega
      have i2 : ¬ (L.length : Int) < (L.length : Int) := by omega
      have HE := Lib.hid (show B = catR gs by rw [HBK.out, ← HGL.out, List.take_length])
      go_wp2
      go_ret2
      exact ⟨_, by rw [HE.out]; rfl, HO.out, HBr.out⟩
end Go.Proofs.YtalgbcgiiphoaaaGreatDoor
