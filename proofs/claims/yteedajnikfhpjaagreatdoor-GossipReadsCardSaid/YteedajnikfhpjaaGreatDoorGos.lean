/- What gossip asks, tells and reads. Conditions: lengths in reach; the tables of utf8. -/
import Derived.Test.YteedajnikfhpjaaGreatDoorPA
import Derived.Test.YteedajnikfhpjaaGreatDoorBack8
namespace Go.Proofs.YteedajnikfhpjaaGreatDoor
open Go.RowKit Go.Lib Go.Sort
set_option linter.unusedVariables false
attribute [local go_sem ↓] Go.wp_at_zero Go.wp_at_succ
def askV (v : List Int) : Value := if vecB v = true then .tuple #[.string ⟨(63 :: numsZ v).toArray⟩, .int .i64 0] else .tuple #[.string ⟨#[]⟩, .int .i64 1]
def tellV (g : Grp) : Value := if chkB g = true then .tuple #[.string ⟨(33 :: grpZ g).toArray⟩, .int .i64 0] else .tuple #[.string ⟨#[]⟩, .int .i64 80]
theorem cat_ask (S : ByteArray) (v : List Int) (h : S.data.toList = numsZ v) : (⟨#[63]⟩ : ByteArray) ++ S = ⟨(63 :: numsZ v).toArray⟩ := by
  apply ByteArray.ext
  rw [ByteArray.data_append]
  apply Array.toList_inj.1
  rw [Array.toList_append, h]
  rfl
theorem cat_tell (l : List UInt8) : (⟨#[33]⟩ : ByteArray) ++ (⟨l.toArray⟩ : ByteArray) = ⟨(33 :: l).toArray⟩ := by
  apply ByteArray.ext
  rw [ByteArray.data_append]
  apply Array.toList_inj.1
  rw [Array.toList_append]
  rfl
theorem drop1 (s : ByteArray) (b : UInt8) (l : List UInt8) (h : s.data.toList = b :: l) : (s.extract 1 s.size).data.toList = l := by
  have hs : s.size = l.length + 1 := by rw [ByteArray.size, ← Array.length_toList, h]; rfl
  rw [ByteArray.data_extract, Array.toList_extract, List.extract_eq_take_drop, h, hs]
  simp
set_option maxRecDepth 100000 in
set_option maxHeartbeats 4000000 in
theorem ask_any (v : List Int) (A : Option Addr) (c : Nat) (w : World) (hc0 : v.length ≤ c) (hl : c ≤ 9223372036854775807) (hR : VecR w A v) (hi : ∀ x ∈ v, i63 x) :
    Calls Tryz.prog 51 #[.slice A v.length c] w fun e w' => e = .returned (askV v) ∧ Below w.heap.size w w' := by
  have HV := Lib.hid (vector_any A c v w hc0 (by omega) hR)
  cases hv : vecB v with
  | false =>
    obtain ⟨ev, hev⟩ : ∃ x, x = askV v := ⟨_, rfl⟩
    rw [← hev]
    obtain rfl : ev = .tuple #[.string ⟨#[]⟩, .int .i64 1] := by rw [hev]; unfold askV; rw [if_neg (by rw [hv]; decide)]
    have HVV := Lib.hid hv
    clear hv hev hR hi
    go_enter Tryz.func51, Tryz.ntmps51
    go_wp2_with fail
    refine HV.out.mono ?_
    rw [HVV.out]
    rintro e w1 ⟨rfl, rfl⟩
    go_wp2
    go_ret2
    exact ⟨rfl, Below.refl _ _⟩
  | true =>
    obtain ⟨n1, n2⟩ := vecB_nn hv
    have HN := Lib.hid (nats_ok A v.length c (fun i => v.getD i 0) (by omega) (fun i hi' => by
      have hm : v.getD i 0 ∈ v := by rw [List.getD_eq_getElem?_getD, List.getElem?_eq_getElem hi']; exact List.getElem_mem hi'
      exact ⟨n1 _ hm, (hi _ hm).2⟩) w hR)
    obtain ⟨Z, hZ⟩ : ∃ Z, Z = natsS (fun i => v.getD i 0) v.length := ⟨_, rfl⟩
    have hZl : Z.data.toList = numsZ v := by rw [hZ]; exact natsS_Z v n1
    have hzs : Z.size ≤ 1000 := by
      have h1 : Z.data.toList.length = Z.size := by simp
      have h2 := flat_le (z := natZ) (l := v) fun x hx => natZ_le (hi x hx).2
      have h3 : (natZ (v.length : Int)).length ≤ 10 := natZ_le (by omega)
      rw [hZl] at h1
      unfold numsZ at h1
      rw [List.length_append] at h1
      omega
    have hc2 : ¬ maxLen < 1 + Z.size := by unfold maxLen; omega
    obtain ⟨ev, hev⟩ : ∃ x, x = askV v := ⟨_, rfl⟩
    rw [← hev]
    obtain rfl : ev = .tuple #[.string ((⟨#[63]⟩ : ByteArray) ++ Z), .int .i64 0] := by rw [hev]; unfold askV; rw [if_pos hv, cat_ask Z v hZl]
    have HVV := Lib.hid hv
    have HZ := Lib.hid hZ
    clear hv hev hR hi hZ hZl n1
    go_enter Tryz.func51, Tryz.ntmps51
    go_wp2_with fail
    refine HV.out.mono ?_
    rw [HVV.out]
    rintro e w1 ⟨rfl, rfl⟩
    go_wp2_with fail
    refine HN.out.mono ?_
    rw [← HZ.out]
    rintro e w2 ⟨rfl, hB⟩
    go_wp2
    go_ret2
    exact ⟨rfl, hB⟩
set_option maxRecDepth 100000 in
set_option maxHeartbeats 4000000 in
theorem tell_any (g : Grp) (dA : Option Addr) (dc : Nat) (oA : Option Addr) (oc : Nat) (S : Nat → Prop) (w : World) (hI : GrIn w S g dA dc oA oc) (hT1 : ∀ o ∈ g.ops, o.text.size < 9223372036854775807) (hTx : g.ops.length ≤ 200 → ∀ o ∈ g.ops, o.text.size ≤ 1000000) (hTb : Tabs w) :
    Calls Tryz.prog 52 #[.agg (grA g dA dc oA oc)] w fun e w' => e = .returned (tellV g) ∧ Below w.heap.size w w' := by
  have hE : ∀ W, Below w.heap.size w W → Calls Tryz.prog 38 #[.agg (grA g dA dc oA oc)] W fun e w' => e = .returned (encV g) ∧ Below W.heap.size W w' := fun W hB => encode_any g dA dc oA oc S W (hI.agr (Agr.below hB)) hT1 hTx (hTb.below hB)
  have HFIT := Lib.hid (fit_of hI)
  have HB0 := Lib.hid (show Below w.heap.size w (w.alloc (.cells (grA g dA dc oA oc) 40)) from (Below.refl _ _).alloc (Nat.le_refl _) _)
  cases hc : chkB g with
  | false =>
    obtain ⟨ev, hev⟩ : ∃ x, x = tellV g := ⟨_, rfl⟩
    rw [← hev]
    obtain rfl : ev = .tuple #[.string ⟨#[]⟩, .int .i64 80] := by rw [hev]; unfold tellV; rw [if_neg (by rw [hc]; decide)]
    rw [encV_no hc] at hE
    obtain ⟨⟨t, r⟩, n, v, ⟨ut, ur⟩, ops⟩ := g
    have HE : Hid (∀ W, Below w.heap.size w W → Calls Tryz.prog 38 #[.agg #[.int .i64 t, .int .i64 r, .int .i64 n, .slice dA v.length dc, .int .i64 ut, .int .i64 ur, .slice oA ops.length oc]] W fun e w' => e = .returned (.tuple #[.string ⟨#[]⟩, .int .i64 80]) ∧ Below W.heap.size W w') := Lib.hid hE
    show Calls _ _ #[.agg #[.int .i64 t, .int .i64 r, .int .i64 n, .slice dA v.length dc, .int .i64 ut, .int .i64 ur, .slice oA ops.length oc]] _ _
    clear hc hev hE hI hT1 hTx hTb
    go_enter Tryz.func52, Tryz.ntmps52
    go_wp2_with (first | (go_at_call 38; refine (HE.out _ HB0.out).mono ?_; rintro e w1 ⟨rfl, hB1⟩))
    go_ret2
    exact ⟨rfl, HB0.out.trans (hB1.mono (by simp))⟩
  | true =>
    obtain ⟨Z, hZ⟩ : ∃ Z : ByteArray, Z = ⟨(grpZ g).toArray⟩ := ⟨_, rfl⟩
    have hzs : Z.size ≤ 300 + (61000 + 140737488355328) * 200 := by
      have h1 : Z.data.toList.length = Z.size := by simp
      have h2 := grpZ_le HFIT.out hc (M := 140737488355328) (fun o ho => by have := hTx (chk_sho hc).1 o ho; omega)
      have h3 : Z.data.toList = grpZ g := by rw [hZ]
      rw [h3] at h1
      omega
    have hc2 : ¬ maxLen < 1 + Z.size := by unfold maxLen; omega
    obtain ⟨ev, hev⟩ : ∃ x, x = tellV g := ⟨_, rfl⟩
    rw [← hev]
    obtain rfl : ev = .tuple #[.string ((⟨#[33]⟩ : ByteArray) ++ Z), .int .i64 0] := by rw [hev]; unfold tellV; rw [if_pos hc, hZ, cat_tell]
    rw [encV_ok hc, ← hZ] at hE
    obtain ⟨⟨t, r⟩, n, v, ⟨ut, ur⟩, ops⟩ := g
    have HE : Hid (∀ W, Below w.heap.size w W → Calls Tryz.prog 38 #[.agg #[.int .i64 t, .int .i64 r, .int .i64 n, .slice dA v.length dc, .int .i64 ut, .int .i64 ur, .slice oA ops.length oc]] W fun e w' => e = .returned (.tuple #[.string Z, .int .i64 0]) ∧ Below W.heap.size W w') := Lib.hid hE
    show Calls _ _ #[.agg #[.int .i64 t, .int .i64 r, .int .i64 n, .slice dA v.length dc, .int .i64 ut, .int .i64 ur, .slice oA ops.length oc]] _ _
    clear hc hev hE hI hT1 hTx hTb hZ hzs
    go_enter Tryz.func52, Tryz.ntmps52
    go_wp2_with (first | (go_at_call 38; refine (HE.out _ HB0.out).mono ?_; rintro e w1 ⟨rfl, hB1⟩))
    go_ret2
    exact ⟨rfl, HB0.out.trans (hB1.mono (by simp))⟩
/-- what vector answers -/
def VcQ (r : Option (List Int)) (w : World) (e : Ending) (w' : World) : Prop := Below w.heap.size w w' ∧ match r with
  | some v => ∃ A c, e = .returned (.tuple #[.slice A v.length c, .bool true]) ∧ VecR w' A v ∧ v.length ≤ c ∧ c ≤ 1000000
  | none => e = .returned (.tuple #[.slice none 0 0, .bool false])
theorem VcQ.no {r : Option (List Int)} (h : r = none) {w w' : World} (hb : Below w.heap.size w w') : VcQ r w (.returned (.tuple #[.slice none 0 0, .bool false])) w' := by subst h; exact ⟨hb, rfl⟩
theorem VcQ.yes {r : Option (List Int)} {v : List Int} (h : r = some v) {w w' : World} (hb : Below w.heap.size w w') {A : Option Addr} {n c : Nat} (hn : n = v.length) (h1 : VecR w' A v) (h2 : v.length ≤ c) (h3 : c ≤ 1000000) : VcQ r w (.returned (.tuple #[.slice A n c, .bool true])) w' := by subst h; subst hn; exact ⟨hb, A, c, rfl, h1, h2, h3⟩
theorem takeN_ne : ∀ (n : Nat) (l : List UInt8), Vr.takeN n l ≠ .err 0
  | 0, l => by intro h; cases h
  | n + 1, l => by
    intro h
    cases h1 : Vr.take l with
    | err d => rw [Vr.takeN_err h1] at h; cases h; exact err_ne h1 rfl
    | ok m q =>
      rw [Vr.takeN_ok h1] at h
      cases h2 : Vr.takeN n q with
      | err d => rw [h2] at h; cases d with
        | zero => exact takeN_ne n q h2
        | succ d => cases h
      | ok ns r => rw [h2] at h; cases h
set_option maxRecDepth 100000 in
set_option maxHeartbeats 4000000 in
theorem gvector_any (s : ByteArray) (w : World) (hs : s.size ≤ 1000000) :
    Calls Tryz.prog 53 #[.string s] w fun e w' => VcQ (vecZ s.data.toList) w e w' := by
  have HT := Lib.hid (takenats_cap s hs w)
  obtain ⟨r, hr⟩ : ∃ r, r = vecZ s.data.toList := ⟨_, rfl⟩
  rw [← hr]
  cases ht : Vr.takeNats s.data.toList with
  | err c =>
    have hc : c ≠ 0 := by
      intro e; subst e
      unfold Vr.takeNats at ht
      cases h1 : Vr.take s.data.toList with
      | err d => rw [h1] at ht; cases ht; exact err_ne h1 rfl
      | ok n q =>
        rw [h1] at ht
        simp only at ht
        split at ht
        · cases ht
        · exact takeN_ne _ _ ht
    have HNO := Lib.hid (fun w' => @VcQ.no r (by rw [hr]; unfold vecZ; rw [ht]) w w')
    have t1 : ((c : Int) != 0) = true := by rw [bne_iff_ne]; omega
    have HTE := Lib.hid ht
    clear ht hr hc
    go_enter Tryz.func53, Tryz.ntmps53
    go_wp2_with fail
    refine HT.out.mono ?_
    rw [HTE.out]
    rintro e w1 ⟨rfl, hB⟩
    have HB := Lib.hid hB
    clear hB
    go_upto_region 2 with fail
    refine wp_plain_quiet_below ?_
    repeat (any_goals (first | go_big_quiet_step (fail) | quiet_step (fail)))
    refine wpQuiet_nil ?_
    intro _ hw'
    obtain ⟨⟨dq, osq⟩, hw''⟩ := hw'
    subst hw''
    have hBq := below_regrown w1 dq osq
    generalize grow (redrawn w1 dq) osq = wq at *
    go_wp2
    go_ret2
    exact HNO.out _ (HB.out.trans (hBq.mono HB.out.size))
  | ok ns q =>
    obtain ⟨v, hv⟩ : ∃ v : List Int, v = ns.map fun (n : Nat) => (n : Int) := ⟨_, rfl⟩
    have hvl : ns.length = v.length := by rw [hv, List.length_map]
    have HTE := Lib.hid ht
    have HVL := Lib.hid hvl
    have HRV := Lib.hid (show r = if q = [] ∧ vecB v = true then some v else none by
      rw [hr]; unfold vecZ; rw [ht, hv]
      cases q with
      | nil => simp
      | cons a l => simp)
    have HIF := Lib.hid (show ∀ i, intsF ns i = .int .i64 (v.getD i 0) from fun i => by
      rw [hv]
      unfold intsF
      congr 1
      simp only [List.getD_eq_getElem?_getD, List.getElem?_map]
      cases ns[i]? <;> rfl)
    clear ht hr hv
    by_cases hq : q = []
    · subst hq
      go_enter Tryz.func53, Tryz.ntmps53
      go_wp2_with fail
      refine HT.out.mono ?_
      rw [HTE.out]
      rintro e w1 ⟨A, cap, rfl, hR, hB, hcap, hmx⟩
      rw [hvl] at hcap hR ⊢
      have hR2 : VecR w1 A v := fun k hk => by
        obtain ⟨ad, h1, h2, h3⟩ := hR k hk
        exact ⟨ad, h1, h2, by rw [h3, HIF.out]⟩
      have HR := Lib.hid hR2
      have HB := Lib.hid hB
      have cV := fun d1 os => Calls.regrown_same (vector_any A cap v (grow (redrawn w1 d1) os) hcap (by omega) (hR2.regrown d1 os))
      clear hB hR hR2 hvl
      go_upto_region 2 with fail
      cases hb : vecB v with
      | false =>
        rw [hb] at cV
        have HNO := Lib.hid (fun w' => @VcQ.no r (by rw [HRV.out, hb]; simp) w w')
        clear hb
        refine wp_plain_quiet_below ?_
        repeat (any_goals (first | go_big_quiet_step (with_reducible exact cV _ _) | quiet_step (with_reducible exact cV _ _)))
        refine wpQuiet_nil ?_
        intro _ hw'
        obtain ⟨⟨dq, osq⟩, hw''⟩ := hw'
        subst hw''
        have hBq := below_regrown w1 dq osq
        generalize grow (redrawn w1 dq) osq = wq at *
        go_wp2
        go_ret2
        exact HNO.out _ (HB.out.trans (hBq.mono HB.out.size))
      | true =>
        rw [hb] at cV
        have HYES := Lib.hid (show r = some v by rw [HRV.out, hb]; simp)
        clear hb
        refine wp_plain_quiet_below ?_
        repeat (any_goals (first | go_big_quiet_step (with_reducible exact cV _ _) | quiet_step (with_reducible exact cV _ _)))
        refine wpQuiet_nil ?_
        intro _ hw'
        obtain ⟨⟨dq, osq⟩, hw''⟩ := hw'
        subst hw''
        have hBq := below_regrown w1 dq osq
        generalize grow (redrawn w1 dq) osq = wq at *
        go_wp2
        go_ret2
        exact VcQ.yes HYES.out (HB.out.trans (hBq.mono HB.out.size)) rfl (HR.out.below hBq) hcap hmx
    · have HNO := Lib.hid (fun w' => @VcQ.no r (by rw [HRV.out]; simp [hq]) w w')
      obtain ⟨Z, hZ⟩ : ∃ Z : ByteArray, Z = ⟨q.toArray⟩ := ⟨_, rfl⟩
      have q1 : ¬ Z.toList = [] := by rw [str_nil, hZ]; exact hq
      have q2 : Z.toList.isEmpty = false := by rw [List.isEmpty_eq_false_iff]; exact q1
      have q3 : (Z.toList == []) = false := by rw [beq_eq_false_iff_ne]; exact q1
      have HZ := Lib.hid hZ
      clear hZ hq hvl
      go_enter Tryz.func53, Tryz.ntmps53
      go_wp2_with fail
      refine HT.out.mono ?_
      rw [HTE.out]
      rintro e w1 ⟨A, cap, rfl, hR, hB, hcap, hmx⟩
      rw [← HZ.out]
      have HB := Lib.hid hB
      clear hB hR
      go_upto_region 2 with fail
      refine wp_plain_quiet_below ?_
      repeat (any_goals (first | go_big_quiet_step (fail) | quiet_step (fail)))
      refine wpQuiet_nil ?_
      intro _ hw'
      obtain ⟨⟨dq, osq⟩, hw''⟩ := hw'
      subst hw''
      have hBq := below_regrown w1 dq osq
      generalize grow (redrawn w1 dq) osq = wq at *
      go_wp2
      go_ret2
      exact HNO.out _ (HB.out.trans (hBq.mono HB.out.size))
theorem below_drew (w : World) {n : Nat} (h : n ≤ w.heap.size) : Below n w w.drew := ⟨rfl, rfl, rfl, Nat.le_refl _, fun _ _ => rfl⟩
theorem readZ_cons (b : UInt8) (l : List UInt8) : readZ (b :: l) = if b.toNat = 33 then (match decZ l with
      | some g => .tell g
      | none => .err 80)
    else if b.toNat = 63 then (match vecZ l with
      | some v => .ask v
      | none => .err 11)
    else .err 11 := rfl
theorem setRow_eq {w : World} {g : Nat} {T : TypeId} {c : Array Value} (h : w.heap[g]? = some (.cells c T (0, 0))) : w.setRow g c = w := (setCells_put g T [] 0 c w h).symm
/-- what Read answers -/
def ReadQ (r : RG) (w : World) (e : Ending) (w' : World) : Prop := Below w.heap.size w w' ∧ match r with
  | .ask v => ∃ A c, e = .returned (.tuple #[.bool true, .slice A v.length c, .agg #[.int .i64 0, .int .i64 0, .int .i64 0, .slice none 0 0, .int .i64 0, .int .i64 0, .slice none 0 0], .int .i64 0]) ∧ VecR w' A v ∧ v.length ≤ c ∧ c ≤ 1000000
  | .tell g => ∃ dA dc oA oc, e = .returned (.tuple #[.bool false, .slice none 0 0, .agg (grA g dA dc oA oc), .int .i64 0]) ∧ GrIn w' (fun k => w.heap.size ≤ k) g dA dc oA oc ∧ ∀ o ∈ g.ops, o.text.size ≤ 1000000 ∧ o.name.size ≤ 1000000
  | .err c => e = .returned (.tuple #[.bool false, .slice none 0 0, .agg #[.int .i64 0, .int .i64 0, .int .i64 0, .slice none 0 0, .int .i64 0, .int .i64 0, .slice none 0 0], .int .i64 c])
theorem ReadQ.err_ {r : RG} {c : Int} (h : r = .err c) {w w' : World} (hb : Below w.heap.size w w') : ReadQ r w (.returned (.tuple #[.bool false, .slice none 0 0, .agg #[.int .i64 0, .int .i64 0, .int .i64 0, .slice none 0 0, .int .i64 0, .int .i64 0, .slice none 0 0], .int .i64 c])) w' := by subst h; exact ⟨hb, rfl⟩
set_option maxRecDepth 100000 in
set_option maxHeartbeats 16000000 in
theorem read_any (s : ByteArray) (w : World) (hs : s.size ≤ 1000000) (hTb : Tabs w) :
    Calls Tryz.prog 21 #[.string s] w fun e w' => ReadQ (readZ s.data.toList) w e w' := by
  obtain ⟨r, hr⟩ : ∃ r, r = readZ s.data.toList := ⟨_, rfl⟩
  rw [← hr]
  have HTb := Lib.hid hTb
  clear hTb
  obtain ⟨W0, hW0⟩ : ∃ W, W = w.alloc (.cells #[.int .i64 0, .int .i64 0, .int .i64 0, .slice none 0 0, .int .i64 0, .int .i64 0, .slice none 0 0] 40) := ⟨_, rfl⟩
  have HW0 := Lib.hid hW0
  have HA0 := Lib.hid (show W0.heap[w.heap.size]? = some (.cells #[.int .i64 0, .int .i64 0, .int .i64 0, .slice none 0 0, .int .i64 0, .int .i64 0, .slice none 0 0] 40 (0, 0)) by rw [hW0]; exact heap_alloc_new _ _)
  have HB0 := Lib.hid (show Below w.heap.size w W0 by rw [hW0]; exact (Below.refl _ _).alloc (Nat.le_refl _) _)
  have hz0 : W0.heap.size = w.heap.size + 1 := by rw [hW0]; simp
  have HZ0 := Lib.hid hz0
  clear hW0 hz0
  cases hl : s.data.toList with
  | nil =>
    have HR := Lib.hid (show r = .err 11 by rw [hr, hl]; rfl)
    obtain rfl : s = ⟨#[]⟩ := bs_nil.1 hl
    clear hr hl hs
    go_enter Tryz.func21, Tryz.ntmps21
    go_upto_region 2 with fail
    rw [← HW0.out]
    have g0 : W0.cell? ⟨w.heap.size, 0, none⟩ = some (.int .i64 0) := by rw [cell_of_row _ _ _ _ _ _ HA0.out]; rfl
    have g1 : W0.cell? ⟨w.heap.size, 1, none⟩ = some (.int .i64 0) := by rw [cell_of_row _ _ _ _ _ _ HA0.out]; rfl
    have g2 : W0.cell? ⟨w.heap.size, 2, none⟩ = some (.int .i64 0) := by rw [cell_of_row _ _ _ _ _ _ HA0.out]; rfl
    have g3 : W0.cell? ⟨w.heap.size, 3, none⟩ = some (.slice none 0 0) := by rw [cell_of_row _ _ _ _ _ _ HA0.out]; rfl
    have g4 : W0.cell? ⟨w.heap.size, 4, none⟩ = some (.int .i64 0) := by rw [cell_of_row _ _ _ _ _ _ HA0.out]; rfl
    have g5 : W0.cell? ⟨w.heap.size, 5, none⟩ = some (.int .i64 0) := by rw [cell_of_row _ _ _ _ _ _ HA0.out]; rfl
    have g6 : W0.cell? ⟨w.heap.size, 6, none⟩ = some (.slice none 0 0) := by rw [cell_of_row _ _ _ _ _ _ HA0.out]; rfl
    refine wp_region_any (by kernel_rfl) ?_
    try (change wpAny _ _ _ _ _ _ _ (World.drew _))
    refine wpAny_take (i := 1) (v := .bool false) rfl (by kernel_rfl) (by kernel_rfl) (by kernel_rfl) (fun _ _ _ h => h) (Or.inl ⟨by rfl, fun w => by go_simp⟩) ?_
    go_simp
    refine wpAny_take (i := 2) (v := .slice none 0 0) rfl (by kernel_rfl) (by kernel_rfl) (by kernel_rfl) (fun _ _ _ h => h) (Or.inl ⟨by rfl, fun w => by go_simp⟩) ?_
    go_simp
    refine wpAny_ready (rs := [0]) (by kernel_rfl) (by simp) ?_
    refine AllReady.cons rfl (fun K hK => ?_) AllReady.nil
    go_simp
    refine hK _ _ ?_
    clear hK K
    refine wpAny_ready (rs := [3]) (by kernel_rfl) (by simp) ?_
    refine AllReady.cons rfl (fun K hK => ?_) AllReady.nil
    rw [if_pos (by rfl)]
    refine wp_store_at 40 _ _ rfl w.heap.size 40 #[.int .i64 0, .int .i64 0, .int .i64 0, .slice none 0 0, .int .i64 0, .int .i64 0, .slice none 0 0] #[.int .i64 0, .int .i64 0, .int .i64 0, .slice none 0 0, .int .i64 0, .int .i64 0, .slice none 0 0] rfl rfl (show W0.drew.heap[w.heap.size]? = _ from HA0.out) (by kernel_rfl) rfl rfl ?_
    rw [setRow_eq (show W0.drew.heap[w.heap.size]? = _ from HA0.out)]
    refine hK _ _ ?_
    clear hK K
    refine wpAny_take (i := 4) (v := .int .i64 11) rfl (by kernel_rfl) (by kernel_rfl) (by kernel_rfl) (fun _ _ _ h => h) (Or.inl ⟨by rfl, fun w => by go_simp⟩) ?_
    go_simp
    refine wpAny_done (by kernel_rfl) ?_ _
    go_simp
    go_wp2
    refine bodyPost_ret (v := .tuple #[.bool false, .slice none 0 0, .agg #[.int .i64 0, .int .i64 0, .int .i64 0, .slice none 0 0, .int .i64 0, .int .i64 0, .slice none 0 0], .int .i64 11]) (by simp [results, Tryz.results21, go_sem, g0, g1, g2, g3, g4, g5, g6]) rfl ?_
    exact ReadQ.err_ HR.out (HB0.out.trans (below_drew W0 HB0.out.size))
  | cons b l =>
    have h0 : 0 < s.size := by rw [ByteArray.size, ← Array.length_toList, hl]; simp
    have hb0 : s[0] = b := by
      have : s.data.toList[0]'(by rw [hl]; simp) = b := by simp only [hl]; rfl
      rw [← this]; rfl
    have q1 : ¬ s.toList = [] := by rw [str_nil, hl]; simp
    have q2 : s.toList.isEmpty = false := by rw [List.isEmpty_eq_false_iff]; exact q1
    have q3 : (s.toList == []) = false := by rw [beq_eq_false_iff_ne]; exact q1
    have hd1 := drop1 s b l hl
    have hes : (s.extract 1 s.size).size ≤ 1000000 := by rw [ByteArray.size_extract]; omega
    have h1s : (1 : Int) ≤ (s.size : Int) := by omega
    have HES := Lib.hid hes
    have HD1 := Lib.hid hd1
    clear hes hd1
    have hbl : b.toNat < 256 := b.toNat_lt
    by_cases h33 : b.toNat = 33
    · have t33 : ((s[0].toNat : Int) == 33) = true := by rw [beq_iff_eq, hb0]; omega
      cases hdz : decZ l with
      | none =>
        have HR := Lib.hid (show r = .err 80 by rw [hr, hl]; rw [readZ_cons, if_pos h33, hdz])
        have HDZ := Lib.hid (show decZ (s.extract 1 s.size).data.toList = none by rw [HD1.out]; exact hdz)
        clear hr hl hb0 hdz h33 hbl
        go_enter Tryz.func21, Tryz.ntmps21
        go_wp2_with fail
        rw [← HW0.out]
        refine (decode_any (s.extract 1 s.size) W0 HES.out (HTb.out.below HB0.out)).mono ?_
        rintro e w1 hq
        obtain ⟨hB1, rfl⟩ := DecQ.none HDZ.out hq
        have HA1 := Lib.hid ((hB1.block w.heap.size (lt_of_block HA0.out)).trans HA0.out)
        have HB1 := Lib.hid (HB0.out.trans (hB1.mono HB0.out.size))
        clear hB1 hq
        go_upto_region 6 with (first | (refine store_at rfl _ _ _ rfl w.heap.size _ _ #[.int .i64 0, .int .i64 0, .int .i64 0, .slice none 0 0, .int .i64 0, .int .i64 0, .slice none 0 0] rfl rfl HA1.out ?_ ?_ ?_ ?_; kernel_rfl; rfl; rfl))
        rw [setRow_eq HA1.out]
        have g0 : w1.cell? ⟨w.heap.size, 0, none⟩ = some (.int .i64 0) := by rw [cell_of_row _ _ _ _ _ _ HA1.out]; rfl
        have g1 : w1.cell? ⟨w.heap.size, 1, none⟩ = some (.int .i64 0) := by rw [cell_of_row _ _ _ _ _ _ HA1.out]; rfl
        have g2 : w1.cell? ⟨w.heap.size, 2, none⟩ = some (.int .i64 0) := by rw [cell_of_row _ _ _ _ _ _ HA1.out]; rfl
        have g3 : w1.cell? ⟨w.heap.size, 3, none⟩ = some (.slice none 0 0) := by rw [cell_of_row _ _ _ _ _ _ HA1.out]; rfl
        have g4 : w1.cell? ⟨w.heap.size, 4, none⟩ = some (.int .i64 0) := by rw [cell_of_row _ _ _ _ _ _ HA1.out]; rfl
        have g5 : w1.cell? ⟨w.heap.size, 5, none⟩ = some (.int .i64 0) := by rw [cell_of_row _ _ _ _ _ _ HA1.out]; rfl
        have g6 : w1.cell? ⟨w.heap.size, 6, none⟩ = some (.slice none 0 0) := by rw [cell_of_row _ _ _ _ _ _ HA1.out]; rfl
        refine wp_region_any (by kernel_rfl) ?_
        try (change wpAny _ _ _ _ _ _ _ (World.drew _))
        refine wpAny_take (i := 1) (v := .int .i64 80) rfl (by kernel_rfl) (by kernel_rfl) (by kernel_rfl) (fun _ _ _ h => h) (Or.inl ⟨by rfl, fun w => by go_simp⟩) ?_
        go_simp
        refine wpAny_take (i := 2) (v := .bool false) rfl (by kernel_rfl) (by kernel_rfl) (by kernel_rfl) (fun _ _ _ h => h) (Or.inl ⟨by rfl, fun w => by go_simp⟩) ?_
        go_simp
        refine wpAny_take (i := 3) (v := .slice none 0 0) rfl (by kernel_rfl) (by kernel_rfl) (by kernel_rfl) (fun _ _ _ h => h) (Or.inl ⟨by rfl, fun w => by go_simp⟩) ?_
        go_simp
        refine wpAny_ready (rs := [0]) (by kernel_rfl) (by simp) ?_
        refine AllReady.cons rfl (fun K hK => ?_) AllReady.nil
        go_simp
        refine hK _ _ ?_
        clear hK K
        refine wpAny_ready (rs := [4]) (by kernel_rfl) (by simp) ?_
        refine AllReady.cons rfl (fun K hK => ?_) AllReady.nil
        rw [if_pos (by rfl)]
        refine wp_store_at 40 _ _ rfl w.heap.size 40 #[.int .i64 0, .int .i64 0, .int .i64 0, .slice none 0 0, .int .i64 0, .int .i64 0, .slice none 0 0] #[.int .i64 0, .int .i64 0, .int .i64 0, .slice none 0 0, .int .i64 0, .int .i64 0, .slice none 0 0] rfl rfl (show w1.drew.heap[w.heap.size]? = _ from HA1.out) (by kernel_rfl) rfl rfl ?_
        rw [setRow_eq (show w1.drew.heap[w.heap.size]? = _ from HA1.out)]
        refine hK _ _ ?_
        clear hK K
        refine wpAny_take (i := 5) (v := .int .i64 80) rfl (by kernel_rfl) (by kernel_rfl) (by kernel_rfl) (fun _ _ _ h => h) (Or.inl ⟨by rfl, fun w => by go_simp⟩) ?_
        go_simp
        refine wpAny_done (by kernel_rfl) ?_ _
        go_simp
        go_wp2
        refine bodyPost_ret (v := .tuple #[.bool false, .slice none 0 0, .agg #[.int .i64 0, .int .i64 0, .int .i64 0, .slice none 0 0, .int .i64 0, .int .i64 0, .slice none 0 0], .int .i64 80]) (by simp [results, Tryz.results21, go_sem, g0, g1, g2, g3, g4, g5, g6]) rfl ?_
        exact ReadQ.err_ HR.out (HB1.out.trans (below_drew w1 HB1.out.size))
      | some g =>
        have HR := Lib.hid (show r = .tell g by rw [hr, hl]; rw [readZ_cons, if_pos h33, hdz])
        have HDZ := Lib.hid (show decZ (s.extract 1 s.size).data.toList = some g by rw [HD1.out]; exact hdz)
        clear hr hl hb0 hdz h33 hbl
        go_enter Tryz.func21, Tryz.ntmps21
        go_wp2_with fail
        rw [← HW0.out]
        refine (decode_any (s.extract 1 s.size) W0 HES.out (HTb.out.below HB0.out)).mono ?_
        rintro e w1 hq
        obtain ⟨hB1, dA, dc, oA, oc, he, hI1, hT1⟩ := DecQ.some HDZ.out hq
        have HA1 := Lib.hid ((hB1.block w.heap.size (lt_of_block HA0.out)).trans HA0.out)
        have HB1 := Lib.hid (HB0.out.trans (hB1.mono HB0.out.size))
        have HI1 := Lib.hid hI1
        have HT1 := Lib.hid hT1
        clear hB1 hq hI1 hT1
        obtain ⟨⟨t, r_⟩, n, v, ⟨ut, ur⟩, ops⟩ := g
        obtain rfl : e = .returned (.tuple #[.agg #[.int .i64 t, .int .i64 r_, .int .i64 n, .slice dA v.length dc, .int .i64 ut, .int .i64 ur, .slice oA ops.length oc], .int .i64 0]) := he
        go_upto_region 6 with (first | (refine store_at rfl _ _ _ rfl w.heap.size _ _ #[.int .i64 t, .int .i64 r_, .int .i64 n, .slice dA v.length dc, .int .i64 ut, .int .i64 ur, .slice oA ops.length oc] rfl rfl HA1.out ?_ ?_ ?_ ?_; kernel_rfl; rfl; rfl))
        generalize hV : w1.setRow w.heap.size #[.int .i64 t, .int .i64 r_, .int .i64 n, .slice dA v.length dc, .int .i64 ut, .int .i64 ur, .slice oA ops.length oc] = V
        have HAV := Lib.hid (show V.heap[w.heap.size]? = some (.cells #[.int .i64 t, .int .i64 r_, .int .i64 n, .slice dA v.length dc, .int .i64 ut, .int .i64 ur, .slice oA ops.length oc] 40 (0, 0)) by rw [← hV]; exact heap_setRow_same _ HA1.out)
        have HBV := Lib.hid (show Below w.heap.size w V by rw [← hV]; exact Below.setRow' HB1.out (Nat.le_refl _) _)
        have HIV := Lib.hid (show GrIn V (fun k => w.heap.size ≤ k) ⟨⟨t, r_⟩, n, v, ⟨ut, ur⟩, ops⟩ dA dc oA oc by rw [← hV]; exact (HI1.out.agr (Agr.setRow w1 w.heap.size _ (by show ¬ W0.heap.size ≤ w.heap.size; rw [HZ0.out]; omega))).sub (fun k _ h => by have h : W0.heap.size ≤ k := h; show w.heap.size ≤ k; rw [HZ0.out] at h; omega))
        clear hV
        have g0 : V.cell? ⟨w.heap.size, 0, none⟩ = some (.int .i64 t) := by rw [cell_of_row _ _ _ _ _ _ HAV.out]; rfl
        have g1 : V.cell? ⟨w.heap.size, 1, none⟩ = some (.int .i64 r_) := by rw [cell_of_row _ _ _ _ _ _ HAV.out]; rfl
        have g2 : V.cell? ⟨w.heap.size, 2, none⟩ = some (.int .i64 n) := by rw [cell_of_row _ _ _ _ _ _ HAV.out]; rfl
        have g3 : V.cell? ⟨w.heap.size, 3, none⟩ = some (.slice dA v.length dc) := by rw [cell_of_row _ _ _ _ _ _ HAV.out]; rfl
        have g4 : V.cell? ⟨w.heap.size, 4, none⟩ = some (.int .i64 ut) := by rw [cell_of_row _ _ _ _ _ _ HAV.out]; rfl
        have g5 : V.cell? ⟨w.heap.size, 5, none⟩ = some (.int .i64 ur) := by rw [cell_of_row _ _ _ _ _ _ HAV.out]; rfl
        have g6 : V.cell? ⟨w.heap.size, 6, none⟩ = some (.slice oA ops.length oc) := by rw [cell_of_row _ _ _ _ _ _ HAV.out]; rfl
        refine wp_region_any (by kernel_rfl) ?_
        try (change wpAny _ _ _ _ _ _ _ (World.drew _))
        refine wpAny_take (i := 1) (v := .int .i64 0) rfl (by kernel_rfl) (by kernel_rfl) (by kernel_rfl) (fun _ _ _ h => h) (Or.inl ⟨by rfl, fun w => by go_simp⟩) ?_
        go_simp
        refine wpAny_take (i := 2) (v := .bool false) rfl (by kernel_rfl) (by kernel_rfl) (by kernel_rfl) (fun _ _ _ h => h) (Or.inl ⟨by rfl, fun w => by go_simp⟩) ?_
        go_simp
        refine wpAny_take (i := 3) (v := .slice none 0 0) rfl (by kernel_rfl) (by kernel_rfl) (by kernel_rfl) (fun _ _ _ h => h) (Or.inl ⟨by rfl, fun w => by go_simp⟩) ?_
        go_simp
        refine wpAny_ready (rs := [0]) (by kernel_rfl) (by simp) ?_
        refine AllReady.cons rfl (fun K hK => ?_) AllReady.nil
        go_simp
        refine hK _ _ ?_
        clear hK K
        refine wpAny_ready (rs := [4]) (by kernel_rfl) (by simp) ?_
        refine AllReady.cons rfl (fun K hK => ?_) AllReady.nil
        rw [if_pos (by rfl)]
        refine wp_store_at 40 _ _ rfl w.heap.size 40 #[.int .i64 t, .int .i64 r_, .int .i64 n, .slice dA v.length dc, .int .i64 ut, .int .i64 ur, .slice oA ops.length oc] #[.int .i64 t, .int .i64 r_, .int .i64 n, .slice dA v.length dc, .int .i64 ut, .int .i64 ur, .slice oA ops.length oc] rfl rfl (show V.drew.heap[w.heap.size]? = _ from HAV.out) (by kernel_rfl) rfl rfl ?_
        rw [setRow_eq (show V.drew.heap[w.heap.size]? = _ from HAV.out)]
        refine hK _ _ ?_
        clear hK K
        refine wpAny_take (i := 5) (v := .int .i64 0) rfl (by kernel_rfl) (by kernel_rfl) (by kernel_rfl) (fun _ _ _ h => h) (Or.inl ⟨by rfl, fun w => by go_simp⟩) ?_
        go_simp
        refine wpAny_done (by kernel_rfl) ?_ _
        go_simp
        go_wp2
        refine bodyPost_ret (v := .tuple #[.bool false, .slice none 0 0, .agg #[.int .i64 t, .int .i64 r_, .int .i64 n, .slice dA v.length dc, .int .i64 ut, .int .i64 ur, .slice oA ops.length oc], .int .i64 0]) (by simp [results, Tryz.results21, go_sem, g0, g1, g2, g3, g4, g5, g6]) rfl ?_
        rw [HR.out]
        exact ⟨HBV.out.trans (below_drew V HBV.out.size), dA, dc, oA, oc, rfl, HIV.out.agr ⟨Nat.le_refl _, fun _ _ _ => rfl⟩, HT1.out⟩
    · have t33 : ((s[0].toNat : Int) == 33) = false := by rw [beq_eq_false_iff_ne, hb0]; omega
      by_cases h63 : b.toNat = 63
      · have t63 : ((s[0].toNat : Int) == 63) = true := by rw [beq_iff_eq, hb0]; omega
        cases hvz : vecZ l with
        | none =>
          have HR := Lib.hid (show r = .err 11 by rw [hr, hl]; rw [readZ_cons, if_neg h33, if_pos h63, hvz])
          have HVZ := Lib.hid (show vecZ (s.extract 1 s.size).data.toList = none by rw [HD1.out]; exact hvz)
          clear hr hl hb0 hvz h33 h63 hbl
          go_enter Tryz.func21, Tryz.ntmps21
          go_wp2_with fail
          rw [← HW0.out]
          refine (gvector_any (s.extract 1 s.size) W0 HES.out).mono ?_
          rw [HVZ.out]
          rintro e w1 ⟨hB1, rfl⟩
          have HA1 := Lib.hid ((hB1.block w.heap.size (lt_of_block HA0.out)).trans HA0.out)
          have HB1 := Lib.hid (HB0.out.trans (hB1.mono HB0.out.size))
          clear hB1
          go_upto_region 11 with fail
          have g0 : w1.cell? ⟨w.heap.size, 0, none⟩ = some (.int .i64 0) := by rw [cell_of_row _ _ _ _ _ _ HA1.out]; rfl
          have g1 : w1.cell? ⟨w.heap.size, 1, none⟩ = some (.int .i64 0) := by rw [cell_of_row _ _ _ _ _ _ HA1.out]; rfl
          have g2 : w1.cell? ⟨w.heap.size, 2, none⟩ = some (.int .i64 0) := by rw [cell_of_row _ _ _ _ _ _ HA1.out]; rfl
          have g3 : w1.cell? ⟨w.heap.size, 3, none⟩ = some (.slice none 0 0) := by rw [cell_of_row _ _ _ _ _ _ HA1.out]; rfl
          have g4 : w1.cell? ⟨w.heap.size, 4, none⟩ = some (.int .i64 0) := by rw [cell_of_row _ _ _ _ _ _ HA1.out]; rfl
          have g5 : w1.cell? ⟨w.heap.size, 5, none⟩ = some (.int .i64 0) := by rw [cell_of_row _ _ _ _ _ _ HA1.out]; rfl
          have g6 : w1.cell? ⟨w.heap.size, 6, none⟩ = some (.slice none 0 0) := by rw [cell_of_row _ _ _ _ _ _ HA1.out]; rfl
          refine wp_region_any (by kernel_rfl) ?_
          try (change wpAny _ _ _ _ _ _ _ (World.drew _))
          refine wpAny_take (i := 1) (v := .bool false) rfl (by kernel_rfl) (by kernel_rfl) (by kernel_rfl) (fun _ _ _ h => h) (Or.inl ⟨by rfl, fun w => by go_simp⟩) ?_
          go_simp
          refine wpAny_take (i := 2) (v := .slice none 0 0) rfl (by kernel_rfl) (by kernel_rfl) (by kernel_rfl) (fun _ _ _ h => h) (Or.inl ⟨by rfl, fun w => by go_simp⟩) ?_
          go_simp
          refine wpAny_ready (rs := [0]) (by kernel_rfl) (by simp) ?_
          refine AllReady.cons rfl (fun K hK => ?_) AllReady.nil
          go_simp
          refine hK _ _ ?_
          clear hK K
          refine wpAny_ready (rs := [3]) (by kernel_rfl) (by simp) ?_
          refine AllReady.cons rfl (fun K hK => ?_) AllReady.nil
          rw [if_pos (by rfl)]
          refine wp_store_at 40 _ _ rfl w.heap.size 40 #[.int .i64 0, .int .i64 0, .int .i64 0, .slice none 0 0, .int .i64 0, .int .i64 0, .slice none 0 0] #[.int .i64 0, .int .i64 0, .int .i64 0, .slice none 0 0, .int .i64 0, .int .i64 0, .slice none 0 0] rfl rfl (show w1.drew.heap[w.heap.size]? = _ from HA1.out) (by kernel_rfl) rfl rfl ?_
          rw [setRow_eq (show w1.drew.heap[w.heap.size]? = _ from HA1.out)]
          refine hK _ _ ?_
          clear hK K
          refine wpAny_take (i := 4) (v := .int .i64 11) rfl (by kernel_rfl) (by kernel_rfl) (by kernel_rfl) (fun _ _ _ h => h) (Or.inl ⟨by rfl, fun w => by go_simp⟩) ?_
          go_simp
          refine wpAny_done (by kernel_rfl) ?_ _
          go_simp
          go_wp2
          refine bodyPost_ret (v := .tuple #[.bool false, .slice none 0 0, .agg #[.int .i64 0, .int .i64 0, .int .i64 0, .slice none 0 0, .int .i64 0, .int .i64 0, .slice none 0 0], .int .i64 11]) (by simp [results, Tryz.results21, go_sem, g0, g1, g2, g3, g4, g5, g6]) rfl ?_
          exact ReadQ.err_ HR.out (HB1.out.trans (below_drew w1 HB1.out.size))
        | some v =>
          have HR := Lib.hid (show r = .ask v by rw [hr, hl]; rw [readZ_cons, if_neg h33, if_pos h63, hvz])
          have HVZ := Lib.hid (show vecZ (s.extract 1 s.size).data.toList = some v by rw [HD1.out]; exact hvz)
          clear hr hl hb0 hvz h33 h63 hbl
          go_enter Tryz.func21, Tryz.ntmps21
          go_wp2_with fail
          rw [← HW0.out]
          refine (gvector_any (s.extract 1 s.size) W0 HES.out).mono ?_
          rw [HVZ.out]
          rintro e w1 ⟨hB1, A, c, rfl, hR1, hc1, hc2⟩
          have HA1 := Lib.hid ((hB1.block w.heap.size (lt_of_block HA0.out)).trans HA0.out)
          have HB1 := Lib.hid (HB0.out.trans (hB1.mono HB0.out.size))
          have HR1 := Lib.hid hR1
          clear hB1 hR1
          go_upto_region 10 with fail
          have g0 : w1.cell? ⟨w.heap.size, 0, none⟩ = some (.int .i64 0) := by rw [cell_of_row _ _ _ _ _ _ HA1.out]; rfl
          have g1 : w1.cell? ⟨w.heap.size, 1, none⟩ = some (.int .i64 0) := by rw [cell_of_row _ _ _ _ _ _ HA1.out]; rfl
          have g2 : w1.cell? ⟨w.heap.size, 2, none⟩ = some (.int .i64 0) := by rw [cell_of_row _ _ _ _ _ _ HA1.out]; rfl
          have g3 : w1.cell? ⟨w.heap.size, 3, none⟩ = some (.slice none 0 0) := by rw [cell_of_row _ _ _ _ _ _ HA1.out]; rfl
          have g4 : w1.cell? ⟨w.heap.size, 4, none⟩ = some (.int .i64 0) := by rw [cell_of_row _ _ _ _ _ _ HA1.out]; rfl
          have g5 : w1.cell? ⟨w.heap.size, 5, none⟩ = some (.int .i64 0) := by rw [cell_of_row _ _ _ _ _ _ HA1.out]; rfl
          have g6 : w1.cell? ⟨w.heap.size, 6, none⟩ = some (.slice none 0 0) := by rw [cell_of_row _ _ _ _ _ _ HA1.out]; rfl
          refine wp_region_any (by kernel_rfl) ?_
          try (change wpAny _ _ _ _ _ _ _ (World.drew _))
          refine wpAny_take (i := 0) (v := .slice A v.length c) rfl (by kernel_rfl) (by kernel_rfl) (by kernel_rfl) (fun _ _ _ h => h) (Or.inl ⟨by rfl, fun w => by go_simp⟩) ?_
          go_simp
          refine wpAny_take (i := 2) (v := .bool true) rfl (by kernel_rfl) (by kernel_rfl) (by kernel_rfl) (fun _ _ _ h => h) (Or.inl ⟨by rfl, fun w => by go_simp⟩) ?_
          go_simp
          refine wpAny_take (i := 3) (v := .slice A v.length c) rfl (by kernel_rfl) (by kernel_rfl) (by kernel_rfl) (fun _ _ _ h => h) (Or.inl ⟨by rfl, fun w => by go_simp⟩) ?_
          go_simp
          refine wpAny_ready (rs := [1]) (by kernel_rfl) (by simp) ?_
          refine AllReady.cons rfl (fun K hK => ?_) AllReady.nil
          go_simp
          refine hK _ _ ?_
          clear hK K
          refine wpAny_ready (rs := [4]) (by kernel_rfl) (by simp) ?_
          refine AllReady.cons rfl (fun K hK => ?_) AllReady.nil
          rw [if_pos (by rfl)]
          refine wp_store_at 40 _ _ rfl w.heap.size 40 #[.int .i64 0, .int .i64 0, .int .i64 0, .slice none 0 0, .int .i64 0, .int .i64 0, .slice none 0 0] #[.int .i64 0, .int .i64 0, .int .i64 0, .slice none 0 0, .int .i64 0, .int .i64 0, .slice none 0 0] rfl rfl (show w1.drew.heap[w.heap.size]? = _ from HA1.out) (by kernel_rfl) rfl rfl ?_
          rw [setRow_eq (show w1.drew.heap[w.heap.size]? = _ from HA1.out)]
          refine hK _ _ ?_
          clear hK K
          refine wpAny_take (i := 5) (v := .int .i64 0) rfl (by kernel_rfl) (by kernel_rfl) (by kernel_rfl) (fun _ _ _ h => h) (Or.inl ⟨by rfl, fun w => by go_simp⟩) ?_
          go_simp
          refine wpAny_done (by kernel_rfl) ?_ _
          go_simp
          go_wp2
          refine bodyPost_ret (v := .tuple #[.bool true, .slice A v.length c, .agg #[.int .i64 0, .int .i64 0, .int .i64 0, .slice none 0 0, .int .i64 0, .int .i64 0, .slice none 0 0], .int .i64 0]) (by simp [results, Tryz.results21, go_sem, g0, g1, g2, g3, g4, g5, g6]) rfl ?_
          rw [HR.out]
          exact ⟨HB1.out.trans (below_drew w1 HB1.out.size), A, c, rfl, HR1.out, hc1, hc2⟩
      · have t63 : ((s[0].toNat : Int) == 63) = false := by rw [beq_eq_false_iff_ne, hb0]; omega
        have HR := Lib.hid (show r = .err 11 by rw [hr, hl]; rw [readZ_cons, if_neg h33, if_neg h63])
        clear hr hl hb0 h33 h63 hbl
        go_enter Tryz.func21, Tryz.ntmps21
        go_upto_region 11 with fail
        rw [← HW0.out]
        have g0 : W0.cell? ⟨w.heap.size, 0, none⟩ = some (.int .i64 0) := by rw [cell_of_row _ _ _ _ _ _ HA0.out]; rfl
        have g1 : W0.cell? ⟨w.heap.size, 1, none⟩ = some (.int .i64 0) := by rw [cell_of_row _ _ _ _ _ _ HA0.out]; rfl
        have g2 : W0.cell? ⟨w.heap.size, 2, none⟩ = some (.int .i64 0) := by rw [cell_of_row _ _ _ _ _ _ HA0.out]; rfl
        have g3 : W0.cell? ⟨w.heap.size, 3, none⟩ = some (.slice none 0 0) := by rw [cell_of_row _ _ _ _ _ _ HA0.out]; rfl
        have g4 : W0.cell? ⟨w.heap.size, 4, none⟩ = some (.int .i64 0) := by rw [cell_of_row _ _ _ _ _ _ HA0.out]; rfl
        have g5 : W0.cell? ⟨w.heap.size, 5, none⟩ = some (.int .i64 0) := by rw [cell_of_row _ _ _ _ _ _ HA0.out]; rfl
        have g6 : W0.cell? ⟨w.heap.size, 6, none⟩ = some (.slice none 0 0) := by rw [cell_of_row _ _ _ _ _ _ HA0.out]; rfl
        refine wp_region_any (by kernel_rfl) ?_
        try (change wpAny _ _ _ _ _ _ _ (World.drew _))
        refine wpAny_take (i := 1) (v := .bool false) rfl (by kernel_rfl) (by kernel_rfl) (by kernel_rfl) (fun _ _ _ h => h) (Or.inl ⟨by rfl, fun w => by go_simp⟩) ?_
        go_simp
        refine wpAny_take (i := 2) (v := .slice none 0 0) rfl (by kernel_rfl) (by kernel_rfl) (by kernel_rfl) (fun _ _ _ h => h) (Or.inl ⟨by rfl, fun w => by go_simp⟩) ?_
        go_simp
        refine wpAny_ready (rs := [0]) (by kernel_rfl) (by simp) ?_
        refine AllReady.cons rfl (fun K hK => ?_) AllReady.nil
        go_simp
        refine hK _ _ ?_
        clear hK K
        refine wpAny_ready (rs := [3]) (by kernel_rfl) (by simp) ?_
        refine AllReady.cons rfl (fun K hK => ?_) AllReady.nil
        rw [if_pos (by rfl)]
        refine wp_store_at 40 _ _ rfl w.heap.size 40 #[.int .i64 0, .int .i64 0, .int .i64 0, .slice none 0 0, .int .i64 0, .int .i64 0, .slice none 0 0] #[.int .i64 0, .int .i64 0, .int .i64 0, .slice none 0 0, .int .i64 0, .int .i64 0, .slice none 0 0] rfl rfl (show W0.drew.heap[w.heap.size]? = _ from HA0.out) (by kernel_rfl) rfl rfl ?_
        rw [setRow_eq (show W0.drew.heap[w.heap.size]? = _ from HA0.out)]
        refine hK _ _ ?_
        clear hK K
        refine wpAny_take (i := 4) (v := .int .i64 11) rfl (by kernel_rfl) (by kernel_rfl) (by kernel_rfl) (fun _ _ _ h => h) (Or.inl ⟨by rfl, fun w => by go_simp⟩) ?_
        go_simp
        refine wpAny_done (by kernel_rfl) ?_ _
        go_simp
        go_wp2
        refine bodyPost_ret (v := .tuple #[.bool false, .slice none 0 0, .agg #[.int .i64 0, .int .i64 0, .int .i64 0, .slice none 0 0, .int .i64 0, .int .i64 0, .slice none 0 0], .int .i64 11]) (by simp [results, Tryz.results21, go_sem, g0, g1, g2, g3, g4, g5, g6]) rfl ?_
        exact ReadQ.err_ HR.out (HB0.out.trans (below_drew W0 HB0.out.size))
end Go.Proofs.YteedajnikfhpjaaGreatDoor
