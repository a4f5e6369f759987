/- A box hears of a group. Conditions: lengths in reach; the tables of utf8. -/
import Derived.Test.YtalgbcgiiphoaaaGreatDoorBxDr
import Derived.Test.YtalgbcgiiphoaaaGreatDoorCO
namespace Go.Proofs.YtalgbcgiiphoaaaGreatDoor
open Go.RowKit Go.Lib Go.Sort
set_option linter.unusedVariables false
attribute [local go_sem ↓] Go.wp_at_zero Go.wp_at_succ
theorem drainF_len : ∀ (f : Nat) (b : Bx), (drainF f b).1.wait.length ≤ b.wait.length ∧ (drainF f b).1.done.length + (drainF f b).1.wait.length ≤ b.done.length + b.wait.length
  | 0, b => ⟨Nat.le_refl _, Nat.le_refl _⟩
  | f + 1, b => by
    cases hb : bestN b.v b.wait b.wait.length with
    | none => rw [drainF_none hb]; exact ⟨Nat.le_refl _, Nat.le_refl _⟩
    | some k =>
      have hk := (bestN_lt hb).1
      have hl : (b.wait.eraseIdx k).length = b.wait.length - 1 := by rw [List.length_eraseIdx, if_pos hk]
      cases ho : oldB b.v (b.wait.getD k gz) with
      | true =>
        rw [drainF_old hb ho]
        have := drainF_len f ⟨b.done, b.wait.eraseIdx k, b.v⟩
        simp only [hl] at this
        omega
      | false =>
        rw [drainF_put hb ho]
        have := drainF_len f (Bx.put ⟨b.done, b.wait.eraseIdx k, b.v⟩ (b.wait.getD k gz))
        simp only [Bx.put, List.length_append, List.length_singleton, hl] at this
        simp only [Bx.put]
        omega
theorem drainF_cnt : ∀ (f : Nat) (b : Bx), (drainF f b).2 ≤ f
  | 0, b => Nat.le_refl _
  | f + 1, b => by
    cases hb : bestN b.v b.wait b.wait.length with
    | none => rw [drainF_none hb]; exact Nat.zero_le _
    | some k =>
      cases ho : oldB b.v (b.wait.getD k gz) with
      | true => rw [drainF_old hb ho]; exact Nat.le_succ_of_le (drainF_cnt f _)
      | false => rw [drainF_put hb ho]; exact Nat.succ_le_succ (drainF_cnt f _)
theorem range_of_block {W : World} {g : Nat} {l : List Value} {T : TypeId} (h : W.heap[g]? = some (.cells l.toArray T (0, 0))) : W.rangeAt g 0 l := fun j v hv => by
  rw [Nat.zero_add, cell_of_row _ _ _ _ _ _ h, List.getElem?_toArray]; exact hv
theorem hearB_len (b : Bx) (g : Grp) (h : b.wait.length ≤ 100) : (hearB b g).1.wait.length ≤ 100 ∧ (hearB b g).1.done.length + (hearB b g).1.wait.length ≤ b.done.length + b.wait.length + 1 := by
  unfold hearB
  split
  · exact ⟨h, Nat.le_succ _⟩
  · split
    · exact ⟨h, Nat.le_succ _⟩
    · split
      · have := drainF_len b.wait.length (b.put g)
        simp only [Bx.put, List.length_append, List.length_singleton] at this
        simp only [Bx.put]
        omega
      · split
        · exact ⟨h, Nat.le_succ _⟩
        · simp only [List.length_append, List.length_singleton]; omega
set_option maxRecDepth 100000 in
set_option maxHeartbeats 16000000 in
theorem bxhear_any {B P : Nat} {S : Nat → Prop} {b : Bx} {X : BoxX} {w : World} (h : BoxIn B P S b.done b.done b.wait b.v X w) (hok : BxOk b) (g : Grp) (x : GrX) (hG : GrG w S (g, x)) (hT1 : ∀ o ∈ g.ops, o.text.size < 9223372036854775807) (hTb : Tabs w) (hwl : b.wait.length ≤ 100) (hlen : b.done.length + b.wait.length ≤ 999999) :
    Calls Tryz.prog 22 #[.pointer (some ⟨P, 0, none⟩), .agg (grA g x.dA x.dc x.oA x.oc)] w fun e w' => e = .returned (.tuple #[.int .i64 ((hearB b g).2.1 : Nat), .int .i64 (hearB b g).2.2]) ∧ ∃ X' S', BoxIn B P S' (hearB b g).1.done (hearB b g).1.done (hearB b g).1.wait (hearB b g).1.v X' w' ∧ BTo P X S w X' S' w' := by
  obtain ⟨i0, hi, hz0, hz1, hz2⟩ := info_parts infogrC_
  obtain ⟨R, hR⟩ : ∃ R, R = hearB b g := ⟨_, rfl⟩
  rw [← hR]
  obtain ⟨GA, hGA⟩ : ∃ l, l = grL g x := ⟨_, rfl⟩
  have HAG := Lib.hid (show grA g x.dA x.dc x.oA x.oc = GA.toArray by rw [hGA]; rfl)
  have HGA7 := Lib.hid (show GA.length = 7 by rw [hGA]; rfl)
  have HG1 := Lib.hid (show ∀ u ∈ GA, u.oneCell' = true by rw [hGA]; exact ocgrC_ (g, x))
  have HGL := Lib.hid hGA
  have HINF := Lib.hid (show (Tryz.prog.info? 40).map (·.size) = some GA.length by rw [HGA7.out]; kernel_rfl)
  have hba : Below w.heap.size w (w.alloc (.cells GA.toArray 40)) := (Below.refl _ _).alloc (Nat.le_refl _) _
  have HC := Lib.hid (heap_alloc_new w (.cells GA.toArray 40))
  have HCK := Lib.hid (fun W (hB : Below w.heap.size w W) => check_any g x.dA x.dc x.oA x.oc S W (GrIn.agr hG (Agr.below hB)) hT1 (hTb.below hB))
  have HX := Lib.hid h
  have HOK := Lib.hid hok
  have HGG := Lib.hid hG
  rw [HAG.out] at HCK ⊢
  clear hT1 hTb hGA
  have HBA := Lib.hid hba
  have HXW := Lib.hid (h.below hba)
  have HOL := Lib.hid (fun q hq => (h.own_lt (k := q) hq).2)
  clear hba h hok hG
  cases hck : chkB g with
  | false =>
    obtain rfl : R = (b, 0, 80) := by rw [hR]; unfold hearB; rw [if_pos hck]
    rw [hck] at HCK
    have HCK2 : Hid (∀ W, Below w.heap.size w W → Calls Tryz.prog 43 #[.agg GA.toArray] W fun e w' => e = .returned (.int .i64 80) ∧ Below W.heap.size W w') := HCK
    clear HCK hck hR
    go_enter Tryz.func22, Tryz.ntmps22
    go_upto_region 1 with fail
    generalize hW : w.alloc (.cells GA.toArray 40) = W at *
    clear hW
    go_wp2_with (first
      | (refine load_at rfl _ _ rfl w.heap.size _ _ _ rfl HC.out Tryz.underlying40 rfl HINF.out ?_)
      | (go_at_call 43; refine (HCK2.out _ HBA.out).mono ?_; rintro e w1 ⟨rfl, hB1⟩))
    go_ret2
    exact ⟨rfl, X, S, HXW.out.below hB1, (BTo.of_below HBA.out).trans (BTo.of_below hB1)⟩
  | true =>
    rw [hck] at HCK
    have HCK2 : Hid (∀ W, Below w.heap.size w W → Calls Tryz.prog 43 #[.agg GA.toArray] W fun e w' => e = .returned (.int .i64 0) ∧ Below W.heap.size W w') := HCK
    clear HCK
    have hgr := (chk_right hck).1
    obtain ⟨kn, hkn⟩ : ∃ k, k = knownB b g := ⟨_, rfl⟩
    have HKN := Lib.hid (fun W (hB : Below w.heap.size w W) => (show Calls Tryz.prog 44 #[.pointer (some ⟨P, 0, none⟩), .agg GA.toArray] W fun e w' => e = .returned (.bool kn) ∧ Below W.heap.size W w' by
      rw [hkn, ← HAG.out]; exact bxknown_any (S2 := S) (HX.out.below hB) g x (fun d hd => (chk_right (HOK.out.chk d (List.mem_append.2 (.inl hd)))).1) hgr (by omega)))
    cases kn with
    | true =>
      obtain rfl : R = (b, 0, 210) := by rw [hR]; unfold hearB; rw [if_neg (by rw [hck]; decide), if_pos hkn.symm]
      clear hck hkn hR hgr
      go_enter Tryz.func22, Tryz.ntmps22
      go_upto_region 1 with fail
      generalize hW : w.alloc (.cells GA.toArray 40) = W at *
      clear hW
      go_wp2_with (first
        | (refine load_at rfl _ _ rfl w.heap.size _ _ _ rfl HC.out Tryz.underlying40 rfl HINF.out ?_)
        | (refine load_at rfl _ _ rfl w.heap.size _ _ _ rfl HC1.out Tryz.underlying40 rfl HINF.out ?_)
        | (go_at_call 43; refine (HCK2.out _ HBA.out).mono ?_; rintro e w1 ⟨rfl, hB1⟩; have HC1 := Lib.hid ((hB1.block w.heap.size (lt_of_block HC.out)).trans HC.out); have HB1 := Lib.hid (HBA.out.trans (hB1.mono HBA.out.size)); clear hB1)
        | (go_at_call 44; refine (HKN.out _ HB1.out).mono ?_; rintro e w2 ⟨rfl, hB2⟩))
      go_ret2
      exact ⟨rfl, X, S, (HX.out.below HB1.out).below hB2, (BTo.of_below HB1.out).trans (BTo.of_below hB2)⟩
    | false =>
      obtain ⟨hold, hnew⟩ := not_known hkn.symm
      have hdl := chk_dl hck
      obtain ⟨rd, hrd⟩ : ∃ r, r = readyB b.v g := ⟨_, rfl⟩
      have HRD := Lib.hid (fun W (hB : Below w.heap.size w W) => (show Calls Tryz.prog 45 #[.pointer (some ⟨P, 0, none⟩), .agg GA.toArray] W fun e w' => e = .returned (.bool rd) ∧ Below W.heap.size W w' by
        rw [hrd, ← HAG.out]; exact bxready_any (HX.out.below hB) g x (HGG.out.agr (Agr.below hB)) hdl))
      cases rd with
      | true =>
        obtain ⟨D, hD⟩ : ∃ D, D = drainF b.wait.length (b.put g) := ⟨_, rfl⟩
        obtain rfl : R = (D.1, D.2 + 1, 0) := by rw [hR, hD]; unfold hearB; rw [if_neg (by rw [hck]; decide), if_neg (by rw [← hkn]; decide), if_pos hrd.symm]
        have HPOK := Lib.hid (HOK.out.put hck hrd.symm hold hnew)
        have HDE := Lib.hid (fun W (hB : Below w.heap.size w W) => (show Calls Tryz.prog 46 #[.pointer (some ⟨P, 0, none⟩), .agg GA.toArray] W fun e w' => e = .returned (.tuple #[]) ∧ ∃ X' S', BoxIn B P S' (b.done ++ [g]) (b.done ++ [g]) b.wait (withV b.v g.s.r g.n) X' w' ∧ BTo P X S W X' S' w' by
          rw [← HAG.out]; exact bxdeliver_any (HX.out.below hB) g x (HGG.out.agr (Agr.below hB)) hgr (by omega) (by omega)))
        have HDR := Lib.hid (fun X1 S1 W (hX1 : BoxIn B P S1 (b.done ++ [g]) (b.done ++ [g]) b.wait (withV b.v g.s.r g.n) X1 W) => (show Calls Tryz.prog 47 #[.pointer (some ⟨P, 0, none⟩)] W fun e w' => e = .returned (.int .i64 (D.2 : Nat)) ∧ ∃ X' S', BoxIn B P S' D.1.done D.1.done D.1.wait D.1.v X' w' ∧ BTo P X1 S1 W X' S' w' by
          rw [hD]; exact bxdrain_any (b := b.put g) hX1 HPOK.out (by show b.wait.length ≤ 1000; omega) (by show (b.done ++ [g]).length + b.wait.length ≤ _; rw [List.length_append, List.length_singleton]; omega)))
        obtain ⟨nd, hnd⟩ : ∃ n, n = D.2 := ⟨_, rfl⟩
        have hnl : nd ≤ 1000000 := by rw [hnd, hD]; exact Nat.le_trans (drainF_cnt _ _) (by omega)
        rw [← hnd] at HDR ⊢
        clear hck hkn hR hgr hold hnew hrd hdl hnd hD
        go_enter Tryz.func22, Tryz.ntmps22
        go_upto_region 1 with fail
        generalize hW : w.alloc (.cells GA.toArray 40) = W at *
        clear hW
        go_wp2_with (first
          | (refine load_at rfl _ _ rfl w.heap.size _ _ _ rfl HC.out Tryz.underlying40 rfl HINF.out ?_)
          | (refine load_at rfl _ _ rfl w.heap.size _ _ _ rfl HC1.out Tryz.underlying40 rfl HINF.out ?_)
          | (refine load_at rfl _ _ rfl w.heap.size _ _ _ rfl HC2.out Tryz.underlying40 rfl HINF.out ?_)
          | (refine load_at rfl _ _ rfl w.heap.size _ _ _ rfl HC3.out Tryz.underlying40 rfl HINF.out ?_)
          | (go_at_call 43; refine (HCK2.out _ HBA.out).mono ?_; rintro e w1 ⟨rfl, hB1⟩; have HC1 := Lib.hid ((hB1.block w.heap.size (lt_of_block HC.out)).trans HC.out); have HB1 := Lib.hid (HBA.out.trans (hB1.mono HBA.out.size)); clear hB1)
          | (go_at_call 44; refine (HKN.out _ HB1.out).mono ?_; rintro e w2 ⟨rfl, hB2⟩; have HC2 := Lib.hid ((hB2.block w.heap.size (lt_of_block HC1.out)).trans HC1.out); have HB2 := Lib.hid (HB1.out.trans (hB2.mono HB1.out.size)); clear hB2)
          | (go_at_call 45; refine (HRD.out _ HB2.out).mono ?_; rintro e w3 ⟨rfl, hB3⟩; have HC3 := Lib.hid ((hB3.block w.heap.size (lt_of_block HC2.out)).trans HC2.out); have HB3 := Lib.hid (HB2.out.trans (hB3.mono HB2.out.size)); clear hB3)
          | (go_at_call 46; refine (HDE.out _ HB3.out).mono ?_; rintro e w4 ⟨rfl, X4, S4, hX4, hT4⟩; have HX4 := Lib.hid hX4; have HT4 := Lib.hid ((BTo.of_below HB3.out).trans hT4); clear hX4 hT4)
          | (go_at_call 47; refine (HDR.out X4 S4 _ HX4.out).mono ?_; rintro e w5 ⟨rfl, X5, S5, hX5, hT5⟩))
        go_ret2
        exact ⟨by rw [Int.natCast_add, Int.add_comm]; rfl, X5, S5, hX5, HT4.out.trans hT5⟩
      | false =>
        have hw : b.wait.length = X.M.length := HX.out.wlen.symm
        obtain ⟨wA, wc, hwv⟩ := row_slice HX.out.wait
        have HWV := Lib.hid hwv
        by_cases hfull : 100 ≤ b.wait.length
        · obtain rfl : R = (b, 0, 211) := by rw [hR]; unfold hearB; rw [if_neg (by rw [hck]; decide), if_neg (by rw [← hkn]; decide), if_neg (by rw [← hrd]; decide), if_pos hfull]
          have HPW := Lib.hid (fun W (hB : Below w.heap.size w W) => (show W.cell? ⟨P, 1, none⟩ = some (.slice wA X.M.length wc) by rw [(HX.out.below hB).cell, HWV.out]; rfl))
          have i1 : (100 : Int) ≤ (X.M.length : Int) := by omega
          clear hck hkn hR hgr hold hnew hrd hdl hw hwv hfull
          go_enter Tryz.func22, Tryz.ntmps22
          go_upto_region 1 with fail
          generalize hW : w.alloc (.cells GA.toArray 40) = W at *
          clear hW
          go_wp2_with (first
            | (refine load_at rfl _ _ rfl w.heap.size _ _ _ rfl HC.out Tryz.underlying40 rfl HINF.out ?_)
            | (refine load_at rfl _ _ rfl w.heap.size _ _ _ rfl HC1.out Tryz.underlying40 rfl HINF.out ?_)
            | (refine load_at rfl _ _ rfl w.heap.size _ _ _ rfl HC2.out Tryz.underlying40 rfl HINF.out ?_)
            | (go_at_call 43; refine (HCK2.out _ HBA.out).mono ?_; rintro e w1 ⟨rfl, hB1⟩; have HC1 := Lib.hid ((hB1.block w.heap.size (lt_of_block HC.out)).trans HC.out); have HB1 := Lib.hid (HBA.out.trans (hB1.mono HBA.out.size)); clear hB1)
            | (go_at_call 44; refine (HKN.out _ HB1.out).mono ?_; rintro e w2 ⟨rfl, hB2⟩; have HC2 := Lib.hid ((hB2.block w.heap.size (lt_of_block HC1.out)).trans HC1.out); have HB2 := Lib.hid (HB1.out.trans (hB2.mono HB1.out.size)); clear hB2)
            | (go_at_call 45; refine (HRD.out _ HB2.out).mono ?_; rintro e w3 ⟨rfl, hB3⟩; have HB3 := Lib.hid (HB2.out.trans (hB3.mono HB2.out.size)); have p3 := HPW.out _ HB3.out; clear hB3))
          go_ret2
          exact ⟨rfl, X, S, HX.out.below HB3.out, BTo.of_below HB3.out⟩
        · obtain rfl : R = (⟨b.done, b.wait ++ [g], b.v⟩, 0, 0) := by rw [hR]; unfold hearB; rw [if_neg (by rw [hck]; decide), if_neg (by rw [← hkn]; decide), if_neg (by rw [← hrd]; decide), if_neg hfull]
          have HPW := Lib.hid (fun W (hB : Below w.heap.size w W) => (show W.cell? ⟨P, 1, none⟩ = some (.slice wA X.M.length wc) by rw [(HX.out.below hB).cell, HWV.out]; rfl))
          have i1 : ¬ (100 : Int) ≤ (X.M.length : Int) := by omega
          have i1d : decide ((100 : Int) ≤ (X.M.length : Int)) = false := decide_eq_false i1
          have hml : X.M.length ≤ 100 := by omega
          clear hck hkn hR hgr hold hnew hrd hdl hw hwv hfull
          go_enter Tryz.func22, Tryz.ntmps22
          go_upto_region 1 with fail
          generalize hW : w.alloc (.cells GA.toArray 40) = W at *
          clear hW
          go_upto_region 11 with (first
            | (refine load_at rfl _ _ rfl w.heap.size _ _ _ rfl HC.out Tryz.underlying40 rfl HINF.out ?_)
            | (refine load_at rfl _ _ rfl w.heap.size _ _ _ rfl HC1.out Tryz.underlying40 rfl HINF.out ?_)
            | (refine load_at rfl _ _ rfl w.heap.size _ _ _ rfl HC2.out Tryz.underlying40 rfl HINF.out ?_)
            | (go_at_call 43; refine (HCK2.out _ HBA.out).mono ?_; rintro e w1 ⟨rfl, hB1⟩; have HC1 := Lib.hid ((hB1.block w.heap.size (lt_of_block HC.out)).trans HC.out); have HB1 := Lib.hid (HBA.out.trans (hB1.mono HBA.out.size)); clear hB1)
            | (go_at_call 44; refine (HKN.out _ HB1.out).mono ?_; rintro e w2 ⟨rfl, hB2⟩; have HC2 := Lib.hid ((hB2.block w.heap.size (lt_of_block HC1.out)).trans HC1.out); have HB2 := Lib.hid (HB1.out.trans (hB2.mono HB1.out.size)); clear hB2)
            | (go_at_call 45; refine (HRD.out _ HB2.out).mono ?_; rintro e w3 ⟨rfl, hB3⟩; have HC3 := Lib.hid ((hB3.block w.heap.size (lt_of_block HC2.out)).trans HC2.out); have HB3 := Lib.hid (HB2.out.trans (hB3.mono HB2.out.size)); have p3 := HPW.out _ HB3.out; clear hB3))
          have HX3 := Lib.hid (HX.out.below HB3.out)
          have HG3 := Lib.hid (HGG.out.agr (Agr.below HB3.out))
          have hw3 : w.heap.size < w3.heap.size := lt_of_block HC3.out
          have hP3 : P < w3.heap.size := lt_of_block HX3.out.obj
          have hPn : P < w.heap.size := HOL.out P (.inl rfl)
          have hPB : B ≤ P := HX3.out.hP
          obtain ⟨⟨t, r⟩, n, u, ⟨ut, ur⟩, ops⟩ := g
          obtain ⟨dA, dc, oA, oc⟩ := x
          have hga : GA = [.int .i64 t, .int .i64 r, .int .i64 n, .slice dA u.length dc, .int .i64 ut, .int .i64 ur, .slice oA ops.length oc] := HGL.out
          subst hga
          have HGL := Lib.hid (show [.int .i64 t, .int .i64 r, .int .i64 n, .slice dA u.length dc, .int .i64 ut, .int .i64 ur, .slice oA ops.length oc] = grC_ (⟨⟨t, r⟩, n, u, ⟨ut, ur⟩, ops⟩, ⟨dA, dc, oA, oc⟩) from rfl)
          refine wp_region_held (S := fun w' => w'.heap[w.heap.size]? = some (.cells ([.int .i64 t, .int .i64 r, .int .i64 n, .slice dA u.length dc, .int .i64 ut, .int .i64 ur, .slice oA ops.length oc] : List Value).toArray 40 (0, 0))) (by kernel_rfl) ?_
          try (change wpAnyH _ _ _ _ _ _ _ _ (World.drew _))
          refine wpAnyH_take (i := 0) (v := .pointer (some ⟨P, 0, none⟩)) rfl (by kernel_rfl) (by kernel_rfl) (by kernel_rfl) (fun _ _ _ h => h) (Or.inl ⟨by rfl, fun W' hW' => by go_simp⟩) ((show w3.drew.heap[w.heap.size]? = _ from HC3.out)) ?_
          go_simp
          refine wpAnyH_take (i := 1) (v := .pointer (some ⟨P, 0, none⟩)) rfl (by kernel_rfl) (by kernel_rfl) (by kernel_rfl) (fun _ _ _ h => h) (Or.inl ⟨by rfl, fun W' hW' => by go_simp⟩) ((show w3.drew.heap[w.heap.size]? = _ from HC3.out)) ?_
          go_simp
          refine wpAnyH_take (i := 2) (v := .pointer (some ⟨P, 0, none⟩)) rfl (by kernel_rfl) (by kernel_rfl) (by kernel_rfl) (fun _ _ _ h => h) (Or.inl ⟨by rfl, fun W' hW' => by go_simp⟩) ((show w3.drew.heap[w.heap.size]? = _ from HC3.out)) ?_
          go_simp
          refine wpAnyH_take (i := 3) (v := .pointer (some ⟨P, 1, none⟩)) rfl (by kernel_rfl) (by kernel_rfl) (by kernel_rfl) (fun _ _ _ h => h) (Or.inl ⟨by rfl, fun W' hW' => by go_simp⟩) ((show w3.drew.heap[w.heap.size]? = _ from HC3.out)) ?_
          go_simp
          refine wpAnyH_take (i := 5) (v := .agg ([.int .i64 t, .int .i64 r, .int .i64 n, .slice dA u.length dc, .int .i64 ut, .int .i64 ur, .slice oA ops.length oc] : List Value).toArray) rfl (by kernel_rfl) (by kernel_rfl) (by kernel_rfl) (fun _ _ _ h => h) (yieldsIf_load_mid (by rfl) _ _ rfl w.heap.size 0 rfl [.int .i64 t, .int .i64 r, .int .i64 n, .slice dA u.length dc, .int .i64 ut, .int .i64 ur, .slice oA ops.length oc] _ (fun W' hW' => range_of_block hW') Tryz.underlying40 rfl HINF.out) ((show w3.drew.heap[w.heap.size]? = _ from HC3.out)) ?_
          go_simp
          have HBA3 := Lib.hid (show Below w3.heap.size w3 (w3.alloc (.cells ([.int .i64 t, .int .i64 r, .int .i64 n, .slice dA u.length dc, .int .i64 ut, .int .i64 ur, .slice oA ops.length oc] : List Value).toArray 40)).drew from ⟨rfl, rfl, rfl, by simp, fun k hk => Below.heap_alloc _ _ _ hk⟩)
          have HCA := Lib.hid (show (w3.alloc (.cells ([.int .i64 t, .int .i64 r, .int .i64 n, .slice dA u.length dc, .int .i64 ut, .int .i64 ur, .slice oA ops.length oc] : List Value).toArray 40)).drew.heap[w.heap.size]? = _ from (Below.heap_alloc w3 (.cells ([.int .i64 t, .int .i64 r, .int .i64 n, .slice dA u.length dc, .int .i64 ut, .int .i64 ur, .slice oA ops.length oc] : List Value).toArray 40) _ hw3).trans HC3.out)
          have HDN := Lib.hid (HX3.out.wait.alloc (.cells ([.int .i64 t, .int .i64 r, .int .i64 n, .slice dA u.length dc, .int .i64 ut, .int .i64 ur, .slice oA ops.length oc] : List Value).toArray 40))
          have HNC := Lib.hid (fun (j : Nat) (y : Value) (h : ([.int .i64 t, .int .i64 r, .int .i64 n, .slice dA u.length dc, .int .i64 ut, .int .i64 ur, .slice oA ops.length oc] : List Value)[j]? = some y) => cellsN w3 [.int .i64 t, .int .i64 r, .int .i64 n, .slice dA u.length dc, .int .i64 ut, .int .i64 ur, .slice oA ops.length oc] 40 j y h)
          have hsA : (w3.alloc (.cells ([.int .i64 t, .int .i64 r, .int .i64 n, .slice dA u.length dc, .int .i64 ut, .int .i64 ur, .slice oA ops.length oc] : List Value).toArray 40)).drew.heap.size = w3.heap.size + 1 := by show (w3.alloc _).heap.size = _; simp
          have pA3 : (w3.alloc (.cells ([.int .i64 t, .int .i64 r, .int .i64 n, .slice dA u.length dc, .int .i64 ut, .int .i64 ur, .slice oA ops.length oc] : List Value).toArray 40)).drew.cell? ⟨P, 1, none⟩ = some (.slice wA X.M.length wc) := by show (w3.alloc _).cell? _ = _; rw [cell_of_row _ _ _ _ _ _ ((Below.heap_alloc w3 (.cells ([.int .i64 t, .int .i64 r, .int .i64 n, .slice dA u.length dc, .int .i64 ut, .int .i64 ur, .slice oA ops.length oc] : List Value).toArray 40) P hP3).trans HX3.out.obj), HWV.out]; rfl
          have hgl7 : ([.int .i64 t, .int .i64 r, .int .i64 n, .slice dA u.length dc, .int .i64 ut, .int .i64 ur, .slice oA ops.length oc] : List Value).length = 1 * 7 := HGA7.out
          rw [HWV.out] at HDN
          refine wpAnyH_ready (rs := [4, 6]) (by kernel_rfl) (by simp) ?_
          refine AllReadyH.cons rfl (fun K hK => ?_) (AllReadyH.cons rfl (fun K hK => ?_) AllReadyH.nil)
          focus
            go_simp
            refine hK.out _ _ ((show w3.drew.heap[w.heap.size]? = _ from HC3.out)) (fun _ => ?_)
            clear hK K
            refine wpAnyH_ready (rs := [6]) (by kernel_rfl) (by simp) ?_
            refine AllReadyH.cons rfl (fun K hK => ?_) AllReadyH.nil
            go_simp
            refine hK.out _ _ (HCA.out) (fun _ => ?_)
            clear hK K
          rotate_left
          focus
            go_simp
            refine hK.out _ _ (HCA.out) (fun _ => ?_)
            clear hK K
            refine wpAnyH_ready (rs := [4]) (by kernel_rfl) (by simp) ?_
            refine AllReadyH.cons rfl (fun K hK => ?_) AllReadyH.nil
            go_simp
            refine hK.out _ _ (HCA.out) (fun _ => ?_)
            clear hK K
          all_goals
            refine wpAnyH_ready (rs := [7]) (by kernel_rfl) (by simp) ?_
            refine AllReadyH.cons rfl (fun K hK => ?_) AllReadyH.nil
            refine step_append_lies _ (by rfl) _ _ 23 (by rfl) B 40 i0 (.agg #[.int .i64 0, .int .i64 0, .int .i64 0, .slice none 0 0, .int .i64 0, .int .i64 0, .slice none 0 0]) 7 88 Tryz.underlying23 hi hz0 hz1 hz2 rfl (by decide) (.slice wA X.M.length wc) X.M.length _ (by rfl) (by exact HDN.out) ⟨w3.heap.size, 0, none⟩ 1 1 [.int .i64 t, .int .i64 r, .int .i64 n, .slice dA u.length dc, .int .i64 ut, .int .i64 ur, .slice oA ops.length oc] (by rfl) hgl7 (by exact HNC.out) HG1.out (by decide) (by unfold maxLen; omega) (by omega) (by rw [hsA]; omega) (w3.heap.size + 1) hsA ?_
            intro gq cap w5 hown1 hgrow hat hlt3
            rw [← HWV.out] at hgrow hat
            have hgne : some w.heap.size ≠ X.wv.ownBlock := fun e => by have := HOL.out _ (.inr (.inr (.inr e.symm))); omega
            have HC5 := Lib.hid ((hgrow.block w.heap.size (by rw [hsA]; omega) hgne).trans HCA.out)
            have hPd : some P ≠ X.wv.ownBlock := fun e => HX3.out.wP e.symm
            have hob := (hgrow.block P (by rw [hsA]; omega) hPd).trans ((HBA3.out.block P hP3).trans HX3.out.obj)
            have d5 : w5.cell? ⟨P, 1, none⟩ = some (.slice wA X.M.length wc) := by rw [cell_of_row _ _ _ _ _ _ hob, HWV.out]; rfl
            have f5 : w5.frozen? ⟨P, 1, none⟩ = false := frozen_of_row _ _ _ _ _ hob
            have hown2 : w5.ownsRow B 40 7 (.slice (some ⟨gq, 0, none⟩) (X.M.length + 1) cap) (X.M ++ [((⟨⟨t, r⟩, n, u, ⟨ut, ur⟩, ops⟩ : Grp), (⟨dA, dc, oA, oc⟩ : GrX))]).length ((X.M ++ [((⟨⟨t, r⟩, n, u, ⟨ut, ur⟩, ops⟩ : Grp), (⟨dA, dc, oA, oc⟩ : GrX))]).flatMap grC_) := by rw [List.length_append, List.flatMap_append, List.flatMap_singleton]; rw [HGL.out] at hown1; exact hown1
            have HPUT := Lib.hid (HX3.out.wset (wv' := .slice (some ⟨gq, 0, none⟩) (X.M.length + 1) cap) (M' := X.M ++ [((⟨⟨t, r⟩, n, u, ⟨ut, ur⟩, ops⟩ : Grp), (⟨dA, dc, oA, oc⟩ : GrX))]) HBA3.out hgrow hown2 (hat.elim (fun e => .inl (by rw [e]; rfl)) (fun e => .inr (by rw [e, hsA]; rfl))) (fun p hp => by rcases List.mem_append.1 hp with hp | hp; exact HX3.out.good p (List.mem_append.2 (.inr hp)); rw [List.mem_singleton] at hp; rw [hp]; exact HG3.out))
            clear hown1 hown2 hgrow hat hgne hPd hlt3 hob
            refine hK.out _ _ (HC5.out) (fun _ => ?_)
            clear hK K
            refine wpAnyH_take (i := 8) (v := .pointer (some ⟨P, 0, none⟩)) rfl (by kernel_rfl) (by kernel_rfl) (by kernel_rfl) (fun _ _ _ h => h) (Or.inl ⟨by rfl, fun W' hW' => by go_simp⟩) (HC5.out) ?_
            go_simp
            refine wpAnyH_take (i := 9) (v := .pointer (some ⟨P, 1, none⟩)) rfl (by kernel_rfl) (by kernel_rfl) (by kernel_rfl) (fun _ _ _ h => h) (Or.inl ⟨by rfl, fun W' hW' => by go_simp⟩) (HC5.out) ?_
            go_simp
            refine wpAnyH_ready (rs := [10]) (by kernel_rfl) (by simp) ?_
            refine AllReadyH.cons rfl (fun K hK => ?_) AllReadyH.nil
            go_simp
            have HC6 := Lib.hid ((Below.heap_setCell w5 ⟨P, 1, none⟩ (.slice (some ⟨gq, 0, none⟩) (X.M.length + 1) cap) w.heap.size (by show w.heap.size ≠ P; omega)).trans HC5.out)
            refine hK.out _ _ (HC6.out) (fun _ => ?_)
            clear hK K
            refine wpAnyH_done (by kernel_rfl) ?_ _
            go_simp
            obtain ⟨hX6, hT6⟩ := HPUT.out
            go_wp2
            go_ret2
            refine ⟨rfl, _, S, ?_, (BTo.of_below HB3.out).trans hT6⟩
            have := hX6
            rw [List.map_append, HX3.out.wl] at this
            exact this
end Go.Proofs.YtalgbcgiiphoaaaGreatDoor
