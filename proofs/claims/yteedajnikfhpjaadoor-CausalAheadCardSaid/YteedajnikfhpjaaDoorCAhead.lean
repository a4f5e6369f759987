/- CausalAhead: what is delivered has its Deps ahead of it. Conditions: lengths in reach; the tables of utf8. -/
import Derived.Test.YteedajnikfhpjaaDoorAhead
import Derived.Test.YteedajnikfhpjaaDoorAw21
import Derived.Test.YteedajnikfhpjaaDoorBoxM
namespace Go.Proofs.YteedajnikfhpjaaDoor
open Go.RowKit Go.Lib Go.Sort
set_option linter.unusedVariables false
attribute [local go_sem ↓] Go.wp_at_zero Go.wp_at_succ
/-- a box that has heard of some groups -/
structure Heard (B P : Nat) (X0 : BoxX) (S0 : Nat → Prop) (w0 : World) (n : Nat) (T : Grp → Prop) (b : Bx) (wr : World) : Prop where
  ok : BxOk b
  wl : b.wait.length ≤ 100
  len : b.done.length + b.wait.length ≤ n
  txt : ∀ g ∈ b.done ++ b.wait, T g
  box : ∃ X S, BoxIn B P S b.done b.done b.wait b.v X wr ∧ BTo P X0 S0 w0 X S wr
theorem Heard.hear {B P : Nat} {X0 : BoxX} {S0 : Nat → Prop} {w0 wr : World} {n : Nat} {T : Grp → Prop} {b : Bx} (h : Heard B P X0 S0 w0 n T b wr) (hn : n ≤ 999999) (h0 : ∀ k, S0 k → ¬ Own P X0 k) (p : Grp × GrX) (hG : GrG w0 S0 p) (hT : T p.1) (hTx : ∀ o ∈ p.1.ops, o.text.size < 9223372036854775807) (hTb : Tabs wr) :
    Calls Tryd.prog 6 #[.pointer (some ⟨P, 0, none⟩), .agg (grA p.1 p.2.dA p.2.dc p.2.oA p.2.oc)] wr fun e w' => e = .returned (.tuple #[.int .i64 ((hearB b p.1).2.1 : Nat), .int .i64 (hearB b p.1).2.2]) ∧ Heard B P X0 S0 w0 (n + 1) T (hearB b p.1).1 w' := by
  obtain ⟨X, S, hX, hT1⟩ := h.box
  refine (bxhear_any hX h.ok p.1 p.2 ((hG.agr (hT1.gr.agr fun k _ hk => h0 k hk)).sub fun k _ hk => hT1.more k hk) hTx hTb h.wl (by have := h.len; omega)).mono ?_
  rintro e w' ⟨rfl, X', S', hX', hT'⟩
  have hl := hearB_len b p.1 h.wl
  have := h.len
  refine ⟨rfl, hearB_ok h.ok _, hl.1, by omega, fun g hg => ?_, X', S', hX', hT1.trans hT'⟩
  rcases hearB_mem b p.1 g hg with h1 | rfl
  · exact h.txt g h1
  · exact hT
theorem Heard.below {B P : Nat} {X0 : BoxX} {S0 : Nat → Prop} {w0 wr w' : World} {n : Nat} {T : Grp → Prop} {b : Bx} (h : Heard B P X0 S0 w0 n T b wr) (hb : Below wr.heap.size wr w') : Heard B P X0 S0 w0 n T b w' := by
  obtain ⟨X, S, hX, hT⟩ := h.box
  exact ⟨h.ok, h.wl, h.len, h.txt, X, S, hX.below hb, hT.trans (BTo.of_below hb)⟩
theorem Heard.gr {B P : Nat} {X0 : BoxX} {S0 : Nat → Prop} {w0 wr : World} {n : Nat} {T : Grp → Prop} {b : Bx} (h : Heard B P X0 S0 w0 n T b wr) : GrB (Own P X0) w0 wr := by
  obtain ⟨X, S, hX, hT⟩ := h.box
  exact hT.gr
theorem Heard.new {w w' : World} {T : Grp → Prop} (hw : w' = (w.alloc (.map #[] 0)).alloc (.cells #[.slice none 0 0, .slice none 0 0, .map (some w.heap.size), .slice none 0 0] 49)) : Heard w.heap.size (w.heap.size + 1) (boxN w) (Here w) w' 0 T Bx.new w' :=
  ⟨BxOk.new, Nat.zero_le _, Nat.le_refl _, fun g hg => (by cases hg), boxN w, Here w, BoxIn.made (Nat.le_refl _) (fun k hk => hk) hw, BTo.refl⟩
set_option maxRecDepth 100000 in
set_option maxHeartbeats 8000000 in
theorem causalahead_any (L : List (Grp × GrX)) (A : Option Addr) (c : Nat) (W : World) (hc : L.length ≤ c) (hm : c ≤ maxLen) (hG : GrsS W (Here W) A L) (hT : ∀ p ∈ L, ∀ o ∈ p.1.ops, o.text.size < 9223372036854775807) (htab : Tabs W) :
    Calls Tryd.prog 4 #[.slice A L.length c] W fun e w' => e = .returned (.bool true) ∧ Below W.heap.size W w' := by
  have HTB := Lib.hid htab
  have HG := Lib.hid hG
  have HT := Lib.hid hT
  have HFW := Lib.hid (fun W' (h : Below W.heap.size W W') => few21_any L A c W' hc hm ⟨RowG.sub (RowG.agr hG.rows (Agr.below h)) (fun b hb hs => hb), fun p hp => ((hG.good p hp).agr (Agr.below h)).sub (fun b hb hs => hb)⟩)
  clear hG hT htab
  cases hf : fewL (L.map Prod.fst) with
  | false =>
    rw [hf] at HFW
    clear hf
    go_enter Tryd.func4, Tryd.ntmps4
    go_wp2_with (first
      | (go_at_call 8; refine (awake21_any W HTB.out).mono ?_; rintro e w1 ⟨rfl, hB1⟩; have HB1 := Lib.hid hB1; clear hB1)
      | (go_at_call 11; refine (HFW.out w1 HB1.out).mono ?_; rintro e w2 ⟨rfl, hB2⟩; have HB2 := Lib.hid (HB1.out.trans (hB2.mono HB1.out.size)); clear hB2))
    go_ret
    exact ⟨rfl, HB2.out⟩
  | true =>
    obtain ⟨hl20, hfw⟩ := fewL_of hf
    rw [hf] at HFW
    have HFX := Lib.hid (show ∀ p ∈ L, ∀ o ∈ p.1.ops, o.text.size ≤ 1000000 from fun p hp o ho => by
      have h1 := hfw p.1 (List.mem_map.2 ⟨p, hp, rfl⟩)
      have := ((fewG_text h1.1 (by omega)).2 o ho).1
      omega)
    rw [List.length_map] at hl20
    clear hf hfw
    go_enter Tryd.func4, Tryd.ntmps4
    go_upto_region 10 with (first
      | (go_at_call 8; refine (awake21_any W HTB.out).mono ?_; rintro e w1 ⟨rfl, hB1⟩; have HB1 := Lib.hid hB1; clear hB1)
      | (go_at_call 11; refine (HFW.out w1 HB1.out).mono ?_; rintro e w2 ⟨rfl, hB2⟩; have HB2 := Lib.hid (HB1.out.trans (hB2.mono HB1.out.size)); clear hB2)
      | (go_at_call 5; refine (bxnew_any w2).mono ?_; rintro e w3 ⟨rfl, hw3⟩; have HW3 := Lib.hid hw3; clear hw3))
    have HH := Lib.hid (Heard.new (T := fun g => ∀ o ∈ g.ops, o.text.size ≤ 1000000) HW3.out)
    have hb3 : Below w2.heap.size w2 w3 := by rw [HW3.out]; exact ((Below.refl _ _).alloc (Nat.le_refl _) _).alloc (by simp) _
    have hs2 := HB2.out.size
    have HB3 := Lib.hid (HB2.out.trans (hb3.mono hs2))
    have hs3 := hb3.size
    have hs4 : w2.heap.size + 1 < w3.heap.size := by rw [HW3.out]; simp
    have HG3 := Lib.hid (show GrsS w3 (Here w2) A L from ⟨RowG.sub (RowG.agr HG.out.rows (Agr.below HB3.out)) (fun b hb hs => Nat.lt_of_lt_of_le hs hs2), fun p hp => ((HG.out.good p hp).agr (Agr.below HB3.out)).sub (fun b hb hs => Nat.lt_of_lt_of_le hs hs2)⟩)
    have HOW := Lib.hid (show ∀ k, Here w2 k → ¬ Own (w2.heap.size + 1) (boxN w2) k from fun k hk h => by have hk : k < w2.heap.size := hk; rcases own_new_iff h with h | h <;> omega)
    have HOB := Lib.hid (show ∀ k, Own (w2.heap.size + 1) (boxN w2) k → W.heap.size ≤ k from fun k h => by rcases own_new_iff h with h | h <;> omega)
    clear HW3 hb3 hs2 hs4 hs3
    go_loopw [5] (fun i wr => ∃ (j : Nat) (b : Bx), j ≤ L.length ∧ i = .int .i64 j ∧ Hid (Heard w2.heap.size (w2.heap.size + 1) (boxN w2) (Here w2) w3 j (fun g => ∀ o ∈ g.ops, o.text.size ≤ 1000000) b wr)) (fun i _ => L.length - (RowKit.intOf i).toNat)
    case atStart => exact ⟨0, Bx.new, by omega, rfl, HH⟩
    case round =>
      obtain ⟨j, bx, hj, rfl, HJ⟩ := hrel
      have HBr := Lib.hid (HB3.out.trans (HJ.out.gr.below HB3.out.size HOB.out))
      by_cases hlt : j < L.length
      · have i0 : (0 : Int) ≤ (j : Int) := by omega
        have i1 : (j : Int) < (L.length : Int) := by omega
        have hRr : RowGr wr A L := (HG3.out.agr (HJ.out.gr.agr fun k _ h => HOW.out k h)).row
        obtain ⟨b, o, rfl, hb, hrg⟩ := hRr.range hlt
        have hm : L.getD j gp0 ∈ L := by rw [List.getD_eq_getElem?_getD, List.getElem?_eq_getElem hlt]; exact List.getElem_mem hlt
        have HE := Lib.hid (HJ.out.hear (by omega) HOW.out (L.getD j gp0) (HG3.out.good _ hm) (HFX.out _ hm) (HT.out _ hm) (HTB.out.below HBr.out))
        generalize L.getD j gp0 = p at *
        obtain ⟨GA, hGA⟩ : ∃ l : List Value, l = grL p.1 p.2 := ⟨_, rfl⟩
        rw [show grA p.1 p.2.dA p.2.dc p.2.oA p.2.oc = GA.toArray by rw [hGA]; rfl] at HE
        have HRG := Lib.hid (show wr.rangeAt b (o + j * 7) GA by rw [hGA]; exact hrg)
        have HN := Lib.hid (show (Tryd.prog.info? 34).map (·.size) = some GA.length by rw [hGA]; kernel_rfl)
        clear hGA hrg hRr
        go_wp2_with (first
          | (refine wpList_load_mid rfl _ _ rfl b (o + j * 7) rfl GA _ HRG.out Tryd.underlying34 rfl HN.out ?_)
          | (go_at_call 6; refine HE.out.mono ?_; rintro e w5 ⟨rfl, hH5⟩))
        have HH5 := Lib.hid hH5
        clear hH5
        go_roundw
        case rel => exact ⟨j + 1, _, by omega, by go_num, HH5⟩
        case measure => (simp [RowKit.intOf]; omega)
      · obtain rfl : j = L.length := by omega
        have i1 : ¬ (L.length : Int) < (L.length : Int) := by omega
        obtain ⟨X, S, hX, hTo⟩ := HJ.out.box
        have hdl : X.L.map Prod.fst = bx.done := hX.dl
        have hln := HJ.out.len
        have HD := Lib.hid (bxdone_any hX (by omega))
        have HGD := Lib.hid (show ∀ p ∈ X.L, GrG wr S p from fun p hp => hX.good p (List.mem_append.2 (.inl hp)))
        have HTD := Lib.hid (show ∀ p ∈ X.L, ∀ o ∈ p.1.ops, o.text.size ≤ 1000000 from fun p hp => HJ.out.txt p.1 (List.mem_append.2 (.inl (by rw [← hdl]; exact List.mem_map.2 ⟨p, hp, rfl⟩))))
        have HAV := Lib.hid (show aheadV [] (X.L.map Prod.fst) = some bx.v by rw [hdl]; exact HJ.out.ok.ahead)
        have hxl : X.L.length ≤ 1000000 := by rw [hX.dlen]; omega
        rw [← hX.dlen] at HD
        clear hX hTo hdl
        go_wp2_with (first
          | (go_at_call 9; refine HD.out.mono ?_; rintro e w6 ⟨A6, c6, rfl, hown, hB6⟩)
          | (go_at_call 12; refine (lawahead_any X.L A6 c6 S w6 hxl (RowGr.own hown) (fun p hp => (HGD.out p hp).agr (Agr.below hB6)) HTD.out bx.v HAV.out).mono ?_; rintro e w7 ⟨rfl, hB7⟩))
        go_ret
        exact ⟨rfl, HBr.out.trans ((hB6.trans (hB7.mono hB6.size)).mono HBr.out.size)⟩
end Go.Proofs.YteedajnikfhpjaaDoor
