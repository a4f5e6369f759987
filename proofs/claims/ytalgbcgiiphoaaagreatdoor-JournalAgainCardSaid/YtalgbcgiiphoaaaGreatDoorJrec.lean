/- What Recover of journal computes. Conditions: lengths in reach; the tables of utf8. -/
import Derived.Test.YtalgbcgiiphoaaaGreatDoorJrnP
import Derived.Test.YtalgbcgiiphoaaaGreatDoorDec
import Derived.Test.YtalgbcgiiphoaaaGreatDoorBxCl
import Derived.Test.YtalgbcgiiphoaaaGreatDoorBoxM
import Derived.Deep.LoopGhost
import Derived.WalkMore
namespace Go.Proofs.YtalgbcgiiphoaaaGreatDoor
open Go.RowKit Go.Lib Go.Sort
set_option linter.unusedVariables false
attribute [local go_sem ↓] Go.wp_at_zero Go.wp_at_succ
def shortG (g : Grp) : Prop := ∀ o ∈ g.ops, o.text.size ≤ 1000000
/-- in the midst of what is recovered -/
structure RecAt (P : Nat) (s : ByteArray) (w wr : World) (b : Bx) (r : ByteArray) : Prop where
  rcv : ∀ b2 r2, Rec Crc.tab b r b2 r2 → Rec Crc.tab Bx.new s b2 r2
  ok : BxOk b
  wt : b.wait = []
  len : b.done.length + r.size ≤ s.size
  txt : ∀ g ∈ b.done ++ b.wait, shortG g
  low : Below w.heap.size w wr
  box : ∃ X S, BoxIn w.heap.size P S b.done b.done b.wait b.v X wr ∧ ∀ k, S k → w.heap.size ≤ k
/-- what Recover answers -/
def RecQ (s : ByteArray) (w : World) (e : Ending) (w' : World) : Prop := ∃ (b2 : Bx) (r2 : ByteArray) (L : List (Grp × GrX)) (A' : Option Addr) (c' : Nat), Rec Crc.tab Bx.new s b2 r2 ∧ L.map Prod.fst = b2.done ∧ e = .returned (.tuple #[.slice A' L.length c', .int .i64 ((s.size - r2.size : Nat) : Int), .int .i64 0]) ∧ w'.ownsRow w.heap.size 40 7 (.slice A' L.length c') L.length (L.flatMap grC_) ∧ (∀ p ∈ L, GrG w' (fun k => w.heap.size ≤ k) p) ∧ (∀ p ∈ L, shortG p.1) ∧ Below w.heap.size w w'
theorem RecAt.below {P : Nat} {s r : ByteArray} {w wr w' : World} {b : Bx} (h : RecAt P s w wr b r) (hb : Below wr.heap.size wr w') : RecAt P s w w' b r := by
  obtain ⟨X, S, h1, h2⟩ := h.box
  exact ⟨h.rcv, h.ok, h.wt, h.len, h.txt, h.low.trans (hb.mono h.low.size), X, S, h1.below hb, h2⟩
theorem RecAt.hear {P : Nat} {s r : ByteArray} {w wr w1 : World} {b : Bx} (h : RecAt P s w wr b r) (hs : s.size ≤ 900000) (p : Grp × GrX) (hb : Below wr.heap.size wr w1) (hG : GrG w1 (fun k => wr.heap.size ≤ k) p) (hT : shortG p.1) (hTb : Tabs w1) :
    Calls Tryz.prog 22 #[.pointer (some ⟨P, 0, none⟩), .agg (grA p.1 p.2.dA p.2.dc p.2.oA p.2.oc)] w1 fun e w' => e = .returned (.tuple #[.int .i64 ((hearB b p.1).2.1 : Nat), .int .i64 (hearB b p.1).2.2]) ∧ Below w.heap.size w w' ∧ BxOk (hearB b p.1).1 ∧ (∀ g ∈ (hearB b p.1).1.done ++ (hearB b p.1).1.wait, shortG g) ∧ ∃ X S, BoxIn w.heap.size P S (hearB b p.1).1.done (hearB b p.1).1.done (hearB b p.1).1.wait (hearB b p.1).1.v X w' ∧ ∀ k, S k → w.heap.size ≤ k := by
  have h1 := h.below hb
  obtain ⟨X, S, hX0, hS⟩ := h.box
  have hX := hX0.below hb
  have hsz := h.low.size
  have hlen := h.len
  have hX2 : BoxIn w.heap.size P (fun k => S k ∨ (wr.heap.size ≤ k ∧ k < w1.heap.size)) b.done b.done b.wait b.v X w1 := hX.sup (fun k hk => .inl hk) (fun k hk => hk.imp id (fun h => ⟨h.2, fun ho => by have := (hX0.own_lt ho).2; omega⟩))
  have hGS : GrG w1 (fun k => S k ∨ (wr.heap.size ≤ k ∧ k < w1.heap.size)) p := hG.sub fun k hk h => .inr ⟨h, hk⟩
  refine (bxhear_any hX2 h.ok p.1 p.2 hGS (fun o ho => by have := hT o ho; omega) hTb (by rw [h.wt]; exact Nat.zero_le _) (by rw [h.wt]; simp; omega)).mono ?_
  rintro e w' ⟨rfl, X', S', hX', hTo⟩
  refine ⟨rfl, h1.low.trans (hTo.gr.below h1.low.size fun k hk => (hX2.own_lt hk).1), hearB_ok h.ok _, fun g hg => ?_, X', S', hX', fun k hk => ?_⟩
  · rcases hearB_mem b p.1 g hg with h9 | rfl
    · exact h.txt g h9
    · exact hT
  · rcases hTo.new k hk with (h9 | h9) | h9
    · exact hS k h9
    · omega
    · have := hb.size; omega
/-- what is left to show at the end -/
theorem rec_fin {s r2 : ByteArray} {w wx w' : World} {b2 : Bx} {P : Nat} {X : BoxX} {S : Nat → Prop} {A : Option Addr} {c : Nat} (hX : BoxIn w.heap.size P S b2.done b2.done b2.wait b2.v X wx) (hS : ∀ k, S k → w.heap.size ≤ k) (hT : ∀ g ∈ b2.done ++ b2.wait, shortG g) (hR : Rec Crc.tab Bx.new s b2 r2) (hlow : Below w.heap.size w wx)
    (hown : w'.ownsRow wx.heap.size 40 7 (.slice A X.L.length c) X.L.length (X.L.flatMap grC_)) (hB : Below wx.heap.size wx w') : RecQ s w (.returned (.tuple #[.slice A X.L.length c, .int .i64 ((s.size - r2.size : Nat) : Int), .int .i64 0])) w' := by
  refine ⟨b2, r2, X.L, A, c, hR, hX.dl, rfl, ?_, fun p hp => ?_, fun p hp => ?_, hlow.trans (hB.mono hlow.size)⟩
  · have h9 := hlow.size
    rcases hown.2 with ⟨e1, e2⟩ | ⟨g, cap, cur, e1, e2, e3⟩
    · exact ⟨hown.1, .inl ⟨e1, e2⟩⟩
    · exact ⟨hown.1, .inr ⟨g, cap, cur, e1, by omega, e3⟩⟩
  · exact ((hX.good p (List.mem_append.2 (.inl hp))).agr (Agr.below hB)).sub fun k _ hk => hS k hk
  · exact hT p.1 (List.mem_append.2 (.inl (by rw [← hX.dl]; exact List.mem_map.2 ⟨p, hp, rfl⟩)))
theorem rest_next {s r x r2 : ByteArray} {k : Nat} (h : s.extract k s.size = r) (hn : nextS Crc.tab r = .ok x r2) : s.extract (s.size - r2.size) s.size = r2 := by
  have h1 := (next_bytes hn).1
  apply bs_ext
  rw [bs_suf]
  have h2 : r.data.toList = s.data.toList.drop k := by rw [← h, bs_suf]
  rw [h1, bs_app] at h2
  have hl := congrArg List.length h2
  rw [List.length_append, List.length_drop, bs_len, bs_len, bs_len] at hl
  have hfs : 4 ≤ (frameS Crc.tab x).size := by rw [frame_size]; omega
  rw [show s.size - r2.size = k + (frameS Crc.tab x).data.toList.length by rw [bs_len]; omega, ← List.drop_drop, ← h2, List.drop_left]
set_option maxRecDepth 100000 in
set_option maxHeartbeats 8000000 in
theorem recover_bad (A : Option Addr) (m cap : Nat) (hm : m ≠ 256) (s : ByteArray) (w : World) :
    Calls Tryz.prog 7 #[.slice A m cap, .string s] w fun e w' => e = .returned (.tuple #[.slice none 0 0, .int .i64 0, .int .i64 1]) ∧ w = w' := by
  have t1 : ((m : Int) != 256) = true := by rw [bne_iff_ne]; omega
  go_enter Tryz.func7, Tryz.ntmps7
  go_wp2
  go_step3
  go_wp2
  try rw [Exit.noGoto_ret]
  go_ret3
  exact ⟨rfl, rfl⟩
set_option maxRecDepth 100000 in
set_option maxHeartbeats 8000000 in
theorem recover_any (A : Option Addr) (cap : Nat) (s : ByteArray) (w : World) (hs : s.size ≤ 900000) (hTab : TabRow w A Crc.tab) (hTb : Tabs w) :
    Calls Tryz.prog 7 #[.slice A 256 cap, .string s] w fun e w' => RecQ s w e w' := by
  have HTAB := Lib.hid (fun W (hB : Below w.heap.size w W) => hTab.go hB)
  have HTB := Lib.hid hTb
  obtain ⟨m, hm⟩ : ∃ m, m = s.size := ⟨_, rfl⟩
  have HM := Lib.hid hm
  have hm63 : m ≤ 900000 := by omega
  clear hTab hTb hm hs
  go_enter Tryz.func7, Tryz.ntmps7
  go_wp2
  go_step3
  go_wp2_with (go_at_call 19; refine (bxnew_any w).mono ?_; rintro e w1 ⟨rfl, hw1⟩; have HW1 := Lib.hid hw1; clear hw1)
  go_wp2
  have hbx := BoxIn.made (S := fun _ => False) (B := w.heap.size) (Nat.le_refl _) (fun k hk => hk.elim) HW1.out
  have HR0 := Lib.hid (show RecAt (w.heap.size + 1) s w w1 Bx.new s from ⟨fun b2 r2 h => h, BxOk.new, rfl, by show 0 + s.size ≤ s.size; omega, fun g hg => (by cases hg), by rw [HW1.out]; exact ((Below.refl _ _).alloc (Nat.le_refl _) _).alloc (by simp) _, boxN w, fun _ => False, hbx, fun k hk => hk.elim⟩)
  clear hbx HW1
  go_step3
  go_wp2
  go_loopg [5] m (fun gr u wr => ∃ (b : Bx) (k : Nat) (r : ByteArray), u = .int .i64 k ∧ k + gr = m ∧ Hid (r.size = gr) ∧ Hid (s.extract k s.size = r) ∧ Hid (RecAt (w.heap.size + 1) s w wr b r))
  case atStart => exact ⟨Bx.new, 0, s, rfl, by omega, Lib.hid HM.out.symm, Lib.hid (by simp), HR0⟩
  case round =>
    obtain ⟨b, k, r, rfl, hkm, HRZ, HRS, HRA⟩ := hrel
    have hkm2 : k ≤ m := by omega
    have i1 : (0 : Int) ≤ (k : Int) := by omega
    have i2 : (k : Int) ≤ (m : Int) := by omega
    have i3 : (k : Int) ≤ (s.size : Int) := by rw [← HM.out]; exact i2
    have hrl : r.size ≤ s.size := by have := HRA.out.len; omega
    have hke : k = s.size - r.size := by have := HM.out; have := HRZ.out; omega
    have HKE := Lib.hid hke
    have hs9 : s.size ≤ 900000 := by have := HM.out; omega
    have HS9 := Lib.hid hs9
    have HNX := Lib.hid (next_any A cap Crc.tab tabIs r (by omega) wr (HTAB.out wr HRA.out.low))
    clear hrl hke hs9
    cases hnx : nextS Crc.tab r with
    | err c =>
      rw [hnx] at HNX
      have c0 : ((c : Int) != 0) = true := by rw [bne_iff_ne]; have := next_errne hnx; omega
      have HST := Lib.hid (HRA.out.rcv b r (.stop1 hnx))
      clear hnx
      go_wp2_with (go_at_call 20; rw [HRS.out]; refine HNX.out.mono ?_; rintro e w2 ⟨rfl, hB2⟩; have HR2 := Lib.hid (HRA.out.below hB2); clear hB2)
      have HST9 := Lib.hid (HST.out)
      obtain ⟨X9, S9, hX9, hS9⟩ := HR2.out.box
      have hl9 : b.done.length ≤ 1000000 := by have h8 := HR2.out.len; have h7 := HS9.out; omega
      have HDN := Lib.hid (bxdone_any hX9 hl9)
      rw [← hX9.dlen] at HDN
      have HFN := Lib.hid (fun w' A c hown hB => rec_fin (w' := w') (A := A) (c := c) hX9 hS9 HR2.out.txt HST9.out HR2.out.low hown hB)
      rw [← HKE.out] at HFN
      clear hX9 hS9 hl9
      go_wp2_with (go_at_call 23; refine HDN.out.mono ?_; rintro e w9 ⟨A9, c9, rfl, hown9, hB9⟩)
      try rw [Exit.noGoto_ret]
      go_ret3
      exact HFN.out _ _ _ hown9 hB9
    | ok x r2 =>
      rw [hnx] at HNX
      have hnb := next_bytes hnx
      have hxr : x.size ≤ 900000 ∧ r2.size < r.size := by
        have h9 := congrArg ByteArray.size hnb.1
        rw [ByteArray.size_append, frame_size, ByteArray.size_append] at h9
        have := HRA.out.len; have := HS9.out
        exact ⟨by omega, by omega⟩
      have HXR := Lib.hid hxr
      have HNR := Lib.hid hnx
      have HDC := Lib.hid (fun W hT => decode_any x W (by omega) hT)
      clear hnb hxr hnx
      cases hdc : decZ x.data.toList with
      | none =>
        rw [hdc] at HDC
        have HST := Lib.hid (HRA.out.rcv b r (.stop2 HNR.out hdc))
        clear hdc
        go_wp2_with (first
          | (go_at_call 20; rw [HRS.out]; refine HNX.out.mono ?_; rintro e w2 ⟨rfl, hB2⟩; have HR2 := Lib.hid (HRA.out.below hB2); clear hB2)
          | (go_at_call 21; refine (HDC.out w2 (HTB.out.below HR2.out.low)).mono ?_; rintro e w3 ⟨hB3, rfl⟩; have HR3 := Lib.hid (HR2.out.below hB3); clear hB3)
          | (refine store_last rfl _ _ _ rfl _ _ _ _ rfl ?_ rfl ?_ ?_ ?_ ?_; (focus (simp; done)); kernel_rfl; rfl; rfl))
        have HR4 := Lib.hid (HR3.out.below ((Below.refl w3.heap.size w3).alloc (Nat.le_refl _) (.cells #[.int .i64 0, .int .i64 0, .int .i64 0, .slice none 0 0, .int .i64 0, .int .i64 0, .slice none 0 0] 40)))
        generalize hW : w3.alloc (.cells #[.int .i64 0, .int .i64 0, .int .i64 0, .slice none 0 0, .int .i64 0, .int .i64 0, .slice none 0 0] 40) = W at *
        clear hW
        have HST9 := Lib.hid (HST.out)
        obtain ⟨X9, S9, hX9, hS9⟩ := HR4.out.box
        have hl9 : b.done.length ≤ 1000000 := by have h8 := HR4.out.len; have h7 := HS9.out; omega
        have HDN := Lib.hid (bxdone_any hX9 hl9)
        rw [← hX9.dlen] at HDN
        have HFN := Lib.hid (fun w' A c hown hB => rec_fin (w' := w') (A := A) (c := c) hX9 hS9 HR4.out.txt HST9.out HR4.out.low hown hB)
        rw [← HKE.out] at HFN
        clear hX9 hS9 hl9
        go_wp2_with (go_at_call 23; refine HDN.out.mono ?_; rintro e w9 ⟨A9, c9, rfl, hown9, hB9⟩)
        try rw [Exit.noGoto_ret]
        go_ret3
        exact HFN.out _ _ _ hown9 hB9
      | some g =>
        rw [hdc] at HDC
        obtain ⟨g, hg⟩ : ∃ q, q = g := ⟨_, rfl⟩
        subst hg
        have HDG := Lib.hid hdc
        clear hdc
        obtain ⟨⟨t, rr⟩, n, u, ⟨ut, ur⟩, ops⟩ := g
        have HB := Lib.hid (fun (x : GrX) (w1 : World) => HRA.out.hear (w1 := w1) HS9.out (⟨⟨t, rr⟩, n, u, ⟨ut, ur⟩, ops⟩, x))
        dsimp only at HB
        obtain ⟨hn, hhn⟩ : ∃ q, q = (hearB b ⟨⟨t, rr⟩, n, u, ⟨ut, ur⟩, ops⟩).2.1 := ⟨_, rfl⟩
        obtain ⟨he, hhe⟩ : ∃ q, q = (hearB b ⟨⟨t, rr⟩, n, u, ⟨ut, ur⟩, ops⟩).2.2 := ⟨_, rfl⟩
        have HHN := Lib.hid hhn
        rw [← hhn, ← hhe] at HB
        clear hhn hhe
        by_cases hone : hn = 1
        · subst hone
          have HNX2 := Lib.hid (hear_one HRA.out.wt HHN.out.symm)
          have HST := Lib.hid (fun b2 r3 h => HRA.out.rcv b2 r3 (.go HNR.out HDG.out HHN.out.symm h))
          have j1 : IntKind.i64.wrap ((s.size : Int) - (r2.size : Int)) = ((s.size - r2.size : Nat) : Int) := by have := HXR.out; have := HRA.out.len; have := HS9.out; rw [IntKind.wrap_i64]; omega
          go_upto_region 8 with (first
            | (go_at_call 20; rw [HRS.out]; refine HNX.out.mono ?_; rintro e w2 ⟨rfl, hB2⟩; have HR2 := Lib.hid (HRA.out.below hB2); have HB2 := Lib.hid hB2; clear hB2)
            | (go_at_call 21; refine (HDC.out w2 (HTB.out.below HR2.out.low)).mono ?_; rintro e w3 ⟨hB3, dA, dc, oA, oc, he3, hI3, hT3⟩; obtain rfl : e = .returned (.tuple #[.agg #[.int .i64 t, .int .i64 rr, .int .i64 n, .slice dA u.length dc, .int .i64 ut, .int .i64 ur, .slice oA ops.length oc], .int .i64 0]) := he3; have HB3 := Lib.hid (HB2.out.trans (hB3.mono HB2.out.size)); have HI3 := Lib.hid (hI3.sub fun q _ hq => Nat.le_trans HB2.out.size hq); have HT3 := Lib.hid hT3; clear hB3 hI3 hT3)
            | (refine store_last rfl _ _ _ rfl _ _ _ _ rfl ?_ rfl ?_ ?_ ?_ ?_; (focus (simp; done)); kernel_rfl; rfl; rfl))
          have hba := HB3.out.alloc HB3.out.size (.cells #[.int .i64 t, .int .i64 rr, .int .i64 n, .slice dA u.length dc, .int .i64 ut, .int .i64 ur, .slice oA ops.length oc] 40)
          have HC4 := Lib.hid (heap_alloc_new w3 (.cells #[.int .i64 t, .int .i64 rr, .int .i64 n, .slice dA u.length dc, .int .i64 ut, .int .i64 ur, .slice oA ops.length oc] 40))
          have HI4 := Lib.hid (HI3.out.agr (Agr.below ((Below.refl w3.heap.size w3).alloc (Nat.le_refl _) (.cells #[.int .i64 t, .int .i64 rr, .int .i64 n, .slice dA u.length dc, .int .i64 ut, .int .i64 ur, .slice oA ops.length oc] 40))))
          generalize hW : w3.alloc (.cells #[.int .i64 t, .int .i64 rr, .int .i64 n, .slice dA u.length dc, .int .i64 ut, .int .i64 ur, .slice oA ops.length oc] 40) = W at *
          clear hW
          have HB4 := Lib.hid hba
          have HTB4 := Lib.hid (HTB.out.below (HRA.out.low.trans (hba.mono HRA.out.low.size)))
          have HHE := Lib.hid (HB.out ⟨dA, dc, oA, oc⟩ W HB4.out HI4.out (fun o ho => (HT3.out o ho).1) HTB4.out)
          clear hba
          go_wp2_with (first
            | (refine load_at rfl _ _ rfl w3.heap.size _ _ _ rfl HC4.out Tryz.underlying40 rfl ?_ ?_; kernel_rfl)
            | (go_at_call 22; refine HHE.out.mono ?_; rintro e w5 ⟨rfl, hB5, hok5, htx5, hbx5⟩; have HB5 := Lib.hid hB5; have HOK5 := Lib.hid hok5; have HTX5 := Lib.hid htx5; have HBX5 := Lib.hid hbx5; clear hB5 hok5 htx5 hbx5))
          go_roundg r2.size
          case measure => have := HXR.out; have := HRZ.out; omega
          case rel =>
            have hd := HNX2.out.2.2.2
            have hx := HXR.out
            have hr := HRA.out.len
            rw [hd] at HOK5 HTX5 HBX5 HST
            refine ⟨b.put ⟨⟨t, rr⟩, n, u, ⟨ut, ur⟩, ops⟩, s.size - r2.size, r2, by go_num, by have := HM.out; omega, Lib.hid rfl, Lib.hid ?_, Lib.hid ⟨HST.out, HOK5.out, HRA.out.wt, ?_, HTX5.out, HB5.out, HBX5.out⟩⟩
            · exact rest_next HRS.out HNR.out
            · show (b.done ++ [_]).length + r2.size ≤ s.size
              rw [List.length_append, List.length_singleton]; omega
        · have HST := Lib.hid (HRA.out.rcv (hearB b ⟨⟨t, rr⟩, n, u, ⟨ut, ur⟩, ops⟩).1 r (.stop3 HNR.out HDG.out (by rw [← HHN.out]; exact hone)))
          have j1 : ((hn : Int) != 1) = true := by rw [bne_iff_ne]; omega
          have HDL := Lib.hid (hear_done HRA.out.wt (by rw [← HHN.out]; exact hone))
          go_upto_region 8 with (first
            | (go_at_call 20; rw [HRS.out]; refine HNX.out.mono ?_; rintro e w2 ⟨rfl, hB2⟩; have HR2 := Lib.hid (HRA.out.below hB2); have HB2 := Lib.hid hB2; clear hB2)
            | (go_at_call 21; refine (HDC.out w2 (HTB.out.below HR2.out.low)).mono ?_; rintro e w3 ⟨hB3, dA, dc, oA, oc, he3, hI3, hT3⟩; obtain rfl : e = .returned (.tuple #[.agg #[.int .i64 t, .int .i64 rr, .int .i64 n, .slice dA u.length dc, .int .i64 ut, .int .i64 ur, .slice oA ops.length oc], .int .i64 0]) := he3; have HB3 := Lib.hid (HB2.out.trans (hB3.mono HB2.out.size)); have HI3 := Lib.hid (hI3.sub fun q _ hq => Nat.le_trans HB2.out.size hq); have HT3 := Lib.hid hT3; clear hB3 hI3 hT3)
            | (refine store_last rfl _ _ _ rfl _ _ _ _ rfl ?_ rfl ?_ ?_ ?_ ?_; (focus (simp; done)); kernel_rfl; rfl; rfl))
          have hba := HB3.out.alloc HB3.out.size (.cells #[.int .i64 t, .int .i64 rr, .int .i64 n, .slice dA u.length dc, .int .i64 ut, .int .i64 ur, .slice oA ops.length oc] 40)
          have HC4 := Lib.hid (heap_alloc_new w3 (.cells #[.int .i64 t, .int .i64 rr, .int .i64 n, .slice dA u.length dc, .int .i64 ut, .int .i64 ur, .slice oA ops.length oc] 40))
          have HI4 := Lib.hid (HI3.out.agr (Agr.below ((Below.refl w3.heap.size w3).alloc (Nat.le_refl _) (.cells #[.int .i64 t, .int .i64 rr, .int .i64 n, .slice dA u.length dc, .int .i64 ut, .int .i64 ur, .slice oA ops.length oc] 40))))
          generalize hW : w3.alloc (.cells #[.int .i64 t, .int .i64 rr, .int .i64 n, .slice dA u.length dc, .int .i64 ut, .int .i64 ur, .slice oA ops.length oc] 40) = W at *
          clear hW
          have HB4 := Lib.hid hba
          have HTB4 := Lib.hid (HTB.out.below (HRA.out.low.trans (hba.mono HRA.out.low.size)))
          have HHE := Lib.hid (HB.out ⟨dA, dc, oA, oc⟩ W HB4.out HI4.out (fun o ho => (HT3.out o ho).1) HTB4.out)
          clear hba
          go_upto_region 11 with (first
            | (refine load_at rfl _ _ rfl w3.heap.size _ _ _ rfl HC4.out Tryz.underlying40 rfl ?_ ?_; kernel_rfl)
            | (go_at_call 22; refine HHE.out.mono ?_; rintro e w5 ⟨rfl, hB5, hok5, htx5, hbx5⟩; have HB5 := Lib.hid hB5; have HTX5 := Lib.hid htx5; have HBX5 := Lib.hid hbx5; clear hB5 hok5 htx5 hbx5))
          obtain ⟨X9, S9, hX9, hS9⟩ := HBX5.out
          have hl9 : (hearB b ⟨⟨t, rr⟩, n, u, ⟨ut, ur⟩, ops⟩).1.done.length ≤ 1000000 := by rw [HDL.out]; have h8 := HRA.out.len; have h7 := HS9.out; omega
          have HDN := Lib.hid (bxdone_any hX9 hl9)
          rw [← hX9.dlen] at HDN
          have HFN := Lib.hid (fun w' A c hown hB => rec_fin (w' := w') (A := A) (c := c) hX9 hS9 HTX5.out HST.out HB5.out hown hB)
          rw [← HKE.out] at HFN
          clear hX9 hS9 hl9
          go_wp2_with (go_at_call 23; refine HDN.out.mono ?_; rintro e w9 ⟨A9, c9, rfl, hown9, hB9⟩)
          try rw [Exit.noGoto_ret]
          go_ret3
          exact HFN.out _ _ _ hown9 hB9
end Go.Proofs.YtalgbcgiiphoaaaGreatDoor
