/- Part 29 of the walks and plain laws that this claim uses, joined. Conditions: as each theorem states. -/
import Derived.Test.YtkhmicndehlneaaGreatDoorTB
namespace Go.Proofs.YtkhmicndehlneaaGreatDoor
set_option maxRecDepth 100000
set_option maxHeartbeats 16000000
section
open Go.RowKit Go.Lib Go.Sort
set_option linter.unusedVariables false
attribute [local go_sem ↓] Go.wp_at_zero Go.wp_at_succ
theorem own_new_iff {w:World} {k:Nat} (h:Own (w.heap.size+1) (boxN w) k):k=w.heap.size+1∨k=w.heap.size:=by
 rcases h with h|h|h|h
 ·exact .inl h
 ·exact .inr h
 ·cases h
 ·cases h
theorem second_in (w:World) (S:Nat→Prop) (b:Nat) (hS:S b) (h:w.heap[b]? =some (.cells #[.int .i64 1] 3 (0,0))):GrIn w S secondG (some ⟨b,0,none⟩) 1 none 0:=by
 refine⟨fun k hk=> ?_,⟨fun _=>⟨none,0,none,0⟩,RowG.zero,fun k hk=>(by cases hk)⟩,Nat.le_refl _,Nat.le_refl _,by decide,Nat.zero_le _,⟨by decide,by decide⟩,fun x hx=> ?_⟩
 ·obtain rfl:k=0:=by have:k<1:=hk;omega
  refine⟨b,0,rfl,hS,lt_of_block h,fun j hj=> ?_⟩
  obtain rfl:j=0:=by omega
  rw[crw h];rfl
 ·obtain rfl:x=1:=by simpa[secondG] using hx
  exact⟨by decide,by decide⟩
theorem awake21_any (w:World) (hTb:Tabs w):Calls Tryz.prog 16 #[] w fun e w'=>e= .returned (.bool true)∧Below w.heap.size w w':=by
 have HTB:=hid hTb
 clear hTb
 go_enter Tryz.func16,Tryz.ntmps16
 go_upto_region 4 with(first
  |(go_at_call 18;refine(bxnew_any w).mono ?_;rintro e w1 ⟨rfl,hw1⟩;have HW1:=hid hw1;clear hw1))
 have hb1:Below w.heap.size w w1:=by rw[HW1.out];exact((Below.refl _ _).alloc (Nat.le_refl _) _).alloc (by simp) _
 have hs1:w1.heap.size=w.heap.size+2:=by rw[HW1.out];simp
 have HX1:=hid (BoxIn.made (S:=fun _=>False) (B:=w.heap.size) (Nat.le_refl _) (fun k hk=>hk.elim) HW1.out)
 have HB1:=hid hb1
 have HS1:=hid hs1
 clear HW1 hb1 hs1
 go_upto_region 6 with(first
  |(go_at_call 42;refine(firstg_any w1).mono ?_;rintro e w2 ⟨fa,rfl,hI2,hB2⟩))
 have HG2:=hid (show GrG w2 (fun k=>w1.heap.size≤k) (firstG,⟨none,0,some ⟨fa,0,none⟩,1⟩) from hI2)
 have HB2:=hid hB2
 clear hI2 hB2
 generalize hw3:w2.alloc (.cells #[.int .i64 1,.int .i64 1,.int .i64 1,.slice none 0 0,.int .i64 0,.int .i64 0,.slice (some ⟨fa,0,none⟩) 1 1] 45)=w3 at *
 have hs3:w3.heap.size=w2.heap.size+1:=by rw[←hw3];simp
 have hc3:w3.heap[w2.heap.size]? =some (.cells #[.int .i64 1,.int .i64 1,.int .i64 1,.slice none 0 0,.int .i64 0,.int .i64 0,.slice (some ⟨fa,0,none⟩) 1 1] 45 (0,0)):=by rw[←hw3];exact heap_alloc_new _ _
 have hb3:Below w2.heap.size w2 w3:=by rw[←hw3];exact(Below.refl _ _).alloc (Nat.le_refl _) _
 clear hw3
 generalize hw4:w3.alloc (.cells #[.int .i64 1] 3)=w4 at *
 have hs4:w4.heap.size=w2.heap.size+2:=by rw[←hw4];simp[hs3]
 have hc4:w4.heap[w2.heap.size+1]? =some (.cells #[.int .i64 1] 3 (0,0)):=by rw[←hw4];exact heap_alloc_newC _ _ hs3
 have hb4:Below w3.heap.size w3 w4:=by rw[←hw4];exact(Below.refl _ _).alloc (Nat.le_refl _) _
 clear hw4
 generalize hw5:w4.alloc (.cells #[.int .i64 2,.int .i64 1,.int .i64 2,.slice (some ⟨w2.heap.size+1,0,none⟩) 1 1,.int .i64 1,.int .i64 1,.slice none 0 0] 45)=W at *
 have hs5:W.heap.size=w2.heap.size+3:=by rw[←hw5];simp[hs4]
 have hc5:W.heap[w2.heap.size+2]? =some (.cells #[.int .i64 2,.int .i64 1,.int .i64 2,.slice (some ⟨w2.heap.size+1,0,none⟩) 1 1,.int .i64 1,.int .i64 1,.slice none 0 0] 45 (0,0)):=by rw[←hw5];exact heap_alloc_newC _ _ hs4
 have hb5:Below w4.heap.size w4 W:=by rw[←hw5];exact(Below.refl _ _).alloc (Nat.le_refl _) _
 clear hw5
 have hN:=HB2.out.size
 have hs1:=HS1.out
 have hb25:Below w2.heap.size w2 W:=(hb3.trans (hb4.mono (by omega))).trans (hb5.mono (by omega))
 have hb15:Below w1.heap.size w1 W:=HB2.out.trans (hb25.mono hN)
 obtain⟨S,hS⟩:∃S:Nat→Prop,S=fun k=>w1.heap.size≤k∧k<W.heap.size:=⟨_,rfl⟩
 have hX:BoxIn w.heap.size (w.heap.size+1) S Bx.new.done Bx.new.done Bx.new.wait Bx.new.v (boxN w) W:=(HX1.out.below hb15).sup (fun k hk=>hk.elim) (fun k hk=> .inr (by
  rw[hS] at hk
  refine⟨hk.2,fun h=> ?_⟩
  have:=hk.1
  rcases own_new_iff h with h|h<;>omega))
 have hG1:GrG W S (firstG,⟨none,0,some ⟨fa,0,none⟩,1⟩):=(HG2.out.agr (Agr.below hb25)).sub fun b hb h=>by rw[hS];exact⟨h,hb⟩
 have hG2:GrG W S (secondG,⟨some ⟨w2.heap.size+1,0,none⟩,1,none,0⟩):=second_in W S _ (by rw[hS];exact⟨by omega,by omega⟩) ((hb5.block _ (by omega)).trans hc4)
 have HCG:=hid ((hb5.block _ (by omega)).trans ((hb4.block _ (by omega)).trans hc3))
 have HCH:=hid hc5
 have HB5:=hid (HB1.out.trans (hb15.mono (by omega)))
 have HTW:=hid (HTB.out.below HB5.out)
 have HOW:=hid (show ∀k,Own (w.heap.size+1) (boxN w) k→w.heap.size≤k∧k<w2.heap.size from fun k h=>by rcases own_new_iff h with h|h<;>omega)
 have HN2:=hid (show w2.heap.size+2<W.heap.size by omega)
 have HG1:=hid hG1
 have HG2':=hid hG2
 have HX:=hid hX
 clear hS hs3 hs4 hs5 hc3 hc4 hc5 hb3 hb4 hb5 hN hs1 hb25 hb15 hX hG1 hG2 HG2 HB2 HS1 HX1 HB1
 have HE1:Hid (Calls Tryz.prog 20 #[.pointer (some ⟨w.heap.size+1,0,none⟩),.agg #[.int .i64 2,.int .i64 1,.int .i64 2,.slice (some ⟨w2.heap.size+1,0,none⟩) 1 1,.int .i64 1,.int .i64 1,.slice none 0 0]] W fun e w'=>e= .returned (.tuple #[.int .i64 0,.int .i64 0])∧∃X' S',BoxIn w.heap.size (w.heap.size+1) S' awb1.done awb1.done awb1.wait awb1.v X' w'∧BTo (w.heap.size+1) (boxN w) S W X' S' w'):=by
  refine hid ?_
  have:=bxhear_any (b:=Bx.new) HX.out BxOk.new secondG _ HG2'.out (fun o ho=>by cases ho) HTW.out (Nat.zero_le _) (Nat.zero_le _)
  rw[aw_hear1] at this
  exact this
 have HIN:=hid (show(Tryz.prog.info? 45).map (·.size)=some 7 by kernel_rfl)
 go_upto_region 7 with(first
  |(refine load_at rfl _ _ rfl (w2.heap.size+2) _ _ _ rfl HCH.out Tryz.underlying45 rfl HIN.out ?_)
  |(go_at_call 20;refine HE1.out.mono ?_;rintro e w6 ⟨rfl,X6,S6,hX6,hT6⟩))
 have hog:¬Own (w.heap.size+1) (boxN w) w2.heap.size:=fun h=>by have:=HOW.out _ h;omega
 have hoh:¬Own (w.heap.size+1) (boxN w) (w2.heap.size+2):=fun h=>by have:=HOW.out _ h;omega
 have HWT:=hid (show Calls Tryz.prog 22 #[.pointer (some ⟨w.heap.size+1,0,none⟩)] w6 fun e w'=>∃A c,e= .returned (.slice A 1 c)∧Below w6.heap.size w6 w' from(bxwait_any hX6 (by decide)).mono (by rintro e w' ⟨A,c,rfl,-,h⟩;exact⟨A,c,rfl,h⟩))
 have HX6:=hid hX6
 have HT6:=hid hT6
 clear hX6 hT6 HE1
 go_upto_region 8 with(first
  |(go_at_call 22;refine HWT.out.mono ?_;rintro e w7 ⟨A7,c7,rfl,hB7⟩))
 have hX7:=HX6.out.below hB7
 have hT7:=HT6.out.trans (BTo.of_below (P:=w.heap.size+1) (X:=X6) (S:=S6) hB7)
 have HCG7:=hid (hT7.gr.cells HCG.out hog)
 have HB7:=hid (HB5.out.trans (hT7.gr.below HB5.out.size (fun k h=>(HOW.out k h).1)))
 have HE2:Hid (Calls Tryz.prog 20 #[.pointer (some ⟨w.heap.size+1,0,none⟩),.agg #[.int .i64 1,.int .i64 1,.int .i64 1,.slice none 0 0,.int .i64 0,.int .i64 0,.slice (some ⟨fa,0,none⟩) 1 1]] w7 fun e w'=>e= .returned (.tuple #[.int .i64 2,.int .i64 0])∧∃X' S',BoxIn w.heap.size (w.heap.size+1) S' awb2.done awb2.done awb2.wait awb2.v X' w'∧BTo (w.heap.size+1) X6 S6 w7 X' S' w'):=by
  refine hid ?_
  have:=bxhear_any (b:=awb1) hX7 aw_ok1 firstG _ ((HG1.out.agr (hT7.gr.agr fun k _ h=>(HX.out.sep k h).2)).sub fun k _ h=>hT7.more k h) (fun o ho=>by obtain rfl:=List.mem_singleton.1 ho;decide) (HTB.out.below HB7.out) (by decide) (by decide)
  rw[aw_hear2] at this
  exact this
 have HT7:=hid hT7
 clear hX7 hT7 HX6 HT6 HWT hB7
 go_upto_region 9 with(first
  |(refine load_at rfl _ _ rfl w2.heap.size _ _ _ rfl HCG7.out Tryz.underlying45 rfl HIN.out ?_)
  |(go_at_call 20;refine HE2.out.mono ?_;rintro e w8 ⟨rfl,X8,S8,hX8,hT8⟩))
 have hT8:=HT7.out.trans hT8
 have HCH8:=hid (hT8.gr.cells HCH.out hoh)
 have HB8:=hid (HB5.out.trans (hT8.gr.below HB5.out.size (fun k h=>(HOW.out k h).1)))
 have HE3:Hid (Calls Tryz.prog 20 #[.pointer (some ⟨w.heap.size+1,0,none⟩),.agg #[.int .i64 2,.int .i64 1,.int .i64 2,.slice (some ⟨w2.heap.size+1,0,none⟩) 1 1,.int .i64 1,.int .i64 1,.slice none 0 0]] w8 fun e w'=>e= .returned (.tuple #[.int .i64 0,.int .i64 210])∧∃X' S',BoxIn w.heap.size (w.heap.size+1) S' awb2.done awb2.done awb2.wait awb2.v X' w'∧BTo (w.heap.size+1) X8 S8 w8 X' S' w'):=by
  refine hid ?_
  have:=bxhear_any (b:=awb2) hX8 aw_ok2 secondG _ ((HG2'.out.agr (hT8.gr.agr fun k _ h=>(HX.out.sep k h).2)).sub fun k _ h=>hT8.more k h) (fun o ho=>by cases ho) (HTB.out.below HB8.out) (by decide) (by decide)
  rw[aw_hear3] at this
  exact this
 have HT8:=hid hT8
 clear hX8 hT8 HT7 HE2
 go_upto_region 10 with(first
  |(refine load_at rfl _ _ rfl (w2.heap.size+2) _ _ _ rfl HCH8.out Tryz.underlying45 rfl HIN.out ?_)
  |(go_at_call 20;refine HE3.out.mono ?_;rintro e w9 ⟨rfl,X9,S9,hX9,hT9⟩))
 have hT9:=HT8.out.trans hT9
 have HB9:=hid (HB5.out.trans (hT9.gr.below HB5.out.size (fun k h=>(HOW.out k h).1)))
 have HX9:=hid hX9
 clear hX9 hT9 HT8 HE3
 go_wp2_with (first
  |(go_at_call 21;refine(bxdone_any HX9.out (by decide)).mono ?_;rintro e w10 ⟨A10,c10,rfl,-,hB10⟩;have HB10:=hid hB10;clear hB10)
  |(go_at_call 22;refine(bxwait_any (HX9.out.below HB10.out) (by decide)).mono ?_;rintro e w11 ⟨A11,c11,rfl,-,hB11⟩;have HB11:=hid (HB10.out.trans (hB11.mono HB10.out.size));clear hB11)
  |(go_at_call 28;refine(bxvec_any (HX9.out.below HB11.out)).mono ?_;rintro e w12 ⟨A12,c12,rfl,hv12,-,hB12⟩;have HV12:=hid hv12;have HB12:=hid (HB11.out.trans (hB12.mono HB11.out.size));clear hv12 hB12))
 have HBV:=hid (show VecR (w12.alloc (.cells #[.int .i64 2] 3)) (some ⟨w12.heap.size,0,none⟩) [2] from fun k hk=>by
  obtain rfl:k=0:=by have:k<1:=hk;omega
  refine⟨⟨w12.heap.size,0,none⟩,rfl,by simp,?_⟩
  rw[Addr.add_mid,cell_of_row _ _ _ _ _ _ (heap_alloc_new w12 _)];rfl)
 have HAV:=hid (show VecR (w12.alloc (.cells #[.int .i64 2] 3)) A12 [2] from VecS.vec (S:=fun k=>w11.heap.size≤k) (RowG.agr HV12.out (Agr.below ((Below.refl _ w12).alloc (Nat.le_refl _) _))))
 refine(same_any A12 _ c12 1 [2] [2] _ (by decide) HAV.out HBV.out).mono ?_
 rintro e w13 ⟨rfl,hB13⟩
 have HB13:=hid (HB9.out.trans ((HB12.out.trans ((((Below.refl _ w12).alloc (Nat.le_refl _) (.cells #[.int .i64 2] 3)).trans (hB13.mono (by simp))).mono HB12.out.size)).mono HB9.out.size))
 go_wp2
 go_ret
 exact⟨rfl,HB13.out⟩
theorem map_getD (L:List (Grp×GrX)) (k:Nat):(L.map Prod.fst).getD k gz=(L.getD k gp0).1:=by
 rw[List.getD_eq_getElem?_getD,List.getElem?_map,List.getD_eq_getElem?_getD]
 cases L[k]? <;>rfl
theorem hears_succ (b:Bx) {G:List Grp} {k:Nat} (h:k<G.length):hearsB b (G.take (k+1))=(hearB (hearsB b (G.take k)) (G.getD k gz)).1:=by rw[takeD_succ h gz,hearsB_snoc]
theorem BxH.small {gs:List Grp} {b:Bx} (h:BxH gs b) (hl:gs.length≤99):b.wait.length≤100∧b.done.length+b.wait.length≤999999:=by
 have:=h.toBxG.len
 omega
theorem causaltells_any (D:List Doo) (dA:Option Addr) (dc:Nat) (P:List Int) (pA:Option Addr) (pc:Nat) (S0 S1:Nat→Prop) (W:World) (hD:∀x∈D,doOk x) (hdl:D.length≤9223372036854775807) (hR:RowF W S0 dA 6 doC do0 D) (hP:RowF W S1 pA 1 u8L 0 P) (hpb:∀q∈P,0≤q∧q≤255) (hpl:P.length≤9223372036854775807) (htab:Tabs W):
  Calls Tryz.prog 6 #[.slice dA D.length dc,.slice pA P.length pc] W fun e w'=>e= .returned (.bool true)∧Below W.heap.size W w':=by
 have HTB:=hid htab
 have HPR:=hid hP
 have HPB:=hid hpb
 have HAW:=hid (awake21_any W htab)
 have HHI:=hid (fun W' (h:Below W.heap.size W W')=>history_any D dA dc S0 W' hD hdl (hR.below h))
 clear htab hP hpb hR hD
 go_enter Tryz.func6,Tryz.ntmps6
 go_upto_region 6 with(first
  |(go_at_call 18;refine(bxnew_any w3).mono ?_;rintro e w4 ⟨rfl,hw4⟩;have HW4:=hid hw4;clear hw4)
  |(go_at_call 18;refine(bxnew_any w2).mono ?_;rintro e w3 ⟨rfl,hw3⟩;have HW3:=hid hw3;clear hw3)
  |(go_at_call 17;refine(HHI.out w1 HB1.out).mono ?_;rintro e w2 ⟨L,kn,V,gA,gc,rfl,hok,hown,hgd,hB2⟩;have HOK:=hid hok;have HOW:=hid hown;have HGD:=hid hgd;have HB2:=hid (HB1.out.trans (hB2.mono HB1.out.size));clear hok hown hgd hB2)
  |(go_at_call 16;refine HAW.out.mono ?_;rintro e w1 ⟨rfl,hB1⟩;have HB1:=hid hB1;clear hB1))
 have hP0:=Pair.new (A:=gA) (M:=L) ⟨RowGr.own HOW.out,HGD.out⟩ HW3.out HW4.out
 obtain⟨G,hG⟩:∃G,G=L.map Prod.fst:=⟨_,rfl⟩
 have hhis:HisG G:=by rw[hG];exact HOK.out.his
 have hgl:G.length=L.length:=by rw[hG,List.length_map]
 have hl16:=HOK.out.len
 have HHS:=hid hhis
 have HGE:=hid hG
 have HTX:=hid (show ∀p∈L,∀o∈p.1.ops,o.text.size≤1000000 from fun p hp o ho=>by have:=(HOK.out.sml p hp o ho).2.2.1;omega)
 have HGR:=hid (RowGr.own HOW.out)
 have HP0:=hid hP0
 have HP:Hid (Pair w2.heap.size (w2.heap.size+1) (w3.heap.size+1) w2 gA L Bx.new Bx.new w4):=HP0
 generalize w3.heap.size+1=Q at *
 clear hP0 hG hhis HW3 HW4 HAW HHI HP0
 go_upto_region 9 with fail
 go_loopg [9] L.length (fun g0 ix wr=>∃k:Nat,k+g0=L.length∧ix= .int .i64 k∧Hid (Pair w2.heap.size (w2.heap.size+1) Q w2 gA L (hearsB Bx.new (G.take k)) Bx.new wr))
 case atStart=>exact⟨0,Nat.zero_add _,rfl,HP⟩
 case round=>
  clear HP
  obtain⟨k,hk,rfl,HP⟩:=hrel
  by_cases hkl:k<L.length
  ·have i1:(0:Int)≤(k:Int):=by omega
   have i2:(k:Int)<(L.length:Int):=by omega
   obtain⟨rb,ro,e9,hrb,hrr⟩:=(HGR.out.below HP.out.low).range hkl
   cases e9
   obtain⟨hs1,hs2,hs3⟩:=hears_order HHS.out (by omega) (G.take k).length (G.take k) (G.drop k) rfl (List.take_append_drop k G).symm
   have HHR:=hid (HP.out.hear hs1.toBxG.ok (hs1.small (by omega)).1 (hs1.small (by omega)).2 (getD_memF hkl gp0) (HTX.out _ (getD_memF hkl gp0)) (HTB.out.below (HB2.out.trans (HP.out.low.mono HB2.out.size))))
   have HSU:=hid (show hearsB Bx.new (G.take (k+1))=(hearB (hearsB Bx.new (G.take k)) (L.getD k gp0).1).1 by rw[hears_succ _ (by omega),HGE.out,map_getD])
   generalize L.getD k gp0=p at *
   obtain⟨⟨⟨t,r⟩,n,dv,⟨ut,ur⟩,ops⟩,⟨dA,dc,oA,oc⟩⟩:=p
   have HRR:=hid (show wr.rangeAt rb (ro+k*7) [.int .i64 t,.int .i64 r,.int .i64 n,.slice dA dv.length dc,.int .i64 ut,.int .i64 ur,.slice oA ops.length oc] from hrr)
   clear hrr hs1 hs2 hs3
   go_wp2_with (first
    |(refine wpList_load_mid rfl _ _ rfl rb (ro+k*7) rfl [.int .i64 t,.int .i64 r,.int .i64 n,.slice dA dv.length dc,.int .i64 ut,.int .i64 ur,.slice oA ops.length oc] _ HRR.out Tryz.underlying45 rfl (by kernel_rfl) ?_)
    |(go_at_call 20;refine HHR.out.mono ?_;rintro e w5 ⟨rfl,hP5⟩;have HP5:=hid hP5;clear hP5))
   go_roundg (L.length-(k+1))
   case measure=>omega
   case rel=>exact⟨k+1,by omega,by go_num,hid (by rw[HSU.out];exact HP5.out)⟩
  ·obtain rfl:k=L.length:=by omega
   have i2:¬(L.length:Int)<(L.length:Int):=by omega
   rw[show G.take L.length=G by rw[←hgl,List.take_length]] at HP
   have HMX:=hid (fun W' (h:Below wr.heap.size wr W')=>mixed_any L gA gc P pA pc S1 W' (by omega) hpl ((HGR.out.below HP.out.low).below h) (HPR.out.below ((HB2.out.trans (HP.out.low.mono HB2.out.size)).trans (h.mono (HB2.out.trans (HP.out.low.mono HB2.out.size)).size))) HPB.out)
   obtain⟨MXL,hMX⟩:∃X,X=mixed L P:=⟨_,rfl⟩
   have HMM:=hid (show(∀p∈MXL,p∈L)∧MXL.length≤30 by rw[hMX];exact⟨fun p hp=>mixed_mem hp,mixed_len L P⟩)
   rw[←hMX] at HMX
   clear hMX
   go_upto_region 14 with(go_at_call 19;refine(HMX.out wr (Below.refl _ _)).mono ?_;rintro e w6 ⟨mA,mc,rfl,hown6,hB6⟩;have HO6:=hid hown6;have HP6:=hid (HP.out.turn HMM.out.1 hB6 hown6);clear hown6 hB6)
   have hml:=HMM.out.2
   obtain⟨GM,hGM⟩:∃X,X=MXL.map Prod.fst:=⟨_,rfl⟩
   have hgml:GM.length=MXL.length:=by rw[hGM,List.length_map]
   have HGM:=hid hGM
   have HGS:=hid (show ∀g∈GM,g∈G from fun g hg=>by rw[hGM] at hg;obtain⟨p,hp,rfl⟩:=List.mem_map.1 hg;rw[HGE.out];exact List.mem_map.2 ⟨p,HMM.out.1 p hp,rfl⟩)
   obtain⟨a,ha⟩:∃X,X=hearsB Bx.new G:=⟨_,rfl⟩
   have HA:=hid (show BxH G a∧a.done=G∧a.wait=[] by rw[ha];exact hears_order HHS.out (by omega) G.length G [] rfl (by simp))
   rw[←ha] at HP6
   clear hGM ha HMX
   go_loopg [11] MXL.length (fun g0 ix wx=>∃k:Nat,k+g0=MXL.length∧ix= .int .i64 k∧Hid (Pair w2.heap.size (w2.heap.size+1) Q w2 mA MXL a (hearsB Bx.new (GM.take k)) wx))
   case atStart=>exact⟨0,Nat.zero_add _,rfl,HP6⟩
   case round=>
    clear HP6
    obtain⟨k,hk2,rfl,HP7⟩:=hrel
    have hB7:=HB2.out.trans (HP7.out.low.mono HB2.out.size)
    by_cases hkl2:k<MXL.length
    ·have i1:(0:Int)≤(k:Int):=by omega
     have i3:(k:Int)<(MXL.length:Int):=by omega
     obtain⟨rb,ro,e9,hrb,hrr⟩:=HP7.out.row.range hkl2
     cases e9
     obtain⟨hs1,-,-⟩:=BxH.hears HHS.out (by omega) (GM.take k) (BxH.new G) (fun g hg=>HGS.out g (List.mem_of_mem_take hg))
     have HHR:=hid (HP7.out.swap.hear hs1.toBxG.ok (hs1.small (by omega)).1 (hs1.small (by omega)).2 (getD_memF hkl2 gp0) (HTX.out _ (HMM.out.1 _ (getD_memF hkl2 gp0))) (HTB.out.below hB7))
     have HSU:=hid (show hearsB Bx.new (GM.take (k+1))=(hearB (hearsB Bx.new (GM.take k)) (MXL.getD k gp0).1).1 by rw[hears_succ _ (by omega),HGM.out,map_getD])
     generalize MXL.getD k gp0=p at *
     obtain⟨⟨⟨t,r⟩,n,dv,⟨ut,ur⟩,ops⟩,⟨dA,dc,oA,oc⟩⟩:=p
     have HRR:=hid (show wr.rangeAt rb (ro+k*7) [.int .i64 t,.int .i64 r,.int .i64 n,.slice dA dv.length dc,.int .i64 ut,.int .i64 ur,.slice oA ops.length oc] from hrr)
     clear hrr hs1 hB7
     go_wp2_with (first
      |(refine wpList_load_mid rfl _ _ rfl rb (ro+k*7) rfl [.int .i64 t,.int .i64 r,.int .i64 n,.slice dA dv.length dc,.int .i64 ut,.int .i64 ur,.slice oA ops.length oc] _ HRR.out Tryz.underlying45 rfl (by kernel_rfl) ?_)
      |(go_at_call 20;refine HHR.out.mono ?_;rintro e w5 ⟨rfl,hP5⟩;have HP5:=hid hP5.swap;clear hP5))
     go_roundg (MXL.length-(k+1))
     case measure=>omega
     case rel=>exact⟨k+1,by omega,by go_num,hid (by rw[HSU.out];exact HP5.out)⟩
    ·obtain rfl:k=MXL.length:=by omega
     have i3:¬(MXL.length:Int)<(MXL.length:Int):=by omega
     rw[show GM.take MXL.length=GM by rw[←hgml,List.take_length]] at HP7
     obtain⟨b,hb⟩:∃X,X=hearsB Bx.new GM:=⟨_,rfl⟩
     have HBH:=hid (show BxH G b by rw[hb];exact(BxH.hears HHS.out (by omega) GM (BxH.new G) HGS.out).1)
     rw[←hb] at HP7
     obtain⟨T,hT⟩:∃X,X=a.done.filter (fun g=> !oldB b.v g):=⟨_,rfl⟩
     have HTE:=hid hT
     have hbl:=HBH.out.toBxG.len
     have had:a.done.length=L.length:=by rw[HA.out.2.1,hgl]
     have hvl:b.v.length≤1000:=by
      obtain⟨X,S,Y,h1,h2,h3,h4⟩:=HP7.out.box
      have:=h2.vlen;omega
     have HVC:=hid HP7.out.swap.vector
     have HMS:=hid (fun W' (h:Below wr.heap.size wr W') vA vc T9 (hV:VecS W' T9 vA b.v)=>(HP7.out.below h).missing (by omega) vA vc b.v hvl hV)
     rw[←hT] at HMS
     clear hb hT
     go_upto_region 19 with(first
      |(go_at_call 27;refine(HMS.out w7 HB7.out vA vc _ HV7.out).mono ?_;rintro e w8 ⟨nA,nc,N,rfl,hN,hP8,hB8⟩;have HN:=hid hN;have HP8:=hid hP8;clear hN hP8 hB8)
      |(go_at_call 28;refine HVC.out.mono ?_;rintro e w7 ⟨vA,vc,rfl,hv7,hB7⟩;have HV7:=hid hv7;have HB7:=hid hB7;clear hv7 hB7))
     clear HVC HMS HV7
     have hTN:T.length=N.length:=by rw[←HN.out,List.length_map]
     have hNL:∀p∈N,∀o∈p.1.ops,o.text.size≤1000000:=fun p hp o ho=>by
      have h1:p.1∈T:=by rw[←HN.out];exact List.mem_map.2 ⟨p,hp,rfl⟩
      rw[HTE.out,HA.out.2.1] at h1
      have h2:=(List.mem_filter.1 h1).1
      rw[HGE.out] at h2
      obtain⟨q,hq,e⟩:=List.mem_map.1 h2
      exact HTX.out q hq o (by rw[e];exact ho)
     have HNL:=hid hNL
     have htl:N.length≤16:=by
      rw[←hTN,HTE.out];have:=List.length_filter_le (fun g=> !oldB b.v g) a.done;omega
     have HPRE:=hid (fun k (hk:k<T.length)=>show ∃pre post,G=pre++T.getD k gz::post∧T.take k=pre.filter (fun g=> !oldB b.v g) from by
      have h9:=filter_split (fun g=> !oldB b.v g) gz a.done k (by rw[←HTE.out];exact hk)
      rw[←HTE.out,HA.out.2.1] at h9
      obtain⟨pre,post,e1,e2,-⟩:=h9
      exact⟨pre,post,e1,e2⟩)
     clear hNL
     go_loopg [13] N.length (fun g0 ix wx=>∃k:Nat,k+g0=N.length∧ix= .int .i64 k∧Hid (Pair w2.heap.size (w2.heap.size+1) Q w2 nA N a (hearsB b (T.take k)) wx))
     case atStart=>exact⟨0,Nat.zero_add _,rfl,HP8⟩
     case round=>
      clear HP8
      obtain⟨k,hk3,rfl,HP9⟩:=hrel
      have hB9:=HB2.out.trans (HP9.out.low.mono HB2.out.size)
      by_cases hkl3:k<N.length
      ·have i1:(0:Int)≤(k:Int):=by omega
       have i4:(k:Int)<(N.length:Int):=by omega
       obtain⟨rb,ro,e9,hrb,hrr⟩:=HP9.out.row.range hkl3
       cases e9
       obtain⟨pre,post,e1,e2⟩:=HPRE.out k (by omega)
       have hst:=told_step HHS.out (by omega) HBH.out e1
       rw[←e2] at hst
       have hhr:=hst.1.hear HHS.out (by omega) (show T.getD k gz∈G by rw[e1];simp)
       have hTk:T.getD k gz=(N.getD k gp0).1:=by rw[←HN.out,map_getD]
       have hans:=hhr.err
       have hans2:=(hhr.rdy hst.2).2
       rw[hTk] at hans hans2
       have HHR:=hid (HP9.out.swap.hear hst.1.toBxG.ok (hst.1.small (by omega)).1 (hst.1.small (by omega)).2 (getD_memF hkl3 gp0) (HNL.out _ (getD_memF hkl3 gp0)) (HTB.out.below hB9))
       have HSU:=hid (show hearsB b (T.take (k+1))=(hearB (hearsB b (T.take k)) (N.getD k gp0).1).1 by rw[hears_succ _ (by omega),hTk])
       clear hst hhr hTk e1 e2
       generalize N.getD k gp0=p at *
       obtain⟨⟨⟨t,r⟩,n,dv,⟨ut,ur⟩,ops⟩,⟨dA,dc,oA,oc⟩⟩:=p
       have HRR:=hid (show wr.rangeAt rb (ro+k*7) [.int .i64 t,.int .i64 r,.int .i64 n,.slice dA dv.length dc,.int .i64 ut,.int .i64 ur,.slice oA ops.length oc] from hrr)
       obtain⟨nn,hnn⟩:∃x,x=(hearB (hearsB b (T.take k)) ⟨⟨t,r⟩,n,dv,⟨ut,ur⟩,ops⟩).2.1:=⟨_,rfl⟩
       obtain⟨zz,hzz⟩:∃x,x=(hearB (hearsB b (T.take k)) ⟨⟨t,r⟩,n,dv,⟨ut,ur⟩,ops⟩).2.2:=⟨_,rfl⟩
       have HHR2:Hid (Calls Tryz.prog 20 #[.pointer (some ⟨Q,0,none⟩),.agg #[.int .i64 t,.int .i64 r,.int .i64 n,.slice dA dv.length dc,.int .i64 ut,.int .i64 ur,.slice oA ops.length oc]] wr fun e w'=>e= .returned (.tuple #[.int .i64 (nn:Nat),.int .i64 zz])∧Pair w2.heap.size Q (w2.heap.size+1) w2 (some ⟨rb,ro,none⟩) N (hearB (hearsB b (T.take k)) ⟨⟨t,r⟩,n,dv,⟨ut,ur⟩,ops⟩).1 a w'):=hid (by rw[hnn,hzz];exact HHR.out)
       have hz:(zz=0∧1≤nn)∨zz=210:=by
        rw[hzz,hnn]
        rcases hans with h|h
        ·exact .inl ⟨h,hans2 h⟩
        ·exact .inr h.1
       clear hrr hB9 hans hans2 hnn hzz HHR
       rcases hz with⟨rfl,hn1⟩|rfl
       ·have n1:¬(nn:Int)<1:=by omega
        go_wp2_with (first
         |(refine wpList_load_mid rfl _ _ rfl rb (ro+k*7) rfl [.int .i64 t,.int .i64 r,.int .i64 n,.slice dA dv.length dc,.int .i64 ut,.int .i64 ur,.slice oA ops.length oc] _ HRR.out Tryz.underlying45 rfl (by kernel_rfl) ?_)
         |(go_at_call 20;refine HHR2.out.mono ?_;rintro e w5 ⟨rfl,hP5⟩;have HP5:=hid hP5.swap;clear hP5))
        go_roundg (N.length-(k+1))
        case measure=>omega
        case rel=>exact⟨k+1,by omega,by go_num,hid (by rw[HSU.out];exact HP5.out)⟩
       ·go_wp2_with (first
         |(refine wpList_load_mid rfl _ _ rfl rb (ro+k*7) rfl [.int .i64 t,.int .i64 r,.int .i64 n,.slice dA dv.length dc,.int .i64 ut,.int .i64 ur,.slice oA ops.length oc] _ HRR.out Tryz.underlying45 rfl (by kernel_rfl) ?_)
         |(go_at_call 20;refine HHR2.out.mono ?_;rintro e w5 ⟨rfl,hP5⟩;have HP5:=hid hP5.swap;clear hP5))
        go_roundg (N.length-(k+1))
        case measure=>omega
        case rel=>exact⟨k+1,by omega,by go_num,hid (by rw[HSU.out];exact HP5.out)⟩
      ·obtain rfl:k=N.length:=by omega
       have i4:¬(N.length:Int)<(N.length:Int):=by omega
       rw[show T.take N.length=T by rw[←hTN,List.take_length]] at HP9
       obtain⟨b2,hb2⟩:∃X,X=hearsB b T:=⟨_,rfl⟩
       have hfin:=told_pre HHS.out (by omega) HBH.out G.length G [] rfl (by simp)
       rw[show G.filter (fun g=> !oldB b.v g)=T by rw[HTE.out,HA.out.2.1],←hb2] at hfin
       have hw0:b2.wait=[]:=wait_none hfin.1.toBxG hfin.2
       have hvv:a.v=b2.v:=vec_same HHS.out HA.out.1.toBxG hfin.1.toBxG (by rw[HA.out.2.1];exact fun g hg=>hg) hfin.2
       have hmiss:a.done.filter (fun g=> !oldB b2.v g)=[]:=by
        rw[HA.out.2.1,List.filter_eq_nil_iff]
        intro g hg
        rw[(hfin.1.toBxG.old HHS.out hg).2 (hfin.2 g hg)]
        decide
       rw[←hb2] at HP9
       have hvl2:b2.v.length≤1000:=by
        obtain⟨X,S,Y,h1,h2,h3,h4⟩:=HP9.out.box
        have:=h2.vlen;omega
       have HDN:=hid (fun W' (h:Below wr.heap.size wr W')=>show Calls Tryz.prog 21 #[.pointer (some ⟨w2.heap.size+1,0,none⟩)] W' fun e w'=>∃A c,e= .returned (.slice A L.length c)∧Below W'.heap.size W' w' from by rw[←had];exact(HP9.out.below h).done (by omega))
       have HWT:=hid (fun W' (h:Below wr.heap.size wr W')=>show Calls Tryz.prog 22 #[.pointer (some ⟨Q,0,none⟩)] W' fun e w'=>∃A c,e= .returned (.slice A 0 c)∧Below W'.heap.size W' w' from by have h9:=(HP9.out.below h).swap.wait (by rw[hw0];decide);rw[hw0] at h9;exact h9)
       have HVA:=hid (fun W' (h:Below wr.heap.size wr W')=>show Calls Tryz.prog 28 #[.pointer (some ⟨w2.heap.size+1,0,none⟩)] W' fun e w'=>∃A c,e= .returned (.slice A b2.v.length c)∧VecS w' (fun k=>W'.heap.size≤k) A b2.v∧Below W'.heap.size W' w' from by rw[←hvv];exact(HP9.out.below h).vector)
       have HVB:=hid (fun W' (h:Below wr.heap.size wr W')=>(HP9.out.below h).swap.vector)
       have HSM:=hid (fun W' A A' c c' (h1:VecR W' A b2.v) (h2:VecR W' A' b2.v)=>show Calls Tryz.prog 29 #[.slice A b2.v.length c,.slice A' b2.v.length c'] W' fun e w'=>e= .returned (.bool true)∧Below W'.heap.size W' w' from(same_any A A' c c' b2.v b2.v W' (by omega) h1 h2).mono (by rintro e w' ⟨rfl,h9⟩;exact⟨by rw[decide_eq_true rfl],h9⟩))
       have HMS:=hid (fun W' (h:Below wr.heap.size wr W') vA vc T9 (hV:VecS W' T9 vA b2.v)=>show Calls Tryz.prog 27 #[.pointer (some ⟨w2.heap.size+1,0,none⟩),.slice vA b2.v.length vc] W' fun e w'=>∃A c,e= .returned (.slice A 0 c)∧Below W'.heap.size W' w' from by
        refine((HP9.out.below h).missing (by omega) vA vc b2.v hvl2 hV).mono ?_
        rintro e w' ⟨A,c,N2,rfl,hN2,-,hB9⟩
        rw[hmiss] at hN2
        obtain rfl:N2=[]:=by simpa using hN2
        exact⟨A,c,rfl,hB9⟩)
       have HBW:=hid (HB2.out.trans (HP9.out.low.mono HB2.out.size))
       clear hfin hw0 hvv hmiss hb2
       go_wp2_with (first
        |(go_at_call 27;refine(HMS.out x6 HX6.out vA6 vc6 _ HV6.out).mono ?_;rintro e x7 ⟨mA7,mc7,rfl,hB⟩;have HX7:=hid (HX6.out.trans (hB.mono HX6.out.size));clear hB)
        |(go_at_call 28;refine(HVB.out x5 HX5.out).mono ?_;rintro e x6 ⟨vA6,vc6,rfl,hv,hB⟩;have HX6:=hid (HX5.out.trans (hB.mono HX5.out.size));have HV6:=hid hv;clear hB hv)
        |(go_at_call 22;refine(HWT.out x4 HX4.out).mono ?_;rintro e x5 ⟨wA5,wc5,rfl,hB⟩;have HX5:=hid (HX4.out.trans (hB.mono HX4.out.size));clear hB)
        |(go_at_call 29;refine(HSM.out x3 _ _ _ _ (VecS.vec HV2.out) (VecS.vec HV3.out)).mono ?_;rintro e x4 ⟨rfl,hB⟩;have HX4:=hid (HX3.out.trans (hB.mono HX3.out.size));clear hB)
        |(go_at_call 28;refine(HVB.out x2 HX2.out).mono ?_;rintro e x3 ⟨vA3,vc3,rfl,hv,hB⟩;have HX3:=hid (HX2.out.trans (hB.mono HX2.out.size));have HV3:=hid hv;have HV2:=hid (RowG.agr HV2.out (Agr.below hB));clear hB hv)
        |(go_at_call 28;refine(HVA.out x1 HX1.out).mono ?_;rintro e x2 ⟨vA2,vc2,rfl,hv,hB⟩;have HX2:=hid (HX1.out.trans (hB.mono HX1.out.size));have HV2:=hid hv;clear hB hv)
        |(go_at_call 21;refine(HDN.out wr (Below.refl _ _)).mono ?_;rintro e x1 ⟨dA1,dc1,rfl,hB⟩;have HX1:=hid hB;clear hB))
       go_ret
       exact⟨rfl,HBW.out.trans (HX7.out.mono HBW.out.size)⟩
end
section
open Go.ChangeShapes Go.WideShapes Go.RowKit Go.Lib Go.Deep
set_option linter.unusedVariables false
section
variable {H : Type} {enc : TypeId × Value → H} {w : World} {spare : Nat → Bool} {held : Bool} {fuel : Nat} {cs : List Value} {x : DataW H × List MemPlace}
theorem cells_u8:Tryz.prog.cellsOf 5=1:=by kernel_rfl
theorem cells_do:Tryz.prog.cellsOf 86=6:=by kernel_rfl
theorem wf_u8 {n:Int} (h:(Lit.int .u8 n).wf=true):0≤n∧n≤255:=by
 simpa[Lit.wf,IntKind.min,IntKind.max,IntKind.bits,IntKind.signed] using h
instance:Inhabited Doo:=⟨do0⟩
theorem opn_do (h:DataW.trod enc Tryz.prog w 0 spare held fuel 86 cs=some x):∃d:Doo,cs=doC d∧doOk d:=by
 obtain⟨ys,n,_,_,hlen,hyl,hf⟩:=DataW.trod_struct Tryz.underlying86 h
 rw[cells_do] at hlen
 match cs,hlen,ys,hyl with
 | [c0,c1,c2,c3,c4,c5],_,[y0,y1,y2,y3,y4,y5],_=>
  obtain⟨a0,e0,_,w0⟩:=DataW.trod_int Tryz.underlying5 (fld (hf 0 _ rfl) cells_u8 rfl rfl)
  obtain⟨a1,e1,_,w1⟩:=DataW.trod_int Tryz.underlying5 (fld (hf 1 _ rfl) cells_u8 rfl rfl)
  obtain⟨a2,e2,_,w2⟩:=DataW.trod_int Tryz.underlying5 (fld (hf 2 _ rfl) cells_u8 rfl rfl)
  obtain⟨a3,e3,_,w3⟩:=DataW.trod_int Tryz.underlying5 (fld (hf 3 _ rfl) cells_u8 rfl rfl)
  obtain⟨a4,e4,_,w4⟩:=DataW.trod_int Tryz.underlying5 (fld (hf 4 _ rfl) cells_u8 rfl rfl)
  obtain⟨a5,e5,_⟩:=DataW.trod_bool Tryz.underlying4 (fld (hf 5 _ rfl) cells_bool rfl rfl)
  have k0:=wf_u8 w0
  have k1:=wf_u8 w1
  have k2:=wf_u8 w2
  have k3:=wf_u8 w3
  have k4:=wf_u8 w4
  cases e0;cases e1;cases e2;cases e3;cases e4;cases e5
  refine⟨⟨a0.toNat,a1.toNat,a2.toNat,a3.toNat,a4.toNat,a5⟩,?_,?_⟩
  ·show _=[Value.int .u8 (a0.toNat:Int),.int .u8 (a1.toNat:Int),.int .u8 (a2.toNat:Int),.int .u8 (a3.toNat:Int),.int .u8 (a4.toNat:Int),.bool a5]
   rw[Int.toNat_of_nonneg k0.1,Int.toNat_of_nonneg k1.1,Int.toNat_of_nonneg k2.1,Int.toNat_of_nonneg k3.1,Int.toNat_of_nonneg k4.1]
  ·refine⟨?_,?_,?_,?_,?_⟩<;>(simp only[];omega)
theorem opn_dos (h:DataW.trod enc Tryz.prog w 0 spare held fuel 22 cs=some x):∃(A:Option Addr) (D:List Doo) (c:Nat),cs=[.slice A D.length c]∧D.length≤c∧c≤maxLen∧RowF w (Here w) A 6 doC do0 D∧∀d∈D,doOk d:=by
 obtain⟨A,len,c,f,hcs,h1,h2,h3,h4⟩:=opn_rows (α:=Doo) (s:=6) (by decide) Tryz.underlying22 cells_do (fun p j=>(doC p).getD j undef) (fun p _=>doOk p) (fun n cs' d p h=>by
  obtain⟨v,rfl,h1⟩:=opn_do h
  refine⟨v,fun j hj=> ?_,h1⟩
  have:j<(doC v).length:=hj
  rw[List.getElem?_eq_getElem this,List.getD_eq_getElem?_getD,List.getElem?_eq_getElem this]
  rfl) h
 refine⟨A,(List.range len).map f,c,by rw[range_len];exact hcs,by rw[range_len];exact h1,h2,?_,fun y hy=> ?_⟩
 ·unfold RowF
  rw[range_len]
  exact RowG.congr h3 fun k j hk hj=>by rw[range_getD f do0 hk]
 ·obtain⟨k,hk,rfl⟩:=List.mem_map.1 hy
  obtain⟨d,hd,_⟩:=h4 k (List.mem_range.1 hk)
  exact hd
theorem opn_u8s (h:DataW.trod enc Tryz.prog w 0 spare held fuel 23 cs=some x):∃(A:Option Addr) (P:List Int) (c:Nat),cs=[.slice A P.length c]∧P.length≤c∧c≤maxLen∧RowF w (Here w) A 1 u8L 0 P∧∀q∈P,0≤q∧q≤255:=by
 obtain⟨A,len,c,f,hcs,h1,h2,h3,h4⟩:=opn_rows (α:=Int) (s:=1) (by decide) Tryz.underlying23 cells_u8 (fun v j=>(u8L v).getD j undef) (fun v _=>0≤v∧v≤255) (fun n cs' d p h=>by
  obtain⟨v,rfl,_,hw⟩:=DataW.trod_int Tryz.underlying5 h
  exact⟨v,fun j hj=>by obtain rfl:j=0:=(by omega);rfl,wf_u8 hw⟩) h
 refine⟨A,(List.range len).map f,c,by rw[range_len];exact hcs,by rw[range_len];exact h1,h2,?_,fun y hy=> ?_⟩
 ·unfold RowF
  rw[range_len]
  exact RowG.congr h3 fun k j hk hj=>by rw[range_getD f 0 hk]
 ·obtain⟨k,hk,rfl⟩:=List.mem_map.1 hy
  obtain⟨d,hd,_⟩:=h4 k (List.mem_range.1 hk)
  exact hd
end
end
section
open Go.RowKit Go.Lib Go.Sort
theorem causaltells_card (D:List Doo) (dA:Option Addr) (dc:Nat) (P:List Int) (pA:Option Addr) (pc:Nat) (W:World) (hc0:D.length≤dc) (hm0:dc≤maxLen) (hR:RowF W (Here W) dA 6 doC do0 D) (hD:∀x∈D,doOk x) (hc1:P.length≤pc) (hm1:pc≤maxLen) (hP:RowF W (Here W) pA 1 u8L 0 P) (hb:∀q∈P,0≤q∧q≤255) (htab:Tabs W):
  Calls Tryz.prog 6 #[.slice dA D.length dc,.slice pA P.length pc] W fun e w'=>e= .returned (.bool true)∧Below W.heap.size W w':=
 causaltells_any D dA dc P pA pc (Here W) (Here W) W hD (by unfold maxLen at hm0;omega) hR hP hb (by unfold maxLen at hm1;omega) htab
end
end Go.Proofs.YtkhmicndehlneaaGreatDoor
