/- Part 17 of the walks and plain laws that this claim uses, joined. Conditions: as each theorem states. -/
import Derived.Test.YtkhmicndehlneaaGreatDoorYsp
namespace Go.Proofs.YtkhmicndehlneaaGreatDoor
set_option maxRecDepth 100000
set_option maxHeartbeats 16000000
section
set_option linter.unusedVariables false
def secondG:Grp:=⟨⟨2,1⟩,2,[1],⟨1,1⟩,[]⟩
def awb1:Bx:=⟨[],[secondG],[]⟩
def awb2:Bx:=⟨[firstG,secondG],[],[2]⟩
set_option maxRecDepth 100000
theorem chk_first:chkB firstG=true:=by decide +kernel
theorem chk_second:chkB secondG=true:=by decide +kernel
theorem aw_hear1:hearB Bx.new secondG=(awb1,0,0):=by
 unfold hearB
 rw[chk_second,if_neg (by decide),show knownB Bx.new secondG=false by decide +kernel,if_neg (by decide),show readyB Bx.new.v secondG=false by decide +kernel,if_neg (by decide),if_neg (by decide)]
 rfl
theorem aw_hear2:hearB awb1 firstG=(awb2,2,0):=by
 unfold hearB
 rw[chk_first,if_neg (by decide),show knownB awb1 firstG=false by decide +kernel,if_neg (by decide),show readyB awb1.v firstG=true by decide +kernel,if_pos rfl]
 have h1:drainF awb1.wait.length (awb1.put firstG)=(awb2,1):=by
  rw[show awb1.wait.length=0+1 from rfl,drainF_put (k:=0) (by decide +kernel) (by decide +kernel)]
  rw[show(awb1.put firstG).wait.getD 0 gz=secondG from rfl]
  have e:Bx.put ⟨(awb1.put firstG).done,(awb1.put firstG).wait.eraseIdx 0,(awb1.put firstG).v⟩ secondG=awb2:=by
   show(⟨_,_,_⟩:Bx)=⟨_,_,_⟩
   rw[Bx.mk.injEq]
   exact⟨rfl,rfl,by decide +kernel⟩
  rw[e];rfl
 rw[h1]
theorem aw_hear3:hearB awb2 secondG=(awb2,0,210):=by
 unfold hearB
 rw[chk_second,if_neg (by decide),show knownB awb2 secondG=true by decide +kernel,if_pos rfl]
theorem aw_ok1:BxOk awb1:=by have:=hearB_ok BxOk.new secondG;rw[aw_hear1] at this;exact this
theorem aw_ok2:BxOk awb2:=by have:=hearB_ok aw_ok1 firstG;rw[aw_hear2] at this;exact this
end
section
open Go.RowKit Go.Lib Go.Sort
set_option linter.unusedVariables false
attribute [local go_sem ↓] Go.wp_at_zero Go.wp_at_succ
theorem own_new_iff {w:World} {k:Nat} (h:Own (w.heap.size+1) (boxN w) k):k=w.heap.size+1∨k=w.heap.size:=by
 rcases h with h|h|h|h
 ·exact .inl h
 ·exact .inr h
 ·cases h
 ·cases h
theorem second_in (w:World) (S:Nat→Prop) (b:Nat) (hS:S b) (h:w.heap[b]? =some (.cells #[.int .i64 1] 3 (0,0))):GrIn w S secondG (some ⟨b,0,none⟩) 1 none 0:=by
 refine⟨fun k hk=> ?_,⟨fun _=>⟨none,0,none,0⟩,RowG.zero,fun k hk=>(by cases hk)⟩,Nat.le_refl _,Nat.le_refl _,by decide,Nat.zero_le _,⟨by decide,by decide⟩,fun x hx=> ?_⟩
 ·obtain rfl:k=0:=by have:k<1:=hk;omega
  refine⟨b,0,rfl,hS,lt_of_block h,fun j hj=> ?_⟩
  obtain rfl:j=0:=by omega
  rw[crw h];rfl
 ·obtain rfl:x=1:=by simpa[secondG] using hx
  exact⟨by decide,by decide⟩
theorem awake21_any (w:World) (hTb:Tabs w):Calls Tryz.prog 16 #[] w fun e w'=>e= .returned (.bool true)∧Below w.heap.size w w':=by
 have HTB:=hid hTb
 clear hTb
 go_enter Tryz.func16,Tryz.ntmps16
 go_upto_region 4 with(first
  |(go_at_call 18;refine(bxnew_any w).mono ?_;rintro e w1 ⟨rfl,hw1⟩;have HW1:=hid hw1;clear hw1))
 have hb1:Below w.heap.size w w1:=by rw[HW1.out];exact((Below.refl _ _).alloc (Nat.le_refl _) _).alloc (by simp) _
 have hs1:w1.heap.size=w.heap.size+2:=by rw[HW1.out];simp
 have HX1:=hid (BoxIn.made (S:=fun _=>False) (B:=w.heap.size) (Nat.le_refl _) (fun k hk=>hk.elim) HW1.out)
 have HB1:=hid hb1
 have HS1:=hid hs1
 clear HW1 hb1 hs1
 go_upto_region 6 with(first
  |(go_at_call 42;refine(firstg_any w1).mono ?_;rintro e w2 ⟨fa,rfl,hI2,hB2⟩))
 have HG2:=hid (show GrG w2 (fun k=>w1.heap.size≤k) (firstG,⟨none,0,some ⟨fa,0,none⟩,1⟩) from hI2)
 have HB2:=hid hB2
 clear hI2 hB2
 generalize hw3:w2.alloc (.cells #[.int .i64 1,.int .i64 1,.int .i64 1,.slice none 0 0,.int .i64 0,.int .i64 0,.slice (some ⟨fa,0,none⟩) 1 1] 45)=w3 at *
 have hs3:w3.heap.size=w2.heap.size+1:=by rw[←hw3];simp
 have hc3:w3.heap[w2.heap.size]? =some (.cells #[.int .i64 1,.int .i64 1,.int .i64 1,.slice none 0 0,.int .i64 0,.int .i64 0,.slice (some ⟨fa,0,none⟩) 1 1] 45 (0,0)):=by rw[←hw3];exact heap_alloc_new _ _
 have hb3:Below w2.heap.size w2 w3:=by rw[←hw3];exact(Below.refl _ _).alloc (Nat.le_refl _) _
 clear hw3
 generalize hw4:w3.alloc (.cells #[.int .i64 1] 3)=w4 at *
 have hs4:w4.heap.size=w2.heap.size+2:=by rw[←hw4];simp[hs3]
 have hc4:w4.heap[w2.heap.size+1]? =some (.cells #[.int .i64 1] 3 (0,0)):=by rw[←hw4];exact heap_alloc_newC _ _ hs3
 have hb4:Below w3.heap.size w3 w4:=by rw[←hw4];exact(Below.refl _ _).alloc (Nat.le_refl _) _
 clear hw4
 generalize hw5:w4.alloc (.cells #[.int .i64 2,.int .i64 1,.int .i64 2,.slice (some ⟨w2.heap.size+1,0,none⟩) 1 1,.int .i64 1,.int .i64 1,.slice none 0 0] 45)=W at *
 have hs5:W.heap.size=w2.heap.size+3:=by rw[←hw5];simp[hs4]
 have hc5:W.heap[w2.heap.size+2]? =some (.cells #[.int .i64 2,.int .i64 1,.int .i64 2,.slice (some ⟨w2.heap.size+1,0,none⟩) 1 1,.int .i64 1,.int .i64 1,.slice none 0 0] 45 (0,0)):=by rw[←hw5];exact heap_alloc_newC _ _ hs4
 have hb5:Below w4.heap.size w4 W:=by rw[←hw5];exact(Below.refl _ _).alloc (Nat.le_refl _) _
 clear hw5
 have hN:=HB2.out.size
 have hs1:=HS1.out
 have hb25:Below w2.heap.size w2 W:=(hb3.trans (hb4.mono (by omega))).trans (hb5.mono (by omega))
 have hb15:Below w1.heap.size w1 W:=HB2.out.trans (hb25.mono hN)
 obtain⟨S,hS⟩:∃S:Nat→Prop,S=fun k=>w1.heap.size≤k∧k<W.heap.size:=⟨_,rfl⟩
 have hX:BoxIn w.heap.size (w.heap.size+1) S Bx.new.done Bx.new.done Bx.new.wait Bx.new.v (boxN w) W:=(HX1.out.below hb15).sup (fun k hk=>hk.elim) (fun k hk=> .inr (by
  rw[hS] at hk
  refine⟨hk.2,fun h=> ?_⟩
  have:=hk.1
  rcases own_new_iff h with h|h<;>omega))
 have hG1:GrG W S (firstG,⟨none,0,some ⟨fa,0,none⟩,1⟩):=(HG2.out.agr (Agr.below hb25)).sub fun b hb h=>by rw[hS];exact⟨h,hb⟩
 have hG2:GrG W S (secondG,⟨some ⟨w2.heap.size+1,0,none⟩,1,none,0⟩):=second_in W S _ (by rw[hS];exact⟨by omega,by omega⟩) ((hb5.block _ (by omega)).trans hc4)
 have HCG:=hid ((hb5.block _ (by omega)).trans ((hb4.block _ (by omega)).trans hc3))
 have HCH:=hid hc5
 have HB5:=hid (HB1.out.trans (hb15.mono (by omega)))
 have HTW:=hid (HTB.out.below HB5.out)
 have HOW:=hid (show ∀k,Own (w.heap.size+1) (boxN w) k→w.heap.size≤k∧k<w2.heap.size from fun k h=>by rcases own_new_iff h with h|h<;>omega)
 have HN2:=hid (show w2.heap.size+2<W.heap.size by omega)
 have HG1:=hid hG1
 have HG2':=hid hG2
 have HX:=hid hX
 clear hS hs3 hs4 hs5 hc3 hc4 hc5 hb3 hb4 hb5 hN hs1 hb25 hb15 hX hG1 hG2 HG2 HB2 HS1 HX1 HB1
 have HE1:Hid (Calls Tryz.prog 20 #[.pointer (some ⟨w.heap.size+1,0,none⟩),.agg #[.int .i64 2,.int .i64 1,.int .i64 2,.slice (some ⟨w2.heap.size+1,0,none⟩) 1 1,.int .i64 1,.int .i64 1,.slice none 0 0]] W fun e w'=>e= .returned (.tuple #[.int .i64 0,.int .i64 0])∧∃X' S',BoxIn w.heap.size (w.heap.size+1) S' awb1.done awb1.done awb1.wait awb1.v X' w'∧BTo (w.heap.size+1) (boxN w) S W X' S' w'):=by
  refine hid ?_
  have:=bxhear_any (b:=Bx.new) HX.out BxOk.new secondG _ HG2'.out (fun o ho=>by cases ho) HTW.out (Nat.zero_le _) (Nat.zero_le _)
  rw[aw_hear1] at this
  exact this
 have HIN:=hid (show(Tryz.prog.info? 45).map (·.size)=some 7 by kernel_rfl)
 go_upto_region 7 with(first
  |(refine load_at rfl _ _ rfl (w2.heap.size+2) _ _ _ rfl HCH.out Tryz.underlying45 rfl HIN.out ?_)
  |(go_at_call 20;refine HE1.out.mono ?_;rintro e w6 ⟨rfl,X6,S6,hX6,hT6⟩))
 have hog:¬Own (w.heap.size+1) (boxN w) w2.heap.size:=fun h=>by have:=HOW.out _ h;omega
 have hoh:¬Own (w.heap.size+1) (boxN w) (w2.heap.size+2):=fun h=>by have:=HOW.out _ h;omega
 have HWT:=hid (show Calls Tryz.prog 22 #[.pointer (some ⟨w.heap.size+1,0,none⟩)] w6 fun e w'=>∃A c,e= .returned (.slice A 1 c)∧Below w6.heap.size w6 w' from(bxwait_any hX6 (by decide)).mono (by rintro e w' ⟨A,c,rfl,-,h⟩;exact⟨A,c,rfl,h⟩))
 have HX6:=hid hX6
 have HT6:=hid hT6
 clear hX6 hT6 HE1
 go_upto_region 8 with(first
  |(go_at_call 22;refine HWT.out.mono ?_;rintro e w7 ⟨A7,c7,rfl,hB7⟩))
 have hX7:=HX6.out.below hB7
 have hT7:=HT6.out.trans (BTo.of_below (P:=w.heap.size+1) (X:=X6) (S:=S6) hB7)
 have HCG7:=hid (hT7.gr.cells HCG.out hog)
 have HB7:=hid (HB5.out.trans (hT7.gr.below HB5.out.size (fun k h=>(HOW.out k h).1)))
 have HE2:Hid (Calls Tryz.prog 20 #[.pointer (some ⟨w.heap.size+1,0,none⟩),.agg #[.int .i64 1,.int .i64 1,.int .i64 1,.slice none 0 0,.int .i64 0,.int .i64 0,.slice (some ⟨fa,0,none⟩) 1 1]] w7 fun e w'=>e= .returned (.tuple #[.int .i64 2,.int .i64 0])∧∃X' S',BoxIn w.heap.size (w.heap.size+1) S' awb2.done awb2.done awb2.wait awb2.v X' w'∧BTo (w.heap.size+1) X6 S6 w7 X' S' w'):=by
  refine hid ?_
  have:=bxhear_any (b:=awb1) hX7 aw_ok1 firstG _ ((HG1.out.agr (hT7.gr.agr fun k _ h=>(HX.out.sep k h).2)).sub fun k _ h=>hT7.more k h) (fun o ho=>by obtain rfl:=List.mem_singleton.1 ho;decide) (HTB.out.below HB7.out) (by decide) (by decide)
  rw[aw_hear2] at this
  exact this
 have HT7:=hid hT7
 clear hX7 hT7 HX6 HT6 HWT hB7
 go_upto_region 9 with(first
  |(refine load_at rfl _ _ rfl w2.heap.size _ _ _ rfl HCG7.out Tryz.underlying45 rfl HIN.out ?_)
  |(go_at_call 20;refine HE2.out.mono ?_;rintro e w8 ⟨rfl,X8,S8,hX8,hT8⟩))
 have hT8:=HT7.out.trans hT8
 have HCH8:=hid (hT8.gr.cells HCH.out hoh)
 have HB8:=hid (HB5.out.trans (hT8.gr.below HB5.out.size (fun k h=>(HOW.out k h).1)))
 have HE3:Hid (Calls Tryz.prog 20 #[.pointer (some ⟨w.heap.size+1,0,none⟩),.agg #[.int .i64 2,.int .i64 1,.int .i64 2,.slice (some ⟨w2.heap.size+1,0,none⟩) 1 1,.int .i64 1,.int .i64 1,.slice none 0 0]] w8 fun e w'=>e= .returned (.tuple #[.int .i64 0,.int .i64 210])∧∃X' S',BoxIn w.heap.size (w.heap.size+1) S' awb2.done awb2.done awb2.wait awb2.v X' w'∧BTo (w.heap.size+1) X8 S8 w8 X' S' w'):=by
  refine hid ?_
  have:=bxhear_any (b:=awb2) hX8 aw_ok2 secondG _ ((HG2'.out.agr (hT8.gr.agr fun k _ h=>(HX.out.sep k h).2)).sub fun k _ h=>hT8.more k h) (fun o ho=>by cases ho) (HTB.out.below HB8.out) (by decide) (by decide)
  rw[aw_hear3] at this
  exact this
 have HT8:=hid hT8
 clear hX8 hT8 HT7 HE2
 go_upto_region 10 with(first
  |(refine load_at rfl _ _ rfl (w2.heap.size+2) _ _ _ rfl HCH8.out Tryz.underlying45 rfl HIN.out ?_)
  |(go_at_call 20;refine HE3.out.mono ?_;rintro e w9 ⟨rfl,X9,S9,hX9,hT9⟩))
 have hT9:=HT8.out.trans hT9
 have HB9:=hid (HB5.out.trans (hT9.gr.below HB5.out.size (fun k h=>(HOW.out k h).1)))
 have HX9:=hid hX9
 clear hX9 hT9 HT8 HE3
 go_wp2_with (first
  |(go_at_call 21;refine(bxdone_any HX9.out (by decide)).mono ?_;rintro e w10 ⟨A10,c10,rfl,-,hB10⟩;have HB10:=hid hB10;clear hB10)
  |(go_at_call 22;refine(bxwait_any (HX9.out.below HB10.out) (by decide)).mono ?_;rintro e w11 ⟨A11,c11,rfl,-,hB11⟩;have HB11:=hid (HB10.out.trans (hB11.mono HB10.out.size));clear hB11)
  |(go_at_call 28;refine(bxvec_any (HX9.out.below HB11.out)).mono ?_;rintro e w12 ⟨A12,c12,rfl,hv12,-,hB12⟩;have HV12:=hid hv12;have HB12:=hid (HB11.out.trans (hB12.mono HB11.out.size));clear hv12 hB12))
 have HBV:=hid (show VecR (w12.alloc (.cells #[.int .i64 2] 3)) (some ⟨w12.heap.size,0,none⟩) [2] from fun k hk=>by
  obtain rfl:k=0:=by have:k<1:=hk;omega
  refine⟨⟨w12.heap.size,0,none⟩,rfl,by simp,?_⟩
  rw[Addr.add_mid,cell_of_row _ _ _ _ _ _ (heap_alloc_new w12 _)];rfl)
 have HAV:=hid (show VecR (w12.alloc (.cells #[.int .i64 2] 3)) A12 [2] from VecS.vec (S:=fun k=>w11.heap.size≤k) (RowG.agr HV12.out (Agr.below ((Below.refl _ w12).alloc (Nat.le_refl _) _))))
 refine(same_any A12 _ c12 1 [2] [2] _ (by decide) HAV.out HBV.out).mono ?_
 rintro e w13 ⟨rfl,hB13⟩
 have HB13:=hid (HB9.out.trans ((HB12.out.trans ((((Below.refl _ w12).alloc (Nat.le_refl _) (.cells #[.int .i64 2] 3)).trans (hB13.mono (by simp))).mono HB12.out.size)).mono HB9.out.size))
 go_wp2
 go_ret
 exact⟨rfl,HB13.out⟩
end
section
open Go.RowKit Go.Lib Go.Sort
set_option linter.unusedVariables false
theorem own_gr {w w':World} {B E s n:Nat} {v:Value} {xs:List Value} {O:Nat→Prop} (h:w.ownsRow B E s v n xs) (hg:GrB O w w') (hO:∀k,v.ownBlock=some k→¬O k):w'.ownsRow B E s v n xs:=by
 refine⟨h.1,?_⟩
 rcases h.2 with h1|⟨g,cap,cur,rfl,h2,h3,h4⟩
 ·exact .inl h1
 ·exact .inr ⟨g,cap,cur,rfl,h2,(hg.block g (lt_of_block h3) (hO g rfl)).trans h3,h4⟩
theorem map_gr {H:Type} {w w':World} {P:Program} {k b n:Nat} {R:Value→Option (DataW H×List MemPlace)} {D:DataW H} {O:Nat→Prop} (h:w.ownsMap P k R b n D) (hg:GrB O w w') (hO:¬O b):w'.ownsMap P k R b n D:=by
 have hlt:=h.lt
 obtain⟨es,clock,hb,F,hs,hD⟩:=h
 exact⟨es,clock,(hg.block b hlt hO).trans hb,F,hs,hD⟩
theorem RbIn.gr {B P:Nat} {S O:Nat→Prop} {dn wt:List Grp} {X:RbX} {w w':World} (h:RbIn B P S dn wt X w) (hg:GrB O w w') (hO:∀k,OwnR P X k→¬O k) (hS:∀k,S k→¬O k):RbIn B P S dn wt X w':=
 ⟨(hg.block P (lt_of_block h.obj) (hO P (.inl rfl))).trans h.obj,own_gr h.done hg (fun k hk=>hO k (.inr (.inl hk))),own_gr h.wait hg (fun k hk=>hO k (.inr (.inr hk))),h.dl,h.wl,fun p hp=>(h.good p hp).agr (hg.agr fun k _ hk=>hS k hk),h.hP,h.dP,h.wP,h.dw,fun k hk=>⟨Nat.lt_of_lt_of_le (h.sep k hk).1 hg.size,(h.sep k hk).2⟩⟩
theorem BoxIn.gr {B P:Nat} {S O:Nat→Prop} {dn mp wt:List Grp} {v:List Int} {X:BoxX} {w w':World} (h:BoxIn B P S dn mp wt v X w) (hg:GrB O w w') (hO:∀k,Own P X k→¬O k) (hS:∀k,S k→¬O k):BoxIn B P S dn mp wt v X w':=
 have ha:Agr S w w':=hg.agr fun k _ hk=>hS k hk
 ⟨(hg.block P (lt_of_block h.obj) (hO P (.inl rfl))).trans h.obj,own_gr h.done hg (fun k hk=>hO k (.inr (.inr (.inl hk)))),own_gr h.wait hg (fun k hk=>hO k (.inr (.inr (.inr hk)))),h.dl,h.wl,map_gr h.map hg (hO _ (.inr (.inl rfl))),RowG.agr h.vec ha,h.vle,h.vmax,h.vlen,fun p hp=>(h.good p hp).agr ha,h.hP,h.hm,h.pm,h.dP,h.dm,h.wP,h.wm,h.dw,fun k hk=>⟨Nat.lt_of_lt_of_le (h.sep k hk).1 hg.size,(h.sep k hk).2⟩⟩
structure Two (B P Q n:Nat) (w1:World) (bc br:Bx) (wr:World):Prop where
 low:Below B w1 wr
 okc:RbOk bc
 okr:RbOk br
 wlc:bc.wait.length≤100
 wlr:br.wait.length≤100
 lenc:bc.done.length+bc.wait.length≤n
 lenr:br.done.length+br.wait.length≤n
 box:∃X S XR,BoxIn B P S bc.done bc.done bc.wait bc.v X wr∧RbIn B Q (fun k=>k<B) br.done br.wait XR wr∧(∀k,k<B→S k)∧(∀k,S k→¬OwnR Q XR k)∧(∀k,OwnR Q XR k→¬Own P X k)
theorem Two.below {B P Q n:Nat} {w1 wr w':World} {bc br:Bx} (h:Two B P Q n w1 bc br wr) (hB:B≤wr.heap.size) (hb:Below wr.heap.size wr w'):Two B P Q n w1 bc br w':=by
 obtain⟨X,S,XR,h1,h2,h3,h4,h5⟩:=h.box
 exact⟨h.low.trans (hb.mono hB),h.okc,h.okr,h.wlc,h.wlr,h.lenc,h.lenr,X,S,XR,h1.below hb,h2.below hb,h3,h4,h5⟩
theorem Two.hear {B P Q n:Nat} {w1 wr:World} {bc br:Bx} (h:Two B P Q n w1 bc br wr) (hn:n≤99998) (hB:B≤w1.heap.size) (p:Grp×GrX) (hG:GrG w1 (fun k=>k<B) p) (hT:∀o∈p.1.ops,o.text.size≤1000000) (hTb:Tabs wr):
  Calls Tryz.prog 20 #[.pointer (some ⟨P,0,none⟩),.agg (grA p.1 p.2.dA p.2.dc p.2.oA p.2.oc)] wr fun e w'=>e= .returned (.tuple #[.int .i64 ((hearB bc p.1).2.1:Nat),.int .i64 (hearB bc p.1).2.2])∧Two B P Q (n+1) w1 (hearB bc p.1).1 br w':=by
 obtain⟨X,S,XR,h1,h2,h3,h4,h5⟩:=h.box
 have hl:=h.lenc
 have hlr:=h.lenr
 refine(bxhear_any h1 h.okc.ok p.1 p.2 ((hG.agr ⟨h.low.size,fun b hb _=>h.low.block b hb⟩).sub fun k _ hk=>h3 k hk) (fun o ho=>by have:=hT o ho;omega) hTb h.wlc (by omega)).mono ?_
 rintro e w' ⟨rfl,X',S',hX',hTo⟩
 have hl2:=hearB_len bc p.1 h.wlc
 refine⟨rfl,h.low.trans (hTo.gr.below (by have:=h.low.size;omega) fun k hk=>(h1.own_lt hk).1),h.okc.hear h.wlc p.1 hT (by omega),h.okr,hl2.1,h.wlr,by omega,by omega,X',S',XR,hX',h2.gr hTo.gr h5 (fun k hk ho=>by have:=(h1.own_lt ho).1;omega),fun k hk=>hTo.more k (h3 k hk),fun k hk ho=> ?_,fun k ho hk=> ?_⟩
 ·rcases hTo.new k hk with h6|h6
  ·exact h4 k h6 ho
  ·have:=(h2.own_lt ho).2;omega
 ·rcases hTo.own k hk with h6|h6
  ·exact h5 k ho h6
  ·have:=(h2.own_lt ho).2;omega
theorem Two.rhear {B P Q n:Nat} {w1 wr:World} {bc br:Bx} (h:Two B P Q n w1 bc br wr) (hn:n≤99998) (hB:B≤w1.heap.size) (p:Grp×GrX) (hG:GrG w1 (fun k=>k<B) p) (hT:∀o∈p.1.ops,o.text.size≤1000000) (hck:chkB p.1=true):
  Calls Tryz.prog 34 #[.pointer (some ⟨Q,0,none⟩),.agg (grA p.1 p.2.dA p.2.dc p.2.oA p.2.oc)] wr fun e w'=>e= .returned (.tuple #[.int .i64 ((hearB br p.1).2.1:Nat),.int .i64 (hearB br p.1).2.2])∧Two B P Q (n+1) w1 bc (hearB br p.1).1 w':=by
 obtain⟨X,S,XR,h1,h2,h3,h4,h5⟩:=h.box
 have hl:=h.lenc
 have hlr:=h.lenr
 refine(rbhear_any h2 h.okr p.1 p.2 (hG.agr ⟨h.low.size,fun b hb _=>h.low.block b hb⟩) hT h.wlr (by omega) hck).mono ?_
 rintro e w' ⟨rfl,X',hX',hTo⟩
 have hl2:=hearB_len br p.1 h.wlr
 refine⟨rfl,h.low.trans (hTo.gr.below (by have:=h.low.size;omega) fun k hk=>(h2.own_lt hk).1),h.okc,h.okr.hear h.wlr p.1 hT (by omega),h.wlc,hl2.1,by omega,by omega,X,S,X',h1.gr hTo.gr (fun k hk ho=>h5 k ho hk) h4,hX',h3,fun k hk ho=> ?_,fun k ho hk=> ?_⟩
 ·rcases hTo.own k ho with h6|h6
  ·exact h4 k hk h6
  ·have:=(h1.sep k hk).1;omega
 ·rcases hTo.own k ho with h6|h6
  ·exact h5 k h6 hk
  ·have:=(h1.own_lt hk).2;omega
theorem Two.new {w w1 w2:World} (hw:w1=(w.alloc (.map #[] 0)).alloc (.cells #[.slice none 0 0,.slice none 0 0,.map (some w.heap.size),.slice none 0 0] 89)) (hw2:w2=w1.alloc (.cells #[.slice none 0 0,.slice none 0 0] 65)):
  Two w.heap.size (w.heap.size+1) w1.heap.size 0 w Bx.new Bx.new w2:=by
 have hok:RbOk Bx.new:=⟨BxOk.new,fun g hg=>(by cases hg),Nat.zero_le _⟩
 have hs1:w1.heap.size=w.heap.size+2:=by rw[hw];simp
 have hb1:Below w.heap.size w w1:=by rw[hw];exact((Below.refl _ _).alloc (Nat.le_refl _) _).alloc (by simp) _
 have hb2:Below w1.heap.size w1 w2:=by rw[hw2];exact(Below.refl _ _).alloc (Nat.le_refl _) _
 have hs2:w2.heap.size=w1.heap.size+1:=by rw[hw2];simp
 have hX:=(BoxIn.made (S:=fun k=>k<w.heap.size) (B:=w.heap.size) (Nat.le_refl _) (fun k hk=>hk) hw).below hb2
 refine⟨hb1.trans (hb2.mono (by omega)),hok,hok,Nat.zero_le _,Nat.zero_le _,Nat.le_refl _,Nat.le_refl _,boxN w,fun k=>k<w.heap.size,⟨.slice none 0 0,.slice none 0 0,[],[]⟩,hX,⟨?_,World.ownsRow_nil _ _ _ _,World.ownsRow_nil _ _ _ _,rfl,rfl,(fun p hp=>by cases hp),by omega,(fun e=>by cases e),(fun e=>by cases e),(fun g e=>by cases e),fun k hk=>⟨?_,?_⟩⟩,fun k hk=>hk,?_,?_⟩
 ·rw[hw2];exact heap_alloc_new _ _
 ·have hk:k<w.heap.size:=hk;omega
 ·have hk:k<w.heap.size:=hk
  rintro(h|h|h)
  ·omega
  ·cases h
  ·cases h
 ·rintro k hk (h|h|h)
  ·have hk:k<w.heap.size:=hk;omega
  ·cases h
  ·cases h
 ·rintro k (h|h|h) h2
  ·rcases own_new_iff h2 with h3|h3<;>omega
  ·cases h
  ·cases h
end
section
section
open Go.RowKit Go.Lib Go.Sort
set_option linter.unusedVariables false
attribute [local go_sem ↓] Go.wp_at_zero Go.wp_at_succ
theorem clear_elems {P:Program} (w:World) (t e ty:TypeId) (z:Value) (ht:P.underlying t=some (.slice e)) (hv:∀w,(zeroValue e).run P w= .ok z w) (h1:∀v∈z.cells.toList,v.oneCell'=true) (b o c k:Nat)
  (hc:∀j,j<(k+1)*z.cells.size→(w.cell? ⟨b,o+j,none⟩).isSome=true) (hf:∀j,j<(k+1)*z.cells.size→w.frozen? ⟨b,o+j,none⟩=false):
  (Builtin.clear_ #[t] ty #[.slice (some ⟨b,o,none⟩) (k+1) c]).run P w= .ok (.tuple #[]) (w.setCells b o (Builtin.zeroCells z.cells (k+1)).toList):=by
 have hl:(Builtin.zeroCells z.cells (k+1)).toList.length=(k+1)*z.cells.size:=by simp[Builtin.zeroCells]
 have hst:=run_storeCells_cells (P:=P) b o (Builtin.zeroCells z.cells (k+1)).toList 0 w (by rw[hl];simpa using hc) (by rw[hl];simpa using hf) (by
  intro v hv
  simp only[Builtin.zeroCells,Array.toList_map,List.mem_map] at hv
  obtain⟨i,hi,rfl⟩:=hv
  have hi:i<(k+1)*z.cells.size:=by simpa using hi
  have hz:0<z.cells.size:=by
   rcases Nat.eq_zero_or_pos z.cells.size with h0|h0
   ·rw[h0] at hi;simp at hi
   ·exact h0
  have hm:=Nat.mod_lt i hz
  rw[getElem!_pos z.cells _ hm]
  exact h1 _ (by simp))
 simp only[Nat.add_zero] at hst
 simp[Builtin.clear_,run_underlying ht,hv,hst]
def missL (v:List Int) (L:List (Grp×GrX)):List (Grp×GrX):=L.filter (fun p=> !oldB v p.1)
theorem missL_len (v:List Int) (L:List (Grp×GrX)):(missL v L).length≤L.length:=List.length_filter_le _ _
theorem missL_map (v:List Int) (L:List (Grp×GrX)):(missL v L).map Prod.fst=(L.map Prod.fst).filter (fun g=> !oldB v g):=by
 unfold missL
 rw[List.filter_map]
 rfl
theorem missL_succ {v:List Int} {L:List (Grp×GrX)} {k:Nat} (h:k<L.length):missL v (L.take (k+1))=missL v (L.take k)++(if oldB v (L.getD k gp0).1=true then [] else [L.getD k gp0]):=by
 unfold missL
 rw[List.take_add_one,List.filter_append,List.getElem?_eq_getElem h,List.getD_eq_getElem?_getD,List.getElem?_eq_getElem h]
 congr 1
 cases e:oldB v L[k].1<;>simp[e]
theorem missL_all {v:List Int} {L:List (Grp×GrX)} {n:Nat} (h:∀k,k<n→oldB v (L.getD k gp0).1=false) (hn:n≤L.length):missL v (L.take n)=L.take n:=by
 unfold missL
 rw[List.filter_eq_self]
 intro p hp
 obtain⟨k,hk,rfl⟩:=List.mem_iff_getElem.1 hp
 rw[List.length_take] at hk
 have:=h k (by omega)
 rw[List.getD_eq_getElem?_getD,List.getElem?_eq_getElem (by omega)] at this
 rw[List.getElem_take]
 simpa using this
theorem bxmisf_any (a:Grp) (x:GrX) (vb:Nat) (vA:Option Addr) (vc:Nat) (v:List Int) (S:Nat→Prop) (w:World) (hv:v.length≤1000) (hC:w.heap[vb]? =some (.cells #[.slice vA v.length vc] 27 (0,0))) (hV:VecS w S vA v):
  Calls Tryz.prog 62 #[.agg (grA a x.dA x.dc x.oA x.oc),.pointer (some ⟨vb,0,none⟩)] w fun e w'=>e= .returned (.bool (oldB v a))∧Below w.heap.size w w':=by
 obtain⟨⟨⟨t,r⟩,n,u,⟨ut,ur⟩,ops⟩,hg⟩:∃g,g=a:=⟨_,rfl⟩
 subst hg
 obtain⟨dA,dc,oA,oc⟩:=x
 obtain⟨z,hz⟩:∃z,z=atV v r:=⟨_,rfl⟩
 obtain⟨ans,hans⟩:∃b,b=oldB v ⟨⟨t,r⟩,n,u,⟨ut,ur⟩,ops⟩:=⟨_,rfl⟩
 have q1:decide (n≤z)=ans:=by rw[hans,hz];rfl
 rw[←hans]
 have hb0:Below w.heap.size w (w.alloc (.cells #[.int .i64 t,.int .i64 r,.int .i64 n,.slice dA u.length dc,.int .i64 ut,.int .i64 ur,.slice oA ops.length oc] 45)):=(Below.refl _ _).alloc (Nat.le_refl _) _
 have hAT:∀W,Below w.heap.size w W→Calls Tryz.prog 63 #[.slice vA v.length vc,.int .i64 r] W fun e w'=>e= .returned (.int .i64 z)∧Below W.heap.size W w':=fun W hB=>
  (at_any vA vc v r W (by omega) (VecS.vec (show VecS W S vA v from RowG.agr hV (Agr.below hB)))).mono (by rintro e w' ⟨rfl,rfl⟩;exact⟨by rw[hz],Below.refl _ _⟩)
 have HAT:=hid hAT
 have HC:=hid (heap_alloc_new w (.cells #[.int .i64 t,.int .i64 r,.int .i64 n,.slice dA u.length dc,.int .i64 ut,.int .i64 ur,.slice oA ops.length oc] 45))
 have HV:=hid ((hb0.block vb (lt_of_block hC)).trans hC)
 have HB:=hid hb0
 show Calls _ _ #[.agg #[.int .i64 t,.int .i64 r,.int .i64 n,.slice dA u.length dc,.int .i64 ut,.int .i64 ur,.slice oA ops.length oc],.pointer (some ⟨vb,0,none⟩)] _ _
 clear hAT hans hz hV hC
 go_enter Tryz.func62,Tryz.ntmps62
 go_upto_region 1 with fail
 generalize hW:w.alloc (.cells #[.int .i64 t,.int .i64 r,.int .i64 n,.slice dA u.length dc,.int .i64 ut,.int .i64 ur,.slice oA ops.length oc] 45)=W at *
 clear hW
 have x1:=rg1 HC.out
 have x2:=rg2 HC.out
 have y0:=rg0 HV.out
 have cA:=fun d os=>Calls.regrown_of (HAT.out (grow (redrawn W d) os) (bx_grow HB.out HB.out.size d os))
 refine rqb ?_
 repeat(any_goals(first|go_big_quiet_step (with_reducible exact cA _ _)|quiet_step (with_reducible exact cA _ _)))
 refine qz fun wq hBq=> ?_
 go_wp2
 go_ret
 exact⟨rfl,HB.out.trans (hBq.mono HB.out.size)⟩
def FirstOld (v:List Int) (M:List (Grp×GrX)) (z:Int):Prop:=(z= -1∧missL v M=M)∨∃k:Nat,z=(k:Int)∧k<M.length∧oldB v (M.getD k gp0).1=true∧missL v (M.take k)=M.take k
theorem bxmisix_any (A:Option Addr) (c:Nat) (M:List (Grp×GrX)) (vb:Nat) (vA:Option Addr) (vc:Nat) (v:List Int) (S:Nat→Prop) (w:World) (hl:M.length≤1000000) (hv:v.length≤1000) (hR:RowGr w A M) (hC:w.heap[vb]? =some (.cells #[.slice vA v.length vc] 27 (0,0))) (hV:VecS w S vA v):
  Calls Tryz.prog 118 #[.slice A M.length c,(.func (Fn.func 62) #[] #[.pointer (some ⟨vb,0,none⟩)])] w fun e w'=>(∃z:Int,e= .returned (.int .i64 z)∧FirstOld v M z)∧Below w.heap.size w w':=by
 obtain⟨m,hm⟩:∃m,m=M.length:=⟨_,rfl⟩
 rw[←hm]
 have HR:=hid hR
 have HC:=hid hC
 have HV:=hid hV
 have HM:=hid hm
 have hm63:m≤1000000:=by omega
 have HVL:=hid hv
 clear hR hC hm hl hV hv
 go_enter Tryz.func118,Tryz.ntmps118
 go_wp2
 go_loopw [8] (fun i wr=>∃k:Nat,i= .int .i64 k∧k≤m∧Hid (Below w.heap.size w wr)∧Hid (∀j,j<k→oldB v (M.getD j gp0).1=false)) (fun i _=>m-(RowKit.intOf i).toNat)
 case atStart=>exact⟨0,rfl,Nat.zero_le _,hid (Below.refl _ _),hid (fun j hj=>absurd hj (Nat.not_lt_zero j))⟩
 case round=>
  obtain⟨k,rfl,hk,HB,HK⟩:=hrel
  by_cases hlt:k<m
  ·obtain⟨rb,ro,rfl,hrb,hrange⟩:=RowGr.range (RowGr.below HR.out HB.out) (k:=k) (by rw[←HM.out];exact hlt)
   have i1:(0:Int)≤(k:Int):=by omega
   have i2:(k:Int)<(m:Int):=by omega
   obtain⟨p,hp⟩:∃p,p=M.getD k gp0:=⟨_,rfl⟩
   rw[←hp] at hrange
   obtain⟨a,x⟩:=p
   obtain⟨b,hb⟩:∃b,b=oldB v a:=⟨_,rfl⟩
   have HCL:=hid (bxmisf_any a x vb vA vc v S wr HVL.out ((HB.out.block vb (lt_of_block HC.out)).trans HC.out) (RowG.agr HV.out (Agr.below HB.out)))
   rw[←hb] at HCL
   have HBB:=hid (show oldB v (M.getD k gp0).1=b by rw[←hp,hb])
   clear hb hp
   obtain⟨⟨t,r⟩,n,u,⟨ut,ur⟩,ops⟩:=a
   obtain⟨dA,dc,oA,oc⟩:=x
   have HRG:=hid (show wr.rangeAt rb (ro+k*7) [.int .i64 t,.int .i64 r,.int .i64 n,.slice dA u.length dc,.int .i64 ut,.int .i64 ur,.slice oA ops.length oc] from hrange)
   have HCL2:Hid (Calls Tryz.prog 62 #[.agg #[.int .i64 t,.int .i64 r,.int .i64 n,.slice dA u.length dc,.int .i64 ut,.int .i64 ur,.slice oA ops.length oc],.pointer (some ⟨vb,0,none⟩)] wr fun e w'=>e= .returned (.bool b)∧Below wr.heap.size wr w'):=HCL
   clear hrange HCL
   cases b with
   | true=>
    go_wp2_with (first
     |(refine wpList_load_mid rfl _ _ rfl rb (ro+k*7) rfl [.int .i64 t,.int .i64 r,.int .i64 n,.slice dA u.length dc,.int .i64 ut,.int .i64 ur,.slice oA ops.length oc] _ HRG.out Tryz.underlying45 rfl (by kernel_rfl) ?_)
     |(go_at_call 62;refine HCL2.out.mono ?_;rintro e w2 ⟨rfl,hB2⟩))
    have HB2:=hid (HB.out.trans (hB2.mono HB.out.size))
    clear hB2
    go_ret
    exact⟨⟨(k:Int),rfl,.inr ⟨k,rfl,by rw[←HM.out];exact hlt,HBB.out,missL_all HK.out (by rw[←HM.out];exact hk)⟩⟩,HB2.out⟩
   | false=>
    have HK2:=hid (show ∀j,j<k+1→oldB v (M.getD j gp0).1=false from fun j hj=>if h:j<k then HK.out j h else (by(obtain rfl:j=k:=(by omega));exact HBB.out))
    go_wp2_with (first
     |(refine wpList_load_mid rfl _ _ rfl rb (ro+k*7) rfl [.int .i64 t,.int .i64 r,.int .i64 n,.slice dA u.length dc,.int .i64 ut,.int .i64 ur,.slice oA ops.length oc] _ HRG.out Tryz.underlying45 rfl (by kernel_rfl) ?_)
     |(go_at_call 62;refine HCL2.out.mono ?_;rintro e w2 ⟨rfl,hB2⟩))
    have HB2:=hid (HB.out.trans (hB2.mono HB.out.size))
    clear hB2
    exact⟨⟨k+1,by go_num,by omega,HB2,HK2⟩,by simp[RowKit.intOf];omega⟩
  ·obtain rfl:k=m:=by omega
   have i2:¬(k:Int)<(k:Int):=by omega
   go_wp2
   go_ret
   refine⟨⟨-1,by rfl,.inl ⟨rfl,?_⟩⟩,HB.out⟩
   have h9:=missL_all (v:=v) (L:=M) HK.out (by rw[HM.out];exact Nat.le_refl _)
   rw[HM.out,List.take_length] at h9
   exact h9
end
section
open Go.RowKit Go.Lib Go.Sort
set_option linter.unusedVariables false
attribute [local go_sem ↓] Go.wp_at_zero Go.wp_at_succ
theorem row_put {cur:Array Value} {a m:Nat} {vals F:List Value} (hs:(a+1)*7≤cur.size) (hv:vals.length=7) (ht:cur.toList.take (a*7)=F):(putL cur (a*7) vals).toList.take ((a+1)*7)=F++vals:=by
 have hF:F.length=a*7:=by rw[←ht,List.length_take,Array.length_toList];omega
 apply List.ext_getElem?
 intro i
 rw[List.getElem?_take,Array.getElem?_toList]
 by_cases h:i<(a+1)*7
 ·rw[if_pos h,putL_get _ _ _ _ (by omega)]
  by_cases h2:i<a*7
  ·rw[if_neg (by omega),List.getElem?_append_left (by omega),←ht,List.getElem?_take,if_pos h2,Array.getElem?_toList]
  ·rw[if_pos (by omega),List.getElem?_append_right (by omega),hF]
 ·rw[if_neg h,List.getElem?_eq_none (by rw[List.length_append];omega)]
structure DelAt (g cap a k m:Nat) (v:List Int) (M:List (Grp×GrX)) (w wr:World):Prop where
 row:∃cur,wr.heap[g]? =some (.cells cur 45 (0,0))∧cur.size=cap*7∧cur.toList.take (a*7)=(missL v (M.take k)).flatMap grC_∧∀x,k*7≤x→x<m*7→cur[x]? =(M.flatMap grC_)[x]?
 len:a=(missL v (M.take k)).length
 low:w.grownBy wr (some g)
theorem DelAt.below {g cap a k m:Nat} {v:List Int} {M:List (Grp×GrX)} {w wr w':World} (h:DelAt g cap a k m v M w wr) (hb:Below wr.heap.size wr w'):DelAt g cap a k m v M w w':=by
 obtain⟨cur,h1,h2,h3,h4⟩:=h.row
 exact⟨⟨cur,(hb.block g (lt_of_block h1)).trans h1,h2,h3,h4⟩,h.len,⟨hb.os.trans h.low.os,hb.tape.trans h.low.tape,hb.output.trans h.low.output,Nat.le_trans h.low.size hb.size,fun i hi hn=>(hb.block i (Nat.lt_of_lt_of_le hi h.low.size)).trans (h.low.block i hi hn)⟩⟩
theorem DelAt.range {g cap a k m:Nat} {v:List Int} {M:List (Grp×GrX)} {w wr:World} (h:DelAt g cap a k m v M w wr) (hk:k<m) (hm:m=M.length):wr.rangeAt g (k*7) (grL (M.getD k gp0).1 (M.getD k gp0).2):=by
 obtain⟨cur,h1,h2,h3,h4⟩:=h.row
 intro j y hj
 have hj7:j<7:=(List.getElem?_eq_some_iff.1 hj).1
 rw[crw h1,h4 _ (by omega) (by omega)]
 have hk2:k<M.length:=by omega
 have h9:=flat_get (s:=7) (f:=grC_) (fun _=>rfl) M k j gp0 hk2 hj7
 rw[h9]
 exact hj
theorem DelAt.there {g cap a k m:Nat} {v:List Int} {M:List (Grp×GrX)} {w wr:World} (h:DelAt g cap a k m v M w wr) (hk:a<m) (hm:m≤cap):wr.there g (a*7) 7:=by
 obtain⟨cur,h1,h2,h3,h4⟩:=h.row
 intro j hj
 refine⟨?_,frozen_of_row _ _ _ _ _ h1⟩
 rw[crw h1,Array.getElem?_eq_getElem (by omega)]
 rfl
theorem DelAt.drop {g cap a k m:Nat} {v:List Int} {M:List (Grp×GrX)} {w wr:World} (h:DelAt g cap a k m v M w wr) (hk:k<M.length) (hb:oldB v (M.getD k gp0).1=true):DelAt g cap a (k+1) m v M w wr:=by
 obtain⟨cur,h1,h2,h3,h4⟩:=h.row
 have e:missL v (M.take (k+1))=missL v (M.take k):=by rw[missL_succ hk,if_pos hb,List.append_nil]
 exact⟨⟨cur,h1,h2,by rw[e];exact h3,fun x hx=>h4 x (by omega)⟩,by rw[e];exact h.len,h.low⟩
theorem DelAt.keep {g cap a k m:Nat} {v:List Int} {M:List (Grp×GrX)} {w wr:World} (h:DelAt g cap a k m v M w wr) (hk:k<M.length) (ha:a<k) (hm:m=M.length) (hc:m≤cap) (hb:oldB v (M.getD k gp0).1=false) (vals:List Value) (hv:grL (M.getD k gp0).1 (M.getD k gp0).2=vals):DelAt g cap (a+1) (k+1) m v M w (wr.setCells g (a*7) vals):=by
 subst hv
 obtain⟨cur,h1,h2,h3,h4⟩:=h.row
 have e:missL v (M.take (k+1))=missL v (M.take k)++[M.getD k gp0]:=by rw[missL_succ hk,hb,if_neg (by decide)]
 have hl:(grL (M.getD k gp0).1 (M.getD k gp0).2).length=7:=rfl
 generalize hV:grL (M.getD k gp0).1 (M.getD k gp0).2=vals at *
 have e2:wr.setCells g (a*7) vals=wr.setRow g (putL cur (a*7) vals):=by rw[setCells_put g 45 vals _ cur wr h1]
 rw[e2]
 refine⟨⟨putL cur (a*7) vals,heap_setRow_same _ h1,by rw[putL_size,h2],?_,fun x hx hx2=> ?_⟩,by rw[e,List.length_append,List.length_singleton,←h.len],?_⟩
 ·rw[row_put (m:=m) (by rw[h2];omega) hl h3,e,List.flatMap_append,List.flatMap_singleton]
  congr 1
  exact hV.symm
 ·rw[putL_get _ _ _ _ (by rw[h2,hl];omega),if_neg (by rw[hl];omega)]
  exact h4 x (by omega) hx2
 ·refine⟨h.low.os,h.low.tape,h.low.output,by simpa[World.setRow] using h.low.size,fun i hi hn=> ?_⟩
  have hn:i≠g:=fun e=>hn (by rw[e])
  rw[setRow_other _ _ _ _ hn]
  exact h.low.block i hi (by intro e;injection e with e;exact hn e)
theorem bxdelf_any {B:Nat} (A:Option Addr) (c:Nat) (M:List (Grp×GrX)) (vb:Nat) (vA:Option Addr) (vc:Nat) (v:List Int) (S:Nat→Prop) (w:World) (hO:w.ownsRow B 45 7 (.slice A M.length c) M.length (M.flatMap grC_)) (hl:M.length≤1000000) (hv:v.length≤1000) (hC:w.heap[vb]? =some (.cells #[.slice vA v.length vc] 27 (0,0))) (hV:VecS w S vA v) (hS:∀g,(Value.slice A M.length c).ownBlock=some g→g≠vb∧¬S g):
  Calls Tryz.prog 61 #[.slice A M.length c,(.func (Fn.func 62) #[] #[.pointer (some ⟨vb,0,none⟩)])] w fun e w'=>∃A' c',e= .returned (.slice A' (missL v M).length c')∧w'.ownsRow B 45 7 (.slice A' (missL v M).length c') (missL v M).length ((missL v M).flatMap grC_)∧w.grownBy w' (Value.slice A M.length c).ownBlock:=by
 have HIX:=hid (bxmisix_any A c M vb vA vc v S w hl hv (RowGr.own hO) hC hV)
 obtain⟨m,hm⟩:∃m,m=M.length:=⟨_,rfl⟩
 rw[←hm] at HIX hO hS ⊢
 have HO:=hid hO
 have HC:=hid hC
 have HV:=hid hV
 have HM:=hid hm
 have HS:=hid hS
 have hm63:m≤1000000:=by omega
 have HVL:=hid hv
 clear hO hC hV hm hS hl hv
 go_enter Tryz.func61,Tryz.ntmps61
 go_wp2_with fail
 refine HIX.out.mono ?_
 rintro e w1 ⟨⟨z,rfl,hz⟩,hB1⟩
 have HB1:=hid hB1
 clear HIX hB1
 rcases hz with⟨rfl,hmis⟩|⟨k0,rfl,hk0,hold,hmis⟩
 ·have HMS:=hid hmis
  have HL9:=hid (show(missL v M).length=m by rw[hmis];exact HM.out.symm)
  clear hmis
  go_wp2
  go_ret
  refine⟨A,c,by rw[HL9.out];rfl,?_,gby_below HB1.out⟩
  rw[HL9.out,HMS.out]
  exact HO.out.kept (gby_below (r:=none) HB1.out) (Classical.em _)
 ·have hO1:=HO.out.kept (gby_below (r:=none) HB1.out) (Classical.em _)
  have hkm:k0<m:=by rw[HM.out];exact hk0
  rcases hO1.2 with⟨-,h0⟩|⟨g,cap,cur,hA,hBg,hg,hnc,hcm,hsz,htk⟩
  ·omega
  cases hA
  have hS9:=HS.out g rfl
  have hcap:c≤9223372036854775807:=by unfold maxLen at hcm;omega
  have HD0:=hid (show DelAt g c k0 (k0+1) m v M w w1 from by
   have e:missL v (M.take (k0+1))=M.take k0:=by rw[missL_succ hk0,if_pos hold,List.append_nil,hmis]
   refine⟨⟨cur,hg,hsz,?_,fun x hx hx2=> ?_⟩,by rw[e,List.length_take];omega,gby_below HB1.out⟩
   ·rw[e,flat_take,←htk,List.take_take]
    congr 1;omega
   ·rw[←htk,List.getElem?_take,if_pos hx2,Array.getElem?_toList])
  have HLOW:=hid (show ∀W,w.grownBy W (some g)→VecS W S vA v∧W.heap[vb]? =some (.cells #[.slice vA v.length vc] 27 (0,0)) from fun W hW=>⟨RowG.agr HV.out ⟨hW.size,fun b hb hs=>hW.block b hs (fun e=>by injection e with e;subst e;exact hS9.2 hb)⟩,(hW.block vb (lt_of_block HC.out) (fun e=>by injection e with e;exact hS9.1 e.symm)).trans HC.out⟩)
  have i0:((k0:Int) == -1)=false:=by rw[beq_eq_false_iff_ne];omega
  clear hold hmis hO1 hg hsz htk hS9 HC HV HB1
  go_wp2
  go_loopw [5,6] (fun i j wr=>∃(a k:Nat),i= .int .i64 a∧j= .int .i64 k∧a<k∧k≤m∧Hid (DelAt g c a k m v M w wr)) (fun i j _=>m-(RowKit.intOf j).toNat)
  case atStart=>exact⟨k0,k0+1,rfl,by go_num,by omega,by omega,HD0⟩
  case round=>
   obtain⟨a,k,rfl,rfl,hak,hkm2,HD⟩:=hrel
   by_cases hlt:k<m
   ·have i1:(0:Int)≤(k:Int):=by omega
    have i2:(k:Int)<(m:Int):=by omega
    have i3:(0:Int)≤(a:Int):=by omega
    have i4:(a:Int)<(m:Int):=by omega
    have hkM:k<M.length:=by rw[←HM.out];exact hlt
    have hrange:=HD.out.range hlt HM.out
    obtain⟨p,hp⟩:∃p,p=M.getD k gp0:=⟨_,rfl⟩
    rw[←hp] at hrange
    obtain⟨bg,x⟩:=p
    obtain⟨b,hb⟩:∃b,b=oldB v bg:=⟨_,rfl⟩
    have HBB:=hid (show oldB v (M.getD k gp0).1=b by rw[←hp,hb])
    have HGP:=hid (show grL (M.getD k gp0).1 (M.getD k gp0).2=grL bg x by rw[←hp])
    have HCL:=hid (fun W (hW:Below wr.heap.size wr W)=>bxmisf_any bg x vb vA vc v S W HVL.out (HLOW.out W (HD.out.below hW).low).2 (HLOW.out W (HD.out.below hW).low).1)
    rw[←hb] at HCL
    clear hb hp
    obtain⟨⟨t,r⟩,n,u,⟨ut,ur⟩,ops⟩:=bg
    obtain⟨dA,dc,oA,oc⟩:=x
    have HRG:=hid (show wr.rangeAt g (k*7) [.int .i64 t,.int .i64 r,.int .i64 n,.slice dA u.length dc,.int .i64 ut,.int .i64 ur,.slice oA ops.length oc] from hrange)
    have HCL2:Hid (∀W,Below wr.heap.size wr W→Calls Tryz.prog 62 #[.agg #[.int .i64 t,.int .i64 r,.int .i64 n,.slice dA u.length dc,.int .i64 ut,.int .i64 ur,.slice oA ops.length oc],.pointer (some ⟨vb,0,none⟩)] W fun e w'=>e= .returned (.bool b)∧Below W.heap.size W w'):=HCL
    have HVAL:Hid (grL (M.getD k gp0).1 (M.getD k gp0).2=[.int .i64 t,.int .i64 r,.int .i64 n,.slice dA u.length dc,.int .i64 ut,.int .i64 ur,.slice oA ops.length oc]):=HGP
    clear hrange HCL HGP
    go_upto_region 8 with(first
     |(refine wpList_load_mid rfl _ _ rfl g (k*7) rfl [.int .i64 t,.int .i64 r,.int .i64 n,.slice dA u.length dc,.int .i64 ut,.int .i64 ur,.slice oA ops.length oc] _ HRG.out Tryz.underlying45 rfl (by kernel_rfl) ?_)
     |(refine store_last rfl _ _ _ rfl _ _ _ _ rfl ?_ rfl ?_ ?_ ?_ ?_;(focus(simp;done));kernel_rfl;rfl;rfl))
    have HB2:=hid (show Below wr.heap.size wr (wr.alloc (.cells #[.int .i64 t,.int .i64 r,.int .i64 n,.slice dA u.length dc,.int .i64 ut,.int .i64 ur,.slice oA ops.length oc] 45)) from(Below.refl _ _).alloc (Nat.le_refl _) _)
    have HC2:=hid (heap_alloc_new wr (.cells #[.int .i64 t,.int .i64 r,.int .i64 n,.slice dA u.length dc,.int .i64 ut,.int .i64 ur,.slice oA ops.length oc] 45))
    generalize hW:wr.alloc (.cells #[.int .i64 t,.int .i64 r,.int .i64 n,.slice dA u.length dc,.int .i64 ut,.int .i64 ur,.slice oA ops.length oc] 45)=W at *
    clear hW
    cases b with
    | true=>
     have HD2:=hid (fun W hW=>(HD.out.below hW).drop hkM HBB.out (wr:=W))
     go_wp2_with (first
      |(refine load_at rfl _ _ rfl wr.heap.size _ _ _ rfl HC2.out Tryz.underlying45 rfl ?_ ?_;kernel_rfl)
      |(go_at_call 62;refine(HCL2.out W HB2.out).mono ?_;rintro e w2 ⟨rfl,hB2⟩))
     have HB3:=hid (HB2.out.trans (hB2.mono HB2.out.size))
     clear hB2
     go_roundw
     case rel=>exact⟨a,k+1,rfl,by go_num,by omega,by omega,hid (HD2.out _ HB3.out)⟩
     case measure=>(simp[RowKit.intOf];omega)
    | false=>
     go_upto_region 9 with(first
      |(refine load_at rfl _ _ rfl wr.heap.size _ _ _ rfl HC2.out Tryz.underlying45 rfl ?_ ?_;kernel_rfl)
      |(go_at_call 62;refine(HCL2.out W HB2.out).mono ?_;rintro e w2 ⟨rfl,hB2⟩))
     have HB3:=hid (HB2.out.trans (hB2.mono HB2.out.size))
     have HC3:=hid ((hB2.block _ (lt_of_block HC2.out)).trans HC2.out)
     have HD3:=hid (HD.out.below HB3.out)
     have HALL:=hid (show(#[.int .i64 t,.int .i64 r,.int .i64 n,.slice dA u.length dc,.int .i64 ut,.int .i64 ur,.slice oA ops.length oc]:Array Value).all (·.oneCell')=true by rw[←Array.all_toList];rfl)
     have HINF:=hid (show(Tryz.prog.info? 45).map (·.size)=some (#[.int .i64 t,.int .i64 r,.int .i64 n,.slice dA u.length dc,.int .i64 ut,.int .i64 ur,.slice oA ops.length oc]:Array Value).size by kernel_rfl)
     have HT3:=hid (HD3.out.there (show a<m by omega) hnc)
     have HK3:=hid (show DelAt g c (a+1) (k+1) m v M w (w2.setCells g (a*7) (#[.int .i64 t,.int .i64 r,.int .i64 n,.slice dA u.length dc,.int .i64 ut,.int .i64 ur,.slice oA ops.length oc]:Array Value).toList) from HD3.out.keep hkM hak HM.out hnc HBB.out _ HVAL.out)
     clear hB2
     go_wp2_with (first
      |(refine load_at rfl _ _ rfl wr.heap.size _ _ _ rfl HC3.out Tryz.underlying45 rfl ?_ ?_;kernel_rfl)
      |(refine wpList_store_mid rfl _ _ _ rfl g (a*7) #[.int .i64 t,.int .i64 r,.int .i64 n,.slice dA u.length dc,.int .i64 ut,.int .i64 ur,.slice oA ops.length oc] rfl rfl HT3.out HINF.out HALL.out ?_;generalize w2.setCells g (a*7) (#[.int .i64 t,.int .i64 r,.int .i64 n,.slice dA u.length dc,.int .i64 ut,.int .i64 ur,.slice oA ops.length oc]:Array Value).toList=W3 at HK3 ⊢))
     go_roundw
     case rel=>exact⟨a+1,k+1,by go_num,by go_num,by omega,by omega,HK3⟩
     case measure=>(simp[RowKit.intOf];omega)
   ·obtain rfl:k=m:=by omega
    obtain⟨q,hq⟩:∃q,k-a=q+1:=⟨k-a-1,by omega⟩
    obtain⟨cr,h1,h2,h3,h4⟩:=HD.out.row
    have hlen:=HD.out.len
    rw[HM.out,List.take_length] at hlen h3
    have hzl:(Builtin.zeroCells (.agg #[.int .i64 0,.int .i64 0,.int .i64 0,.slice none 0 0,.int .i64 0,.int .i64 0,.slice none 0 0]:Value).cells (q+1)).toList.length=(q+1)*7:=by simp[Builtin.zeroCells,Value.cells]
    have hclr:∀ty,(Builtin.clear_ #[25] ty #[.slice (some ⟨g,a*7,none⟩) (k-a) (c-a)]).run Tryz.prog wr= .ok (.tuple #[]) (wr.setRow g (putL cr (a*7) (Builtin.zeroCells (.agg #[.int .i64 0,.int .i64 0,.int .i64 0,.slice none 0 0,.int .i64 0,.int .i64 0,.slice none 0 0]:Value).cells (q+1)).toList)):=fun ty=>by
     rw[hq,←setCells_put g 45 _ _ cr wr h1]
     refine clear_elems wr _ 45 ty (.agg #[.int .i64 0,.int .i64 0,.int .i64 0,.slice none 0 0,.int .i64 0,.int .i64 0,.slice none 0 0]) Tryz.underlying25 zeroGr (fun v hv=>oc_of (c:=#[.int .i64 0,.int .i64 0,.int .i64 0,.slice none 0 0,.int .i64 0,.int .i64 0,.slice none 0 0]) rfl v hv) g (a*7) (c-a) q (fun j hj=> ?_) (fun j hj=>frozen_of_row _ _ _ _ _ h1)
     have hj:j<(q+1)*7:=hj
     rw[crw h1,Array.getElem?_eq_getElem (by omega)]
     rfl
    generalize (Builtin.zeroCells (.agg #[.int .i64 0,.int .i64 0,.int .i64 0,.slice none 0 0,.int .i64 0,.int .i64 0,.slice none 0 0]:Value).cells (q+1)).toList=zs at *
    have HFIN:=hid (show(wr.setRow g (putL cr (a*7) zs)).ownsRow B 45 7 (.slice (some ⟨g,0,none⟩) (missL v M).length c) (missL v M).length ((missL v M).flatMap grC_)∧w.grownBy (wr.setRow g (putL cr (a*7) zs)) (some g) from by
     refine⟨⟨lengrC_ _,.inr ⟨g,c,putL cr (a*7) zs,rfl,hBg,heap_setRow_same _ h1,by omega,hcm,by rw[putL_size,h2],?_⟩⟩,?_⟩
     ·rw[←hlen,←h3]
      apply List.ext_getElem?
      intro i
      rw[List.getElem?_take,List.getElem?_take]
      by_cases h:i<a*7
      ·rw[if_pos h,if_pos h,Array.getElem?_toList,Array.getElem?_toList,putL_get _ _ _ _ (by rw[h2,hzl];omega),if_neg (by omega)]
      ·rw[if_neg h,if_neg h]
     ·have hlow:=HD.out.low
      refine⟨hlow.os,hlow.tape,hlow.output,by simpa[World.setRow] using hlow.size,fun i hi hn=> ?_⟩
      have hn2:i≠g:=fun e=>hn (by rw[e])
      rw[setRow_other _ _ _ _ hn2]
      exact hlow.block i hi hn)
    have HCLR:=hid hclr
    have HAL:=hid hlen
    have j1:¬(k:Int)<(k:Int):=by omega
    have j2:(0:Int)≤(a:Int):=by omega
    have j3:(a:Int)≤(k:Int):=by omega
    have j4:(a:Int)≤(c:Int):=by omega
    have j5:¬c=a:=by omega
    have j6:(k:Int)≤(c:Int):=by omega
    clear hclr hlen h1 h2 h3 h4 hzl hq
    go_wp2
    rw[HCLR.out]
    simp only[Result.andThen]
    rw[Oper.upon_value]
    go_wp2
    go_ret
    exact⟨_,_,by rw[←HAL.out];rfl,HFIN.out.1,HFIN.out.2⟩
theorem vec_low {w:World} {S:Nat→Prop} {A:Option Addr} {v:List Int} (h:VecS w S A v):VecS w (fun k=>k<w.heap.size) A v:=RowG.sub h (fun b hb _=>hb)
theorem bxmissing_any {B P:Nat} {S S2:Nat→Prop} {dn mp wt:List Grp} {v:List Int} {X:BoxX} {w:World} (h:BoxIn B P S dn mp wt v X w) (hl:dn.length≤100000) (vA:Option Addr) (vc:Nat) (u:List Int) (hu:u.length≤1000) (hV:VecS w S2 vA u):
  Calls Tryz.prog 27 #[.pointer (some ⟨P,0,none⟩),.slice vA u.length vc] w fun e w'=>∃A' c',e= .returned (.slice A' (missL u X.L).length c')∧w'.ownsRow w.heap.size 45 7 (.slice A' (missL u X.L).length c') (missL u X.L).length ((missL u X.L).flatMap grC_)∧Below w.heap.size w w':=by
 have hb0:Below w.heap.size w (w.alloc (.cells #[.slice vA u.length vc] 27)):=(Below.refl _ _).alloc (Nat.le_refl _) _
 have hs0:(w.alloc (.cells #[.slice vA u.length vc] 27)).heap.size=w.heap.size+1:=by simp
 have hc0:=heap_alloc_new w (.cells #[.slice vA u.length vc] 27)
 have hD:=bxdone_any (h.below hb0) (by omega)
 have hdl:=h.dlen
 have hV1:=RowG.agr (vec_low hV) (Agr.below hb0)
 rw[←hdl] at hD
 clear h
 go_enter Tryz.func27,Tryz.ntmps27
 go_upto_region 1 with fail
 generalize hW:w.alloc (.cells #[.slice vA u.length vc] 27)=W at *
 have HB0:=hid hb0
 have HC0:=hid hc0
 have HS0:=hid hs0
 have HD:=hid hD
 have HV1:=hid hV1
 have HX:=hid (show X.L.length≤1000000 by omega)
 have HU:=hid hu
 clear hW hb0 hc0 hs0 hD hV1 hu hdl hl hV
 go_wp2_with (first
  |(go_at_call 21;refine HD.out.mono ?_;rintro e w2 ⟨A1,c1,rfl,hown,hB2⟩;have HOW:=hid hown;have HB2:=hid hB2;clear hown hB2)
  |(go_at_call 61;refine(bxdelf_any A1 c1 X.L w.heap.size vA vc u (fun k=>k<w.heap.size) w2 HOW.out HX.out HU.out ((HB2.out.block _ (lt_of_block HC0.out)).trans HC0.out) (RowG.agr HV1.out (Agr.below HB2.out)) (fun g e=>by have h8:=(HOW.out.lt g e).1;have h7:=HS0.out;exact⟨by omega,by show ¬g<_;omega⟩)).mono ?_;rintro e w3 ⟨A3,c3,rfl,hown,hgr⟩))
 go_ret
 have h9:=HB2.out.size
 have h8:=HS0.out
 refine⟨A3,c3,rfl,?_,(HB0.out.trans (HB2.out.mono (by omega))).grown hgr (by omega) (fun g e=>by have h7:=(HOW.out.lt g e).1;omega)⟩
 rcases hown.2 with⟨e1,e2⟩|⟨g,cap,cur,e1,e2,e3⟩
 ·exact⟨hown.1,.inl ⟨e1,e2⟩⟩
 ·exact⟨hown.1,.inr ⟨g,cap,cur,e1,by omega,e3⟩⟩
end
end
section
open Go.RowKit Go.Lib Go.Sort
set_option linter.unusedVariables false
attribute [local go_sem ↓] Go.wp_at_zero Go.wp_at_succ
theorem sameall_any (L L2:List (Grp×GrX)) (A A2:Option Addr) (c c2:Nat) (S S2:Nat→Prop) (w:World) (hl:L.length≤1000000) (hR:RowGr w A L) (hG:∀p∈L,GrG w S p) (hR2:RowGr w A2 L2) (hG2:∀p∈L2,GrG w S2 p) (he:L.map Prod.fst=L2.map Prod.fst):
  Calls Tryz.prog 15 #[.slice A L.length c,.slice A2 L2.length c2] w fun e w'=>e= .returned (.bool true)∧Below w.heap.size w w':=by
 have hln:L2.length=L.length:=by have:=congrArg List.length he;simpa using this.symm
 rw[hln]
 have HLN:=hid hln
 have HE:=hid (show ∀k,(L.getD k gp0).1=(L2.getD k gp0).1 from fun k=>by rw[getD_fst',getD_fst',he])
 have HR:=hid hR
 have HG:=hid hG
 have HR2:=hid hR2
 have HG2:=hid hG2
 clear hR hG hR2 hG2 he hln
 go_enter Tryz.func15,Tryz.ntmps15
 go_upto_region 4 with fail
 go_loopw [5] (fun i wr=>∃k:Nat,i= .int .i64 k∧k≤L.length∧Hid (Below w.heap.size w wr)) (fun i _=>L.length-(RowKit.intOf i).toNat)
 case atStart=>exact⟨0,rfl,Nat.zero_le _,hid (Below.refl _ _)⟩
 case round=>
  obtain⟨k,rfl,hk,HBr⟩:=hrel
  by_cases hlt:k<L.length
  ·have i0:(0:Int)≤(k:Int):=by omega
   have i1:(k:Int)<(L.length:Int):=by omega
   obtain⟨rb,ro,rfl,hrb,hrange⟩:=RowGr.range (RowGr.below HR.out HBr.out) hlt
   obtain⟨rb2,ro2,rfl,hrb2,hrange2⟩:=RowGr.range (RowGr.below HR2.out HBr.out) (k:=k) (by rw[HLN.out];exact hlt)
   have hg1:GrG wr S (L.getD k gp0):=(HG.out _ (by rw[List.getD_eq_getElem?_getD,List.getElem?_eq_getElem hlt];exact List.getElem_mem hlt)).agr (Agr.below HBr.out)
   have hg2:GrG wr S2 (L2.getD k gp0):=(HG2.out _ (by rw[List.getD_eq_getElem?_getD,List.getElem?_eq_getElem (by rw[HLN.out];exact hlt)];exact List.getElem_mem _)).agr (Agr.below HBr.out)
   have hee:=HE.out k
   generalize L.getD k gp0=p at *
   generalize L2.getD k gp0=p2 at *
   obtain⟨⟨⟨t,r⟩,n,u,⟨ut,ur⟩,ops⟩,⟨dA,dc,oA,oc⟩⟩:=p
   obtain⟨⟨⟨t2,r2⟩,n2,u2,⟨ut2,ur2⟩,ops2⟩,⟨dA2,dc2,oA2,oc2⟩⟩:=p2
   have HSM:=hid (fun W (hB:Below wr.heap.size wr W)=>show Calls Tryz.prog 46 #[.agg #[.int .i64 t,.int .i64 r,.int .i64 n,.slice dA u.length dc,.int .i64 ut,.int .i64 ur,.slice oA ops.length oc],.agg #[.int .i64 t2,.int .i64 r2,.int .i64 n2,.slice dA2 u2.length dc2,.int .i64 ut2,.int .i64 ur2,.slice oA2 ops2.length oc2]] W fun e w'=>e= .returned (.bool true)∧Below W.heap.size W w' from by
    have h9:=sameg_any _ _ dA dA2 oA oA2 dc dc2 oc oc2 S S2 W (GrIn.agr hg1 (Agr.below hB)) (GrIn.agr hg2 (Agr.below hB))
    have h8:sameG ⟨⟨t,r⟩,n,u,⟨ut,ur⟩,ops⟩ ⟨⟨t2,r2⟩,n2,u2,⟨ut2,ur2⟩,ops2⟩=true:=by
     rw[show(⟨⟨t2,r2⟩,n2,u2,⟨ut2,ur2⟩,ops2⟩:Grp)=⟨⟨t,r⟩,n,u,⟨ut,ur⟩,ops⟩ from hee.symm]
     exact sameG_iff.2 rfl
    rw[show(Grp.mk ⟨t,r⟩ n u ⟨ut,ur⟩ ops)=⟨⟨t,r⟩,n,u,⟨ut,ur⟩,ops⟩ from rfl,h8] at h9
    exact h9)
   have y0:=cell_regrown (w:=wr) (a:=⟨rb,ro+k*7,none⟩) (v:= .int .i64 t) (hrange 0 _ rfl)
   have y1:=cell_regrown (w:=wr) (a:=⟨rb,ro+k*7+1,none⟩) (v:= .int .i64 r) (hrange 1 _ rfl)
   have y2:=cell_regrown (w:=wr) (a:=⟨rb,ro+k*7+2,none⟩) (v:= .int .i64 n) (hrange 2 _ rfl)
   have y3:=cell_regrown (w:=wr) (a:=⟨rb,ro+k*7+3,none⟩) (v:= .slice dA u.length dc) (hrange 3 _ rfl)
   have y4:=cell_regrown (w:=wr) (a:=⟨rb,ro+k*7+4,none⟩) (v:= .int .i64 ut) (hrange 4 _ rfl)
   have y5:=cell_regrown (w:=wr) (a:=⟨rb,ro+k*7+5,none⟩) (v:= .int .i64 ur) (hrange 5 _ rfl)
   have y6:=cell_regrown (w:=wr) (a:=⟨rb,ro+k*7+6,none⟩) (v:= .slice oA ops.length oc) (hrange 6 _ rfl)
   have z0:=cell_regrown (w:=wr) (a:=⟨rb2,ro2+k*7,none⟩) (v:= .int .i64 t2) (hrange2 0 _ rfl)
   have z1:=cell_regrown (w:=wr) (a:=⟨rb2,ro2+k*7+1,none⟩) (v:= .int .i64 r2) (hrange2 1 _ rfl)
   have z2:=cell_regrown (w:=wr) (a:=⟨rb2,ro2+k*7+2,none⟩) (v:= .int .i64 n2) (hrange2 2 _ rfl)
   have z3:=cell_regrown (w:=wr) (a:=⟨rb2,ro2+k*7+3,none⟩) (v:= .slice dA2 u2.length dc2) (hrange2 3 _ rfl)
   have z4:=cell_regrown (w:=wr) (a:=⟨rb2,ro2+k*7+4,none⟩) (v:= .int .i64 ut2) (hrange2 4 _ rfl)
   have z5:=cell_regrown (w:=wr) (a:=⟨rb2,ro2+k*7+5,none⟩) (v:= .int .i64 ur2) (hrange2 5 _ rfl)
   have z6:=cell_regrown (w:=wr) (a:=⟨rb2,ro2+k*7+6,none⟩) (v:= .slice oA2 ops2.length oc2) (hrange2 6 _ rfl)
   have cA:=fun d os=>Calls.regrown_of (HSM.out (grow (redrawn wr d) os) (below_regrown wr d os))
   clear hrange hrange2 hg1 hg2 hee
   go_upto_region 6 with fail
   refine rqb ?_
   repeat(any_goals(first|go_big_quiet_step (with_reducible exact cA _ _)|quiet_step (with_reducible exact cA _ _)))
   refine qz fun wq hBq=> ?_
   go_wp2
   go_roundw
   case rel=>exact⟨k+1,by go_num,by omega,hid (HBr.out.trans (hBq.mono HBr.out.size))⟩
   case measure=>(simp[RowKit.intOf];omega)
  ·obtain rfl:k=L.length:=by omega
   have i1:¬(L.length:Int)<(L.length:Int):=by omega
   go_wp2
   go_ret
   exact⟨rfl,HBr.out⟩
end
end Go.Proofs.YtkhmicndehlneaaGreatDoor
