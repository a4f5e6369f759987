/- Part 15 of the walks and plain laws that this claim uses, joined. Conditions: as each theorem states. -/
import Derived.Test.YtkhmicndehlneaaGreatDoorYtn
namespace Go.Proofs.YtkhmicndehlneaaGreatDoor
set_option maxRecDepth 100000
set_option maxHeartbeats 16000000
section
open Go.RowKit Go.Lib Go.Sort
set_option linter.unusedVariables false
attribute [local go_sem ↓] Go.wp_at_zero Go.wp_at_succ
def insIx {α:Type} (p:α→Bool) (z:α) (L:List α):Nat→Nat
 |0=>0
 |n+1=>if p (L.getD n z) then insIx p z L n else n+1
def insB {α:Type} (p:α→Bool) (z:α) (L:List α) (x:α):List α:=slid L x (insIx p z L L.length)
theorem insIx_le {α:Type} (p:α→Bool) (z:α) (L:List α):∀n,insIx p z L n≤n
 |0=>Nat.le_refl _
 |n+1=>by
  unfold insIx
  split
  ·have:=insIx_le p z L n;omega
  ·exact Nat.le_refl _
theorem insIx_stop {α:Type} {p:α→Bool} {z:α} {L:List α} {n:Nat} (h:n=0∨∃q,n=q+1∧p (L.getD q z)=false):insIx p z L n=n:=by
 rcases h with rfl|⟨q,rfl,h⟩
 ·rfl
 ·unfold insIx;rw[h];rfl
theorem insIx_go {α:Type} {p:α→Bool} {z:α} {L:List α} {q:Nat} (h:p (L.getD q z)=true):insIx p z L (q+1)=insIx p z L q:=by
 rw[insIx,if_pos h]
theorem insB_len {α:Type} (p:α→Bool) (z:α) (L:List α) (x:α):(insB p z L x).length=L.length+1:=slid_len _ _ _
def stepH (out:List Hd) (x:Hd):List Hd:=if out.any (fun y=>y.s.eqb x.s)=true then out else insB (fun y=>y.s.lt x.s) hd0 out x
def sortH (l:List Hd):List Hd:=l.foldl stepH []
theorem stepH_len (out:List Hd) (x:Hd):(stepH out x).length≤out.length+1:=by
 unfold stepH
 split
 ·omega
 ·rw[insB_len];exact Nat.le_refl _
theorem foldl_take {α β:Type} (f:β→α→β) (b:β) {l:List α} {k:Nat} (hk:k<l.length) (z:α):(l.take (k+1)).foldl f b=f ((l.take k).foldl f b) (l.getD k z):=by
 rw[takeD_succ hk z,List.foldl_append];rfl
theorem sortH_len:∀(l:List Hd) (out:List Hd),(l.foldl stepH out).length≤out.length+l.length
 | [],out=>Nat.le_refl _
 |x::l,out=>by
  have h1:=sortH_len l (stepH out x)
  have h2:=stepH_len out x
  rw[List.foldl_cons,List.length_cons];omega
theorem sortedh_any (L:List Hd) (A:Option Addr) (c:Nat) (S:Nat→Prop) (w:World) (hl:L.length≤100000) (hR:RowF w S A 4 hdL hd0 L):
  Calls Tryz.prog 166 #[.slice A L.length c] w fun e w'=>∃A' c',e= .returned (.slice A' (sortH L).length c')∧w'.ownsRow w.heap.size 224 4 (.slice A' (sortH L).length c') (sortH L).length ((sortH L).flatMap hdL)∧Below w.heap.size w w':=by
 obtain⟨i0,hi,hz0,hz1,hz2⟩:=info_parts info_hd
 have HR:=hid hR
 clear hR
 go_enter Tryz.func166,Tryz.ntmps166
 go_upto_region 3 with fail
 go_loopw [3,4] (fun o i wr=>∃(k:Nat) (A':Option Addr) (c' m:Nat) (M:List Hd),k≤L.length∧i= .int .i64 k∧o= .slice A' m c'∧m≤k∧Hid (m=M.length)∧Hid (M=sortH (L.take k))∧Hid (wr.ownsRow w.heap.size 224 4 (.slice A' m c') m (M.flatMap hdL))∧Hid (Below w.heap.size w wr)) (fun o i _=>L.length-(RowKit.intOf i).toNat)
 case atStart=>exact⟨0,none,0,0,[],Nat.zero_le _,rfl,rfl,Nat.le_refl _,hid rfl,hid rfl,hid (World.ownsRow_nil _ _ _ _),hid (Below.refl _ _)⟩
 case round=>
  obtain⟨k,A',c',m,M,hk,rfl,rfl,hmk,HML,HM,HO,HBr⟩:=hrel
  by_cases hlt:k<L.length
  ·have i1:(0:Int)≤(k:Int):=by omega
   have i2:(k:Int)<(L.length:Int):=by omega
   obtain⟨rb,ro,rfl,-,hrb,hrange⟩:=HR.out.range (fun _=>rfl) hlt
   have hst:sortH (L.take (k+1))=stepH M (L.getD k hd0):=by rw[HM.out];exact foldl_take _ _ hlt hd0
   generalize L.getD k hd0=p at *
   obtain⟨⟨t,r⟩,⟨ut,ur⟩⟩:=p
   have HRW:=hid (fun W (hB:Below w.heap.size w W)=>show W.rangeAt rb (ro+k*4) [.int .i64 t,.int .i64 r,.int .i64 ut,.int .i64 ur] from rangeB hrange hrb hB)
   have HST:=hid hst
   have hsz:=HBr.out.size
   clear hrange hrb hst
   generalize wr=w0 at *
   go_upto_region 7 with fail
   go_loopw [5,6] (fun h i wr=>∃(j:Nat) (b:Bool),j≤m∧i= .int .i64 j∧h= .bool b∧Hid (b=(M.take j).any (fun y=>y.s.eqb ⟨t,r⟩))∧Hid (Below w0.heap.size w0 wr)) (fun h i _=>m-(RowKit.intOf i).toNat)
   case atStart=>exact⟨0,false,Nat.zero_le _,rfl,rfl,hid rfl,hid (Below.refl _ _)⟩
   case round=>
    obtain⟨j,b,hj,rfl,rfl,HB,HBj⟩:=hrel
    have HBw:=hid (HBr.out.trans (HBj.out.mono hsz))
    have HRG:=hid (HRW.out wr HBw.out)
    have HOj:=hid (HO.out.kept (gby_below (r:=none) HBj.out) (Classical.em _))
    by_cases hjm:j<m
    ·have j1:(0:Int)≤(j:Int):=by omega
     have j2:(j:Int)<(m:Int):=by omega
     obtain⟨g2,rfl,-,hg2,hr2⟩:=ownN_range (f:=hdL) (fun _=>rfl) HML.out HOj.out hjm hd0
     have htk:(M.take (j+1)).any (fun y=>y.s.eqb ⟨t,r⟩)=((M.take j).any (fun y=>y.s.eqb ⟨t,r⟩) || (M.getD j hd0).s.eqb ⟨t,r⟩):=by rw[takeD_succ (by rw[←HML.out];exact hjm) hd0,List.any_append];simp
     generalize M.getD j hd0=y at *
     obtain⟨⟨t2,r2⟩,⟨ut2,ur2⟩⟩:=y
     obtain⟨b2,hb2⟩:∃b,b=Gst.eqb ⟨t2,r2⟩ ⟨t,r⟩:=⟨_,rfl⟩
     have q1:=eq_st t2 r2 t r b2 hb2.symm
     have HTK:=hid (show(M.take (j+1)).any (fun y=>y.s.eqb ⟨t,r⟩)=(b || b2) by rw[htk,HB.out,hb2])
     have y0:=cell_regrown (w:=wr) (a:=⟨g2,j*4,none⟩) (v:= .int .i64 t2) (hr2 0 _ rfl)
     have y1:=cell_regrown (w:=wr) (a:=⟨g2,j*4+1,none⟩) (v:= .int .i64 r2) (hr2 1 _ rfl)
     have x0:=cell_regrown (w:=wr) (a:=⟨rb,ro+k*4,none⟩) (v:= .int .i64 t) (HRG.out 0 _ rfl)
     have x1:=cell_regrown (w:=wr) (a:=⟨rb,ro+k*4+1,none⟩) (v:= .int .i64 r) (HRG.out 1 _ rfl)
     clear hr2 hb2 htk
     cases b with
     |true=>
      go_upto_region 9 with fail
      refine rqb ?_
      repeat(any_goals(first|go_big_quiet_step (fail)|quiet_step (fail)))
      refine qz fun wq hBq=> ?_
      go_wp2
      go_roundw
      case rel=>exact⟨j+1,true,by omega,by go_num,rfl,hid (by rw[HTK.out];rfl),hid (HBj.out.trans (hBq.mono HBj.out.size))⟩
      case measure=>(simp[RowKit.intOf];omega)
     |false=>
      go_upto_region 9 with fail
      refine rqb ?_
      repeat(any_goals(first|go_big_quiet_step (fail)|quiet_step (fail)))
      refine qz fun wq hBq=> ?_
      go_wp2
      go_roundw
      case rel=>exact⟨j+1,b2,by omega,by go_num,rfl,hid (by rw[HTK.out];rfl),hid (HBj.out.trans (hBq.mono HBj.out.size))⟩
      case measure=>(simp[RowKit.intOf];omega)
    ·obtain rfl:j=m:=by omega
     have j2:¬(j:Int)<(j:Int):=by omega
     have hany:b=M.any (fun y=>y.s.eqb ⟨t,r⟩):=by rw[HB.out,HML.out,List.take_length]
     cases b with
     |true=>
      have HS9:=hid (show sortH (L.take (k+1))=M by rw[HST.out];unfold stepH;rw[if_pos hany.symm])
      clear hany
      go_wp2
      go_roundw
      case rel=>exact⟨k+1,A',c',j,M,by omega,by go_num,rfl,by omega,HML,hid HS9.out.symm,HOj,HBw⟩
      case measure=>(simp[RowKit.intOf];omega)
     | false=>
      have HS9:=hid (show sortH (L.take (k+1))=insB (fun y=>y.s.lt ⟨t,r⟩) hd0 M ⟨⟨t,r⟩,⟨ut,ur⟩⟩ by rw[HST.out];unfold stepH;rw[if_neg (by rw[←hany];decide)])
      clear hany
      go_upto_region 11 with fail
      have hb0j:=HBj.out.size
      have HRGq:=hid (show wr.rangeAt rb (ro+k*4) [.int .i64 t,.int .i64 r,.int .i64 ut,.int .i64 ur] from HRG.out)
      have hszw:=HBw.out.size
      go_upto_region 13 with(first
       |(refine wpList_load_mid rfl _ _ rfl rb (ro+k*4) rfl [.int .i64 t,.int .i64 r,.int .i64 ut,.int .i64 ur] _ HRGq.out Tryz.underlying224 rfl (by kernel_rfl) ?_)
       |(at_builtin;refine wpList_append_lies _ rfl _ _ 157 rfl w.heap.size 224 i0 (.agg #[.int .i64 0,.int .i64 0,.int .i64 0,.int .i64 0]) 4 32 Tryz.underlying157 hi hz0 hz1 hz2 rfl (by decide) (.slice A' j c') j _ rfl (by exact HOj.out.alloc _) ⟨wr.heap.size,0,none⟩ 1 1 [.int .i64 t,.int .i64 r,.int .i64 ut,.int .i64 ur] rfl rfl (fun j y h=>cellsN wr [.int .i64 t,.int .i64 r,.int .i64 ut,.int .i64 ur] 224 j y h) (oc_of (c:=#[.int .i64 t,.int .i64 r,.int .i64 ut,.int .i64 ur]) rfl) (by decide) (by unfold maxLen;omega) (by omega) (by simp;omega) (wr.heap.size+1) (by simp) ?_;intro gq cap w5 hown hgrow ha hlt5;have HO5:=hid hown;have HB5:=hid ((HBw.out.alloc hszw _).grown hgrow (by simp;omega) (fun b hb=>(HOj.out.lt b hb).1));clear hown hgrow ha hlt5))
      clear HOj HBj HBw HB hb0j HRGq hszw
      have hm63:j≤100000:=by omega
      have hs9:slid M (⟨⟨t,r⟩,⟨ut,ur⟩⟩:Hd) j=M++[⟨⟨t,r⟩,⟨ut,ur⟩⟩]:=by rw[HML.out];exact slid_end _ _
      have HO6:=hid (show w5.ownsRow w.heap.size 224 4 (.slice (some ⟨gq,0,none⟩) (j+1) cap) (j+1) ((slid M (⟨⟨t,r⟩,⟨ut,ur⟩⟩:Hd) j).flatMap hdL) by rw[hs9,List.flatMap_append];exact HO5.out)
      clear hs9 HO5
      generalize w5=w6 at *
      go_loopw [7] (fun i wx=>∃(q:Nat),i= .int .i64 q∧q≤j∧Hid (insIx (fun y:Hd=>y.s.lt ⟨t,r⟩) hd0 M q=insIx (fun y:Hd=>y.s.lt ⟨t,r⟩) hd0 M M.length)∧Hid (wx.ownsRow w.heap.size 224 4 (.slice (some ⟨gq,0,none⟩) (j+1) cap) (j+1) ((slid M (⟨⟨t,r⟩,⟨ut,ur⟩⟩:Hd) q).flatMap hdL))∧Hid (Below w.heap.size w wx)) (fun i _=>(RowKit.intOf i).toNat)
      case atStart=>exact⟨j,rfl,Nat.le_refl _,hid (by rw[HML.out]),HO6,HB5⟩
      case round=>
       obtain⟨q,rfl,hq,HIX,HOq,HBq⟩:=hrel
       by_cases h0:0<q
       ·obtain⟨q,rfl⟩:∃p,q=p+1:=⟨q-1,by omega⟩
        have hqm:q+1≤M.length:=by rw[←HML.out];exact hq
        have hl1:j+1=(slid M (⟨⟨t,r⟩,⟨ut,ur⟩⟩:Hd) (q+1)).length:=by rw[slid_len,←HML.out]
        obtain⟨g3,e3,-,hg3,hr3⟩:=ownN_range (f:=hdL) (fun _=>rfl) hl1 HOq.out (k:=q) (by omega) hd0
        cases e3
        obtain⟨g4,e4,-,-,hr4⟩:=ownN_range (f:=hdL) (fun _=>rfl) hl1 HOq.out (k:=q+1) (by omega) hd0
        cases e4
        rw[slid_pre hqm] at hr3
        rw[slid_at hqm] at hr4
        have hsw:=slid_swap (L:=M) (x:=(⟨⟨t,r⟩,⟨ut,ur⟩⟩:Hd)) (z:=hd0) hqm
        obtain⟨y,hy⟩:∃y,y=M.getD q hd0:=⟨_,rfl⟩
        rw[←hy] at hr3 hsw
        obtain⟨b2,hb2⟩:∃b,b=(fun y:Hd=>y.s.lt ⟨t,r⟩) y:=⟨_,rfl⟩
        have HPY:=hid (show(fun y:Hd=>y.s.lt ⟨t,r⟩) (M.getD q hd0)=b2 by rw[←hy,hb2])
        clear hy
        obtain⟨⟨t2,r2⟩,⟨ut2,ur2⟩⟩:=y
        have HR3:=hid (show wr.rangeAt gq (q*4) [.int .i64 t2,.int .i64 r2,.int .i64 ut2,.int .i64 ur2] from hr3)
        have HR4:=hid (show wr.rangeAt gq ((q+1)*4) [.int .i64 t,.int .i64 r,.int .i64 ut,.int .i64 ur] from hr4)
        have y0:=cell_regrown (w:=wr) (a:=⟨gq,q*4,none⟩) (v:= .int .i64 t2) (hr3 0 _ rfl)
        have y1:=cell_regrown (w:=wr) (a:=⟨gq,q*4+1,none⟩) (v:= .int .i64 r2) (hr3 1 _ rfl)
        have x0:=cell_regrown (w:=wr) (a:=⟨gq,(q+1)*4,none⟩) (v:= .int .i64 t) (hr4 0 _ rfl)
        have x1:=cell_regrown (w:=wr) (a:=⟨gq,(q+1)*4+1,none⟩) (v:= .int .i64 r) (hr4 1 _ rfl)
        have HSW:=hid hsw
        have k1:(0:Int)<(q:Int)+1:=by omega
        have k2:(0:Int)≤(q:Int):=by omega
        have k3:(q:Int)<(j:Int)+1:=by omega
        have k4:(q:Int)+1<(j:Int)+1:=by omega
        have k5:(0:Int)≤(q:Int)+1:=by omega
        have k6:IntKind.i64.wrap (q:Int)=(q:Int):=by rw[IntKind.wrap_i64];omega
        have HL1:=hid hl1
        have HBF:=fun W=>before_any t2 r2 t r W
        rw[show Gst.lt ⟨t2,r2⟩ ⟨t,r⟩=b2 from hb2.symm] at HBF
        have cA:=fun d os=>Calls.regrown_of (HBF (grow (redrawn wr d) os))
        clear hr3 hr4 hb2 hsw hl1
        cases b2 with
        |false=>
         go_upto_region 13 with fail
         refine rqb ?_
         repeat(any_goals(first|go_big_quiet_step (with_reducible exact cA _ _)|quiet_step (with_reducible exact cA _ _)))
         refine qz fun wq hBq=> ?_
         have HS8:=hid (show sortH (L.take (k+1))=slid M (⟨⟨t,r⟩,⟨ut,ur⟩⟩:Hd) (q+1) by rw[HS9.out];unfold insB;rw[←HIX.out,insIx_stop (.inr ⟨q,rfl,HPY.out⟩)])
         have HOx:=hid (HOq.out.kept (gby_below (r:=none) hBq) (Classical.em _))
         have HBx:=hid (HBq.out.trans (hBq.mono HBq.out.size))
         go_wp2
         go_roundw
         case rel=>exact⟨k+1,some ⟨gq,0,none⟩,cap,j+1,_,by omega,by go_num,rfl,by omega,HL1,hid HS8.out.symm,HOx,HBx⟩
         case measure=>(simp[RowKit.intOf];omega)
        | true=>
         go_upto_region 13 with fail
         refine rqb ?_
         repeat(any_goals(first|go_big_quiet_step (with_reducible exact cA _ _)|quiet_step (with_reducible exact cA _ _)))
         refine qz fun wq hBq=> ?_
         have HIX2:=hid (show insIx (fun y:Hd=>y.s.lt ⟨t,r⟩) hd0 M q=insIx (fun y:Hd=>y.s.lt ⟨t,r⟩) hd0 M M.length by rw[←HIX.out,insIx_go HPY.out])
         have HR3q:=hid (rangeB HR3.out hg3 hBq)
         have HR4q:=hid (rangeB HR4.out hg3 hBq)
         have HOq2:=hid (HOq.out.kept (gby_below (r:=none) hBq) (Classical.em _))
         have HBq2:=hid (HBq.out.trans (hBq.mono HBq.out.size))
         clear y0 y1 x0 x1 cA HOq hBq
         go_upto_region 15 with fail
         obtain⟨V1,hV1⟩:∃V,V=wq.drew.setCells gq ((q+1)*4) (#[.int .i64 t2,.int .i64 r2,.int .i64 ut2,.int .i64 ur2]:Array Value).toList:=⟨_,rfl⟩
         have hP1:V1.ownsRow w.heap.size 224 4 (.slice (some ⟨gq,0,none⟩) (j+1) cap) (j+1) (((slid M (⟨⟨t,r⟩,⟨ut,ur⟩⟩:Hd) (q+1)).set (q+1) (⟨⟨t2,r2⟩,⟨ut2,ur2⟩⟩:Hd)).flatMap hdL)∧wq.drew.grownBy V1 (some gq):=by rw[hV1];exact ownN_put (f:=hdL) (fun _=>rfl) (by decide) HL1.out (show wq.drew.ownsRow _ _ _ _ _ _ from HOq2.out) (by omega) (⟨⟨t2,r2⟩,⟨ut2,ur2⟩⟩:Hd)
         obtain⟨V2,hV2⟩:∃V,V=V1.setCells gq (q*4) (#[.int .i64 t,.int .i64 r,.int .i64 ut,.int .i64 ur]:Array Value).toList:=⟨_,rfl⟩
         have hP2:V2.ownsRow w.heap.size 224 4 (.slice (some ⟨gq,0,none⟩) (j+1) cap) (j+1) ((((slid M (⟨⟨t,r⟩,⟨ut,ur⟩⟩:Hd) (q+1)).set (q+1) (⟨⟨t2,r2⟩,⟨ut2,ur2⟩⟩:Hd)).set q (⟨⟨t,r⟩,⟨ut,ur⟩⟩:Hd)).flatMap hdL)∧V1.grownBy V2 (some gq):=by rw[hV2];exact ownN_put (f:=hdL) (fun _=>rfl) (by decide) (by rw[List.length_set];exact HL1.out) hP1.1 (by omega) (⟨⟨t,r⟩,⟨ut,ur⟩⟩:Hd)
         obtain⟨g5,e5,ht5⟩:=own_there (show wq.drew.ownsRow _ _ _ _ _ _ from HOq2.out) (k:=q+1) (by omega)
         cases e5
         obtain⟨g6,e6,ht6⟩:=own_there hP1.1 (k:=q) (by omega)
         cases e6
         have HP2:=hid hP2.1
         have HG2:=hid (show wq.heap.size≤V2.heap.size∧(Below w.heap.size w wq→w.heap.size≤gq→Below w.heap.size w V2) from⟨Nat.le_trans (show wq.drew.heap.size≤V1.heap.size from hP1.2.size) hP2.2.size,fun hb hl=>(hb.drew.grown hP1.2 (by exact hb.size) (fun b e=>by cases e;exact hl)).grown hP2.2 (Nat.le_trans hb.size (show wq.drew.heap.size≤V1.heap.size from hP1.2.size)) (fun b e=>by cases e;exact hl)⟩)
         have HV1:=hid hV1
         have HV2:=hid hV2
         have HT5:=hid ht5
         have HT6:=hid ht6
         have HAY:=hid (show(#[.int .i64 t2,.int .i64 r2,.int .i64 ut2,.int .i64 ur2]:Array Value).all (·.oneCell')=true by rw[←Array.all_toList];rfl)
         have HAX:=hid (show(#[.int .i64 t,.int .i64 r,.int .i64 ut,.int .i64 ur]:Array Value).all (·.oneCell')=true by rw[←Array.all_toList];rfl)
         clear hP1 hP2 hV1 hV2 ht5 ht6
         refine wp_region_held (S:=fun _=>True) (by kernel_rfl) ?_
         try(change wpAnyH _ _ _ _ _ _ _ _ (World.drew _))
         refine tk 0 (.slice (some ⟨gq,0,none⟩) (j+1) cap) (trivial) ?_
         go_simp
         refine tk 1 (.int .i64 ((q:Int)+1)) (trivial) ?_
         go_simp
         refine tk 2 (.slice (some ⟨gq,0,none⟩) (j+1) cap) (trivial) ?_
         go_simp
         refine tk 3 (.int .i64 ((q:Int)+1)) (trivial) ?_
         go_simp
         refine tk 4 (.int .i64 (q:Int)) (trivial) ?_
         go_simp
         refine tk 5 (.slice (some ⟨gq,0,none⟩) (j+1) cap) (trivial) ?_
         go_simp
         refine tk 6 (.int .i64 ((q:Int)+1)) (trivial) ?_
         go_simp
         refine tk 7 (.int .i64 (q:Int)) (trivial) ?_
         go_simp
         refine tk 8 (.pointer (some ⟨gq,q*4,none⟩)) (trivial) ?_
         go_simp
         refine tk 10 (.slice (some ⟨gq,0,none⟩) (j+1) cap) (trivial) ?_
         go_simp
         refine tk 11 (.int .i64 ((q:Int)+1)) (trivial) ?_
         go_simp
         refine tk 12 (.pointer (some ⟨gq,(q+1)*4,none⟩)) (trivial) ?_
         go_simp
         refine wpAnyH_ready (rs:=[9,13]) (by kernel_rfl) (by simp) ?_
         refine AllReadyH.cons rfl (fun K hK=> ?_) (AllReadyH.cons rfl (fun K hK=> ?_) AllReadyH.nil)
         focus
          refine step_load_mid rfl _ _ rfl gq (q*4) rfl [.int .i64 t2,.int .i64 r2,.int .i64 ut2,.int .i64 ur2] _ (show wq.drew.rangeAt _ _ _ from HR3q.out) Tryz.underlying224 rfl (by kernel_rfl) ?_
          refine hK.out _ _ (trivial) (fun _=> ?_)
          clear hK K
          refine wpAnyH_ready (rs:=[13]) (by kernel_rfl) (by simp) ?_
          refine AllReadyH.cons rfl (fun K hK=> ?_) AllReadyH.nil
          refine step_load_mid rfl _ _ rfl gq ((q+1)*4) rfl [.int .i64 t,.int .i64 r,.int .i64 ut,.int .i64 ur] _ (show wq.drew.rangeAt _ _ _ from HR4q.out) Tryz.underlying224 rfl (by kernel_rfl) ?_
          refine hK.out _ _ (trivial) (fun _=> ?_)
          clear hK K
         rotate_left
         focus
          refine step_load_mid rfl _ _ rfl gq ((q+1)*4) rfl [.int .i64 t,.int .i64 r,.int .i64 ut,.int .i64 ur] _ (show wq.drew.rangeAt _ _ _ from HR4q.out) Tryz.underlying224 rfl (by kernel_rfl) ?_
          refine hK.out _ _ (trivial) (fun _=> ?_)
          clear hK K
          refine wpAnyH_ready (rs:=[9]) (by kernel_rfl) (by simp) ?_
          refine AllReadyH.cons rfl (fun K hK=> ?_) AllReadyH.nil
          refine step_load_mid rfl _ _ rfl gq (q*4) rfl [.int .i64 t2,.int .i64 r2,.int .i64 ut2,.int .i64 ur2] _ (show wq.drew.rangeAt _ _ _ from HR3q.out) Tryz.underlying224 rfl (by kernel_rfl) ?_
          refine hK.out _ _ (trivial) (fun _=> ?_)
          clear hK K
         all_goals
          refine tk 14 (.pointer (some ⟨gq,(q+1)*4,none⟩)) (trivial) ?_
          go_simp
          refine wpAnyH_ready (rs:=[15]) (by kernel_rfl) (by simp) ?_
          refine AllReadyH.cons rfl (fun K hK=> ?_) AllReadyH.nil
          refine step_store_mid rfl _ _ _ rfl gq ((q+1)*4) #[.int .i64 t2,.int .i64 r2,.int .i64 ut2,.int .i64 ur2] (by rfl) (by rfl) HT5.out (by kernel_rfl) HAY.out ?_
          rw[←HV1.out]
          refine hK.out _ _ (trivial) (fun _=> ?_)
          clear hK K
          refine tk 16 (.pointer (some ⟨gq,q*4,none⟩)) (trivial) ?_
          go_simp
          refine wpAnyH_ready (rs:=[17]) (by kernel_rfl) (by simp) ?_
          refine AllReadyH.cons rfl (fun K hK=> ?_) AllReadyH.nil
          refine step_store_mid rfl _ _ _ rfl gq (q*4) #[.int .i64 t,.int .i64 r,.int .i64 ut,.int .i64 ur] (by rfl) (by rfl) HT6.out (by kernel_rfl) HAX.out ?_
          rw[←HV2.out]
          refine hK.out _ _ (trivial) (fun _=> ?_)
          clear hK K
          refine wpAnyH_done (by kernel_rfl) ?_ _
          go_simp
          go_wp2
          go_roundw
          case rel=>exact⟨q,by go_num,by omega,HIX2,hid (by rw[←HSW.out];exact HP2.out),hid (HG2.out.2 HBq2.out (HOq2.out.lt gq rfl).1)⟩
          case measure=>(simp[RowKit.intOf];try omega)
       ·obtain rfl:q=0:=by omega
        go_upto_region 13 with fail
        refine rqb ?_
        repeat(any_goals(first|go_big_quiet_step (fail)|quiet_step (fail)))
        refine qz fun wq hBq=> ?_
        have HS8:=hid (show sortH (L.take (k+1))=slid M (⟨⟨t,r⟩,⟨ut,ur⟩⟩:Hd) 0 by rw[HS9.out];unfold insB;rw[←HIX.out];rfl)
        have HL1:=hid (show j+1=(slid M (⟨⟨t,r⟩,⟨ut,ur⟩⟩:Hd) 0).length by rw[slid_len,←HML.out])
        have HOx:=hid (HOq.out.kept (gby_below (r:=none) hBq) (Classical.em _))
        have HBx:=hid (HBq.out.trans (hBq.mono HBq.out.size))
        go_wp2
        go_roundw
        case rel=>exact⟨k+1,some ⟨gq,0,none⟩,cap,j+1,_,by omega,by go_num,rfl,by omega,HL1,hid HS8.out.symm,HOx,HBx⟩
        case measure=>(simp[RowKit.intOf];omega)
  ·obtain rfl:k=L.length:=by omega
   have i2:¬(L.length:Int)<(L.length:Int):=by omega
   have HM9:=hid (show M=sortH L by have h9:=HM.out;rw[List.take_length] at h9;exact h9)
   go_wp2
   go_ret
   refine⟨A',c',by rw[←HM9.out,←HML.out];rfl,?_,HBr.out⟩
   rw[←HM9.out,←HML.out];exact HO.out
def stepT (out:List Told) (x:Told):List Told:=if out.any (fun y=>y.a.eqb x.a)=true then out else insB (fun y=>x.a.lt y.a) told0 out x
def sortT (l:List Told):List Told:=l.foldl stepT []
theorem stepT_len (out:List Told) (x:Told):(stepT out x).length≤out.length+1:=by
 unfold stepT
 split
 ·omega
 ·rw[insB_len];exact Nat.le_refl _
theorem sortT_len:∀(l:List Told) (out:List Told),(l.foldl stepT out).length≤out.length+l.length
 | [],out=>Nat.le_refl _
 |x::l,out=>by
  have h1:=sortT_len l (stepT out x)
  have h2:=stepT_len out x
  rw[List.foldl_cons,List.length_cons];omega
theorem getD_mapF {α β:Type} (f:α→β) (L:List α) (k:Nat) (z:α):(L.map f).getD k (f z)=f (L.getD k z):=by
 rw[List.getD_eq_getElem?_getD,List.getD_eq_getElem?_getD,List.getElem?_map]
 cases L[k]? <;>rfl
theorem sortedt_any (L:List Told) (A A2:Option Addr) (c c2:Nat) (S S2:Nat→Prop) (w:World) (hl:L.length≤100000) (hR:RowF w S A 3 idL Gid.zero (L.map (·.a))) (hR2:RowF w S2 A2 8 plcL plc0 (L.map (·.p))):
  Calls Tryz.prog 167 #[.slice A L.length c,.slice A2 L.length c2] w fun e w'=>∃A' c',e= .returned (.slice A' (sortT L).length c')∧w'.ownsRow w.heap.size 228 11 (.slice A' (sortT L).length c') (sortT L).length ((sortT L).flatMap toldL)∧Below w.heap.size w w':=by
 obtain⟨i0,hi,hz0,hz1,hz2⟩:=info_parts info_told
 have HR:=hid hR
 have HR2:=hid hR2
 clear hR hR2
 go_enter Tryz.func167,Tryz.ntmps167
 go_upto_region 3 with fail
 go_loopw [5,6] (fun o i wr=>∃(k:Nat) (A':Option Addr) (c' m:Nat) (M:List Told),k≤L.length∧i= .int .i64 k∧o= .slice A' m c'∧m≤k∧Hid (m=M.length)∧Hid (M=sortT (L.take k))∧Hid (wr.ownsRow w.heap.size 228 11 (.slice A' m c') m (M.flatMap toldL))∧Hid (Below w.heap.size w wr)) (fun o i _=>L.length-(RowKit.intOf i).toNat)
 case atStart=>exact⟨0,none,0,0,[],Nat.zero_le _,rfl,rfl,Nat.le_refl _,hid rfl,hid rfl,hid (World.ownsRow_nil _ _ _ _),hid (Below.refl _ _)⟩
 case round=>
  obtain⟨k,A',c',m,M,hk,rfl,rfl,hmk,HML,HM,HO,HBr⟩:=hrel
  by_cases hlt:k<L.length
  ·have i1:(0:Int)≤(k:Int):=by omega
   have i2:(k:Int)<(L.length:Int):=by omega
   obtain⟨rb,ro,rfl,-,hrb,hrange⟩:=HR.out.range (fun _=>rfl) (k:=k) (by rw[List.length_map];exact hlt)
   obtain⟨rb2,ro2,rfl,-,hrb2,hrange2⟩:=HR2.out.range (fun _=>rfl) (k:=k) (by rw[List.length_map];exact hlt)
   rw[show(L.map (·.a)).getD k Gid.zero=(L.getD k told0).a from getD_mapF (·.a) L k told0] at hrange
   rw[show(L.map (·.p)).getD k plc0=(L.getD k told0).p from getD_mapF (·.p) L k told0] at hrange2
   have hst:sortT (L.take (k+1))=stepT M (L.getD k told0):=by rw[HM.out];exact foldl_take _ _ hlt told0
   generalize L.getD k told0=p at *
   obtain⟨⟨⟨t,r⟩,n⟩,⟨⟨⟨nt,nr⟩,ni⟩,⟨⟨pt,pr⟩,pi⟩,nm,dd⟩⟩:=p
   have HRW:=hid (fun W (hB:Below w.heap.size w W)=>show W.rangeAt rb (ro+k*3) [.int .i64 t,.int .i64 r,.int .i64 n]∧W.rangeAt rb2 (ro2+k*8) [.int .i64 nt,.int .i64 nr,.int .i64 ni,.int .i64 pt,.int .i64 pr,.int .i64 pi,.string nm,.bool dd] from⟨rangeB hrange hrb hB,rangeB hrange2 hrb2 hB⟩)
   have HST:=hid hst
   have hsz:=HBr.out.size
   clear hrange hrb hst hrange2 hrb2
   generalize wr=w0 at *
   go_upto_region 7 with fail
   go_loopw [7,8] (fun h i wr=>∃(j:Nat) (b:Bool),j≤m∧i= .int .i64 j∧h= .bool b∧Hid (b=(M.take j).any (fun y:Told=>y.a.eqb ⟨⟨t,r⟩,n⟩))∧Hid (Below w0.heap.size w0 wr)) (fun h i _=>m-(RowKit.intOf i).toNat)
   case atStart=>exact⟨0,false,Nat.zero_le _,rfl,rfl,hid rfl,hid (Below.refl _ _)⟩
   case round=>
    obtain⟨j,b,hj,rfl,rfl,HB,HBj⟩:=hrel
    have HBw:=hid (HBr.out.trans (HBj.out.mono hsz))
    have HOj:=hid (HO.out.kept (gby_below (r:=none) HBj.out) (Classical.em _))
    by_cases hjm:j<m
    ·have j1:(0:Int)≤(j:Int):=by omega
     have j2:(j:Int)<(m:Int):=by omega
     obtain⟨g2,rfl,-,hg2,hr2⟩:=ownN_range (f:=toldL) (fun _=>rfl) HML.out HOj.out hjm told0
     have htk:(M.take (j+1)).any (fun y:Told=>y.a.eqb ⟨⟨t,r⟩,n⟩)=((M.take j).any (fun y:Told=>y.a.eqb ⟨⟨t,r⟩,n⟩) || (fun y:Told=>y.a.eqb ⟨⟨t,r⟩,n⟩) (M.getD j told0)):=by rw[takeD_succ (by rw[←HML.out];exact hjm) told0,List.any_append];simp
     generalize M.getD j told0=y at *
     obtain⟨⟨⟨t2,r2⟩,n2⟩,⟨⟨⟨nt2,nr2⟩,ni2⟩,⟨⟨pt2,pr2⟩,pi2⟩,nm2,dd2⟩⟩:=y
     obtain⟨b2,hb2⟩:∃b,b=(fun y:Told=>y.a.eqb ⟨⟨t,r⟩,n⟩) ⟨⟨⟨t2,r2⟩,n2⟩,⟨⟨⟨nt2,nr2⟩,ni2⟩,⟨⟨pt2,pr2⟩,pi2⟩,nm2,dd2⟩⟩:=⟨_,rfl⟩
     have q1:=eq_id t2 r2 n2 t r n b2 hb2.symm
     have HTK:=hid (show(M.take (j+1)).any (fun y:Told=>y.a.eqb ⟨⟨t,r⟩,n⟩)=(b || b2) by rw[htk,HB.out,hb2])
     have y0:=cell_regrown (w:=wr) (a:=⟨g2,j*11,none⟩) (v:= .int .i64 t2) (hr2 0 _ rfl)
     have y1:=cell_regrown (w:=wr) (a:=⟨g2,j*11+1,none⟩) (v:= .int .i64 r2) (hr2 1 _ rfl)
     have y2:=cell_regrown (w:=wr) (a:=⟨g2,j*11+2,none⟩) (v:= .int .i64 n2) (hr2 2 _ rfl)
     have x0:=cell_regrown (w:=wr) (a:=⟨rb,ro+k*3,none⟩) (v:= .int .i64 t) ((HRW.out wr HBw.out).1 0 _ rfl)
     have x1:=cell_regrown (w:=wr) (a:=⟨rb,ro+k*3+1,none⟩) (v:= .int .i64 r) ((HRW.out wr HBw.out).1 1 _ rfl)
     have x2:=cell_regrown (w:=wr) (a:=⟨rb,ro+k*3+2,none⟩) (v:= .int .i64 n) ((HRW.out wr HBw.out).1 2 _ rfl)
     clear hr2 hb2 htk
     cases b with
     |true=>
      go_upto_region 9 with fail
      refine rqb ?_
      repeat(any_goals(first|go_big_quiet_step (fail)|quiet_step (fail)))
      refine qz fun wq hBq=> ?_
      go_wp2
      go_roundw
      case rel=>exact⟨j+1,true,by omega,by go_num,rfl,hid (by rw[HTK.out];rfl),hid (HBj.out.trans (hBq.mono HBj.out.size))⟩
      case measure=>(simp[RowKit.intOf];omega)
     |false=>
      go_upto_region 9 with fail
      refine rqb ?_
      repeat(any_goals(first|go_big_quiet_step (fail)|quiet_step (fail)))
      refine qz fun wq hBq=> ?_
      go_wp2
      go_roundw
      case rel=>exact⟨j+1,b2,by omega,by go_num,rfl,hid (by rw[HTK.out];rfl),hid (HBj.out.trans (hBq.mono HBj.out.size))⟩
      case measure=>(simp[RowKit.intOf];omega)
    ·obtain rfl:j=m:=by omega
     have j2:¬(j:Int)<(j:Int):=by omega
     have hany:b=M.any (fun y:Told=>y.a.eqb ⟨⟨t,r⟩,n⟩):=by rw[HB.out,HML.out,List.take_length]
     cases b with
     |true=>
      have HS9:=hid (show sortT (L.take (k+1))=M by rw[HST.out];unfold stepT;rw[if_pos hany.symm])
      clear hany
      go_wp2
      go_roundw
      case rel=>exact⟨k+1,A',c',j,M,by omega,by go_num,rfl,by omega,HML,hid HS9.out.symm,HOj,HBw⟩
      case measure=>(simp[RowKit.intOf];omega)
     | false=>
      have HS9:=hid (show sortT (L.take (k+1))=insB (fun y:Told=>Gid.lt ⟨⟨t,r⟩,n⟩ y.a) told0 M ⟨⟨⟨t,r⟩,n⟩,⟨⟨⟨nt,nr⟩,ni⟩,⟨⟨pt,pr⟩,pi⟩,nm,dd⟩⟩ by rw[HST.out];unfold stepT;rw[if_neg (by rw[←hany];decide)])
      clear hany
      have hszw:=HBw.out.size
      go_upto_region 11 with fail
      refine wp_region_held (S:=fun w'=>w'.rangeAt rb (ro+k*3) [.int .i64 t,.int .i64 r,.int .i64 n]∧w'.rangeAt rb2 (ro2+k*8) [.int .i64 nt,.int .i64 nr,.int .i64 ni,.int .i64 pt,.int .i64 pr,.int .i64 pi,.string nm,.bool dd]) (by kernel_rfl) ?_
      try(change wpAnyH _ _ _ _ _ _ _ _ (World.drew _))
      refine tk 0 (.slice A' j c') ((show wr.drew.rangeAt _ _ _∧wr.drew.rangeAt _ _ _ from HRW.out wr HBw.out)) ?_
      go_simp
      refine tk 1 (.slice (some ⟨rb,ro,none⟩) L.length c) ((show wr.drew.rangeAt _ _ _∧wr.drew.rangeAt _ _ _ from HRW.out wr HBw.out)) ?_
      go_simp
      refine tk 2 (.int .i64 (k:Int)) ((show wr.drew.rangeAt _ _ _∧wr.drew.rangeAt _ _ _ from HRW.out wr HBw.out)) ?_
      go_simp
      refine tk 3 (.pointer (some ⟨rb,ro+k*3,none⟩)) ((show wr.drew.rangeAt _ _ _∧wr.drew.rangeAt _ _ _ from HRW.out wr HBw.out)) ?_
      go_simp
      refine wpAnyH_take (i:=4) (v:= .agg #[.int .i64 t,.int .i64 r,.int .i64 n]) rfl (by kernel_rfl) (by kernel_rfl) (by kernel_rfl) (fun _ _ _ h=>h) (yieldsIf_load_mid (by rfl) _ _ rfl rb (ro+k*3) rfl [.int .i64 t,.int .i64 r,.int .i64 n] _ (fun W' hW'=>range_mid (pre:=[]) (mid:=[.int .i64 t,.int .i64 r,.int .i64 n]) (post:=[]) (hW'.1)) Tryz.underlying108 rfl (by kernel_rfl)) ((show wr.drew.rangeAt _ _ _∧wr.drew.rangeAt _ _ _ from HRW.out wr HBw.out)) ?_
      go_simp
      refine tk 5 (.slice (some ⟨rb2,ro2,none⟩) L.length c2) ((show wr.drew.rangeAt _ _ _∧wr.drew.rangeAt _ _ _ from HRW.out wr HBw.out)) ?_
      go_simp
      refine tk 6 (.int .i64 (k:Int)) ((show wr.drew.rangeAt _ _ _∧wr.drew.rangeAt _ _ _ from HRW.out wr HBw.out)) ?_
      go_simp
      refine tk 7 (.pointer (some ⟨rb2,ro2+k*8,none⟩)) ((show wr.drew.rangeAt _ _ _∧wr.drew.rangeAt _ _ _ from HRW.out wr HBw.out)) ?_
      go_simp
      refine wpAnyH_take (i:=8) (v:= .agg #[.int .i64 nt,.int .i64 nr,.int .i64 ni,.int .i64 pt,.int .i64 pr,.int .i64 pi,.string nm,.bool dd]) rfl (by kernel_rfl) (by kernel_rfl) (by kernel_rfl) (fun _ _ _ h=>h) (yieldsIf_load_mid (by rfl) _ _ rfl rb2 (ro2+k*8) rfl [.int .i64 nt,.int .i64 nr,.int .i64 ni,.int .i64 pt,.int .i64 pr,.int .i64 pi,.string nm,.bool dd] _ (fun W' hW'=>range_mid (pre:=[]) (mid:=[.int .i64 nt,.int .i64 nr,.int .i64 ni,.int .i64 pt,.int .i64 pr,.int .i64 pi,.string nm,.bool dd]) (post:=[]) (hW'.2)) Tryz.underlying161 rfl (by kernel_rfl)) ((show wr.drew.rangeAt _ _ _∧wr.drew.rangeAt _ _ _ from HRW.out wr HBw.out)) ?_
      go_simp
      refine tk 9 (.agg #[.int .i64 t,.int .i64 r,.int .i64 n,.int .i64 nt,.int .i64 nr,.int .i64 ni,.int .i64 pt,.int .i64 pr,.int .i64 pi,.string nm,.bool dd]) ((show wr.drew.rangeAt _ _ _∧wr.drew.rangeAt _ _ _ from HRW.out wr HBw.out)) ?_
      go_simp
      have hsA:(wr.alloc (.cells #[.int .i64 t,.int .i64 r,.int .i64 n,.int .i64 nt,.int .i64 nr,.int .i64 ni,.int .i64 pt,.int .i64 pr,.int .i64 pi,.string nm,.bool dd] 228)).drew.heap.size=wr.heap.size+1:=by show(wr.alloc _).heap.size=_;simp
      have HDN:=hid (HOj.out.alloc (.cells #[.int .i64 t,.int .i64 r,.int .i64 n,.int .i64 nt,.int .i64 nr,.int .i64 ni,.int .i64 pt,.int .i64 pr,.int .i64 pi,.string nm,.bool dd] 228))
      have HNC:=hid (fun (j:Nat) (y:Value) (h:([.int .i64 t,.int .i64 r,.int .i64 n,.int .i64 nt,.int .i64 nr,.int .i64 ni,.int .i64 pt,.int .i64 pr,.int .i64 pi,.string nm,.bool dd]:List Value)[j]? =some y)=>cellsN wr [.int .i64 t,.int .i64 r,.int .i64 n,.int .i64 nt,.int .i64 nr,.int .i64 ni,.int .i64 pt,.int .i64 pr,.int .i64 pi,.string nm,.bool dd] 228 j y h)
      have HOC:=hid (show ∀u∈([.int .i64 t,.int .i64 r,.int .i64 n,.int .i64 nt,.int .i64 nr,.int .i64 ni,.int .i64 pt,.int .i64 pr,.int .i64 pi,.string nm,.bool dd]:List Value),u.oneCell'=true from oc_of (c:=#[.int .i64 t,.int .i64 r,.int .i64 n,.int .i64 nt,.int .i64 nr,.int .i64 ni,.int .i64 pt,.int .i64 pr,.int .i64 pi,.string nm,.bool dd]) rfl)
      have HBA:=hid ((HBw.out.alloc HBw.out.size (.cells #[.int .i64 t,.int .i64 r,.int .i64 n,.int .i64 nt,.int .i64 nr,.int .i64 ni,.int .i64 pt,.int .i64 pr,.int .i64 pi,.string nm,.bool dd] 228)).drew)
      refine wpAnyH_ready (rs:=[10]) (by kernel_rfl) (by simp) ?_
      refine AllReadyH.cons rfl (fun K hK=> ?_) AllReadyH.nil
      go_simp
      refine hK.out _ _ (HRW.out _ HBA.out) (fun _=> ?_)
      clear hK K
      refine wpAnyH_ready (rs:=[11]) (by kernel_rfl) (by simp) ?_
      refine AllReadyH.cons rfl (fun K hK=> ?_) AllReadyH.nil
      refine step_append_lies _ (by rfl) _ _ 225 (by rfl) w.heap.size 228 i0 (.agg #[.int .i64 0,.int .i64 0,.int .i64 0,.int .i64 0,.int .i64 0,.int .i64 0,.int .i64 0,.int .i64 0,.int .i64 0,.string ⟨#[]⟩,.bool false]) 11 96 Tryz.underlying225 hi hz0 hz1 hz2 rfl (by decide) (.slice A' j c') j _ (by rfl) (by exact HDN.out) ⟨wr.heap.size,0,none⟩ 1 1 [.int .i64 t,.int .i64 r,.int .i64 n,.int .i64 nt,.int .i64 nr,.int .i64 ni,.int .i64 pt,.int .i64 pr,.int .i64 pi,.string nm,.bool dd] (by rfl) (by rfl) (by exact HNC.out) HOC.out (by decide) (by unfold maxLen;omega) (by omega) (by rw[hsA];have:=HBw.out.size;omega) (wr.heap.size+1) hsA ?_
      intro gq cap w5 hown1 hgrow hat hlt3
      have HO5:=hid hown1
      have HB5:=hid (HBA.out.grown hgrow (by rw[hsA];have:=HBw.out.size;omega) (fun b hb=>(HOj.out.lt b hb).1))
      clear hown1 hgrow hat hlt3
      refine hK.out _ _ (HRW.out _ HB5.out) (fun _=> ?_)
      clear hK K
      refine tk 12 (.slice (some ⟨gq,0,none⟩) (j+1) cap) (HRW.out _ HB5.out) ?_
      go_simp
      refine wpAnyH_done (by kernel_rfl) ?_ _
      go_simp
      go_wp2
      clear HOj HBj HBw HB hszw HBA HDN HNC hsA HOC
      have hm63:j≤100000:=by omega
      have hs9:slid M (⟨⟨⟨t,r⟩,n⟩,⟨⟨⟨nt,nr⟩,ni⟩,⟨⟨pt,pr⟩,pi⟩,nm,dd⟩⟩:Told) j=M++[⟨⟨⟨t,r⟩,n⟩,⟨⟨⟨nt,nr⟩,ni⟩,⟨⟨pt,pr⟩,pi⟩,nm,dd⟩⟩]:=by rw[HML.out];exact slid_end _ _
      have HO6:=hid (show w5.ownsRow w.heap.size 228 11 (.slice (some ⟨gq,0,none⟩) (j+1) cap) (j+1) ((slid M (⟨⟨⟨t,r⟩,n⟩,⟨⟨⟨nt,nr⟩,ni⟩,⟨⟨pt,pr⟩,pi⟩,nm,dd⟩⟩:Told) j).flatMap toldL) by rw[hs9,List.flatMap_append];exact HO5.out)
      clear hs9 HO5
      generalize w5=w6 at *
      go_loopw [9] (fun i wx=>∃(q:Nat),i= .int .i64 q∧q≤j∧Hid (insIx (fun y:Told=>Gid.lt ⟨⟨t,r⟩,n⟩ y.a) told0 M q=insIx (fun y:Told=>Gid.lt ⟨⟨t,r⟩,n⟩ y.a) told0 M M.length)∧Hid (wx.ownsRow w.heap.size 228 11 (.slice (some ⟨gq,0,none⟩) (j+1) cap) (j+1) ((slid M (⟨⟨⟨t,r⟩,n⟩,⟨⟨⟨nt,nr⟩,ni⟩,⟨⟨pt,pr⟩,pi⟩,nm,dd⟩⟩:Told) q).flatMap toldL))∧Hid (Below w.heap.size w wx)) (fun i _=>(RowKit.intOf i).toNat)
      case atStart=>exact⟨j,rfl,Nat.le_refl _,hid (by rw[HML.out]),HO6,HB5⟩
      case round=>
       obtain⟨q,rfl,hq,HIX,HOq,HBq⟩:=hrel
       by_cases h0:0<q
       ·obtain⟨q,rfl⟩:∃p,q=p+1:=⟨q-1,by omega⟩
        have hqm:q+1≤M.length:=by rw[←HML.out];exact hq
        have hl1:j+1=(slid M (⟨⟨⟨t,r⟩,n⟩,⟨⟨⟨nt,nr⟩,ni⟩,⟨⟨pt,pr⟩,pi⟩,nm,dd⟩⟩:Told) (q+1)).length:=by rw[slid_len,←HML.out]
        obtain⟨g3,e3,-,hg3,hr3⟩:=ownN_range (f:=toldL) (fun _=>rfl) hl1 HOq.out (k:=q) (by omega) told0
        cases e3
        obtain⟨g4,e4,-,-,hr4⟩:=ownN_range (f:=toldL) (fun _=>rfl) hl1 HOq.out (k:=q+1) (by omega) told0
        cases e4
        rw[slid_pre hqm] at hr3
        rw[slid_at hqm] at hr4
        have hsw:=slid_swap (L:=M) (x:=(⟨⟨⟨t,r⟩,n⟩,⟨⟨⟨nt,nr⟩,ni⟩,⟨⟨pt,pr⟩,pi⟩,nm,dd⟩⟩:Told)) (z:=told0) hqm
        obtain⟨y,hy⟩:∃y,y=M.getD q told0:=⟨_,rfl⟩
        rw[←hy] at hr3 hsw
        obtain⟨b2,hb2⟩:∃b,b=(fun y:Told=>Gid.lt ⟨⟨t,r⟩,n⟩ y.a) y:=⟨_,rfl⟩
        have HPY:=hid (show(fun y:Told=>Gid.lt ⟨⟨t,r⟩,n⟩ y.a) (M.getD q told0)=b2 by rw[←hy,hb2])
        clear hy
        obtain⟨⟨⟨t2,r2⟩,n2⟩,⟨⟨⟨nt2,nr2⟩,ni2⟩,⟨⟨pt2,pr2⟩,pi2⟩,nm2,dd2⟩⟩:=y
        have HR3:=hid (show wr.rangeAt gq (q*11) [.int .i64 t2,.int .i64 r2,.int .i64 n2,.int .i64 nt2,.int .i64 nr2,.int .i64 ni2,.int .i64 pt2,.int .i64 pr2,.int .i64 pi2,.string nm2,.bool dd2] from hr3)
        have HR4:=hid (show wr.rangeAt gq ((q+1)*11) [.int .i64 t,.int .i64 r,.int .i64 n,.int .i64 nt,.int .i64 nr,.int .i64 ni,.int .i64 pt,.int .i64 pr,.int .i64 pi,.string nm,.bool dd] from hr4)
        have y0:=cell_regrown (w:=wr) (a:=⟨gq,q*11,none⟩) (v:= .int .i64 t2) (hr3 0 _ rfl)
        have y1:=cell_regrown (w:=wr) (a:=⟨gq,q*11+1,none⟩) (v:= .int .i64 r2) (hr3 1 _ rfl)
        have y2:=cell_regrown (w:=wr) (a:=⟨gq,q*11+2,none⟩) (v:= .int .i64 n2) (hr3 2 _ rfl)
        have x0:=cell_regrown (w:=wr) (a:=⟨gq,(q+1)*11,none⟩) (v:= .int .i64 t) (hr4 0 _ rfl)
        have x1:=cell_regrown (w:=wr) (a:=⟨gq,(q+1)*11+1,none⟩) (v:= .int .i64 r) (hr4 1 _ rfl)
        have x2:=cell_regrown (w:=wr) (a:=⟨gq,(q+1)*11+2,none⟩) (v:= .int .i64 n) (hr4 2 _ rfl)
        have HSW:=hid hsw
        have k1:(0:Int)<(q:Int)+1:=by omega
        have k2:(0:Int)≤(q:Int):=by omega
        have k3:(q:Int)<(j:Int)+1:=by omega
        have k4:(q:Int)+1<(j:Int)+1:=by omega
        have k5:(0:Int)≤(q:Int)+1:=by omega
        have k6:IntKind.i64.wrap (q:Int)=(q:Int):=by rw[IntKind.wrap_i64];omega
        have HL1:=hid hl1
        have HBF:=fun W=>refcmpid_any t r n t2 r2 n2 W
        obtain⟨zc,hzc⟩:∃z,z=rcmpD ⟨⟨t,r⟩,n⟩ ⟨⟨t2,r2⟩,n2⟩:=⟨_,rfl⟩
        rw[←hzc] at HBF
        have hz2:decide (0≤zc)= !b2:=by rw[hzc,rcmpD_ge,hb2]
        have hz3:decide (zc<0)=b2:=by cases b2<;>simp at hz2 ⊢ <;>omega
        clear hzc hz2
        have cA:=fun d os=>Calls.regrown_of (HBF (grow (redrawn wr d) os))
        clear hr3 hr4 hb2 hsw hl1
        cases b2 with
        |false=>
         go_upto_region 13 with fail
         refine rqb ?_
         repeat(any_goals(first|go_big_quiet_step (with_reducible exact cA _ _)|quiet_step (with_reducible exact cA _ _)))
         refine qz fun wq hBq=> ?_
         have HS8:=hid (show sortT (L.take (k+1))=slid M (⟨⟨⟨t,r⟩,n⟩,⟨⟨⟨nt,nr⟩,ni⟩,⟨⟨pt,pr⟩,pi⟩,nm,dd⟩⟩:Told) (q+1) by rw[HS9.out];unfold insB;rw[←HIX.out,insIx_stop (.inr ⟨q,rfl,HPY.out⟩)])
         have HOx:=hid (HOq.out.kept (gby_below (r:=none) hBq) (Classical.em _))
         have HBx:=hid (HBq.out.trans (hBq.mono HBq.out.size))
         go_wp2
         go_roundw
         case rel=>exact⟨k+1,some ⟨gq,0,none⟩,cap,j+1,_,by omega,by go_num,rfl,by omega,HL1,hid HS8.out.symm,HOx,HBx⟩
         case measure=>(simp[RowKit.intOf];omega)
        | true=>
         go_upto_region 13 with fail
         refine rqb ?_
         repeat(any_goals(first|go_big_quiet_step (with_reducible exact cA _ _)|quiet_step (with_reducible exact cA _ _)))
         refine qz fun wq hBq=> ?_
         have HIX2:=hid (show insIx (fun y:Told=>Gid.lt ⟨⟨t,r⟩,n⟩ y.a) told0 M q=insIx (fun y:Told=>Gid.lt ⟨⟨t,r⟩,n⟩ y.a) told0 M M.length by rw[←HIX.out,insIx_go HPY.out])
         have HR3q:=hid (rangeB HR3.out hg3 hBq)
         have HR4q:=hid (rangeB HR4.out hg3 hBq)
         have HOq2:=hid (HOq.out.kept (gby_below (r:=none) hBq) (Classical.em _))
         have HBq2:=hid (HBq.out.trans (hBq.mono HBq.out.size))
         clear y0 y1 y2 x0 x1 x2 cA HOq hBq
         go_upto_region 15 with fail
         obtain⟨V1,hV1⟩:∃V,V=wq.drew.setCells gq ((q+1)*11) (#[.int .i64 t2,.int .i64 r2,.int .i64 n2,.int .i64 nt2,.int .i64 nr2,.int .i64 ni2,.int .i64 pt2,.int .i64 pr2,.int .i64 pi2,.string nm2,.bool dd2]:Array Value).toList:=⟨_,rfl⟩
         have hP1:V1.ownsRow w.heap.size 228 11 (.slice (some ⟨gq,0,none⟩) (j+1) cap) (j+1) (((slid M (⟨⟨⟨t,r⟩,n⟩,⟨⟨⟨nt,nr⟩,ni⟩,⟨⟨pt,pr⟩,pi⟩,nm,dd⟩⟩:Told) (q+1)).set (q+1) (⟨⟨⟨t2,r2⟩,n2⟩,⟨⟨⟨nt2,nr2⟩,ni2⟩,⟨⟨pt2,pr2⟩,pi2⟩,nm2,dd2⟩⟩:Told)).flatMap toldL)∧wq.drew.grownBy V1 (some gq):=by rw[hV1];exact ownN_put (f:=toldL) (fun _=>rfl) (by decide) HL1.out (show wq.drew.ownsRow _ _ _ _ _ _ from HOq2.out) (by omega) (⟨⟨⟨t2,r2⟩,n2⟩,⟨⟨⟨nt2,nr2⟩,ni2⟩,⟨⟨pt2,pr2⟩,pi2⟩,nm2,dd2⟩⟩:Told)
         obtain⟨V2,hV2⟩:∃V,V=V1.setCells gq (q*11) (#[.int .i64 t,.int .i64 r,.int .i64 n,.int .i64 nt,.int .i64 nr,.int .i64 ni,.int .i64 pt,.int .i64 pr,.int .i64 pi,.string nm,.bool dd]:Array Value).toList:=⟨_,rfl⟩
         have hP2:V2.ownsRow w.heap.size 228 11 (.slice (some ⟨gq,0,none⟩) (j+1) cap) (j+1) ((((slid M (⟨⟨⟨t,r⟩,n⟩,⟨⟨⟨nt,nr⟩,ni⟩,⟨⟨pt,pr⟩,pi⟩,nm,dd⟩⟩:Told) (q+1)).set (q+1) (⟨⟨⟨t2,r2⟩,n2⟩,⟨⟨⟨nt2,nr2⟩,ni2⟩,⟨⟨pt2,pr2⟩,pi2⟩,nm2,dd2⟩⟩:Told)).set q (⟨⟨⟨t,r⟩,n⟩,⟨⟨⟨nt,nr⟩,ni⟩,⟨⟨pt,pr⟩,pi⟩,nm,dd⟩⟩:Told)).flatMap toldL)∧V1.grownBy V2 (some gq):=by rw[hV2];exact ownN_put (f:=toldL) (fun _=>rfl) (by decide) (by rw[List.length_set];exact HL1.out) hP1.1 (by omega) (⟨⟨⟨t,r⟩,n⟩,⟨⟨⟨nt,nr⟩,ni⟩,⟨⟨pt,pr⟩,pi⟩,nm,dd⟩⟩:Told)
         obtain⟨g5,e5,ht5⟩:=own_there (show wq.drew.ownsRow _ _ _ _ _ _ from HOq2.out) (k:=q+1) (by omega)
         cases e5
         obtain⟨g6,e6,ht6⟩:=own_there hP1.1 (k:=q) (by omega)
         cases e6
         have HP2:=hid hP2.1
         have HG2:=hid (show wq.heap.size≤V2.heap.size∧(Below w.heap.size w wq→w.heap.size≤gq→Below w.heap.size w V2) from⟨Nat.le_trans (show wq.drew.heap.size≤V1.heap.size from hP1.2.size) hP2.2.size,fun hb hl=>(hb.drew.grown hP1.2 (by exact hb.size) (fun b e=>by cases e;exact hl)).grown hP2.2 (Nat.le_trans hb.size (show wq.drew.heap.size≤V1.heap.size from hP1.2.size)) (fun b e=>by cases e;exact hl)⟩)
         have HV1:=hid hV1
         have HV2:=hid hV2
         have HT5:=hid ht5
         have HT6:=hid ht6
         have HAY:=hid (show(#[.int .i64 t2,.int .i64 r2,.int .i64 n2,.int .i64 nt2,.int .i64 nr2,.int .i64 ni2,.int .i64 pt2,.int .i64 pr2,.int .i64 pi2,.string nm2,.bool dd2]:Array Value).all (·.oneCell')=true by rw[←Array.all_toList];rfl)
         have HAX:=hid (show(#[.int .i64 t,.int .i64 r,.int .i64 n,.int .i64 nt,.int .i64 nr,.int .i64 ni,.int .i64 pt,.int .i64 pr,.int .i64 pi,.string nm,.bool dd]:Array Value).all (·.oneCell')=true by rw[←Array.all_toList];rfl)
         clear hP1 hP2 hV1 hV2 ht5 ht6
         refine wp_region_held (S:=fun _=>True) (by kernel_rfl) ?_
         try(change wpAnyH _ _ _ _ _ _ _ _ (World.drew _))
         refine tk 0 (.slice (some ⟨gq,0,none⟩) (j+1) cap) (trivial) ?_
         go_simp
         refine tk 1 (.int .i64 ((q:Int)+1)) (trivial) ?_
         go_simp
         refine tk 2 (.slice (some ⟨gq,0,none⟩) (j+1) cap) (trivial) ?_
         go_simp
         refine tk 3 (.int .i64 ((q:Int)+1)) (trivial) ?_
         go_simp
         refine tk 4 (.int .i64 (q:Int)) (trivial) ?_
         go_simp
         refine tk 5 (.slice (some ⟨gq,0,none⟩) (j+1) cap) (trivial) ?_
         go_simp
         refine tk 6 (.int .i64 ((q:Int)+1)) (trivial) ?_
         go_simp
         refine tk 7 (.int .i64 (q:Int)) (trivial) ?_
         go_simp
         refine tk 8 (.pointer (some ⟨gq,q*11,none⟩)) (trivial) ?_
         go_simp
         refine tk 10 (.slice (some ⟨gq,0,none⟩) (j+1) cap) (trivial) ?_
         go_simp
         refine tk 11 (.int .i64 ((q:Int)+1)) (trivial) ?_
         go_simp
         refine tk 12 (.pointer (some ⟨gq,(q+1)*11,none⟩)) (trivial) ?_
         go_simp
         refine wpAnyH_ready (rs:=[9,13]) (by kernel_rfl) (by simp) ?_
         refine AllReadyH.cons rfl (fun K hK=> ?_) (AllReadyH.cons rfl (fun K hK=> ?_) AllReadyH.nil)
         focus
          refine step_load_mid rfl _ _ rfl gq (q*11) rfl [.int .i64 t2,.int .i64 r2,.int .i64 n2,.int .i64 nt2,.int .i64 nr2,.int .i64 ni2,.int .i64 pt2,.int .i64 pr2,.int .i64 pi2,.string nm2,.bool dd2] _ (show wq.drew.rangeAt _ _ _ from HR3q.out) Tryz.underlying228 rfl (by kernel_rfl) ?_
          refine hK.out _ _ (trivial) (fun _=> ?_)
          clear hK K
          refine wpAnyH_ready (rs:=[13]) (by kernel_rfl) (by simp) ?_
          refine AllReadyH.cons rfl (fun K hK=> ?_) AllReadyH.nil
          refine step_load_mid rfl _ _ rfl gq ((q+1)*11) rfl [.int .i64 t,.int .i64 r,.int .i64 n,.int .i64 nt,.int .i64 nr,.int .i64 ni,.int .i64 pt,.int .i64 pr,.int .i64 pi,.string nm,.bool dd] _ (show wq.drew.rangeAt _ _ _ from HR4q.out) Tryz.underlying228 rfl (by kernel_rfl) ?_
          refine hK.out _ _ (trivial) (fun _=> ?_)
          clear hK K
         rotate_left
         focus
          refine step_load_mid rfl _ _ rfl gq ((q+1)*11) rfl [.int .i64 t,.int .i64 r,.int .i64 n,.int .i64 nt,.int .i64 nr,.int .i64 ni,.int .i64 pt,.int .i64 pr,.int .i64 pi,.string nm,.bool dd] _ (show wq.drew.rangeAt _ _ _ from HR4q.out) Tryz.underlying228 rfl (by kernel_rfl) ?_
          refine hK.out _ _ (trivial) (fun _=> ?_)
          clear hK K
          refine wpAnyH_ready (rs:=[9]) (by kernel_rfl) (by simp) ?_
          refine AllReadyH.cons rfl (fun K hK=> ?_) AllReadyH.nil
          refine step_load_mid rfl _ _ rfl gq (q*11) rfl [.int .i64 t2,.int .i64 r2,.int .i64 n2,.int .i64 nt2,.int .i64 nr2,.int .i64 ni2,.int .i64 pt2,.int .i64 pr2,.int .i64 pi2,.string nm2,.bool dd2] _ (show wq.drew.rangeAt _ _ _ from HR3q.out) Tryz.underlying228 rfl (by kernel_rfl) ?_
          refine hK.out _ _ (trivial) (fun _=> ?_)
          clear hK K
         all_goals
          refine tk 14 (.pointer (some ⟨gq,(q+1)*11,none⟩)) (trivial) ?_
          go_simp
          refine wpAnyH_ready (rs:=[15]) (by kernel_rfl) (by simp) ?_
          refine AllReadyH.cons rfl (fun K hK=> ?_) AllReadyH.nil
          refine step_store_mid rfl _ _ _ rfl gq ((q+1)*11) #[.int .i64 t2,.int .i64 r2,.int .i64 n2,.int .i64 nt2,.int .i64 nr2,.int .i64 ni2,.int .i64 pt2,.int .i64 pr2,.int .i64 pi2,.string nm2,.bool dd2] (by rfl) (by rfl) HT5.out (by kernel_rfl) HAY.out ?_
          rw[←HV1.out]
          refine hK.out _ _ (trivial) (fun _=> ?_)
          clear hK K
          refine tk 16 (.pointer (some ⟨gq,q*11,none⟩)) (trivial) ?_
          go_simp
          refine wpAnyH_ready (rs:=[17]) (by kernel_rfl) (by simp) ?_
          refine AllReadyH.cons rfl (fun K hK=> ?_) AllReadyH.nil
          refine step_store_mid rfl _ _ _ rfl gq (q*11) #[.int .i64 t,.int .i64 r,.int .i64 n,.int .i64 nt,.int .i64 nr,.int .i64 ni,.int .i64 pt,.int .i64 pr,.int .i64 pi,.string nm,.bool dd] (by rfl) (by rfl) HT6.out (by kernel_rfl) HAX.out ?_
          rw[←HV2.out]
          refine hK.out _ _ (trivial) (fun _=> ?_)
          clear hK K
          refine wpAnyH_done (by kernel_rfl) ?_ _
          go_simp
          go_wp2
          go_roundw
          case rel=>exact⟨q,by go_num,by omega,HIX2,hid (by rw[←HSW.out];exact HP2.out),hid (HG2.out.2 HBq2.out (HOq2.out.lt gq rfl).1)⟩
          case measure=>(simp[RowKit.intOf];try omega)
       ·obtain rfl:q=0:=by omega
        go_upto_region 13 with fail
        refine rqb ?_
        repeat(any_goals(first|go_big_quiet_step (fail)|quiet_step (fail)))
        refine qz fun wq hBq=> ?_
        have HS8:=hid (show sortT (L.take (k+1))=slid M (⟨⟨⟨t,r⟩,n⟩,⟨⟨⟨nt,nr⟩,ni⟩,⟨⟨pt,pr⟩,pi⟩,nm,dd⟩⟩:Told) 0 by rw[HS9.out];unfold insB;rw[←HIX.out];rfl)
        have HL1:=hid (show j+1=(slid M (⟨⟨⟨t,r⟩,n⟩,⟨⟨⟨nt,nr⟩,ni⟩,⟨⟨pt,pr⟩,pi⟩,nm,dd⟩⟩:Told) 0).length by rw[slid_len,←HML.out])
        have HOx:=hid (HOq.out.kept (gby_below (r:=none) hBq) (Classical.em _))
        have HBx:=hid (HBq.out.trans (hBq.mono HBq.out.size))
        go_wp2
        go_roundw
        case rel=>exact⟨k+1,some ⟨gq,0,none⟩,cap,j+1,_,by omega,by go_num,rfl,by omega,HL1,hid HS8.out.symm,HOx,HBx⟩
        case measure=>(simp[RowKit.intOf];omega)
  ·obtain rfl:k=L.length:=by omega
   have i2:¬(L.length:Int)<(L.length:Int):=by omega
   have HM9:=hid (show M=sortT L by have h9:=HM.out;rw[List.take_length] at h9;exact h9)
   go_wp2
   go_ret
   refine⟨A',c',by rw[←HM9.out,←HML.out];rfl,?_,HBr.out⟩
   rw[←HM9.out,←HML.out];exact HO.out
end
end Go.Proofs.YtkhmicndehlneaaGreatDoor
