/- Part 25 of the walks and plain laws that this claim uses, joined. Conditions: as each theorem states. -/
import Derived.Laws.AppendOwn
import Derived.Test.YtkhmicndehlneaaGreatDoorYtx
namespace Go.Proofs.YtkhmicndehlneaaGreatDoor
set_option maxRecDepth 100000
set_option maxHeartbeats 16000000
section
open Go.RowKit Go.Lib Go.Sort
set_option linter.unusedVariables false
attribute [local go_sem ↓] Go.wp_at_zero Go.wp_at_succ
theorem rcmpD_gt (a b:Gid):decide (0<rcmpD a b)=b.lt a:=by
 have h1:a.s.lt b.s=true↔(a.s.t<b.s.t∨(a.s.t=b.s.t∧a.s.r<b.s.r)):=by simp[Gst.lt]
 have h2:b.s.lt a.s=true↔(b.s.t<a.s.t∨(b.s.t=a.s.t∧b.s.r<a.s.r)):=by simp[Gst.lt]
 have h3:b.s.eqb a.s=true↔(b.s.t=a.s.t∧b.s.r=a.s.r):=by simp[Gst.eqb]
 rw[Bool.eq_iff_iff,decide_eq_true_eq]
 unfold Gid.lt
 rw[Bool.or_eq_true,Bool.and_eq_true,decide_eq_true_eq,h2,h3]
 have h4:rcmpS a.s b.s=if (a.s.t<b.s.t∨(a.s.t=b.s.t∧a.s.r<b.s.r)) then -1 else if (b.s.t<a.s.t∨(b.s.t=a.s.t∧b.s.r<a.s.r)) then 1 else 0:=by
  unfold rcmpS
  simp only[h1,h2]
 unfold rcmpD
 rw[h4]
 by_cases d:(a.s.t<b.s.t∨(a.s.t=b.s.t∧a.s.r<b.s.r))
 ·rw[if_pos d,if_pos (by decide)];omega
 ·rw[if_neg d]
  by_cases f:(b.s.t<a.s.t∨(b.s.t=a.s.t∧b.s.r<a.s.r))
  ·rw[if_pos f,if_pos (by decide)];omega
  ·rw[if_neg f,if_neg (by decide)]
   split
   ·omega
   ·split<;>omega
theorem bh_len:∀(l:List Elt) (x:Gid) (out:List Elt),(l.foldl (bhStep x) out).length≤out.length+l.length
 | [],x,out=>Nat.le_refl _
 | e::l,x,out=>by
  have h1:=bh_len l x (bhStep x out e)
  have h2:(bhStep x out e).length≤out.length+1:=by
   unfold bhStep
   split
   ·rw[insB_len];exact Nat.le_refl _
   ·omega
  rw[List.foldl_cons,List.length_cons];omega
theorem behind_any (L:List Elt) (A:Option Addr) (c:Nat) (S:Nat→Prop) (xt xr xi:Int) (w00:World) (hl:L.length≤100000) (hR:RowF w00 S A 7 eltL elt0 L):
  Calls Tryz.prog 198 #[.slice A L.length c,.agg #[.int .i64 xt,.int .i64 xr,.int .i64 xi]] w00 fun e w'=>∃A' c',e= .returned (.slice A' (bhW L ⟨⟨xt,xr⟩,xi⟩).length c')∧w'.ownsRow w00.heap.size 169 7 (.slice A' (bhW L ⟨⟨xt,xr⟩,xi⟩).length c') (bhW L ⟨⟨xt,xr⟩,xi⟩).length ((bhW L ⟨⟨xt,xr⟩,xi⟩).flatMap eltL)∧Below w00.heap.size w00 w':=by
 obtain⟨i0,hi,hz0,hz1,hz2⟩:=info_parts info_elt
 have hb0:Below w00.heap.size w00 (w00.alloc (.cells #[.int .i64 xt,.int .i64 xr,.int .i64 xi] 108)):=(Below.refl _ _).alloc (Nat.le_refl _) _
 have HB0:=hid hb0
 have HXC:=hid (heap_alloc_new w00 (.cells #[.int .i64 xt,.int .i64 xr,.int .i64 xi] 108))
 have HR:=hid (hR.below hb0)
 clear hR hb0
 go_enter Tryz.func198,Tryz.ntmps198
 go_upto_region 1 with fail
 generalize hW:w00.alloc (.cells #[.int .i64 xt,.int .i64 xr,.int .i64 xi] 108)=w at *
 clear hW
 generalize hxb:w00.heap.size=xb at *
 have HXB:=hid hxb
 clear hxb
 go_upto_region 3 with fail
 go_loopw [5,6] (fun o i wr=>∃(k:Nat) (A':Option Addr) (c' m:Nat) (M:List Elt),k≤L.length∧i= .int .i64 k∧o= .slice A' m c'∧m≤k∧Hid (m=M.length)∧Hid (M=bhW (L.take k) ⟨⟨xt,xr⟩,xi⟩)∧Hid (wr.ownsRow w.heap.size 169 7 (.slice A' m c') m (M.flatMap eltL))∧Hid (Below w.heap.size w wr)) (fun o i _=>L.length-(RowKit.intOf i).toNat)
 case atStart=>exact⟨0,none,0,0,[],Nat.zero_le _,rfl,rfl,Nat.le_refl _,hid rfl,hid rfl,hid (World.ownsRow_nil _ _ _ _),hid (Below.refl _ _)⟩
 case round=>
  obtain⟨k,A',c',m,M,hk,rfl,rfl,hmk,HML,HM,HO,HBr⟩:=hrel
  by_cases hlt:k<L.length
  ·have i1:(0:Int)≤(k:Int):=by omega
   have i2:(k:Int)<(L.length:Int):=by omega
   obtain⟨rb,ro,rfl,-,hrb,hrange⟩:=HR.out.range (fun _=>rfl) hlt
   have hst:bhW (L.take (k+1)) ⟨⟨xt,xr⟩,xi⟩=bhStep ⟨⟨xt,xr⟩,xi⟩ M (L.getD k elt0):=by rw[HM.out];exact foldl_take _ _ hlt elt0
   generalize L.getD k elt0=p at *
   obtain⟨⟨⟨nt,nr⟩,ni⟩,⟨⟨pt,pr⟩,pi⟩,nm⟩:=p
   have HRG:=hid (show wr.rangeAt rb (ro+k*7) [.int .i64 nt,.int .i64 nr,.int .i64 ni,.int .i64 pt,.int .i64 pr,.int .i64 pi,.string nm] from rangeB hrange hrb HBr.out)
   have hrbr:=Nat.lt_of_lt_of_le hrb HBr.out.size
   obtain⟨b0,hb0⟩:∃b,b=Gid.eqb ⟨⟨pt,pr⟩,pi⟩ ⟨⟨xt,xr⟩,xi⟩:=⟨_,rfl⟩
   have q0:=ne_id pt pr pi xt xr xi b0 hb0.symm
   have HST:=hid (show bhW (L.take (k+1)) ⟨⟨xt,xr⟩,xi⟩=if b0=true then insB (fun y:Elt=>Gid.lt y.id ⟨⟨nt,nr⟩,ni⟩) elt0 M ⟨⟨⟨nt,nr⟩,ni⟩,⟨⟨pt,pr⟩,pi⟩,nm⟩ else M by rw[hst,hb0];rfl)
   have hxr:=(HBr.out.block _ (lt_of_block HXC.out)).trans HXC.out
   have y3:=cell_regrown (w:=wr) (a:=⟨rb,ro+k*7+3,none⟩) (v:= .int .i64 pt) (HRG.out 3 _ rfl)
   have y4:=cell_regrown (w:=wr) (a:=⟨rb,ro+k*7+3+1,none⟩) (v:= .int .i64 pr) (HRG.out 4 _ rfl)
   have y5:=cell_regrown (w:=wr) (a:=⟨rb,ro+k*7+3+2,none⟩) (v:= .int .i64 pi) (HRG.out 5 _ rfl)
   have x0:=cell_regrown (w:=wr) (a:=⟨xb,0,none⟩) (v:= .int .i64 xt) (crw hxr)
   have x1:=cell_regrown (w:=wr) (a:=⟨xb,1,none⟩) (v:= .int .i64 xr) (crw hxr)
   have x2:=cell_regrown (w:=wr) (a:=⟨xb,2,none⟩) (v:= .int .i64 xi) (crw hxr)
   have hsz:=HBr.out.size
   have hm63:m≤100000:=by omega
   clear hrange hrb hst hb0 hxr
   cases b0 with
   |false=>
    have HS9:=hid (show bhW (L.take (k+1)) ⟨⟨xt,xr⟩,xi⟩=M by rw[HST.out];rfl)
    go_upto_region 5 with fail
    refine rqb ?_
    repeat(any_goals(first|go_big_quiet_step (fail)|quiet_step (fail)))
    refine qz fun wq hBq=> ?_
    have HOx:=hid (HO.out.kept (gby_below (r:=none) hBq) (Classical.em _))
    have HBx:=hid (HBr.out.trans (hBq.mono HBr.out.size))
    go_wp2
    go_roundw
    case rel=>exact⟨k+1,A',c',m,M,by omega,by go_num,rfl,by omega,HML,hid HS9.out.symm,HOx,HBx⟩
    case measure=>(simp[RowKit.intOf];omega)
   | true=>
    have HS9:=hid (show bhW (L.take (k+1)) ⟨⟨xt,xr⟩,xi⟩=insB (fun y:Elt=>Gid.lt y.id ⟨⟨nt,nr⟩,ni⟩) elt0 M ⟨⟨⟨nt,nr⟩,ni⟩,⟨⟨pt,pr⟩,pi⟩,nm⟩ by rw[HST.out];rfl)
    clear HST
    go_upto_region 5 with fail
    refine rqb ?_
    repeat(any_goals(first|go_big_quiet_step (fail)|quiet_step (fail)))
    refine qz fun wq hBq=> ?_
    have HOj:=hid (HO.out.kept (gby_below (r:=none) hBq) (Classical.em _))
    have HBw:=hid (HBr.out.trans (hBq.mono HBr.out.size))
    have HRGq:=hid (show wq.rangeAt rb (ro+k*7) [.int .i64 nt,.int .i64 nr,.int .i64 ni,.int .i64 pt,.int .i64 pr,.int .i64 pi,.string nm] from rangeB HRG.out hrbr hBq)
    have hszw:=HBw.out.size
    clear y3 y4 y5 x0 x1 x2 HRG HO HBr hBq hrbr
    go_upto_region 8 with(first
     |(refine wpList_load_mid rfl _ _ rfl rb (ro+k*7) rfl [.int .i64 nt,.int .i64 nr,.int .i64 ni,.int .i64 pt,.int .i64 pr,.int .i64 pi,.string nm] _ HRGq.out Tryz.underlying169 rfl (by kernel_rfl) ?_)
     |(at_builtin;refine wpList_append_lies _ rfl _ _ 112 rfl w.heap.size 169 i0 (.agg #[.int .i64 0,.int .i64 0,.int .i64 0,.int .i64 0,.int .i64 0,.int .i64 0,.string ⟨#[]⟩]) 7 64 Tryz.underlying112 hi hz0 hz1 hz2 rfl (by decide) (.slice A' m c') m _ rfl (by exact HOj.out.alloc _) ⟨wq.heap.size,0,none⟩ 1 1 [.int .i64 nt,.int .i64 nr,.int .i64 ni,.int .i64 pt,.int .i64 pr,.int .i64 pi,.string nm] rfl rfl (fun j y h=>cellsN wq [.int .i64 nt,.int .i64 nr,.int .i64 ni,.int .i64 pt,.int .i64 pr,.int .i64 pi,.string nm] 169 j y h) (oc_of (c:=#[.int .i64 nt,.int .i64 nr,.int .i64 ni,.int .i64 pt,.int .i64 pr,.int .i64 pi,.string nm]) rfl) (by decide) (by unfold maxLen;omega) (by omega) (by simp;omega) (wq.heap.size+1) (by simp) ?_;intro gq cap w5 hown hgrow ha hlt5;have HO5:=hid hown;have HB5:=hid ((HBw.out.alloc hszw _).grown hgrow (by simp;omega) (fun b hb=>(HOj.out.lt b hb).1));clear hown hgrow ha hlt5))
    clear HOj HBw HRGq hszw
    have hs9:slid M (⟨⟨⟨nt,nr⟩,ni⟩,⟨⟨pt,pr⟩,pi⟩,nm⟩:Elt) m=M++[⟨⟨⟨nt,nr⟩,ni⟩,⟨⟨pt,pr⟩,pi⟩,nm⟩]:=by rw[HML.out];exact slid_end _ _
    have HO6:=hid (show w5.ownsRow w.heap.size 169 7 (.slice (some ⟨gq,0,none⟩) (m+1) cap) (m+1) ((slid M (⟨⟨⟨nt,nr⟩,ni⟩,⟨⟨pt,pr⟩,pi⟩,nm⟩:Elt) m).flatMap eltL) by rw[hs9,List.flatMap_append];exact HO5.out)
    clear hs9 HO5
    generalize w5=w6 at *
    go_loopw [7] (fun i wx=>∃(q:Nat),i= .int .i64 q∧q≤m∧Hid (insIx (fun y:Elt=>Gid.lt y.id ⟨⟨nt,nr⟩,ni⟩) elt0 M q=insIx (fun y:Elt=>Gid.lt y.id ⟨⟨nt,nr⟩,ni⟩) elt0 M M.length)∧Hid (wx.ownsRow w.heap.size 169 7 (.slice (some ⟨gq,0,none⟩) (m+1) cap) (m+1) ((slid M (⟨⟨⟨nt,nr⟩,ni⟩,⟨⟨pt,pr⟩,pi⟩,nm⟩:Elt) q).flatMap eltL))∧Hid (Below w.heap.size w wx)) (fun i _=>(RowKit.intOf i).toNat)
    case atStart=>exact⟨m,rfl,Nat.le_refl _,hid (by rw[HML.out]),HO6,HB5⟩
    case round=>
     obtain⟨q,rfl,hq,HIX,HOq,HBq⟩:=hrel
     by_cases h0:0<q
     ·obtain⟨q,rfl⟩:∃p,q=p+1:=⟨q-1,by omega⟩
      have hqm:q+1≤M.length:=by rw[←HML.out];exact hq
      have hl1:m+1=(slid M (⟨⟨⟨nt,nr⟩,ni⟩,⟨⟨pt,pr⟩,pi⟩,nm⟩:Elt) (q+1)).length:=by rw[slid_len,←HML.out]
      obtain⟨g3,e3,-,hg3,hr3⟩:=ownN_range (f:=eltL) (fun _=>rfl) hl1 HOq.out (k:=q) (by omega) elt0
      cases e3
      obtain⟨g4,e4,-,-,hr4⟩:=ownN_range (f:=eltL) (fun _=>rfl) hl1 HOq.out (k:=q+1) (by omega) elt0
      cases e4
      rw[slid_pre hqm] at hr3
      rw[slid_at hqm] at hr4
      have hsw:=slid_swap (L:=M) (x:=(⟨⟨⟨nt,nr⟩,ni⟩,⟨⟨pt,pr⟩,pi⟩,nm⟩:Elt)) (z:=elt0) hqm
      obtain⟨y,hy⟩:∃y,y=M.getD q elt0:=⟨_,rfl⟩
      rw[←hy] at hr3 hsw
      obtain⟨b2,hb2⟩:∃b,b=(fun y:Elt=>Gid.lt y.id ⟨⟨nt,nr⟩,ni⟩) y:=⟨_,rfl⟩
      have HPY:=hid (show(fun y:Elt=>Gid.lt y.id ⟨⟨nt,nr⟩,ni⟩) (M.getD q elt0)=b2 by rw[←hy,hb2])
      clear hy
      obtain⟨⟨⟨t2,r2⟩,n2⟩,⟨⟨pt2,pr2⟩,pi2⟩,nm2⟩:=y
      have HR3:=hid (show wr.rangeAt gq (q*7) [.int .i64 t2,.int .i64 r2,.int .i64 n2,.int .i64 pt2,.int .i64 pr2,.int .i64 pi2,.string nm2] from hr3)
      have HR4:=hid (show wr.rangeAt gq ((q+1)*7) [.int .i64 nt,.int .i64 nr,.int .i64 ni,.int .i64 pt,.int .i64 pr,.int .i64 pi,.string nm] from hr4)
      have y0:=cell_regrown (w:=wr) (a:=⟨gq,q*7,none⟩) (v:= .int .i64 t2) (hr3 0 _ rfl)
      have y1:=cell_regrown (w:=wr) (a:=⟨gq,q*7+1,none⟩) (v:= .int .i64 r2) (hr3 1 _ rfl)
      have y2:=cell_regrown (w:=wr) (a:=⟨gq,q*7+2,none⟩) (v:= .int .i64 n2) (hr3 2 _ rfl)
      have x0:=cell_regrown (w:=wr) (a:=⟨gq,(q+1)*7,none⟩) (v:= .int .i64 nt) (hr4 0 _ rfl)
      have x1:=cell_regrown (w:=wr) (a:=⟨gq,(q+1)*7+1,none⟩) (v:= .int .i64 nr) (hr4 1 _ rfl)
      have x2:=cell_regrown (w:=wr) (a:=⟨gq,(q+1)*7+2,none⟩) (v:= .int .i64 ni) (hr4 2 _ rfl)
      have HSW:=hid hsw
      have k1:(0:Int)<(q:Int)+1:=by omega
      have k2:(0:Int)≤(q:Int):=by omega
      have k3:(q:Int)<(m:Int)+1:=by omega
      have k4:(q:Int)+1<(m:Int)+1:=by omega
      have k5:(0:Int)≤(q:Int)+1:=by omega
      have k6:IntKind.i64.wrap (q:Int)=(q:Int):=by rw[IntKind.wrap_i64];omega
      have HL1:=hid hl1
      have HBF:=fun W=>refcmpid_any nt nr ni t2 r2 n2 W
      obtain⟨zc,hzc⟩:∃z,z=rcmpD ⟨⟨nt,nr⟩,ni⟩ ⟨⟨t2,r2⟩,n2⟩:=⟨_,rfl⟩
      rw[←hzc] at HBF
      have hz3:decide (0<zc)=b2:=by rw[hzc,rcmpD_gt,hb2]
      clear hzc
      have cA:=fun d os=>Calls.regrown_of (HBF (grow (redrawn wr d) os))
      clear hr3 hr4 hb2 hsw hl1
      cases b2 with
      |false=>
       go_upto_region 8 with fail
       refine rqb ?_
       repeat(any_goals(first|go_big_quiet_step (with_reducible exact cA _ _)|quiet_step (with_reducible exact cA _ _)))
       refine qz fun wq hBq=> ?_
       have HS8:=hid (show bhW (L.take (k+1)) ⟨⟨xt,xr⟩,xi⟩=slid M (⟨⟨⟨nt,nr⟩,ni⟩,⟨⟨pt,pr⟩,pi⟩,nm⟩:Elt) (q+1) by rw[HS9.out];unfold insB;rw[←HIX.out,insIx_stop (.inr ⟨q,rfl,HPY.out⟩)])
       have HOx:=hid (HOq.out.kept (gby_below (r:=none) hBq) (Classical.em _))
       have HBx:=hid (HBq.out.trans (hBq.mono HBq.out.size))
       go_wp2
       go_roundw
       case rel=>exact⟨k+1,some ⟨gq,0,none⟩,cap,m+1,_,by omega,by go_num,rfl,by omega,HL1,hid HS8.out.symm,HOx,HBx⟩
       case measure=>(simp[RowKit.intOf];omega)
      | true=>
       go_upto_region 8 with fail
       refine rqb ?_
       repeat(any_goals(first|go_big_quiet_step (with_reducible exact cA _ _)|quiet_step (with_reducible exact cA _ _)))
       refine qz fun wq hBq=> ?_
       have HIX2:=hid (show insIx (fun y:Elt=>Gid.lt y.id ⟨⟨nt,nr⟩,ni⟩) elt0 M q=insIx (fun y:Elt=>Gid.lt y.id ⟨⟨nt,nr⟩,ni⟩) elt0 M M.length by rw[←HIX.out,insIx_go HPY.out])
       have HR3q:=hid (rangeB HR3.out hg3 hBq)
       have HR4q:=hid (rangeB HR4.out hg3 hBq)
       have HOq2:=hid (HOq.out.kept (gby_below (r:=none) hBq) (Classical.em _))
       have HBq2:=hid (HBq.out.trans (hBq.mono HBq.out.size))
       clear y0 y1 y2 x0 x1 x2 cA HOq hBq
       go_upto_region 10 with fail
       obtain⟨V1,hV1⟩:∃V,V=wq.drew.setCells gq ((q+1)*7) (#[.int .i64 t2,.int .i64 r2,.int .i64 n2,.int .i64 pt2,.int .i64 pr2,.int .i64 pi2,.string nm2]:Array Value).toList:=⟨_,rfl⟩
       have hP1:V1.ownsRow w.heap.size 169 7 (.slice (some ⟨gq,0,none⟩) (m+1) cap) (m+1) (((slid M (⟨⟨⟨nt,nr⟩,ni⟩,⟨⟨pt,pr⟩,pi⟩,nm⟩:Elt) (q+1)).set (q+1) (⟨⟨⟨t2,r2⟩,n2⟩,⟨⟨pt2,pr2⟩,pi2⟩,nm2⟩:Elt)).flatMap eltL)∧wq.drew.grownBy V1 (some gq):=by rw[hV1];exact ownN_put (f:=eltL) (fun _=>rfl) (by decide) HL1.out (show wq.drew.ownsRow _ _ _ _ _ _ from HOq2.out) (by omega) (⟨⟨⟨t2,r2⟩,n2⟩,⟨⟨pt2,pr2⟩,pi2⟩,nm2⟩:Elt)
       obtain⟨V2,hV2⟩:∃V,V=V1.setCells gq (q*7) (#[.int .i64 nt,.int .i64 nr,.int .i64 ni,.int .i64 pt,.int .i64 pr,.int .i64 pi,.string nm]:Array Value).toList:=⟨_,rfl⟩
       have hP2:V2.ownsRow w.heap.size 169 7 (.slice (some ⟨gq,0,none⟩) (m+1) cap) (m+1) ((((slid M (⟨⟨⟨nt,nr⟩,ni⟩,⟨⟨pt,pr⟩,pi⟩,nm⟩:Elt) (q+1)).set (q+1) (⟨⟨⟨t2,r2⟩,n2⟩,⟨⟨pt2,pr2⟩,pi2⟩,nm2⟩:Elt)).set q (⟨⟨⟨nt,nr⟩,ni⟩,⟨⟨pt,pr⟩,pi⟩,nm⟩:Elt)).flatMap eltL)∧V1.grownBy V2 (some gq):=by rw[hV2];exact ownN_put (f:=eltL) (fun _=>rfl) (by decide) (by rw[List.length_set];exact HL1.out) hP1.1 (by omega) (⟨⟨⟨nt,nr⟩,ni⟩,⟨⟨pt,pr⟩,pi⟩,nm⟩:Elt)
       obtain⟨g5,e5,ht5⟩:=own_there (show wq.drew.ownsRow _ _ _ _ _ _ from HOq2.out) (k:=q+1) (by omega)
       cases e5
       obtain⟨g6,e6,ht6⟩:=own_there hP1.1 (k:=q) (by omega)
       cases e6
       have HP2:=hid hP2.1
       have HG2:=hid (show wq.heap.size≤V2.heap.size∧(Below w.heap.size w wq→w.heap.size≤gq→Below w.heap.size w V2) from⟨Nat.le_trans (show wq.drew.heap.size≤V1.heap.size from hP1.2.size) hP2.2.size,fun hb hl=>(hb.drew.grown hP1.2 (by exact hb.size) (fun b e=>by cases e;exact hl)).grown hP2.2 (Nat.le_trans hb.size (show wq.drew.heap.size≤V1.heap.size from hP1.2.size)) (fun b e=>by cases e;exact hl)⟩)
       have HV1:=hid hV1
       have HV2:=hid hV2
       have HT5:=hid ht5
       have HT6:=hid ht6
       have HAY:=hid (show(#[.int .i64 t2,.int .i64 r2,.int .i64 n2,.int .i64 pt2,.int .i64 pr2,.int .i64 pi2,.string nm2]:Array Value).all (·.oneCell')=true by rw[←Array.all_toList];rfl)
       have HAX:=hid (show(#[.int .i64 nt,.int .i64 nr,.int .i64 ni,.int .i64 pt,.int .i64 pr,.int .i64 pi,.string nm]:Array Value).all (·.oneCell')=true by rw[←Array.all_toList];rfl)
       clear hP1 hP2 hV1 hV2 ht5 ht6
       refine wp_region_held (S:=fun _=>True) (by kernel_rfl) ?_
       try(change wpAnyH _ _ _ _ _ _ _ _ (World.drew _))
       refine tk 0 (.slice (some ⟨gq,0,none⟩) (m+1) cap) (trivial) ?_
       go_simp
       refine tk 1 (.int .i64 ((q:Int)+1)) (trivial) ?_
       go_simp
       refine tk 2 (.slice (some ⟨gq,0,none⟩) (m+1) cap) (trivial) ?_
       go_simp
       refine tk 3 (.int .i64 ((q:Int)+1)) (trivial) ?_
       go_simp
       refine tk 4 (.int .i64 (q:Int)) (trivial) ?_
       go_simp
       refine tk 5 (.slice (some ⟨gq,0,none⟩) (m+1) cap) (trivial) ?_
       go_simp
       refine tk 6 (.int .i64 ((q:Int)+1)) (trivial) ?_
       go_simp
       refine tk 7 (.int .i64 (q:Int)) (trivial) ?_
       go_simp
       refine tk 8 (.pointer (some ⟨gq,q*7,none⟩)) (trivial) ?_
       go_simp
       refine tk 10 (.slice (some ⟨gq,0,none⟩) (m+1) cap) (trivial) ?_
       go_simp
       refine tk 11 (.int .i64 ((q:Int)+1)) (trivial) ?_
       go_simp
       refine tk 12 (.pointer (some ⟨gq,(q+1)*7,none⟩)) (trivial) ?_
       go_simp
       refine wpAnyH_ready (rs:=[9,13]) (by kernel_rfl) (by simp) ?_
       refine AllReadyH.cons rfl (fun K hK=> ?_) (AllReadyH.cons rfl (fun K hK=> ?_) AllReadyH.nil)
       focus
        refine step_load_mid rfl _ _ rfl gq (q*7) rfl [.int .i64 t2,.int .i64 r2,.int .i64 n2,.int .i64 pt2,.int .i64 pr2,.int .i64 pi2,.string nm2] _ (show wq.drew.rangeAt _ _ _ from HR3q.out) Tryz.underlying169 rfl (by kernel_rfl) ?_
        refine hK.out _ _ (trivial) (fun _=> ?_)
        clear hK K
        refine wpAnyH_ready (rs:=[13]) (by kernel_rfl) (by simp) ?_
        refine AllReadyH.cons rfl (fun K hK=> ?_) AllReadyH.nil
        refine step_load_mid rfl _ _ rfl gq ((q+1)*7) rfl [.int .i64 nt,.int .i64 nr,.int .i64 ni,.int .i64 pt,.int .i64 pr,.int .i64 pi,.string nm] _ (show wq.drew.rangeAt _ _ _ from HR4q.out) Tryz.underlying169 rfl (by kernel_rfl) ?_
        refine hK.out _ _ (trivial) (fun _=> ?_)
        clear hK K
       rotate_left
       focus
        refine step_load_mid rfl _ _ rfl gq ((q+1)*7) rfl [.int .i64 nt,.int .i64 nr,.int .i64 ni,.int .i64 pt,.int .i64 pr,.int .i64 pi,.string nm] _ (show wq.drew.rangeAt _ _ _ from HR4q.out) Tryz.underlying169 rfl (by kernel_rfl) ?_
        refine hK.out _ _ (trivial) (fun _=> ?_)
        clear hK K
        refine wpAnyH_ready (rs:=[9]) (by kernel_rfl) (by simp) ?_
        refine AllReadyH.cons rfl (fun K hK=> ?_) AllReadyH.nil
        refine step_load_mid rfl _ _ rfl gq (q*7) rfl [.int .i64 t2,.int .i64 r2,.int .i64 n2,.int .i64 pt2,.int .i64 pr2,.int .i64 pi2,.string nm2] _ (show wq.drew.rangeAt _ _ _ from HR3q.out) Tryz.underlying169 rfl (by kernel_rfl) ?_
        refine hK.out _ _ (trivial) (fun _=> ?_)
        clear hK K
       all_goals
        refine tk 14 (.pointer (some ⟨gq,(q+1)*7,none⟩)) (trivial) ?_
        go_simp
        refine wpAnyH_ready (rs:=[15]) (by kernel_rfl) (by simp) ?_
        refine AllReadyH.cons rfl (fun K hK=> ?_) AllReadyH.nil
        refine step_store_mid rfl _ _ _ rfl gq ((q+1)*7) #[.int .i64 t2,.int .i64 r2,.int .i64 n2,.int .i64 pt2,.int .i64 pr2,.int .i64 pi2,.string nm2] (by rfl) (by rfl) HT5.out (by kernel_rfl) HAY.out ?_
        rw[←HV1.out]
        refine hK.out _ _ (trivial) (fun _=> ?_)
        clear hK K
        refine tk 16 (.pointer (some ⟨gq,q*7,none⟩)) (trivial) ?_
        go_simp
        refine wpAnyH_ready (rs:=[17]) (by kernel_rfl) (by simp) ?_
        refine AllReadyH.cons rfl (fun K hK=> ?_) AllReadyH.nil
        refine step_store_mid rfl _ _ _ rfl gq (q*7) #[.int .i64 nt,.int .i64 nr,.int .i64 ni,.int .i64 pt,.int .i64 pr,.int .i64 pi,.string nm] (by rfl) (by rfl) HT6.out (by kernel_rfl) HAX.out ?_
        rw[←HV2.out]
        refine hK.out _ _ (trivial) (fun _=> ?_)
        clear hK K
        refine wpAnyH_done (by kernel_rfl) ?_ _
        go_simp
        go_wp2
        go_roundw
        case rel=>exact⟨q,by go_num,by omega,HIX2,hid (by rw[←HSW.out];exact HP2.out),hid (HG2.out.2 HBq2.out (HOq2.out.lt gq rfl).1)⟩
        case measure=>(simp[RowKit.intOf];try omega)
     ·obtain rfl:q=0:=by omega
      go_upto_region 8 with fail
      refine rqb ?_
      repeat(any_goals(first|go_big_quiet_step (fail)|quiet_step (fail)))
      refine qz fun wq hBq=> ?_
      have HS8:=hid (show bhW (L.take (k+1)) ⟨⟨xt,xr⟩,xi⟩=slid M (⟨⟨⟨nt,nr⟩,ni⟩,⟨⟨pt,pr⟩,pi⟩,nm⟩:Elt) 0 by rw[HS9.out];unfold insB;rw[←HIX.out];rfl)
      have HL1:=hid (show m+1=(slid M (⟨⟨⟨nt,nr⟩,ni⟩,⟨⟨pt,pr⟩,pi⟩,nm⟩:Elt) 0).length by rw[slid_len,←HML.out])
      have HOx:=hid (HOq.out.kept (gby_below (r:=none) hBq) (Classical.em _))
      have HBx:=hid (HBq.out.trans (hBq.mono HBq.out.size))
      go_wp2
      go_roundw
      case rel=>exact⟨k+1,some ⟨gq,0,none⟩,cap,m+1,_,by omega,by go_num,rfl,by omega,HL1,hid HS8.out.symm,HOx,HBx⟩
      case measure=>(simp[RowKit.intOf];omega)
  ·obtain rfl:k=L.length:=by omega
   have i2:¬(L.length:Int)<(L.length:Int):=by omega
   have HM9:=hid (show M=bhW L ⟨⟨xt,xr⟩,xi⟩ by have h9:=HM.out;rw[List.take_length] at h9;exact h9)
   obtain rfl:=HXB.out
   go_wp2
   go_ret
   refine⟨A',c',by rw[←HM9.out,←HML.out];rfl,?_,HB0.out.trans (HBr.out.mono HB0.out.size)⟩
   rw[←HM9.out,←HML.out];exact own_base HO.out HB0.out.size
theorem flat_cells {α:Type} {f:α→List Value} {z:α} {s b:Nat} {w:World} (hf:∀x,(f x).length=s):∀(L:List α) (o:Nat),(∀k,k<L.length→w.rangeAt b (o+k*s) (f (L.getD k z)))→∀j u,(L.flatMap f)[j]? =some u→w.cell? ⟨b,o+j,none⟩=some u
 | [],o,h,j,u,hj=>by simp at hj
 | x::L,o,h,j,u,hj=>by
  rw[List.flatMap_cons] at hj
  by_cases hjs:j<s
  ·rw[List.getElem?_append_left (by rw[hf];exact hjs)] at hj
   have h0:=h 0 (by simp) j u hj
   rwa[Nat.zero_mul,Nat.add_zero] at h0
  ·rw[List.getElem?_append_right (by rw[hf];omega),hf] at hj
   have h1:=flat_cells hf L (o+s) (fun k hk=>by
    have h2:=h (k+1) (by simp;omega)
    rw[show o+(k+1)*s=o+s+k*s by rw[Nat.add_mul];omega] at h2
    exact h2) (j-s) u hj
   rwa[show o+s+(j-s)=o+j by omega] at h1
theorem RowF.flat {α:Type} {w:World} {S:Nat→Prop} {A:Option Addr} {s:Nat} {f:α→List Value} {z:α} {L:List α} (h:RowF w S A s f z L) (hf:∀x,(f x).length=s):(A=none→L.length=0)∧∀ad,A=some ad→∀j u,(L.flatMap f)[j]? =some u→w.cell? (ad.add j)=some u:=by
 refine⟨fun e=> ?_,fun ad e j u hj=> ?_⟩
 ·by_cases h0:0<L.length
  ·obtain⟨b,o,e2,-⟩:=h 0 h0
   rw[e] at e2;cases e2
  ·omega
 ·by_cases h0:0<L.length
  ·obtain⟨b,o,e2,-⟩:=h 0 h0
   rw[e] at e2;cases e2
   have h9:=flat_cells (z:=z) (w:=w) (b:=b) hf L o (fun k hk=>by
    obtain⟨b',o',e3,-,-,hr⟩:=h.range hf hk
    rw[e] at e3;cases e3
    exact hr) j u hj
   unfold Addr.add
   split
   ·rename_i hj0;rw[hj0,Nat.add_zero] at h9;exact h9
   ·exact h9
  ·have:L=[]:=List.length_eq_zero_iff.1 (by omega)
   subst this
   simp at hj
theorem run_append_none {P:Program} {w:World} (base:Nat) (t ty e:TypeId) (i:TypeInfo) (size c:Nat) (ht:P.underlying t=some (.slice e)) (hi:P.info? e=some i)
  (v:Value) (n:Nat) (xs:List Value) (hown:w.ownsRow base e size v n xs):
  (Builtin.append_ #[t,t] ty #[v,.slice none 0 c]).run P w= .ok v w:=by
 rcases hown.2 with⟨rfl,rfl⟩|⟨g,cap,cur,rfl,_,_,hnc,_⟩
 ·simp[Builtin.append_,run_underlying ht,Go.sizeOf,typeInfo,hi,Builtin.lenOf,Builtin.firstCells]
 ·simp[Builtin.append_,run_underlying ht,Go.sizeOf,typeInfo,hi,Builtin.lenOf,Builtin.firstCells,hnc,storeCells]
theorem wpList_append_flat {P:Program} {w:World} {ops:Array Oper} {rest:List Oper} {o:Oper} {a:Act} {Q:Exit→Act→World→Prop} (hgd:o.guard=none) (s x:Operand) (t:TypeId)
  (ho:o.op= .call { callee:= .builtin .append,args:=#[s,x],argTypes:=#[t,t] })
  (base:Nat) (e:TypeId) (i:TypeInfo) (z:Value) (size bytes:Nat) (ht:P.underlying t=some (.slice e)) (hi:P.info? e=some i) (hz:i.zero=some z)
  (hsize:i.size=size) (hby:i.bytes=bytes) (hzs:z.cells.size=size) (hsz:0<size)
  (v:Value) (n:Nat) (xs:List Value) (hs:a.eval s=v) (hown:w.ownsRow base e size v n xs)
  (A:Option Addr) (m c:Nat) (news:List Value) (hx:a.eval x= .slice A m c) (hl:news.length=m*size) (hn:(A=none→m=0)∧∀ad,A=some ad→∀j u,news[j]? =some u→w.cell? (ad.add j)=some u) (h1:∀u∈news,u.oneCell'=true)
  (h63:n+m≤maxLen) (hbytes:(n+m)*bytes≤140737488355328) (hbase:base≤w.heap.size)
  (h:∀A' c' w',w'.ownsRow base e size (.slice A' (n+m) c') (n+m) (xs++news)→w.grownBy w' v.ownBlock→wpList P ops Q rest (a.put o.dst (.slice A' (n+m) c')) w'):wpList P ops Q (o::rest) a w:=by
 cases A with
 |none=>
  obtain rfl:=hn.1 rfl
  have hnil:news=[]:=List.length_eq_zero_iff.1 (by omega)
  subst hnil
  obtain⟨A9,c9,rfl⟩:=row_slice hown
  have h9:=h A9 c9 w (by rw[Nat.add_zero,List.append_nil];exact hown) ⟨rfl,rfl,rfl,Nat.le_refl _,fun _ _ _=>rfl⟩
  rw[Nat.add_zero] at h9
  refine wpList_plain hgd fun K hK=> ?_
  have hrun:=run_append_none (P:=P) (w:=w) base t o.type e i size c ht hi _ n xs hown
  unfold Oper.wp
  simp[execOp,ho,resolve,invoke,builtin,hs,hx,hrun,Result.andThen]
  exact hK _ _ h9
 |some ad=>
  refine wpList_append_own w hgd s x t ho base e i z size bytes ht hi hz hsize hby hzs hsz v n xs hs hown ad m c news hx hl (hn.2 ad rfl) h1 h63 hbytes hbase fun v' w' h2 h3 _=> ?_
  obtain⟨A9,c9,rfl⟩:=row_slice h2
  exact h A9 c9 w' h2 h3
theorem RowF.tail {α:Type} {w:World} {S:Nat→Prop} {b o s:Nat} {f:α→List Value} {z x:α} {L:List α} (h:RowF w S (some ⟨b,o,none⟩) s f z (x::L)):RowF w S (some ⟨b,o+1*s,none⟩) s f z L:=by
 intro k hk
 obtain⟨b',o',e,hS,hb,hc⟩:=h (k+1) (by simp;omega)
 cases e
 refine⟨b,o+1*s,rfl,hS,hb,fun j hj=> ?_⟩
 have h2:=hc j hj
 rw[show o+(k+1)*s=o+1*s+k*s by rw[Nat.add_mul];omega] at h2
 exact h2
theorem order_any (L:List Rn) (A:Option Addr) (c:Nat) (S:Nat→Prop) (w00:World) (hl:L.length≤90) (hh:∀p∈L,p.tx.size≤1000∧0<p.el.s.t∧0≤p.el.i∧p.el.i≤1000000) (hR:RowF w00 S A 7 rnL rn0 L)
  (hN:((eltsW L).map (·.id)).Nodup) (hZ:∀y∈eltsW L,y.id≠ .zero):
  Calls Tryz.prog 175 #[.slice A L.length c] w00 fun e w'=>∃A' c',e= .returned (.slice A' (ordW (eltsW L)).length c')∧(ordW (eltsW L)).length≤90000∧w'.ownsRow w00.heap.size 169 7 (.slice A' (ordW (eltsW L)).length c') (ordW (eltsW L)).length ((ordW (eltsW L)).flatMap eltL)∧Below w00.heap.size w00 w':=by
 obtain⟨i0,hi,hz0,hz1,hz2⟩:=info_parts info_elt
 have HEL:=hid (elements9_x L A c S w00 (by omega) hh hR)
 generalize hE:eltsW L=E at *
 clear hR hh hE
 go_enter Tryz.func175,Tryz.ntmps175
 go_upto_region 2 with(go_at_call 183;refine HEL.out.mono ?_;rintro e w1 ⟨A1,c1,m1,M1,rfl,hm1,hM1,hm2,hO1,hB1⟩;have HO1:=hid hO1;have HB1:=hid hB1;clear hO1 hB1)
 subst hM1 hm1
 obtain⟨eb,HE1,heb1,heb2⟩:=(ownN_rowF (z:=elt0) (f:=eltL) (fun _=>rfl) rfl HO1.out).one
 have HE1:=hid HE1
 have HBH:=hid (fun (x y z:Int) (W:World) (hB:Below w1.heap.size w1 W)=>behind_any M1 A1 c1 _ x y z W (by omega) (HE1.out.agr (Agr.below hB)))
 clear heb1 heb2 HEL
 go_upto_region 4 with(go_at_call 198;refine(HBH.out 0 0 0 w1 (Below.refl _ _)).mono ?_;rintro e w2 ⟨A2,c2,rfl,hO2,hB2⟩;have HO2:=hid hO2;have HB2:=hid hB2;clear hO2 hB2)
 obtain⟨wb2,HW2,hwb1,hwb2⟩:=(ownN_rowF (z:=elt0) (f:=eltL) (fun _=>rfl) rfl HO2.out).one
 have hcap2:(bhW M1 ⟨⟨0,0⟩,0⟩).length≤c2:=by
  rcases HO2.out.2 with⟨e1,e2⟩|⟨g,cap,cur,e1,e2,e3,e4,e5⟩
  ·rw[e2];exact Nat.zero_le _
  ·injection e1 with e7 e8 e9;omega
 have HST:=hid (Wait.start hN)
 have HW2:=hid HW2
 have HWB2:=hid hwb2
 clear hwb1 hwb2 HO2
 go_loopw [4,5] (fun o wt wr=>∃(Ao:Option Addr) (co m:Nat) (O W:List Elt) (Aw:Option Addr) (cw wb:Nat),o= .slice Ao m co∧wt= .slice Aw W.length cw∧W.length≤cw∧Hid (m=O.length)∧Hid (Wait M1 O W)∧Hid (ordW M1=O++ordF M1 (M1.length-O.length) W)∧Hid (wr.ownsRow w1.heap.size 169 7 (.slice Ao m co) m (O.flatMap eltL))∧Hid (RowF wr (fun b=>b=wb) Aw 7 eltL elt0 W)∧Hid ((Value.slice Ao m co).ownBlock≠some wb)∧Hid (0<W.length→wb<wr.heap.size)∧Hid (Below w1.heap.size w1 wr)) (fun o _ _=>M1.length-(match o with| .slice _ m _=>m|_=>0))
 case atStart=>exact⟨none,0,0,[],bhW M1 ⟨⟨0,0⟩,0⟩,A2,c2,wb2,rfl,rfl,hcap2,hid rfl,HST,hid rfl,hid (World.ownsRow_nil _ _ _ _),HW2,hid (by intro h;cases h),HWB2,HB2⟩
 case round=>
  clear HST HW2 HWB2 HB2 hcap2
  obtain⟨Ao,co,m,O,W,Aw,cw,wb,rfl,rfl,hcw,HM,HWT,HRD,HO,HW,NOW,HWB,HB⟩:=hrel
  have hlen:=HWT.out.len
  cases W with
  |nil=>
   have HE9:=hid (show ordW M1=O by rw[HRD.out,ord_end,List.append_nil])
   go_wp2
   go_ret
   refine⟨Ao,co,by rw[HE9.out,←HM.out];rfl,by rw[HE9.out];simp at hlen;omega,?_,HB1.out.trans (HB.out.mono HB1.out.size)⟩
   rw[HE9.out,←HM.out];exact own_base HO.out HB1.out.size
  | cons x W=>
   have HRD2:=hid (show ordW M1=(O++[x])++ordF M1 (M1.length-(O++[x]).length) (bhW M1 x.id++W) by rw[HRD.out,ord_step HWT.out,List.append_assoc];rfl)
   have HWT2:=hid (HWT.out.step hN hZ)
   obtain⟨b,o,rfl,rfl,hb,hr⟩:=HW.out.range (fun _=>rfl) (show 0<(x::W).length by simp)
   have HWL:=hid (HW.out.tail)
   have hr2:wr.rangeAt b o (eltL x):=by rw[Nat.zero_mul,Nat.add_zero] at hr;exact hr
   obtain⟨⟨⟨nt,nr⟩,ni⟩,⟨⟨pt,pr⟩,pi⟩,nm⟩:=x
   have HRX:=hid (show wr.rangeAt b o [.int .i64 nt,.int .i64 nr,.int .i64 ni,.int .i64 pt,.int .i64 pr,.int .i64 pi,.string nm] from hr2)
   have hn1:(1:Int)≤((W.length+1:Nat):Int):=by omega
   rw[List.length_cons] at hlen hcw ⊢
   clear hr hr2 HRD HWT
   have hn0:(0:Int)<(W.length:Int)+1:=by omega
   go_upto_region 6 with(first
    |(refine wpList_load_mid rfl _ _ rfl b o rfl [.int .i64 nt,.int .i64 nr,.int .i64 ni,.int .i64 pt,.int .i64 pr,.int .i64 pi,.string nm] _ HRX.out Tryz.underlying169 rfl (by kernel_rfl) ?_)
    |(refine store_last rfl _ _ _ rfl _ _ _ _ rfl ?_ rfl ?_ ?_ ?_ ?_;(focus(simp;done));kernel_rfl;rfl;rfl))
   have hbx:Below wr.heap.size wr (wr.alloc (.cells #[.int .i64 nt,.int .i64 nr,.int .i64 ni,.int .i64 pt,.int .i64 pr,.int .i64 pi,.string nm] 169)):=(Below.refl _ _).alloc (Nat.le_refl _) _
   have HCX:=hid (heap_alloc_new wr (.cells #[.int .i64 nt,.int .i64 nr,.int .i64 ni,.int .i64 pt,.int .i64 pr,.int .i64 pi,.string nm] 169))
   have HBX:=hid (HB.out.trans (hbx.mono HB.out.size))
   have HOX:=hid (HO.out.kept (gby_below (r:=none) hbx) (Classical.em _))
   have HWX:=hid (HWL.out.below hbx)
   have NXO:=hid (show(Value.slice Ao m co).ownBlock≠some wr.heap.size from fun e=>by have:=(HO.out.lt _ e).2;omega)
   have hbX:=Nat.lt_of_lt_of_le hb hbx.size
   generalize hW:wr.alloc (.cells #[.int .i64 nt,.int .i64 nr,.int .i64 ni,.int .i64 pt,.int .i64 pr,.int .i64 pi,.string nm] 169)=w3 at *
   generalize hxb:wr.heap.size=xB at *
   clear hW hxb hbx HB HO HWL HRX HWB
   have hc1:(1:Int)≤(cw:Int):=by omega
   have hc2:(W.length:Int)+1≤(cw:Int):=by omega
   have hc3:(1:Int)≤(W.length:Int)+1:=by omega
   go_upto_region 7 with fail
   have HWA:=hid (show RowF w3 (fun b_1=>b_1=b) (if cw=1 then some ⟨b,o,none⟩ else some ⟨b,o+7,none⟩) 7 eltL elt0 W by
    split
    ·have:W=[]:=List.length_eq_zero_iff.1 (by omega)
     rw[this];exact RowF.nil
    ·exact HWX.out)
   generalize (if cw=1 then some (⟨b,o,none⟩:Addr) else some ⟨b,o+7,none⟩)=Aw at *
   have hsz3:=HBX.out.size
   have hml:m≤90000:=by rw[HM.out];omega
   clear HWX hc1 hc2 hc3 hn0 hn1
   go_upto_region 9 with(first
    |(refine load_at rfl _ _ rfl xB _ _ _ rfl HCX.out Tryz.underlying169 rfl ?_ ?_;kernel_rfl)
    |(at_builtin;refine wpList_append_lies _ rfl _ _ 112 rfl w1.heap.size 169 i0 (.agg #[.int .i64 0,.int .i64 0,.int .i64 0,.int .i64 0,.int .i64 0,.int .i64 0,.string ⟨#[]⟩]) 7 64 Tryz.underlying112 hi hz0 hz1 hz2 rfl (by decide) (.slice Ao m co) m _ rfl (by exact HOX.out.alloc _) ⟨w3.heap.size,0,none⟩ 1 1 [.int .i64 nt,.int .i64 nr,.int .i64 ni,.int .i64 pt,.int .i64 pr,.int .i64 pi,.string nm] rfl rfl (fun j y h=>cellsN w3 [.int .i64 nt,.int .i64 nr,.int .i64 ni,.int .i64 pt,.int .i64 pr,.int .i64 pi,.string nm] 169 j y h) (oc_of (c:=#[.int .i64 nt,.int .i64 nr,.int .i64 ni,.int .i64 pt,.int .i64 pr,.int .i64 pi,.string nm]) rfl) (by decide) (by unfold maxLen;omega) (by omega) (by simp;omega) (w3.heap.size+1) (by simp) ?_;intro gq cap w5 hown hgrow hat hlt5))
   have hsA:(w3.alloc (.cells #[.int .i64 nt,.int .i64 nr,.int .i64 ni,.int .i64 pt,.int .i64 pr,.int .i64 pi,.string nm] 169)).heap.size=w3.heap.size+1:=by simp
   have hal:Below w3.heap.size w3 (w3.alloc (.cells #[.int .i64 nt,.int .i64 nr,.int .i64 ni,.int .i64 pt,.int .i64 pr,.int .i64 pi,.string nm] 169)):=(Below.refl _ _).alloc (Nat.le_refl _) _
   have HO5:=hid (show w5.ownsRow w1.heap.size 169 7 (.slice (some ⟨gq,0,none⟩) (m+1) cap) (m+1) ((O++[(⟨⟨⟨nt,nr⟩,ni⟩,⟨⟨pt,pr⟩,pi⟩,nm⟩:Elt)]).flatMap eltL) by rw[List.flatMap_append];exact hown)
   have HB5:=hid ((HBX.out.alloc hsz3 (.cells #[.int .i64 nt,.int .i64 nr,.int .i64 ni,.int .i64 pt,.int .i64 pr,.int .i64 pi,.string nm] 169)).grown hgrow (by rw[hsA];omega) (fun b hb=>(HOX.out.lt b hb).1))
   have HX5:=hid ((hgrow.block xB (by rw[hsA];have:=lt_of_block HCX.out;omega) (fun e=>NXO.out e.symm)).trans ((hal.block _ (lt_of_block HCX.out)).trans HCX.out))
   have HW5:=hid ((HWA.out.below hal).agr (Agr.grown hgrow (fun g e1 e2=>NOW.out (e1.trans (congrArg some e2)))))
   have NOB:=hid (show gq≠b from fun e=>by
    rcases hat with h|h
    ·exact NOW.out (by rw[h,e])
    ·omega)
   have hb5:b<w5.heap.size:=Nat.lt_of_lt_of_le (show b<(w3.alloc (.cells #[.int .i64 nt,.int .i64 nr,.int .i64 ni,.int .i64 pt,.int .i64 pr,.int .i64 pi,.string nm] 169)).heap.size by rw[hsA];omega) hgrow.size
   have HM5:=hid (show m+1=(O++[(⟨⟨⟨nt,nr⟩,ni⟩,⟨⟨pt,pr⟩,pi⟩,nm⟩:Elt)]).length by rw[List.length_append,←HM.out];rfl)
   clear hown hgrow hat hlt5 hal hsA HCX HOX HBX HWA NXO NOW HM hsz3
   have HR5:=hid (show w5.rangeAt xB 0 [.int .i64 nt,.int .i64 nr,.int .i64 ni,.int .i64 pt,.int .i64 pr,.int .i64 pi,.string nm] from range_of_block HX5.out)
   have HBH5:=hid (HBH.out nt nr ni w5 HB5.out)
   have HRI:=hid (show w5.rangeAt xB 0 [.int .i64 nt,.int .i64 nr,.int .i64 ni] from range_mid (pre:=[]) (mid:=[.int .i64 nt,.int .i64 nr,.int .i64 ni]) (post:=[.int .i64 pt,.int .i64 pr,.int .i64 pi,.string nm]) HR5.out)
   generalize hbh:bhW M1 (⟨⟨⟨nt,nr⟩,ni⟩,⟨⟨pt,pr⟩,pi⟩,nm⟩:Elt).id=BW at *
   have HLB:=hid (flat_len (f:=eltL) (s:=7) (fun _=>rfl) BW)
   have HLW:=hid (flat_len (f:=eltL) (s:=7) (fun _=>rfl) W)
   have HUB:=hid (show ∀u∈BW.flatMap eltL,u.oneCell'=true from fun u hu=>by obtain⟨x,-,hx⟩:=List.mem_flatMap.1 hu;exact oc_eltL x u hx)
   have HUW:=hid (show ∀u∈W.flatMap eltL,u.oneCell'=true from fun u hu=>by obtain⟨x,-,hx⟩:=List.mem_flatMap.1 hu;exact oc_eltL x u hx)
   have hbl:BW.length≤90000:=by
    rw[←hbh]
    have h9:=bh_len M1 (⟨⟨⟨nt,nr⟩,ni⟩,⟨⟨pt,pr⟩,pi⟩,nm⟩:Elt).id []
    rw[List.length_nil,Nat.zero_add] at h9
    exact Nat.le_trans h9 (by omega)
   have hwl:W.length≤90000:=by omega
   clear hbh
   go_wp2_with (first
    |(at_builtin;refine wpList_append_flat rfl _ _ 112 rfl w6.heap.size 169 i0 (.agg #[.int .i64 0,.int .i64 0,.int .i64 0,.int .i64 0,.int .i64 0,.int .i64 0,.string ⟨#[]⟩]) 7 64 Tryz.underlying112 hi hz0 hz1 hz2 rfl (by decide) (.slice A7 BW.length c7) BW.length _ rfl HO7.out Aw W.length _ (W.flatMap eltL) rfl HLW.out HN7.out HUW.out (by unfold maxLen;omega) (by omega) hsz7 ?_;intro A8 c8 w8 hown hgrow;have HO8:=hid (show w8.ownsRow w6.heap.size 169 7 (.slice A8 (BW++W).length c8) (BW++W).length ((BW++W).flatMap eltL) by rw[List.length_append,List.flatMap_append];exact hown);have HB8:=hid (HB7.out.grown hgrow hsz57 (fun b hb=>Nat.le_trans hsz56 (HO7.out.lt b hb).1));clear hown hgrow)
    |(at_builtin;refine wpList_append_flat rfl _ _ 112 rfl w6.heap.size 169 i0 (.agg #[.int .i64 0,.int .i64 0,.int .i64 0,.int .i64 0,.int .i64 0,.int .i64 0,.string ⟨#[]⟩]) 7 64 Tryz.underlying112 hi hz0 hz1 hz2 rfl (by decide) (.slice none 0 0) 0 _ rfl (World.ownsRow_nil _ _ _ _) A6 BW.length c6 (BW.flatMap eltL) rfl HLB.out (row_at HO6.out) HUB.out (by unfold maxLen;omega) (by omega) (Nat.le_refl _) ?_;intro A7 c7 w7 hown hgrow;rw[Nat.zero_add] at hown ⊢;have HO7:=hid hown;have HB7:=hid (HB6.out.grown hgrow hsz56 (fun b hb=>by cases hb));have hsz7:=hgrow.size;have hsz57:=Nat.le_trans hsz56 hsz7;have HN7:=hid ((HW5.out.below HB7.out).flat (fun _=>rfl));clear hown hgrow)
    |(refine wpList_load_mid rfl _ _ rfl xB 0 rfl [.int .i64 nt,.int .i64 nr,.int .i64 ni] _ HRI.out Tryz.underlying108 rfl (by kernel_rfl) ?_)
    |(go_at_call 198;refine HBH5.out.mono ?_;rintro e w6 ⟨A6,c6,rfl,hO6,hB6⟩;have HO6:=hid hO6;have HB6:=hid hB6;have hsz56:=hB6.size;clear hO6 hB6))
   obtain⟨wb8,HW8,hwb1,hwb2⟩:=(ownN_rowF (z:=elt0) (f:=eltL) (fun _=>rfl) rfl HO8.out).one
   have hcap8:(BW++W).length≤c8:=row_cap HO8.out
   have hgq:=(HO5.out.lt gq rfl).2
   have HB9:=hid (HB5.out.trans (HB8.out.mono HB5.out.size))
   have HO9:=hid (HO5.out.kept (gby_below (r:=none) HB8.out) (Classical.em _))
   have HW9:=hid HW8
   have HWB9:=hid hwb2
   have NO9:=hid (show(Value.slice (some ⟨gq,0,none⟩) (m+1) cap).ownBlock≠some wb8 from fun e=>by have e2:gq=wb8:=Option.some.inj e;omega)
   go_roundw
   case rel=>exact⟨some ⟨gq,0,none⟩,cap,m+1,O++[(⟨⟨⟨nt,nr⟩,ni⟩,⟨⟨pt,pr⟩,pi⟩,nm⟩:Elt)],BW++W,A8,c8,wb8,rfl,by rw[List.length_append],hcap8,HM5,HWT2,HRD2,HO9,HW9,NO9,HWB9,HB9⟩
   case measure=>(have h9:=HM5.out;have h8:=HWT2.out.len;simp at h9 h8 ⊢;omega)
end
section
open Go.RowKit Go.Lib Go.Sort
set_option linter.unusedVariables false
theorem one_run {L M:List (Grp×GrX)} (h:Perm2 L M) (x:Gid) {p:Grp×GrX} (hp:p∈L):opsR x p.1.ops=[]∨∃r,opsR x p.1.ops=[r]∧r.el=⟨p.1.s,0⟩:=by
 have hl:(opsR x p.1.ops).length≤1:=by
  unfold opsR
  rw[List.length_map]
  exact Nat.le_trans (List.length_filter_le _ _) (h.one p hp)
 cases e:opsR x p.1.ops with
 |nil=>exact .inl rfl
 |cons r t=>
  rw[e] at hl
  have ht:t=[]:=List.eq_nil_of_length_eq_zero (by simp at hl;simpa using hl)
  refine .inr ⟨r,by rw[ht],?_⟩
  have hr:r∈opsR x p.1.ops:=by rw[e];simp
  unfold opsR at hr
  obtain⟨o,ho,rfl⟩:=List.mem_map.1 hr
  obtain⟨ho1,ho2⟩:=List.mem_filter.1 ho
  rw[Bool.and_eq_true,decide_eq_true_eq] at ho2
  exact op_elem (opB_one (h.chk p hp) (h.one p hp) ho1) ho2.1
theorem flat_sub {f:Grp×GrX→List Rn}:∀{L:List (Grp×GrX)},(∀p∈L,f p=[]∨∃r,f p=[r]∧r.el=⟨p.1.s,0⟩)→((L.flatMap f).map (·.el.s)).Sublist (L.map (·.1.s))
 | [],_=>List.Sublist.refl _
 | p::L,h=>by
  have ih:=flat_sub (L:=L) fun q hq=>h q (List.mem_cons_of_mem _ hq)
  rw[List.flatMap_cons,List.map_append,List.map_cons]
  rcases h p (by simp) with e|⟨r,e,e2⟩
  ·rw[e];exact ih.cons _
  ·rw[e]
   show(r.el.s::_).Sublist _
   rw[e2]
   exact ih.cons_cons _
theorem runs_el {L M:List (Grp×GrX)} (h:Perm2 L M) (x:Gid):((runsL x L).map (·.el.s)).Nodup:=(flat_sub fun p hp=>one_run h x hp).nodup h.nd
theorem runs_perm {L M:List (Grp×GrX)} (h:Perm2 L M) (x:Gid):(runsL x L).Perm (runsL x M):=by
 have e:∀K:List (Grp×GrX),runsL x K=(K.map Prod.fst).flatMap fun g=>opsR x g.ops:=fun K=>by
  unfold runsL;rw[List.flatMap_map]
 rw[e,e]
 exact h.pm.flatMap_right _
theorem eltsR_id {r:Rn} {y:Elt} (h:y∈eltsR r):∃k:Nat,y.id=⟨r.el.s,r.el.i+(k:Int)⟩:=by
 unfold eltsR at h
 obtain⟨k,-,rfl⟩:=List.mem_map.1 h
 exact⟨k,rfl⟩
theorem eltsR_nodup (r:Rn):((eltsR r).map (·.id)).Nodup:=by
 unfold eltsR
 rw[List.map_map,List.nodup_iff_pairwise_ne,List.pairwise_map]
 refine(List.nodup_iff_pairwise_ne.1 List.nodup_range).imp fun {a b} h e=>h ?_
 injection e with e1 e2
 omega
theorem elts_nodup:∀{R:List Rn},(R.map (·.el.s)).Nodup→((R.flatMap eltsR).map (·.id)).Nodup
 | [],_=>List.nodup_nil
 |r::R,h=>by
  rw[List.map_cons,List.nodup_cons] at h
  rw[List.flatMap_cons,List.map_append,List.nodup_append]
  refine⟨eltsR_nodup r,elts_nodup h.2,fun a ha b hb e=> ?_⟩
  obtain⟨y,hy,rfl⟩:=List.mem_map.1 ha
  obtain⟨z,hz,rfl⟩:=List.mem_map.1 hb
  obtain⟨q,hq,hz⟩:=List.mem_flatMap.1 hz
  obtain⟨k,hk⟩:=eltsR_id hy
  obtain⟨j,hj⟩:=eltsR_id hz
  rw[hk,hj] at e
  injection e with e1 e2
  exact h.1 (List.mem_map.2 ⟨q,hq,e1.symm⟩)
theorem add_all:∀(l N:List Elt),((N++l).map (·.id)).Nodup→l.foldl eltAdd N=N++l
 | [],N,_=>(List.append_nil N).symm
 | x::l,N,h=>by
  have h1:eltAdd N x=N++[x]:=by
   unfold eltAdd
   rw[any_false fun y hy=>gid_ne fun e=> ?_,if_neg (by decide)]
   rw[List.map_append,List.nodup_append] at h
   exact h.2.2 y.id (List.mem_map.2 ⟨y,hy,rfl⟩) x.id (by simp) e
  have h2:(N++[x])++l=N++x::l:=by simp
  rw[List.foldl_cons,h1,add_all l _ (by rw[h2];exact h),h2]
theorem eltsW_go:∀(R:List Rn) (N:List Elt),((N++R.flatMap eltsR).map (·.id)).Nodup→R.foldl (fun N r=>(eltsR r).foldl eltAdd N) N=N++R.flatMap eltsR
 | [],N,_=>(List.append_nil N).symm
 |r::R,N,h=>by
  rw[List.flatMap_cons,←List.append_assoc] at h
  rw[List.foldl_cons,add_all _ _ (by rw[List.map_append,List.nodup_append] at h;exact h.1),eltsW_go R _ h,List.flatMap_cons,List.append_assoc]
theorem eltsW_flat {R:List Rn} (h:(R.map (·.el.s)).Nodup):eltsW R=R.flatMap eltsR:=eltsW_go R [] (elts_nodup h)
theorem elts_perm {R Q:List Rn} (h:(R.map (·.el.s)).Nodup) (hp:R.Perm Q):((eltsW R).map (·.id)).Nodup∧(eltsW R).Perm (eltsW Q):=by
 rw[eltsW_flat h,eltsW_flat ((hp.map _).nodup_iff.1 h)]
 exact⟨elts_nodup h,hp.flatMap_right _⟩
def seenW (R:List Rn) (ON:List Gst) (G:List Gid):List Elt:=(ordW (eltsW R)).filter fun e=>(ON.any fun y=>y.eqb e.id.s) && !(G.any fun y=>y.eqb e.id)
def opsE (x:Gid) (l:List Gop):List Gid:=(l.filter (fun o=>decide (o.kind=4) && o.node.eqb x)).flatMap (·.elems)
def goneL (ON:List Gst) (x:Gid) (L:List (Grp×GrX)):List Gid:=L.flatMap fun p=>if onB ON p.1.s=true then opsE x p.1.ops else []
def textG (L:List (Grp×GrX)) (x:Gid):List Elt:=seenW (runsL x L) (onG L) (goneL (onG L) x L)
theorem any_perm {l m:List Gid} (h:l.Perm m) (x:Gid):(l.any fun y=>y.eqb x)=m.any fun y=>y.eqb x:=by
 rw[Bool.eq_iff_iff,List.any_eq_true,List.any_eq_true]
 constructor
 ·rintro⟨y,hy,e⟩;exact⟨y,h.mem_iff.1 hy,e⟩
 ·rintro⟨y,hy,e⟩;exact⟨y,h.mem_iff.2 hy,e⟩
theorem gone_perm {L M:List (Grp×GrX)} (h:Perm2 L M) (ON:List Gst) (x:Gid):(goneL ON x L).Perm (goneL ON x M):=by
 have e:∀K:List (Grp×GrX),goneL ON x K=(K.map Prod.fst).flatMap fun g=>if onB ON g.s=true then opsE x g.ops else []:=fun K=>by
  unfold goneL;rw[List.flatMap_map]
 rw[e,e]
 exact h.pm.flatMap_right _
theorem Perm2.text {L M:List (Grp×GrX)} (h:Perm2 L M) (x:Gid):textG L x=textG M x:=by
 obtain⟨h1,h2⟩:=elts_perm (runs_el h x) (runs_perm h x)
 unfold textG seenW
 rw[ordW_eq h1 h2,←h.on]
 congr 1
 funext e
 rw[any_perm (gone_perm h (onG L) x)]
def entG (L:List (Grp×GrX)):List (Itm×List Elt):=(itemsG L).map fun i=>(i,if i.dir=true then [] else textG L i.n)
theorem Perm2.ent {L M:List (Grp×GrX)} (h:Perm2 L M):entG L=entG M:=by
 unfold entG
 rw[h.items]
 congr 1
 funext i
 rw[h.text]
end
section
open Go.RowKit Go.Lib Go.Sort
set_option linter.unusedVariables false
attribute [local go_sem ↓] Go.wp_at_zero Go.wp_at_succ
def seenE (ON:List Gst) (G:List Gid) (e:Elt):Bool:=(ON.any fun y=>y.eqb e.id.s) && !(G.any fun y=>y.eqb e.id)
theorem filter_succ {α:Type} {p:α→Bool} {L:List α} {k:Nat} (h:k<L.length) (z:α):(L.take (k+1)).filter p=(L.take k).filter p++(if p (L.getD k z)=true then [L.getD k z] else []):=by
 rw[takeD_succ h z,List.filter_append]
 congr 1
 generalize L.getD k z=o
 cases e:p o<;>simp[List.filter,e]
theorem seen_any (R:List Rn) (A oA gA:Option Addr) (c oc gc:Nat) (ON:List Gst) (G:List Gid) (S S2 S3:Nat→Prop) (w:World) (hl:R.length≤90) (hh:∀p∈R,p.tx.size≤1000∧0<p.el.s.t∧0≤p.el.i∧p.el.i≤1000000) (hR:RowF w S A 7 rnL rn0 R)
  (hN:((eltsW R).map (·.id)).Nodup) (hZ:∀y∈eltsW R,y.id≠ .zero) (hon:ON.length≤100000) (hgl:G.length≤100000) (hO:RowF w S2 oA 2 stL .zero ON) (hG:RowF w S3 gA 3 idL .zero G):
  Calls Tryz.prog 114 #[.slice A R.length c,.slice oA ON.length oc,.slice gA G.length gc] w fun e w'=>∃A' c',e= .returned (.slice A' (seenW R ON G).length c')∧(seenW R ON G).length≤90000∧w'.ownsRow w.heap.size 169 7 (.slice A' (seenW R ON G).length c') (seenW R ON G).length ((seenW R ON G).flatMap eltL)∧Below w.heap.size w w':=by
 obtain⟨i0,hi,hz0,hz1,hz2⟩:=info_parts info_elt
 have HOR:=hid (order_any R A c S w hl hh hR hN hZ)
 have HSN:seenW R ON G=(ordW (eltsW R)).filter (seenE ON G):=rfl
 rw[HSN]
 generalize ordW (eltsW R)=L at *
 have HON:=hid hO
 have HGN:=hid hG
 clear hR hO hG hN hZ hh HSN
 go_enter Tryz.func114,Tryz.ntmps114
 go_upto_region 2 with(go_at_call 175;refine HOR.out.mono ?_;rintro e w1 ⟨A1,c1,rfl,hL,hO1,hB1⟩;have HO1:=hid hO1;have HB1:=hid hB1;clear hO1 hB1)
 have HRR:=hid (ownN_rowF (z:=elt0) (f:=eltL) (fun _=>rfl) rfl HO1.out)
 have hsz1:=HB1.out.size
 clear HOR HO1
 go_upto_region 4 with fail
 go_loopw [8,9] (fun o i wr=>∃(k:Nat) (A':Option Addr) (c' m:Nat),k≤L.length∧i= .int .i64 k∧o= .slice A' m c'∧m≤k∧Hid (m=((L.take k).filter (seenE ON G)).length)∧Hid (wr.ownsRow w1.heap.size 169 7 (.slice A' m c') m (((L.take k).filter (seenE ON G)).flatMap eltL))∧Hid (Below w1.heap.size w1 wr)) (fun o i _=>L.length-(RowKit.intOf i).toNat)
 case atStart=>exact⟨0,none,0,0,Nat.zero_le _,rfl,rfl,Nat.le_refl _,hid rfl,hid (World.ownsRow_nil _ _ _ _),hid (Below.refl _ _)⟩
 case round=>
  obtain⟨k,A',c',m,hk,rfl,rfl,hmk,HML,HO,HBr⟩:=hrel
  by_cases hlt:k<L.length
  ·have i1:(0:Int)≤(k:Int):=by omega
   have i2:(k:Int)<(L.length:Int):=by omega
   obtain⟨rb,ro,rfl,-,hrb,hrange⟩:=HRR.out.range (fun _=>rfl) hlt
   have hst:=filter_succ (p:=seenE ON G) hlt elt0
   generalize (L.take k).filter (seenE ON G)=M at *
   generalize L.getD k elt0=p at *
   obtain⟨⟨⟨nt,nr⟩,ni⟩,⟨⟨pt,pr⟩,pi⟩,nm⟩:=p
   have HRG:=hid (fun W (hB:Below w1.heap.size w1 W)=>show W.rangeAt rb (ro+k*7) [.int .i64 nt,.int .i64 nr,.int .i64 ni,.int .i64 pt,.int .i64 pr,.int .i64 pi,.string nm] from rangeB hrange hrb hB)
   obtain⟨b1,hb1⟩:∃b,b=ON.any (fun y=>y.eqb ⟨nt,nr⟩):=⟨_,rfl⟩
   obtain⟨b2,hb2⟩:∃b,b=G.any (fun y=>y.eqb ⟨⟨nt,nr⟩,ni⟩):=⟨_,rfl⟩
   have HST:=hid (show(L.take (k+1)).filter (seenE ON G)=M++(if (b1 && !b2)=true then [(⟨⟨⟨nt,nr⟩,ni⟩,⟨⟨pt,pr⟩,pi⟩,nm⟩:Elt)] else []) by rw[hst,hb1,hb2];rfl)
   have HBW:=hid (fun W (hB:Below w1.heap.size w1 W)=>HB1.out.trans (hB.mono hsz1))
   have HHS:=hid (fun W (hB:Below w1.heap.size w1 W)=>show Calls Tryz.prog 109 #[.slice oA ON.length oc,.agg #[.int .i64 nt,.int .i64 nr]] W fun e w'=>e= .returned (.bool b1)∧Below W.heap.size W w' from by rw[hb1];exact hasstamp_any ON oA oc ⟨nt,nr⟩ S2 W (by omega) (HON.out.below (HBW.out W hB)))
   have HHI:=hid (fun W (hB:Below w1.heap.size w1 W)=>show Calls Tryz.prog 173 #[.slice gA G.length gc,.agg #[.int .i64 nt,.int .i64 nr,.int .i64 ni]] W fun e w'=>e= .returned (.bool b2)∧Below W.heap.size W w' from by rw[hb2];exact hasid_any G gA gc ⟨⟨nt,nr⟩,ni⟩ S3 W (by omega) (HGN.out.below (HBW.out W hB)))
   have hsz:=HBr.out.size
   have HRS:=hid (show wr.rangeAt rb (ro+k*7) [.int .i64 nt,.int .i64 nr] from range_mid (pre:=[]) (post:=[.int .i64 ni,.int .i64 pt,.int .i64 pr,.int .i64 pi,.string nm]) (HRG.out wr HBr.out))
   have hm63:m≤90000:=by omega
   clear hrange hrb hst hb1 hb2
   cases b1 with
   | false=>
    have HS9:=hid (show(L.take (k+1)).filter (seenE ON G)=M by rw[HST.out];simp)
    go_wp2_with (first
     |(refine wpList_load_mid rfl _ _ rfl rb (ro+k*7) rfl [.int .i64 nt,.int .i64 nr] _ HRS.out Tryz.underlying42 rfl (by kernel_rfl) ?_)
     |(go_at_call 109;refine(HHS.out wr HBr.out).mono ?_;rintro e w2 ⟨rfl,hB2⟩;have HB2:=hid (HBr.out.trans (hB2.mono hsz));have HO2:=hid (HO.out.kept (gby_below (r:=none) hB2) (Classical.em _));clear hB2))
    go_roundw
    case rel=>exact⟨k+1,A',c',m,by omega,by go_num,rfl,by omega,hid (by rw[HS9.out];exact HML.out),hid (by rw[HS9.out];exact HO2.out),HB2⟩
    case measure=>(simp[RowKit.intOf];omega)
   | true=>
    cases b2 with
    | true=>
     have HS9:=hid (show(L.take (k+1)).filter (seenE ON G)=M by rw[HST.out];simp)
     go_wp2_with (first
      |(refine wpList_load_mid rfl _ _ rfl rb (ro+k*7) rfl [.int .i64 nt,.int .i64 nr] _ HRS.out Tryz.underlying42 rfl (by kernel_rfl) ?_)
      |(go_at_call 173;refine(HHI.out w2 HB2.out).mono ?_;rintro e w3 ⟨rfl,hB3⟩;have HB3:=hid (HB2.out.trans (hB3.mono HB2.out.size));have HO3:=hid (HO2.out.kept (gby_below (r:=none) hB3) (Classical.em _));clear hB3)
      |(go_at_call 109;refine(HHS.out wr HBr.out).mono ?_;rintro e w2 ⟨rfl,hB2⟩;have HB2:=hid (HBr.out.trans (hB2.mono hsz));have HO2:=hid (HO.out.kept (gby_below (r:=none) hB2) (Classical.em _));have HR2:=hid (HRG.out w2 HB2.out);have z0:w2.cell? ⟨rb,ro+k*7,none⟩=some (.int .i64 nt):=HR2.out 0 _ rfl;have z1:w2.cell? ⟨rb,ro+k*7+1,none⟩=some (.int .i64 nr):=HR2.out 1 _ rfl;have z2:w2.cell? ⟨rb,ro+k*7+2,none⟩=some (.int .i64 ni):=HR2.out 2 _ rfl;clear hB2))
     go_roundw
     case rel=>exact⟨k+1,A',c',m,by omega,by go_num,rfl,by omega,hid (by rw[HS9.out];exact HML.out),hid (by rw[HS9.out];exact HO3.out),HB3⟩
     case measure=>(simp[RowKit.intOf];omega)
    | false=>
     have HS9:=hid (show(L.take (k+1)).filter (seenE ON G)=M++[(⟨⟨⟨nt,nr⟩,ni⟩,⟨⟨pt,pr⟩,pi⟩,nm⟩:Elt)] by rw[HST.out];rfl)
     go_upto_region 7 with(first
      |(refine wpList_load_mid rfl _ _ rfl rb (ro+k*7) rfl [.int .i64 nt,.int .i64 nr] _ HRS.out Tryz.underlying42 rfl (by kernel_rfl) ?_)
      |(go_at_call 173;refine(HHI.out w2 HB2.out).mono ?_;rintro e w3 ⟨rfl,hB3⟩;have HB3:=hid (HB2.out.trans (hB3.mono HB2.out.size));have HO3:=hid (HO2.out.kept (gby_below (r:=none) hB3) (Classical.em _));clear hB3)
      |(go_at_call 109;refine(HHS.out wr HBr.out).mono ?_;rintro e w2 ⟨rfl,hB2⟩;have HB2:=hid (HBr.out.trans (hB2.mono hsz));have HO2:=hid (HO.out.kept (gby_below (r:=none) hB2) (Classical.em _));have HR2:=hid (HRG.out w2 HB2.out);have z0:w2.cell? ⟨rb,ro+k*7,none⟩=some (.int .i64 nt):=HR2.out 0 _ rfl;have z1:w2.cell? ⟨rb,ro+k*7+1,none⟩=some (.int .i64 nr):=HR2.out 1 _ rfl;have z2:w2.cell? ⟨rb,ro+k*7+2,none⟩=some (.int .i64 ni):=HR2.out 2 _ rfl;clear hB2))
     have HR3:=hid (HRG.out w3 HB3.out)
     have hsz3:=HB3.out.size
     go_wp2_with (first
      |(refine wpList_load_mid rfl _ _ rfl rb (ro+k*7) rfl [.int .i64 nt,.int .i64 nr,.int .i64 ni,.int .i64 pt,.int .i64 pr,.int .i64 pi,.string nm] _ HR3.out Tryz.underlying169 rfl (by kernel_rfl) ?_)
      |(at_builtin;refine wpList_append_lies _ rfl _ _ 112 rfl w1.heap.size 169 i0 (.agg #[.int .i64 0,.int .i64 0,.int .i64 0,.int .i64 0,.int .i64 0,.int .i64 0,.string ⟨#[]⟩]) 7 64 Tryz.underlying112 hi hz0 hz1 hz2 rfl (by decide) (.slice A' m c') m _ rfl (by exact HO3.out.alloc _) ⟨w3.heap.size,0,none⟩ 1 1 [.int .i64 nt,.int .i64 nr,.int .i64 ni,.int .i64 pt,.int .i64 pr,.int .i64 pi,.string nm] rfl rfl (fun j y h=>cellsN w3 [.int .i64 nt,.int .i64 nr,.int .i64 ni,.int .i64 pt,.int .i64 pr,.int .i64 pi,.string nm] 169 j y h) (oc_of (c:=#[.int .i64 nt,.int .i64 nr,.int .i64 ni,.int .i64 pt,.int .i64 pr,.int .i64 pi,.string nm]) rfl) (by decide) (by unfold maxLen;omega) (by omega) (by simp;omega) (w3.heap.size+1) (by simp) ?_;intro gq cap w5 hown hgrow ha hlt5;have HO5:=hid hown;have HB5:=hid ((HB3.out.alloc hsz3 _).grown hgrow (by simp;omega) (fun b hb=>(HO3.out.lt b hb).1));clear hown hgrow ha hlt5))
     go_roundw
     case rel=>exact⟨k+1,some ⟨gq,0,none⟩,cap,m+1,by omega,by go_num,rfl,by omega,hid (by rw[HS9.out,List.length_append,←HML.out];rfl),hid (by rw[HS9.out,List.flatMap_append];exact HO5.out),HB5⟩
     case measure=>(simp[RowKit.intOf];omega)
  ·obtain rfl:k=L.length:=by omega
   have i2:¬(L.length:Int)<(L.length:Int):=by omega
   rw[List.take_length] at HML HO
   go_wp2
   go_ret
   refine⟨A',c',by rw[←HML.out];rfl,by rw[←HML.out];omega,?_,HB1.out.trans (HBr.out.mono hsz1)⟩
   rw[←HML.out];exact own_base HO.out hsz1
end
end Go.Proofs.YtkhmicndehlneaaGreatDoor
