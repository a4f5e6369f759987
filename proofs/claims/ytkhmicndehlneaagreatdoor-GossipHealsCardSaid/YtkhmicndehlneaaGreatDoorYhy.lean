/- Part 25 of the walks and plain laws that this claim uses, joined. Conditions: as each theorem states. -/
import Derived.Test.YtkhmicndehlneaaGreatDoorYhx
namespace Go.Proofs.YtkhmicndehlneaaGreatDoor
set_option maxRecDepth 100000
set_option maxHeartbeats 16000000
set_option linter.unusedVariables false
section
open Go.RowKit Go.Lib Go.Sort
attribute [local go_sem ↓] Go.wp_at_zero Go.wp_at_succ
def ltS (a b:ByteArray):Bool:=Op.bytesLess a.toList b.toList
def stepI (N:List Plc) (V:List Gid) (f0:Nat) (out:List Itm) (p:Plc):List Itm:=insB (λy:Itm=>ltS (pathN N f0 p) y.path) itm0 out ⟨p.n,pathN N f0 p,p.dir,!(V.any (λy=>y.eqb p.n))⟩
def itemsL (f0:Nat) (L:List Plc) (V:List Gid):List Itm:=(iX L V).foldl (stepI (iX L V) V f0) []
theorem seenP_len (L:List Plc) (V:List Gid):(iX L V).length<=L.length:=aL (ig _ _) (rightP_len L)
theorem items15_any (L:List Plc) (A:Option Addr) (c:Nat) (V:List Gid) (vA:Option Addr) (vc f0:Nat) (S S2:Nat->Prop) (w00:World) (hl:L.length<=100000) (hv:V.length<=100000) (hnm:∀p∈L,p.name.size<=1000) (hsn:∀p∈iX L V,p.name.size<=1000∧iR (iX L V) f0 p=true) (hf0:f0<=10000) (hR:RowF w00 S A 8 plcL plc0 L) (hV:RowF w00 S2 vA 3 idL Gid.zero V):
  Calls Tryz.prog 112 #[.slice A L.length c,.slice vA V.length vc] w00 λe w'=>∃A' c',e= .returned (.slice A' (itemsL f0 L V).length c')∧w'.ownsRow w00.heap.size 110 6 (.slice A' (itemsL f0 L V).length c') (itemsL f0 L V).length ((itemsL f0 L V).flatMap itmL)∧Below w00.heap.size w00 w':=by
 obtain⟨i0,hi,hz0,hz1,hz2⟩:=bD info_itm;have HSE:=hid (seen15_any L A c V vA vc S S2 w00 hl hv (λp hp=>aL (hnm p hp) (by decide)) hR hV);have HV0:=hid hV;have hnl:=seenP_len L V;obtain⟨N,hN⟩:∃N,N=iX L V:=⟨_,rfl⟩;obtain⟨R,hRd⟩:∃R,R=itemsL f0 L V:=⟨_,rfl⟩;have HRR:=hid (show R=N.foldl (stepI N V f0) [] by rw[hRd,hN];rfl);rw[<-hRd];rw[<-hN] at HSE hnl hsn;have HSN:=hid hsn;clear hR hV hN hRd hnm hsn;go_enter Tryz.func112,Tryz.ntmps112;go_upto_region 4 with(go_at_call 171;refine HSE.out.mono ?_;rintro e w ⟨A1,c1,rfl,hown1,hB1⟩;have HN:=hid (ct (f:=plcL) (z:=plc0) (λ_=>rfl) rfl hown1);have HB1:=hid hB1;have HV:=hid (HV0.out.below hB1);clear hown1 hB1);go_loopw [6,7] (λo i wr=>∃(k:Nat) (A':Option Addr) (c' m:Nat) (M:List Itm),k<=N.length∧i= .int .i64 k∧o= .slice A' m c'∧m<=k∧Hid (m=M.length)∧Hid (M=(N.take k).foldl (stepI N V f0) [])∧Hid (wr.ownsRow w.heap.size 110 6 (.slice A' m c') m (M.flatMap itmL))∧Hid (Below w.heap.size w wr)) (λo i _=>N.length-(RowKit.intOf i).toNat)
 case atStart=>exact⟨0,none,0,0,[],aq _,rfl,rfl,aa _,hid rfl,hid rfl,hid (aF w w.heap.size 110 6),hid (ag _ _)⟩
 case round=>
  obtain⟨k,A',c',m,M,hk,rfl,rfl,hmk,HML,HM,HO,HBr⟩:=hrel;by_cases hlt:k<N.length
  ·have i1:(0:Int)<=(k:Int):=by omega
   have i2:(k:Int)<(N.length:Int):=by omega
   obtain⟨rb,ro,hAe,-,hrb,hrange⟩:=HN.out.range (λ_=>rfl) hlt;have hst:((N.take (k+1)).foldl (stepI N V f0) [])=stepI N V f0 M (N.getD k plc0):=by rw[HM.out];exact eL _ _ hlt plc0
   have hsp:=HSN.out _ (bL hlt plc0);obtain⟨p,hp⟩:∃p,p=N.getD k plc0:=⟨_,rfl⟩;rw[<-hp] at hst hrange hsp;obtain⟨⟨⟨nt,nr⟩,ni⟩,⟨⟨pt,pr⟩,pi⟩,nm,dd⟩:=p;obtain⟨hs1,hs2⟩:=hsp;have hsz:=HBr.out.size;have hm63:m<=100000:=by omega
   obtain⟨Z,hZ⟩:∃Z,Z=pathN N f0 (⟨⟨⟨nt,nr⟩,ni⟩,⟨⟨pt,pr⟩,pi⟩,nm,dd⟩:Plc):=⟨_,rfl⟩;obtain⟨bh,hbh⟩:∃b,b=V.any (λy=>y.eqb ⟨⟨nt,nr⟩,ni⟩):=⟨_,rfl⟩;have HS9:=hid (show((N.take (k+1)).foldl (stepI N V f0) [])=insB (λy:Itm=>ltS Z y.path) itm0 M ⟨⟨⟨nt,nr⟩,ni⟩,Z,dd,!bh⟩ by rw[hst,hZ,hbh];rfl);have HPX:=hid (show wr.rangeAt rb (ro+k*8) [nt,nr,ni,pt,pr,pi,nm,dd] from cd hrange hrb HBr.out);have HPA:=hid (λW (hB:Below w.heap.size w W)=>show Calls Tryz.prog 172 #[.slice A1 N.length c1,.agg #[nt,nr,ni,pt,pr,pi,nm,dd]] W λe w'=>e= .returned (.string Z)∧Below W.heap.size W w' from by rw[hZ];exact path15_any N A1 c1 f0 nt nr ni pt pr pi nm dd _ W (by omega) (λp hp=>(HSN.out p hp).1) hs1 hf0 hs2 (HN.out.below hB));have HHA:=hid (λW (hB:Below w.heap.size w W)=>show Calls Tryz.prog 173 #[.slice vA V.length vc,.agg #[nt,nr,ni]] W λe w'=>e= .returned (.bool bh)∧Below W.heap.size W w' from by rw[hbh];exact hasid_any V vA vc ⟨⟨nt,nr⟩,ni⟩ S2 W (by omega) (HV.out.below hB));have HAE:=hid hAe;have hb1:=HAE.out;clear hst hrange hrb hp hs1 hs2 hZ hbh hb1;go_upto_region 6 with fail;rw[hAe]
   go_upto_region 7 with(first
    |(refine lM HPX ca ?_)
    |(refine bM rfl _ _ _ rfl _ _ _ _ rfl ?_ rfl ?_ ?_ ?_ ?_;(focus(simp;done));kernel_rfl;rfl;rfl))
   rw[<-hAe];have hba:=HBr.out.alloc hsz (.cells #[nt,nr,ni,pt,pr,pi,nm,dd] 161);have hbx:Below wr.heap.size wr (wr.alloc (.cells #[nt,nr,ni,pt,pr,pi,nm,dd] 161)):=(ag _ _).alloc (aa _) _;have HCX:=hid (am wr (.cells #[nt,nr,ni,pt,pr,pi,nm,dd] 161));have NPB:=hid (show(Value.slice A' m c').ownBlock≠some wr.heap.size from λe=>by have:=(HO.out.lt _ e).2;omega);generalize hW:wr.alloc (.cells #[nt,nr,ni,pt,pr,pi,nm,dd] 161)=W at *;have HBW:=hid hba;have HOW:=kO HO hbx;have HBD:=hid (show Below w.heap.size w W.drew from hba.trans ⟨rfl,rfl,rfl,aa _,λ_ _=>rfl⟩);generalize hpb:wr.heap.size=pB at *;have hpD:pB<W.drew.heap.size:=lt_of_block HCX.out;clear hW hba hbx hpb HO HBr hAe;refine aR (S:=λW'=>W'.heap[pB]? =some (.cells #[nt,nr,ni,pt,pr,pi,nm,dd] 161 (0,0))) (by kernel_rfl) ?_
   try(change wpAnyH _ _ _ _ _ _ _ _ (World.drew _))
   refine tk 0 (.slice A' m c') ((show W.drew.heap[pB]? =_ from HCX.out)) ?_;go_simp;refine tk 1 (.pointer (some ⟨pB,0,none⟩)) ((show W.drew.heap[pB]? =_ from HCX.out)) ?_;go_simp;refine tk2 2 (.agg #[nt,nr,ni]) rfl (aT (by rfl) _ _ rfl pB (0) rfl [nt,nr,ni] _ (λW' hW'=>bv (pre:=[]) (mid:=[nt,nr,ni]) (post:=[pt,pr,pi,nm,dd]) (bf hW')) aw rfl (by kernel_rfl)) ((show W.drew.heap[pB]? =_ from HCX.out)) ?_;go_simp;refine tk 3 (.slice A1 N.length c1) ((show W.drew.heap[pB]? =_ from HCX.out)) ?_;go_simp;refine tk2 4 (.agg #[nt,nr,ni,pt,pr,pi,nm,dd]) rfl (aT (by rfl) _ _ rfl pB (0) rfl [nt,nr,ni,pt,pr,pi,nm,dd] _ (λW' hW'=>bv (pre:=[]) (mid:=[nt,nr,ni,pt,pr,pi,nm,dd]) (post:=[]) (bf hW')) ca rfl (by kernel_rfl)) ((show W.drew.heap[pB]? =_ from HCX.out)) ?_;go_simp;refine tk 6 (.pointer (some ⟨pB,7,none⟩)) ((show W.drew.heap[pB]? =_ from HCX.out)) ?_;go_simp;refine tk2 7 (.bool dd) rfl (Or.inl ⟨by rfl,λW' hW'=>by(have c_:W'.cell? ⟨pB,7,none⟩=some (.bool dd):=aD _ _ _ _ _ _ hW';go_simp)⟩) ((show W.drew.heap[pB]? =_ from HCX.out)) ?_;go_simp;refine tk 8 (.slice vA V.length vc) ((show W.drew.heap[pB]? =_ from HCX.out)) ?_;go_simp;refine tk 9 (.pointer (some ⟨pB,0,none⟩)) ((show W.drew.heap[pB]? =_ from HCX.out)) ?_;go_simp
   refine tk2 10 (.agg #[nt,nr,ni]) rfl (aT (by rfl) _ _ rfl pB (0) rfl [nt,nr,ni] _ (λW' hW'=>bv (pre:=[]) (mid:=[nt,nr,ni]) (post:=[pt,pr,pi,nm,dd]) (bf hW')) aw rfl (by kernel_rfl)) ((show W.drew.heap[pB]? =_ from HCX.out)) ?_;go_simp;refine rd1 5 λK hK=> ?_;go_simp;refine(HPA.out W.drew HBD.out).mono ?_;rintro e wa ⟨rfl,hBa⟩;have HBa:=bT HBD hBa;have HCa:=hid ((hBa.block pB hpD).trans HCX.out);have HOa:=hid (HOW.out.kept (dg (r:=none) (show Below W.heap.size W wa from⟨hBa.os,hBa.tape,hBa.output,hBa.size,hBa.block⟩)) (cw _));clear hBa;go_simp;refine hK.out _ _ (HCa.out) (λ_=> ?_);clear hK K;refine rd1 11 λK hK=> ?_;go_simp;refine(HHA.out wa HBa.out).mono ?_;rintro e wr ⟨rfl,hBb⟩;have HBb:=bT HBa hBb;have HCb:=bK hBb HCa;have HOb:=kO HOa hBb;clear hBb;go_simp;refine hK.out _ _ (HCb.out) (λ_=> ?_);clear hK K;refine tk 12 (.bool (!bh)) (HCb.out) ?_;go_simp;refine tk 13 (.agg #[nt,nr,ni,Z,dd,.bool (!bh)]) (HCb.out) ?_;go_simp;have hsA:(wr.alloc (.cells #[nt,nr,ni,Z,dd,.bool (!bh)] 110)).heap.size=wr.heap.size+1:=by simp
   have HDN:=hid (HOb.out.alloc (.cells #[nt,nr,ni,Z,dd,.bool (!bh)] 110));have HNC:=hid (λ(i:Nat) (y:Value) (h:([nt,nr,ni,Z,dd,.bool (!bh)]:List Value)[i]? =some y)=>dH wr [nt,nr,ni,Z,dd,.bool (!bh)] 110 i y h);have HOC:=hid (show ∀u∈([nt,nr,ni,Z,dd,.bool (!bh)]:List Value),u.oneCell'=true from fw (c:=#[nt,nr,ni,Z,dd,.bool (!bh)]) rfl);have HBA:=hid (HBb.out.alloc HBb.out.size (.cells #[nt,nr,ni,Z,dd,.bool (!bh)] 110));have HCA:=hid ((ax wr (.cells #[nt,nr,ni,Z,dd,.bool (!bh)] 110) pB (lt_of_block HCb.out)).trans HCb.out);refine rd1 14 λK hK=> ?_;go_simp;refine hK.out _ _ (HCA.out) (λ_=> ?_);clear hK K;refine rd1 15 λK hK=> ?_;refine dW _ (by rfl) _ _ 103 (by rfl) w.heap.size 110 i0 (.agg #[(0:Int),(0:Int),(0:Int),.string ⟨#[]⟩,false,false]) 6 48 Tryz.underlying103 hi hz0 hz1 hz2 rfl (by decide) (.slice A' m c') m _ (by rfl) (by exact HDN.out) ⟨wr.heap.size,0,none⟩ 1 1 [nt,nr,ni,Z,dd,.bool (!bh)] (by rfl) (by rfl) (by exact HNC.out) HOC.out (by decide) (by unfold maxLen;omega) (by omega) (by rw[hsA];have:=HBb.out.size;omega) (wr.heap.size+1) hsA ?_;intro gq cap w5 hown1 hgrow hat hlt3;have HO5:=hid hown1;have HB5:=hid (HBA.out.grown hgrow (by rw[hsA];have:=HBb.out.size;omega) (λb hb=>(HOb.out.lt b hb).1));have HC5:=hid ((hgrow.block pB (by rw[hsA];have:=lt_of_block HCb.out;omega) (λe=>NPB.out e.symm)).trans HCA.out);clear hown1 hgrow hat hlt3;refine hK.out _ _ (HC5.out) (λ_=> ?_);clear hK K
   refine tk 16 (.slice (some ⟨gq,0,none⟩) (m+1) cap) (HC5.out) ?_;go_simp;refine be (by kernel_rfl) ?_ _;go_simp;go_upto_region 9 with fail;clear HPX HPA HHA HBD HBa HCa HOa HBb HCb HOb HDN HNC HOC HBA HCA hsA HC5 HCX HBW HOW NPB hpD;have hs9:slid M (⟨⟨⟨nt,nr⟩,ni⟩,Z,dd,!bh⟩:Itm) m=M++[⟨⟨⟨nt,nr⟩,ni⟩,Z,dd,!bh⟩]:=by rw[HML.out];exact ju _ _
   have HO6:=hid (show w5.ownsRow w.heap.size 110 6 (.slice (some ⟨gq,0,none⟩) (m+1) cap) (m+1) ((slid M (⟨⟨⟨nt,nr⟩,ni⟩,Z,dd,!bh⟩:Itm) m).flatMap itmL) by rw[hs9,aI];exact HO5.out);clear hs9 HO5;generalize w5=w6 at *;go_loopw [9] (λi wx=>∃(q:Nat),i= .int .i64 q∧q<=m∧Hid (dY (λy:Itm=>ltS Z y.path) itm0 M q=dY (λy:Itm=>ltS Z y.path) itm0 M M.length)∧Hid (wx.ownsRow w.heap.size 110 6 (.slice (some ⟨gq,0,none⟩) (m+1) cap) (m+1) ((slid M (⟨⟨⟨nt,nr⟩,ni⟩,Z,dd,!bh⟩:Itm) q).flatMap itmL))∧Hid (Below w.heap.size w wx)) (λi _=>(RowKit.intOf i).toNat)
   case atStart=>exact⟨m,rfl,aa _,hid (by rw[HML.out]),HO6,HB5⟩
   case round=>
    obtain⟨q,rfl,hq,HIX,HOq,HBq⟩:=hrel;by_cases h0:0<q
    ·obtain⟨q,rfl⟩:∃p,q=p+1:=⟨q-1,by omega⟩;have hqm:q+1<=M.length:=by rw[<-HML.out];exact hq
     have hl1:m+1=(slid M (⟨⟨⟨nt,nr⟩,ni⟩,Z,dd,!bh⟩:Itm) (q+1)).length:=by rw[eO,<-HML.out]
     obtain⟨g3,e3,-,hg3,hr3⟩:=cz (f:=itmL) (λ_=>rfl) hl1 HOq.out (k:=q) (by omega) itm0;cases e3;obtain⟨g4,e4,-,-,hr4⟩:=cz (f:=itmL) (λ_=>rfl) hl1 HOq.out (k:=q+1) (by omega) itm0;cases e4;rw[js hqm] at hr3;rw[ku hqm] at hr4;have hsw:=ip (L:=M) (x:=(⟨⟨⟨nt,nr⟩,ni⟩,Z,dd,!bh⟩:Itm)) (z:=itm0) hqm;obtain⟨y,hy⟩:∃y,y=M.getD q itm0:=⟨_,rfl⟩;rw[<-hy] at hr3 hsw;obtain⟨b2,hb2⟩:∃b,b=(λy:Itm=>ltS Z y.path) y:=⟨_,rfl⟩;have HPY:=hid (show(λy:Itm=>ltS Z y.path) (M.getD q itm0)=b2 by rw[<-hy,hb2]);clear hy;obtain⟨⟨⟨t2,r2⟩,n2⟩,z2,d2,bk2⟩:=y;have HR3:=hid (show wr.rangeAt gq (q*6) [t2,r2,n2,z2,d2,bk2] from hr3);have HR4:=hid (show wr.rangeAt gq ((q+1)*6) [nt,nr,ni,Z,dd,.bool (!bh)] from hr4);have y3:=aj (hr3 3 _ rfl);have x3:=aj (hr4 3 _ rfl);have HSW:=hid hsw;have k1:(0:Int)<(q:Int)+1:=by omega
     have k2:(0:Int)<=(q:Int):=by omega
     have k3:(q:Int)<(m:Int)+1:=by omega
     have k4:(q:Int)+1<(m:Int)+1:=by omega
     have k5:(0:Int)<=(q:Int)+1:=by omega
     have k6:IntKind.i64.wrap (q:Int)=(q:Int):=by rw[bz];omega
     have HL1:=hid hl1;have q2:Op.bytesLess Z.toList z2.toList=b2:=hb2.symm;have cA:=trivial;clear hr3 hr4 hb2 hsw hl1;cases b2 with
     |false=>
      go_upto_region 9 with fail;refine rqb ?_
      repeat(any_goals(first|go_big_quiet_step (with_reducible exact cA _ _)|quiet_step (with_reducible exact cA _ _)))
      refine qz λwq hBq=> ?_;have HS8:=hid (show((N.take (k+1)).foldl (stepI N V f0) [])=slid M (⟨⟨⟨nt,nr⟩,ni⟩,Z,dd,!bh⟩:Itm) (q+1) by rw[HS9.out];unfold insB;rw[<-HIX.out,ge (.inr ⟨q,rfl,HPY.out⟩)]);have HOx:=kO HOq hBq;have HBx:=bT HBq hBq;go_wp2;go_roundw
      case rel=>exact⟨k+1,some ⟨gq,0,none⟩,cap,m+1,_,by omega,by go_num,rfl,by omega,HL1,hid HS8.out.symm,HOx,HBx⟩
      case measure=>(simp[RowKit.intOf];omega)
     | true=>
      go_upto_region 9 with fail;refine rqb ?_
      repeat(any_goals(first|go_big_quiet_step (with_reducible exact cA _ _)|quiet_step (with_reducible exact cA _ _)))
      refine qz λwq hBq=> ?_;have HIX2:=hid (show dY (λy:Itm=>ltS Z y.path) itm0 M q=dY (λy:Itm=>ltS Z y.path) itm0 M M.length by rw[<-HIX.out,iF HPY.out]);have HR3q:=hid (cd HR3.out hg3 hBq);have HR4q:=hid (cd HR4.out hg3 hBq);have HOq2:=kO HOq hBq;have HBq2:=bT HBq hBq;clear y3 x3 cA HOq hBq;go_upto_region 11 with fail;obtain⟨V1,hV1⟩:∃V,V=wq.drew.setCells gq ((q+1)*6) (#[t2,r2,n2,z2,d2,bk2]:Array Value).toList:=⟨_,rfl⟩;have hP1:V1.ownsRow w.heap.size 110 6 (.slice (some ⟨gq,0,none⟩) (m+1) cap) (m+1) (((slid M (⟨⟨⟨nt,nr⟩,ni⟩,Z,dd,!bh⟩:Itm) (q+1)).set (q+1) (⟨⟨⟨t2,r2⟩,n2⟩,z2,d2,bk2⟩:Itm)).flatMap itmL)∧wq.drew.grownBy V1 (some gq):=by rw[hV1];exact eP (f:=itmL) (λ_=>rfl) (by decide) HL1.out (show wq.drew.ownsRow _ _ _ _ _ _ from HOq2.out) (by omega) (⟨⟨⟨t2,r2⟩,n2⟩,z2,d2,bk2⟩:Itm)
      obtain⟨V2,hV2⟩:∃V,V=V1.setCells gq (q*6) (#[nt,nr,ni,Z,dd,.bool (!bh)]:Array Value).toList:=⟨_,rfl⟩;have hP2:V2.ownsRow w.heap.size 110 6 (.slice (some ⟨gq,0,none⟩) (m+1) cap) (m+1) ((((slid M (⟨⟨⟨nt,nr⟩,ni⟩,Z,dd,!bh⟩:Itm) (q+1)).set (q+1) (⟨⟨⟨t2,r2⟩,n2⟩,z2,d2,bk2⟩:Itm)).set q (⟨⟨⟨nt,nr⟩,ni⟩,Z,dd,!bh⟩:Itm)).flatMap itmL)∧V1.grownBy V2 (some gq):=by rw[hV2];exact eP (f:=itmL) (λ_=>rfl) (by decide) (by rw[cM];exact HL1.out) hP1.1 (by omega) (⟨⟨⟨nt,nr⟩,ni⟩,Z,dd,!bh⟩:Itm)
      obtain⟨g5,e5,ht5⟩:=ey (show wq.drew.ownsRow _ _ _ _ _ _ from HOq2.out) (k:=q+1) (by omega);cases e5;obtain⟨g6,e6,ht6⟩:=ey hP1.1 (k:=q) (by omega);cases e6;have HP2:=hid hP2.1;have HG2:=hid (show wq.heap.size<=V2.heap.size∧(Below w.heap.size w wq->w.heap.size<=gq->Below w.heap.size w V2) from⟨aL (show wq.drew.heap.size<=V1.heap.size from hP1.2.size) hP2.2.size,λhb hl=>(hb.drew.grown hP1.2 (by exact hb.size) (λb e=>by cases e;exact hl)).grown hP2.2 (aL hb.size (show wq.drew.heap.size<=V1.heap.size from hP1.2.size)) (λb e=>by cases e;exact hl)⟩);have HV1:=hid hV1;have HV2:=hid hV2;have HT5:=hid ht5;have HT6:=hid ht6;have HAY:=hid (show(#[t2,r2,n2,z2,d2,bk2]:Array Value).all (·.oneCell')=true by rw[<-cg];rfl);have HAX:=hid (show(#[nt,nr,ni,Z,dd,.bool (!bh)]:Array Value).all (·.oneCell')=true by rw[<-cg];rfl);clear hP1 hP2 hV1 hV2 ht5 ht6;refine aR (S:=λ_=>True) (by kernel_rfl) ?_
      try(change wpAnyH _ _ _ _ _ _ _ _ (World.drew _))
      refine tk 0 (.slice (some ⟨gq,0,none⟩) (m+1) cap) (trivial) ?_;go_simp;refine tk 1 (.int .i64 ((q:Int)+1)) (trivial) ?_;go_simp;refine tk 2 (.slice (some ⟨gq,0,none⟩) (m+1) cap) (trivial) ?_;go_simp;refine tk 3 (.int .i64 ((q:Int)+1)) (trivial) ?_;go_simp;refine tk 4 (.int .i64 (q:Int)) (trivial) ?_;go_simp;refine tk 5 (.slice (some ⟨gq,0,none⟩) (m+1) cap) (trivial) ?_;go_simp;refine tk 6 (.int .i64 ((q:Int)+1)) (trivial) ?_;go_simp;refine tk 7 (.int .i64 (q:Int)) (trivial) ?_;go_simp;refine tk 8 (.pointer (some ⟨gq,q*6,none⟩)) (trivial) ?_;go_simp;refine tk 10 (.slice (some ⟨gq,0,none⟩) (m+1) cap) (trivial) ?_;go_simp;refine tk 11 (.int .i64 ((q:Int)+1)) (trivial) ?_;go_simp;refine tk 12 (.pointer (some ⟨gq,(q+1)*6,none⟩)) (trivial) ?_;go_simp;refine dp (rs:=[9,13]) (by kernel_rfl) (by simp) ?_;refine aX rfl (λK hK=> ?_) (aX rfl (λK hK=> ?_) cX)
      focus
       refine bA rfl _ _ rfl gq (q*6) rfl [t2,r2,n2,z2,d2,bk2] _ (show wq.drew.rangeAt _ _ _ from HR3q.out) Tryz.underlying110 rfl (by kernel_rfl) ?_;refine hK.out _ _ (trivial) (λ_=> ?_);clear hK K;refine rd1 13 λK hK=> ?_;refine bA rfl _ _ rfl gq ((q+1)*6) rfl [nt,nr,ni,Z,dd,.bool (!bh)] _ (show wq.drew.rangeAt _ _ _ from HR4q.out) Tryz.underlying110 rfl (by kernel_rfl) ?_;refine hK.out _ _ (trivial) (λ_=> ?_);clear hK K
      rotate_left
      focus
       refine bA rfl _ _ rfl gq ((q+1)*6) rfl [nt,nr,ni,Z,dd,.bool (!bh)] _ (show wq.drew.rangeAt _ _ _ from HR4q.out) Tryz.underlying110 rfl (by kernel_rfl) ?_;refine hK.out _ _ (trivial) (λ_=> ?_);clear hK K;refine rd1 9 λK hK=> ?_;refine bA rfl _ _ rfl gq (q*6) rfl [t2,r2,n2,z2,d2,bk2] _ (show wq.drew.rangeAt _ _ _ from HR3q.out) Tryz.underlying110 rfl (by kernel_rfl) ?_;refine hK.out _ _ (trivial) (λ_=> ?_);clear hK K
      all_goals
       refine tk 14 (.pointer (some ⟨gq,(q+1)*6,none⟩)) (trivial) ?_;go_simp;refine rd1 15 λK hK=> ?_;refine cy rfl _ _ _ rfl gq ((q+1)*6) #[t2,r2,n2,z2,d2,bk2] (by rfl) (by rfl) HT5.out (by kernel_rfl) HAY.out ?_;rw[<-HV1.out];refine hK.out _ _ (trivial) (λ_=> ?_);clear hK K;refine tk 16 (.pointer (some ⟨gq,q*6,none⟩)) (trivial) ?_;go_simp;refine rd1 17 λK hK=> ?_;refine cy rfl _ _ _ rfl gq (q*6) #[nt,nr,ni,Z,dd,.bool (!bh)] (by rfl) (by rfl) HT6.out (by kernel_rfl) HAX.out ?_;rw[<-HV2.out];refine hK.out _ _ (trivial) (λ_=> ?_);clear hK K;refine be (by kernel_rfl) ?_ _;go_simp;go_wp2;go_roundw
       case rel=>exact⟨q,by go_num,by omega,HIX2,hid (by rw[<-HSW.out];exact HP2.out),hid (HG2.out.2 HBq2.out (HOq2.out.lt gq rfl).1)⟩
       case measure=>(simp[RowKit.intOf];try omega)
    ·obtain rfl:q=0:=by omega
     go_upto_region 9 with fail;refine rqb ?_
     repeat(any_goals(first|go_big_quiet_step (fail)|quiet_step (fail)))
     refine qz λwq hBq=> ?_;have HS8:=hid (show((N.take (k+1)).foldl (stepI N V f0) [])=slid M (⟨⟨⟨nt,nr⟩,ni⟩,Z,dd,!bh⟩:Itm) 0 by rw[HS9.out];unfold insB;rw[<-HIX.out];rfl);have HL1:=hid (show m+1=(slid M (⟨⟨⟨nt,nr⟩,ni⟩,Z,dd,!bh⟩:Itm) 0).length by rw[eO,<-HML.out]);have HOx:=kO HOq hBq;have HBx:=bT HBq hBq;go_wp2;go_roundw
     case rel=>exact⟨k+1,some ⟨gq,0,none⟩,cap,m+1,_,by omega,by go_num,rfl,by omega,HL1,hid HS8.out.symm,HOx,HBx⟩
     case measure=>(simp[RowKit.intOf];omega)
  ·obtain rfl:k=N.length:=by omega
   have i2:¬(N.length:Int)<(N.length:Int):=by omega
   have HM9:=hid (show M=R by rw[HRR.out];have h9:=HM.out;rw[aK] at h9;exact h9);go_wp2;go_ret;refine⟨A',c',by rw[<-HM9.out,<-HML.out];rfl,?_,HB1.out.trans (HBr.out.mono HB1.out.size)⟩;rw[<-HM9.out,<-HML.out];exact iC HO.out HB1.out.size
end
section
open Go.RowKit Go.Lib Go.Sort
theorem pigeon:∀(n m:Nat) (f:Nat->Nat),(∀i,i<m->f i<n)->(∀i j,i<m->j<m->f i=f j->i=j)->m<=n
 |n,0,_,_,_=>aq _
 |0,m+1,f,h1,_=>absurd (h1 0 (Nat.succ_pos _)) (cG _)
 | n +1,m+1,f,h1,h2=>by
  have h:=pigeon n m (λi=>if f i=n then f m else f i) (λi hi=>by
   have a:=h1 i (by omega)
   have b:=h1 m (by omega)
   show(if f i=n then f m else f i)<n
   split
   ·rename_i e
    have:f m≠n:=λe2=>by have:=h2 i m (by omega) (by omega) (by rw[e,e2]);omega
    omega
   ·omega) (λi j hi hj e=>by
   have e:(if f i=n then f m else f i)=(if f j=n then f m else f j):=e
   split at e
   ·rename_i e1
    split at e
    ·rename_i e2
     exact h2 i j (by omega) (by omega) (by rw[e1,e2])
    ·have:=h2 m j (by omega) (by omega) e;omega
   ·split at e
    ·have:=h2 i m (by omega) (by omega) e;omega
    ·exact h2 i j (by omega) (by omega) e)
  omega
def reach (N:List Plc):Nat->Gid->Prop
 |0,x=>x= .zero
 |m+1,x=>x≠ .zero∧∃k,dZ N x=some k∧reach N m (N.getD k plc0).p
def ups (N:List Plc):Nat->Gid->Gid->Prop
 |0,x,y=>x=y
 |s+1,x,y=>∃k,dZ N x=some k∧ups N s (N.getD k plc0).p y
theorem reach_one {N:List Plc}:∀{m m':Nat} {x:Gid},reach N m x->reach N m' x->m=m'
 |0,0,_,_,_=>rfl
 |0,m'+1,_,h,h'=>absurd h h'.1
 |m+1,0,_,h,h'=>absurd h' h.1
 |m+1,m'+1,x,⟨_,k,hk,h⟩,⟨_,k',hk',h'⟩=>by
  rw[hk] at hk';cases hk'
  rw[reach_one h h']
theorem reach_idx {N:List Plc}:∀{m:Nat} {x:Gid},reach N m x->∃g:Nat->Nat,∀i,i<m->∃y,reach N (m-i) y∧dZ N y=some (g i)
 |0,_,_=>⟨λ_=>0,λi hi=>absurd hi (cG _)⟩
 | m+1,x,⟨hx,k,hk,h⟩=>by
  obtain⟨g,hg⟩:=reach_idx h
  refine⟨λi=>match i with|0=>k|i+1=>g i,λi hi=> ?_⟩
  cases i with
  |zero=>exact⟨x,⟨hx,k,hk,h⟩,hk⟩
  |succ i=>
   obtain⟨y,h1,h2⟩:=hg i (by omega)
   exact⟨y,by rw[show m+1-(i+1)=m-i by omega];exact h1,h2⟩
theorem reach_le {N:List Plc} {m:Nat} {x:Gid} (h:reach N m x):m<=N.length:=by
 obtain⟨g,hg⟩:=reach_idx h;refine pigeon _ _ g (λi hi=> ?_) (λi j hi hj e=> ?_)
 ·obtain⟨y,_,h2⟩:=hg i hi;exact(fL h2).1
 ·obtain⟨y,h1,h2⟩:=hg i hi;obtain⟨y',h1',h2'⟩:=hg j hj;have e1:=(fL h2).2;have e2:=(fL h2').2;rw[e,e2] at e1;rw[e1] at h1';have:=reach_one h1 h1';omega
theorem rooted_reach {N:List Plc} (hz:dZ N .zero=none):∀(f:Nat) (x:Gid),hY N f x=true->∃m,reach N (m+1) x
 |0,_,h=>by cases h
 | f +1,x,h=>by
  rw[hY] at h
  cases hk:dZ N x with
  |none=>rw[hk] at h;cases h
  | some k=>
   have hx:x≠ .zero:=λe=>by rw[e,hz] at hk;cases hk
   rw[hk] at h
   simp only at h
   by_cases hp:(N.getD k plc0).p.eqb .zero=true
   ·exact⟨0,hx,k,hk,Gid.eqb_iff.1 hp⟩
   ·rw[aC hp] at h
    cases hk2:dZ N (N.getD k plc0).p with
    |none=>rw[hk2] at h;cases h
    | some k2=>
     rw[hk2] at h
     simp only at h
     by_cases hd:(N.getD k2 plc0).dir=true
     ·rw[aJ hd] at h
      obtain⟨m,hm⟩:=rooted_reach hz f _ h
      exact⟨m+1,hx,k,hk,hm⟩
     ·rw[aC hd] at h;cases h
theorem within_ups {N:List Plc} (hz:dZ N .zero=none) {y:Gid} (hy:y≠ .zero):∀(f m:Nat) (x:Gid),m<f->reach N m x->gv N y f x=true->∃s,ups N s x y
 |0,m,x,hm,_,_=>absurd hm (cG _)
 | f +1,m,x,hm,hr,h=>by
  rw[gv] at h
  by_cases e:x.eqb y=true
  ·exact⟨0,Gid.eqb_iff.1 e⟩
  ·rw[aC e] at h
   cases hk:dZ N x with
   |none=>rw[hk] at h;cases h
   | some k=>
    rw[hk] at h
    cases m with
    |zero=>rw[show x= .zero from hr,hz] at hk;cases hk
    |succ m=>
     obtain⟨_,k',hk',hr'⟩:=hr
     rw[hk] at hk';cases hk'
     obtain⟨s,hs⟩:=within_ups hz hy f m _ (by omega) hr' h
     exact⟨s+1,k,hk,hs⟩
theorem ups_within {N:List Plc} {y:Gid}:∀(s f:Nat) (x:Gid),s<f->ups N s x y->gv N y f x=true
 |_,0,_,h,_=>absurd h (cG _)
 |0,f+1,x,_,h=>by rw[gv,aJ (Gid.eqb_iff.2 h)]
 |s+1,f+1,x,hs,⟨k,hk,h⟩=>by
  rw[gv]
  split
  ·rfl
  ·rw[hk];exact ups_within s f _ (by omega) h
theorem ups_tail {N:List Plc} {y:Gid} {k:Nat} (hk:dZ N y=some k):∀(s:Nat) (x:Gid),ups N s x y->ups N (s+1) x (N.getD k plc0).p
 |0,x,h=>by have h:x=y:=h;subst h;exact⟨k,hk,rfl⟩
 |s+1,x,⟨k',hk',h⟩=>⟨k',hk',ups_tail hk s _ h⟩
theorem ups_reach {N:List Plc} {y:Gid}:∀(s m:Nat) (x:Gid),(y≠ .zero->True)->reach N m x->dZ N .zero=none->ups N s x y->∃r,r+s=m∧reach N r y
 |0,m,x,_,hr,_,h=>by have h:x=y:=h;subst h;exact⟨m,rfl,hr⟩
 |s+1,0,x,_,hr,hz,⟨k,hk,h⟩=>by rw[show x= .zero from hr,hz] at hk;cases hk
 |s+1,m+1,x,t,⟨_,k',hk',hr⟩,hz,⟨k,hk,h⟩=>by
  rw[hk] at hk';cases hk'
  obtain⟨r,e,h2⟩:=ups_reach s m _ t hr hz h
  exact⟨r,by omega,h2⟩
theorem findP_mem {S:List Plc} {p:Plc} (h:p∈S):∃k,dZ S p.n=some k:=by
 cases e:dZ S p.n with
 |some k=>exact⟨k,rfl⟩
 |none=>
  unfold dZ at e;rw[List.findIdx?_eq_none_iff] at e;have:=e p h;rw[show p.n.eqb p.n=true from Gid.eqb_iff.2 rfl] at this;cases this
structure RightR (N:List Plc):Prop where
 one:∀p∈N,∀q∈N,p.n=q.n->p=q
 ok:∀p∈N,p.n.right=true∧ek p.name=true
theorem RightR.step {N:List Plc} (h:RightR N) (p:Plc):RightR (stepR N p):=by
 unfold stepR;split
 ·rename_i c;simp only[ap] at c;obtain⟨⟨c1,c2⟩,c3⟩:=c;have hno:∀q∈N,q.n≠p.n:=λq hq e=>by
   obtain⟨k,hk⟩:=findP_mem hq;rw[e] at hk;rw[hk] at c3;cases c3
  refine⟨λa ha b hb e=> ?_,λa ha=> ?_⟩
  ·rcases au.1 ha with ha|ha<;>rcases au.1 hb with hb|hb
   ·exact h.one a ha b hb e
   ·rw[aO.1 hb] at e;exact absurd e (hno a ha)
   ·rw[aO.1 ha] at e;exact absurd e.symm (hno b hb)
   ·rw[aO.1 ha,aO.1 hb]
  ·rcases au.1 ha with ha|ha
   ·exact h.ok a ha
   ·rw[aO.1 ha];exact⟨c1,c2⟩
 ·exact h
theorem RightR.fold:∀(l:List Plc) {N:List Plc},RightR N->RightR (l.foldl stepR N)
 | [],_,h=>h
 |p::l,_,h=>RightR.fold l (h.step p)
theorem rightP_ok (L:List Plc):RightR (fG L):=RightR.fold L ⟨λ_ h=>absurd h eZ,λ_ h=>absurd h eZ⟩
theorem RightR.zero {N:List Plc} (h:RightR N):dZ N .zero=none:=by
 cases e:dZ N .zero with
 |none=>rfl
 |some k=>
  obtain⟨hk,h2⟩:=fL e;have:=(h.ok _ (bL hk plc0)).1;rw[h2] at this;exact absurd this (by decide)
theorem climbs_seen {N:List Plc} {V:List Gid} (h:RightR N) {q:Plc} (hq:q∈N) (hv:V.any (λy=>y.eqb q.n)=true) (hro:jO N q.n=true) {m:Nat} (hm:reach N m q.n):
  ∀(r s f:Nat) (p:Plc),r+s=m->r<=f+1->p∈N->reach N r p.n->ups N s q.n p.n->iR (N.filter (gE N V)) f p=true
 |0,s,f,p,_,_,hp,hr,_=>by
  have:=(h.ok p hp).1
  rw[show p.n= .zero from hr] at this
  exact absurd this (by decide)
 | r +1,s,f,p,hrs,hf,hp,⟨hx,k,hk,hr⟩,hu=>by
  obtain⟨hk1,hk2⟩:=fL hk
  have hpk:N.getD k plc0=p:=h.one _ (bL hk1 plc0) _ hp hk2
  rw[hpk] at hr
  by_cases hz:p.p.eqb .zero=true
  ·cases f with
   |zero=>exact hz
   |succ f=>rw[iR,aJ hz]
  ·cases r with
   |zero=>exact absurd (Gid.eqb_iff.2 hr) hz
   | succ r=>
    have hr0:=hr
    obtain⟨hx2,k2,hk2',hr2⟩:=hr
    obtain⟨j1,j2⟩:=fL hk2'
    have hm2:=bL j1 plc0
    have hu2:ups N (s+1) q.n p.p:=by have:=ups_tail hk s _ hu;rw[hpk] at this;exact this
    have hml:=reach_le hm
    have hsee:gE N V (N.getD k2 plc0)=true:=by
     unfold gE;rw[dV];refine⟨q,hq,?_⟩;rw[hv,hro,j2];show gv N p.p (N.length+1) q.n=true;exact ups_within (s+1) _ _ (by omega) hu2
    have hmem:N.getD k2 plc0∈N.filter (gE N V):=g7.2 ⟨hm2,hsee⟩;obtain⟨k3,hk3⟩:=findP_mem hmem;obtain⟨l1,l2⟩:=fL hk3;have he:(N.filter (gE N V)).getD k3 plc0=N.getD k2 plc0:=h.one _ (g7.1 (bL l1 plc0)).1 _ hm2 l2;rw[j2] at hk3;cases f with
    |zero=>omega
    |succ f=>
     rw[iR,aC hz,hk3];show iR _ f _=true;rw[he];exact climbs_seen h hq hv hro hm (r+1) (s+1) f _ (by omega) (by omega) hm2 (by rw[j2];exact hr0) (by rw[j2];exact hu2)
theorem seen_climbs (L:List Plc) (V:List Gid) (f:Nat) (hf:L.length<=f+1):∀p∈iX L V,ek p.name=true∧iR (iX L V) f p=true:=by
 intro p hp;have h:=rightP_ok L;have hl:=rightP_len L;unfold iX at hp ⊢;generalize fG L=N at *;obtain⟨hp1,hp2⟩:=g7.1 hp;refine⟨(h.ok p hp1).2,?_⟩;unfold gE at hp2;obtain⟨q,hq,hc⟩:=dV.1 hp2;simp only[ap] at hc;obtain⟨⟨hv,hro⟩,hw⟩:=hc;obtain⟨m,hm⟩:=rooted_reach h.zero _ _ hro;have hml:=reach_le hm;have hpz:p.n≠ .zero:=λe=>by have:=(h.ok p hp1).1;rw[e] at this;exact absurd this (by decide)
 obtain⟨s,hs⟩:=within_ups h.zero hpz (N.length+1) (m+1) q.n (by omega) hm hw;obtain⟨r,e,hr⟩:=ups_reach s (m+1) q.n (λ_=>trivial) hm h.zero hs;exact climbs_seen h hq hv hro hm r s f p e (by omega) hp1 hr hs
end
section
open Go.RowKit Go.Lib Go.Sort
attribute [local go_sem ↓] Go.wp_at_zero Go.wp_at_succ
def hH (on:List Hd) (x:Hd):List Hd:=if on.any (λy=>y.u.eqb x.s)=true then on else on++[x]
def onH (l:List Hd):List Hd:=(jH l).foldl hH []
def onS (l:List Hd):List Gst:=(onH l).reverse.map (·.s)
theorem stepOn_len (on:List Hd) (x:Hd):(hH on x).length<=on.length+1:=by
 unfold hH;split
 ·omega
 ·rw[al,dy];exact aa _
theorem foldOn_len:∀(l:List Hd) (out:List Hd),(l.foldl hH out).length<=out.length+l.length
 | [],out=>aa _
 |x::l,out=>by
  have h1:=foldOn_len l (hH out x)
  have h2:=stepOn_len out x
  rw[dU,bG];omega
theorem onS_len (l:List Hd):(onS l).length<=l.length:=by
 unfold onS onH;rw[aQ,iT];have h1:=foldOn_len (jH l) [];have h2:=sortH_len l [];simp only[fU,bN] at h1 h2;exact aL h1 h2
theorem rev_step {M:List Hd} {q:Nat} (h:q<M.length):(M.drop q).reverse.map (·.s)=(M.drop (q+1)).reverse.map (·.s)++[(M.getD q hd0).s]:=by
 rw[iM h,List.reverse_cons,bq,ae,an h];rfl
theorem on_any (L:List Hd) (A:Option Addr) (c:Nat) (S:Nat->Prop) (w:World) (hl:L.length<=100000) (hR:RowF w S A 4 hdL hd0 L):
  Calls Tryz.prog 107 #[.slice A L.length c] w λe w'=>∃A' c',e= .returned (.slice A' (onS L).length c')∧w'.ownsRow w.heap.size 42 2 (.slice A' (onS L).length c') (onS L).length ((onS L).flatMap stL)∧Below w.heap.size w w':=by
 obtain⟨i0,hi,hz0,hz1,hz2⟩:=bD info_hd;obtain⟨i1,hi',hy0,hy1,hy2⟩:=bD info_st;have HSO:=hid (sortedh_any L A c S w hl hR);have hsl:=sortH_len L [];have HON:=hid (show(onS L).length=(onH L).length by unfold onS;rw[aQ,iT]);obtain⟨N,hN⟩:∃N,N=jH L:=⟨_,rfl⟩;obtain⟨R,hR9⟩:∃R,R=onS L:=⟨_,rfl⟩;have HRR:=hid (show R=(N.foldl hH []).reverse.map (·.s) by rw[hR9,hN];rfl);rw[<-hR9];rw[<-hN] at HSO;have hNl:N.length<=100000:=by rw[hN];simp only[fU,bN] at hsl;exact aL hsl hl
 clear hR hR9 hN hsl HON;go_enter Tryz.func107,Tryz.ntmps107;go_upto_region 4 with(go_at_call 166;refine HSO.out.mono ?_;rintro e w1 ⟨A1,c1,rfl,hown1,hB1⟩;have HN1:=hid hown1;have HB1:=hid hB1;clear hown1 hB1);go_loopw [4,5] (λo i wr=>∃(k:Nat) (A':Option Addr) (c' m:Nat) (M:List Hd),k<=N.length∧i= .int .i64 k∧o= .slice A' m c'∧m<=k∧Hid (m=M.length)∧Hid (M=(N.take k).foldl hH [])∧Hid (wr.ownsRow w1.heap.size 224 4 (.slice A' m c') m (M.flatMap hdL))∧Hid (Below w1.heap.size w1 wr)) (λo i _=>N.length-(RowKit.intOf i).toNat)
 case atStart=>exact⟨0,none,0,0,[],aq _,rfl,rfl,aa _,hid rfl,hid rfl,hid (aF _ _ _ _),hid (ag _ _)⟩
 case round=>
  obtain⟨k,A',c',m,M,hk,rfl,rfl,hmk,HML,HM,HO,HBr⟩:=hrel;by_cases hlt:k<N.length
  ·have i1:(0:Int)<=(k:Int):=by omega
   have i2:(k:Int)<(N.length:Int):=by omega
   obtain⟨rb,rfl,-,hrb,hrange⟩:=jY (f:=hdL) (λ_=>rfl) HN1.out hlt hd0;have hst:(N.take (k+1)).foldl hH []=hH M (N.getD k hd0):=by rw[HM.out];exact eL _ _ hlt hd0
   generalize N.getD k hd0=p at *;obtain⟨⟨t,r⟩,⟨ut,ur⟩⟩:=p;have HRW:=hid (λW (hB:Below w1.heap.size w1 W)=>show W.rangeAt rb (k*4) [t,r,ut,ur] from cd hrange hrb hB);have HST:=hid hst;have hsz:=HBr.out.size;clear hrange hrb hst;generalize wr=w0 at *;go_upto_region 8 with fail;go_loopw [6,7] (λh i wr=>∃(j:Nat) (b:Bool),j<=m∧i= .int .i64 j∧h= .bool b∧Hid (b=(M.take j).any (λy:Hd=>y.u.eqb ⟨t,r⟩))∧Hid (Below w0.heap.size w0 wr)) (λh i _=>m-(RowKit.intOf i).toNat)
   case atStart=>exact⟨0,false,aq _,rfl,rfl,hid rfl,hid (ag _ _)⟩
   case round=>
    obtain⟨j,b,hj,rfl,rfl,HB,HBj⟩:=hrel;have HBw:=hid (HBr.out.trans (HBj.out.mono hsz));have HOj:=kO HO HBj.out;by_cases hjm:j<m
    ·have j1:(0:Int)<=(j:Int):=by omega
     have j2:(j:Int)<(m:Int):=by omega
     obtain⟨g2,rfl,-,hg2,hr2⟩:=cz (f:=hdL) (λ_=>rfl) HML.out HOj.out hjm hd0;have htk:(M.take (j+1)).any (λy:Hd=>y.u.eqb ⟨t,r⟩)=((M.take j).any (λy:Hd=>y.u.eqb ⟨t,r⟩) || (λy:Hd=>y.u.eqb ⟨t,r⟩) (M.getD j hd0)):=by rw[dF (by rw[<-HML.out];exact hjm) hd0,jp];simp
     generalize M.getD j hd0=y at *;obtain⟨⟨t2,r2⟩,⟨ut2,ur2⟩⟩:=y;obtain⟨b2,hb2⟩:∃b,b=(λy:Hd=>y.u.eqb ⟨t,r⟩) ⟨⟨t2,r2⟩,⟨ut2,ur2⟩⟩:=⟨_,rfl⟩;have q1:=eq_st ut2 ur2 t r b2 hb2.symm;have HTK:=hid (show(M.take (j+1)).any (λy:Hd=>y.u.eqb ⟨t,r⟩)=(b || b2) by rw[htk,HB.out,hb2]);have y2:=aj (hr2 2 _ rfl);have y3:=aj (hr2 3 _ rfl);have x0:=aj (w:=wr) (a:=⟨rb,k*4,none⟩) (v:= .int .i64 t) ((HRW.out wr HBw.out) 0 _ rfl);have x1:=aj (w:=wr) (a:=⟨rb,k*4+1,none⟩) (v:= .int .i64 r) ((HRW.out wr HBw.out) 1 _ rfl);clear hr2 hb2 htk;cases b with
     |true=>
      go_upto_region 10 with fail;refine rqb ?_
      repeat(any_goals(first|go_big_quiet_step (fail)|quiet_step (fail)))
      refine qz λwq hBq=> ?_;go_wp2;go_roundw
      case rel=>exact⟨j+1,true,by omega,by go_num,rfl,hid (by rw[HTK.out];rfl),bT HBj hBq⟩
      case measure=>(simp[RowKit.intOf];omega)
     |false=>
      go_upto_region 10 with fail;refine rqb ?_
      repeat(any_goals(first|go_big_quiet_step (fail)|quiet_step (fail)))
      refine qz λwq hBq=> ?_;go_wp2;go_roundw
      case rel=>exact⟨j+1,b2,by omega,by go_num,rfl,hid (by rw[HTK.out];rfl),bT HBj hBq⟩
      case measure=>(simp[RowKit.intOf];omega)
    ·obtain rfl:j=m:=by omega
     have j2:¬(j:Int)<(j:Int):=by omega
     have hany:b=M.any (λy:Hd=>y.u.eqb ⟨t,r⟩):=by rw[HB.out,HML.out,aK]
     cases b with
     |true=>
      have HS9:=hid (show((N.take (k+1)).foldl hH [])=M by rw[HST.out];unfold hH;rw[aJ hany.symm]);clear hany;go_wp2;go_roundw
      case rel=>exact⟨k+1,A',c',j,M,by omega,by go_num,rfl,by omega,HML,hid HS9.out.symm,HOj,HBw⟩
      case measure=>(simp[RowKit.intOf];omega)
     | false=>
      have HS9:=hid (show((N.take (k+1)).foldl hH [])=M++[⟨⟨t,r⟩,⟨ut,ur⟩⟩] by rw[HST.out];unfold hH;rw[aC (by rw[<-hany];decide)]);clear hany;have HRGq:=hid (HRW.out wr HBw.out);have hszw:=HBw.out.size;have hszq:=HBj.out.size
      go_wp2_with (first
       |(refine lM HRGq iI ?_)
       |(at_builtin;refine bX _ rfl _ _ 157 rfl w1.heap.size 224 i0 (.agg #[(0:Int),(0:Int),(0:Int),(0:Int)]) 4 32 Tryz.underlying157 hi hz0 hz1 hz2 rfl (by decide) (.slice A' j c') j _ rfl (by exact HOj.out.alloc _) ⟨wr.heap.size,0,none⟩ 1 1 [t,r,ut,ur] rfl rfl (λj y h=>dH wr [t,r,ut,ur] 224 j y h) (fw (c:=#[t,r,ut,ur]) rfl) (by decide) (by unfold maxLen;omega) (by omega) (by simp;omega) (wr.heap.size+1) (by simp) ?_;intro gq cap w5 hown hgrow ha hlt5;have HO5:=hid hown;have HB5:=hid ((HBw.out.alloc hszw _).grown hgrow (by simp;omega) (λb hb=>(HOj.out.lt b hb).1));clear hown hgrow ha hlt5))
      go_roundw
      case rel=>exact⟨k+1,some ⟨gq,0,none⟩,cap,j+1,_,by omega,by go_num,rfl,by omega,hid (by rw[al,<-HML.out];rfl),hid HS9.out.symm,hid (by rw[aI];exact HO5.out),HB5⟩
      case measure=>(simp[RowKit.intOf];omega)
  ·obtain rfl:k=N.length:=by omega
   have i2:¬(N.length:Int)<(N.length:Int):=by omega
   have HM9:=hid (show M=N.foldl hH [] by have h9:=HM.out;rw[aK] at h9;exact h9);have hm9:m<=100000:=by omega
   generalize wr=w7 at *;go_upto_region 15 with fail;go_loopw [8,9] (λo i wr=>∃(q:Nat) (A9:Option Addr) (c9 n9:Nat),q<=m∧q+n9=m∧i= .int .i64 ((q:Int)-1)∧o= .slice A9 n9 c9∧Hid (wr.ownsRow w7.heap.size 42 2 (.slice A9 n9 c9) n9 (((M.drop q).reverse.map (·.s)).flatMap stL))∧Hid (Below w7.heap.size w7 wr)) (λo i _=>(RowKit.intOf i+1).toNat)
   case atStart=>exact⟨m,none,0,0,aa _,by omega,by go_num,rfl,hid (by rw[HML.out,List.drop_length];exact aF _ _ _ _),hid (ag _ _)⟩
   case round=>
    obtain⟨q,A9,c9,n9,hq,hqn,rfl,rfl,HO9,HB9⟩:=hrel;have HBw:=bT HBr HB9.out;by_cases h0:0<q
    ·obtain⟨q,rfl⟩:∃p,q=p+1:=⟨q-1,by omega⟩;have hqM:q<M.length:=by rw[<-HML.out];omega
     obtain⟨g2,rfl,-,hg2,hr2⟩:=cz (f:=hdL) (λ_=>rfl) HML.out HO.out (k:=q) (by omega) hd0;have hrs:=rev_step hqM;generalize M.getD q hd0=y at *;obtain⟨⟨t,r⟩,⟨ut,ur⟩⟩:=y;have HRX:=hid (show wr.rangeAt g2 (q*4) [t,r] from bv (pre:=[]) (post:=[ut,ur]) (cd hr2 hg2 HB9.out));have HRS:=hid hrs;have e0:(((q+1:Nat):Int)-1)=(q:Int):=by omega
     rw[e0];have k1:(0:Int)<=(q:Int):=by omega
     have k2:(q:Int)<(m:Int):=by omega
     have k3:IntKind.i64.wrap ((q:Int)-1)=(q:Int)-1:=by rw[bz];omega
     have hszw:=HB9.out.size;have hn9:n9<=100000:=by omega
     clear hr2 hrs e0
     go_wp2_with (first
      |(refine lM HRX cb ?_)
      |(at_builtin;refine bX _ rfl _ _ 100 rfl w7.heap.size 42 i1 (.agg #[(0:Int),(0:Int)]) 2 16 Tryz.underlying100 hi' hy0 hy1 hy2 rfl (by decide) (.slice A9 n9 c9) n9 _ rfl (by exact HO9.out.alloc _) ⟨wr.heap.size,0,none⟩ 1 1 [t,r] rfl rfl (λj y h=>dH wr [t,r] 42 j y h) (fw (c:=#[t,r]) rfl) (by decide) (by unfold maxLen;omega) (by omega) (by simp;omega) (wr.heap.size+1) (by simp) ?_;intro gq cap w5 hown hgrow ha hlt5;have HO5:=hid hown;have HB5:=hid ((HB9.out.alloc hszw _).grown hgrow (by simp;omega) (λb hb=>(HO9.out.lt b hb).1));clear hown hgrow ha hlt5))
     go_roundw
     case rel=>exact⟨q,some ⟨gq,0,none⟩,cap,n9+1,by omega,by omega,by go_num,rfl,hid (by rw[HRS.out,aI];exact HO5.out),HB5⟩
     case measure=>(simp[RowKit.intOf];try omega)
    ·obtain rfl:q=0:=by omega
     rw[show(((0:Nat):Int)-1)= -1 by rfl];obtain rfl:n9=m:=by omega
     have HRL:=hid (show R=M.reverse.map (·.s) by rw[HRR.out,HM9.out]);have HRN:=hid (show R.length=n9 by rw[HRL.out,aQ,iT,HML.out]);have HO8:=hid (show wr.ownsRow w7.heap.size 42 2 (.slice A9 n9 c9) n9 (R.flatMap stL) by rw[HRL.out];exact HO9.out);go_wp2;go_ret;refine⟨A9,c9,by rw[HRN.out];rfl,?_,HB1.out.trans (HBw.out.mono HB1.out.size)⟩;rw[HRN.out];have h9:=HB1.out.size;have h8:=HBr.out.size;rcases HO8.out.2 with⟨e1,e2⟩|⟨g,cap,cur,e1,e2,e3⟩
     ·exact⟨HO8.out.1,.inl ⟨e1,e2⟩⟩
     ·exact⟨HO8.out.1,.inr ⟨g,cap,cur,e1,by omega,e3⟩⟩
end
section
open Go.RowKit Go.Lib Go.Sort
def apart (u v:Value):Prop:=∀g,u.ownBlock=some g->v.ownBlock=some g->False
theorem apart.symm {u v:Value} (h:apart u v):apart v u:=λg a b=>h g b a
theorem apart.kept {u v:Value} (h:apart u v):u.ownBlock=none∨u.ownBlock≠v.ownBlock:=by
 cases e:u.ownBlock with
 |none=>exact .inl rfl
 |some g=>exact .inr λe2=>h g e e2.symm
theorem apart.new {u v:Value} {g n cap N:Nat} (h:apart u v) (hat:u.ownBlock=some g∨g=N) (hv:∀b,v.ownBlock=some b->b<N):apart (.slice (some ⟨g,0,none⟩) n cap) v:=λb e1 e2=>by
 have e1:some g=some b:=e1
 cases e1
 rcases hat with h1|h1
 ·exact h g h1 e2
 ·have:=hv g e2;omega
theorem apart.nil {v:Value}:apart (.slice none 0 0) v:=λg e _=>by cases e
structure OfI (B sb onb kb:Nat) (onA:Option Addr) (ON:List Gst) (ko:Obj) (so sh sl:Value) (w1 wr:World) (va vt vh vl:Value) (na nt nh nl:Nat) (AT:List Gid) (TL:List Plc) (HV LS:List Dt):Prop where
 ea:na=AT.length
 et:nt=TL.length
 eh:nh=HV.length
 el:nl=LS.length
 oa:wr.ownsRow B 108 3 va na (AT.flatMap idL)
 ot:wr.ownsRow B 161 8 vt nt (TL.flatMap plcL)
 oh:wr.ownsRow B 163 5 vh nh (HV.flatMap dtL)
 ol:wr.ownsRow B 163 5 vl nl (LS.flatMap dtL)
 dat:apart va vt
 dah:apart va vh
 dal:apart va vl
 dth:apart vt vh
 dtl:apart vt vl
 dhl:apart vh vl
 st:wr.heap[sb]? =some (.cells #[so,.slice none 0 0,sh,sl,.slice none 0 0] 105 (0,0))
 on:RowF wr (λb=>b=onb) onA 2 stL Gst.zero ON
 ke:wr.heap[kb]? =some ko
 ka:va.ownBlock≠some kb
 kt:vt.ownBlock≠some kb
 kh:vh.ownBlock≠some kb
 kl:vl.ownBlock≠some kb
 ks:kb≠sb
 bl:Below w1.heap.size w1 wr
 sz:B<=wr.heap.size
 s1:w1.heap.size<=sb
 s2:sb<B
 o1:onb<B
 o2:onb≠sb
section
variable {B sb onb kb : Nat} {onA : Option Addr} {ON : List Gst} {ko : Obj} {so sh sl : Value} {w1 wr w' : World} {va vt vh vl : Value} {na nt nh nl : Nat} {AT : List Gid} {TL : List Plc} {HV LS : List Dt}
theorem ge_none {u:Value} {r:Option Nat} (h:r=none):u.ownBlock=none∨u.ownBlock≠r:=by
 cases e:u.ownBlock with
 |none=>exact .inl rfl
 |some g=>rw[h];exact .inr (by simp)
theorem OfI.below (h:OfI B sb onb kb onA ON ko so sh sl w1 wr va vt vh vl na nt nh nl AT TL HV LS) (hB:Below wr.heap.size wr w'):OfI B sb onb kb onA ON ko so sh sl w1 w' va vt vh vl na nt nh nl AT TL HV LS:=by
 have hg:wr.grownBy w' none:=dg hB;refine⟨h.ea,h.et,h.eh,h.el,h.oa.kept hg (ge_none rfl),h.ot.kept hg (ge_none rfl),h.oh.kept hg (ge_none rfl),h.ol.kept hg (ge_none rfl),h.dat,h.dah,h.dal,h.dth,h.dtl,h.dhl,(hB.block _ (lt_of_block h.st)).trans h.st,h.on.below hB,(hB.block _ (lt_of_block h.ke)).trans h.ke,h.ka,h.kt,h.kh,h.kl,h.ks,h.bl.trans (hB.mono (aL h.s1 (Nat.le_of_lt (lt_of_block h.st)))),aL h.sz hB.size,h.s1,h.s2,h.o1,h.o2⟩
theorem OfI.newk (h:OfI B sb onb kb onA ON ko so sh sl w1 wr va vt vh vl na nt nh nl AT TL HV LS) (o:Obj):OfI B sb onb wr.heap.size onA ON o so sh sl w1 (wr.alloc o) va vt vh vl na nt nh nl AT TL HV LS:=by
 have k:=h.below ((ag _ _).alloc (aa _) o);exact⟨k.ea,k.et,k.eh,k.el,k.oa,k.ot,k.oh,k.ol,k.dat,k.dah,k.dal,k.dth,k.dtl,k.dhl,k.st,k.on,am wr o,λe=>by have:=(h.oa.lt _ e).2;omega,λe=>by have:=(h.ot.lt _ e).2;omega,λe=>by have:=(h.oh.lt _ e).2;omega,λe=>by have:=(h.ol.lt _ e).2;omega,λe=>by have:=lt_of_block h.st;omega,k.bl,k.sz,k.s1,k.s2,k.o1,k.o2⟩
theorem OfI.core (h:OfI B sb onb kb onA ON ko so sh sl w1 wr va vt vh vl na nt nh nl AT TL HV LS) {u:Value} (hu:∀g,u.ownBlock=some g->B<=g) (hk:u.ownBlock≠some kb) (hg:wr.grownBy w' u.ownBlock):
  w'.heap[sb]? =some (.cells #[so,.slice none 0 0,sh,sl,.slice none 0 0] 105 (0,0))∧RowF w' (λb=>b=onb) onA 2 stL Gst.zero ON∧w'.heap[kb]? =some ko∧Below w1.heap.size w1 w'∧B<=w'.heap.size:=by
 refine⟨(hg.block sb (lt_of_block h.st) (λe=>by have:=hu sb e.symm;have:=h.s2;omega)).trans h.st,h.on.agr (Agr.grown hg λg e1 e2=> ?_),(hg.block kb (lt_of_block h.ke) (λe=>hk e.symm)).trans h.ke,h.bl.grown hg h.bl.size (λb e=> ?_),aL h.sz hg.size⟩
 ·have e2:g=onb:=e2;have:=hu g e1;have:=h.o1;omega
 ·have:=hu b e;have:=h.s1;have:=h.s2;omega
theorem new_ne {u:Value} {g n cap N P:Nat} (h:u.ownBlock≠some P) (hat:u.ownBlock=some g∨g=N) (hP:P<N):(Value.slice (some ⟨g,0,none⟩) n cap).ownBlock≠some P:=λe=>by
 have e:some g=some P:=e
 cases e
 rcases hat with h1|h1
 ·exact h h1
 ·omega
theorem OfI.app_a (h:OfI B sb onb kb onA ON ko so sh sl w1 wr va vt vh vl na nt nh nl AT TL HV LS) {g cap:Nat} (x:Gid) (ho:w'.ownsRow B 108 3 (.slice (some ⟨g,0,none⟩) (na+1) cap) (na+1) (AT.flatMap idL++idL x)) (hg:wr.grownBy w' va.ownBlock) (hat:va.ownBlock=some g∨g=wr.heap.size):
  OfI B sb onb kb onA ON ko so sh sl w1 w' (.slice (some ⟨g,0,none⟩) (na+1) cap) vt vh vl (na+1) nt nh nl (AT++[x]) TL HV LS:=by
 obtain⟨c1,c2,c3,c4,c5⟩:=h.core (λb e=>(h.oa.lt b e).1) h.ka hg
 exact⟨by rw[al,<-h.ea];rfl,h.et,h.eh,h.el,by rw[aI];simpa using ho,h.ot.kept hg h.dat.symm.kept,h.oh.kept hg h.dah.symm.kept,h.ol.kept hg h.dal.symm.kept,
  h.dat.new hat (λb e=>(h.ot.lt b e).2),h.dah.new hat (λb e=>(h.oh.lt b e).2),h.dal.new hat (λb e=>(h.ol.lt b e).2),h.dth,h.dtl,h.dhl,c1,c2,c3,new_ne h.ka hat (lt_of_block h.ke),h.kt,h.kh,h.kl,h.ks,c4,c5,h.s1,h.s2,h.o1,h.o2⟩
theorem OfI.app_t (h:OfI B sb onb kb onA ON ko so sh sl w1 wr va vt vh vl na nt nh nl AT TL HV LS) {g cap:Nat} (x:Plc) (ho:w'.ownsRow B 161 8 (.slice (some ⟨g,0,none⟩) (nt+1) cap) (nt+1) (TL.flatMap plcL++plcL x)) (hg:wr.grownBy w' vt.ownBlock) (hat:vt.ownBlock=some g∨g=wr.heap.size):
  OfI B sb onb kb onA ON ko so sh sl w1 w' va (.slice (some ⟨g,0,none⟩) (nt+1) cap) vh vl na (nt+1) nh nl AT (TL++[x]) HV LS:=by
 obtain⟨c1,c2,c3,c4,c5⟩:=h.core (λb e=>(h.ot.lt b e).1) h.kt hg
 exact⟨h.ea,by rw[al,<-h.et];rfl,h.eh,h.el,h.oa.kept hg h.dat.kept,by rw[aI];simpa using ho,h.oh.kept hg h.dth.symm.kept,h.ol.kept hg h.dtl.symm.kept,
  (h.dat.symm.new hat (λb e=>(h.oa.lt b e).2)).symm,h.dah,h.dal,h.dth.new hat (λb e=>(h.oh.lt b e).2),h.dtl.new hat (λb e=>(h.ol.lt b e).2),h.dhl,c1,c2,c3,h.ka,new_ne h.kt hat (lt_of_block h.ke),h.kh,h.kl,h.ks,c4,c5,h.s1,h.s2,h.o1,h.o2⟩
theorem OfI.app_h (h:OfI B sb onb kb onA ON ko so sh sl w1 wr va vt vh vl na nt nh nl AT TL HV LS) {g cap:Nat} (x:Dt) (ho:w'.ownsRow B 163 5 (.slice (some ⟨g,0,none⟩) (nh+1) cap) (nh+1) (HV.flatMap dtL++dtL x)) (hg:wr.grownBy w' vh.ownBlock) (hat:vh.ownBlock=some g∨g=wr.heap.size):
  OfI B sb onb kb onA ON ko so sh sl w1 w' va vt (.slice (some ⟨g,0,none⟩) (nh+1) cap) vl na nt (nh+1) nl AT TL (HV++[x]) LS:=by
 obtain⟨c1,c2,c3,c4,c5⟩:=h.core (λb e=>(h.oh.lt b e).1) h.kh hg
 exact⟨h.ea,h.et,by rw[al,<-h.eh];rfl,h.el,h.oa.kept hg h.dah.kept,h.ot.kept hg h.dth.kept,by rw[aI];simpa using ho,h.ol.kept hg h.dhl.symm.kept,
  h.dat,(h.dah.symm.new hat (λb e=>(h.oa.lt b e).2)).symm,h.dal,(h.dth.symm.new hat (λb e=>(h.ot.lt b e).2)).symm,h.dtl,h.dhl.new hat (λb e=>(h.ol.lt b e).2),c1,c2,c3,h.ka,h.kt,new_ne h.kh hat (lt_of_block h.ke),h.kl,h.ks,c4,c5,h.s1,h.s2,h.o1,h.o2⟩
theorem OfI.app_l (h:OfI B sb onb kb onA ON ko so sh sl w1 wr va vt vh vl na nt nh nl AT TL HV LS) {g cap:Nat} (x:Dt) (ho:w'.ownsRow B 163 5 (.slice (some ⟨g,0,none⟩) (nl+1) cap) (nl+1) (LS.flatMap dtL++dtL x)) (hg:wr.grownBy w' vl.ownBlock) (hat:vl.ownBlock=some g∨g=wr.heap.size):
  OfI B sb onb kb onA ON ko so sh sl w1 w' va vt vh (.slice (some ⟨g,0,none⟩) (nl+1) cap) na nt nh (nl+1) AT TL HV (LS++[x]):=by
 obtain⟨c1,c2,c3,c4,c5⟩:=h.core (λb e=>(h.ol.lt b e).1) h.kl hg
 exact⟨h.ea,h.et,h.eh,by rw[al,<-h.el];rfl,h.oa.kept hg h.dal.kept,h.ot.kept hg h.dtl.kept,h.oh.kept hg h.dhl.kept,by rw[aI];simpa using ho,
  h.dat,h.dah,(h.dal.symm.new hat (λb e=>(h.oa.lt b e).2)).symm,h.dth,(h.dtl.symm.new hat (λb e=>(h.ot.lt b e).2)).symm,(h.dhl.symm.new hat (λb e=>(h.oh.lt b e).2)).symm,c1,c2,c3,h.ka,h.kt,h.kh,new_ne h.kl hat (lt_of_block h.ke),h.ks,c4,c5,h.s1,h.s2,h.o1,h.o2⟩
theorem OfI.put (h:OfI B sb onb kb onA ON ko so sh sl w1 wr va vt vh vl na nt nh nl AT TL HV LS) (i:Nat) (v:Value) {so' sh' sl':Value} (hc:(#[so,.slice none 0 0,sh,sl,.slice none 0 0]:Array Value).setIfInBounds i v=#[so',.slice none 0 0,sh',sl',.slice none 0 0]):
  OfI B sb onb kb onA ON ko so' sh' sl' w1 (wr.setCell ⟨sb,i,none⟩ v) va vt vh vl na nt nh nl AT TL HV LS:=by
 have hg:=eF (w:=wr) sb i v;have ne:∀{u:Value} {E s n:Nat} {xs:List Value},wr.ownsRow B E s u n xs->u.ownBlock=none∨u.ownBlock≠some sb:=λho=> .inr λe=>by have:=(ho.lt _ e).1;have:=h.s2;omega
 exact⟨h.ea,h.et,h.eh,h.el,h.oa.kept hg (ne h.oa),h.ot.kept hg (ne h.ot),h.oh.kept hg (ne h.oh),h.ol.kept hg (ne h.ol),h.dat,h.dah,h.dal,h.dth,h.dtl,h.dhl,gI h.st i v hc,
  h.on.agr (Agr.grown hg λg e1 e2=>by cases e1;exact h.o2 (show sb=onb from e2).symm),(hg.block kb (lt_of_block h.ke) (λe=>by cases e;exact h.ks rfl)).trans h.ke,h.ka,h.kt,h.kh,h.kl,h.ks,h.bl.grown hg h.bl.size (λb e=>by cases e;exact h.s1),aL h.sz hg.size,h.s1,h.s2,h.o1,h.o2⟩
end
def oAt (b:Bool) (s:Gst) (ops:List Gop) (i:Nat):List Gid:=if ((decide ((ops.getD i (opO 0 .zero)).kind=0)) || (decide ((ops.getD i (opO 0 .zero)).kind=1) && b))=true then [⟨s,(i:Int)⟩] else []
def oTl (b:Bool) (ops:List Gop) (i:Nat):List Plc:=if ((decide ((ops.getD i (opO 0 .zero)).kind=0)) || (decide ((ops.getD i (opO 0 .zero)).kind=1) && b))=true then [⟨(ops.getD i (opO 0 .zero)).node,(ops.getD i (opO 0 .zero)).parent,(ops.getD i (opO 0 .zero)).name,(ops.getD i (opO 0 .zero)).dir⟩] else []
def oHv (b:Bool) (s:Gst) (ops:List Gop) (i:Nat):List Dt:=if (b && !(decide ((ops.getD i (opO 0 .zero)).kind=2)))=true then [⟨(ops.getD i (opO 0 .zero)).node,s⟩] else []
def oLs (b:Bool) (ops:List Gop) (i:Nat):List Dt:=if b=true then (ops.getD i (opO 0 .zero)).dots.map (λd=>⟨(ops.getD i (opO 0 .zero)).node,d⟩) else []
def upto {α:Type} (f:Nat->List α) (n:Nat):List α:=(List.range n).flatMap f
theorem fg {α:Type} (f:Nat->List α) (n:Nat):upto f (n+1)=upto f n++f n:=by
 unfold upto;rw[List.range_succ,aI];simp
def onB (ON:List Gst) (s:Gst):Bool:=ON.any (λy=>y.eqb s)
def gAt (ON:List Gst) (L:List (Grp×GrX)) (k:Nat):List Gid:=upto (oAt (onB ON (L.getD k gp0).1.s) (L.getD k gp0).1.s (L.getD k gp0).1.ops) (L.getD k gp0).1.ops.length
def gTl (ON:List Gst) (L:List (Grp×GrX)) (k:Nat):List Plc:=upto (oTl (onB ON (L.getD k gp0).1.s) (L.getD k gp0).1.ops) (L.getD k gp0).1.ops.length
def gHv (ON:List Gst) (L:List (Grp×GrX)) (k:Nat):List Dt:=upto (oHv (onB ON (L.getD k gp0).1.s) (L.getD k gp0).1.s (L.getD k gp0).1.ops) (L.getD k gp0).1.ops.length
def gLs (ON:List Gst) (L:List (Grp×GrX)) (k:Nat):List Dt:=upto (oLs (onB ON (L.getD k gp0).1.s) (L.getD k gp0).1.ops) (L.getD k gp0).1.ops.length
def onG (L:List (Grp×GrX)):List Gst:=onS (L.map hdOf)
def jL (L:List (Grp×GrX)):List Dt:=upto (gHv (onG L) L) L.length
def jK (L:List (Grp×GrX)):List Dt:=upto (gLs (onG L) L) L.length
theorem slid_perm {α:Type} (L:List α) (x:α) (k:Nat):(slid L x k).Perm (x::L):=by
 unfold slid;refine List.perm_middle.trans ?_;rw[dx]
theorem insB_perm {α:Type} (p:α->Bool) (z:α) (L:List α) (x:α):(insB p z L x).Perm (x::L):=slid_perm _ _ _
theorem insB_mem {α:Type} {p:α->Bool} {z:α} {L:List α} {x y:α}:y∈insB p z L x↔y=x∨y∈L:=by
 rw[(insB_perm p z L x).mem_iff,bY]
theorem stepT_mem {out:List Told} {x y:Told} (h:y∈stepT out x):y=x∨y∈out:=by
 unfold stepT at h;split at h
 ·exact .inr h
 ·exact insB_mem.1 h
theorem sortT_mem':∀(l:List Told) {out:List Told} {y:Told},y∈l.foldl stepT out->y∈l∨y∈out
 | [],out,y,h=> .inr h
 | x::l,out,y,h=>by
  rcases sortT_mem' l h with h1|h1
  ·exact .inl (by simp[h1])
  ·rcases stepT_mem h1 with rfl|h2
   ·exact .inl (by simp)
   ·exact .inr h2
theorem stepP_name {out:List Plc} {x:Told} {p:Plc} (h:p∈g8 out x):p.name=x.p.name∨p∈out:=by
 unfold g8 at h;split at h
 ·exact .inr h
 ·split at h
  ·rcases List.mem_or_eq_of_mem_set h with h1|rfl
   ·exact .inr h1
   ·exact .inl rfl
  ·rcases insB_mem.1 h with rfl|h1
   ·exact .inl rfl
   ·exact .inr h1
theorem foldP_name:∀(l:List Told) {out:List Plc} {p:Plc},p∈l.foldl g8 out->(∃x∈l,p.name=x.p.name)∨p∈out
 | [],out,p,h=> .inr h
 | x::l,out,p,h=>by
  rcases foldP_name l h with⟨y,hy,e⟩|h1
  ·exact .inl ⟨y,by simp[hy],e⟩
  ·rcases stepP_name h1 with e|h2
   ·exact .inl ⟨x,by simp,e⟩
   ·exact .inr h2
theorem replay_name {l:List Told} {p:Plc} (h:p∈fH l):∃x∈l,p.name=x.p.name:=by
 rcases foldP_name _ h with⟨x,hx,e⟩|h1
 ·rcases sortT_mem' l hx with h2|h2
  ·exact⟨x,h2,e⟩
  ·cases h2
 ·cases h1
theorem made_name {L:List (Grp×GrX)} {P:List Plc} {q:Plc} (h:q∈gV L P):∃p∈P,q.name=p.name:=by
 unfold gV at h;rw[dI] at h;obtain⟨p,hp,h⟩:=h;unfold iZ at h;rw[dI] at h;obtain⟨g,hg,h⟩:=h;unfold opsM at h;rw[bj] at h;obtain⟨o,ho,rfl⟩:=h;exact⟨p,hp,rfl⟩
theorem opsM_len (p:Plc) (l:List Gop):(opsM p l).length<=l.length:=by
 unfold opsM;rw[aQ];exact ig _ _
theorem madeP_len (p:Plc):∀(L:List (Grp×GrX)),(∀g∈L,g.1.ops.length<=2)->(iZ L p).length<=2*L.length
 | [],_=>aa _
 |g::L,h=>by
  have h1:=madeP_len p L λx hx=>h x (by simp[hx])
  have h2:=h g (by simp)
  have h3:=opsM_len p g.1.ops
  unfold iZ at h1 ⊢
  rw[cW,al,bG]
  omega
theorem madeL_len (L:List (Grp×GrX)) (h:∀g∈L,g.1.ops.length<=2):∀(P:List Plc),(gV L P).length<=2*L.length*P.length
 | []=>aq _
 |p::P=>by
  have h1:=madeL_len L h P
  have h2:=madeP_len p L h
  unfold gV at h1 ⊢
  rw[cW,al,bG,Nat.mul_add,jE]
  omega
theorem upto_map {α β:Type} (f:Nat->List α) (g:α->β) (n:Nat):(upto f n).map g=upto (λi=>(f i).map g) n:=by
 unfold upto;rw[List.map_flatMap]
theorem kp {α:Type} {f g:Nat->List α} {n:Nat} (h:∀i,f i=g i):upto f n=upto g n:=by
 have:f=g:=funext h;rw[this]
def oTo (b:Bool) (s:Gst) (ops:List Gop) (i:Nat):List Told:=if ((decide ((ops.getD i (opO 0 .zero)).kind=0)) || (decide ((ops.getD i (opO 0 .zero)).kind=1) && b))=true then [⟨⟨s,(i:Int)⟩,⟨(ops.getD i (opO 0 .zero)).node,(ops.getD i (opO 0 .zero)).parent,(ops.getD i (opO 0 .zero)).name,(ops.getD i (opO 0 .zero)).dir⟩⟩] else []
def gTo (ON:List Gst) (L:List (Grp×GrX)) (k:Nat):List Told:=upto (oTo (onB ON (L.getD k gp0).1.s) (L.getD k gp0).1.s (L.getD k gp0).1.ops) (L.getD k gp0).1.ops.length
theorem gTo_a (ON:List Gst) (L:List (Grp×GrX)) (n:Nat):(upto (gTo ON L) n).map (·.a)=upto (gAt ON L) n:=by
 rw[upto_map];refine kp λi=> ?_;unfold gTo gAt;rw[upto_map];refine kp λj=> ?_;unfold oTo oAt;split<;>rfl
theorem gTo_p (ON:List Gst) (L:List (Grp×GrX)) (n:Nat):(upto (gTo ON L) n).map (·.p)=upto (gTl ON L) n:=by
 rw[upto_map];refine kp λi=> ?_;unfold gTo gTl;rw[upto_map];refine kp λj=> ?_;unfold oTo oTl;split<;>rfl
def toldG (L:List (Grp×GrX)):List Told:=upto (gTo (onG L) L) L.length
def fN (L:List (Grp×GrX)):List Plc:=gV L (fH (toldG L))
def liveG (L:List (Grp×GrX)):List Gid:=gW (jK L) (jL L)
def itemsG (L:List (Grp×GrX)):List Itm:=itemsL (fN L).length (fN L) (liveG L)
theorem upto_mem {α:Type} {f:Nat->List α} {n:Nat} {x:α}:x∈upto f n↔∃i,i<n∧x∈f i:=by
 unfold upto;rw[dI];exact⟨λ⟨i,h1,h2⟩=>⟨i,gF.1 h1,h2⟩,λ⟨i,h1,h2⟩=>⟨i,gF.2 h1,h2⟩⟩
theorem toldG_in {ON:List Gst} {L:List (Grp×GrX)} {x:Told} {n:Nat} (hn:n<=L.length) (h:x∈upto (gTo ON L) n):∃g∈L,∃o∈g.1.ops,(o.kind=0∨o.kind=1)∧x.p=⟨o.node,o.parent,o.name,o.dir⟩∧x.a.s=g.1.s:=by
 obtain⟨k,hk,h⟩:=upto_mem.1 h;unfold gTo at h;obtain⟨j,hj,h⟩:=upto_mem.1 h;unfold oTo at h;split at h
 ·rename_i c;rw[aO] at h;subst h;refine⟨L.getD k gp0,bL (by omega) _,(L.getD k gp0).1.ops.getD j (opO 0 .zero),bL hj _,?_,rfl,rfl⟩;simp only[ch,ap,ak] at c;rcases c with c|c
  ·exact .inl c
  ·exact .inr c.1
 ·cases h
theorem opsB_mem9 {s:Gst}:∀(l:List Gop) (k:Nat),opsB s l k=true->∀o∈l,∃q,opB s o q=true
 | [],_,_,o,ho=>by cases ho
 |x::l,k,h,o,ho=>by
  simp only[opsB,ap] at h
  rcases bY.1 ho with rfl|ho
  ·exact⟨k,h.1⟩
  ·exact opsB_mem9 l _ h.2 o ho
theorem chk_op {g:Grp} (h:chkB g=true) {o:Gop} (ho:o∈g.ops):∃q,opB g.s o q=true:=by
 simp only[chkB,ap] at h;have h:=h.2;split at h
 ·simp only[ap] at h;exact opsB_mem9 _ _ h.2 o ho
 ·simp only[ap,ak] at h;rw[bR h.2] at ho;cases ho
theorem op_name {s:Gst} {o:Gop} {q:Nat} (h:opB s o q=true) (hk:o.kind=0∨o.kind=1):ek o.name=true:=by
 simp only[opB,ap] at h;have h:=h.2;unfold de at h;rcases hk with hk|hk
 ·rw[aJ hk] at h;simp only[ap] at h;exact h.2
 ·rw[aC (by omega),aJ hk] at h;simp only[ap] at h;exact h.2
theorem name_size {s:ByteArray} (h:ek s=true):s.size<=32:=by
 simp only[ek,ap,ak] at h;exact h.1.1.1.2
theorem placeG_name {L:List (Grp×GrX)} (hck:∀p∈L,chkB p.1=true) {q:Plc} (h:q∈fN L):q.name.size<=32:=by
 obtain⟨p,hp,e⟩:=made_name h;obtain⟨x,hx,e2⟩:=replay_name hp;obtain⟨g,hg,o,ho,hk,e3,-⟩:=toldG_in (aa _) hx;obtain⟨c,hc⟩:=chk_op (hck g hg) ho;rw[e,e2,e3];exact name_size (op_name hc hk)
theorem placeG_len {L:List (Grp×GrX)} (hl:L.length<=20) (hlo:∀p∈L,p.1.ops.length<=2) (ht:(toldG L).length<=40):(fN L).length<=1600:=by
 have h1:=madeL_len L hlo (fH (toldG L));have h2:=replayL_len (toldG L);have h3:(fH (toldG L)).length<=40:=aL h2 ht;have h4:2*L.length*(fH (toldG L)).length<=40*40:=Nat.mul_le_mul (by omega) h3;unfold fN;omega
theorem items_ok (L:List (Grp×GrX)):∀p∈iX (fN L) (liveG L),p.name.size<=1000∧iR (iX (fN L) (liveG L)) (fN L).length p=true:=λp hp=>by
 obtain⟨h1,h2⟩:=seen_climbs (fN L) (liveG L) (fN L).length (by omega) p hp
 exact⟨by have:=name_size h1;omega,h2⟩
end
end Go.Proofs.YtkhmicndehlneaaGreatDoor
