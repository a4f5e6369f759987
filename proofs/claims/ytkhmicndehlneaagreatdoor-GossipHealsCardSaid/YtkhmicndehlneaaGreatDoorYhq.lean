/- Part 17 of the walks and plain laws that this claim uses, joined. Conditions: as each theorem states. -/
import Derived.Test.YtkhmicndehlneaaGreatDoorYhp
namespace Go.Proofs.YtkhmicndehlneaaGreatDoor
set_option maxRecDepth 100000
set_option maxHeartbeats 16000000
set_option linter.unusedVariables false
section
open Go.RowKit Go.Lib Go.Sort
attribute [local go_sem ↓] Go.wp_at_zero Go.wp_at_succ
def stepT (out:List Told) (x:Told):List Told:=if out.any (λy=>y.a.eqb x.a)=true then out else insB (λy=>x.a.lt y.a) fE out x
def jG (l:List Told):List Told:=l.foldl stepT []
theorem stepT_len (out:List Told) (x:Told):(stepT out x).length<=out.length+1:=by
 unfold stepT;split
 ·omega
 ·rw[j0];exact aa _
theorem sortT_len:∀(l:List Told) (out:List Told),(l.foldl stepT out).length<=out.length+l.length
 | [],out=>aa _
 |x::l,out=>by
  have h1:=sortT_len l (stepT out x)
  have h2:=stepT_len out x
  rw[dU,bG];omega
theorem getD_mapF {α β:Type} (f:α->β) (L:List α) (k:Nat) (z:α):(L.map f).getD k (f z)=f (L.getD k z):=by
 rw[ae,ae,cT];cases L[k]? <;>rfl
theorem sortedt_any (L:List Told) (A A2:Option Addr) (c c2:Nat) (S S2:Nat->Prop) (w:World) (hl:L.length<=100000) (hR:RowF w S A 3 idL Gid.zero (L.map (·.a))) (hR2:RowF w S2 A2 8 plcL plc0 (L.map (·.p))):
  Calls Tryz.prog 167 #[.slice A L.length c,.slice A2 L.length c2] w λe w'=>∃A' c',e= .returned (.slice A' (jG L).length c')∧w'.ownsRow w.heap.size 228 11 (.slice A' (jG L).length c') (jG L).length ((jG L).flatMap toldL)∧Below w.heap.size w w':=by
 obtain⟨i0,hi,hz0,hz1,hz2⟩:=bD info_told;have HR:=hid hR;have HR2:=hid hR2;clear hR hR2;go_enter Tryz.func167,Tryz.ntmps167;go_upto_region 3 with fail;go_loopw [5,6] (λo i wr=>∃(k:Nat) (A':Option Addr) (c' m:Nat) (M:List Told),k<=L.length∧i= .int .i64 k∧o= .slice A' m c'∧m<=k∧Hid (m=M.length)∧Hid (M=jG (L.take k))∧Hid (wr.ownsRow w.heap.size 228 11 (.slice A' m c') m (M.flatMap toldL))∧Hid (Below w.heap.size w wr)) (λo i _=>L.length-(RowKit.intOf i).toNat)
 case atStart=>exact⟨0,none,0,0,[],aq _,rfl,rfl,aa _,hid rfl,hid rfl,hid (aF _ _ _ _),hid (ag _ _)⟩
 case round=>
  obtain⟨k,A',c',m,M,hk,rfl,rfl,hmk,HML,HM,HO,HBr⟩:=hrel;by_cases hlt:k<L.length
  ·have i1:(0:Int)<=(k:Int):=by omega
   have i2:(k:Int)<(L.length:Int):=by omega
   obtain⟨rb,ro,rfl,-,hrb,hrange⟩:=HR.out.range (λ_=>rfl) (k:=k) (by rw[aQ];exact hlt);obtain⟨rb2,ro2,rfl,-,hrb2,hrange2⟩:=HR2.out.range (λ_=>rfl) (k:=k) (by rw[aQ];exact hlt);rw[show(L.map (·.a)).getD k Gid.zero=(L.getD k fE).a from getD_mapF (·.a) L k fE] at hrange;rw[show(L.map (·.p)).getD k plc0=(L.getD k fE).p from getD_mapF (·.p) L k fE] at hrange2;have hst:jG (L.take (k+1))=stepT M (L.getD k fE):=by rw[HM.out];exact eL _ _ hlt fE
   generalize L.getD k fE=p at *;obtain⟨⟨⟨t,r⟩,n⟩,⟨⟨⟨nt,nr⟩,ni⟩,⟨⟨pt,pr⟩,pi⟩,nm,dd⟩⟩:=p;have HRW:=hid (λW (hB:Below w.heap.size w W)=>show W.rangeAt rb (ro+k*3) [.int .i64 t,.int .i64 r,.int .i64 n]∧W.rangeAt rb2 (ro2+k*8) [.int .i64 nt,.int .i64 nr,.int .i64 ni,.int .i64 pt,.int .i64 pr,.int .i64 pi,.string nm,.bool dd] from⟨cd hrange hrb hB,cd hrange2 hrb2 hB⟩);have HST:=hid hst;have hsz:=HBr.out.size;clear hrange hrb hst hrange2 hrb2;generalize wr=w0 at *;go_upto_region 7 with fail;go_loopw [7,8] (λh i wr=>∃(j:Nat) (b:Bool),j<=m∧i= .int .i64 j∧h= .bool b∧Hid (b=(M.take j).any (λy:Told=>y.a.eqb ⟨⟨t,r⟩,n⟩))∧Hid (Below w0.heap.size w0 wr)) (λh i _=>m-(RowKit.intOf i).toNat)
   case atStart=>exact⟨0,false,aq _,rfl,rfl,hid rfl,hid (ag _ _)⟩
   case round=>
    obtain⟨j,b,hj,rfl,rfl,HB,HBj⟩:=hrel;have HBw:=hid (HBr.out.trans (HBj.out.mono hsz));have HOj:=kO HO HBj.out;by_cases hjm:j<m
    ·have j1:(0:Int)<=(j:Int):=by omega
     have j2:(j:Int)<(m:Int):=by omega
     obtain⟨g2,rfl,-,hg2,hr2⟩:=cz (f:=toldL) (λ_=>rfl) HML.out HOj.out hjm fE;have htk:(M.take (j+1)).any (λy:Told=>y.a.eqb ⟨⟨t,r⟩,n⟩)=((M.take j).any (λy:Told=>y.a.eqb ⟨⟨t,r⟩,n⟩) || (λy:Told=>y.a.eqb ⟨⟨t,r⟩,n⟩) (M.getD j fE)):=by rw[dF (by rw[<-HML.out];exact hjm) fE,jp];simp
     generalize M.getD j fE=y at *;obtain⟨⟨⟨t2,r2⟩,n2⟩,⟨⟨⟨nt2,nr2⟩,ni2⟩,⟨⟨pt2,pr2⟩,pi2⟩,nm2,dd2⟩⟩:=y;obtain⟨b2,hb2⟩:∃b,b=(λy:Told=>y.a.eqb ⟨⟨t,r⟩,n⟩) ⟨⟨⟨t2,r2⟩,n2⟩,⟨⟨⟨nt2,nr2⟩,ni2⟩,⟨⟨pt2,pr2⟩,pi2⟩,nm2,dd2⟩⟩:=⟨_,rfl⟩;have q1:=eJ t2 r2 n2 t r n b2 hb2.symm;have HTK:=hid (show(M.take (j+1)).any (λy:Told=>y.a.eqb ⟨⟨t,r⟩,n⟩)=(b || b2) by rw[htk,HB.out,hb2]);have y0:=aj (w:=wr) (a:=⟨g2,j*11,none⟩) (v:= .int .i64 t2) (hr2 0 _ rfl);have y1:=aj (w:=wr) (a:=⟨g2,j*11+1,none⟩) (v:= .int .i64 r2) (hr2 1 _ rfl);have y2:=aj (w:=wr) (a:=⟨g2,j*11+2,none⟩) (v:= .int .i64 n2) (hr2 2 _ rfl);have x0:=aj (w:=wr) (a:=⟨rb,ro+k*3,none⟩) (v:= .int .i64 t) ((HRW.out wr HBw.out).1 0 _ rfl);have x1:=aj (w:=wr) (a:=⟨rb,ro+k*3+1,none⟩) (v:= .int .i64 r) ((HRW.out wr HBw.out).1 1 _ rfl);have x2:=aj (w:=wr) (a:=⟨rb,ro+k*3+2,none⟩) (v:= .int .i64 n) ((HRW.out wr HBw.out).1 2 _ rfl);clear hr2 hb2 htk;cases b with
     |true=>
      go_upto_region 9 with fail;refine rqb ?_
      repeat(any_goals(first|go_big_quiet_step (fail)|quiet_step (fail)))
      refine qz λwq hBq=> ?_;go_wp2;go_roundw
      case rel=>exact⟨j+1,true,by omega,by go_num,rfl,hid (by rw[HTK.out];rfl),bT HBj hBq⟩
      case measure=>(simp[RowKit.intOf];omega)
     |false=>
      go_upto_region 9 with fail;refine rqb ?_
      repeat(any_goals(first|go_big_quiet_step (fail)|quiet_step (fail)))
      refine qz λwq hBq=> ?_;go_wp2;go_roundw
      case rel=>exact⟨j+1,b2,by omega,by go_num,rfl,hid (by rw[HTK.out];rfl),bT HBj hBq⟩
      case measure=>(simp[RowKit.intOf];omega)
    ·obtain rfl:j=m:=by omega
     have j2:¬(j:Int)<(j:Int):=by omega
     have hany:b=M.any (λy:Told=>y.a.eqb ⟨⟨t,r⟩,n⟩):=by rw[HB.out,HML.out,aK]
     cases b with
     |true=>
      have HS9:=hid (show jG (L.take (k+1))=M by rw[HST.out];unfold stepT;rw[aJ hany.symm]);clear hany;go_wp2;go_roundw
      case rel=>exact⟨k+1,A',c',j,M,by omega,by go_num,rfl,by omega,HML,hid HS9.out.symm,HOj,HBw⟩
      case measure=>(simp[RowKit.intOf];omega)
     | false=>
      have HS9:=hid (show jG (L.take (k+1))=insB (λy:Told=>Gid.lt ⟨⟨t,r⟩,n⟩ y.a) fE M ⟨⟨⟨t,r⟩,n⟩,⟨⟨⟨nt,nr⟩,ni⟩,⟨⟨pt,pr⟩,pi⟩,nm,dd⟩⟩ by rw[HST.out];unfold stepT;rw[aC (by rw[<-hany];decide)]);clear hany;have hszw:=HBw.out.size;go_upto_region 11 with fail;refine aR (S:=λw'=>w'.rangeAt rb (ro+k*3) [.int .i64 t,.int .i64 r,.int .i64 n]∧w'.rangeAt rb2 (ro2+k*8) [.int .i64 nt,.int .i64 nr,.int .i64 ni,.int .i64 pt,.int .i64 pr,.int .i64 pi,.string nm,.bool dd]) (by kernel_rfl) ?_
      try(change wpAnyH _ _ _ _ _ _ _ _ (World.drew _))
      refine tk 0 (.slice A' j c') ((show wr.drew.rangeAt _ _ _∧wr.drew.rangeAt _ _ _ from HRW.out wr HBw.out)) ?_;go_simp;refine tk 1 (.slice (some ⟨rb,ro,none⟩) L.length c) ((show wr.drew.rangeAt _ _ _∧wr.drew.rangeAt _ _ _ from HRW.out wr HBw.out)) ?_;go_simp;refine tk 2 (.int .i64 (k:Int)) ((show wr.drew.rangeAt _ _ _∧wr.drew.rangeAt _ _ _ from HRW.out wr HBw.out)) ?_;go_simp;refine tk 3 (.pointer (some ⟨rb,ro+k*3,none⟩)) ((show wr.drew.rangeAt _ _ _∧wr.drew.rangeAt _ _ _ from HRW.out wr HBw.out)) ?_;go_simp;refine tk2 4 (.agg #[t,r,n]) rfl (aT (by rfl) _ _ rfl rb (ro+k*3) rfl [.int .i64 t,.int .i64 r,.int .i64 n] _ (λW' hW'=>bv (pre:=[]) (mid:=[.int .i64 t,.int .i64 r,.int .i64 n]) (post:=[]) (hW'.1)) aw rfl (by kernel_rfl)) ((show wr.drew.rangeAt _ _ _∧wr.drew.rangeAt _ _ _ from HRW.out wr HBw.out)) ?_;go_simp;refine tk 5 (.slice (some ⟨rb2,ro2,none⟩) L.length c2) ((show wr.drew.rangeAt _ _ _∧wr.drew.rangeAt _ _ _ from HRW.out wr HBw.out)) ?_;go_simp;refine tk 6 (.int .i64 (k:Int)) ((show wr.drew.rangeAt _ _ _∧wr.drew.rangeAt _ _ _ from HRW.out wr HBw.out)) ?_;go_simp;refine tk 7 (.pointer (some ⟨rb2,ro2+k*8,none⟩)) ((show wr.drew.rangeAt _ _ _∧wr.drew.rangeAt _ _ _ from HRW.out wr HBw.out)) ?_;go_simp
      refine tk2 8 (.agg #[nt,nr,ni,pt,pr,pi,nm,dd]) rfl (aT (by rfl) _ _ rfl rb2 (ro2+k*8) rfl [.int .i64 nt,.int .i64 nr,.int .i64 ni,.int .i64 pt,.int .i64 pr,.int .i64 pi,.string nm,.bool dd] _ (λW' hW'=>bv (pre:=[]) (mid:=[.int .i64 nt,.int .i64 nr,.int .i64 ni,.int .i64 pt,.int .i64 pr,.int .i64 pi,.string nm,.bool dd]) (post:=[]) (hW'.2)) ca rfl (by kernel_rfl)) ((show wr.drew.rangeAt _ _ _∧wr.drew.rangeAt _ _ _ from HRW.out wr HBw.out)) ?_;go_simp;refine tk 9 (.agg #[t,r,n,nt,nr,ni,pt,pr,pi,nm,dd]) ((show wr.drew.rangeAt _ _ _∧wr.drew.rangeAt _ _ _ from HRW.out wr HBw.out)) ?_;go_simp;have hsA:(wr.alloc (.cells #[t,r,n,nt,nr,ni,pt,pr,pi,nm,dd] 228)).drew.heap.size=wr.heap.size+1:=by show(wr.alloc _).heap.size=_;simp
      have HDN:=hid (HOj.out.alloc (.cells #[t,r,n,nt,nr,ni,pt,pr,pi,nm,dd] 228));have HNC:=hid (λ(j:Nat) (y:Value) (h:([.int .i64 t,.int .i64 r,.int .i64 n,.int .i64 nt,.int .i64 nr,.int .i64 ni,.int .i64 pt,.int .i64 pr,.int .i64 pi,.string nm,.bool dd]:List Value)[j]? =some y)=>dH wr [.int .i64 t,.int .i64 r,.int .i64 n,.int .i64 nt,.int .i64 nr,.int .i64 ni,.int .i64 pt,.int .i64 pr,.int .i64 pi,.string nm,.bool dd] 228 j y h);have HOC:=hid (show ∀u∈([.int .i64 t,.int .i64 r,.int .i64 n,.int .i64 nt,.int .i64 nr,.int .i64 ni,.int .i64 pt,.int .i64 pr,.int .i64 pi,.string nm,.bool dd]:List Value),u.oneCell'=true from fw (c:=#[.int .i64 t,.int .i64 r,.int .i64 n,.int .i64 nt,.int .i64 nr,.int .i64 ni,.int .i64 pt,.int .i64 pr,.int .i64 pi,.string nm,.bool dd]) rfl);have HBA:=hid ((HBw.out.alloc HBw.out.size (.cells #[t,r,n,nt,nr,ni,pt,pr,pi,nm,dd] 228)).drew);refine rd1 10 λK hK=> ?_;go_simp;refine hK.out _ _ (HRW.out _ HBA.out) (λ_=> ?_);clear hK K;refine rd1 11 λK hK=> ?_
      refine dW _ (by rfl) _ _ 225 (by rfl) w.heap.size 228 i0 (.agg #[(0:Int),(0:Int),(0:Int),(0:Int),(0:Int),(0:Int),(0:Int),(0:Int),(0:Int),.string ⟨#[]⟩,false]) 11 96 Tryz.underlying225 hi hz0 hz1 hz2 rfl (by decide) (.slice A' j c') j _ (by rfl) (by exact HDN.out) ⟨wr.heap.size,0,none⟩ 1 1 [.int .i64 t,.int .i64 r,.int .i64 n,.int .i64 nt,.int .i64 nr,.int .i64 ni,.int .i64 pt,.int .i64 pr,.int .i64 pi,.string nm,.bool dd] (by rfl) (by rfl) (by exact HNC.out) HOC.out (by decide) (by unfold maxLen;omega) (by omega) (by rw[hsA];have:=HBw.out.size;omega) (wr.heap.size+1) hsA ?_;intro gq cap w5 hown1 hgrow hat hlt3;have HO5:=hid hown1;have HB5:=hid (HBA.out.grown hgrow (by rw[hsA];have:=HBw.out.size;omega) (λb hb=>(HOj.out.lt b hb).1));clear hown1 hgrow hat hlt3;refine hK.out _ _ (HRW.out _ HB5.out) (λ_=> ?_);clear hK K;refine tk 12 (.slice (some ⟨gq,0,none⟩) (j+1) cap) (HRW.out _ HB5.out) ?_;go_simp;refine be (by kernel_rfl) ?_ _;go_simp;go_wp2;clear HOj HBj HBw HB hszw HBA HDN HNC hsA HOC;have hm63:j<=100000:=by omega
      have hs9:slid M (⟨⟨⟨t,r⟩,n⟩,⟨⟨⟨nt,nr⟩,ni⟩,⟨⟨pt,pr⟩,pi⟩,nm,dd⟩⟩:Told) j=M++[⟨⟨⟨t,r⟩,n⟩,⟨⟨⟨nt,nr⟩,ni⟩,⟨⟨pt,pr⟩,pi⟩,nm,dd⟩⟩]:=by rw[HML.out];exact ju _ _
      have HO6:=hid (show w5.ownsRow w.heap.size 228 11 (.slice (some ⟨gq,0,none⟩) (j+1) cap) (j+1) ((slid M (⟨⟨⟨t,r⟩,n⟩,⟨⟨⟨nt,nr⟩,ni⟩,⟨⟨pt,pr⟩,pi⟩,nm,dd⟩⟩:Told) j).flatMap toldL) by rw[hs9,aI];exact HO5.out);clear hs9 HO5;generalize w5=w6 at *;go_loopw [9] (λi wx=>∃(q:Nat),i= .int .i64 q∧q<=j∧Hid (dY (λy:Told=>Gid.lt ⟨⟨t,r⟩,n⟩ y.a) fE M q=dY (λy:Told=>Gid.lt ⟨⟨t,r⟩,n⟩ y.a) fE M M.length)∧Hid (wx.ownsRow w.heap.size 228 11 (.slice (some ⟨gq,0,none⟩) (j+1) cap) (j+1) ((slid M (⟨⟨⟨t,r⟩,n⟩,⟨⟨⟨nt,nr⟩,ni⟩,⟨⟨pt,pr⟩,pi⟩,nm,dd⟩⟩:Told) q).flatMap toldL))∧Hid (Below w.heap.size w wx)) (λi _=>(RowKit.intOf i).toNat)
      case atStart=>exact⟨j,rfl,aa _,hid (by rw[HML.out]),HO6,HB5⟩
      case round=>
       obtain⟨q,rfl,hq,HIX,HOq,HBq⟩:=hrel;by_cases h0:0<q
       ·obtain⟨q,rfl⟩:∃p,q=p+1:=⟨q-1,by omega⟩;have hqm:q+1<=M.length:=by rw[<-HML.out];exact hq
        have hl1:j+1=(slid M (⟨⟨⟨t,r⟩,n⟩,⟨⟨⟨nt,nr⟩,ni⟩,⟨⟨pt,pr⟩,pi⟩,nm,dd⟩⟩:Told) (q+1)).length:=by rw[eO,<-HML.out]
        obtain⟨g3,e3,-,hg3,hr3⟩:=cz (f:=toldL) (λ_=>rfl) hl1 HOq.out (k:=q) (by omega) fE;cases e3;obtain⟨g4,e4,-,-,hr4⟩:=cz (f:=toldL) (λ_=>rfl) hl1 HOq.out (k:=q+1) (by omega) fE;cases e4;rw[js hqm] at hr3;rw[ku hqm] at hr4;have hsw:=ip (L:=M) (x:=(⟨⟨⟨t,r⟩,n⟩,⟨⟨⟨nt,nr⟩,ni⟩,⟨⟨pt,pr⟩,pi⟩,nm,dd⟩⟩:Told)) (z:=fE) hqm;obtain⟨y,hy⟩:∃y,y=M.getD q fE:=⟨_,rfl⟩;rw[<-hy] at hr3 hsw;obtain⟨b2,hb2⟩:∃b,b=(λy:Told=>Gid.lt ⟨⟨t,r⟩,n⟩ y.a) y:=⟨_,rfl⟩;have HPY:=hid (show(λy:Told=>Gid.lt ⟨⟨t,r⟩,n⟩ y.a) (M.getD q fE)=b2 by rw[<-hy,hb2]);clear hy;obtain⟨⟨⟨t2,r2⟩,n2⟩,⟨⟨⟨nt2,nr2⟩,ni2⟩,⟨⟨pt2,pr2⟩,pi2⟩,nm2,dd2⟩⟩:=y;have HR3:=hid (show wr.rangeAt gq (q*11) [.int .i64 t2,.int .i64 r2,.int .i64 n2,.int .i64 nt2,.int .i64 nr2,.int .i64 ni2,.int .i64 pt2,.int .i64 pr2,.int .i64 pi2,.string nm2,.bool dd2] from hr3);have HR4:=hid (show wr.rangeAt gq ((q+1)*11) [.int .i64 t,.int .i64 r,.int .i64 n,.int .i64 nt,.int .i64 nr,.int .i64 ni,.int .i64 pt,.int .i64 pr,.int .i64 pi,.string nm,.bool dd] from hr4);have y0:=aj (w:=wr) (a:=⟨gq,q*11,none⟩) (v:= .int .i64 t2) (hr3 0 _ rfl);have y1:=aj (w:=wr) (a:=⟨gq,q*11+1,none⟩) (v:= .int .i64 r2) (hr3 1 _ rfl);have y2:=aj (w:=wr) (a:=⟨gq,q*11+2,none⟩) (v:= .int .i64 n2) (hr3 2 _ rfl);have x0:=aj (w:=wr) (a:=⟨gq,(q+1)*11,none⟩) (v:= .int .i64 t) (hr4 0 _ rfl);have x1:=aj (w:=wr) (a:=⟨gq,(q+1)*11+1,none⟩) (v:= .int .i64 r) (hr4 1 _ rfl)
        have x2:=aj (w:=wr) (a:=⟨gq,(q+1)*11+2,none⟩) (v:= .int .i64 n) (hr4 2 _ rfl);have HSW:=hid hsw;have k1:(0:Int)<(q:Int)+1:=by omega
        have k2:(0:Int)<=(q:Int):=by omega
        have k3:(q:Int)<(j:Int)+1:=by omega
        have k4:(q:Int)+1<(j:Int)+1:=by omega
        have k5:(0:Int)<=(q:Int)+1:=by omega
        have k6:IntKind.i64.wrap (q:Int)=(q:Int):=by rw[bz];omega
        have HL1:=hid hl1;have HBF:=λW=>gx t r n t2 r2 n2 W;obtain⟨zc,hzc⟩:∃z,z=rcmpD ⟨⟨t,r⟩,n⟩ ⟨⟨t2,r2⟩,n2⟩:=⟨_,rfl⟩;rw[<-hzc] at HBF;have hz2:decide (0<=zc)= !b2:=by rw[hzc,jW,hb2]
        have hz3:decide (zc<0)=b2:=by cases b2<;>simp at hz2 ⊢ <;>omega
        clear hzc hz2;have cA:=λd os=>ay (HBF (grow (redrawn wr d) os));clear hr3 hr4 hb2 hsw hl1;cases b2 with
        |false=>
         go_upto_region 13 with fail;refine rqb ?_
         repeat(any_goals(first|go_big_quiet_step (with_reducible exact cA _ _)|quiet_step (with_reducible exact cA _ _)))
         refine qz λwq hBq=> ?_;have HS8:=hid (show jG (L.take (k+1))=slid M (⟨⟨⟨t,r⟩,n⟩,⟨⟨⟨nt,nr⟩,ni⟩,⟨⟨pt,pr⟩,pi⟩,nm,dd⟩⟩:Told) (q+1) by rw[HS9.out];unfold insB;rw[<-HIX.out,ge (.inr ⟨q,rfl,HPY.out⟩)]);have HOx:=kO HOq hBq;have HBx:=bT HBq hBq;go_wp2;go_roundw
         case rel=>exact⟨k+1,some ⟨gq,0,none⟩,cap,j+1,_,by omega,by go_num,rfl,by omega,HL1,hid HS8.out.symm,HOx,HBx⟩
         case measure=>(simp[RowKit.intOf];omega)
        | true=>
         go_upto_region 13 with fail;refine rqb ?_
         repeat(any_goals(first|go_big_quiet_step (with_reducible exact cA _ _)|quiet_step (with_reducible exact cA _ _)))
         refine qz λwq hBq=> ?_;have HIX2:=hid (show dY (λy:Told=>Gid.lt ⟨⟨t,r⟩,n⟩ y.a) fE M q=dY (λy:Told=>Gid.lt ⟨⟨t,r⟩,n⟩ y.a) fE M M.length by rw[<-HIX.out,iF HPY.out]);have HR3q:=hid (cd HR3.out hg3 hBq);have HR4q:=hid (cd HR4.out hg3 hBq);have HOq2:=kO HOq hBq;have HBq2:=bT HBq hBq;clear y0 y1 y2 x0 x1 x2 cA HOq hBq;go_upto_region 15 with fail;obtain⟨V1,hV1⟩:∃V,V=wq.drew.setCells gq ((q+1)*11) (#[.int .i64 t2,.int .i64 r2,.int .i64 n2,.int .i64 nt2,.int .i64 nr2,.int .i64 ni2,.int .i64 pt2,.int .i64 pr2,.int .i64 pi2,.string nm2,.bool dd2]:Array Value).toList:=⟨_,rfl⟩;have hP1:V1.ownsRow w.heap.size 228 11 (.slice (some ⟨gq,0,none⟩) (j+1) cap) (j+1) (((slid M (⟨⟨⟨t,r⟩,n⟩,⟨⟨⟨nt,nr⟩,ni⟩,⟨⟨pt,pr⟩,pi⟩,nm,dd⟩⟩:Told) (q+1)).set (q+1) (⟨⟨⟨t2,r2⟩,n2⟩,⟨⟨⟨nt2,nr2⟩,ni2⟩,⟨⟨pt2,pr2⟩,pi2⟩,nm2,dd2⟩⟩:Told)).flatMap toldL)∧wq.drew.grownBy V1 (some gq):=by rw[hV1];exact eP (f:=toldL) (λ_=>rfl) (by decide) HL1.out (show wq.drew.ownsRow _ _ _ _ _ _ from HOq2.out) (by omega) (⟨⟨⟨t2,r2⟩,n2⟩,⟨⟨⟨nt2,nr2⟩,ni2⟩,⟨⟨pt2,pr2⟩,pi2⟩,nm2,dd2⟩⟩:Told)
         obtain⟨V2,hV2⟩:∃V,V=V1.setCells gq (q*11) (#[.int .i64 t,.int .i64 r,.int .i64 n,.int .i64 nt,.int .i64 nr,.int .i64 ni,.int .i64 pt,.int .i64 pr,.int .i64 pi,.string nm,.bool dd]:Array Value).toList:=⟨_,rfl⟩;have hP2:V2.ownsRow w.heap.size 228 11 (.slice (some ⟨gq,0,none⟩) (j+1) cap) (j+1) ((((slid M (⟨⟨⟨t,r⟩,n⟩,⟨⟨⟨nt,nr⟩,ni⟩,⟨⟨pt,pr⟩,pi⟩,nm,dd⟩⟩:Told) (q+1)).set (q+1) (⟨⟨⟨t2,r2⟩,n2⟩,⟨⟨⟨nt2,nr2⟩,ni2⟩,⟨⟨pt2,pr2⟩,pi2⟩,nm2,dd2⟩⟩:Told)).set q (⟨⟨⟨t,r⟩,n⟩,⟨⟨⟨nt,nr⟩,ni⟩,⟨⟨pt,pr⟩,pi⟩,nm,dd⟩⟩:Told)).flatMap toldL)∧V1.grownBy V2 (some gq):=by rw[hV2];exact eP (f:=toldL) (λ_=>rfl) (by decide) (by rw[cM];exact HL1.out) hP1.1 (by omega) (⟨⟨⟨t,r⟩,n⟩,⟨⟨⟨nt,nr⟩,ni⟩,⟨⟨pt,pr⟩,pi⟩,nm,dd⟩⟩:Told)
         obtain⟨g5,e5,ht5⟩:=ey (show wq.drew.ownsRow _ _ _ _ _ _ from HOq2.out) (k:=q+1) (by omega);cases e5;obtain⟨g6,e6,ht6⟩:=ey hP1.1 (k:=q) (by omega);cases e6;have HP2:=hid hP2.1;have HG2:=hid (show wq.heap.size<=V2.heap.size∧(Below w.heap.size w wq->w.heap.size<=gq->Below w.heap.size w V2) from⟨aL (show wq.drew.heap.size<=V1.heap.size from hP1.2.size) hP2.2.size,λhb hl=>(hb.drew.grown hP1.2 (by exact hb.size) (λb e=>by cases e;exact hl)).grown hP2.2 (aL hb.size (show wq.drew.heap.size<=V1.heap.size from hP1.2.size)) (λb e=>by cases e;exact hl)⟩);have HV1:=hid hV1;have HV2:=hid hV2;have HT5:=hid ht5;have HT6:=hid ht6;have HAY:=hid (show(#[.int .i64 t2,.int .i64 r2,.int .i64 n2,.int .i64 nt2,.int .i64 nr2,.int .i64 ni2,.int .i64 pt2,.int .i64 pr2,.int .i64 pi2,.string nm2,.bool dd2]:Array Value).all (·.oneCell')=true by rw[<-cg];rfl);have HAX:=hid (show(#[.int .i64 t,.int .i64 r,.int .i64 n,.int .i64 nt,.int .i64 nr,.int .i64 ni,.int .i64 pt,.int .i64 pr,.int .i64 pi,.string nm,.bool dd]:Array Value).all (·.oneCell')=true by rw[<-cg];rfl);clear hP1 hP2 hV1 hV2 ht5 ht6;refine aR (S:=λ_=>True) (by kernel_rfl) ?_
         try(change wpAnyH _ _ _ _ _ _ _ _ (World.drew _))
         refine tk 0 (.slice (some ⟨gq,0,none⟩) (j+1) cap) (trivial) ?_;go_simp;refine tk 1 (.int .i64 ((q:Int)+1)) (trivial) ?_;go_simp;refine tk 2 (.slice (some ⟨gq,0,none⟩) (j+1) cap) (trivial) ?_;go_simp;refine tk 3 (.int .i64 ((q:Int)+1)) (trivial) ?_;go_simp;refine tk 4 (.int .i64 (q:Int)) (trivial) ?_;go_simp;refine tk 5 (.slice (some ⟨gq,0,none⟩) (j+1) cap) (trivial) ?_;go_simp;refine tk 6 (.int .i64 ((q:Int)+1)) (trivial) ?_;go_simp;refine tk 7 (.int .i64 (q:Int)) (trivial) ?_;go_simp;refine tk 8 (.pointer (some ⟨gq,q*11,none⟩)) (trivial) ?_;go_simp;refine tk 10 (.slice (some ⟨gq,0,none⟩) (j+1) cap) (trivial) ?_;go_simp;refine tk 11 (.int .i64 ((q:Int)+1)) (trivial) ?_;go_simp;refine tk 12 (.pointer (some ⟨gq,(q+1)*11,none⟩)) (trivial) ?_;go_simp;refine dp (rs:=[9,13]) (by kernel_rfl) (by simp) ?_;refine aX rfl (λK hK=> ?_) (aX rfl (λK hK=> ?_) cX)
         focus
          refine bA rfl _ _ rfl gq (q*11) rfl [.int .i64 t2,.int .i64 r2,.int .i64 n2,.int .i64 nt2,.int .i64 nr2,.int .i64 ni2,.int .i64 pt2,.int .i64 pr2,.int .i64 pi2,.string nm2,.bool dd2] _ (show wq.drew.rangeAt _ _ _ from HR3q.out) Tryz.underlying228 rfl (by kernel_rfl) ?_;refine hK.out _ _ (trivial) (λ_=> ?_);clear hK K;refine rd1 13 λK hK=> ?_;refine bA rfl _ _ rfl gq ((q+1)*11) rfl [.int .i64 t,.int .i64 r,.int .i64 n,.int .i64 nt,.int .i64 nr,.int .i64 ni,.int .i64 pt,.int .i64 pr,.int .i64 pi,.string nm,.bool dd] _ (show wq.drew.rangeAt _ _ _ from HR4q.out) Tryz.underlying228 rfl (by kernel_rfl) ?_;refine hK.out _ _ (trivial) (λ_=> ?_);clear hK K
         rotate_left
         focus
          refine bA rfl _ _ rfl gq ((q+1)*11) rfl [.int .i64 t,.int .i64 r,.int .i64 n,.int .i64 nt,.int .i64 nr,.int .i64 ni,.int .i64 pt,.int .i64 pr,.int .i64 pi,.string nm,.bool dd] _ (show wq.drew.rangeAt _ _ _ from HR4q.out) Tryz.underlying228 rfl (by kernel_rfl) ?_;refine hK.out _ _ (trivial) (λ_=> ?_);clear hK K;refine rd1 9 λK hK=> ?_;refine bA rfl _ _ rfl gq (q*11) rfl [.int .i64 t2,.int .i64 r2,.int .i64 n2,.int .i64 nt2,.int .i64 nr2,.int .i64 ni2,.int .i64 pt2,.int .i64 pr2,.int .i64 pi2,.string nm2,.bool dd2] _ (show wq.drew.rangeAt _ _ _ from HR3q.out) Tryz.underlying228 rfl (by kernel_rfl) ?_;refine hK.out _ _ (trivial) (λ_=> ?_);clear hK K
         all_goals
          refine tk 14 (.pointer (some ⟨gq,(q+1)*11,none⟩)) (trivial) ?_;go_simp;refine rd1 15 λK hK=> ?_;refine cy rfl _ _ _ rfl gq ((q+1)*11) #[.int .i64 t2,.int .i64 r2,.int .i64 n2,.int .i64 nt2,.int .i64 nr2,.int .i64 ni2,.int .i64 pt2,.int .i64 pr2,.int .i64 pi2,.string nm2,.bool dd2] (by rfl) (by rfl) HT5.out (by kernel_rfl) HAY.out ?_;rw[<-HV1.out];refine hK.out _ _ (trivial) (λ_=> ?_);clear hK K;refine tk 16 (.pointer (some ⟨gq,q*11,none⟩)) (trivial) ?_;go_simp;refine rd1 17 λK hK=> ?_;refine cy rfl _ _ _ rfl gq (q*11) #[.int .i64 t,.int .i64 r,.int .i64 n,.int .i64 nt,.int .i64 nr,.int .i64 ni,.int .i64 pt,.int .i64 pr,.int .i64 pi,.string nm,.bool dd] (by rfl) (by rfl) HT6.out (by kernel_rfl) HAX.out ?_;rw[<-HV2.out];refine hK.out _ _ (trivial) (λ_=> ?_);clear hK K;refine be (by kernel_rfl) ?_ _;go_simp;go_wp2;go_roundw
          case rel=>exact⟨q,by go_num,by omega,HIX2,hid (by rw[<-HSW.out];exact HP2.out),hid (HG2.out.2 HBq2.out (HOq2.out.lt gq rfl).1)⟩
          case measure=>(simp[RowKit.intOf];try omega)
       ·obtain rfl:q=0:=by omega
        go_upto_region 13 with fail;refine rqb ?_
        repeat(any_goals(first|go_big_quiet_step (fail)|quiet_step (fail)))
        refine qz λwq hBq=> ?_;have HS8:=hid (show jG (L.take (k+1))=slid M (⟨⟨⟨t,r⟩,n⟩,⟨⟨⟨nt,nr⟩,ni⟩,⟨⟨pt,pr⟩,pi⟩,nm,dd⟩⟩:Told) 0 by rw[HS9.out];unfold insB;rw[<-HIX.out];rfl);have HL1:=hid (show j+1=(slid M (⟨⟨⟨t,r⟩,n⟩,⟨⟨⟨nt,nr⟩,ni⟩,⟨⟨pt,pr⟩,pi⟩,nm,dd⟩⟩:Told) 0).length by rw[eO,<-HML.out]);have HOx:=kO HOq hBq;have HBx:=bT HBq hBq;go_wp2;go_roundw
        case rel=>exact⟨k+1,some ⟨gq,0,none⟩,cap,j+1,_,by omega,by go_num,rfl,by omega,HL1,hid HS8.out.symm,HOx,HBx⟩
        case measure=>(simp[RowKit.intOf];omega)
  ·obtain rfl:k=L.length:=by omega
   have i2:¬(L.length:Int)<(L.length:Int):=by omega
   have HM9:=hid (show M=jG L by have h9:=HM.out;rw[aK] at h9;exact h9);go_wp2;go_ret;refine⟨A',c',by rw[<-HM9.out,<-HML.out];rfl,?_,HBr.out⟩;rw[<-HM9.out,<-HML.out];exact HO.out
def stepL (G:List Dt) (out:List Gid) (d:Dt):List Gid:=if (G.any (λy=>y.eqb d) || out.any (λy=>y.eqb d.n))=true then out else insB (λy=>d.n.lt y) Gid.zero out d.n
def gW (G l:List Dt):List Gid:=l.foldl (stepL G) []
def stepO (G:List Dt) (x:Gid) (out:List Gst) (d:Dt):List Gst:=if (!(d.n.eqb x) || G.any (λy=>y.eqb d) || out.any (λy=>y.eqb d.b))=true then out else insB (λy=>d.b.lt y) Gst.zero out d.b
def ofL (G:List Dt) (x:Gid) (l:List Dt):List Gst:=l.foldl (stepO G x) []
theorem stepL_len (G:List Dt) (out:List Gid) (d:Dt):(stepL G out d).length<=out.length+1:=by
 unfold stepL;split
 ·omega
 ·rw[j0];exact aa _
theorem stepO_len (G:List Dt) (x:Gid) (out:List Gst) (d:Dt):(stepO G x out d).length<=out.length+1:=by
 unfold stepO;split
 ·omega
 ·rw[j0];exact aa _
theorem liveL_len (G:List Dt):∀(l:List Dt) (out:List Gid),(l.foldl (stepL G) out).length<=out.length+l.length
 | [],out=>aa _
 |d::l,out=>by
  have h1:=liveL_len G l (stepL G out d)
  have h2:=stepL_len G out d
  rw[dU,bG];omega
theorem ofL_len (G:List Dt) (x:Gid):∀(l:List Dt) (out:List Gst),(l.foldl (stepO G x) out).length<=out.length+l.length
 | [],out=>aa _
 |d::l,out=>by
  have h1:=ofL_len G x l (stepO G x out d)
  have h2:=stepO_len G x out d
  rw[dU,bG];omega
theorem live_any (L G:List Dt) (A A2:Option Addr) (c c2:Nat) (S S2:Nat->Prop) (w:World) (hl:L.length<=100000) (hl2:G.length<=100000) (hR:RowF w S A 5 dtL dt0 L) (hR2:RowF w S2 A2 5 dtL dt0 G):
  Calls Tryz.prog 113 #[.slice A L.length c,.slice A2 G.length c2] w λe w'=>∃A' c',e= .returned (.slice A' (gW G L).length c')∧w'.ownsRow w.heap.size 108 3 (.slice A' (gW G L).length c') (gW G L).length ((gW G L).flatMap idL)∧Below w.heap.size w w':=by
 obtain⟨i0,hi,hz0,hz1,hz2⟩:=bD info_id;have HR:=hid hR;have HR2:=hid hR2;clear hR hR2;go_enter Tryz.func113,Tryz.ntmps113;go_upto_region 3 with fail;go_loopw [5,6] (λo i wr=>∃(k:Nat) (A':Option Addr) (c' m:Nat) (M:List Gid),k<=L.length∧i= .int .i64 k∧o= .slice A' m c'∧m<=k∧Hid (m=M.length)∧Hid (M=gW G (L.take k))∧Hid (wr.ownsRow w.heap.size 108 3 (.slice A' m c') m (M.flatMap idL))∧Hid (Below w.heap.size w wr)) (λo i _=>L.length-(RowKit.intOf i).toNat)
 case atStart=>exact⟨0,none,0,0,[],aq _,rfl,rfl,aa _,hid rfl,hid rfl,hid (aF _ _ _ _),hid (ag _ _)⟩
 case round=>
  obtain⟨k,A',c',m,M,hk,rfl,rfl,hmk,HML,HM,HO,HBr⟩:=hrel;by_cases hlt:k<L.length
  ·have i1:(0:Int)<=(k:Int):=by omega
   have i2:(k:Int)<(L.length:Int):=by omega
   obtain⟨rb,ro,rfl,-,hrb,hrange⟩:=HR.out.range (λ_=>rfl) hlt;have hst:gW G (L.take (k+1))=stepL G M (L.getD k dt0):=by rw[HM.out];exact eL _ _ hlt dt0
   generalize L.getD k dt0=p at *;obtain⟨⟨⟨t,r⟩,n⟩,⟨bt,br⟩⟩:=p;have HRW:=hid (λW (hB:Below w.heap.size w W)=>show W.rangeAt rb (ro+k*5) [.int .i64 t,.int .i64 r,.int .i64 n,.int .i64 bt,.int .i64 br] from cd hrange hrb hB);have HST:=hid hst;have hsz:=HBr.out.size;have hm63:m<=100000:=by omega
   clear hrange hrb hst;obtain⟨b1,hb1⟩:∃b,b=G.any (λy=>y.eqb ⟨⟨⟨t,r⟩,n⟩,⟨bt,br⟩⟩):=⟨_,rfl⟩;obtain⟨b3,hb3⟩:∃b,b=M.any (λy=>y.eqb ⟨⟨t,r⟩,n⟩):=⟨_,rfl⟩;have HHD:=hid (λW (hB:Below w.heap.size w W)=>show Calls Tryz.prog 174 #[.slice A2 G.length c2,.agg #[t,r,n,bt,br]] W λe w'=>e= .returned (.bool b1)∧Below W.heap.size W w' from by rw[hb1];exact hasdot_any G A2 c2 ⟨⟨⟨t,r⟩,n⟩,⟨bt,br⟩⟩ S2 W (by omega) (HR2.out.below hB))
   have HHI:=hid (λW (hB:Below wr.heap.size wr W)=>show Calls Tryz.prog 173 #[.slice A' m c',.agg #[t,r,n]] W λe w'=>e= .returned (.bool b3)∧Below W.heap.size W w' from by
    have h9:=hasid_any M A' c' ⟨⟨t,r⟩,n⟩ _ W (by rw[<-HML.out];omega) (ct (f:=idL) (z:=Gid.zero) (λ_=>rfl) HML.out (HO.out.kept (dg (r:=none) hB) (cw _)))
    rw[<-HML.out,<-hb3] at h9;exact h9)
   have HHI:=hid (λW (hB:Below wr.heap.size wr W)=>HHI.out W hB);have HST:=hid (show gW G (L.take (k+1))=if (b1 || b3)=true then M else insB (λy=>Gid.lt ⟨⟨t,r⟩,n⟩ y) Gid.zero M ⟨⟨t,r⟩,n⟩ by rw[HST.out,hb1,hb3];rfl);have HRX:=hid (show wr.rangeAt rb (ro+k*5) [.int .i64 t,.int .i64 r,.int .i64 n] from bv (pre:=[]) (post:=[.int .i64 bt,.int .i64 br]) (HRW.out wr HBr.out));clear hb1 hb3
   go_upto_region 6 with(first
    |(refine lM HRX aw ?_)
    |(refine bM rfl _ _ _ rfl _ _ _ _ rfl ?_ rfl ?_ ?_ ?_ ?_;(focus(simp;done));kernel_rfl;rfl;rfl))
   have hba:=HBr.out.alloc hsz (.cells #[t,r,n] 108);have hbx:Below wr.heap.size wr (wr.alloc (.cells #[t,r,n] 108)):=(ag _ _).alloc (aa _) _;have HCX:=hid (am wr (.cells #[t,r,n] 108));generalize hW:wr.alloc (.cells #[t,r,n] 108)=W at *;have HBW:=hid hba;have HBX:=hid hbx;have HRD:=hid (HRW.out W hba);have HOW:=kO HO hbx;clear hW hba hbx;cases b1 with
   | true=>
    have HS9:=hid (show gW G (L.take (k+1))=M by rw[HST.out];rfl)
    go_wp2_with (first
     |(refine lM HRD Tryz.underlying163 ?_)
     |(go_at_call 174;refine(HHD.out W HBW.out).mono ?_;rintro e w3 ⟨rfl,hB3⟩;have HB3:=bT HBW hB3;have HO3:=kO HOW hB3;clear hB3))
    go_roundw
    case rel=>exact⟨k+1,A',c',m,M,by omega,by go_num,rfl,by omega,HML,hid HS9.out.symm,HO3,HB3⟩
    case measure=>(simp[RowKit.intOf];omega)
   | false=>
    cases b3 with
    | true=>
     have HS9:=hid (show gW G (L.take (k+1))=M by rw[HST.out];rfl)
     go_wp2_with (first
      |(refine lM HRD Tryz.underlying163 ?_)
      |(refine lA HC2 aw ?_)
      |(go_at_call 174;refine(HHD.out W HBW.out).mono ?_;rintro e w2 ⟨rfl,hB2⟩;have HB2:=bT HBW hB2;have HBY:=bT HBX hB2;have HC2:=bK hB2 HCX;have z0:w2.cell? ⟨wr.heap.size,0,none⟩=some (.int .i64 t):=aD _ _ _ _ _ _ HC2.out;have z1:w2.cell? ⟨wr.heap.size,1,none⟩=some (.int .i64 r):=aD _ _ _ _ _ _ HC2.out;have z2:w2.cell? ⟨wr.heap.size,2,none⟩=some (.int .i64 n):=aD _ _ _ _ _ _ HC2.out;clear hB2)
      |(go_at_call 173;refine(HHI.out w2 HBY.out).mono ?_;rintro e w3 ⟨rfl,hB3⟩;have HB3:=bT HB2 hB3;have HO3:=hid (HO.out.kept (dg (r:=none) (HBY.out.trans (hB3.mono HBY.out.size))) (cw _));clear hB3))
     go_roundw
     case rel=>exact⟨k+1,A',c',m,M,by omega,by go_num,rfl,by omega,HML,hid HS9.out.symm,HO3,HB3⟩
     case measure=>(simp[RowKit.intOf];omega)
    | false=>
     have HS9:=hid (show gW G (L.take (k+1))=insB (λy:Gid=>Gid.lt ⟨⟨t,r⟩,n⟩ y) Gid.zero M ⟨⟨t,r⟩,n⟩ by rw[HST.out];rfl)
     go_upto_region 7 with(first
      |(refine lM HRD Tryz.underlying163 ?_)
      |(refine lA HC2 aw ?_)
      |(go_at_call 174;refine(HHD.out W HBW.out).mono ?_;rintro e w2 ⟨rfl,hB2⟩;have HB2:=bT HBW hB2;have HBY:=bT HBX hB2;have HC2:=bK hB2 HCX;have z0:w2.cell? ⟨wr.heap.size,0,none⟩=some (.int .i64 t):=aD _ _ _ _ _ _ HC2.out;have z1:w2.cell? ⟨wr.heap.size,1,none⟩=some (.int .i64 r):=aD _ _ _ _ _ _ HC2.out;have z2:w2.cell? ⟨wr.heap.size,2,none⟩=some (.int .i64 n):=aD _ _ _ _ _ _ HC2.out;clear hB2)
      |(go_at_call 173;refine(HHI.out w2 HBY.out).mono ?_;rintro e w3 ⟨rfl,hB3⟩;have HB3:=bT HB2 hB3;have HO3:=hid (HO.out.kept (dg (r:=none) (HBY.out.trans (hB3.mono HBY.out.size))) (cw _));have HC3:=bK hB3 HC2;clear hB3))
     have hsz3:=HB3.out.size
     go_upto_region 9 with(first
      |(refine lA HC3 aw ?_)
      |(at_builtin;refine bX _ rfl _ _ 123 rfl w.heap.size 108 i0 (.agg #[(0:Int),(0:Int),(0:Int)]) 3 24 eQ hi hz0 hz1 hz2 rfl (by decide) (.slice A' m c') m _ rfl (by exact HO3.out.alloc _) ⟨w3.heap.size,0,none⟩ 1 1 [.int .i64 t,.int .i64 r,.int .i64 n] rfl rfl (λj y h=>dH w3 [.int .i64 t,.int .i64 r,.int .i64 n] 108 j y h) (fw (c:=#[.int .i64 t,.int .i64 r,.int .i64 n]) rfl) (by decide) (by unfold maxLen;omega) (by omega) (by simp;omega) (w3.heap.size+1) (by simp) ?_;intro gq cap w5 hown hgrow ha hlt5;have HO5:=hid hown;have HB5:=hid ((HB3.out.alloc hsz3 _).grown hgrow (by simp;omega) (λb hb=>(HO3.out.lt b hb).1));clear hown hgrow ha hlt5))
     clear HHD HHI HCX HBW HBX HRD HOW HB2 HBY HC2 HB3 HO3 HC3 HRX hsz3;have hs9:slid M (⟨⟨t,r⟩,n⟩:Gid) m=M++[⟨⟨t,r⟩,n⟩]:=by rw[HML.out];exact ju _ _
     have HO6:=hid (show w5.ownsRow w.heap.size 108 3 (.slice (some ⟨gq,0,none⟩) (m+1) cap) (m+1) ((slid M (⟨⟨t,r⟩,n⟩:Gid) m).flatMap idL) by rw[hs9,aI];exact HO5.out);clear hs9 HO5;generalize w5=w6 at *;go_loopw [8] (λi wx=>∃(q:Nat),i= .int .i64 q∧q<=m∧Hid (dY (λy:Gid=>Gid.lt ⟨⟨t,r⟩,n⟩ y) .zero M q=dY (λy:Gid=>Gid.lt ⟨⟨t,r⟩,n⟩ y) .zero M M.length)∧Hid (wx.ownsRow w.heap.size 108 3 (.slice (some ⟨gq,0,none⟩) (m+1) cap) (m+1) ((slid M (⟨⟨t,r⟩,n⟩:Gid) q).flatMap idL))∧Hid (Below w.heap.size w wx)) (λi _=>(RowKit.intOf i).toNat)
     case atStart=>exact⟨m,rfl,aa _,hid (by rw[HML.out]),HO6,HB5⟩
     case round=>
      obtain⟨q,rfl,hq,HIX,HOq,HBq⟩:=hrel;by_cases h0:0<q
      ·obtain⟨q,rfl⟩:∃p,q=p+1:=⟨q-1,by omega⟩;have hqm:q+1<=M.length:=by rw[<-HML.out];exact hq
       have hl1:m+1=(slid M (⟨⟨t,r⟩,n⟩:Gid) (q+1)).length:=by rw[eO,<-HML.out]
       obtain⟨g3,e3,-,hg3,hr3⟩:=cz (f:=idL) (λ_=>rfl) hl1 HOq.out (k:=q) (by omega) .zero;cases e3;obtain⟨g4,e4,-,-,hr4⟩:=cz (f:=idL) (λ_=>rfl) hl1 HOq.out (k:=q+1) (by omega) .zero;cases e4;rw[js hqm] at hr3;rw[ku hqm] at hr4;have hsw:=ip (L:=M) (x:=(⟨⟨t,r⟩,n⟩:Gid)) (z:= .zero) hqm;obtain⟨y,hy⟩:∃y,y=M.getD q .zero:=⟨_,rfl⟩;rw[<-hy] at hr3 hsw;obtain⟨b2,hb2⟩:∃b,b=(λy:Gid=>Gid.lt ⟨⟨t,r⟩,n⟩ y) y:=⟨_,rfl⟩;have HPY:=hid (show(λy:Gid=>Gid.lt ⟨⟨t,r⟩,n⟩ y) (M.getD q .zero)=b2 by rw[<-hy,hb2]);clear hy;obtain⟨⟨t2,r2⟩,n2⟩:=y;have HR3:=hid (show wr.rangeAt gq (q*3) [.int .i64 t2,.int .i64 r2,.int .i64 n2] from hr3);have HR4:=hid (show wr.rangeAt gq ((q+1)*3) [.int .i64 t,.int .i64 r,.int .i64 n] from hr4);have y0:=aj (w:=wr) (a:=⟨gq,q*3,none⟩) (v:= .int .i64 t2) (hr3 0 _ rfl);have y1:=aj (w:=wr) (a:=⟨gq,q*3+1,none⟩) (v:= .int .i64 r2) (hr3 1 _ rfl);have y2:=aj (w:=wr) (a:=⟨gq,q*3+2,none⟩) (v:= .int .i64 n2) (hr3 2 _ rfl);have x0:=aj (w:=wr) (a:=⟨gq,(q+1)*3,none⟩) (v:= .int .i64 t) (hr4 0 _ rfl);have x1:=aj (w:=wr) (a:=⟨gq,(q+1)*3+1,none⟩) (v:= .int .i64 r) (hr4 1 _ rfl);have x2:=aj (w:=wr) (a:=⟨gq,(q+1)*3+2,none⟩) (v:= .int .i64 n) (hr4 2 _ rfl);have HSW:=hid hsw;have k1:(0:Int)<(q:Int)+1:=by omega
       have k2:(0:Int)<=(q:Int):=by omega
       have k3:(q:Int)<(m:Int)+1:=by omega
       have k4:(q:Int)+1<(m:Int)+1:=by omega
       have k5:(0:Int)<=(q:Int)+1:=by omega
       have k6:IntKind.i64.wrap (q:Int)=(q:Int):=by rw[bz];omega
       have HL1:=hid hl1;have HBF:=λW=>gx t r n t2 r2 n2 W;obtain⟨zc,hzc⟩:∃z,z=rcmpD ⟨⟨t,r⟩,n⟩ ⟨⟨t2,r2⟩,n2⟩:=⟨_,rfl⟩;rw[<-hzc] at HBF;have hz2:decide (0<=zc)= !b2:=by rw[hzc,jW,hb2]
       have hz3:decide (zc<0)=b2:=by cases b2<;>simp at hz2 ⊢ <;>omega
       clear hzc hz2;have cA:=λd os=>ay (HBF (grow (redrawn wr d) os));clear hr3 hr4 hb2 hsw hl1;cases b2 with
       |false=>
        go_upto_region 9 with fail;refine rqb ?_
        repeat(any_goals(first|go_big_quiet_step (with_reducible exact cA _ _)|quiet_step (with_reducible exact cA _ _)))
        refine qz λwq hBq=> ?_;have HS8:=hid (show gW G (L.take (k+1))=slid M (⟨⟨t,r⟩,n⟩:Gid) (q+1) by rw[HS9.out];unfold insB;rw[<-HIX.out,ge (.inr ⟨q,rfl,HPY.out⟩)]);have HOx:=kO HOq hBq;have HBx:=bT HBq hBq;go_wp2;go_roundw
        case rel=>exact⟨k+1,some ⟨gq,0,none⟩,cap,m+1,_,by omega,by go_num,rfl,by omega,HL1,hid HS8.out.symm,HOx,HBx⟩
        case measure=>(simp[RowKit.intOf];omega)
       | true=>
        go_upto_region 9 with fail;refine rqb ?_
        repeat(any_goals(first|go_big_quiet_step (with_reducible exact cA _ _)|quiet_step (with_reducible exact cA _ _)))
        refine qz λwq hBq=> ?_;have HIX2:=hid (show dY (λy:Gid=>Gid.lt ⟨⟨t,r⟩,n⟩ y) .zero M q=dY (λy:Gid=>Gid.lt ⟨⟨t,r⟩,n⟩ y) .zero M M.length by rw[<-HIX.out,iF HPY.out]);have HR3q:=hid (cd HR3.out hg3 hBq);have HR4q:=hid (cd HR4.out hg3 hBq);have HOq2:=kO HOq hBq;have HBq2:=bT HBq hBq;clear y0 y1 y2 x0 x1 x2 cA HOq hBq;go_upto_region 11 with fail;obtain⟨V1,hV1⟩:∃V,V=wq.drew.setCells gq ((q+1)*3) (#[.int .i64 t2,.int .i64 r2,.int .i64 n2]:Array Value).toList:=⟨_,rfl⟩;have hP1:V1.ownsRow w.heap.size 108 3 (.slice (some ⟨gq,0,none⟩) (m+1) cap) (m+1) (((slid M (⟨⟨t,r⟩,n⟩:Gid) (q+1)).set (q+1) (⟨⟨t2,r2⟩,n2⟩:Gid)).flatMap idL)∧wq.drew.grownBy V1 (some gq):=by rw[hV1];exact eP (f:=idL) (λ_=>rfl) (by decide) HL1.out (show wq.drew.ownsRow _ _ _ _ _ _ from HOq2.out) (by omega) (⟨⟨t2,r2⟩,n2⟩:Gid)
        obtain⟨V2,hV2⟩:∃V,V=V1.setCells gq (q*3) (#[.int .i64 t,.int .i64 r,.int .i64 n]:Array Value).toList:=⟨_,rfl⟩;have hP2:V2.ownsRow w.heap.size 108 3 (.slice (some ⟨gq,0,none⟩) (m+1) cap) (m+1) ((((slid M (⟨⟨t,r⟩,n⟩:Gid) (q+1)).set (q+1) (⟨⟨t2,r2⟩,n2⟩:Gid)).set q (⟨⟨t,r⟩,n⟩:Gid)).flatMap idL)∧V1.grownBy V2 (some gq):=by rw[hV2];exact eP (f:=idL) (λ_=>rfl) (by decide) (by rw[cM];exact HL1.out) hP1.1 (by omega) (⟨⟨t,r⟩,n⟩:Gid)
        obtain⟨g5,e5,ht5⟩:=ey (show wq.drew.ownsRow _ _ _ _ _ _ from HOq2.out) (k:=q+1) (by omega);cases e5;obtain⟨g6,e6,ht6⟩:=ey hP1.1 (k:=q) (by omega);cases e6;have HP2:=hid hP2.1;have HG2:=hid (show wq.heap.size<=V2.heap.size∧(Below w.heap.size w wq->w.heap.size<=gq->Below w.heap.size w V2) from⟨aL (show wq.drew.heap.size<=V1.heap.size from hP1.2.size) hP2.2.size,λhb hl=>(hb.drew.grown hP1.2 (by exact hb.size) (λb e=>by cases e;exact hl)).grown hP2.2 (aL hb.size (show wq.drew.heap.size<=V1.heap.size from hP1.2.size)) (λb e=>by cases e;exact hl)⟩);have HV1:=hid hV1;have HV2:=hid hV2;have HT5:=hid ht5;have HT6:=hid ht6;have HAY:=hid (show(#[.int .i64 t2,.int .i64 r2,.int .i64 n2]:Array Value).all (·.oneCell')=true by rw[<-cg];rfl);have HAX:=hid (show(#[.int .i64 t,.int .i64 r,.int .i64 n]:Array Value).all (·.oneCell')=true by rw[<-cg];rfl);clear hP1 hP2 hV1 hV2 ht5 ht6;refine aR (S:=λ_=>True) (by kernel_rfl) ?_
        try(change wpAnyH _ _ _ _ _ _ _ _ (World.drew _))
        refine tk 0 (.slice (some ⟨gq,0,none⟩) (m+1) cap) (trivial) ?_;go_simp;refine tk 1 (.int .i64 ((q:Int)+1)) (trivial) ?_;go_simp;refine tk 2 (.slice (some ⟨gq,0,none⟩) (m+1) cap) (trivial) ?_;go_simp;refine tk 3 (.int .i64 ((q:Int)+1)) (trivial) ?_;go_simp;refine tk 4 (.int .i64 (q:Int)) (trivial) ?_;go_simp;refine tk 5 (.slice (some ⟨gq,0,none⟩) (m+1) cap) (trivial) ?_;go_simp;refine tk 6 (.int .i64 ((q:Int)+1)) (trivial) ?_;go_simp;refine tk 7 (.int .i64 (q:Int)) (trivial) ?_;go_simp;refine tk 8 (.pointer (some ⟨gq,q*3,none⟩)) (trivial) ?_;go_simp;refine tk 10 (.slice (some ⟨gq,0,none⟩) (m+1) cap) (trivial) ?_;go_simp;refine tk 11 (.int .i64 ((q:Int)+1)) (trivial) ?_;go_simp;refine tk 12 (.pointer (some ⟨gq,(q+1)*3,none⟩)) (trivial) ?_;go_simp;refine dp (rs:=[9,13]) (by kernel_rfl) (by simp) ?_;refine aX rfl (λK hK=> ?_) (aX rfl (λK hK=> ?_) cX)
        focus
         refine bA rfl _ _ rfl gq (q*3) rfl [.int .i64 t2,.int .i64 r2,.int .i64 n2] _ (show wq.drew.rangeAt _ _ _ from HR3q.out) aw rfl (by kernel_rfl) ?_;refine hK.out _ _ (trivial) (λ_=> ?_);clear hK K;refine rd1 13 λK hK=> ?_;refine bA rfl _ _ rfl gq ((q+1)*3) rfl [.int .i64 t,.int .i64 r,.int .i64 n] _ (show wq.drew.rangeAt _ _ _ from HR4q.out) aw rfl (by kernel_rfl) ?_;refine hK.out _ _ (trivial) (λ_=> ?_);clear hK K
        rotate_left
        focus
         refine bA rfl _ _ rfl gq ((q+1)*3) rfl [.int .i64 t,.int .i64 r,.int .i64 n] _ (show wq.drew.rangeAt _ _ _ from HR4q.out) aw rfl (by kernel_rfl) ?_;refine hK.out _ _ (trivial) (λ_=> ?_);clear hK K;refine rd1 9 λK hK=> ?_;refine bA rfl _ _ rfl gq (q*3) rfl [.int .i64 t2,.int .i64 r2,.int .i64 n2] _ (show wq.drew.rangeAt _ _ _ from HR3q.out) aw rfl (by kernel_rfl) ?_;refine hK.out _ _ (trivial) (λ_=> ?_);clear hK K
        all_goals
         refine tk 14 (.pointer (some ⟨gq,(q+1)*3,none⟩)) (trivial) ?_;go_simp;refine rd1 15 λK hK=> ?_;refine cy rfl _ _ _ rfl gq ((q+1)*3) #[.int .i64 t2,.int .i64 r2,.int .i64 n2] (by rfl) (by rfl) HT5.out (by kernel_rfl) HAY.out ?_;rw[<-HV1.out];refine hK.out _ _ (trivial) (λ_=> ?_);clear hK K;refine tk 16 (.pointer (some ⟨gq,q*3,none⟩)) (trivial) ?_;go_simp;refine rd1 17 λK hK=> ?_;refine cy rfl _ _ _ rfl gq (q*3) #[.int .i64 t,.int .i64 r,.int .i64 n] (by rfl) (by rfl) HT6.out (by kernel_rfl) HAX.out ?_;rw[<-HV2.out];refine hK.out _ _ (trivial) (λ_=> ?_);clear hK K;refine be (by kernel_rfl) ?_ _;go_simp;go_wp2;go_roundw
         case rel=>exact⟨q,by go_num,by omega,HIX2,hid (by rw[<-HSW.out];exact HP2.out),hid (HG2.out.2 HBq2.out (HOq2.out.lt gq rfl).1)⟩
         case measure=>(simp[RowKit.intOf];try omega)
      ·obtain rfl:q=0:=by omega
       go_upto_region 9 with fail;refine rqb ?_
       repeat(any_goals(first|go_big_quiet_step (fail)|quiet_step (fail)))
       refine qz λwq hBq=> ?_;have HS8:=hid (show gW G (L.take (k+1))=slid M (⟨⟨t,r⟩,n⟩:Gid) 0 by rw[HS9.out];unfold insB;rw[<-HIX.out];rfl);have HL1:=hid (show m+1=(slid M (⟨⟨t,r⟩,n⟩:Gid) 0).length by rw[eO,<-HML.out]);have HOx:=kO HOq hBq;have HBx:=bT HBq hBq;go_wp2;go_roundw
       case rel=>exact⟨k+1,some ⟨gq,0,none⟩,cap,m+1,_,by omega,by go_num,rfl,by omega,HL1,hid HS8.out.symm,HOx,HBx⟩
       case measure=>(simp[RowKit.intOf];omega)
  ·obtain rfl:k=L.length:=by omega
   have i2:¬(L.length:Int)<(L.length:Int):=by omega
   have HM9:=hid (show M=gW G L by have h9:=HM.out;rw[aK] at h9;exact h9);go_wp2;go_ret;refine⟨A',c',by rw[<-HM9.out,<-HML.out];rfl,?_,HBr.out⟩;rw[<-HM9.out,<-HML.out];exact HO.out
theorem iC {w:World} {B B2 E s n:Nat} {v:Value} {xs:List Value} (h:w.ownsRow B E s v n xs) (hb:B2<=B):w.ownsRow B2 E s v n xs:=by
 rcases h.2 with⟨e1,e2⟩|⟨g,cap,cur,e1,e2,e3⟩
 ·exact⟨h.1,.inl ⟨e1,e2⟩⟩
 ·exact⟨h.1,.inr ⟨g,cap,cur,e1,by omega,e3⟩⟩
theorem of14_any (L G:List Dt) (A A2:Option Addr) (c c2:Nat) (xt xr xi:Int) (S S2:Nat->Prop) (w00:World) (hl:L.length<=100000) (hl2:G.length<=100000) (hR:RowF w00 S A 5 dtL dt0 L) (hR2:RowF w00 S2 A2 5 dtL dt0 G):
  Calls Tryz.prog 145 #[.slice A L.length c,.slice A2 G.length c2,.agg #[xt,xr,xi]] w00 λe w'=>∃A' c',e= .returned (.slice A' (ofL G ⟨⟨xt,xr⟩,xi⟩ L).length c')∧w'.ownsRow w00.heap.size 42 2 (.slice A' (ofL G ⟨⟨xt,xr⟩,xi⟩ L).length c') (ofL G ⟨⟨xt,xr⟩,xi⟩ L).length ((ofL G ⟨⟨xt,xr⟩,xi⟩ L).flatMap stL)∧Below w00.heap.size w00 w':=by
 obtain⟨i0,hi,hz0,hz1,hz2⟩:=bD info_st;have hb0:Below w00.heap.size w00 (w00.alloc (.cells #[xt,xr,xi] 108)):=(ag _ _).alloc (aa _) _;have HB0:=hid hb0;have HCX:=hid (am w00 (.cells #[xt,xr,xi] 108));have HR:=hid (hR.below hb0);have HR2:=hid (hR2.below hb0);clear hR hR2 hb0;go_enter Tryz.func145,Tryz.ntmps145;go_upto_region 3 with fail;generalize hW:w00.alloc (.cells #[xt,xr,xi] 108)=w at *;clear hW;generalize hxb:w00.heap.size=xb at *;have HXB:=hid hxb;clear hxb;go_loopw [7,8] (λo i wr=>∃(k:Nat) (A':Option Addr) (c' m:Nat) (M:List Gst),k<=L.length∧i= .int .i64 k∧o= .slice A' m c'∧m<=k∧Hid (m=M.length)∧Hid (M=ofL G ⟨⟨xt,xr⟩,xi⟩ (L.take k))∧Hid (wr.ownsRow w.heap.size 42 2 (.slice A' m c') m (M.flatMap stL))∧Hid (Below w.heap.size w wr)) (λo i _=>L.length-(RowKit.intOf i).toNat)
 case atStart=>exact⟨0,none,0,0,[],aq _,rfl,rfl,aa _,hid rfl,hid rfl,hid (aF _ _ _ _),hid (ag _ _)⟩
 case round=>
  obtain⟨k,A',c',m,M,hk,rfl,rfl,hmk,HML,HM,HO,HBr⟩:=hrel;by_cases hlt:k<L.length
  ·have i1:(0:Int)<=(k:Int):=by omega
   have i2:(k:Int)<(L.length:Int):=by omega
   obtain⟨rb,ro,rfl,-,hrb,hrange⟩:=HR.out.range (λ_=>rfl) hlt;have hst:ofL G ⟨⟨xt,xr⟩,xi⟩ (L.take (k+1))=stepO G ⟨⟨xt,xr⟩,xi⟩ M (L.getD k dt0):=by rw[HM.out];exact eL _ _ hlt dt0
   generalize L.getD k dt0=p at *;obtain⟨⟨⟨t,r⟩,n⟩,⟨bt,br⟩⟩:=p;have HRW:=hid (λW (hB:Below w.heap.size w W)=>show W.rangeAt rb (ro+k*5) [.int .i64 t,.int .i64 r,.int .i64 n,.int .i64 bt,.int .i64 br] from cd hrange hrb hB);have HST:=hid hst;have hsz:=HBr.out.size;have hm63:m<=100000:=by omega
   clear hrange hrb hst;obtain⟨v,hv⟩:∃b,b=Gid.eqb ⟨⟨t,r⟩,n⟩ ⟨⟨xt,xr⟩,xi⟩:=⟨_,rfl⟩;obtain⟨b1,hb1⟩:∃b,b=G.any (λy=>y.eqb ⟨⟨⟨t,r⟩,n⟩,⟨bt,br⟩⟩):=⟨_,rfl⟩;obtain⟨b3,hb3⟩:∃b,b=M.any (λy=>y.eqb ⟨bt,br⟩):=⟨_,rfl⟩;have HHD:=hid (λW (hB:Below w.heap.size w W)=>show Calls Tryz.prog 174 #[.slice A2 G.length c2,.agg #[t,r,n,bt,br]] W λe w'=>e= .returned (.bool b1)∧Below W.heap.size W w' from by rw[hb1];exact hasdot_any G A2 c2 ⟨⟨⟨t,r⟩,n⟩,⟨bt,br⟩⟩ S2 W (by omega) (HR2.out.below hB))
   have HHS:=hid (λW (hB:Below wr.heap.size wr W)=>show Calls Tryz.prog 109 #[.slice A' m c',.agg #[bt,br]] W λe w'=>e= .returned (.bool b3)∧Below W.heap.size W w' from by
    have h9:=hasstamp_any M A' c' ⟨bt,br⟩ _ W (by rw[<-HML.out];omega) (ct (f:=stL) (z:=Gst.zero) (λ_=>rfl) HML.out (HO.out.kept (dg (r:=none) hB) (cw _)))
    rw[<-HML.out,<-hb3] at h9;exact h9)
   have HST:=hid (show ofL G ⟨⟨xt,xr⟩,xi⟩ (L.take (k+1))=if (!v || b1 || b3)=true then M else insB (λy=>Gst.lt ⟨bt,br⟩ y) Gst.zero M ⟨bt,br⟩ by rw[HST.out,hv,hb1,hb3];rfl);have q1:=ne_id t r n xt xr xi v hv.symm;have HRG:=hid (HRW.out wr HBr.out);have HXr:=bK HBr.out HCX;have y0:=aj (w:=wr) (a:=⟨rb,ro+k*5,none⟩) (v:= .int .i64 t) (HRG.out 0 _ rfl);have y1:=aj (w:=wr) (a:=⟨rb,ro+k*5+1,none⟩) (v:= .int .i64 r) (HRG.out 1 _ rfl);have y2:=aj (w:=wr) (a:=⟨rb,ro+k*5+2,none⟩) (v:= .int .i64 n) (HRG.out 2 _ rfl);have y3:=aj (w:=wr) (a:=⟨rb,ro+k*5+3,none⟩) (v:= .int .i64 bt) (HRG.out 3 _ rfl);have y4:=aj (w:=wr) (a:=⟨rb,ro+k*5+4,none⟩) (v:= .int .i64 br) (HRG.out 4 _ rfl);have x0:=rg0 HXr.out;have x1:=rg1 HXr.out;have x2:=rg2 HXr.out;have cA:=λd os=>ay (HHD.out (grow (redrawn wr d) os) (HBr.out.trans ((bE wr d os).mono hsz)));have cB:=λd os=>ay (HHS.out (grow (redrawn wr d) os) (bE wr d os));clear hv hb1 hb3;cases v with
   |false=>
    have HS9:=hid (show ofL G ⟨⟨xt,xr⟩,xi⟩ (L.take (k+1))=M by rw[HST.out];rfl);go_upto_region 5 with fail;refine rqb ?_
    repeat(any_goals(first|go_big_quiet_step (with_reducible first|exact cA _ _|exact cB _ _)|quiet_step (with_reducible first|exact cA _ _|exact cB _ _)))
    refine qz λwq hBq=> ?_;have HO3:=kO HO hBq;have HB3:=hid (HBr.out.trans (hBq.mono hsz));go_wp2;go_roundw
    case rel=>exact⟨k+1,A',c',m,M,by omega,by go_num,rfl,by omega,HML,hid HS9.out.symm,HO3,HB3⟩
    case measure=>(simp[RowKit.intOf];omega)
   | true =>
    cases b1 with
    |true=>
     have HS9:=hid (show ofL G ⟨⟨xt,xr⟩,xi⟩ (L.take (k+1))=M by rw[HST.out];rfl);go_upto_region 5 with fail;refine rqb ?_
     repeat(any_goals(first|go_big_quiet_step (with_reducible first|exact cA _ _|exact cB _ _)|quiet_step (with_reducible first|exact cA _ _|exact cB _ _)))
     refine qz λwq hBq=> ?_;have HO3:=kO HO hBq;have HB3:=hid (HBr.out.trans (hBq.mono hsz));go_wp2;go_roundw
     case rel=>exact⟨k+1,A',c',m,M,by omega,by go_num,rfl,by omega,HML,hid HS9.out.symm,HO3,HB3⟩
     case measure=>(simp[RowKit.intOf];omega)
    | false=>
     cases b3 with
     |true=>
      have HS9:=hid (show ofL G ⟨⟨xt,xr⟩,xi⟩ (L.take (k+1))=M by rw[HST.out];rfl);go_upto_region 5 with fail;refine rqb ?_
      repeat(any_goals(first|go_big_quiet_step (with_reducible first|exact cA _ _|exact cB _ _)|quiet_step (with_reducible first|exact cA _ _|exact cB _ _)))
      refine qz λwq hBq=> ?_;have HO3:=kO HO hBq;have HB3:=hid (HBr.out.trans (hBq.mono hsz));go_wp2;go_roundw
      case rel=>exact⟨k+1,A',c',m,M,by omega,by go_num,rfl,by omega,HML,hid HS9.out.symm,HO3,HB3⟩
      case measure=>(simp[RowKit.intOf];omega)
     | false=>
      have HS9:=hid (show ofL G ⟨⟨xt,xr⟩,xi⟩ (L.take (k+1))=insB (λy:Gst=>Gst.lt ⟨bt,br⟩ y) Gst.zero M ⟨bt,br⟩ by rw[HST.out];rfl);go_upto_region 5 with fail;refine rqb ?_
      repeat(any_goals(first|go_big_quiet_step (with_reducible first|exact cA _ _|exact cB _ _)|quiet_step (with_reducible first|exact cA _ _|exact cB _ _)))
      refine qz λwq hBq=> ?_;have HO3:=kO HO hBq;have HB3:=hid (HBr.out.trans (hBq.mono hsz));have hsz3:=HB3.out.size;have HRX:=hid (show wq.rangeAt rb (ro+k*5+3) [.int .i64 bt,.int .i64 br] from bv (pre:=[.int .i64 t,.int .i64 r,.int .i64 n]) (post:=[]) (HRW.out wq HB3.out));clear y0 y1 y2 y3 y4 x0 x1 x2 cA cB hBq
      go_upto_region 8 with(first
       |(refine lM HRX cb ?_)
       |(at_builtin;refine bX _ rfl _ _ 100 rfl w.heap.size 42 i0 (.agg #[(0:Int),(0:Int)]) 2 16 Tryz.underlying100 hi hz0 hz1 hz2 rfl (by decide) (.slice A' m c') m _ rfl (by exact HO3.out.alloc _) ⟨wq.heap.size,0,none⟩ 1 1 [.int .i64 bt,.int .i64 br] rfl rfl (λj y h=>dH wq [.int .i64 bt,.int .i64 br] 42 j y h) (fw (c:=#[.int .i64 bt,.int .i64 br]) rfl) (by decide) (by unfold maxLen;omega) (by omega) (by simp;omega) (wq.heap.size+1) (by simp) ?_;intro gq cap w5 hown hgrow ha hlt5;have HO5:=hid hown;have HB5:=hid ((HB3.out.alloc hsz3 _).grown hgrow (by simp;omega) (λb hb=>(HO3.out.lt b hb).1));clear hown hgrow ha hlt5))
      clear HHD HHS HRG HXr HB3 HO3 HRX hsz3;have hs9:slid M (⟨bt,br⟩:Gst) m=M++[⟨bt,br⟩]:=by rw[HML.out];exact ju _ _
      have HO6:=hid (show w5.ownsRow w.heap.size 42 2 (.slice (some ⟨gq,0,none⟩) (m+1) cap) (m+1) ((slid M (⟨bt,br⟩:Gst) m).flatMap stL) by rw[hs9,aI];exact HO5.out);clear hs9 HO5;generalize w5=w6 at *;go_loopw [9] (λi wx=>∃(q:Nat),i= .int .i64 q∧q<=m∧Hid (dY (λy:Gst=>Gst.lt ⟨bt,br⟩ y) .zero M q=dY (λy:Gst=>Gst.lt ⟨bt,br⟩ y) .zero M M.length)∧Hid (wx.ownsRow w.heap.size 42 2 (.slice (some ⟨gq,0,none⟩) (m+1) cap) (m+1) ((slid M (⟨bt,br⟩:Gst) q).flatMap stL))∧Hid (Below w.heap.size w wx)) (λi _=>(RowKit.intOf i).toNat)
      case atStart=>exact⟨m,rfl,aa _,hid (by rw[HML.out]),HO6,HB5⟩
      case round=>
       obtain⟨q,rfl,hq,HIX,HOq,HBq⟩:=hrel;by_cases h0:0<q
       ·obtain⟨q,rfl⟩:∃p,q=p+1:=⟨q-1,by omega⟩;have hqm:q+1<=M.length:=by rw[<-HML.out];exact hq
        have hl1:m+1=(slid M (⟨bt,br⟩:Gst) (q+1)).length:=by rw[eO,<-HML.out]
        obtain⟨g3,e3,-,hg3,hr3⟩:=cz (f:=stL) (λ_=>rfl) hl1 HOq.out (k:=q) (by omega) .zero;cases e3;obtain⟨g4,e4,-,-,hr4⟩:=cz (f:=stL) (λ_=>rfl) hl1 HOq.out (k:=q+1) (by omega) .zero;cases e4;rw[js hqm] at hr3;rw[ku hqm] at hr4;have hsw:=ip (L:=M) (x:=(⟨bt,br⟩:Gst)) (z:= .zero) hqm;obtain⟨y,hy⟩:∃y,y=M.getD q .zero:=⟨_,rfl⟩;rw[<-hy] at hr3 hsw;obtain⟨b2,hb2⟩:∃b,b=(λy:Gst=>Gst.lt ⟨bt,br⟩ y) y:=⟨_,rfl⟩;have HPY:=hid (show(λy:Gst=>Gst.lt ⟨bt,br⟩ y) (M.getD q .zero)=b2 by rw[<-hy,hb2]);clear hy;obtain⟨t2,r2⟩:=y;have HR3:=hid (show wr.rangeAt gq (q*2) [.int .i64 t2,.int .i64 r2] from hr3);have HR4:=hid (show wr.rangeAt gq ((q+1)*2) [.int .i64 bt,.int .i64 br] from hr4);have y0:=aj (w:=wr) (a:=⟨gq,q*2,none⟩) (v:= .int .i64 t2) (hr3 0 _ rfl);have y1:=aj (w:=wr) (a:=⟨gq,q*2+1,none⟩) (v:= .int .i64 r2) (hr3 1 _ rfl);have x0:=aj (w:=wr) (a:=⟨gq,(q+1)*2,none⟩) (v:= .int .i64 bt) (hr4 0 _ rfl);have x1:=aj (w:=wr) (a:=⟨gq,(q+1)*2+1,none⟩) (v:= .int .i64 br) (hr4 1 _ rfl);have HSW:=hid hsw;have k1:(0:Int)<(q:Int)+1:=by omega
        have k2:(0:Int)<=(q:Int):=by omega
        have k3:(q:Int)<(m:Int)+1:=by omega
        have k4:(q:Int)+1<(m:Int)+1:=by omega
        have k5:(0:Int)<=(q:Int)+1:=by omega
        have k6:IntKind.i64.wrap (q:Int)=(q:Int):=by rw[bz];omega
        have HL1:=hid hl1;have HBF:=λW=>eN bt br t2 r2 W;rw[show Gst.lt ⟨bt,br⟩ ⟨t2,r2⟩=b2 from hb2.symm] at HBF;have cA:=λd os=>ay (HBF (grow (redrawn wr d) os));clear hr3 hr4 hb2 hsw hl1;cases b2 with
        |false=>
         go_upto_region 8 with fail;refine rqb ?_
         repeat(any_goals(first|go_big_quiet_step (with_reducible exact cA _ _)|quiet_step (with_reducible exact cA _ _)))
         refine qz λwq hBq=> ?_;have HS8:=hid (show ofL G ⟨⟨xt,xr⟩,xi⟩ (L.take (k+1))=slid M (⟨bt,br⟩:Gst) (q+1) by rw[HS9.out];unfold insB;rw[<-HIX.out,ge (.inr ⟨q,rfl,HPY.out⟩)]);have HOx:=kO HOq hBq;have HBx:=bT HBq hBq;go_wp2;go_roundw
         case rel=>exact⟨k+1,some ⟨gq,0,none⟩,cap,m+1,_,by omega,by go_num,rfl,by omega,HL1,hid HS8.out.symm,HOx,HBx⟩
         case measure=>(simp[RowKit.intOf];omega)
        | true=>
         go_upto_region 8 with fail;refine rqb ?_
         repeat(any_goals(first|go_big_quiet_step (with_reducible exact cA _ _)|quiet_step (with_reducible exact cA _ _)))
         refine qz λwq hBq=> ?_;have HIX2:=hid (show dY (λy:Gst=>Gst.lt ⟨bt,br⟩ y) .zero M q=dY (λy:Gst=>Gst.lt ⟨bt,br⟩ y) .zero M M.length by rw[<-HIX.out,iF HPY.out]);have HR3q:=hid (cd HR3.out hg3 hBq);have HR4q:=hid (cd HR4.out hg3 hBq);have HOq2:=kO HOq hBq;have HBq2:=bT HBq hBq;clear y0 y1 x0 x1 cA HOq hBq;go_upto_region 10 with fail;obtain⟨V1,hV1⟩:∃V,V=wq.drew.setCells gq ((q+1)*2) (#[.int .i64 t2,.int .i64 r2]:Array Value).toList:=⟨_,rfl⟩;have hP1:V1.ownsRow w.heap.size 42 2 (.slice (some ⟨gq,0,none⟩) (m+1) cap) (m+1) (((slid M (⟨bt,br⟩:Gst) (q+1)).set (q+1) (⟨t2,r2⟩:Gst)).flatMap stL)∧wq.drew.grownBy V1 (some gq):=by rw[hV1];exact eP (f:=stL) (λ_=>rfl) (by decide) HL1.out (show wq.drew.ownsRow _ _ _ _ _ _ from HOq2.out) (by omega) (⟨t2,r2⟩:Gst)
         obtain⟨V2,hV2⟩:∃V,V=V1.setCells gq (q*2) (#[.int .i64 bt,.int .i64 br]:Array Value).toList:=⟨_,rfl⟩;have hP2:V2.ownsRow w.heap.size 42 2 (.slice (some ⟨gq,0,none⟩) (m+1) cap) (m+1) ((((slid M (⟨bt,br⟩:Gst) (q+1)).set (q+1) (⟨t2,r2⟩:Gst)).set q (⟨bt,br⟩:Gst)).flatMap stL)∧V1.grownBy V2 (some gq):=by rw[hV2];exact eP (f:=stL) (λ_=>rfl) (by decide) (by rw[cM];exact HL1.out) hP1.1 (by omega) (⟨bt,br⟩:Gst)
         obtain⟨g5,e5,ht5⟩:=ey (show wq.drew.ownsRow _ _ _ _ _ _ from HOq2.out) (k:=q+1) (by omega);cases e5;obtain⟨g6,e6,ht6⟩:=ey hP1.1 (k:=q) (by omega);cases e6;have HP2:=hid hP2.1;have HG2:=hid (show wq.heap.size<=V2.heap.size∧(Below w.heap.size w wq->w.heap.size<=gq->Below w.heap.size w V2) from⟨aL (show wq.drew.heap.size<=V1.heap.size from hP1.2.size) hP2.2.size,λhb hl=>(hb.drew.grown hP1.2 (by exact hb.size) (λb e=>by cases e;exact hl)).grown hP2.2 (aL hb.size (show wq.drew.heap.size<=V1.heap.size from hP1.2.size)) (λb e=>by cases e;exact hl)⟩);have HV1:=hid hV1;have HV2:=hid hV2;have HT5:=hid ht5;have HT6:=hid ht6;have HAY:=hid (show(#[.int .i64 t2,.int .i64 r2]:Array Value).all (·.oneCell')=true by rw[<-cg];rfl);have HAX:=hid (show(#[.int .i64 bt,.int .i64 br]:Array Value).all (·.oneCell')=true by rw[<-cg];rfl);clear hP1 hP2 hV1 hV2 ht5 ht6;refine aR (S:=λ_=>True) (by kernel_rfl) ?_
         try(change wpAnyH _ _ _ _ _ _ _ _ (World.drew _))
         refine tk 0 (.slice (some ⟨gq,0,none⟩) (m+1) cap) (trivial) ?_;go_simp;refine tk 1 (.int .i64 ((q:Int)+1)) (trivial) ?_;go_simp;refine tk 2 (.slice (some ⟨gq,0,none⟩) (m+1) cap) (trivial) ?_;go_simp;refine tk 3 (.int .i64 ((q:Int)+1)) (trivial) ?_;go_simp;refine tk 4 (.int .i64 (q:Int)) (trivial) ?_;go_simp;refine tk 5 (.slice (some ⟨gq,0,none⟩) (m+1) cap) (trivial) ?_;go_simp;refine tk 6 (.int .i64 ((q:Int)+1)) (trivial) ?_;go_simp;refine tk 7 (.int .i64 (q:Int)) (trivial) ?_;go_simp;refine tk 8 (.pointer (some ⟨gq,q*2,none⟩)) (trivial) ?_;go_simp;refine tk 10 (.slice (some ⟨gq,0,none⟩) (m+1) cap) (trivial) ?_;go_simp;refine tk 11 (.int .i64 ((q:Int)+1)) (trivial) ?_;go_simp;refine tk 12 (.pointer (some ⟨gq,(q+1)*2,none⟩)) (trivial) ?_;go_simp;refine dp (rs:=[9,13]) (by kernel_rfl) (by simp) ?_;refine aX rfl (λK hK=> ?_) (aX rfl (λK hK=> ?_) cX)
         focus
          refine bA rfl _ _ rfl gq (q*2) rfl [.int .i64 t2,.int .i64 r2] _ (show wq.drew.rangeAt _ _ _ from HR3q.out) cb rfl (by kernel_rfl) ?_;refine hK.out _ _ (trivial) (λ_=> ?_);clear hK K;refine rd1 13 λK hK=> ?_;refine bA rfl _ _ rfl gq ((q+1)*2) rfl [.int .i64 bt,.int .i64 br] _ (show wq.drew.rangeAt _ _ _ from HR4q.out) cb rfl (by kernel_rfl) ?_;refine hK.out _ _ (trivial) (λ_=> ?_);clear hK K
         rotate_left
         focus
          refine bA rfl _ _ rfl gq ((q+1)*2) rfl [.int .i64 bt,.int .i64 br] _ (show wq.drew.rangeAt _ _ _ from HR4q.out) cb rfl (by kernel_rfl) ?_;refine hK.out _ _ (trivial) (λ_=> ?_);clear hK K;refine rd1 9 λK hK=> ?_;refine bA rfl _ _ rfl gq (q*2) rfl [.int .i64 t2,.int .i64 r2] _ (show wq.drew.rangeAt _ _ _ from HR3q.out) cb rfl (by kernel_rfl) ?_;refine hK.out _ _ (trivial) (λ_=> ?_);clear hK K
         all_goals
          refine tk 14 (.pointer (some ⟨gq,(q+1)*2,none⟩)) (trivial) ?_;go_simp;refine rd1 15 λK hK=> ?_;refine cy rfl _ _ _ rfl gq ((q+1)*2) #[.int .i64 t2,.int .i64 r2] (by rfl) (by rfl) HT5.out (by kernel_rfl) HAY.out ?_;rw[<-HV1.out];refine hK.out _ _ (trivial) (λ_=> ?_);clear hK K;refine tk 16 (.pointer (some ⟨gq,q*2,none⟩)) (trivial) ?_;go_simp;refine rd1 17 λK hK=> ?_;refine cy rfl _ _ _ rfl gq (q*2) #[.int .i64 bt,.int .i64 br] (by rfl) (by rfl) HT6.out (by kernel_rfl) HAX.out ?_;rw[<-HV2.out];refine hK.out _ _ (trivial) (λ_=> ?_);clear hK K;refine be (by kernel_rfl) ?_ _;go_simp;go_wp2;go_roundw
          case rel=>exact⟨q,by go_num,by omega,HIX2,hid (by rw[<-HSW.out];exact HP2.out),hid (HG2.out.2 HBq2.out (HOq2.out.lt gq rfl).1)⟩
          case measure=>(simp[RowKit.intOf];try omega)
       ·obtain rfl:q=0:=by omega
        go_upto_region 8 with fail;refine rqb ?_
        repeat(any_goals(first|go_big_quiet_step (fail)|quiet_step (fail)))
        refine qz λwq hBq=> ?_;have HS8:=hid (show ofL G ⟨⟨xt,xr⟩,xi⟩ (L.take (k+1))=slid M (⟨bt,br⟩:Gst) 0 by rw[HS9.out];unfold insB;rw[<-HIX.out];rfl);have HL1:=hid (show m+1=(slid M (⟨bt,br⟩:Gst) 0).length by rw[eO,<-HML.out]);have HOx:=kO HOq hBq;have HBx:=bT HBq hBq;go_wp2;go_roundw
        case rel=>exact⟨k+1,some ⟨gq,0,none⟩,cap,m+1,_,by omega,by go_num,rfl,by omega,HL1,hid HS8.out.symm,HOx,HBx⟩
        case measure=>(simp[RowKit.intOf];omega)
  ·obtain rfl:k=L.length:=by omega
   have i2:¬(L.length:Int)<(L.length:Int):=by omega
   have HM9:=hid (show M=ofL G ⟨⟨xt,xr⟩,xi⟩ L by have h9:=HM.out;rw[aK] at h9;exact h9);go_wp2;go_ret;obtain rfl:=HXB.out;refine⟨A',c',by rw[<-HM9.out,<-HML.out];rfl,?_,HB0.out.trans (HBr.out.mono HB0.out.size)⟩;rw[<-HM9.out,<-HML.out];exact iC HO.out HB0.out.size
end
end Go.Proofs.YtkhmicndehlneaaGreatDoor
