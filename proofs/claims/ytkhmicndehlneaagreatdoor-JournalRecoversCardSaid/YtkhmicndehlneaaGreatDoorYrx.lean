/- Part 24 of the walks and plain laws that this claim uses, joined. Conditions: as each theorem states. -/
import Derived.Test.YtkhmicndehlneaaGreatDoorYrw
namespace Go.Proofs.YtkhmicndehlneaaGreatDoor
set_option maxRecDepth 100000
set_option maxHeartbeats 16000000
set_option linter.unusedVariables false
section
open Go.RowKit Go.Lib Go.Sort
attribute [local go_sem ↓] Go.wp_at_zero Go.wp_at_succ
def ltS (a b:ByteArray):Bool:=Op.bytesLess a.toList b.toList
def stepI (N:List Plc) (V:List Gid) (f0:Nat) (out:List Itm) (p:Plc):List Itm:=insB (λy:Itm=>ltS (pathN N f0 p) y.path) itm0 out ⟨p.n,pathN N f0 p,p.dir,!(V.any (λy=>y.eqb p.n))⟩
def itemsL (f0:Nat) (L:List Plc) (V:List Gid):List Itm:=(ja L V).foldl (stepI (ja L V) V f0) []
theorem seenP_len (L:List Plc) (V:List Gid):(ja L V).length<=L.length:=aP (ij _ _) (rightP_len L)
theorem items15_any (L:List Plc) (A:Option Addr) (c:Nat) (V:List Gid) (vA:Option Addr) (vc D:Nat) (S S2:Nat->Prop) (Q:World) (hl:L.length<=100000) (hv:V.length<=100000) (a3:∀p∈L,p.name.size<=1000) (av:∀p∈ja L V,p.name.size<=1000∧iW (ja L V) D p=true) (bF:D<=10000) (hR:RowF Q S A 8 plcL plc0 L) (hV:RowF Q S2 vA 3 idL Gid.zero V):
  Calls Tryz.prog 112 #[.slice A L.length c,.slice vA V.length vc] Q λe w'=>∃A' c',e= .returned (.slice A' (itemsL D L V).length c')∧w'.ownsRow Q.heap.size 110 6 (.slice A' (itemsL D L V).length c') (itemsL D L V).length ((itemsL D L V).flatMap itmL)∧Below Q.heap.size Q w':=by
 obtain⟨i0,hi,bG,bJ,bL⟩:=bx info_itm;have a4:=hid (seen15_any L A c V vA vc S S2 Q hl hv (λp hp=>aP (a3 p hp) (by decide)) hR hV);have bM:=hid hV;have bN:=seenP_len L V;obtain⟨N,hN⟩:∃N,N=ja L V:=⟨_,rfl⟩;obtain⟨R,aw⟩:∃R,R=itemsL D L V:=⟨_,rfl⟩;have bO:=hid (show R=N.foldl (stepI N V D) [] by rw[aw,hN];rfl);rw[<-aw];rw[<-hN] at a4 bN av;have a5:=hid av;clear hR hV hN aw a3 av;go_enter Tryz.func112,Tryz.ntmps112;go_upto_region 4 with(go_at_call 171;refine a4.o.mono ?_;rintro e w ⟨A1,c1,rfl,E,ay⟩;have HN:=hid (cT (f:=plcL) (z:=plc0) (λ_=>rfl) rfl E);have aA:=hid ay;have HV:=hid (bM.o.below ay);clear E ay);go_loopw [6,7] (λo i wr=>∃(k:Nat) (A':Option Addr) (c' m:Nat) (M:List Itm),k<=N.length∧i= .int .i64 k∧o= .slice A' m c'∧m<=k∧Hid (m=M.length)∧Hid (M=(N.take k).foldl (stepI N V D) [])∧Hid (wr.ownsRow w.heap.size 110 6 (.slice A' m c') m (M.flatMap itmL))∧Hid (Below w.heap.size w wr)) (λo i _=>N.length-(RowKit.intOf i).toNat)
 case atStart=>exact⟨0,none,0,0,[],aq _,rfl,rfl,aa _,hid rfl,hid rfl,hid (aH w w.heap.size 110 6),hid (ag _ _)⟩
 case round=>
  obtain⟨k,A',c',m,M,hk,rfl,rfl,cc,T,HM,HO,ae⟩:=hrel;by_cases aB:k<N.length
  ·have i1:(0:Int)<=(k:Int):=by omega
   have i2:(k:Int)<(N.length:Int):=by omega
   obtain⟨rb,ro,am,-,a6,U⟩:=HN.o.range (λ_=>rfl) aB;have aC:((N.take (k+1)).foldl (stepI N V D) [])=stepI N V D M (N.getD k plc0):=by rw[HM.o];exact eU _ _ aB plc0
   have a7:=a5.o _ (cg aB plc0);obtain⟨p,hp⟩:∃p,p=N.getD k plc0:=⟨_,rfl⟩;rw[<-hp] at aC U a7;obtain⟨⟨⟨a,d⟩,g⟩,⟨⟨F,G⟩,H⟩,I,j⟩:=p;obtain⟨a8,a9⟩:=a7;have bP:=ae.o.size;have cb:m<=100000:=by omega
   obtain⟨Z,hZ⟩:∃Z,Z=pathN N D (⟨⟨⟨a,d⟩,g⟩,⟨⟨F,G⟩,H⟩,I,j⟩:Plc):=⟨_,rfl⟩;obtain⟨l,aD⟩:∃b,b=V.any (λy=>y.eqb ⟨⟨a,d⟩,g⟩):=⟨_,rfl⟩;have ba:=hid (show((N.take (k+1)).foldl (stepI N V D) [])=insB (λy:Itm=>ltS Z y.path) itm0 M ⟨⟨⟨a,d⟩,g⟩,Z,j,!l⟩ by rw[aC,hZ,aD];rfl);have bb:=hid (show wr.rangeAt rb (ro+k*8) [a,d,g,F,G,H,I,j] from ct U a6 ae.o);have bd:=hid (λW (hB:Below w.heap.size w W)=>show Calls Tryz.prog 172 #[.slice A1 N.length c1,.agg #[a,d,g,F,G,H,I,j]] W λe w'=>e= .returned (.string Z)∧Below W.heap.size W w' from by rw[hZ];exact path15_any N A1 c1 D a d g F G H I j _ W (by omega) (λp hp=>(a5.o p hp).1) a8 bF a9 (HN.o.below hB));have be:=hid (λW (hB:Below w.heap.size w W)=>show Calls Tryz.prog 173 #[.slice vA V.length vc,.agg #[a,d,g]] W λe w'=>e= .returned (.bool l)∧Below W.heap.size W w' from by rw[aD];exact hasid_any V vA vc ⟨⟨a,d⟩,g⟩ S2 W (by omega) (HV.o.below hB));have bQ:=hid am;have bS:=bQ.o;clear aC U a6 hp a8 a9 hZ aD bS;go_upto_region 6 with fail;rw[am]
   go_upto_region 7 with(first
    |(refine lM bb co ?_)
    |(refine bR rfl _ _ _ rfl _ _ _ _ rfl ?_ rfl ?_ ?_ ?_ ?_;(focus(simp;done));kernel_rfl;rfl;rfl))
   rw[<-am];have aE:=ae.o.alloc bP (.cells #[a,d,g,F,G,H,I,j] 161);have bf:Below wr.heap.size wr (wr.alloc (.cells #[a,d,g,F,G,H,I,j] 161)):=(ag _ _).alloc (aa _) _;have v:=hid (an wr (.cells #[a,d,g,F,G,H,I,j] 161));have bi:=hid (show(Value.slice A' m c').ownBlock≠some wr.heap.size from λe=>by have:=(HO.o.lt _ e).2;omega);generalize hW:wr.alloc (.cells #[a,d,g,F,G,H,I,j] 161)=W at *;have bU:=hid aE;have bj:=kO HO bf;have aF:=hid (show Below w.heap.size w W.drew from aE.trans ⟨rfl,rfl,rfl,aa _,λ_ _=>rfl⟩);generalize bV:wr.heap.size=t at *;have bk:t<W.drew.heap.size:=lt_of_block v.o;clear hW aE bf bV HO ae am;refine aY (S:=λW'=>W'.heap[t]? =some (.cells #[a,d,g,F,G,H,I,j] 161 (0,0))) (by kernel_rfl) ?_
   try(change wpAnyH _ _ _ _ _ _ _ _ (World.drew _))
   refine tk 0 (.slice A' m c') ((show W.drew.heap[t]? =_ from v.o)) ?_;go_simp;refine tk 1 (.pointer (some ⟨t,0,none⟩)) ((show W.drew.heap[t]? =_ from v.o)) ?_;go_simp;refine tk2 2 (.agg #[a,d,g]) rfl (bc (by rfl) _ _ rfl t (0) rfl [a,d,g] _ (λW' X=>bC (pre:=[]) (mid:=[a,d,g]) (post:=[F,G,H,I,j]) (bq X)) az rfl (by kernel_rfl)) ((show W.drew.heap[t]? =_ from v.o)) ?_;go_simp;refine tk 3 (.slice A1 N.length c1) ((show W.drew.heap[t]? =_ from v.o)) ?_;go_simp;refine tk2 4 (.agg #[a,d,g,F,G,H,I,j]) rfl (bc (by rfl) _ _ rfl t (0) rfl [a,d,g,F,G,H,I,j] _ (λW' X=>bC (pre:=[]) (mid:=[a,d,g,F,G,H,I,j]) (post:=[]) (bq X)) co rfl (by kernel_rfl)) ((show W.drew.heap[t]? =_ from v.o)) ?_;go_simp;refine tk 6 (.pointer (some ⟨t,7,none⟩)) ((show W.drew.heap[t]? =_ from v.o)) ?_;go_simp;refine tk2 7 (.bool j) rfl (Or.inl ⟨by rfl,λW' X=>by(have c_:W'.cell? ⟨t,7,none⟩=some (.bool j):=aG _ _ _ _ _ _ X;go_simp)⟩) ((show W.drew.heap[t]? =_ from v.o)) ?_;go_simp;refine tk 8 (.slice vA V.length vc) ((show W.drew.heap[t]? =_ from v.o)) ?_;go_simp;refine tk 9 (.pointer (some ⟨t,0,none⟩)) ((show W.drew.heap[t]? =_ from v.o)) ?_;go_simp
   refine tk2 10 (.agg #[a,d,g]) rfl (bc (by rfl) _ _ rfl t (0) rfl [a,d,g] _ (λW' X=>bC (pre:=[]) (mid:=[a,d,g]) (post:=[F,G,H,I,j]) (bq X)) az rfl (by kernel_rfl)) ((show W.drew.heap[t]? =_ from v.o)) ?_;go_simp;refine rd1 5 λK n=> ?_;go_simp;refine(bd.o W.drew aF.o).mono ?_;rintro e wa ⟨rfl,P⟩;have aI:=bT aF P;have aJ:=hid ((P.block t bk).trans v.o);have bl:=hid (bj.o.kept (dB (r:=none) (show Below W.heap.size W wa from⟨P.os,P.tape,P.output,P.size,P.block⟩)) (cX _));clear P;go_simp;refine n.out _ _ (aJ.o) (λ_=> ?_);clear n K;refine rd1 11 λK n=> ?_;go_simp;refine(be.o wa aI.o).mono ?_;rintro e wr ⟨rfl,ao⟩;have af:=bT aI ao;have Y:=bK ao aJ;have aL:=kO bl ao;clear ao;go_simp;refine n.out _ _ (Y.o) (λ_=> ?_);clear n K;refine tk 12 (.bool (!l)) (Y.o) ?_;go_simp;refine tk 13 (.agg #[a,d,g,Z,j,.bool (!l)]) (Y.o) ?_;go_simp;have ah:(wr.alloc (.cells #[a,d,g,Z,j,.bool (!l)] 110)).heap.size=wr.heap.size+1:=by simp
   have bm:=hid (aL.o.alloc (.cells #[a,d,g,Z,j,.bool (!l)] 110));have bn:=hid (λ(i:Nat) (y:Value) (h:([a,d,g,Z,j,.bool (!l)]:List Value)[i]? =some y)=>dH wr [a,d,g,Z,j,.bool (!l)] 110 i y h);have bo:=hid (show ∀u∈([a,d,g,Z,j,.bool (!l)]:List Value),u.oneCell'=true from fx (c:=#[a,d,g,Z,j,.bool (!l)]) rfl);have br:=hid (af.o.alloc af.o.size (.cells #[a,d,g,Z,j,.bool (!l)] 110));have aM:=hid ((ax wr (.cells #[a,d,g,Z,j,.bool (!l)] 110) t (lt_of_block Y.o)).trans Y.o);refine rd1 14 λK n=> ?_;go_simp;refine n.out _ _ (aM.o) (λ_=> ?_);clear n K;refine rd1 15 λK n=> ?_;refine ds _ (by rfl) _ _ 103 (by rfl) w.heap.size 110 i0 (.agg #[(0:Int),(0:Int),(0:Int),.string ⟨#[]⟩,false,false]) 6 48 Tryz.underlying103 hi bG bJ bL rfl (by decide) (.slice A' m c') m _ (by rfl) (by exact bm.o) ⟨wr.heap.size,0,none⟩ 1 1 [a,d,g,Z,j,.bool (!l)] (by rfl) (by rfl) (by exact bn.o) bo.o (by decide) (by unfold maxLen;omega) (by omega) (by rw[ah];have:=af.o.size;omega) (wr.heap.size+1) ah ?_;intro s B w5 E ad bW bB;have bs:=hid E;have bX:=hid (br.o.grown ad (by rw[ah];have:=af.o.size;omega) (λb hb=>(aL.o.lt b hb).1));have aN:=hid ((ad.block t (by rw[ah];have:=lt_of_block Y.o;omega) (λe=>bi.o e.symm)).trans aM.o);clear E ad bW bB;refine n.out _ _ (aN.o) (λ_=> ?_);clear n K
   refine tk 16 (.slice (some ⟨s,0,none⟩) (m+1) B) (aN.o) ?_;go_simp;refine bp (by kernel_rfl) ?_ _;go_simp;go_upto_region 9 with fail;clear bb bd be aF aI aJ bl af Y aL bm bn bo br aM ah aN v bU bj bi bk;have bt:slid M (⟨⟨⟨a,d⟩,g⟩,Z,j,!l⟩:Itm) m=M++[⟨⟨⟨a,d⟩,g⟩,Z,j,!l⟩]:=by rw[T.o];exact jB _ _
   have bY:=hid (show w5.ownsRow w.heap.size 110 6 (.slice (some ⟨s,0,none⟩) (m+1) B) (m+1) ((slid M (⟨⟨⟨a,d⟩,g⟩,Z,j,!l⟩:Itm) m).flatMap itmL) by rw[bt,aK];exact bs.o);clear bt bs;generalize w5=w6 at *;go_loopw [9] (λi wx=>∃(q:Nat),i= .int .i64 q∧q<=m∧Hid (ek (λy:Itm=>ltS Z y.path) itm0 M q=ek (λy:Itm=>ltS Z y.path) itm0 M M.length)∧Hid (wx.ownsRow w.heap.size 110 6 (.slice (some ⟨s,0,none⟩) (m+1) B) (m+1) ((slid M (⟨⟨⟨a,d⟩,g⟩,Z,j,!l⟩:Itm) q).flatMap itmL))∧Hid (Below w.heap.size w wx)) (λi _=>(RowKit.intOf i).toNat)
   case atStart=>exact⟨m,rfl,aa _,hid (by rw[T.o]),bY,bX⟩
   case round=>
    obtain⟨q,rfl,hq,aQ,ab,aR⟩:=hrel;by_cases h0:0<q
    ·obtain⟨q,rfl⟩:∃p,q=p+1:=⟨q-1,by omega⟩;have aS:q+1<=M.length:=by rw[<-T.o];exact hq
     have ap:m+1=(slid M (⟨⟨⟨a,d⟩,g⟩,Z,j,!l⟩:Itm) (q+1)).length:=by rw[eW,<-T.o]
     obtain⟨g3,e3,-,bu,ai⟩:=cZ (f:=itmL) (λ_=>rfl) ap ab.o (k:=q) (by omega) itm0;cases e3;obtain⟨g4,e4,-,-,ar⟩:=cZ (f:=itmL) (λ_=>rfl) ap ab.o (k:=q+1) (by omega) itm0;cases e4;rw[jz aS] at ai;rw[kE aS] at ar;have aT:=it (L:=M) (x:=(⟨⟨⟨a,d⟩,g⟩,Z,j,!l⟩:Itm)) (z:=itm0) aS;obtain⟨y,hy⟩:∃y,y=M.getD q itm0:=⟨_,rfl⟩;rw[<-hy] at ai aT;obtain⟨b2,aU⟩:∃b,b=(λy:Itm=>ltS Z y.path) y:=⟨_,rfl⟩;have bv:=hid (show(λy:Itm=>ltS Z y.path) (M.getD q itm0)=b2 by rw[<-hy,aU]);clear hy;obtain⟨⟨⟨t2,r2⟩,n2⟩,z2,d2,J⟩:=y;have bZ:=hid (show wr.rangeAt s (q*6) [t2,r2,n2,z2,d2,J] from ai);have b0:=hid (show wr.rangeAt s ((q+1)*6) [a,d,g,Z,j,.bool (!l)] from ar);have y3:=aj (ai 3 _ rfl);have x3:=aj (ar 3 _ rfl);have b1:=hid aT;have k1:(0:Int)<(q:Int)+1:=by omega
     have k2:(0:Int)<=(q:Int):=by omega
     have k3:(q:Int)<(m:Int)+1:=by omega
     have k4:(q:Int)+1<(m:Int)+1:=by omega
     have k5:(0:Int)<=(q:Int)+1:=by omega
     have k6:IntKind.i64.wrap (q:Int)=(q:Int):=by rw[bH];omega
     have ak:=hid ap;have q2:Op.bytesLess Z.toList z2.toList=b2:=aU.symm;have cA:=trivial;clear ai ar aU aT ap;cases b2 with
     |false=>
      go_upto_region 9 with fail;refine rqb ?_
      repeat(any_goals(first|go_big_quiet_step (with_reducible exact cA _ _)|quiet_step (with_reducible exact cA _ _)))
      refine qz λO C=> ?_;have aV:=hid (show((N.take (k+1)).foldl (stepI N V D) [])=slid M (⟨⟨⟨a,d⟩,g⟩,Z,j,!l⟩:Itm) (q+1) by rw[ba.o];unfold insB;rw[<-aQ.o,gi (.inr ⟨q,rfl,bv.o⟩)]);have aW:=kO ab C;have aX:=bT aR C;go_wp2;go_roundw
      case rel=>exact⟨k+1,some ⟨s,0,none⟩,B,m+1,_,by omega,by go_num,rfl,by omega,ak,hid aV.o.symm,aW,aX⟩
      case measure=>(simp[RowKit.intOf];omega)
     | true=>
      go_upto_region 9 with fail;refine rqb ?_
      repeat(any_goals(first|go_big_quiet_step (with_reducible exact cA _ _)|quiet_step (with_reducible exact cA _ _)))
      refine qz λO C=> ?_;have bD:=hid (show ek (λy:Itm=>ltS Z y.path) itm0 M q=ek (λy:Itm=>ltS Z y.path) itm0 M M.length by rw[<-aQ.o,iL bv.o]);have aZ:=hid (ct bZ.o bu C);have a0:=hid (ct b0.o bu C);have al:=kO ab C;have bE:=bT aR C;clear y3 x3 cA ab C;go_upto_region 11 with fail;obtain⟨V1,a1⟩:∃V,V=O.drew.setCells s ((q+1)*6) (#[t2,r2,n2,z2,d2,J]:Array Value).toList:=⟨_,rfl⟩;have ac:V1.ownsRow w.heap.size 110 6 (.slice (some ⟨s,0,none⟩) (m+1) B) (m+1) (((slid M (⟨⟨⟨a,d⟩,g⟩,Z,j,!l⟩:Itm) (q+1)).set (q+1) (⟨⟨⟨t2,r2⟩,n2⟩,z2,d2,J⟩:Itm)).flatMap itmL)∧O.drew.grownBy V1 (some s):=by rw[a1];exact eX (f:=itmL) (λ_=>rfl) (by decide) ak.o (show O.drew.ownsRow _ _ _ _ _ _ from al.o) (by omega) (⟨⟨⟨t2,r2⟩,n2⟩,z2,d2,J⟩:Itm)
      obtain⟨V2,a2⟩:∃V,V=V1.setCells s (q*6) (#[a,d,g,Z,j,.bool (!l)]:Array Value).toList:=⟨_,rfl⟩;have au:V2.ownsRow w.heap.size 110 6 (.slice (some ⟨s,0,none⟩) (m+1) B) (m+1) ((((slid M (⟨⟨⟨a,d⟩,g⟩,Z,j,!l⟩:Itm) (q+1)).set (q+1) (⟨⟨⟨t2,r2⟩,n2⟩,z2,d2,J⟩:Itm)).set q (⟨⟨⟨a,d⟩,g⟩,Z,j,!l⟩:Itm)).flatMap itmL)∧V1.grownBy V2 (some s):=by rw[a2];exact eX (f:=itmL) (λ_=>rfl) (by decide) (by rw[dj];exact ak.o) ac.1 (by omega) (⟨⟨⟨a,d⟩,g⟩,Z,j,!l⟩:Itm)
      obtain⟨g5,e5,bw⟩:=eJ (show O.drew.ownsRow _ _ _ _ _ _ from al.o) (k:=q+1) (by omega);cases e5;obtain⟨g6,e6,bz⟩:=eJ ac.1 (k:=q) (by omega);cases e6;have b3:=hid au.1;have b4:=hid (show O.heap.size<=V2.heap.size∧(Below w.heap.size w O->w.heap.size<=s->Below w.heap.size w V2) from⟨aP (show O.drew.heap.size<=V1.heap.size from ac.2.size) au.2.size,λhb hl=>(hb.drew.grown ac.2 (by exact hb.size) (λb e=>by cases e;exact hl)).grown au.2 (aP hb.size (show O.drew.heap.size<=V1.heap.size from ac.2.size)) (λb e=>by cases e;exact hl)⟩);have b5:=hid a1;have b6:=hid a2;have b7:=hid bw;have b8:=hid bz;have b9:=hid (show(#[t2,r2,n2,z2,d2,J]:Array Value).all (·.oneCell')=true by rw[<-cv];rfl);have ca:=hid (show(#[a,d,g,Z,j,.bool (!l)]:Array Value).all (·.oneCell')=true by rw[<-cv];rfl);clear ac au a1 a2 bw bz;refine aY (S:=λ_=>True) (by kernel_rfl) ?_
      try(change wpAnyH _ _ _ _ _ _ _ _ (World.drew _))
      refine tk 0 (.slice (some ⟨s,0,none⟩) (m+1) B) (trivial) ?_;go_simp;refine tk 1 (.int .i64 ((q:Int)+1)) (trivial) ?_;go_simp;refine tk 2 (.slice (some ⟨s,0,none⟩) (m+1) B) (trivial) ?_;go_simp;refine tk 3 (.int .i64 ((q:Int)+1)) (trivial) ?_;go_simp;refine tk 4 (.int .i64 (q:Int)) (trivial) ?_;go_simp;refine tk 5 (.slice (some ⟨s,0,none⟩) (m+1) B) (trivial) ?_;go_simp;refine tk 6 (.int .i64 ((q:Int)+1)) (trivial) ?_;go_simp;refine tk 7 (.int .i64 (q:Int)) (trivial) ?_;go_simp;refine tk 8 (.pointer (some ⟨s,q*6,none⟩)) (trivial) ?_;go_simp;refine tk 10 (.slice (some ⟨s,0,none⟩) (m+1) B) (trivial) ?_;go_simp;refine tk 11 (.int .i64 ((q:Int)+1)) (trivial) ?_;go_simp;refine tk 12 (.pointer (some ⟨s,(q+1)*6,none⟩)) (trivial) ?_;go_simp;refine dJ (rs:=[9,13]) (by kernel_rfl) (by simp) ?_;refine bg rfl (λK n=> ?_) (bg rfl (λK n=> ?_) dp)
      focus
       refine bI rfl _ _ rfl s (q*6) rfl [t2,r2,n2,z2,d2,J] _ (show O.drew.rangeAt _ _ _ from aZ.o) Tryz.underlying110 rfl (by kernel_rfl) ?_;refine n.out _ _ (trivial) (λ_=> ?_);clear n K;refine rd1 13 λK n=> ?_;refine bI rfl _ _ rfl s ((q+1)*6) rfl [a,d,g,Z,j,.bool (!l)] _ (show O.drew.rangeAt _ _ _ from a0.o) Tryz.underlying110 rfl (by kernel_rfl) ?_;refine n.out _ _ (trivial) (λ_=> ?_);clear n K
      rotate_left
      focus
       refine bI rfl _ _ rfl s ((q+1)*6) rfl [a,d,g,Z,j,.bool (!l)] _ (show O.drew.rangeAt _ _ _ from a0.o) Tryz.underlying110 rfl (by kernel_rfl) ?_;refine n.out _ _ (trivial) (λ_=> ?_);clear n K;refine rd1 9 λK n=> ?_;refine bI rfl _ _ rfl s (q*6) rfl [t2,r2,n2,z2,d2,J] _ (show O.drew.rangeAt _ _ _ from aZ.o) Tryz.underlying110 rfl (by kernel_rfl) ?_;refine n.out _ _ (trivial) (λ_=> ?_);clear n K
      all_goals
       refine tk 14 (.pointer (some ⟨s,(q+1)*6,none⟩)) (trivial) ?_;go_simp;refine rd1 15 λK n=> ?_;refine cY rfl _ _ _ rfl s ((q+1)*6) #[t2,r2,n2,z2,d2,J] (by rfl) (by rfl) b7.o (by kernel_rfl) b9.o ?_;rw[<-b5.o];refine n.out _ _ (trivial) (λ_=> ?_);clear n K;refine tk 16 (.pointer (some ⟨s,q*6,none⟩)) (trivial) ?_;go_simp;refine rd1 17 λK n=> ?_;refine cY rfl _ _ _ rfl s (q*6) #[a,d,g,Z,j,.bool (!l)] (by rfl) (by rfl) b8.o (by kernel_rfl) ca.o ?_;rw[<-b6.o];refine n.out _ _ (trivial) (λ_=> ?_);clear n K;refine bp (by kernel_rfl) ?_ _;go_simp;go_wp2;go_roundw
       case rel=>exact⟨q,by go_num,by omega,bD,hid (by rw[<-b1.o];exact b3.o),hid (b4.o.2 bE.o (al.o.lt s rfl).1)⟩
       case measure=>(simp[RowKit.intOf];try omega)
    ·obtain rfl:q=0:=by omega
     go_upto_region 9 with fail;refine rqb ?_
     repeat(any_goals(first|go_big_quiet_step (fail)|quiet_step (fail)))
     refine qz λO C=> ?_;have aV:=hid (show((N.take (k+1)).foldl (stepI N V D) [])=slid M (⟨⟨⟨a,d⟩,g⟩,Z,j,!l⟩:Itm) 0 by rw[ba.o];unfold insB;rw[<-aQ.o];rfl);have ak:=hid (show m+1=(slid M (⟨⟨⟨a,d⟩,g⟩,Z,j,!l⟩:Itm) 0).length by rw[eW,<-T.o]);have aW:=kO ab C;have aX:=bT aR C;go_wp2;go_roundw
     case rel=>exact⟨k+1,some ⟨s,0,none⟩,B,m+1,_,by omega,by go_num,rfl,by omega,ak,hid aV.o.symm,aW,aX⟩
     case measure=>(simp[RowKit.intOf];omega)
  ·obtain rfl:k=N.length:=by omega
   have i2:¬(N.length:Int)<(N.length:Int):=by omega
   have bA:=hid (show M=R by rw[bO.o];have h9:=HM.o;rw[aO] at h9;exact h9);go_wp2;go_ret;refine⟨A',c',by rw[<-bA.o,<-T.o];rfl,?_,aA.o.trans (ae.o.mono aA.o.size)⟩;rw[<-bA.o,<-T.o];exact iK HO.o aA.o.size
end
section
open Go.RowKit Go.Lib Go.Sort
theorem pigeon:∀(n m:Nat) (f:Nat->Nat),(∀i,i<m->f i<n)->(∀i j,i<m->j<m->f i=f j->i=j)->m<=n
 |n,0,_,_,_=>aq _
 |0,m+1,f,h1,_=>absurd (h1 0 (Nat.succ_pos _)) (da _)
 | n +1,m+1,f,h1,h2=>by
  have h:=pigeon n m (λi=>if f i=n then f m else f i) (λi hi=>by
   have a:=h1 i (by omega)
   have b:=h1 m (by omega)
   show(if f i=n then f m else f i)<n
   split
   ·rename_i e
    have:f m≠n:=λe2=>by have:=h2 i m (by omega) (by omega) (by rw[e,e2]);omega
    omega
   ·omega) (λi j hi hj e=>by
   have e:(if f i=n then f m else f i)=(if f j=n then f m else f j):=e
   split at e
   ·rename_i e1
    split at e
    ·rename_i e2
     exact h2 i j (by omega) (by omega) (by rw[e1,e2])
    ·have:=h2 m j (by omega) (by omega) e;omega
   ·split at e
    ·have:=h2 i m (by omega) (by omega) e;omega
    ·exact h2 i j (by omega) (by omega) e)
  omega
def reach (N:List Plc):Nat->Gid->Prop
 |0,x=>x= .zero
 |m+1,x=>x≠ .zero∧∃k,eo N x=some k∧reach N m (N.getD k plc0).p
def ups (N:List Plc):Nat->Gid->Gid->Prop
 |0,x,y=>x=y
 |s+1,x,y=>∃k,eo N x=some k∧ups N s (N.getD k plc0).p y
theorem reach_one {N:List Plc}:∀{m m':Nat} {x:Gid},reach N m x->reach N m' x->m=m'
 |0,0,_,_,_=>rfl
 |0,m'+1,_,h,h'=>absurd h h'.1
 |m+1,0,_,h,h'=>absurd h' h.1
 |m+1,m'+1,x,⟨_,k,hk,h⟩,⟨_,k',hk',h'⟩=>by
  rw[hk] at hk';cases hk'
  rw[reach_one h h']
theorem reach_idx {N:List Plc}:∀{m:Nat} {x:Gid},reach N m x->∃g:Nat->Nat,∀i,i<m->∃y,reach N (m-i) y∧eo N y=some (g i)
 |0,_,_=>⟨λ_=>0,λi hi=>absurd hi (da _)⟩
 | m+1,x,⟨hx,k,hk,h⟩=>by
  obtain⟨g,hg⟩:=reach_idx h
  refine⟨λi=>match i with|0=>k|i+1=>g i,λi hi=> ?_⟩
  cases i with
  |zero=>exact⟨x,⟨hx,k,hk,h⟩,hk⟩
  |succ i=>
   obtain⟨y,h1,h2⟩:=hg i (by omega)
   exact⟨y,by rw[show m+1-(i+1)=m-i by omega];exact h1,h2⟩
theorem reach_le {N:List Plc} {m:Nat} {x:Gid} (h:reach N m x):m<=N.length:=by
 obtain⟨g,b⟩:=reach_idx h;refine pigeon _ _ g (λi c=> ?_) (λi j c l e=> ?_)
 ·obtain⟨y,_,d⟩:=b i c;exact(fQ d).1
 ·obtain⟨y,n,d⟩:=b i c;obtain⟨p,a,f⟩:=b j l;have k:=(fQ d).2;have o:=(fQ f).2;rw[e,o] at k;rw[k] at a;have:=reach_one n a;omega
theorem rooted_reach {N:List Plc} (hz:eo N .zero=none):∀(f:Nat) (x:Gid),ia N f x=true->∃m,reach N (m+1) x
 |0,_,h=>by cases h
 | f +1,x,h=>by
  rw[ia] at h
  cases hk:eo N x with
  |none=>rw[hk] at h;cases h
  | some k=>
   have hx:x≠ .zero:=λe=>by rw[e,hz] at hk;cases hk
   rw[hk] at h
   simp only at h
   by_cases hp:(N.getD k plc0).p.eqb .zero=true
   ·exact⟨0,hx,k,hk,Gid.eqb_iff.1 hp⟩
   ·rw[aE hp] at h
    cases hk2:eo N (N.getD k plc0).p with
    |none=>rw[hk2] at h;cases h
    | some k2=>
     rw[hk2] at h
     simp only at h
     by_cases hd:(N.getD k2 plc0).dir=true
     ·rw[aN hd] at h
      obtain⟨m,hm⟩:=rooted_reach hz f _ h
      exact⟨m+1,hx,k,hk,hm⟩
     ·rw[aE hd] at h;cases h
theorem within_ups {N:List Plc} (hz:eo N .zero=none) {y:Gid} (hy:y≠ .zero):∀(f m:Nat) (x:Gid),m<f->reach N m x->gn N y f x=true->∃s,ups N s x y
 |0,m,x,hm,_,_=>absurd hm (da _)
 | f +1,m,x,hm,hr,h=>by
  rw[gn] at h
  by_cases e:x.eqb y=true
  ·exact⟨0,Gid.eqb_iff.1 e⟩
  ·rw[aE e] at h
   cases hk:eo N x with
   |none=>rw[hk] at h;cases h
   | some k=>
    rw[hk] at h
    cases m with
    |zero=>rw[show x= .zero from hr,hz] at hk;cases hk
    |succ m=>
     obtain⟨_,k',hk',hr'⟩:=hr
     rw[hk] at hk';cases hk'
     obtain⟨s,hs⟩:=within_ups hz hy f m _ (by omega) hr' h
     exact⟨s+1,k,hk,hs⟩
theorem ups_within {N:List Plc} {y:Gid}:∀(s f:Nat) (x:Gid),s<f->ups N s x y->gn N y f x=true
 |_,0,_,h,_=>absurd h (da _)
 |0,f+1,x,_,h=>by rw[gn,aN (Gid.eqb_iff.2 h)]
 |s+1,f+1,x,hs,⟨k,hk,h⟩=>by
  rw[gn]
  split
  ·rfl
  ·rw[hk];exact ups_within s f _ (by omega) h
theorem ups_tail {N:List Plc} {y:Gid} {k:Nat} (hk:eo N y=some k):∀(s:Nat) (x:Gid),ups N s x y->ups N (s+1) x (N.getD k plc0).p
 |0,x,h=>by have h:x=y:=h;subst h;exact⟨k,hk,rfl⟩
 |s+1,x,⟨k',hk',h⟩=>⟨k',hk',ups_tail hk s _ h⟩
theorem ups_reach {N:List Plc} {y:Gid}:∀(s m:Nat) (x:Gid),(y≠ .zero->True)->reach N m x->eo N .zero=none->ups N s x y->∃r,r+s=m∧reach N r y
 |0,m,x,_,hr,_,h=>by have h:x=y:=h;subst h;exact⟨m,rfl,hr⟩
 |s+1,0,x,_,hr,hz,⟨k,hk,h⟩=>by rw[show x= .zero from hr,hz] at hk;cases hk
 |s+1,m+1,x,t,⟨_,k',hk',hr⟩,hz,⟨k,hk,h⟩=>by
  rw[hk] at hk';cases hk'
  obtain⟨r,e,h2⟩:=ups_reach s m _ t hr hz h
  exact⟨r,by omega,h2⟩
theorem findP_mem {S:List Plc} {p:Plc} (h:p∈S):∃k,eo S p.n=some k:=by
 cases e:eo S p.n with
 |some k=>exact⟨k,rfl⟩
 |none=>
  unfold eo at e;rw[List.findIdx?_eq_none_iff] at e;have:=e p h;rw[show p.n.eqb p.n=true from Gid.eqb_iff.2 rfl] at this;cases this
structure RightR (N:List Plc):Prop where
 one:∀p∈N,∀q∈N,p.n=q.n->p=q
 ok:∀p∈N,p.n.right=true∧eC p.name=true
theorem RightR.step {N:List Plc} (h:RightR N) (p:Plc):RightR (stepR N p):=by
 unfold stepR;split
 ·rename_i c;simp only[ay] at c;obtain⟨⟨l,m⟩,i⟩:=c;have g:∀q∈N,q.n≠p.n:=λq n e=>by
   obtain⟨k,j⟩:=findP_mem n;rw[e] at j;rw[j] at i;cases i
  refine⟨λa d b f e=> ?_,λa d=> ?_⟩
  ·rcases aD.1 d with d|d<;>rcases aD.1 f with f|f
   ·exact h.one a d b f e
   ·rw[ba.1 f] at e;exact absurd e (g a d)
   ·rw[ba.1 d] at e;exact absurd e.symm (g b f)
   ·rw[ba.1 d,ba.1 f]
  ·rcases aD.1 d with d|d
   ·exact h.ok a d
   ·rw[ba.1 d];exact⟨l,m⟩
 ·exact h
theorem RightR.fold:∀(l:List Plc) {N:List Plc},RightR N->RightR (l.foldl stepR N)
 | [],_,h=>h
 |p::l,_,h=>RightR.fold l (h.step p)
theorem rightP_ok (L:List Plc):RightR (fK L):=RightR.fold L ⟨λ_ h=>absurd h fj,λ_ h=>absurd h fj⟩
theorem RightR.zero {N:List Plc} (h:RightR N):eo N .zero=none:=by
 cases e:eo N .zero with
 |none=>rfl
 |some k=>
  obtain⟨a,b⟩:=fQ e;have:=(h.ok _ (cg a plc0)).1;rw[b] at this;exact absurd this (by decide)
theorem climbs_seen {N:List Plc} {V:List Gid} (h:RightR N) {q:Plc} (d:q∈N) (e:V.any (λy=>y.eqb q.n)=true) (b:jU N q.n=true) {m:Nat} (g:reach N m q.n):
  ∀(r s f:Nat) (p:Plc),r+s=m->r<=f+1->p∈N->reach N r p.n->ups N s q.n p.n->iW (N.filter (gv N V)) f p=true
 |0,s,f,p,_,_,hp,hr,_=>by
  have:=(h.ok p hp).1
  rw[show p.n= .zero from hr] at this
  exact absurd this (by decide)
 | r +1,s,f,p,hrs,hf,hp,⟨hx,k,hk,hr⟩,hu=>by
  obtain⟨hk1,hk2⟩:=fQ hk
  have hpk:N.getD k plc0=p:=h.one _ (cg hk1 plc0) _ hp hk2
  rw[hpk] at hr
  by_cases hz:p.p.eqb .zero=true
  ·cases f with
   |zero=>exact hz
   |succ f=>rw[iW,aN hz]
  ·cases r with
   |zero=>exact absurd (Gid.eqb_iff.2 hr) hz
   | succ r=>
    have hr0:=hr
    obtain⟨hx2,k2,hk2',hr2⟩:=hr
    obtain⟨j1,j2⟩:=fQ hk2'
    have hm2:=cg j1 plc0
    have hu2:ups N (s+1) q.n p.p:=by have:=ups_tail hk s _ hu;rw[hpk] at this;exact this
    have hml:=reach_le g
    have hsee:gv N V (N.getD k2 plc0)=true:=by
     unfold gv;rw[eQ];refine⟨q,d,?_⟩;rw[e,b,j2];show gn N p.p (N.length+1) q.n=true;exact ups_within (s+1) _ _ (by omega) hu2
    have c:N.getD k2 plc0∈N.filter (gv N V):=g7.2 ⟨hm2,hsee⟩;obtain⟨i,a⟩:=findP_mem c;obtain⟨j,l⟩:=fQ a;have o:(N.filter (gv N V)).getD i plc0=N.getD k2 plc0:=h.one _ (g7.1 (cg j plc0)).1 _ hm2 l;rw[j2] at a;cases f with
    |zero=>omega
    |succ f=>
     rw[iW,aE hz,a];show iW _ f _=true;rw[o];exact climbs_seen h d e b g (r+1) (s+1) f _ (by omega) (by omega) hm2 (by rw[j2];exact hr0) (by rw[j2];exact hu2)
theorem seen_climbs (L:List Plc) (V:List Gid) (f:Nat) (v:L.length<=f+1):∀p∈ja L V,eC p.name=true∧iW (ja L V) f p=true:=by
 intro p g;have h:=rightP_ok L;have w:=rightP_len L;unfold ja at g ⊢;generalize fK L=N at *;obtain⟨a,c⟩:=g7.1 g;refine⟨(h.ok p a).2,?_⟩;unfold gv at c;obtain⟨q,l,i⟩:=eQ.1 c;simp only[ay] at i;obtain⟨⟨n,d⟩,o⟩:=i;obtain⟨m,b⟩:=rooted_reach h.zero _ _ d;have u:=reach_le b;have j:p.n≠ .zero:=λe=>by have:=(h.ok p a).1;rw[e] at this;exact absurd this (by decide)
 obtain⟨s,k⟩:=within_ups h.zero j (N.length+1) (m+1) q.n (by omega) b o;obtain⟨r,e,t⟩:=ups_reach s (m+1) q.n (λ_=>trivial) b h.zero k;exact climbs_seen h l n d b r s f p e (by omega) a t k
end
section
open Go.RowKit Go.Lib Go.Sort
attribute [local go_sem ↓] Go.wp_at_zero Go.wp_at_succ
def hY (on:List Hd) (x:Hd):List Hd:=if on.any (λy=>y.u.eqb x.s)=true then on else on++[x]
def onH (l:List Hd):List Hd:=(jN l).foldl hY []
def onS (l:List Hd):List Gst:=(onH l).reverse.map (·.s)
theorem stepOn_len (a:List Hd) (x:Hd):(hY a x).length<=a.length+1:=by
 unfold hY;split
 ·omega
 ·rw[al,dC];exact aa _
theorem foldOn_len:∀(l:List Hd) (out:List Hd),(l.foldl hY out).length<=out.length+l.length
 | [],out=>aa _
 |x::l,out=>by
  have h1:=foldOn_len l (hY out x)
  have h2:=stepOn_len out x
  rw[ed,bQ];omega
theorem onS_len (l:List Hd):(onS l).length<=l.length:=by
 unfold onS onH;rw[aV,i8];have a:=foldOn_len (jN l) [];have b:=sortH_len l [];simp only[fY,cj] at a b;exact aP a b
theorem rev_step {M:List Hd} {q:Nat} (h:q<M.length):(M.drop q).reverse.map (·.s)=(M.drop (q+1)).reverse.map (·.s)++[(M.getD q hd0).s]:=by
 rw[iS h,List.reverse_cons,bD,ae,aw h];rfl
theorem on_any (L:List Hd) (A:Option Addr) (c:Nat) (S:Nat->Prop) (w:World) (hl:L.length<=100000) (hR:RowF w S A 4 hdL hd0 L):
  Calls Tryz.prog 107 #[.slice A L.length c] w λe w'=>∃A' c',e= .returned (.slice A' (onS L).length c')∧w'.ownsRow w.heap.size 42 2 (.slice A' (onS L).length c') (onS L).length ((onS L).flatMap stL)∧Below w.heap.size w w':=by
 obtain⟨i0,hi,aD,aF,aG⟩:=bx info_hd;obtain⟨i1,aI,aJ,aL,aM⟩:=bx info_st;have ai:=hid (sortedh_any L A c S w hl hR);have U:=sortH_len L [];have aQ:=hid (show(onS L).length=(onH L).length by unfold onS;rw[aV,i8]);obtain⟨N,hN⟩:∃N,N=jN L:=⟨_,rfl⟩;obtain⟨R,V⟩:∃R,R=onS L:=⟨_,rfl⟩;have aR:=hid (show R=(N.foldl hY []).reverse.map (·.s) by rw[V,hN];rfl);rw[<-V];rw[<-hN] at ai;have a0:N.length<=100000:=by rw[hN];simp only[fY,cj] at U;exact aP U hl
 clear hR V hN U aQ;go_enter Tryz.func107,Tryz.ntmps107;go_upto_region 4 with(go_at_call 166;refine ai.o.mono ?_;rintro e P ⟨A1,c1,rfl,I,ak⟩;have aS:=hid I;have X:=hid ak;clear I ak);go_loopw [4,5] (λo i wr=>∃(k:Nat) (A':Option Addr) (c' m:Nat) (M:List Hd),k<=N.length∧i= .int .i64 k∧o= .slice A' m c'∧m<=k∧Hid (m=M.length)∧Hid (M=(N.take k).foldl hY [])∧Hid (wr.ownsRow P.heap.size 224 4 (.slice A' m c') m (M.flatMap hdL))∧Hid (Below P.heap.size P wr)) (λo i _=>N.length-(RowKit.intOf i).toNat)
 case atStart=>exact⟨0,none,0,0,[],aq _,rfl,rfl,aa _,hid rfl,hid rfl,hid (aH _ _ _ _),hid (ag _ _)⟩
 case round=>
  obtain⟨k,A',c',m,M,hk,rfl,rfl,a1,d,HM,HO,J⟩:=hrel;by_cases am:k<N.length
  ·have i1:(0:Int)<=(k:Int):=by omega
   have i2:(k:Int)<(N.length:Int):=by omega
   obtain⟨rb,rfl,-,an,B⟩:=ki (f:=hdL) (λ_=>rfl) aS.o am hd0;have ao:(N.take (k+1)).foldl hY []=hY M (N.getD k hd0):=by rw[HM.o];exact eU _ _ am hd0
   generalize N.getD k hd0=p at *;obtain⟨⟨t,r⟩,⟨E,F⟩⟩:=p;have Y:=hid (λW (hB:Below P.heap.size P W)=>show W.rangeAt rb (k*4) [t,r,E,F] from ct B an hB);have ap:=hid ao;have aT:=J.o.size;clear B an ao;generalize wr=w0 at *;go_upto_region 8 with fail;go_loopw [6,7] (λh i wr=>∃(j:Nat) (b:Bool),j<=m∧i= .int .i64 j∧h= .bool b∧Hid (b=(M.take j).any (λy:Hd=>y.u.eqb ⟨t,r⟩))∧Hid (Below w0.heap.size w0 wr)) (λh i _=>m-(RowKit.intOf i).toNat)
   case atStart=>exact⟨0,false,aq _,rfl,rfl,hid rfl,hid (ag _ _)⟩
   case round=>
    obtain⟨j,b,hj,rfl,rfl,HB,C⟩:=hrel;have s:=hid (J.o.trans (C.o.mono aT));have K:=kO HO C.o;by_cases ar:j<m
    ·have j1:(0:Int)<=(j:Int):=by omega
     have j2:(j:Int)<(m:Int):=by omega
     obtain⟨g2,rfl,-,au,x⟩:=cZ (f:=hdL) (λ_=>rfl) d.o K.o ar hd0;have av:(M.take (j+1)).any (λy:Hd=>y.u.eqb ⟨t,r⟩)=((M.take j).any (λy:Hd=>y.u.eqb ⟨t,r⟩) || (λy:Hd=>y.u.eqb ⟨t,r⟩) (M.getD j hd0)):=by rw[dQ (by rw[<-d.o];exact ar) hd0,jx];simp
     generalize M.getD j hd0=y at *;obtain⟨⟨t2,r2⟩,⟨aw,ax⟩⟩:=y;obtain⟨b2,Z⟩:∃b,b=(λy:Hd=>y.u.eqb ⟨t,r⟩) ⟨⟨t2,r2⟩,⟨aw,ax⟩⟩:=⟨_,rfl⟩;have q1:=eq_st aw ax t r b2 Z.symm;have ay:=hid (show(M.take (j+1)).any (λy:Hd=>y.u.eqb ⟨t,r⟩)=(b || b2) by rw[av,HB.o,Z]);have y2:=aj (x 2 _ rfl);have y3:=aj (x 3 _ rfl);have x0:=aj (w:=wr) (a:=⟨rb,k*4,none⟩) (v:= .int .i64 t) ((Y.o wr s.o) 0 _ rfl);have x1:=aj (w:=wr) (a:=⟨rb,k*4+1,none⟩) (v:= .int .i64 r) ((Y.o wr s.o) 1 _ rfl);clear x Z av;cases b with
     |true=>
      go_upto_region 10 with fail;refine rqb ?_
      repeat(any_goals(first|go_big_quiet_step (fail)|quiet_step (fail)))
      refine qz λwq ab=> ?_;go_wp2;go_roundw
      case rel=>exact⟨j+1,true,by omega,by go_num,rfl,hid (by rw[ay.o];rfl),bT C ab⟩
      case measure=>(simp[RowKit.intOf];omega)
     |false=>
      go_upto_region 10 with fail;refine rqb ?_
      repeat(any_goals(first|go_big_quiet_step (fail)|quiet_step (fail)))
      refine qz λwq ab=> ?_;go_wp2;go_roundw
      case rel=>exact⟨j+1,b2,by omega,by go_num,rfl,hid (by rw[ay.o];rfl),bT C ab⟩
      case measure=>(simp[RowKit.intOf];omega)
    ·obtain rfl:j=m:=by omega
     have j2:¬(j:Int)<(j:Int):=by omega
     have z:b=M.any (λy:Hd=>y.u.eqb ⟨t,r⟩):=by rw[HB.o,d.o,aO]
     cases b with
     |true=>
      have ac:=hid (show((N.take (k+1)).foldl hY [])=M by rw[ap.o];unfold hY;rw[aN z.symm]);clear z;go_wp2;go_roundw
      case rel=>exact⟨k+1,A',c',j,M,by omega,by go_num,rfl,by omega,d,hid ac.o.symm,K,s⟩
      case measure=>(simp[RowKit.intOf];omega)
     | false=>
      have ac:=hid (show((N.take (k+1)).foldl hY [])=M++[⟨⟨t,r⟩,⟨E,F⟩⟩] by rw[ap.o];unfold hY;rw[aE (by rw[<-z];decide)]);clear z;have aC:=hid (Y.o wr s.o);have G:=s.o.size;have aZ:=C.o.size
      go_wp2_with (first
       |(refine lM aC iN ?_)
       |(at_builtin;refine cm _ rfl _ _ 157 rfl P.heap.size 224 i0 (.agg #[(0:Int),(0:Int),(0:Int),(0:Int)]) 4 32 Tryz.underlying157 hi aD aF aG rfl (by decide) (.slice A' j c') j _ rfl (by exact K.o.alloc _) ⟨wr.heap.size,0,none⟩ 1 1 [t,r,E,F] rfl rfl (λj y h=>dH wr [t,r,E,F] 224 j y h) (fx (c:=#[t,r,E,F]) rfl) (by decide) (by unfold maxLen;omega) (by omega) (by simp;omega) (wr.heap.size+1) (by simp) ?_;intro gq D w5 u l ha H;have ad:=hid u;have ae:=hid ((s.o.alloc G _).grown l (by simp;omega) (λb hb=>(K.o.lt b hb).1));clear u l ha H))
      go_roundw
      case rel=>exact⟨k+1,some ⟨gq,0,none⟩,D,j+1,_,by omega,by go_num,rfl,by omega,hid (by rw[al,<-d.o];rfl),hid ac.o.symm,hid (by rw[aK];exact ad.o),ae⟩
      case measure=>(simp[RowKit.intOf];omega)
  ·obtain rfl:k=N.length:=by omega
   have i2:¬(N.length:Int)<(N.length:Int):=by omega
   have aU:=hid (show M=N.foldl hY [] by have h9:=HM.o;rw[aO] at h9;exact h9);have a2:m<=100000:=by omega
   generalize wr=w7 at *;go_upto_region 15 with fail;go_loopw [8,9] (λo i wr=>∃(q:Nat) (Q:Option Addr) (T n:Nat),q<=m∧q+n=m∧i= .int .i64 ((q:Int)-1)∧o= .slice Q n T∧Hid (wr.ownsRow w7.heap.size 42 2 (.slice Q n T) n (((M.drop q).reverse.map (·.s)).flatMap stL))∧Hid (Below w7.heap.size w7 wr)) (λo i _=>(RowKit.intOf i+1).toNat)
   case atStart=>exact⟨m,none,0,0,aa _,by omega,by go_num,rfl,hid (by rw[d.o,List.drop_length];exact aH _ _ _ _),hid (ag _ _)⟩
   case round=>
    obtain⟨q,Q,T,n,hq,a3,rfl,rfl,af,O⟩:=hrel;have s:=bT J O.o;by_cases h0:0<q
    ·obtain⟨q,rfl⟩:∃p,q=p+1:=⟨q-1,by omega⟩;have aW:q<M.length:=by rw[<-d.o];omega
     obtain⟨g2,rfl,-,au,x⟩:=cZ (f:=hdL) (λ_=>rfl) d.o HO.o (k:=q) (by omega) hd0;have az:=rev_step aW;generalize M.getD q hd0=y at *;obtain⟨⟨t,r⟩,⟨E,F⟩⟩:=y;have aX:=hid (show wr.rangeAt g2 (q*4) [t,r] from bC (pre:=[]) (post:=[E,F]) (ct x au O.o));have aY:=hid az;have e0:(((q+1:Nat):Int)-1)=(q:Int):=by omega
     rw[e0];have k1:(0:Int)<=(q:Int):=by omega
     have k2:(q:Int)<(m:Int):=by omega
     have k3:IntKind.i64.wrap ((q:Int)-1)=(q:Int)-1:=by rw[bH];omega
     have G:=O.o.size;have a4:n<=100000:=by omega
     clear x az e0
     go_wp2_with (first
      |(refine lM aX cr ?_)
      |(at_builtin;refine cm _ rfl _ _ 100 rfl w7.heap.size 42 i1 (.agg #[(0:Int),(0:Int)]) 2 16 Tryz.underlying100 aI aJ aL aM rfl (by decide) (.slice Q n T) n _ rfl (by exact af.o.alloc _) ⟨wr.heap.size,0,none⟩ 1 1 [t,r] rfl rfl (λj y h=>dH wr [t,r] 42 j y h) (fx (c:=#[t,r]) rfl) (by decide) (by unfold maxLen;omega) (by omega) (by simp;omega) (wr.heap.size+1) (by simp) ?_;intro gq D w5 u l ha H;have ad:=hid u;have ae:=hid ((O.o.alloc G _).grown l (by simp;omega) (λb hb=>(af.o.lt b hb).1));clear u l ha H))
     go_roundw
     case rel=>exact⟨q,some ⟨gq,0,none⟩,D,n+1,by omega,by omega,by go_num,rfl,hid (by rw[aY.o,aK];exact ad.o),ae⟩
     case measure=>(simp[RowKit.intOf];try omega)
    ·obtain rfl:q=0:=by omega
     rw[show(((0:Nat):Int)-1)= -1 by rfl];obtain rfl:n=m:=by omega
     have aA:=hid (show R=M.reverse.map (·.s) by rw[aR.o,aU.o]);have aB:=hid (show R.length=n by rw[aA.o,aV,i8,d.o]);have ah:=hid (show wr.ownsRow w7.heap.size 42 2 (.slice Q n T) n (R.flatMap stL) by rw[aA.o];exact af.o);go_wp2;go_ret;refine⟨Q,T,by rw[aB.o];rfl,?_,X.o.trans (s.o.mono X.o.size)⟩;rw[aB.o];have h9:=X.o.size;have h8:=J.o.size;rcases ah.o.2 with⟨e1,e2⟩|⟨g,D,cur,e1,e2,e3⟩
     ·exact⟨ah.o.1,.inl ⟨e1,e2⟩⟩
     ·exact⟨ah.o.1,.inr ⟨g,D,cur,e1,by omega,e3⟩⟩
end
section
open Go.RowKit Go.Lib Go.Sort
def apart (u v:Value):Prop:=∀g,u.ownBlock=some g->v.ownBlock=some g->False
theorem apart.symm {u v:Value} (h:apart u v):apart v u:=λg a b=>h g b a
theorem apart.kept {u v:Value} (h:apart u v):u.ownBlock=none∨u.ownBlock≠v.ownBlock:=by
 cases e:u.ownBlock with
 |none=>exact .inl rfl
 |some g=>exact .inr λa=>h g e a.symm
theorem apart.new {u v:Value} {g n cap N:Nat} (h:apart u v) (hat:u.ownBlock=some g∨g=N) (hv:∀b,v.ownBlock=some b->b<N):apart (.slice (some ⟨g,0,none⟩) n cap) v:=λb e1 e2=>by
 have e1:some g=some b:=e1
 cases e1
 rcases hat with h1|h1
 ·exact h g h1 e2
 ·have:=hv g e2;omega
theorem apart.nil {v:Value}:apart (.slice none 0 0) v:=λg e _=>by cases e
structure OfI (B sb onb kb:Nat) (onA:Option Addr) (ON:List Gst) (ko:Obj) (so sh sl:Value) (w1 wr:World) (va vt vh vl:Value) (na nt nh nl:Nat) (AT:List Gid) (TL:List Plc) (HV LS:List Dt):Prop where
 ea:na=AT.length
 et:nt=TL.length
 eh:nh=HV.length
 el:nl=LS.length
 oa:wr.ownsRow B 108 3 va na (AT.flatMap idL)
 ot:wr.ownsRow B 161 8 vt nt (TL.flatMap plcL)
 oh:wr.ownsRow B 163 5 vh nh (HV.flatMap dtL)
 ol:wr.ownsRow B 163 5 vl nl (LS.flatMap dtL)
 dat:apart va vt
 dah:apart va vh
 dal:apart va vl
 dth:apart vt vh
 dtl:apart vt vl
 dhl:apart vh vl
 st:wr.heap[sb]? =some (.cells #[so,.slice none 0 0,sh,sl,.slice none 0 0] 105 (0,0))
 on:RowF wr (λb=>b=onb) onA 2 stL Gst.zero ON
 ke:wr.heap[kb]? =some ko
 ka:va.ownBlock≠some kb
 kt:vt.ownBlock≠some kb
 kh:vh.ownBlock≠some kb
 kl:vl.ownBlock≠some kb
 ks:kb≠sb
 bl:Below w1.heap.size w1 wr
 sz:B<=wr.heap.size
 s1:w1.heap.size<=sb
 s2:sb<B
 o1:onb<B
 o2:onb≠sb
section
variable {B sb onb kb : Nat} {onA : Option Addr} {ON : List Gst} {ko : Obj} {so sh sl : Value} {w1 wr w' : World} {va vt vh vl : Value} {na nt nh nl : Nat} {AT : List Gid} {TL : List Plc} {HV LS : List Dt}
theorem ge_none {u:Value} {r:Option Nat} (h:r=none):u.ownBlock=none∨u.ownBlock≠r:=by
 cases e:u.ownBlock with
 |none=>exact .inl rfl
 |some g=>rw[h];exact .inr (by simp)
theorem OfI.below (h:OfI B sb onb kb onA ON ko so sh sl w1 wr va vt vh vl na nt nh nl AT TL HV LS) (a:Below wr.heap.size wr w'):OfI B sb onb kb onA ON ko so sh sl w1 w' va vt vh vl na nt nh nl AT TL HV LS:=by
 have b:wr.grownBy w' none:=dB a;refine⟨h.ea,h.et,h.eh,h.el,h.oa.kept b (ge_none rfl),h.ot.kept b (ge_none rfl),h.oh.kept b (ge_none rfl),h.ol.kept b (ge_none rfl),h.dat,h.dah,h.dal,h.dth,h.dtl,h.dhl,(a.block _ (lt_of_block h.st)).trans h.st,h.on.below a,(a.block _ (lt_of_block h.ke)).trans h.ke,h.ka,h.kt,h.kh,h.kl,h.ks,h.bl.trans (a.mono (aP h.s1 (Nat.le_of_lt (lt_of_block h.st)))),aP h.sz a.size,h.s1,h.s2,h.o1,h.o2⟩
theorem OfI.newk (h:OfI B sb onb kb onA ON ko so sh sl w1 wr va vt vh vl na nt nh nl AT TL HV LS) (o:Obj):OfI B sb onb wr.heap.size onA ON o so sh sl w1 (wr.alloc o) va vt vh vl na nt nh nl AT TL HV LS:=by
 have k:=h.below ((ag _ _).alloc (aa _) o);exact⟨k.ea,k.et,k.eh,k.el,k.oa,k.ot,k.oh,k.ol,k.dat,k.dah,k.dal,k.dth,k.dtl,k.dhl,k.st,k.on,an wr o,λe=>by have:=(h.oa.lt _ e).2;omega,λe=>by have:=(h.ot.lt _ e).2;omega,λe=>by have:=(h.oh.lt _ e).2;omega,λe=>by have:=(h.ol.lt _ e).2;omega,λe=>by have:=lt_of_block h.st;omega,k.bl,k.sz,k.s1,k.s2,k.o1,k.o2⟩
theorem OfI.core (h:OfI B sb onb kb onA ON ko so sh sl w1 wr va vt vh vl na nt nh nl AT TL HV LS) {u:Value} (c:∀g,u.ownBlock=some g->B<=g) (f:u.ownBlock≠some kb) (a:wr.grownBy w' u.ownBlock):
  w'.heap[sb]? =some (.cells #[so,.slice none 0 0,sh,sl,.slice none 0 0] 105 (0,0))∧RowF w' (λb=>b=onb) onA 2 stL Gst.zero ON∧w'.heap[kb]? =some ko∧Below w1.heap.size w1 w'∧B<=w'.heap.size:=by
 refine⟨(a.block sb (lt_of_block h.st) (λe=>by have:=c sb e.symm;have:=h.s2;omega)).trans h.st,h.on.agr (Agr.grown a λg i d=> ?_),(a.block kb (lt_of_block h.ke) (λe=>f e.symm)).trans h.ke,h.bl.grown a h.bl.size (λb e=> ?_),aP h.sz a.size⟩
 ·have d:g=onb:=d;have:=c g i;have:=h.o1;omega
 ·have:=c b e;have:=h.s1;have:=h.s2;omega
theorem new_ne {u:Value} {g n cap N P:Nat} (h:u.ownBlock≠some P) (hat:u.ownBlock=some g∨g=N) (hP:P<N):(Value.slice (some ⟨g,0,none⟩) n cap).ownBlock≠some P:=λe=>by
 have e:some g=some P:=e
 cases e
 rcases hat with h1|h1
 ·exact h h1
 ·omega
theorem OfI.app_a (h:OfI B sb onb kb onA ON ko so sh sl w1 wr va vt vh vl na nt nh nl AT TL HV LS) {g d:Nat} (x:Gid) (f:w'.ownsRow B 108 3 (.slice (some ⟨g,0,none⟩) (na+1) d) (na+1) (AT.flatMap idL++idL x)) (c:wr.grownBy w' va.ownBlock) (a:va.ownBlock=some g∨g=wr.heap.size):
  OfI B sb onb kb onA ON ko so sh sl w1 w' (.slice (some ⟨g,0,none⟩) (na+1) d) vt vh vl (na+1) nt nh nl (AT++[x]) TL HV LS:=by
 obtain⟨i,j,k,l,m⟩:=h.core (λb e=>(h.oa.lt b e).1) h.ka c
 exact⟨by rw[al,<-h.ea];rfl,h.et,h.eh,h.el,by rw[aK];simpa using f,h.ot.kept c h.dat.symm.kept,h.oh.kept c h.dah.symm.kept,h.ol.kept c h.dal.symm.kept,
  h.dat.new a (λb e=>(h.ot.lt b e).2),h.dah.new a (λb e=>(h.oh.lt b e).2),h.dal.new a (λb e=>(h.ol.lt b e).2),h.dth,h.dtl,h.dhl,i,j,k,new_ne h.ka a (lt_of_block h.ke),h.kt,h.kh,h.kl,h.ks,l,m,h.s1,h.s2,h.o1,h.o2⟩
theorem OfI.app_t (h:OfI B sb onb kb onA ON ko so sh sl w1 wr va vt vh vl na nt nh nl AT TL HV LS) {g d:Nat} (x:Plc) (f:w'.ownsRow B 161 8 (.slice (some ⟨g,0,none⟩) (nt+1) d) (nt+1) (TL.flatMap plcL++plcL x)) (c:wr.grownBy w' vt.ownBlock) (a:vt.ownBlock=some g∨g=wr.heap.size):
  OfI B sb onb kb onA ON ko so sh sl w1 w' va (.slice (some ⟨g,0,none⟩) (nt+1) d) vh vl na (nt+1) nh nl AT (TL++[x]) HV LS:=by
 obtain⟨i,j,k,l,m⟩:=h.core (λb e=>(h.ot.lt b e).1) h.kt c
 exact⟨h.ea,by rw[al,<-h.et];rfl,h.eh,h.el,h.oa.kept c h.dat.kept,by rw[aK];simpa using f,h.oh.kept c h.dth.symm.kept,h.ol.kept c h.dtl.symm.kept,
  (h.dat.symm.new a (λb e=>(h.oa.lt b e).2)).symm,h.dah,h.dal,h.dth.new a (λb e=>(h.oh.lt b e).2),h.dtl.new a (λb e=>(h.ol.lt b e).2),h.dhl,i,j,k,h.ka,new_ne h.kt a (lt_of_block h.ke),h.kh,h.kl,h.ks,l,m,h.s1,h.s2,h.o1,h.o2⟩
theorem OfI.app_h (h:OfI B sb onb kb onA ON ko so sh sl w1 wr va vt vh vl na nt nh nl AT TL HV LS) {g d:Nat} (x:Dt) (f:w'.ownsRow B 163 5 (.slice (some ⟨g,0,none⟩) (nh+1) d) (nh+1) (HV.flatMap dtL++dtL x)) (c:wr.grownBy w' vh.ownBlock) (a:vh.ownBlock=some g∨g=wr.heap.size):
  OfI B sb onb kb onA ON ko so sh sl w1 w' va vt (.slice (some ⟨g,0,none⟩) (nh+1) d) vl na nt (nh+1) nl AT TL (HV++[x]) LS:=by
 obtain⟨i,j,k,l,m⟩:=h.core (λb e=>(h.oh.lt b e).1) h.kh c
 exact⟨h.ea,h.et,by rw[al,<-h.eh];rfl,h.el,h.oa.kept c h.dah.kept,h.ot.kept c h.dth.kept,by rw[aK];simpa using f,h.ol.kept c h.dhl.symm.kept,
  h.dat,(h.dah.symm.new a (λb e=>(h.oa.lt b e).2)).symm,h.dal,(h.dth.symm.new a (λb e=>(h.ot.lt b e).2)).symm,h.dtl,h.dhl.new a (λb e=>(h.ol.lt b e).2),i,j,k,h.ka,h.kt,new_ne h.kh a (lt_of_block h.ke),h.kl,h.ks,l,m,h.s1,h.s2,h.o1,h.o2⟩
theorem OfI.app_l (h:OfI B sb onb kb onA ON ko so sh sl w1 wr va vt vh vl na nt nh nl AT TL HV LS) {g d:Nat} (x:Dt) (f:w'.ownsRow B 163 5 (.slice (some ⟨g,0,none⟩) (nl+1) d) (nl+1) (LS.flatMap dtL++dtL x)) (c:wr.grownBy w' vl.ownBlock) (a:vl.ownBlock=some g∨g=wr.heap.size):
  OfI B sb onb kb onA ON ko so sh sl w1 w' va vt vh (.slice (some ⟨g,0,none⟩) (nl+1) d) na nt nh (nl+1) AT TL HV (LS++[x]):=by
 obtain⟨i,j,k,l,m⟩:=h.core (λb e=>(h.ol.lt b e).1) h.kl c
 exact⟨h.ea,h.et,h.eh,by rw[al,<-h.el];rfl,h.oa.kept c h.dal.kept,h.ot.kept c h.dtl.kept,h.oh.kept c h.dhl.kept,by rw[aK];simpa using f,
  h.dat,h.dah,(h.dal.symm.new a (λb e=>(h.oa.lt b e).2)).symm,h.dth,(h.dtl.symm.new a (λb e=>(h.ot.lt b e).2)).symm,(h.dhl.symm.new a (λb e=>(h.oh.lt b e).2)).symm,i,j,k,h.ka,h.kt,h.kh,new_ne h.kl a (lt_of_block h.ke),h.ks,l,m,h.s1,h.s2,h.o1,h.o2⟩
theorem OfI.put (h:OfI B sb onb kb onA ON ko so sh sl w1 wr va vt vh vl na nt nh nl AT TL HV LS) (i:Nat) (v:Value) {d f j:Value} (k:(#[so,.slice none 0 0,sh,sl,.slice none 0 0]:Array Value).setIfInBounds i v=#[d,.slice none 0 0,f,j,.slice none 0 0]):
  OfI B sb onb kb onA ON ko d f j w1 (wr.setCell ⟨sb,i,none⟩ v) va vt vh vl na nt nh nl AT TL HV LS:=by
 have a:=di (w:=wr) sb i v;have c:∀{u:Value} {E s n:Nat} {xs:List Value},wr.ownsRow B E s u n xs->u.ownBlock=none∨u.ownBlock≠some sb:=λl=> .inr λe=>by have:=(l.lt _ e).1;have:=h.s2;omega
 exact⟨h.ea,h.et,h.eh,h.el,h.oa.kept a (c h.oa),h.ot.kept a (c h.ot),h.oh.kept a (c h.oh),h.ol.kept a (c h.ol),h.dat,h.dah,h.dal,h.dth,h.dtl,h.dhl,gF h.st i v k,
  h.on.agr (Agr.grown a λg m o=>by cases m;exact h.o2 (show sb=onb from o).symm),(a.block kb (lt_of_block h.ke) (λe=>by cases e;exact h.ks rfl)).trans h.ke,h.ka,h.kt,h.kh,h.kl,h.ks,h.bl.grown a h.bl.size (λb e=>by cases e;exact h.s1),aP h.sz a.size,h.s1,h.s2,h.o1,h.o2⟩
end
def oAt (b:Bool) (s:Gst) (ops:List Gop) (i:Nat):List Gid:=if ((decide ((ops.getD i (opO 0 .zero)).kind=0)) || (decide ((ops.getD i (opO 0 .zero)).kind=1) && b))=true then [⟨s,(i:Int)⟩] else []
def oTl (b:Bool) (ops:List Gop) (i:Nat):List Plc:=if ((decide ((ops.getD i (opO 0 .zero)).kind=0)) || (decide ((ops.getD i (opO 0 .zero)).kind=1) && b))=true then [⟨(ops.getD i (opO 0 .zero)).node,(ops.getD i (opO 0 .zero)).parent,(ops.getD i (opO 0 .zero)).name,(ops.getD i (opO 0 .zero)).dir⟩] else []
def oHv (b:Bool) (s:Gst) (ops:List Gop) (i:Nat):List Dt:=if (b && !(decide ((ops.getD i (opO 0 .zero)).kind=2)))=true then [⟨(ops.getD i (opO 0 .zero)).node,s⟩] else []
def oLs (b:Bool) (ops:List Gop) (i:Nat):List Dt:=if b=true then (ops.getD i (opO 0 .zero)).dots.map (λd=>⟨(ops.getD i (opO 0 .zero)).node,d⟩) else []
def upto {α:Type} (f:Nat->List α) (n:Nat):List α:=(List.range n).flatMap f
theorem fo {α:Type} (f:Nat->List α) (n:Nat):upto f (n+1)=upto f n++f n:=by
 unfold upto;rw[List.range_succ,aK];simp
def onB (ON:List Gst) (s:Gst):Bool:=ON.any (λy=>y.eqb s)
def gAt (ON:List Gst) (L:List (Grp×GrX)) (k:Nat):List Gid:=upto (oAt (onB ON (L.getD k gp0).1.s) (L.getD k gp0).1.s (L.getD k gp0).1.ops) (L.getD k gp0).1.ops.length
def gTl (ON:List Gst) (L:List (Grp×GrX)) (k:Nat):List Plc:=upto (oTl (onB ON (L.getD k gp0).1.s) (L.getD k gp0).1.ops) (L.getD k gp0).1.ops.length
def gHv (ON:List Gst) (L:List (Grp×GrX)) (k:Nat):List Dt:=upto (oHv (onB ON (L.getD k gp0).1.s) (L.getD k gp0).1.s (L.getD k gp0).1.ops) (L.getD k gp0).1.ops.length
def gLs (ON:List Gst) (L:List (Grp×GrX)) (k:Nat):List Dt:=upto (oLs (onB ON (L.getD k gp0).1.s) (L.getD k gp0).1.ops) (L.getD k gp0).1.ops.length
def onG (L:List (Grp×GrX)):List Gst:=onS (L.map hdOf)
def jR (L:List (Grp×GrX)):List Dt:=upto (gHv (onG L) L) L.length
def jQ (L:List (Grp×GrX)):List Dt:=upto (gLs (onG L) L) L.length
theorem slid_perm {α:Type} (L:List α) (x:α) (k:Nat):(slid L x k).Perm (x::L):=by
 unfold slid;refine List.perm_middle.trans ?_;rw[fe]
theorem insB_perm {α:Type} (p:α->Bool) (z:α) (L:List α) (x:α):(insB p z L x).Perm (x::L):=slid_perm _ _ _
theorem insB_mem {α:Type} {p:α->Bool} {z:α} {L:List α} {x y:α}:y∈insB p z L x↔y=x∨y∈L:=by
 rw[(insB_perm p z L x).mem_iff,dh]
theorem stepT_mem {a:List Told} {x y:Told} (h:y∈stepT a x):y=x∨y∈a:=by
 unfold stepT at h;split at h
 ·exact .inr h
 ·exact insB_mem.1 h
theorem sortT_mem':∀(l:List Told) {out:List Told} {y:Told},y∈l.foldl stepT out->y∈l∨y∈out
 | [],out,y,h=> .inr h
 | x::l,out,y,h=>by
  rcases sortT_mem' l h with h1|h1
  ·exact .inl (by simp[h1])
  ·rcases stepT_mem h1 with rfl|h2
   ·exact .inl (by simp)
   ·exact .inr h2
theorem stepP_name {a:List Plc} {x:Told} {p:Plc} (h:p∈hH a x):p.name=x.p.name∨p∈a:=by
 unfold hH at h;split at h
 ·exact .inr h
 ·split at h
  ·rcases List.mem_or_eq_of_mem_set h with b|rfl
   ·exact .inr b
   ·exact .inl rfl
  ·rcases insB_mem.1 h with rfl|b
   ·exact .inl rfl
   ·exact .inr b
theorem foldP_name:∀(l:List Told) {out:List Plc} {p:Plc},p∈l.foldl hH out->(∃x∈l,p.name=x.p.name)∨p∈out
 | [],out,p,h=> .inr h
 | x::l,out,p,h=>by
  rcases foldP_name l h with⟨y,hy,e⟩|h1
  ·exact .inl ⟨y,by simp[hy],e⟩
  ·rcases stepP_name h1 with e|h2
   ·exact .inl ⟨x,by simp,e⟩
   ·exact .inr h2
theorem replay_name {l:List Told} {p:Plc} (h:p∈fL l):∃x∈l,p.name=x.p.name:=by
 rcases foldP_name _ h with⟨x,hx,e⟩|h1
 ·rcases sortT_mem' l hx with a|a
  ·exact⟨x,a,e⟩
  ·cases a
 ·cases h1
theorem made_name {L:List (Grp×GrX)} {P:List Plc} {q:Plc} (h:q∈gT L P):∃p∈P,q.name=p.name:=by
 unfold gT at h;rw[dS] at h;obtain⟨p,a,h⟩:=h;unfold jb at h;rw[dS] at h;obtain⟨g,b,h⟩:=h;unfold opsM at h;rw[bN] at h;obtain⟨o,c,rfl⟩:=h;exact⟨p,a,rfl⟩
theorem opsM_len (p:Plc) (l:List Gop):(opsM p l).length<=l.length:=by
 unfold opsM;rw[aV];exact ij _ _
theorem madeP_len (p:Plc):∀(L:List (Grp×GrX)),(∀g∈L,g.1.ops.length<=2)->(jb L p).length<=2*L.length
 | [],_=>aa _
 |g::L,h=>by
  have h1:=madeP_len p L λx hx=>h x (by simp[hx])
  have h2:=h g (by simp)
  have h3:=opsM_len p g.1.ops
  unfold jb at h1 ⊢
  rw[cG,al,bQ]
  omega
theorem madeL_len (L:List (Grp×GrX)) (h:∀g∈L,g.1.ops.length<=2):∀(P:List Plc),(gT L P).length<=2*L.length*P.length
 | []=>aq _
 |p::P=>by
  have h1:=madeL_len L h P
  have h2:=madeP_len p L h
  unfold gT at h1 ⊢
  rw[cG,al,bQ,Nat.mul_add,jJ]
  omega
theorem upto_map {α β:Type} (f:Nat->List α) (g:α->β) (n:Nat):(upto f n).map g=upto (λi=>(f i).map g) n:=by
 unfold upto;rw[List.map_flatMap]
theorem kC {α:Type} {f g:Nat->List α} {n:Nat} (h:∀i,f i=g i):upto f n=upto g n:=by
 have:f=g:=funext h;rw[this]
def oTo (b:Bool) (s:Gst) (ops:List Gop) (i:Nat):List Told:=if ((decide ((ops.getD i (opO 0 .zero)).kind=0)) || (decide ((ops.getD i (opO 0 .zero)).kind=1) && b))=true then [⟨⟨s,(i:Int)⟩,⟨(ops.getD i (opO 0 .zero)).node,(ops.getD i (opO 0 .zero)).parent,(ops.getD i (opO 0 .zero)).name,(ops.getD i (opO 0 .zero)).dir⟩⟩] else []
def gTo (ON:List Gst) (L:List (Grp×GrX)) (k:Nat):List Told:=upto (oTo (onB ON (L.getD k gp0).1.s) (L.getD k gp0).1.s (L.getD k gp0).1.ops) (L.getD k gp0).1.ops.length
theorem gTo_a (b:List Gst) (L:List (Grp×GrX)) (n:Nat):(upto (gTo b L) n).map (·.a)=upto (gAt b L) n:=by
 rw[upto_map];refine kC λi=> ?_;unfold gTo gAt;rw[upto_map];refine kC λj=> ?_;unfold oTo oAt;split<;>rfl
theorem gTo_p (a:List Gst) (L:List (Grp×GrX)) (n:Nat):(upto (gTo a L) n).map (·.p)=upto (gTl a L) n:=by
 rw[upto_map];refine kC λi=> ?_;unfold gTo gTl;rw[upto_map];refine kC λj=> ?_;unfold oTo oTl;split<;>rfl
def toldG (L:List (Grp×GrX)):List Told:=upto (gTo (onG L) L) L.length
def fR (L:List (Grp×GrX)):List Plc:=gT L (fL (toldG L))
def liveG (L:List (Grp×GrX)):List Gid:=gU (jQ L) (jR L)
def itemsG (L:List (Grp×GrX)):List Itm:=itemsL (fR L).length (fR L) (liveG L)
theorem upto_mem {α:Type} {f:Nat->List α} {n:Nat} {x:α}:x∈upto f n↔∃i,i<n∧x∈f i:=by
 unfold upto;rw[dS];exact⟨λ⟨i,a,b⟩=>⟨i,gy.1 a,b⟩,λ⟨i,a,b⟩=>⟨i,gy.2 a,b⟩⟩
theorem toldG_in {b:List Gst} {L:List (Grp×GrX)} {x:Told} {n:Nat} (e:n<=L.length) (h:x∈upto (gTo b L) n):∃g∈L,∃o∈g.1.ops,(o.kind=0∨o.kind=1)∧x.p=⟨o.node,o.parent,o.name,o.dir⟩∧x.a.s=g.1.s:=by
 obtain⟨k,f,h⟩:=upto_mem.1 h;unfold gTo at h;obtain⟨j,d,h⟩:=upto_mem.1 h;unfold oTo at h;split at h
 ·rename_i c;rw[ba] at h;subst h;refine⟨L.getD k gp0,cg (by omega) _,(L.getD k gp0).1.ops.getD j (opO 0 .zero),cg d _,?_,rfl,rfl⟩;simp only[dk,ay,au] at c;rcases c with c|c
  ·exact .inl c
  ·exact .inr c.1
 ·cases h
theorem opsB_mem9 {s:Gst}:∀(l:List Gop) (k:Nat),opsB s l k=true->∀o∈l,∃q,opB s o q=true
 | [],_,_,o,ho=>by cases ho
 |x::l,k,h,o,ho=>by
  simp only[opsB,ay] at h
  rcases dh.1 ho with rfl|ho
  ·exact⟨k,h.1⟩
  ·exact opsB_mem9 l _ h.2 o ho
theorem chk_op {g:Grp} (h:chkB g=true) {o:Gop} (a:o∈g.ops):∃q,opB g.s o q=true:=by
 simp only[chkB,ay] at h;have h:=h.2;split at h
 ·simp only[ay] at h;exact opsB_mem9 _ _ h.2 o a
 ·simp only[ay,au] at h;rw[cu h.2] at a;cases a
theorem op_name {s:Gst} {o:Gop} {q:Nat} (h:opB s o q=true) (a:o.kind=0∨o.kind=1):eC o.name=true:=by
 simp only[opB,ay] at h;have h:=h.2;unfold dL at h;rcases a with a|a
 ·rw[aN a] at h;simp only[ay] at h;exact h.2
 ·rw[aE (by omega),aN a] at h;simp only[ay] at h;exact h.2
theorem name_size {s:ByteArray} (h:eC s=true):s.size<=32:=by
 simp only[eC,ay,au] at h;exact h.1.1.1.2
theorem placeG_name {L:List (Grp×GrX)} (a:∀p∈L,chkB p.1=true) {q:Plc} (h:q∈fR L):q.name.size<=32:=by
 obtain⟨p,b,e⟩:=made_name h;obtain⟨x,d,f⟩:=replay_name b;obtain⟨g,i,o,j,k,l,-⟩:=toldG_in (aa _) d;obtain⟨c,m⟩:=chk_op (a g i) j;rw[e,f,l];exact name_size (op_name m k)
theorem placeG_len {L:List (Grp×GrX)} (e:L.length<=20) (a:∀p∈L,p.1.ops.length<=2) (b:(toldG L).length<=40):(fR L).length<=1600:=by
 have f:=madeL_len L a (fL (toldG L));have c:=replayL_len (toldG L);have d:(fL (toldG L)).length<=40:=aP c b;have g:2*L.length*(fL (toldG L)).length<=40*40:=Nat.mul_le_mul (by omega) d;unfold fR;omega
theorem items_ok (L:List (Grp×GrX)):∀p∈ja (fR L) (liveG L),p.name.size<=1000∧iW (ja (fR L) (liveG L)) (fR L).length p=true:=λp hp=>by
 obtain⟨h1,h2⟩:=seen_climbs (fR L) (liveG L) (fR L).length (by omega) p hp
 exact⟨by have:=name_size h1;omega,h2⟩
end
end Go.Proofs.YtkhmicndehlneaaGreatDoor
