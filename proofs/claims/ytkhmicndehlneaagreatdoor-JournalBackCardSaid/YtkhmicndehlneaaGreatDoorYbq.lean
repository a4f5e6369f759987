/- Part 17 of the walks and plain laws that this claim uses, joined. Conditions: as each theorem states. -/
import Derived.Test.YtkhmicndehlneaaGreatDoorYbp
namespace Go.Proofs.YtkhmicndehlneaaGreatDoor
set_option maxRecDepth 100000
set_option maxHeartbeats 16000000
set_option linter.unusedVariables false
section
open Go.RowKit Go.Lib Go.Sort
attribute [local go_sem ↓] Go.wp_at_zero Go.wp_at_succ
def dY {α:Type} (p:α->Bool) (z:α) (L:List α):Nat->Nat
 |0=>0
 |n+1=>if p (L.getD n z) then dY p z L n else n+1
def insB {α:Type} (p:α->Bool) (z:α) (L:List α) (x:α):List α:=slid L x (dY p z L L.length)
theorem insIx_le {α:Type} (p:α->Bool) (z:α) (L:List α):∀n,dY p z L n<=n
 |0=>aa _
 |n+1=>by
  unfold dY
  split
  ·have:=insIx_le p z L n;omega
  ·exact aa _
theorem ge {α:Type} {p:α->Bool} {z:α} {L:List α} {n:Nat} (h:n=0∨∃q,n=q+1∧p (L.getD q z)=false):dY p z L n=n:=by
 rcases h with rfl|⟨q,rfl,h⟩
 ·rfl
 ·unfold dY;rw[h];rfl
theorem iF {α:Type} {p:α->Bool} {z:α} {L:List α} {q:Nat} (h:p (L.getD q z)=true):dY p z L (q+1)=dY p z L q:=by
 rw[dY,aJ h]
theorem j0 {α:Type} (p:α->Bool) (z:α) (L:List α) (x:α):(insB p z L x).length=L.length+1:=eO _ _ _
def stepH (out:List Hd) (x:Hd):List Hd:=if out.any (λy=>y.s.eqb x.s)=true then out else insB (λy=>y.s.lt x.s) hd0 out x
def jH (l:List Hd):List Hd:=l.foldl stepH []
theorem stepH_len (out:List Hd) (x:Hd):(stepH out x).length<=out.length+1:=by
 unfold stepH;split
 ·omega
 ·rw[j0];exact aa _
theorem eL {α β:Type} (f:β->α->β) (b:β) {l:List α} {k:Nat} (hk:k<l.length) (z:α):(l.take (k+1)).foldl f b=f ((l.take k).foldl f b) (l.getD k z):=by
 rw[dF hk z,List.foldl_append];rfl
theorem sortH_len:∀(l:List Hd) (out:List Hd),(l.foldl stepH out).length<=out.length+l.length
 | [],out=>aa _
 |x::l,out=>by
  have h1:=sortH_len l (stepH out x)
  have h2:=stepH_len out x
  rw[dU,bG];omega
theorem sortedh_any (L:List Hd) (A:Option Addr) (c:Nat) (S:Nat->Prop) (w:World) (hl:L.length<=100000) (hR:RowF w S A 4 hdL hd0 L):
  Calls Tryz.prog 166 #[.slice A L.length c] w λe w'=>∃A' c',e= .returned (.slice A' (jH L).length c')∧w'.ownsRow w.heap.size 224 4 (.slice A' (jH L).length c') (jH L).length ((jH L).flatMap hdL)∧Below w.heap.size w w':=by
 obtain⟨i0,hi,a4,a5,a6⟩:=bD info_hd;have HR:=hid hR;clear hR;go_enter Tryz.func166,Tryz.ntmps166;go_upto_region 3 with fail;go_loopw [3,4] (λo i wr=>∃(k:Nat) (A':Option Addr) (c' m:Nat) (M:List Hd),k<=L.length∧i= .int .i64 k∧o= .slice A' m c'∧m<=k∧Hid (m=M.length)∧Hid (M=jH (L.take k))∧Hid (wr.ownsRow w.heap.size 224 4 (.slice A' m c') m (M.flatMap hdL))∧Hid (Below w.heap.size w wr)) (λo i _=>L.length-(RowKit.intOf i).toNat)
 case atStart=>exact⟨0,none,0,0,[],aq _,rfl,rfl,aa _,hid rfl,hid rfl,hid (aF _ _ _ _),hid (ag _ _)⟩
 case round=>
  obtain⟨k,A',c',m,M,hk,rfl,rfl,bo,u,HM,HO,ah⟩:=hrel;by_cases aE:k<L.length
  ·have i1:(0:Int)<=(k:Int):=by omega
   have i2:(k:Int)<(L.length:Int):=by omega
   obtain⟨rb,ro,rfl,-,aG,R⟩:=HR.out.range (λ_=>rfl) aE;have aH:jH (L.take (k+1))=stepH M (L.getD k hd0):=by rw[HM.out];exact eL _ _ aE hd0
   generalize L.getD k hd0=p at *;obtain⟨⟨t,r⟩,⟨l,n⟩⟩:=p;have a7:=hid (λW (hB:Below w.heap.size w W)=>show W.rangeAt rb (ro+k*4) [.int .i64 t,.int .i64 r,.int .i64 l,.int .i64 n] from cd R aG hB);have aM:=hid aH;have a8:=ah.out.size;clear R aG aH;generalize wr=w0 at *;go_upto_region 7 with fail;go_loopw [5,6] (λh i wr=>∃(j:Nat) (b:Bool),j<=m∧i= .int .i64 j∧h= .bool b∧Hid (b=(M.take j).any (λy=>y.s.eqb ⟨t,r⟩))∧Hid (Below w0.heap.size w0 wr)) (λh i _=>m-(RowKit.intOf i).toNat)
   case atStart=>exact⟨0,false,aq _,rfl,rfl,hid rfl,hid (ag _ _)⟩
   case round=>
    obtain⟨j,b,hj,rfl,rfl,HB,J⟩:=hrel;have T:=hid (ah.out.trans (J.out.mono a8));have ai:=hid (a7.out wr T.out);have U:=kO HO J.out;by_cases aN:j<m
    ·have j1:(0:Int)<=(j:Int):=by omega
     have j2:(j:Int)<(m:Int):=by omega
     obtain⟨g2,rfl,-,bp,ak⟩:=cz (f:=hdL) (λ_=>rfl) u.out U.out aN hd0;have aO:(M.take (j+1)).any (λy=>y.s.eqb ⟨t,r⟩)=((M.take j).any (λy=>y.s.eqb ⟨t,r⟩) || (M.getD j hd0).s.eqb ⟨t,r⟩):=by rw[dF (by rw[<-u.out];exact aN) hd0,jp];simp
     generalize M.getD j hd0=y at *;obtain⟨⟨C,D⟩,⟨F,G⟩⟩:=y;obtain⟨Z,I⟩:∃b,b=Gst.eqb ⟨C,D⟩ ⟨t,r⟩:=⟨_,rfl⟩;have q1:=eq_st C D t r Z I.symm;have aP:=hid (show(M.take (j+1)).any (λy=>y.s.eqb ⟨t,r⟩)=(b || Z) by rw[aO,HB.out,I]);have y0:=aj (w:=wr) (a:=⟨g2,j*4,none⟩) (v:= .int .i64 C) (ak 0 _ rfl);have y1:=aj (w:=wr) (a:=⟨g2,j*4+1,none⟩) (v:= .int .i64 D) (ak 1 _ rfl);have x0:=aj (w:=wr) (a:=⟨rb,ro+k*4,none⟩) (v:= .int .i64 t) (ai.out 0 _ rfl);have x1:=aj (w:=wr) (a:=⟨rb,ro+k*4+1,none⟩) (v:= .int .i64 r) (ai.out 1 _ rfl);clear ak I aO;cases b with
     |true=>
      go_upto_region 9 with fail;refine rqb ?_
      repeat(any_goals(first|go_big_quiet_step (fail)|quiet_step (fail)))
      refine qz λE s=> ?_;go_wp2;go_roundw
      case rel=>exact⟨j+1,true,by omega,by go_num,rfl,hid (by rw[aP.out];rfl),bT J s⟩
      case measure=>(simp[RowKit.intOf];omega)
     |false=>
      go_upto_region 9 with fail;refine rqb ?_
      repeat(any_goals(first|go_big_quiet_step (fail)|quiet_step (fail)))
      refine qz λE s=> ?_;go_wp2;go_roundw
      case rel=>exact⟨j+1,Z,by omega,by go_num,rfl,hid (by rw[aP.out];rfl),bT J s⟩
      case measure=>(simp[RowKit.intOf];omega)
    ·obtain rfl:j=m:=by omega
     have j2:¬(j:Int)<(j:Int):=by omega
     have Q:b=M.any (λy=>y.s.eqb ⟨t,r⟩):=by rw[HB.out,u.out,aK]
     cases b with
     |true=>
      have ac:=hid (show jH (L.take (k+1))=M by rw[aM.out];unfold stepH;rw[aJ Q.symm]);clear Q;go_wp2;go_roundw
      case rel=>exact⟨k+1,A',c',j,M,by omega,by go_num,rfl,by omega,u,hid ac.out.symm,U,T⟩
      case measure=>(simp[RowKit.intOf];omega)
     | false=>
      have ac:=hid (show jH (L.take (k+1))=insB (λy=>y.s.lt ⟨t,r⟩) hd0 M ⟨⟨t,r⟩,⟨l,n⟩⟩ by rw[aM.out];unfold stepH;rw[aC (by rw[<-Q];decide)]);clear Q;go_upto_region 11 with fail;have a0:=J.out.size;have al:=hid (show wr.rangeAt rb (ro+k*4) [.int .i64 t,.int .i64 r,.int .i64 l,.int .i64 n] from ai.out);have am:=T.out.size
      go_upto_region 13 with(first
       |(refine lM al iI ?_)
       |(at_builtin;refine bX _ rfl _ _ 157 rfl w.heap.size 224 i0 (.agg #[(0:Int),(0:Int),(0:Int),(0:Int)]) 4 32 Tryz.underlying157 hi a4 a5 a6 rfl (by decide) (.slice A' j c') j _ rfl (by exact U.out.alloc _) ⟨wr.heap.size,0,none⟩ 1 1 [.int .i64 t,.int .i64 r,.int .i64 l,.int .i64 n] rfl rfl (λj y h=>dH wr [.int .i64 t,.int .i64 r,.int .i64 l,.int .i64 n] 224 j y h) (fw (c:=#[.int .i64 t,.int .i64 r,.int .i64 l,.int .i64 n]) rfl) (by decide) (by unfold maxLen;omega) (by omega) (by simp;omega) (wr.heap.size+1) (by simp) ?_;intro g H w5 an ad ha a1;have aQ:=hid an;have a9:=hid ((T.out.alloc am _).grown ad (by simp;omega) (λb hb=>(U.out.lt b hb).1));clear an ad ha a1))
      clear U J T HB a0 al am;have bn:j<=100000:=by omega
      have aS:slid M (⟨⟨t,r⟩,⟨l,n⟩⟩:Hd) j=M++[⟨⟨t,r⟩,⟨l,n⟩⟩]:=by rw[u.out];exact ju _ _
      have ba:=hid (show w5.ownsRow w.heap.size 224 4 (.slice (some ⟨g,0,none⟩) (j+1) H) (j+1) ((slid M (⟨⟨t,r⟩,⟨l,n⟩⟩:Hd) j).flatMap hdL) by rw[aS,aI];exact aQ.out);clear aS aQ;generalize w5=w6 at *;go_loopw [7] (λi wx=>∃(q:Nat),i= .int .i64 q∧q<=j∧Hid (dY (λy:Hd=>y.s.lt ⟨t,r⟩) hd0 M q=dY (λy:Hd=>y.s.lt ⟨t,r⟩) hd0 M M.length)∧Hid (wx.ownsRow w.heap.size 224 4 (.slice (some ⟨g,0,none⟩) (j+1) H) (j+1) ((slid M (⟨⟨t,r⟩,⟨l,n⟩⟩:Hd) q).flatMap hdL))∧Hid (Below w.heap.size w wx)) (λi _=>(RowKit.intOf i).toNat)
      case atStart=>exact⟨j,rfl,aa _,hid (by rw[u.out]),ba,a9⟩
      case round=>
       obtain⟨q,rfl,hq,ao,N,ap⟩:=hrel;by_cases h0:0<q
       ·obtain⟨q,rfl⟩:∃p,q=p+1:=⟨q-1,by omega⟩;have ar:q+1<=M.length:=by rw[<-u.out];exact hq
        have ae:j+1=(slid M (⟨⟨t,r⟩,⟨l,n⟩⟩:Hd) (q+1)).length:=by rw[eO,<-u.out]
        obtain⟨g3,e3,-,aT,O⟩:=cz (f:=hdL) (λ_=>rfl) ae N.out (k:=q) (by omega) hd0;cases e3;obtain⟨g4,e4,-,-,X⟩:=cz (f:=hdL) (λ_=>rfl) ae N.out (k:=q+1) (by omega) hd0;cases e4;rw[js ar] at O;rw[ku ar] at X;have au:=ip (L:=M) (x:=(⟨⟨t,r⟩,⟨l,n⟩⟩:Hd)) (z:=hd0) ar;obtain⟨y,hy⟩:∃y,y=M.getD q hd0:=⟨_,rfl⟩;rw[<-hy] at O au;obtain⟨Z,I⟩:∃b,b=(λy:Hd=>y.s.lt ⟨t,r⟩) y:=⟨_,rfl⟩;have aU:=hid (show(λy:Hd=>y.s.lt ⟨t,r⟩) (M.getD q hd0)=Z by rw[<-hy,I]);clear hy;obtain⟨⟨C,D⟩,⟨F,G⟩⟩:=y;have bb:=hid (show wr.rangeAt g (q*4) [.int .i64 C,.int .i64 D,.int .i64 F,.int .i64 G] from O);have bc:=hid (show wr.rangeAt g ((q+1)*4) [.int .i64 t,.int .i64 r,.int .i64 l,.int .i64 n] from X);have y0:=aj (w:=wr) (a:=⟨g,q*4,none⟩) (v:= .int .i64 C) (O 0 _ rfl);have y1:=aj (w:=wr) (a:=⟨g,q*4+1,none⟩) (v:= .int .i64 D) (O 1 _ rfl);have x0:=aj (w:=wr) (a:=⟨g,(q+1)*4,none⟩) (v:= .int .i64 t) (X 0 _ rfl);have x1:=aj (w:=wr) (a:=⟨g,(q+1)*4+1,none⟩) (v:= .int .i64 r) (X 1 _ rfl);have bd:=hid au;have k1:(0:Int)<(q:Int)+1:=by omega
        have k2:(0:Int)<=(q:Int):=by omega
        have k3:(q:Int)<(j:Int)+1:=by omega
        have k4:(q:Int)+1<(j:Int)+1:=by omega
        have k5:(0:Int)<=(q:Int)+1:=by omega
        have k6:IntKind.i64.wrap (q:Int)=(q:Int):=by rw[bz];omega
        have Y:=hid ae;have aV:=λW=>eN C D t r W;rw[show Gst.lt ⟨C,D⟩ ⟨t,r⟩=Z from I.symm] at aV;have cA:=λd os=>ay (aV (grow (redrawn wr d) os));clear O X I au ae;cases Z with
        |false=>
         go_upto_region 13 with fail;refine rqb ?_
         repeat(any_goals(first|go_big_quiet_step (with_reducible exact cA _ _)|quiet_step (with_reducible exact cA _ _)))
         refine qz λE s=> ?_;have av:=hid (show jH (L.take (k+1))=slid M (⟨⟨t,r⟩,⟨l,n⟩⟩:Hd) (q+1) by rw[ac.out];unfold insB;rw[<-ao.out,ge (.inr ⟨q,rfl,aU.out⟩)]);have aw:=kO N s;have ax:=bT ap s;go_wp2;go_roundw
         case rel=>exact⟨k+1,some ⟨g,0,none⟩,H,j+1,_,by omega,by go_num,rfl,by omega,Y,hid av.out.symm,aw,ax⟩
         case measure=>(simp[RowKit.intOf];omega)
        | true=>
         go_upto_region 13 with fail;refine rqb ?_
         repeat(any_goals(first|go_big_quiet_step (with_reducible exact cA _ _)|quiet_step (with_reducible exact cA _ _)))
         refine qz λE s=> ?_;have a2:=hid (show dY (λy:Hd=>y.s.lt ⟨t,r⟩) hd0 M q=dY (λy:Hd=>y.s.lt ⟨t,r⟩) hd0 M M.length by rw[<-ao.out,iF aU.out]);have az:=hid (cd bb.out aT s);have aA:=hid (cd bc.out aT s);have ab:=kO N s;have a3:=bT ap s;clear y0 y1 x0 x1 cA N s;go_upto_region 15 with fail;obtain⟨V1,aB⟩:∃V,V=E.drew.setCells g ((q+1)*4) (#[.int .i64 C,.int .i64 D,.int .i64 F,.int .i64 G]:Array Value).toList:=⟨_,rfl⟩;have P:V1.ownsRow w.heap.size 224 4 (.slice (some ⟨g,0,none⟩) (j+1) H) (j+1) (((slid M (⟨⟨t,r⟩,⟨l,n⟩⟩:Hd) (q+1)).set (q+1) (⟨⟨C,D⟩,⟨F,G⟩⟩:Hd)).flatMap hdL)∧E.drew.grownBy V1 (some g):=by rw[aB];exact eP (f:=hdL) (λ_=>rfl) (by decide) Y.out (show E.drew.ownsRow _ _ _ _ _ _ from ab.out) (by omega) (⟨⟨C,D⟩,⟨F,G⟩⟩:Hd)
         obtain⟨V2,aD⟩:∃V,V=V1.setCells g (q*4) (#[.int .i64 t,.int .i64 r,.int .i64 l,.int .i64 n]:Array Value).toList:=⟨_,rfl⟩;have af:V2.ownsRow w.heap.size 224 4 (.slice (some ⟨g,0,none⟩) (j+1) H) (j+1) ((((slid M (⟨⟨t,r⟩,⟨l,n⟩⟩:Hd) (q+1)).set (q+1) (⟨⟨C,D⟩,⟨F,G⟩⟩:Hd)).set q (⟨⟨t,r⟩,⟨l,n⟩⟩:Hd)).flatMap hdL)∧V1.grownBy V2 (some g):=by rw[aD];exact eP (f:=hdL) (λ_=>rfl) (by decide) (by rw[cM];exact Y.out) P.1 (by omega) (⟨⟨t,r⟩,⟨l,n⟩⟩:Hd)
         obtain⟨g5,e5,aW⟩:=ey (show E.drew.ownsRow _ _ _ _ _ _ from ab.out) (k:=q+1) (by omega);cases e5;obtain⟨g6,e6,aY⟩:=ey P.1 (k:=q) (by omega);cases e6;have bf:=hid af.1;have bg:=hid (show E.heap.size<=V2.heap.size∧(Below w.heap.size w E->w.heap.size<=g->Below w.heap.size w V2) from⟨aL (show E.drew.heap.size<=V1.heap.size from P.2.size) af.2.size,λhb hl=>(hb.drew.grown P.2 (by exact hb.size) (λb e=>by cases e;exact hl)).grown af.2 (aL hb.size (show E.drew.heap.size<=V1.heap.size from P.2.size)) (λb e=>by cases e;exact hl)⟩);have bh:=hid aB;have bi:=hid aD;have bj:=hid aW;have bk:=hid aY;have bl:=hid (show(#[.int .i64 C,.int .i64 D,.int .i64 F,.int .i64 G]:Array Value).all (·.oneCell')=true by rw[<-cg];rfl);have bm:=hid (show(#[.int .i64 t,.int .i64 r,.int .i64 l,.int .i64 n]:Array Value).all (·.oneCell')=true by rw[<-cg];rfl);clear P af aB aD aW aY;refine aR (S:=λ_=>True) (by kernel_rfl) ?_
         try(change wpAnyH _ _ _ _ _ _ _ _ (World.drew _))
         refine tk 0 (.slice (some ⟨g,0,none⟩) (j+1) H) (trivial) ?_;go_simp;refine tk 1 (.int .i64 ((q:Int)+1)) (trivial) ?_;go_simp;refine tk 2 (.slice (some ⟨g,0,none⟩) (j+1) H) (trivial) ?_;go_simp;refine tk 3 (.int .i64 ((q:Int)+1)) (trivial) ?_;go_simp;refine tk 4 (.int .i64 (q:Int)) (trivial) ?_;go_simp;refine tk 5 (.slice (some ⟨g,0,none⟩) (j+1) H) (trivial) ?_;go_simp;refine tk 6 (.int .i64 ((q:Int)+1)) (trivial) ?_;go_simp;refine tk 7 (.int .i64 (q:Int)) (trivial) ?_;go_simp;refine tk 8 (.pointer (some ⟨g,q*4,none⟩)) (trivial) ?_;go_simp;refine tk 10 (.slice (some ⟨g,0,none⟩) (j+1) H) (trivial) ?_;go_simp;refine tk 11 (.int .i64 ((q:Int)+1)) (trivial) ?_;go_simp;refine tk 12 (.pointer (some ⟨g,(q+1)*4,none⟩)) (trivial) ?_;go_simp;refine dp (rs:=[9,13]) (by kernel_rfl) (by simp) ?_;refine aX rfl (λK B=> ?_) (aX rfl (λK B=> ?_) cX)
         focus
          refine bA rfl _ _ rfl g (q*4) rfl [.int .i64 C,.int .i64 D,.int .i64 F,.int .i64 G] _ (show E.drew.rangeAt _ _ _ from az.out) iI rfl (by kernel_rfl) ?_;refine B.out _ _ (trivial) (λ_=> ?_);clear B K;refine rd1 13 λK B=> ?_;refine bA rfl _ _ rfl g ((q+1)*4) rfl [.int .i64 t,.int .i64 r,.int .i64 l,.int .i64 n] _ (show E.drew.rangeAt _ _ _ from aA.out) iI rfl (by kernel_rfl) ?_;refine B.out _ _ (trivial) (λ_=> ?_);clear B K
         rotate_left
         focus
          refine bA rfl _ _ rfl g ((q+1)*4) rfl [.int .i64 t,.int .i64 r,.int .i64 l,.int .i64 n] _ (show E.drew.rangeAt _ _ _ from aA.out) iI rfl (by kernel_rfl) ?_;refine B.out _ _ (trivial) (λ_=> ?_);clear B K;refine rd1 9 λK B=> ?_;refine bA rfl _ _ rfl g (q*4) rfl [.int .i64 C,.int .i64 D,.int .i64 F,.int .i64 G] _ (show E.drew.rangeAt _ _ _ from az.out) iI rfl (by kernel_rfl) ?_;refine B.out _ _ (trivial) (λ_=> ?_);clear B K
         all_goals
          refine tk 14 (.pointer (some ⟨g,(q+1)*4,none⟩)) (trivial) ?_;go_simp;refine rd1 15 λK B=> ?_;refine cy rfl _ _ _ rfl g ((q+1)*4) #[.int .i64 C,.int .i64 D,.int .i64 F,.int .i64 G] (by rfl) (by rfl) bj.out (by kernel_rfl) bl.out ?_;rw[<-bh.out];refine B.out _ _ (trivial) (λ_=> ?_);clear B K;refine tk 16 (.pointer (some ⟨g,q*4,none⟩)) (trivial) ?_;go_simp;refine rd1 17 λK B=> ?_;refine cy rfl _ _ _ rfl g (q*4) #[.int .i64 t,.int .i64 r,.int .i64 l,.int .i64 n] (by rfl) (by rfl) bk.out (by kernel_rfl) bm.out ?_;rw[<-bi.out];refine B.out _ _ (trivial) (λ_=> ?_);clear B K;refine be (by kernel_rfl) ?_ _;go_simp;go_wp2;go_roundw
          case rel=>exact⟨q,by go_num,by omega,a2,hid (by rw[<-bd.out];exact bf.out),hid (bg.out.2 a3.out (ab.out.lt g rfl).1)⟩
          case measure=>(simp[RowKit.intOf];try omega)
       ·obtain rfl:q=0:=by omega
        go_upto_region 13 with fail;refine rqb ?_
        repeat(any_goals(first|go_big_quiet_step (fail)|quiet_step (fail)))
        refine qz λE s=> ?_;have av:=hid (show jH (L.take (k+1))=slid M (⟨⟨t,r⟩,⟨l,n⟩⟩:Hd) 0 by rw[ac.out];unfold insB;rw[<-ao.out];rfl);have Y:=hid (show j+1=(slid M (⟨⟨t,r⟩,⟨l,n⟩⟩:Hd) 0).length by rw[eO,<-u.out]);have aw:=kO N s;have ax:=bT ap s;go_wp2;go_roundw
        case rel=>exact⟨k+1,some ⟨g,0,none⟩,H,j+1,_,by omega,by go_num,rfl,by omega,Y,hid av.out.symm,aw,ax⟩
        case measure=>(simp[RowKit.intOf];omega)
  ·obtain rfl:k=L.length:=by omega
   have i2:¬(L.length:Int)<(L.length:Int):=by omega
   have aZ:=hid (show M=jH L by have h9:=HM.out;rw[aK] at h9;exact h9);go_wp2;go_ret;refine⟨A',c',by rw[<-aZ.out,<-u.out];rfl,?_,ah.out⟩;rw[<-aZ.out,<-u.out];exact HO.out
def stepT (out:List Told) (x:Told):List Told:=if out.any (λy=>y.a.eqb x.a)=true then out else insB (λy=>x.a.lt y.a) fE out x
def jG (l:List Told):List Told:=l.foldl stepT []
theorem stepT_len (out:List Told) (x:Told):(stepT out x).length<=out.length+1:=by
 unfold stepT;split
 ·omega
 ·rw[j0];exact aa _
theorem sortT_len:∀(l:List Told) (out:List Told),(l.foldl stepT out).length<=out.length+l.length
 | [],out=>aa _
 |x::l,out=>by
  have h1:=sortT_len l (stepT out x)
  have h2:=stepT_len out x
  rw[dU,bG];omega
theorem getD_mapF {α β:Type} (f:α->β) (L:List α) (k:Nat) (z:α):(L.map f).getD k (f z)=f (L.getD k z):=by
 rw[ae,ae,cT];cases L[k]? <;>rfl
theorem sortedt_any (L:List Told) (A A2:Option Addr) (c c2:Nat) (S S2:Nat->Prop) (w:World) (hl:L.length<=100000) (hR:RowF w S A 3 idL Gid.zero (L.map (·.a))) (hR2:RowF w S2 A2 8 plcL plc0 (L.map (·.p))):
  Calls Tryz.prog 167 #[.slice A L.length c,.slice A2 L.length c2] w λe w'=>∃A' c',e= .returned (.slice A' (jG L).length c')∧w'.ownsRow w.heap.size 228 11 (.slice A' (jG L).length c') (jG L).length ((jG L).flatMap toldL)∧Below w.heap.size w w':=by
 obtain⟨i0,hi,bt,bu,av⟩:=bD info_told;have HR:=hid hR;have bw:=hid hR2;clear hR hR2;go_enter Tryz.func167,Tryz.ntmps167;go_upto_region 3 with fail;go_loopw [5,6] (λo i wr=>∃(k:Nat) (A':Option Addr) (c' m:Nat) (M:List Told),k<=L.length∧i= .int .i64 k∧o= .slice A' m c'∧m<=k∧Hid (m=M.length)∧Hid (M=jG (L.take k))∧Hid (wr.ownsRow w.heap.size 228 11 (.slice A' m c') m (M.flatMap toldL))∧Hid (Below w.heap.size w wr)) (λo i _=>L.length-(RowKit.intOf i).toNat)
 case atStart=>exact⟨0,none,0,0,[],aq _,rfl,rfl,aa _,hid rfl,hid rfl,hid (aF _ _ _ _),hid (ag _ _)⟩
 case round=>
  obtain⟨k,A',c',m,M,hk,rfl,rfl,bQ,O,HM,HO,aH⟩:=hrel;by_cases aM:k<L.length
  ·have i1:(0:Int)<=(k:Int):=by omega
   have i2:(k:Int)<(L.length:Int):=by omega
   obtain⟨rb,ro,rfl,-,a7,ad⟩:=HR.out.range (λ_=>rfl) (k:=k) (by rw[aQ];exact aM);obtain⟨am,an,rfl,-,aN,ac⟩:=bw.out.range (λ_=>rfl) (k:=k) (by rw[aQ];exact aM);rw[show(L.map (·.a)).getD k Gid.zero=(L.getD k fE).a from getD_mapF (·.a) L k fE] at ad;rw[show(L.map (·.p)).getD k plc0=(L.getD k fE).p from getD_mapF (·.p) L k fE] at ac;have a8:jG (L.take (k+1))=stepT M (L.getD k fE):=by rw[HM.out];exact eL _ _ aM fE
   generalize L.getD k fE=p at *;obtain⟨⟨⟨t,r⟩,n⟩,⟨⟨⟨l,s⟩,B⟩,⟨⟨C,D⟩,E⟩,F,G⟩⟩:=p;have I:=hid (λW (hB:Below w.heap.size w W)=>show W.rangeAt rb (ro+k*3) [.int .i64 t,.int .i64 r,.int .i64 n]∧W.rangeAt am (an+k*8) [.int .i64 l,.int .i64 s,.int .i64 B,.int .i64 C,.int .i64 D,.int .i64 E,.string F,.bool G] from⟨cd ad a7 hB,cd ac aN hB⟩);have a9:=hid a8;have bx:=aH.out.size;clear ad a7 a8 ac aN;generalize wr=w0 at *;go_upto_region 7 with fail;go_loopw [7,8] (λh i wr=>∃(j:Nat) (b:Bool),j<=m∧i= .int .i64 j∧h= .bool b∧Hid (b=(M.take j).any (λy:Told=>y.a.eqb ⟨⟨t,r⟩,n⟩))∧Hid (Below w0.heap.size w0 wr)) (λh i _=>m-(RowKit.intOf i).toNat)
   case atStart=>exact⟨0,false,aq _,rfl,rfl,hid rfl,hid (ag _ _)⟩
   case round=>
    obtain⟨j,b,hj,rfl,rfl,HB,ao⟩:=hrel;have H:=hid (aH.out.trans (ao.out.mono bx));have ap:=kO HO ao.out;by_cases ba:j<m
    ·have j1:(0:Int)<=(j:Int):=by omega
     have j2:(j:Int)<(m:Int):=by omega
     obtain⟨g2,rfl,-,bR,ax⟩:=cz (f:=toldL) (λ_=>rfl) O.out ap.out ba fE;have bb:(M.take (j+1)).any (λy:Told=>y.a.eqb ⟨⟨t,r⟩,n⟩)=((M.take j).any (λy:Told=>y.a.eqb ⟨⟨t,r⟩,n⟩) || (λy:Told=>y.a.eqb ⟨⟨t,r⟩,n⟩) (M.getD j fE)):=by rw[dF (by rw[<-O.out];exact ba) fE,jp];simp
     generalize M.getD j fE=y at *;obtain⟨⟨⟨t2,r2⟩,n2⟩,⟨⟨⟨P,Q⟩,R⟩,⟨⟨T,U⟩,X⟩,Y,Z⟩⟩:=y;obtain⟨b2,ae⟩:∃b,b=(λy:Told=>y.a.eqb ⟨⟨t,r⟩,n⟩) ⟨⟨⟨t2,r2⟩,n2⟩,⟨⟨⟨P,Q⟩,R⟩,⟨⟨T,U⟩,X⟩,Y,Z⟩⟩:=⟨_,rfl⟩;have q1:=eJ t2 r2 n2 t r n b2 ae.symm;have bc:=hid (show(M.take (j+1)).any (λy:Told=>y.a.eqb ⟨⟨t,r⟩,n⟩)=(b || b2) by rw[bb,HB.out,ae]);have y0:=aj (w:=wr) (a:=⟨g2,j*11,none⟩) (v:= .int .i64 t2) (ax 0 _ rfl);have y1:=aj (w:=wr) (a:=⟨g2,j*11+1,none⟩) (v:= .int .i64 r2) (ax 1 _ rfl);have y2:=aj (w:=wr) (a:=⟨g2,j*11+2,none⟩) (v:= .int .i64 n2) (ax 2 _ rfl);have x0:=aj (w:=wr) (a:=⟨rb,ro+k*3,none⟩) (v:= .int .i64 t) ((I.out wr H.out).1 0 _ rfl);have x1:=aj (w:=wr) (a:=⟨rb,ro+k*3+1,none⟩) (v:= .int .i64 r) ((I.out wr H.out).1 1 _ rfl);have x2:=aj (w:=wr) (a:=⟨rb,ro+k*3+2,none⟩) (v:= .int .i64 n) ((I.out wr H.out).1 2 _ rfl);clear ax ae bb;cases b with
     |true=>
      go_upto_region 9 with fail;refine rqb ?_
      repeat(any_goals(first|go_big_quiet_step (fail)|quiet_step (fail)))
      refine qz λwq J=> ?_;go_wp2;go_roundw
      case rel=>exact⟨j+1,true,by omega,by go_num,rfl,hid (by rw[bc.out];rfl),bT ao J⟩
      case measure=>(simp[RowKit.intOf];omega)
     |false=>
      go_upto_region 9 with fail;refine rqb ?_
      repeat(any_goals(first|go_big_quiet_step (fail)|quiet_step (fail)))
      refine qz λwq J=> ?_;go_wp2;go_roundw
      case rel=>exact⟨j+1,b2,by omega,by go_num,rfl,hid (by rw[bc.out];rfl),bT ao J⟩
      case measure=>(simp[RowKit.intOf];omega)
    ·obtain rfl:j=m:=by omega
     have j2:¬(j:Int)<(j:Int):=by omega
     have al:b=M.any (λy:Told=>y.a.eqb ⟨⟨t,r⟩,n⟩):=by rw[HB.out,O.out,aK]
     cases b with
     |true=>
      have az:=hid (show jG (L.take (k+1))=M by rw[a9.out];unfold stepT;rw[aJ al.symm]);clear al;go_wp2;go_roundw
      case rel=>exact⟨k+1,A',c',j,M,by omega,by go_num,rfl,by omega,O,hid az.out.symm,ap,H⟩
      case measure=>(simp[RowKit.intOf];omega)
     | false=>
      have az:=hid (show jG (L.take (k+1))=insB (λy:Told=>Gid.lt ⟨⟨t,r⟩,n⟩ y.a) fE M ⟨⟨⟨t,r⟩,n⟩,⟨⟨⟨l,s⟩,B⟩,⟨⟨C,D⟩,E⟩,F,G⟩⟩ by rw[a9.out];unfold stepT;rw[aC (by rw[<-al];decide)]);clear al;have bp:=H.out.size;go_upto_region 11 with fail;refine aR (S:=λw'=>w'.rangeAt rb (ro+k*3) [.int .i64 t,.int .i64 r,.int .i64 n]∧w'.rangeAt am (an+k*8) [.int .i64 l,.int .i64 s,.int .i64 B,.int .i64 C,.int .i64 D,.int .i64 E,.string F,.bool G]) (by kernel_rfl) ?_
      try(change wpAnyH _ _ _ _ _ _ _ _ (World.drew _))
      refine tk 0 (.slice A' j c') ((show wr.drew.rangeAt _ _ _∧wr.drew.rangeAt _ _ _ from I.out wr H.out)) ?_;go_simp;refine tk 1 (.slice (some ⟨rb,ro,none⟩) L.length c) ((show wr.drew.rangeAt _ _ _∧wr.drew.rangeAt _ _ _ from I.out wr H.out)) ?_;go_simp;refine tk 2 (.int .i64 (k:Int)) ((show wr.drew.rangeAt _ _ _∧wr.drew.rangeAt _ _ _ from I.out wr H.out)) ?_;go_simp;refine tk 3 (.pointer (some ⟨rb,ro+k*3,none⟩)) ((show wr.drew.rangeAt _ _ _∧wr.drew.rangeAt _ _ _ from I.out wr H.out)) ?_;go_simp;refine tk2 4 (.agg #[t,r,n]) rfl (aT (by rfl) _ _ rfl rb (ro+k*3) rfl [.int .i64 t,.int .i64 r,.int .i64 n] _ (λW' aO=>bv (pre:=[]) (mid:=[.int .i64 t,.int .i64 r,.int .i64 n]) (post:=[]) (aO.1)) aw rfl (by kernel_rfl)) ((show wr.drew.rangeAt _ _ _∧wr.drew.rangeAt _ _ _ from I.out wr H.out)) ?_;go_simp;refine tk 5 (.slice (some ⟨am,an,none⟩) L.length c2) ((show wr.drew.rangeAt _ _ _∧wr.drew.rangeAt _ _ _ from I.out wr H.out)) ?_;go_simp;refine tk 6 (.int .i64 (k:Int)) ((show wr.drew.rangeAt _ _ _∧wr.drew.rangeAt _ _ _ from I.out wr H.out)) ?_;go_simp;refine tk 7 (.pointer (some ⟨am,an+k*8,none⟩)) ((show wr.drew.rangeAt _ _ _∧wr.drew.rangeAt _ _ _ from I.out wr H.out)) ?_;go_simp
      refine tk2 8 (.agg #[l,s,B,C,D,E,F,G]) rfl (aT (by rfl) _ _ rfl am (an+k*8) rfl [.int .i64 l,.int .i64 s,.int .i64 B,.int .i64 C,.int .i64 D,.int .i64 E,.string F,.bool G] _ (λW' aO=>bv (pre:=[]) (mid:=[.int .i64 l,.int .i64 s,.int .i64 B,.int .i64 C,.int .i64 D,.int .i64 E,.string F,.bool G]) (post:=[]) (aO.2)) ca rfl (by kernel_rfl)) ((show wr.drew.rangeAt _ _ _∧wr.drew.rangeAt _ _ _ from I.out wr H.out)) ?_;go_simp;refine tk 9 (.agg #[t,r,n,l,s,B,C,D,E,F,G]) ((show wr.drew.rangeAt _ _ _∧wr.drew.rangeAt _ _ _ from I.out wr H.out)) ?_;go_simp;have aA:(wr.alloc (.cells #[t,r,n,l,s,B,C,D,E,F,G] 228)).drew.heap.size=wr.heap.size+1:=by show(wr.alloc _).heap.size=_;simp
      have bd:=hid (ap.out.alloc (.cells #[t,r,n,l,s,B,C,D,E,F,G] 228));have bf:=hid (λ(j:Nat) (y:Value) (h:([.int .i64 t,.int .i64 r,.int .i64 n,.int .i64 l,.int .i64 s,.int .i64 B,.int .i64 C,.int .i64 D,.int .i64 E,.string F,.bool G]:List Value)[j]? =some y)=>dH wr [.int .i64 t,.int .i64 r,.int .i64 n,.int .i64 l,.int .i64 s,.int .i64 B,.int .i64 C,.int .i64 D,.int .i64 E,.string F,.bool G] 228 j y h);have bg:=hid (show ∀u∈([.int .i64 t,.int .i64 r,.int .i64 n,.int .i64 l,.int .i64 s,.int .i64 B,.int .i64 C,.int .i64 D,.int .i64 E,.string F,.bool G]:List Value),u.oneCell'=true from fw (c:=#[.int .i64 t,.int .i64 r,.int .i64 n,.int .i64 l,.int .i64 s,.int .i64 B,.int .i64 C,.int .i64 D,.int .i64 E,.string F,.bool G]) rfl);have aP:=hid ((H.out.alloc H.out.size (.cells #[t,r,n,l,s,B,C,D,E,F,G] 228)).drew);refine rd1 10 λK N=> ?_;go_simp;refine N.out _ _ (I.out _ aP.out) (λ_=> ?_);clear N K;refine rd1 11 λK N=> ?_
      refine dW _ (by rfl) _ _ 225 (by rfl) w.heap.size 228 i0 (.agg #[(0:Int),(0:Int),(0:Int),(0:Int),(0:Int),(0:Int),(0:Int),(0:Int),(0:Int),.string ⟨#[]⟩,false]) 11 96 Tryz.underlying225 hi bt bu av rfl (by decide) (.slice A' j c') j _ (by rfl) (by exact bd.out) ⟨wr.heap.size,0,none⟩ 1 1 [.int .i64 t,.int .i64 r,.int .i64 n,.int .i64 l,.int .i64 s,.int .i64 B,.int .i64 C,.int .i64 D,.int .i64 E,.string F,.bool G] (by rfl) (by rfl) (by exact bf.out) bg.out (by decide) (by unfold maxLen;omega) (by omega) (by rw[aA];have:=H.out.size;omega) (wr.heap.size+1) aA ?_;intro g ab w5 aB aD bB bq;have bh:=hid aB;have aS:=hid (aP.out.grown aD (by rw[aA];have:=H.out.size;omega) (λb hb=>(ap.out.lt b hb).1));clear aB aD bB bq;refine N.out _ _ (I.out _ aS.out) (λ_=> ?_);clear N K;refine tk 12 (.slice (some ⟨g,0,none⟩) (j+1) ab) (I.out _ aS.out) ?_;go_simp;refine be (by kernel_rfl) ?_ _;go_simp;go_wp2;clear ap ao H HB bp aP bd bf aA bg;have bP:j<=100000:=by omega
      have bi:slid M (⟨⟨⟨t,r⟩,n⟩,⟨⟨⟨l,s⟩,B⟩,⟨⟨C,D⟩,E⟩,F,G⟩⟩:Told) j=M++[⟨⟨⟨t,r⟩,n⟩,⟨⟨⟨l,s⟩,B⟩,⟨⟨C,D⟩,E⟩,F,G⟩⟩]:=by rw[O.out];exact ju _ _
      have bC:=hid (show w5.ownsRow w.heap.size 228 11 (.slice (some ⟨g,0,none⟩) (j+1) ab) (j+1) ((slid M (⟨⟨⟨t,r⟩,n⟩,⟨⟨⟨l,s⟩,B⟩,⟨⟨C,D⟩,E⟩,F,G⟩⟩:Told) j).flatMap toldL) by rw[bi,aI];exact bh.out);clear bi bh;generalize w5=w6 at *;go_loopw [9] (λi wx=>∃(q:Nat),i= .int .i64 q∧q<=j∧Hid (dY (λy:Told=>Gid.lt ⟨⟨t,r⟩,n⟩ y.a) fE M q=dY (λy:Told=>Gid.lt ⟨⟨t,r⟩,n⟩ y.a) fE M M.length)∧Hid (wx.ownsRow w.heap.size 228 11 (.slice (some ⟨g,0,none⟩) (j+1) ab) (j+1) ((slid M (⟨⟨⟨t,r⟩,n⟩,⟨⟨⟨l,s⟩,B⟩,⟨⟨C,D⟩,E⟩,F,G⟩⟩:Told) q).flatMap toldL))∧Hid (Below w.heap.size w wx)) (λi _=>(RowKit.intOf i).toNat)
      case atStart=>exact⟨j,rfl,aa _,hid (by rw[O.out]),bC,aS⟩
      case round=>
       obtain⟨q,rfl,hq,aU,ah,aV⟩:=hrel;by_cases h0:0<q
       ·obtain⟨q,rfl⟩:∃p,q=p+1:=⟨q-1,by omega⟩;have aW:q+1<=M.length:=by rw[<-O.out];exact hq
        have aE:j+1=(slid M (⟨⟨⟨t,r⟩,n⟩,⟨⟨⟨l,s⟩,B⟩,⟨⟨C,D⟩,E⟩,F,G⟩⟩:Told) (q+1)).length:=by rw[eO,<-O.out]
        obtain⟨g3,e3,-,bj,af⟩:=cz (f:=toldL) (λ_=>rfl) aE ah.out (k:=q) (by omega) fE;cases e3;obtain⟨g4,e4,-,-,ai⟩:=cz (f:=toldL) (λ_=>rfl) aE ah.out (k:=q+1) (by omega) fE;cases e4;rw[js aW] at af;rw[ku aW] at ai;have aY:=ip (L:=M) (x:=(⟨⟨⟨t,r⟩,n⟩,⟨⟨⟨l,s⟩,B⟩,⟨⟨C,D⟩,E⟩,F,G⟩⟩:Told)) (z:=fE) aW;obtain⟨y,hy⟩:∃y,y=M.getD q fE:=⟨_,rfl⟩;rw[<-hy] at af aY;obtain⟨b2,ae⟩:∃b,b=(λy:Told=>Gid.lt ⟨⟨t,r⟩,n⟩ y.a) y:=⟨_,rfl⟩;have bk:=hid (show(λy:Told=>Gid.lt ⟨⟨t,r⟩,n⟩ y.a) (M.getD q fE)=b2 by rw[<-hy,ae]);clear hy;obtain⟨⟨⟨t2,r2⟩,n2⟩,⟨⟨⟨P,Q⟩,R⟩,⟨⟨T,U⟩,X⟩,Y,Z⟩⟩:=y;have bE:=hid (show wr.rangeAt g (q*11) [.int .i64 t2,.int .i64 r2,.int .i64 n2,.int .i64 P,.int .i64 Q,.int .i64 R,.int .i64 T,.int .i64 U,.int .i64 X,.string Y,.bool Z] from af);have bF:=hid (show wr.rangeAt g ((q+1)*11) [.int .i64 t,.int .i64 r,.int .i64 n,.int .i64 l,.int .i64 s,.int .i64 B,.int .i64 C,.int .i64 D,.int .i64 E,.string F,.bool G] from ai);have y0:=aj (w:=wr) (a:=⟨g,q*11,none⟩) (v:= .int .i64 t2) (af 0 _ rfl);have y1:=aj (w:=wr) (a:=⟨g,q*11+1,none⟩) (v:= .int .i64 r2) (af 1 _ rfl);have y2:=aj (w:=wr) (a:=⟨g,q*11+2,none⟩) (v:= .int .i64 n2) (af 2 _ rfl);have x0:=aj (w:=wr) (a:=⟨g,(q+1)*11,none⟩) (v:= .int .i64 t) (ai 0 _ rfl);have x1:=aj (w:=wr) (a:=⟨g,(q+1)*11+1,none⟩) (v:= .int .i64 r) (ai 1 _ rfl)
        have x2:=aj (w:=wr) (a:=⟨g,(q+1)*11+2,none⟩) (v:= .int .i64 n) (ai 2 _ rfl);have bG:=hid aY;have k1:(0:Int)<(q:Int)+1:=by omega
        have k2:(0:Int)<=(q:Int):=by omega
        have k3:(q:Int)<(j:Int)+1:=by omega
        have k4:(q:Int)+1<(j:Int)+1:=by omega
        have k5:(0:Int)<=(q:Int)+1:=by omega
        have k6:IntKind.i64.wrap (q:Int)=(q:Int):=by rw[bz];omega
        have ar:=hid aE;have bl:=λW=>gx t r n t2 r2 n2 W;obtain⟨zc,aZ⟩:∃z,z=rcmpD ⟨⟨t,r⟩,n⟩ ⟨⟨t2,r2⟩,n2⟩:=⟨_,rfl⟩;rw[<-aZ] at bl;have av:decide (0<=zc)= !b2:=by rw[aZ,jW,ae]
        have bS:decide (zc<0)=b2:=by cases b2<;>simp at av ⊢ <;>omega
        clear aZ av;have cA:=λd os=>ay (bl (grow (redrawn wr d) os));clear af ai ae aY aE;cases b2 with
        |false=>
         go_upto_region 13 with fail;refine rqb ?_
         repeat(any_goals(first|go_big_quiet_step (with_reducible exact cA _ _)|quiet_step (with_reducible exact cA _ _)))
         refine qz λwq J=> ?_;have a0:=hid (show jG (L.take (k+1))=slid M (⟨⟨⟨t,r⟩,n⟩,⟨⟨⟨l,s⟩,B⟩,⟨⟨C,D⟩,E⟩,F,G⟩⟩:Told) (q+1) by rw[az.out];unfold insB;rw[<-aU.out,ge (.inr ⟨q,rfl,bk.out⟩)]);have a1:=kO ah J;have a2:=bT aV J;go_wp2;go_roundw
         case rel=>exact⟨k+1,some ⟨g,0,none⟩,ab,j+1,_,by omega,by go_num,rfl,by omega,ar,hid a0.out.symm,a1,a2⟩
         case measure=>(simp[RowKit.intOf];omega)
        | true=>
         go_upto_region 13 with fail;refine rqb ?_
         repeat(any_goals(first|go_big_quiet_step (with_reducible exact cA _ _)|quiet_step (with_reducible exact cA _ _)))
         refine qz λwq J=> ?_;have br:=hid (show dY (λy:Told=>Gid.lt ⟨⟨t,r⟩,n⟩ y.a) fE M q=dY (λy:Told=>Gid.lt ⟨⟨t,r⟩,n⟩ y.a) fE M M.length by rw[<-aU.out,iF bk.out]);have a3:=hid (cd bE.out bj J);have a4:=hid (cd bF.out bj J);have au:=kO ah J;have bs:=bT aV J;clear y0 y1 y2 x0 x1 x2 cA ah J;go_upto_region 15 with fail;obtain⟨V1,a5⟩:∃V,V=wq.drew.setCells g ((q+1)*11) (#[.int .i64 t2,.int .i64 r2,.int .i64 n2,.int .i64 P,.int .i64 Q,.int .i64 R,.int .i64 T,.int .i64 U,.int .i64 X,.string Y,.bool Z]:Array Value).toList:=⟨_,rfl⟩;have ak:V1.ownsRow w.heap.size 228 11 (.slice (some ⟨g,0,none⟩) (j+1) ab) (j+1) (((slid M (⟨⟨⟨t,r⟩,n⟩,⟨⟨⟨l,s⟩,B⟩,⟨⟨C,D⟩,E⟩,F,G⟩⟩:Told) (q+1)).set (q+1) (⟨⟨⟨t2,r2⟩,n2⟩,⟨⟨⟨P,Q⟩,R⟩,⟨⟨T,U⟩,X⟩,Y,Z⟩⟩:Told)).flatMap toldL)∧wq.drew.grownBy V1 (some g):=by rw[a5];exact eP (f:=toldL) (λ_=>rfl) (by decide) ar.out (show wq.drew.ownsRow _ _ _ _ _ _ from au.out) (by omega) (⟨⟨⟨t2,r2⟩,n2⟩,⟨⟨⟨P,Q⟩,R⟩,⟨⟨T,U⟩,X⟩,Y,Z⟩⟩:Told)
         obtain⟨V2,a6⟩:∃V,V=V1.setCells g (q*11) (#[.int .i64 t,.int .i64 r,.int .i64 n,.int .i64 l,.int .i64 s,.int .i64 B,.int .i64 C,.int .i64 D,.int .i64 E,.string F,.bool G]:Array Value).toList:=⟨_,rfl⟩;have aG:V2.ownsRow w.heap.size 228 11 (.slice (some ⟨g,0,none⟩) (j+1) ab) (j+1) ((((slid M (⟨⟨⟨t,r⟩,n⟩,⟨⟨⟨l,s⟩,B⟩,⟨⟨C,D⟩,E⟩,F,G⟩⟩:Told) (q+1)).set (q+1) (⟨⟨⟨t2,r2⟩,n2⟩,⟨⟨⟨P,Q⟩,R⟩,⟨⟨T,U⟩,X⟩,Y,Z⟩⟩:Told)).set q (⟨⟨⟨t,r⟩,n⟩,⟨⟨⟨l,s⟩,B⟩,⟨⟨C,D⟩,E⟩,F,G⟩⟩:Told)).flatMap toldL)∧V1.grownBy V2 (some g):=by rw[a6];exact eP (f:=toldL) (λ_=>rfl) (by decide) (by rw[cM];exact ar.out) ak.1 (by omega) (⟨⟨⟨t,r⟩,n⟩,⟨⟨⟨l,s⟩,B⟩,⟨⟨C,D⟩,E⟩,F,G⟩⟩:Told)
         obtain⟨g5,e5,bm⟩:=ey (show wq.drew.ownsRow _ _ _ _ _ _ from au.out) (k:=q+1) (by omega);cases e5;obtain⟨g6,e6,bn⟩:=ey ak.1 (k:=q) (by omega);cases e6;have bH:=hid aG.1;have bI:=hid (show wq.heap.size<=V2.heap.size∧(Below w.heap.size w wq->w.heap.size<=g->Below w.heap.size w V2) from⟨aL (show wq.drew.heap.size<=V1.heap.size from ak.2.size) aG.2.size,λhb hl=>(hb.drew.grown ak.2 (by exact hb.size) (λb e=>by cases e;exact hl)).grown aG.2 (aL hb.size (show wq.drew.heap.size<=V1.heap.size from ak.2.size)) (λb e=>by cases e;exact hl)⟩);have bJ:=hid a5;have bK:=hid a6;have bL:=hid bm;have bM:=hid bn;have bN:=hid (show(#[.int .i64 t2,.int .i64 r2,.int .i64 n2,.int .i64 P,.int .i64 Q,.int .i64 R,.int .i64 T,.int .i64 U,.int .i64 X,.string Y,.bool Z]:Array Value).all (·.oneCell')=true by rw[<-cg];rfl);have bO:=hid (show(#[.int .i64 t,.int .i64 r,.int .i64 n,.int .i64 l,.int .i64 s,.int .i64 B,.int .i64 C,.int .i64 D,.int .i64 E,.string F,.bool G]:Array Value).all (·.oneCell')=true by rw[<-cg];rfl);clear ak aG a5 a6 bm bn;refine aR (S:=λ_=>True) (by kernel_rfl) ?_
         try(change wpAnyH _ _ _ _ _ _ _ _ (World.drew _))
         refine tk 0 (.slice (some ⟨g,0,none⟩) (j+1) ab) (trivial) ?_;go_simp;refine tk 1 (.int .i64 ((q:Int)+1)) (trivial) ?_;go_simp;refine tk 2 (.slice (some ⟨g,0,none⟩) (j+1) ab) (trivial) ?_;go_simp;refine tk 3 (.int .i64 ((q:Int)+1)) (trivial) ?_;go_simp;refine tk 4 (.int .i64 (q:Int)) (trivial) ?_;go_simp;refine tk 5 (.slice (some ⟨g,0,none⟩) (j+1) ab) (trivial) ?_;go_simp;refine tk 6 (.int .i64 ((q:Int)+1)) (trivial) ?_;go_simp;refine tk 7 (.int .i64 (q:Int)) (trivial) ?_;go_simp;refine tk 8 (.pointer (some ⟨g,q*11,none⟩)) (trivial) ?_;go_simp;refine tk 10 (.slice (some ⟨g,0,none⟩) (j+1) ab) (trivial) ?_;go_simp;refine tk 11 (.int .i64 ((q:Int)+1)) (trivial) ?_;go_simp;refine tk 12 (.pointer (some ⟨g,(q+1)*11,none⟩)) (trivial) ?_;go_simp;refine dp (rs:=[9,13]) (by kernel_rfl) (by simp) ?_;refine aX rfl (λK N=> ?_) (aX rfl (λK N=> ?_) cX)
         focus
          refine bA rfl _ _ rfl g (q*11) rfl [.int .i64 t2,.int .i64 r2,.int .i64 n2,.int .i64 P,.int .i64 Q,.int .i64 R,.int .i64 T,.int .i64 U,.int .i64 X,.string Y,.bool Z] _ (show wq.drew.rangeAt _ _ _ from a3.out) Tryz.underlying228 rfl (by kernel_rfl) ?_;refine N.out _ _ (trivial) (λ_=> ?_);clear N K;refine rd1 13 λK N=> ?_;refine bA rfl _ _ rfl g ((q+1)*11) rfl [.int .i64 t,.int .i64 r,.int .i64 n,.int .i64 l,.int .i64 s,.int .i64 B,.int .i64 C,.int .i64 D,.int .i64 E,.string F,.bool G] _ (show wq.drew.rangeAt _ _ _ from a4.out) Tryz.underlying228 rfl (by kernel_rfl) ?_;refine N.out _ _ (trivial) (λ_=> ?_);clear N K
         rotate_left
         focus
          refine bA rfl _ _ rfl g ((q+1)*11) rfl [.int .i64 t,.int .i64 r,.int .i64 n,.int .i64 l,.int .i64 s,.int .i64 B,.int .i64 C,.int .i64 D,.int .i64 E,.string F,.bool G] _ (show wq.drew.rangeAt _ _ _ from a4.out) Tryz.underlying228 rfl (by kernel_rfl) ?_;refine N.out _ _ (trivial) (λ_=> ?_);clear N K;refine rd1 9 λK N=> ?_;refine bA rfl _ _ rfl g (q*11) rfl [.int .i64 t2,.int .i64 r2,.int .i64 n2,.int .i64 P,.int .i64 Q,.int .i64 R,.int .i64 T,.int .i64 U,.int .i64 X,.string Y,.bool Z] _ (show wq.drew.rangeAt _ _ _ from a3.out) Tryz.underlying228 rfl (by kernel_rfl) ?_;refine N.out _ _ (trivial) (λ_=> ?_);clear N K
         all_goals
          refine tk 14 (.pointer (some ⟨g,(q+1)*11,none⟩)) (trivial) ?_;go_simp;refine rd1 15 λK N=> ?_;refine cy rfl _ _ _ rfl g ((q+1)*11) #[.int .i64 t2,.int .i64 r2,.int .i64 n2,.int .i64 P,.int .i64 Q,.int .i64 R,.int .i64 T,.int .i64 U,.int .i64 X,.string Y,.bool Z] (by rfl) (by rfl) bL.out (by kernel_rfl) bN.out ?_;rw[<-bJ.out];refine N.out _ _ (trivial) (λ_=> ?_);clear N K;refine tk 16 (.pointer (some ⟨g,q*11,none⟩)) (trivial) ?_;go_simp;refine rd1 17 λK N=> ?_;refine cy rfl _ _ _ rfl g (q*11) #[.int .i64 t,.int .i64 r,.int .i64 n,.int .i64 l,.int .i64 s,.int .i64 B,.int .i64 C,.int .i64 D,.int .i64 E,.string F,.bool G] (by rfl) (by rfl) bM.out (by kernel_rfl) bO.out ?_;rw[<-bK.out];refine N.out _ _ (trivial) (λ_=> ?_);clear N K;refine be (by kernel_rfl) ?_ _;go_simp;go_wp2;go_roundw
          case rel=>exact⟨q,by go_num,by omega,br,hid (by rw[<-bG.out];exact bH.out),hid (bI.out.2 bs.out (au.out.lt g rfl).1)⟩
          case measure=>(simp[RowKit.intOf];try omega)
       ·obtain rfl:q=0:=by omega
        go_upto_region 13 with fail;refine rqb ?_
        repeat(any_goals(first|go_big_quiet_step (fail)|quiet_step (fail)))
        refine qz λwq J=> ?_;have a0:=hid (show jG (L.take (k+1))=slid M (⟨⟨⟨t,r⟩,n⟩,⟨⟨⟨l,s⟩,B⟩,⟨⟨C,D⟩,E⟩,F,G⟩⟩:Told) 0 by rw[az.out];unfold insB;rw[<-aU.out];rfl);have ar:=hid (show j+1=(slid M (⟨⟨⟨t,r⟩,n⟩,⟨⟨⟨l,s⟩,B⟩,⟨⟨C,D⟩,E⟩,F,G⟩⟩:Told) 0).length by rw[eO,<-O.out]);have a1:=kO ah J;have a2:=bT aV J;go_wp2;go_roundw
        case rel=>exact⟨k+1,some ⟨g,0,none⟩,ab,j+1,_,by omega,by go_num,rfl,by omega,ar,hid a0.out.symm,a1,a2⟩
        case measure=>(simp[RowKit.intOf];omega)
  ·obtain rfl:k=L.length:=by omega
   have i2:¬(L.length:Int)<(L.length:Int):=by omega
   have bo:=hid (show M=jG L by have h9:=HM.out;rw[aK] at h9;exact h9);go_wp2;go_ret;refine⟨A',c',by rw[<-bo.out,<-O.out];rfl,?_,aH.out⟩;rw[<-bo.out,<-O.out];exact HO.out
end
end Go.Proofs.YtkhmicndehlneaaGreatDoor
