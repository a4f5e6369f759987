/- Part 18 of the walks and plain laws that this claim uses, joined. Conditions: as each theorem states. -/
import Derived.Test.YtkhmicndehlneaaGreatDoorYbq
namespace Go.Proofs.YtkhmicndehlneaaGreatDoor
set_option maxRecDepth 100000
set_option maxHeartbeats 16000000
set_option linter.unusedVariables false
section
open Go.RowKit Go.Lib Go.Sort
attribute [local go_sem ↓] Go.wp_at_zero Go.wp_at_succ
def stepL (G:List Dt) (out:List Gid) (d:Dt):List Gid:=if (G.any (λy=>y.eqb d) || out.any (λy=>y.eqb d.n))=true then out else insB (λy=>d.n.lt y) Gid.zero out d.n
def gW (G l:List Dt):List Gid:=l.foldl (stepL G) []
def stepO (G:List Dt) (x:Gid) (out:List Gst) (d:Dt):List Gst:=if (!(d.n.eqb x) || G.any (λy=>y.eqb d) || out.any (λy=>y.eqb d.b))=true then out else insB (λy=>d.b.lt y) Gst.zero out d.b
def ofL (G:List Dt) (x:Gid) (l:List Dt):List Gst:=l.foldl (stepO G x) []
theorem stepL_len (G:List Dt) (out:List Gid) (d:Dt):(stepL G out d).length<=out.length+1:=by
 unfold stepL;split
 ·omega
 ·rw[j0];exact aa _
theorem stepO_len (G:List Dt) (x:Gid) (out:List Gst) (d:Dt):(stepO G x out d).length<=out.length+1:=by
 unfold stepO;split
 ·omega
 ·rw[j0];exact aa _
theorem liveL_len (G:List Dt):∀(l:List Dt) (out:List Gid),(l.foldl (stepL G) out).length<=out.length+l.length
 | [],out=>aa _
 |d::l,out=>by
  have h1:=liveL_len G l (stepL G out d)
  have h2:=stepL_len G out d
  rw[dU,bG];omega
theorem ofL_len (G:List Dt) (x:Gid):∀(l:List Dt) (out:List Gst),(l.foldl (stepO G x) out).length<=out.length+l.length
 | [],out=>aa _
 |d::l,out=>by
  have h1:=ofL_len G x l (stepO G x out d)
  have h2:=stepO_len G x out d
  rw[dU,bG];omega
theorem live_any (L G:List Dt) (A A2:Option Addr) (c c2:Nat) (S S2:Nat->Prop) (w:World) (hl:L.length<=100000) (hl2:G.length<=100000) (hR:RowF w S A 5 dtL dt0 L) (hR2:RowF w S2 A2 5 dtL dt0 G):
  Calls Tryz.prog 113 #[.slice A L.length c,.slice A2 G.length c2] w λe w'=>∃A' c',e= .returned (.slice A' (gW G L).length c')∧w'.ownsRow w.heap.size 108 3 (.slice A' (gW G L).length c') (gW G L).length ((gW G L).flatMap idL)∧Below w.heap.size w w':=by
 obtain⟨i0,hi,bh,bi,ah⟩:=bD info_id;have HR:=hid hR;have bj:=hid hR2;clear hR hR2;go_enter Tryz.func113,Tryz.ntmps113;go_upto_region 3 with fail;go_loopw [5,6] (λo i wr=>∃(k:Nat) (A':Option Addr) (c' m:Nat) (M:List Gid),k<=L.length∧i= .int .i64 k∧o= .slice A' m c'∧m<=k∧Hid (m=M.length)∧Hid (M=gW G (L.take k))∧Hid (wr.ownsRow w.heap.size 108 3 (.slice A' m c') m (M.flatMap idL))∧Hid (Below w.heap.size w wr)) (λo i _=>L.length-(RowKit.intOf i).toNat)
 case atStart=>exact⟨0,none,0,0,[],aq _,rfl,rfl,aa _,hid rfl,hid rfl,hid (aF _ _ _ _),hid (ag _ _)⟩
 case round=>
  obtain⟨k,A',c',m,M,hk,rfl,rfl,bG,l,HM,HO,ai⟩:=hrel;by_cases aY:k<L.length
  ·have i1:(0:Int)<=(k:Int):=by omega
   have i2:(k:Int)<(L.length:Int):=by omega
   obtain⟨rb,ro,rfl,-,aZ,ab⟩:=HR.out.range (λ_=>rfl) aY;have a0:gW G (L.take (k+1))=stepL G M (L.getD k dt0):=by rw[HM.out];exact eL _ _ aY dt0
   generalize L.getD k dt0=p at *;obtain⟨⟨⟨t,r⟩,n⟩,⟨bt,br⟩⟩:=p;have a1:=hid (λW (hB:Below w.heap.size w W)=>show W.rangeAt rb (ro+k*5) [.int .i64 t,.int .i64 r,.int .i64 n,.int .i64 bt,.int .i64 br] from cd ab aZ hB);have ac:=hid a0;have bk:=ai.out.size;have bF:m<=100000:=by omega
   clear ab aZ a0;obtain⟨b1,au⟩:∃b,b=G.any (λy=>y.eqb ⟨⟨⟨t,r⟩,n⟩,⟨bt,br⟩⟩):=⟨_,rfl⟩;obtain⟨b3,av⟩:∃b,b=M.any (λy=>y.eqb ⟨⟨t,r⟩,n⟩):=⟨_,rfl⟩;have ak:=hid (λW (hB:Below w.heap.size w W)=>show Calls Tryz.prog 174 #[.slice A2 G.length c2,.agg #[t,r,n,bt,br]] W λe w'=>e= .returned (.bool b1)∧Below W.heap.size W w' from by rw[au];exact hasdot_any G A2 c2 ⟨⟨⟨t,r⟩,n⟩,⟨bt,br⟩⟩ S2 W (by omega) (bj.out.below hB))
   have ad:=hid (λW (hB:Below wr.heap.size wr W)=>show Calls Tryz.prog 173 #[.slice A' m c',.agg #[t,r,n]] W λe w'=>e= .returned (.bool b3)∧Below W.heap.size W w' from by
    have h9:=hasid_any M A' c' ⟨⟨t,r⟩,n⟩ _ W (by rw[<-l.out];omega) (ct (f:=idL) (z:=Gid.zero) (λ_=>rfl) l.out (HO.out.kept (dg (r:=none) hB) (cw _)))
    rw[<-l.out,<-av] at h9;exact h9)
   have ad:=hid (λW (hB:Below wr.heap.size wr W)=>ad.out W hB);have ac:=hid (show gW G (L.take (k+1))=if (b1 || b3)=true then M else insB (λy=>Gid.lt ⟨⟨t,r⟩,n⟩ y) Gid.zero M ⟨⟨t,r⟩,n⟩ by rw[ac.out,au,av];rfl);have a2:=hid (show wr.rangeAt rb (ro+k*5) [.int .i64 t,.int .i64 r,.int .i64 n] from bv (pre:=[]) (post:=[.int .i64 bt,.int .i64 br]) (a1.out wr ai.out));clear au av
   go_upto_region 6 with(first
    |(refine lM a2 aw ?_)
    |(refine bM rfl _ _ _ rfl _ _ _ _ rfl ?_ rfl ?_ ?_ ?_ ?_;(focus(simp;done));kernel_rfl;rfl;rfl))
   have ax:=ai.out.alloc bk (.cells #[t,r,n] 108);have az:Below wr.heap.size wr (wr.alloc (.cells #[t,r,n] 108)):=(ag _ _).alloc (aa _) _;have aA:=hid (am wr (.cells #[t,r,n] 108));generalize hW:wr.alloc (.cells #[t,r,n] 108)=W at *;have O:=hid ax;have aB:=hid az;have al:=hid (a1.out W ax);have a3:=kO HO az;clear hW ax az;cases b1 with
   | true=>
    have T:=hid (show gW G (L.take (k+1))=M by rw[ac.out];rfl)
    go_wp2_with (first
     |(refine lM al Tryz.underlying163 ?_)
     |(go_at_call 174;refine(ak.out W O.out).mono ?_;rintro e w3 ⟨rfl,s⟩;have P:=bT O s;have Q:=kO a3 s;clear s))
    go_roundw
    case rel=>exact⟨k+1,A',c',m,M,by omega,by go_num,rfl,by omega,l,hid T.out.symm,Q,P⟩
    case measure=>(simp[RowKit.intOf];omega)
   | false=>
    cases b3 with
    | true=>
     have T:=hid (show gW G (L.take (k+1))=M by rw[ac.out];rfl)
     go_wp2_with (first
      |(refine lM al Tryz.underlying163 ?_)
      |(refine lA u aw ?_)
      |(go_at_call 174;refine(ak.out W O.out).mono ?_;rintro e Z ⟨rfl,E⟩;have an:=bT O E;have H:=bT aB E;have u:=bK E aA;have z0:Z.cell? ⟨wr.heap.size,0,none⟩=some (.int .i64 t):=aD _ _ _ _ _ _ u.out;have z1:Z.cell? ⟨wr.heap.size,1,none⟩=some (.int .i64 r):=aD _ _ _ _ _ _ u.out;have z2:Z.cell? ⟨wr.heap.size,2,none⟩=some (.int .i64 n):=aD _ _ _ _ _ _ u.out;clear E)
      |(go_at_call 173;refine(ad.out Z H.out).mono ?_;rintro e w3 ⟨rfl,s⟩;have P:=bT an s;have Q:=hid (HO.out.kept (dg (r:=none) (H.out.trans (s.mono H.out.size))) (cw _));clear s))
     go_roundw
     case rel=>exact⟨k+1,A',c',m,M,by omega,by go_num,rfl,by omega,l,hid T.out.symm,Q,P⟩
     case measure=>(simp[RowKit.intOf];omega)
    | false=>
     have T:=hid (show gW G (L.take (k+1))=insB (λy:Gid=>Gid.lt ⟨⟨t,r⟩,n⟩ y) Gid.zero M ⟨⟨t,r⟩,n⟩ by rw[ac.out];rfl)
     go_upto_region 7 with(first
      |(refine lM al Tryz.underlying163 ?_)
      |(refine lA u aw ?_)
      |(go_at_call 174;refine(ak.out W O.out).mono ?_;rintro e Z ⟨rfl,E⟩;have an:=bT O E;have H:=bT aB E;have u:=bK E aA;have z0:Z.cell? ⟨wr.heap.size,0,none⟩=some (.int .i64 t):=aD _ _ _ _ _ _ u.out;have z1:Z.cell? ⟨wr.heap.size,1,none⟩=some (.int .i64 r):=aD _ _ _ _ _ _ u.out;have z2:Z.cell? ⟨wr.heap.size,2,none⟩=some (.int .i64 n):=aD _ _ _ _ _ _ u.out;clear E)
      |(go_at_call 173;refine(ad.out Z H.out).mono ?_;rintro e w3 ⟨rfl,s⟩;have P:=bT an s;have Q:=hid (HO.out.kept (dg (r:=none) (H.out.trans (s.mono H.out.size))) (cw _));have a4:=bK s u;clear s))
     have aC:=P.out.size
     go_upto_region 9 with(first
      |(refine lA a4 aw ?_)
      |(at_builtin;refine bX _ rfl _ _ 123 rfl w.heap.size 108 i0 (.agg #[(0:Int),(0:Int),(0:Int)]) 3 24 eQ hi bh bi ah rfl (by decide) (.slice A' m c') m _ rfl (by exact Q.out.alloc _) ⟨w3.heap.size,0,none⟩ 1 1 [.int .i64 t,.int .i64 r,.int .i64 n] rfl rfl (λj y h=>dH w3 [.int .i64 t,.int .i64 r,.int .i64 n] 108 j y h) (fw (c:=#[.int .i64 t,.int .i64 r,.int .i64 n]) rfl) (by decide) (by unfold maxLen;omega) (by omega) (by simp;omega) (w3.heap.size+1) (by simp) ?_;intro g D w5 aE ao ha bd;have a5:=hid aE;have bl:=hid ((P.out.alloc aC _).grown ao (by simp;omega) (λb hb=>(Q.out.lt b hb).1));clear aE ao ha bd))
     clear ak ad aA O aB al a3 an H u P Q a4 a2 aC;have a6:slid M (⟨⟨t,r⟩,n⟩:Gid) m=M++[⟨⟨t,r⟩,n⟩]:=by rw[l.out];exact ju _ _
     have bm:=hid (show w5.ownsRow w.heap.size 108 3 (.slice (some ⟨g,0,none⟩) (m+1) D) (m+1) ((slid M (⟨⟨t,r⟩,n⟩:Gid) m).flatMap idL) by rw[a6,aI];exact a5.out);clear a6 a5;generalize w5=w6 at *;go_loopw [8] (λi wx=>∃(q:Nat),i= .int .i64 q∧q<=m∧Hid (dY (λy:Gid=>Gid.lt ⟨⟨t,r⟩,n⟩ y) .zero M q=dY (λy:Gid=>Gid.lt ⟨⟨t,r⟩,n⟩ y) .zero M M.length)∧Hid (wx.ownsRow w.heap.size 108 3 (.slice (some ⟨g,0,none⟩) (m+1) D) (m+1) ((slid M (⟨⟨t,r⟩,n⟩:Gid) q).flatMap idL))∧Hid (Below w.heap.size w wx)) (λi _=>(RowKit.intOf i).toNat)
     case atStart=>exact⟨m,rfl,aa _,hid (by rw[l.out]),bm,bl⟩
     case round=>
      obtain⟨q,rfl,hq,aG,U,aH⟩:=hrel;by_cases h0:0<q
      ·obtain⟨q,rfl⟩:∃p,q=p+1:=⟨q-1,by omega⟩;have aJ:q+1<=M.length:=by rw[<-l.out];exact hq
       have ap:m+1=(slid M (⟨⟨t,r⟩,n⟩:Gid) (q+1)).length:=by rw[eO,<-l.out]
       obtain⟨g3,e3,-,a7,R⟩:=cz (f:=idL) (λ_=>rfl) ap U.out (k:=q) (by omega) .zero;cases e3;obtain⟨g4,e4,-,-,X⟩:=cz (f:=idL) (λ_=>rfl) ap U.out (k:=q+1) (by omega) .zero;cases e4;rw[js aJ] at R;rw[ku aJ] at X;have aM:=ip (L:=M) (x:=(⟨⟨t,r⟩,n⟩:Gid)) (z:= .zero) aJ;obtain⟨y,hy⟩:∃y,y=M.getD q .zero:=⟨_,rfl⟩;rw[<-hy] at R aM;obtain⟨b2,aN⟩:∃b,b=(λy:Gid=>Gid.lt ⟨⟨t,r⟩,n⟩ y) y:=⟨_,rfl⟩;have a8:=hid (show(λy:Gid=>Gid.lt ⟨⟨t,r⟩,n⟩ y) (M.getD q .zero)=b2 by rw[<-hy,aN]);clear hy;obtain⟨⟨I,J⟩,N⟩:=y;have bn:=hid (show wr.rangeAt g (q*3) [.int .i64 I,.int .i64 J,.int .i64 N] from R);have bo:=hid (show wr.rangeAt g ((q+1)*3) [.int .i64 t,.int .i64 r,.int .i64 n] from X);have y0:=aj (w:=wr) (a:=⟨g,q*3,none⟩) (v:= .int .i64 I) (R 0 _ rfl);have y1:=aj (w:=wr) (a:=⟨g,q*3+1,none⟩) (v:= .int .i64 J) (R 1 _ rfl);have y2:=aj (w:=wr) (a:=⟨g,q*3+2,none⟩) (v:= .int .i64 N) (R 2 _ rfl);have x0:=aj (w:=wr) (a:=⟨g,(q+1)*3,none⟩) (v:= .int .i64 t) (X 0 _ rfl);have x1:=aj (w:=wr) (a:=⟨g,(q+1)*3+1,none⟩) (v:= .int .i64 r) (X 1 _ rfl);have x2:=aj (w:=wr) (a:=⟨g,(q+1)*3+2,none⟩) (v:= .int .i64 n) (X 2 _ rfl);have bp:=hid aM;have k1:(0:Int)<(q:Int)+1:=by omega
       have k2:(0:Int)<=(q:Int):=by omega
       have k3:(q:Int)<(m:Int)+1:=by omega
       have k4:(q:Int)+1<(m:Int)+1:=by omega
       have k5:(0:Int)<=(q:Int)+1:=by omega
       have k6:IntKind.i64.wrap (q:Int)=(q:Int):=by rw[bz];omega
       have ae:=hid ap;have a9:=λW=>gx t r n I J N W;obtain⟨zc,aO⟩:∃z,z=rcmpD ⟨⟨t,r⟩,n⟩ ⟨⟨I,J⟩,N⟩:=⟨_,rfl⟩;rw[<-aO] at a9;have ah:decide (0<=zc)= !b2:=by rw[aO,jW,aN]
       have bH:decide (zc<0)=b2:=by cases b2<;>simp at ah ⊢ <;>omega
       clear aO ah;have cA:=λd os=>ay (a9 (grow (redrawn wr d) os));clear R X aN aM ap;cases b2 with
       |false=>
        go_upto_region 9 with fail;refine rqb ?_
        repeat(any_goals(first|go_big_quiet_step (with_reducible exact cA _ _)|quiet_step (with_reducible exact cA _ _)))
        refine qz λF B=> ?_;have aP:=hid (show gW G (L.take (k+1))=slid M (⟨⟨t,r⟩,n⟩:Gid) (q+1) by rw[T.out];unfold insB;rw[<-aG.out,ge (.inr ⟨q,rfl,a8.out⟩)]);have aQ:=kO U B;have aS:=bT aH B;go_wp2;go_roundw
        case rel=>exact⟨k+1,some ⟨g,0,none⟩,D,m+1,_,by omega,by go_num,rfl,by omega,ae,hid aP.out.symm,aQ,aS⟩
        case measure=>(simp[RowKit.intOf];omega)
       | true=>
        go_upto_region 9 with fail;refine rqb ?_
        repeat(any_goals(first|go_big_quiet_step (with_reducible exact cA _ _)|quiet_step (with_reducible exact cA _ _)))
        refine qz λF B=> ?_;have bf:=hid (show dY (λy:Gid=>Gid.lt ⟨⟨t,r⟩,n⟩ y) .zero M q=dY (λy:Gid=>Gid.lt ⟨⟨t,r⟩,n⟩ y) .zero M M.length by rw[<-aG.out,iF a8.out]);have aT:=hid (cd bn.out a7 B);have aU:=hid (cd bo.out a7 B);have af:=kO U B;have bg:=bT aH B;clear y0 y1 y2 x0 x1 x2 cA U B;go_upto_region 11 with fail;obtain⟨V1,aV⟩:∃V,V=F.drew.setCells g ((q+1)*3) (#[.int .i64 I,.int .i64 J,.int .i64 N]:Array Value).toList:=⟨_,rfl⟩;have Y:V1.ownsRow w.heap.size 108 3 (.slice (some ⟨g,0,none⟩) (m+1) D) (m+1) (((slid M (⟨⟨t,r⟩,n⟩:Gid) (q+1)).set (q+1) (⟨⟨I,J⟩,N⟩:Gid)).flatMap idL)∧F.drew.grownBy V1 (some g):=by rw[aV];exact eP (f:=idL) (λ_=>rfl) (by decide) ae.out (show F.drew.ownsRow _ _ _ _ _ _ from af.out) (by omega) (⟨⟨I,J⟩,N⟩:Gid)
        obtain⟨V2,aW⟩:∃V,V=V1.setCells g (q*3) (#[.int .i64 t,.int .i64 r,.int .i64 n]:Array Value).toList:=⟨_,rfl⟩;have ar:V2.ownsRow w.heap.size 108 3 (.slice (some ⟨g,0,none⟩) (m+1) D) (m+1) ((((slid M (⟨⟨t,r⟩,n⟩:Gid) (q+1)).set (q+1) (⟨⟨I,J⟩,N⟩:Gid)).set q (⟨⟨t,r⟩,n⟩:Gid)).flatMap idL)∧V1.grownBy V2 (some g):=by rw[aW];exact eP (f:=idL) (λ_=>rfl) (by decide) (by rw[cM];exact ae.out) Y.1 (by omega) (⟨⟨t,r⟩,n⟩:Gid)
        obtain⟨g5,e5,ba⟩:=ey (show F.drew.ownsRow _ _ _ _ _ _ from af.out) (k:=q+1) (by omega);cases e5;obtain⟨g6,e6,bb⟩:=ey Y.1 (k:=q) (by omega);cases e6;have bq:=hid ar.1;have bs:=hid (show F.heap.size<=V2.heap.size∧(Below w.heap.size w F->w.heap.size<=g->Below w.heap.size w V2) from⟨aL (show F.drew.heap.size<=V1.heap.size from Y.2.size) ar.2.size,λhb hl=>(hb.drew.grown Y.2 (by exact hb.size) (λb e=>by cases e;exact hl)).grown ar.2 (aL hb.size (show F.drew.heap.size<=V1.heap.size from Y.2.size)) (λb e=>by cases e;exact hl)⟩);have bu:=hid aV;have bw:=hid aW;have bx:=hid ba;have bB:=hid bb;have bC:=hid (show(#[.int .i64 I,.int .i64 J,.int .i64 N]:Array Value).all (·.oneCell')=true by rw[<-cg];rfl);have bE:=hid (show(#[.int .i64 t,.int .i64 r,.int .i64 n]:Array Value).all (·.oneCell')=true by rw[<-cg];rfl);clear Y ar aV aW ba bb;refine aR (S:=λ_=>True) (by kernel_rfl) ?_
        try(change wpAnyH _ _ _ _ _ _ _ _ (World.drew _))
        refine tk 0 (.slice (some ⟨g,0,none⟩) (m+1) D) (trivial) ?_;go_simp;refine tk 1 (.int .i64 ((q:Int)+1)) (trivial) ?_;go_simp;refine tk 2 (.slice (some ⟨g,0,none⟩) (m+1) D) (trivial) ?_;go_simp;refine tk 3 (.int .i64 ((q:Int)+1)) (trivial) ?_;go_simp;refine tk 4 (.int .i64 (q:Int)) (trivial) ?_;go_simp;refine tk 5 (.slice (some ⟨g,0,none⟩) (m+1) D) (trivial) ?_;go_simp;refine tk 6 (.int .i64 ((q:Int)+1)) (trivial) ?_;go_simp;refine tk 7 (.int .i64 (q:Int)) (trivial) ?_;go_simp;refine tk 8 (.pointer (some ⟨g,q*3,none⟩)) (trivial) ?_;go_simp;refine tk 10 (.slice (some ⟨g,0,none⟩) (m+1) D) (trivial) ?_;go_simp;refine tk 11 (.int .i64 ((q:Int)+1)) (trivial) ?_;go_simp;refine tk 12 (.pointer (some ⟨g,(q+1)*3,none⟩)) (trivial) ?_;go_simp;refine dp (rs:=[9,13]) (by kernel_rfl) (by simp) ?_;refine aX rfl (λK C=> ?_) (aX rfl (λK C=> ?_) cX)
        focus
         refine bA rfl _ _ rfl g (q*3) rfl [.int .i64 I,.int .i64 J,.int .i64 N] _ (show F.drew.rangeAt _ _ _ from aT.out) aw rfl (by kernel_rfl) ?_;refine C.out _ _ (trivial) (λ_=> ?_);clear C K;refine rd1 13 λK C=> ?_;refine bA rfl _ _ rfl g ((q+1)*3) rfl [.int .i64 t,.int .i64 r,.int .i64 n] _ (show F.drew.rangeAt _ _ _ from aU.out) aw rfl (by kernel_rfl) ?_;refine C.out _ _ (trivial) (λ_=> ?_);clear C K
        rotate_left
        focus
         refine bA rfl _ _ rfl g ((q+1)*3) rfl [.int .i64 t,.int .i64 r,.int .i64 n] _ (show F.drew.rangeAt _ _ _ from aU.out) aw rfl (by kernel_rfl) ?_;refine C.out _ _ (trivial) (λ_=> ?_);clear C K;refine rd1 9 λK C=> ?_;refine bA rfl _ _ rfl g (q*3) rfl [.int .i64 I,.int .i64 J,.int .i64 N] _ (show F.drew.rangeAt _ _ _ from aT.out) aw rfl (by kernel_rfl) ?_;refine C.out _ _ (trivial) (λ_=> ?_);clear C K
        all_goals
         refine tk 14 (.pointer (some ⟨g,(q+1)*3,none⟩)) (trivial) ?_;go_simp;refine rd1 15 λK C=> ?_;refine cy rfl _ _ _ rfl g ((q+1)*3) #[.int .i64 I,.int .i64 J,.int .i64 N] (by rfl) (by rfl) bx.out (by kernel_rfl) bC.out ?_;rw[<-bu.out];refine C.out _ _ (trivial) (λ_=> ?_);clear C K;refine tk 16 (.pointer (some ⟨g,q*3,none⟩)) (trivial) ?_;go_simp;refine rd1 17 λK C=> ?_;refine cy rfl _ _ _ rfl g (q*3) #[.int .i64 t,.int .i64 r,.int .i64 n] (by rfl) (by rfl) bB.out (by kernel_rfl) bE.out ?_;rw[<-bw.out];refine C.out _ _ (trivial) (λ_=> ?_);clear C K;refine be (by kernel_rfl) ?_ _;go_simp;go_wp2;go_roundw
         case rel=>exact⟨q,by go_num,by omega,bf,hid (by rw[<-bp.out];exact bq.out),hid (bs.out.2 bg.out (af.out.lt g rfl).1)⟩
         case measure=>(simp[RowKit.intOf];try omega)
      ·obtain rfl:q=0:=by omega
       go_upto_region 9 with fail;refine rqb ?_
       repeat(any_goals(first|go_big_quiet_step (fail)|quiet_step (fail)))
       refine qz λF B=> ?_;have aP:=hid (show gW G (L.take (k+1))=slid M (⟨⟨t,r⟩,n⟩:Gid) 0 by rw[T.out];unfold insB;rw[<-aG.out];rfl);have ae:=hid (show m+1=(slid M (⟨⟨t,r⟩,n⟩:Gid) 0).length by rw[eO,<-l.out]);have aQ:=kO U B;have aS:=bT aH B;go_wp2;go_roundw
       case rel=>exact⟨k+1,some ⟨g,0,none⟩,D,m+1,_,by omega,by go_num,rfl,by omega,ae,hid aP.out.symm,aQ,aS⟩
       case measure=>(simp[RowKit.intOf];omega)
  ·obtain rfl:k=L.length:=by omega
   have i2:¬(L.length:Int)<(L.length:Int):=by omega
   have bc:=hid (show M=gW G L by have h9:=HM.out;rw[aK] at h9;exact h9);go_wp2;go_ret;refine⟨A',c',by rw[<-bc.out,<-l.out];rfl,?_,ai.out⟩;rw[<-bc.out,<-l.out];exact HO.out
theorem iC {w:World} {B B2 E s n:Nat} {v:Value} {xs:List Value} (h:w.ownsRow B E s v n xs) (hb:B2<=B):w.ownsRow B2 E s v n xs:=by
 rcases h.2 with⟨e1,e2⟩|⟨g,cap,cur,e1,e2,e3⟩
 ·exact⟨h.1,.inl ⟨e1,e2⟩⟩
 ·exact⟨h.1,.inr ⟨g,cap,cur,e1,by omega,e3⟩⟩
theorem of14_any (L G:List Dt) (A A2:Option Addr) (c c2:Nat) (xt xr xi:Int) (S S2:Nat->Prop) (w00:World) (hl:L.length<=100000) (hl2:G.length<=100000) (hR:RowF w00 S A 5 dtL dt0 L) (hR2:RowF w00 S2 A2 5 dtL dt0 G):
  Calls Tryz.prog 145 #[.slice A L.length c,.slice A2 G.length c2,.agg #[xt,xr,xi]] w00 λe w'=>∃A' c',e= .returned (.slice A' (ofL G ⟨⟨xt,xr⟩,xi⟩ L).length c')∧w'.ownsRow w00.heap.size 42 2 (.slice A' (ofL G ⟨⟨xt,xr⟩,xi⟩ L).length c') (ofL G ⟨⟨xt,xr⟩,xi⟩ L).length ((ofL G ⟨⟨xt,xr⟩,xi⟩ L).flatMap stL)∧Below w00.heap.size w00 w':=by
 obtain⟨i0,hi,a7,a8,a9⟩:=bD info_st;have af:Below w00.heap.size w00 (w00.alloc (.cells #[xt,xr,xi] 108)):=(ag _ _).alloc (aa _) _;have an:=hid af;have ba:=hid (am w00 (.cells #[xt,xr,xi] 108));have HR:=hid (hR.below af);have bb:=hid (hR2.below af);clear hR hR2 af;go_enter Tryz.func145,Tryz.ntmps145;go_upto_region 3 with fail;generalize hW:w00.alloc (.cells #[xt,xr,xi] 108)=w at *;clear hW;generalize aM:w00.heap.size=xb at *;have bc:=hid aM;clear aM;go_loopw [7,8] (λo i wr=>∃(k:Nat) (A':Option Addr) (c' m:Nat) (M:List Gst),k<=L.length∧i= .int .i64 k∧o= .slice A' m c'∧m<=k∧Hid (m=M.length)∧Hid (M=ofL G ⟨⟨xt,xr⟩,xi⟩ (L.take k))∧Hid (wr.ownsRow w.heap.size 42 2 (.slice A' m c') m (M.flatMap stL))∧Hid (Below w.heap.size w wr)) (λo i _=>L.length-(RowKit.intOf i).toNat)
 case atStart=>exact⟨0,none,0,0,[],aq _,rfl,rfl,aa _,hid rfl,hid rfl,hid (aF _ _ _ _),hid (ag _ _)⟩
 case round=>
  obtain⟨k,A',c',m,M,hk,rfl,rfl,bu,C,HM,HO,I⟩:=hrel;by_cases aN:k<L.length
  ·have i1:(0:Int)<=(k:Int):=by omega
   have i2:(k:Int)<(L.length:Int):=by omega
   obtain⟨rb,ro,rfl,-,aO,Z⟩:=HR.out.range (λ_=>rfl) aN;have aP:ofL G ⟨⟨xt,xr⟩,xi⟩ (L.take (k+1))=stepO G ⟨⟨xt,xr⟩,xi⟩ M (L.getD k dt0):=by rw[HM.out];exact eL _ _ aN dt0
   generalize L.getD k dt0=p at *;obtain⟨⟨⟨t,r⟩,n⟩,⟨g,l⟩⟩:=p;have aQ:=hid (λW (hB:Below w.heap.size w W)=>show W.rangeAt rb (ro+k*5) [.int .i64 t,.int .i64 r,.int .i64 n,.int .i64 g,.int .i64 l] from cd Z aO hB);have Q:=hid aP;have ab:=I.out.size;have bs:m<=100000:=by omega
   clear Z aO aP;obtain⟨v,hv⟩:∃b,b=Gid.eqb ⟨⟨t,r⟩,n⟩ ⟨⟨xt,xr⟩,xi⟩:=⟨_,rfl⟩;obtain⟨b1,ao⟩:∃b,b=G.any (λy=>y.eqb ⟨⟨⟨t,r⟩,n⟩,⟨g,l⟩⟩):=⟨_,rfl⟩;obtain⟨b3,ap⟩:∃b,b=M.any (λy=>y.eqb ⟨g,l⟩):=⟨_,rfl⟩;have aS:=hid (λW (hB:Below w.heap.size w W)=>show Calls Tryz.prog 174 #[.slice A2 G.length c2,.agg #[t,r,n,g,l]] W λe w'=>e= .returned (.bool b1)∧Below W.heap.size W w' from by rw[ao];exact hasdot_any G A2 c2 ⟨⟨⟨t,r⟩,n⟩,⟨g,l⟩⟩ S2 W (by omega) (bb.out.below hB))
   have aT:=hid (λW (hB:Below wr.heap.size wr W)=>show Calls Tryz.prog 109 #[.slice A' m c',.agg #[g,l]] W λe w'=>e= .returned (.bool b3)∧Below W.heap.size W w' from by
    have h9:=hasstamp_any M A' c' ⟨g,l⟩ _ W (by rw[<-C.out];omega) (ct (f:=stL) (z:=Gst.zero) (λ_=>rfl) C.out (HO.out.kept (dg (r:=none) hB) (cw _)))
    rw[<-C.out,<-ap] at h9;exact h9)
   have Q:=hid (show ofL G ⟨⟨xt,xr⟩,xi⟩ (L.take (k+1))=if (!v || b1 || b3)=true then M else insB (λy=>Gst.lt ⟨g,l⟩ y) Gst.zero M ⟨g,l⟩ by rw[Q.out,hv,ao,ap];rfl);have q1:=ne_id t r n xt xr xi v hv.symm;have R:=hid (aQ.out wr I.out);have ah:=bK I.out ba;have y0:=aj (w:=wr) (a:=⟨rb,ro+k*5,none⟩) (v:= .int .i64 t) (R.out 0 _ rfl);have y1:=aj (w:=wr) (a:=⟨rb,ro+k*5+1,none⟩) (v:= .int .i64 r) (R.out 1 _ rfl);have y2:=aj (w:=wr) (a:=⟨rb,ro+k*5+2,none⟩) (v:= .int .i64 n) (R.out 2 _ rfl);have y3:=aj (w:=wr) (a:=⟨rb,ro+k*5+3,none⟩) (v:= .int .i64 g) (R.out 3 _ rfl);have y4:=aj (w:=wr) (a:=⟨rb,ro+k*5+4,none⟩) (v:= .int .i64 l) (R.out 4 _ rfl);have x0:=rg0 ah.out;have x1:=rg1 ah.out;have x2:=rg2 ah.out;have H:=λd os=>ay (aS.out (grow (redrawn wr d) os) (I.out.trans ((bE wr d os).mono ab)));have Y:=λd os=>ay (aT.out (grow (redrawn wr d) os) (bE wr d os));clear hv ao ap;cases v with
   |false=>
    have N:=hid (show ofL G ⟨⟨xt,xr⟩,xi⟩ (L.take (k+1))=M by rw[Q.out];rfl);go_upto_region 5 with fail;refine rqb ?_
    repeat(any_goals(first|go_big_quiet_step (with_reducible first|exact H _ _|exact Y _ _)|quiet_step (with_reducible first|exact H _ _|exact Y _ _)))
    refine qz λB s=> ?_;have J:=kO HO s;have E:=hid (I.out.trans (s.mono ab));go_wp2;go_roundw
    case rel=>exact⟨k+1,A',c',m,M,by omega,by go_num,rfl,by omega,C,hid N.out.symm,J,E⟩
    case measure=>(simp[RowKit.intOf];omega)
   | true =>
    cases b1 with
    |true=>
     have N:=hid (show ofL G ⟨⟨xt,xr⟩,xi⟩ (L.take (k+1))=M by rw[Q.out];rfl);go_upto_region 5 with fail;refine rqb ?_
     repeat(any_goals(first|go_big_quiet_step (with_reducible first|exact H _ _|exact Y _ _)|quiet_step (with_reducible first|exact H _ _|exact Y _ _)))
     refine qz λB s=> ?_;have J:=kO HO s;have E:=hid (I.out.trans (s.mono ab));go_wp2;go_roundw
     case rel=>exact⟨k+1,A',c',m,M,by omega,by go_num,rfl,by omega,C,hid N.out.symm,J,E⟩
     case measure=>(simp[RowKit.intOf];omega)
    | false=>
     cases b3 with
     |true=>
      have N:=hid (show ofL G ⟨⟨xt,xr⟩,xi⟩ (L.take (k+1))=M by rw[Q.out];rfl);go_upto_region 5 with fail;refine rqb ?_
      repeat(any_goals(first|go_big_quiet_step (with_reducible first|exact H _ _|exact Y _ _)|quiet_step (with_reducible first|exact H _ _|exact Y _ _)))
      refine qz λB s=> ?_;have J:=kO HO s;have E:=hid (I.out.trans (s.mono ab));go_wp2;go_roundw
      case rel=>exact⟨k+1,A',c',m,M,by omega,by go_num,rfl,by omega,C,hid N.out.symm,J,E⟩
      case measure=>(simp[RowKit.intOf];omega)
     | false=>
      have N:=hid (show ofL G ⟨⟨xt,xr⟩,xi⟩ (L.take (k+1))=insB (λy:Gst=>Gst.lt ⟨g,l⟩ y) Gst.zero M ⟨g,l⟩ by rw[Q.out];rfl);go_upto_region 5 with fail;refine rqb ?_
      repeat(any_goals(first|go_big_quiet_step (with_reducible first|exact H _ _|exact Y _ _)|quiet_step (with_reducible first|exact H _ _|exact Y _ _)))
      refine qz λB s=> ?_;have J:=kO HO s;have E:=hid (I.out.trans (s.mono ab));have ar:=E.out.size;have aU:=hid (show B.rangeAt rb (ro+k*5+3) [.int .i64 g,.int .i64 l] from bv (pre:=[.int .i64 t,.int .i64 r,.int .i64 n]) (post:=[]) (aQ.out B E.out));clear y0 y1 y2 y3 y4 x0 x1 x2 H Y s
      go_upto_region 8 with(first
       |(refine lM aU cb ?_)
       |(at_builtin;refine bX _ rfl _ _ 100 rfl w.heap.size 42 i0 (.agg #[(0:Int),(0:Int)]) 2 16 Tryz.underlying100 hi a7 a8 a9 rfl (by decide) (.slice A' m c') m _ rfl (by exact J.out.alloc _) ⟨B.heap.size,0,none⟩ 1 1 [.int .i64 g,.int .i64 l] rfl rfl (λj y h=>dH B [.int .i64 g,.int .i64 l] 42 j y h) (fw (c:=#[.int .i64 g,.int .i64 l]) rfl) (by decide) (by unfold maxLen;omega) (by omega) (by simp;omega) (B.heap.size+1) (by simp) ?_;intro u F w5 au ai ha a4;have aV:=hid au;have bd:=hid ((E.out.alloc ar _).grown ai (by simp;omega) (λb hb=>(J.out.lt b hb).1));clear au ai ha a4))
      clear aS aT R ah E J aU ar;have aW:slid M (⟨g,l⟩:Gst) m=M++[⟨g,l⟩]:=by rw[C.out];exact ju _ _
      have bf:=hid (show w5.ownsRow w.heap.size 42 2 (.slice (some ⟨u,0,none⟩) (m+1) F) (m+1) ((slid M (⟨g,l⟩:Gst) m).flatMap stL) by rw[aW,aI];exact aV.out);clear aW aV;generalize w5=w6 at *;go_loopw [9] (λi wx=>∃(q:Nat),i= .int .i64 q∧q<=m∧Hid (dY (λy:Gst=>Gst.lt ⟨g,l⟩ y) .zero M q=dY (λy:Gst=>Gst.lt ⟨g,l⟩ y) .zero M M.length)∧Hid (wx.ownsRow w.heap.size 42 2 (.slice (some ⟨u,0,none⟩) (m+1) F) (m+1) ((slid M (⟨g,l⟩:Gst) q).flatMap stL))∧Hid (Below w.heap.size w wx)) (λi _=>(RowKit.intOf i).toNat)
      case atStart=>exact⟨m,rfl,aa _,hid (by rw[C.out]),bf,bd⟩
      case round=>
       obtain⟨q,rfl,hq,av,T,aw⟩:=hrel;by_cases h0:0<q
       ·obtain⟨q,rfl⟩:∃p,q=p+1:=⟨q-1,by omega⟩;have ax:q+1<=M.length:=by rw[<-C.out];exact hq
        have ak:m+1=(slid M (⟨g,l⟩:Gst) (q+1)).length:=by rw[eO,<-C.out]
        obtain⟨g3,e3,-,aY,U⟩:=cz (f:=stL) (λ_=>rfl) ak T.out (k:=q) (by omega) .zero;cases e3;obtain⟨g4,e4,-,-,ac⟩:=cz (f:=stL) (λ_=>rfl) ak T.out (k:=q+1) (by omega) .zero;cases e4;rw[js ax] at U;rw[ku ax] at ac;have az:=ip (L:=M) (x:=(⟨g,l⟩:Gst)) (z:= .zero) ax;obtain⟨y,hy⟩:∃y,y=M.getD q .zero:=⟨_,rfl⟩;rw[<-hy] at U az;obtain⟨b2,aA⟩:∃b,b=(λy:Gst=>Gst.lt ⟨g,l⟩ y) y:=⟨_,rfl⟩;have aZ:=hid (show(λy:Gst=>Gst.lt ⟨g,l⟩ y) (M.getD q .zero)=b2 by rw[<-hy,aA]);clear hy;obtain⟨O,P⟩:=y;have bg:=hid (show wr.rangeAt u (q*2) [.int .i64 O,.int .i64 P] from U);have bh:=hid (show wr.rangeAt u ((q+1)*2) [.int .i64 g,.int .i64 l] from ac);have y0:=aj (w:=wr) (a:=⟨u,q*2,none⟩) (v:= .int .i64 O) (U 0 _ rfl);have y1:=aj (w:=wr) (a:=⟨u,q*2+1,none⟩) (v:= .int .i64 P) (U 1 _ rfl);have x0:=aj (w:=wr) (a:=⟨u,(q+1)*2,none⟩) (v:= .int .i64 g) (ac 0 _ rfl);have x1:=aj (w:=wr) (a:=⟨u,(q+1)*2+1,none⟩) (v:= .int .i64 l) (ac 1 _ rfl);have bi:=hid az;have k1:(0:Int)<(q:Int)+1:=by omega
        have k2:(0:Int)<=(q:Int):=by omega
        have k3:(q:Int)<(m:Int)+1:=by omega
        have k4:(q:Int)+1<(m:Int)+1:=by omega
        have k5:(0:Int)<=(q:Int)+1:=by omega
        have k6:IntKind.i64.wrap (q:Int)=(q:Int):=by rw[bz];omega
        have ad:=hid ak;have a0:=λW=>eN g l O P W;rw[show Gst.lt ⟨g,l⟩ ⟨O,P⟩=b2 from aA.symm] at a0;have H:=λd os=>ay (a0 (grow (redrawn wr d) os));clear U ac aA az ak;cases b2 with
        |false=>
         go_upto_region 8 with fail;refine rqb ?_
         repeat(any_goals(first|go_big_quiet_step (with_reducible exact H _ _)|quiet_step (with_reducible exact H _ _)))
         refine qz λB s=> ?_;have aB:=hid (show ofL G ⟨⟨xt,xr⟩,xi⟩ (L.take (k+1))=slid M (⟨g,l⟩:Gst) (q+1) by rw[N.out];unfold insB;rw[<-av.out,ge (.inr ⟨q,rfl,aZ.out⟩)]);have aC:=kO T s;have aD:=bT aw s;go_wp2;go_roundw
         case rel=>exact⟨k+1,some ⟨u,0,none⟩,F,m+1,_,by omega,by go_num,rfl,by omega,ad,hid aB.out.symm,aC,aD⟩
         case measure=>(simp[RowKit.intOf];omega)
        | true=>
         go_upto_region 8 with fail;refine rqb ?_
         repeat(any_goals(first|go_big_quiet_step (with_reducible exact H _ _)|quiet_step (with_reducible exact H _ _)))
         refine qz λB s=> ?_;have a5:=hid (show dY (λy:Gst=>Gst.lt ⟨g,l⟩ y) .zero M q=dY (λy:Gst=>Gst.lt ⟨g,l⟩ y) .zero M M.length by rw[<-av.out,iF aZ.out]);have aE:=hid (cd bg.out aY s);have aG:=hid (cd bh.out aY s);have ae:=kO T s;have a6:=bT aw s;clear y0 y1 x0 x1 H T s;go_upto_region 10 with fail;obtain⟨V1,aH⟩:∃V,V=B.drew.setCells u ((q+1)*2) (#[.int .i64 O,.int .i64 P]:Array Value).toList:=⟨_,rfl⟩;have X:V1.ownsRow w.heap.size 42 2 (.slice (some ⟨u,0,none⟩) (m+1) F) (m+1) (((slid M (⟨g,l⟩:Gst) (q+1)).set (q+1) (⟨O,P⟩:Gst)).flatMap stL)∧B.drew.grownBy V1 (some u):=by rw[aH];exact eP (f:=stL) (λ_=>rfl) (by decide) ad.out (show B.drew.ownsRow _ _ _ _ _ _ from ae.out) (by omega) (⟨O,P⟩:Gst)
         obtain⟨V2,aJ⟩:∃V,V=V1.setCells u (q*2) (#[.int .i64 g,.int .i64 l]:Array Value).toList:=⟨_,rfl⟩;have al:V2.ownsRow w.heap.size 42 2 (.slice (some ⟨u,0,none⟩) (m+1) F) (m+1) ((((slid M (⟨g,l⟩:Gst) (q+1)).set (q+1) (⟨O,P⟩:Gst)).set q (⟨g,l⟩:Gst)).flatMap stL)∧V1.grownBy V2 (some u):=by rw[aJ];exact eP (f:=stL) (λ_=>rfl) (by decide) (by rw[cM];exact ad.out) X.1 (by omega) (⟨g,l⟩:Gst)
         obtain⟨g5,e5,a1⟩:=ey (show B.drew.ownsRow _ _ _ _ _ _ from ae.out) (k:=q+1) (by omega);cases e5;obtain⟨g6,e6,a2⟩:=ey X.1 (k:=q) (by omega);cases e6;have bj:=hid al.1;have bk:=hid (show B.heap.size<=V2.heap.size∧(Below w.heap.size w B->w.heap.size<=u->Below w.heap.size w V2) from⟨aL (show B.drew.heap.size<=V1.heap.size from X.2.size) al.2.size,λhb hl=>(hb.drew.grown X.2 (by exact hb.size) (λb e=>by cases e;exact hl)).grown al.2 (aL hb.size (show B.drew.heap.size<=V1.heap.size from X.2.size)) (λb e=>by cases e;exact hl)⟩);have bl:=hid aH;have bm:=hid aJ;have bn:=hid a1;have bo:=hid a2;have bp:=hid (show(#[.int .i64 O,.int .i64 P]:Array Value).all (·.oneCell')=true by rw[<-cg];rfl);have bq:=hid (show(#[.int .i64 g,.int .i64 l]:Array Value).all (·.oneCell')=true by rw[<-cg];rfl);clear X al aH aJ a1 a2;refine aR (S:=λ_=>True) (by kernel_rfl) ?_
         try(change wpAnyH _ _ _ _ _ _ _ _ (World.drew _))
         refine tk 0 (.slice (some ⟨u,0,none⟩) (m+1) F) (trivial) ?_;go_simp;refine tk 1 (.int .i64 ((q:Int)+1)) (trivial) ?_;go_simp;refine tk 2 (.slice (some ⟨u,0,none⟩) (m+1) F) (trivial) ?_;go_simp;refine tk 3 (.int .i64 ((q:Int)+1)) (trivial) ?_;go_simp;refine tk 4 (.int .i64 (q:Int)) (trivial) ?_;go_simp;refine tk 5 (.slice (some ⟨u,0,none⟩) (m+1) F) (trivial) ?_;go_simp;refine tk 6 (.int .i64 ((q:Int)+1)) (trivial) ?_;go_simp;refine tk 7 (.int .i64 (q:Int)) (trivial) ?_;go_simp;refine tk 8 (.pointer (some ⟨u,q*2,none⟩)) (trivial) ?_;go_simp;refine tk 10 (.slice (some ⟨u,0,none⟩) (m+1) F) (trivial) ?_;go_simp;refine tk 11 (.int .i64 ((q:Int)+1)) (trivial) ?_;go_simp;refine tk 12 (.pointer (some ⟨u,(q+1)*2,none⟩)) (trivial) ?_;go_simp;refine dp (rs:=[9,13]) (by kernel_rfl) (by simp) ?_;refine aX rfl (λK D=> ?_) (aX rfl (λK D=> ?_) cX)
         focus
          refine bA rfl _ _ rfl u (q*2) rfl [.int .i64 O,.int .i64 P] _ (show B.drew.rangeAt _ _ _ from aE.out) cb rfl (by kernel_rfl) ?_;refine D.out _ _ (trivial) (λ_=> ?_);clear D K;refine rd1 13 λK D=> ?_;refine bA rfl _ _ rfl u ((q+1)*2) rfl [.int .i64 g,.int .i64 l] _ (show B.drew.rangeAt _ _ _ from aG.out) cb rfl (by kernel_rfl) ?_;refine D.out _ _ (trivial) (λ_=> ?_);clear D K
         rotate_left
         focus
          refine bA rfl _ _ rfl u ((q+1)*2) rfl [.int .i64 g,.int .i64 l] _ (show B.drew.rangeAt _ _ _ from aG.out) cb rfl (by kernel_rfl) ?_;refine D.out _ _ (trivial) (λ_=> ?_);clear D K;refine rd1 9 λK D=> ?_;refine bA rfl _ _ rfl u (q*2) rfl [.int .i64 O,.int .i64 P] _ (show B.drew.rangeAt _ _ _ from aE.out) cb rfl (by kernel_rfl) ?_;refine D.out _ _ (trivial) (λ_=> ?_);clear D K
         all_goals
          refine tk 14 (.pointer (some ⟨u,(q+1)*2,none⟩)) (trivial) ?_;go_simp;refine rd1 15 λK D=> ?_;refine cy rfl _ _ _ rfl u ((q+1)*2) #[.int .i64 O,.int .i64 P] (by rfl) (by rfl) bn.out (by kernel_rfl) bp.out ?_;rw[<-bl.out];refine D.out _ _ (trivial) (λ_=> ?_);clear D K;refine tk 16 (.pointer (some ⟨u,q*2,none⟩)) (trivial) ?_;go_simp;refine rd1 17 λK D=> ?_;refine cy rfl _ _ _ rfl u (q*2) #[.int .i64 g,.int .i64 l] (by rfl) (by rfl) bo.out (by kernel_rfl) bq.out ?_;rw[<-bm.out];refine D.out _ _ (trivial) (λ_=> ?_);clear D K;refine be (by kernel_rfl) ?_ _;go_simp;go_wp2;go_roundw
          case rel=>exact⟨q,by go_num,by omega,a5,hid (by rw[<-bi.out];exact bj.out),hid (bk.out.2 a6.out (ae.out.lt u rfl).1)⟩
          case measure=>(simp[RowKit.intOf];try omega)
       ·obtain rfl:q=0:=by omega
        go_upto_region 8 with fail;refine rqb ?_
        repeat(any_goals(first|go_big_quiet_step (fail)|quiet_step (fail)))
        refine qz λB s=> ?_;have aB:=hid (show ofL G ⟨⟨xt,xr⟩,xi⟩ (L.take (k+1))=slid M (⟨g,l⟩:Gst) 0 by rw[N.out];unfold insB;rw[<-av.out];rfl);have ad:=hid (show m+1=(slid M (⟨g,l⟩:Gst) 0).length by rw[eO,<-C.out]);have aC:=kO T s;have aD:=bT aw s;go_wp2;go_roundw
        case rel=>exact⟨k+1,some ⟨u,0,none⟩,F,m+1,_,by omega,by go_num,rfl,by omega,ad,hid aB.out.symm,aC,aD⟩
        case measure=>(simp[RowKit.intOf];omega)
  ·obtain rfl:k=L.length:=by omega
   have i2:¬(L.length:Int)<(L.length:Int):=by omega
   have a3:=hid (show M=ofL G ⟨⟨xt,xr⟩,xi⟩ L by have h9:=HM.out;rw[aK] at h9;exact h9);go_wp2;go_ret;obtain rfl:=bc.out;refine⟨A',c',by rw[<-a3.out,<-C.out];rfl,?_,an.out.trans (I.out.mono an.out.size)⟩;rw[<-a3.out,<-C.out];exact iC HO.out an.out.size
def dG (v:List Int) (L:List (Grp×GrX)):List (Grp×GrX):=L.filter (λp=>oldB v p.1)
theorem knownL_len (v:List Int) (L:List (Grp×GrX)):(dG v L).length<=L.length:=ig _ _
theorem kE {v:List Int} {L:List (Grp×GrX)} {p:Grp×GrX} (h:p∈dG v L):p∈L:=(g7.1 h).1
theorem knownL_succ {v:List Int} {L:List (Grp×GrX)} {k:Nat} (h:k<L.length):dG v (L.take (k+1))=dG v (L.take k)++(if oldB v (L.getD k gp0).1=true then [L.getD k gp0] else []):=by
 unfold dG;rw[List.take_add_one,jD,an h,ae,an h];congr 1;cases e:oldB v L[k].1<;>simp[e]
theorem known_any (L:List (Grp×GrX)) (A:Option Addr) (c:Nat) (vA:Option Addr) (vc:Nat) (v:List Int) (w:World) (hl:L.length<=100000) (hv:v.length<=1000) (hR:RowGr w A L) (hV:VecR w vA v):
  Calls Tryz.prog 88 #[.slice A L.length c,.slice vA v.length vc] w λe w'=>∃A' c',e= .returned (.slice A' (dG v L).length c')∧w'.ownsRow w.heap.size 45 7 (.slice A' (dG v L).length c') (dG v L).length ((dG v L).flatMap grC_)∧Below w.heap.size w w':=by
 obtain⟨i0,hi,ad,ae,af⟩:=bD ia;have HR:=hid hR;have HV:=hid hV;clear hR hV;go_enter Tryz.func88,Tryz.ntmps88;go_upto_region 3 with fail;go_loopw [5,6] (λo i wr=>∃(k:Nat) (A':Option Addr) (c' m:Nat),k<=L.length∧i= .int .i64 k∧o= .slice A' m c'∧m<=k∧Hid (m=(dG v (L.take k)).length)∧Hid (wr.ownsRow w.heap.size 45 7 (.slice A' m c') m ((dG v (L.take k)).flatMap grC_))∧Hid (Below w.heap.size w wr)) (λo i _=>L.length-(RowKit.intOf i).toNat)
 case atStart=>exact⟨0,none,0,0,aq _,rfl,rfl,aa _,hid rfl,hid (aF _ _ _ _),hid (ag _ _)⟩
 case round=>
  obtain⟨k,A',c',m,hk,rfl,rfl,ar,B,Y,a⟩:=hrel;by_cases Q:k<L.length
  ·have i1:(0:Int)<=(k:Int):=by omega
   have i2:(k:Int)<(L.length:Int):=by omega
   obtain⟨rb,ro,rfl,R,g⟩:=HR.out.range Q;have S:=knownL_succ (v:=v) Q;have C:=a.out.size;generalize L.getD k gp0=p at *;obtain⟨⟨⟨t,r⟩,n,D,⟨E,F⟩,l⟩,⟨G,H,I,J⟩⟩:=p;obtain⟨z,Z⟩:∃z,z=atV v r:=⟨_,rfl⟩;obtain⟨od,K⟩:∃b,b=decide (n<=z):=⟨_,rfl⟩;have T:decide (n<=z)=od:=K.symm;have s:=hid (show dG v (L.take (k+1))=dG v (L.take k)++(if od=true then [(⟨⟨⟨t,r⟩,n,D,⟨E,F⟩,l⟩,⟨G,H,I,J⟩⟩:Grp×GrX)] else []) by rw[S];congr 1;rw[K,Z];rfl);have U:=hid (λW (hB:Below w.heap.size w W)=>show W.rangeAt rb (ro+k*7) [t,r,n,.slice G D.length H,E,F,.slice I l.length J] from cd g R hB);have V:=hid (U.out wr a.out)
   have ah:=hid (λW (hB:Below w.heap.size w W)=>show Calls Tryz.prog 55 #[.slice vA v.length vc,r] W λe w'=>e= .returned (.int .i64 z)∧Below W.heap.size W w' from by
    rw[Z]
    exact(fh vA vc v r W (by omega) (HV.out.below hB)).mono (by rintro e w' ⟨rfl,rfl⟩;exact⟨rfl,ag _ _⟩))
   have y1:=aj (V.out 1 _ rfl);have y2:=aj (V.out 2 _ rfl);have M:=λd os=>ay (ah.out (grow (redrawn wr d) os) (a.out.trans ((bE wr d os).mono C)));clear S Z K g R;cases od with
   |false=>
    have ai:¬n<=z:=by simpa using T
    go_upto_region 5 with fail;refine rqb ?_
    repeat(any_goals(first|go_big_quiet_step (with_reducible exact M _ _)|quiet_step (with_reducible exact M _ _)))
    refine qz λN f=> ?_;have u:=kO Y f;have q:=hid (a.out.trans (f.mono C));go_wp2;go_roundw
    case rel=>exact⟨k+1,A',c',m,by omega,by go_num,rfl,by omega,hid (by rw[s.out];simpa using B.out),hid (by rw[s.out];simpa using u.out),q⟩
    case measure=>(simp[RowKit.intOf];omega)
   | true=>
    have ai:n<=z:=by simpa using T
    go_upto_region 5 with fail;refine rqb ?_
    repeat(any_goals(first|go_big_quiet_step (with_reducible exact M _ _)|quiet_step (with_reducible exact M _ _)))
    refine qz λN f=> ?_;have u:=kO Y f;have q:=hid (a.out.trans (f.mono C));have ab:=q.out.size;have ak:=hid (U.out N q.out);clear y1 y2 M f
    go_wp2_with (first
     |(refine lM ak aH ?_)
     |(at_builtin;refine bX _ rfl _ _ 25 rfl w.heap.size 45 i0 (.agg #[(0:Int),(0:Int),(0:Int),.slice none 0 0,(0:Int),(0:Int),.slice none 0 0]) 7 88 bV hi ad ae af rfl (by decide) (.slice A' m c') m _ rfl (by exact u.out.alloc _) ⟨N.heap.size,0,none⟩ 1 1 [t,r,n,.slice G D.length H,E,F,.slice I l.length J] rfl rfl (λj y h=>dH N [t,r,n,.slice G D.length H,E,F,.slice I l.length J] 45 j y h) (fw (c:=#[t,r,n,.slice G D.length H,E,F,.slice I l.length J]) rfl) (by decide) (by unfold maxLen;omega) (by omega) (by simp;omega) (N.heap.size+1) (by simp) ?_;intro gq am w5 O x ha ac;have an:=hid O;have ao:=hid ((q.out.alloc ab _).grown x (by simp;omega) (λb hb=>(u.out.lt b hb).1));clear O x ha ac))
    go_roundw
    case rel=>exact⟨k+1,some ⟨gq,0,none⟩,am,m+1,by omega,by go_num,rfl,by omega,hid (by rw[s.out,aJ rfl,al,<-B.out];rfl),hid (by rw[s.out,aJ rfl,aI];exact an.out),ao⟩
    case measure=>(simp[RowKit.intOf];omega)
  ·obtain rfl:k=L.length:=by omega
   have i2:¬(L.length:Int)<(L.length:Int):=by omega
   have X:=hid (show m=(dG v L).length by have P:=B.out;rw[aK] at P;exact P);have ap:=hid (show wr.ownsRow w.heap.size 45 7 (.slice A' m c') m ((dG v L).flatMap grC_) by have P:=Y.out;rw[aK] at P;exact P);go_wp2;go_ret;refine⟨A',c',by rw[<-X.out];rfl,?_,a.out⟩;rw[<-X.out];exact ap.out
def latT (L:List (Grp×GrX)):Int:=L.foldl (λt p=>max t p.1.s.t) 0
theorem latest_any (L:List (Grp×GrX)) (A:Option Addr) (c:Nat) (w:World) (hl:L.length<=100000) (hR:RowGr w A L):
  Calls Tryz.prog 89 #[.slice A L.length c] w λe w'=>e= .returned (.int .i64 (latT L))∧Below w.heap.size w w':=by
 have v:=hid hR;clear hR;go_enter Tryz.func89,Tryz.ntmps89;go_upto_region 3 with fail;go_loopw [3,4] (λo i wr=>∃(k:Nat) (T:Int),k<=L.length∧i= .int .i64 k∧o= .int .i64 T∧Hid (T=latT (L.take k))∧Hid (Below w.heap.size w wr)) (λo i _=>L.length-(RowKit.intOf i).toNat)
 case atStart=>exact⟨0,0,aq _,rfl,rfl,hid rfl,hid (ag _ _)⟩
 case round=>
  obtain⟨k,T,C,rfl,rfl,l,b⟩:=hrel;by_cases f:k<L.length
  ·have D:(0:Int)<=(k:Int):=by omega
   have x:(k:Int)<(L.length:Int):=by omega
   obtain⟨y,z,rfl,g,a⟩:=v.out.range f;have h:latT (L.take (k+1))=max T (L.getD k gp0).1.s.t:=by rw[l.out];exact eL _ _ f gp0
   generalize L.getD k gp0=p at *;obtain⟨⟨⟨t,r⟩,n,E,⟨F,G⟩,B⟩,⟨H,I,J,K⟩⟩:=p;obtain⟨j,d⟩:∃q,q=max T t:=⟨_,rfl⟩;have M:max T t=j:=d.symm;have m:=hid (show latT (L.take (k+1))=j by rw[h,d]);have N:wr.cell? ⟨y,z+k*7,none⟩=some (.int .i64 t):=(cd a g b.out) 0 _ rfl;clear h d a g;go_wp2;go_roundw
   case rel=>exact⟨k+1,j,by omega,by go_num,rfl,hid m.out.symm,b⟩
   case measure=>(simp[RowKit.intOf];omega)
  ·obtain rfl:k=L.length:=by omega
   have x:¬(L.length:Int)<(L.length:Int):=by omega
   have s:=hid (show T=latT L by have u:=l.out;rw[aK] at u;exact u);go_wp2;go_ret;exact⟨by rw[<-s.out];rfl,b.out⟩
def mixL (L:List (Grp×GrX)) (P:List Int):List (Grp×GrX):=P.map λq=>L.getD (q.toNat % L.length) gp0
def mixN (L:List (Grp×GrX)) (P:List Int):Nat:=if L.length=0 then 0 else min P.length 30
def mixed (L:List (Grp×GrX)) (P:List Int):List (Grp×GrX):=mixL L (P.take (mixN L P))
theorem mixed_mem {L:List (Grp×GrX)} {P:List Int} {p:Grp×GrX} (h:p∈mixed L P):p∈L:=by
 unfold mixed mixL at h;obtain⟨q,a,rfl⟩:=bj.1 h;by_cases b:L.length=0
 ·unfold mixN at a;rw[aJ b,iu] at a;cases a
 ·exact bL (fv _ (by omega)) gp0
theorem mixed_len (L:List (Grp×GrX)) (P:List Int):(mixed L P).length<=30:=by
 unfold mixed mixL mixN;rw[aQ,aP];split<;>omega
def u8L (q:Int):List Value:=[.int .u8 q]
theorem mixed_any (L:List (Grp×GrX)) (A:Option Addr) (c:Nat) (P:List Int) (pA:Option Addr) (pc:Nat) (S:Nat->Prop) (w:World) (hl:L.length<=100000) (hp:P.length<=9223372036854775807) (hR:RowGr w A L) (hP:RowF w S pA 1 u8L 0 P) (hb:∀q∈P,0<=q∧q<=255):
  Calls Tryz.prog 19 #[.slice A L.length c,.slice pA P.length pc] w λe w'=>∃A' c',e= .returned (.slice A' (mixed L P).length c')∧w'.ownsRow w.heap.size 45 7 (.slice A' (mixed L P).length c') (mixed L P).length ((mixed L P).flatMap grC_)∧Below w.heap.size w w':=by
 obtain⟨i0,hi,Q,R,T⟩:=bD ia;have HR:=hid hR;have HP:=hid hP;have U:=hid hb;obtain⟨N,v⟩:∃N,N=mixN L P:=⟨_,rfl⟩;have ak:N<=30∧N<=P.length:=by rw[v];unfold mixN;split<;>omega
 have V:=hid (show mixed L P=mixL L (P.take N) by rw[v];rfl);have W:=hid (show(mixL L (P.take N)).length=N by unfold mixL;rw[aQ,aP];omega);have X:=hid v;rw[V.out,W.out];clear hR hP hb v;go_enter Tryz.func19,Tryz.ntmps19;go_upto_region 3 with fail;go_loopw [5,6] (λo i wr=>∃(k:Nat) (A':Option Addr) (c':Nat),k<=N∧i= .int .i64 k∧o= .slice A' k c'∧Hid (wr.ownsRow w.heap.size 45 7 (.slice A' k c') k ((mixL L (P.take k)).flatMap grC_))∧Hid (Below w.heap.size w wr)) (λo i _=>30-(RowKit.intOf i).toNat)
 case atStart=>exact⟨0,none,0,aq _,rfl,rfl,hid (aF _ _ _ _),hid (ag _ _)⟩
 case round=>
  obtain⟨k,A',c',hk,rfl,rfl,m,a⟩:=hrel;have Y:=a.out.size;by_cases al:k<N
  ·have Z:0<L.length:=by
    rcases Nat.eq_zero_or_pos L.length with K|K
    ·have:=X.out;unfold mixN at this;rw[aJ K] at this;omega
    ·exact K
   have i1:(k:Int)<(P.length:Int):=by omega
   have i2:(k:Int)<30:=by omega
   have M:(0:Int)<(L.length:Int):=by omega
   have i4:(0:Int)<=(k:Int):=by omega
   obtain⟨pb,po,rfl,-,aa,d⟩:=HP.out.range (λ_=>rfl) (k:=k) (by omega);have J:P.take (k+1)=P.take k++[P.getD k 0]:=dF (by omega) 0;have am:=U.out _ (bL (L:=P) (k:=k) (by omega) 0);generalize P.getD k 0=q at *;obtain⟨q,rfl⟩:∃x:Nat,q=(x:Int):=⟨q.toNat,by omega⟩;obtain⟨u,z⟩:∃u,u=q % L.length:=⟨_,rfl⟩;have ab:u<L.length:=by rw[z];exact fv _ Z
   have j1:IntKind.i64.wrap (q:Int)=(q:Int):=by rw[bz];omega
   have j2:((q:Int)).tmod (L.length:Int)=(u:Int):=by rw[ee (by omega),z];rfl
   have j3:IntKind.i64.wrap (u:Int)=(u:Int):=by rw[bz];omega
   have j4:(0:Int)<=(u:Int):=by omega
   have j5:(u:Int)<(L.length:Int):=by omega
   have j6:¬(L.length:Int)=0:=by omega
   have j7:((L.length:Int) == 0)=false:=by rw[aV];omega
   obtain⟨rb,ro,rfl,ac,f⟩:=HR.out.range ab;have ad:=hid (show mixL L (P.take (k+1))=mixL L (P.take k)++[L.getD u gp0] by unfold mixL;rw[J,bq,List.map_cons,List.map_nil,dL,<-z]);have y0:wr.cell? ⟨pb,po+k,none⟩=some (.int .u8 (q:Int)):=by
    have B:=(cd d aa a.out) 0 _ rfl;rwa[jE] at B
   generalize L.getD u gp0=p at *;obtain⟨⟨⟨t,r⟩,n,C,⟨D,E⟩,g⟩,⟨F,G,H,I⟩⟩:=p;have ae:=hid (show wr.rangeAt rb (ro+u*7) [t,r,n,.slice F C.length G,D,E,.slice H g.length I] from cd f ac a.out);clear J z d f
   go_wp2_with (first
    |(refine lM ae aH ?_)
    |(at_builtin;refine bX _ rfl _ _ 25 rfl w.heap.size 45 i0 (.agg #[(0:Int),(0:Int),(0:Int),.slice none 0 0,(0:Int),(0:Int),.slice none 0 0]) 7 88 bV hi Q R T rfl (by decide) (.slice A' k c') k _ rfl (by exact m.out.alloc _) ⟨wr.heap.size,0,none⟩ 1 1 [t,r,n,.slice F C.length G,D,E,.slice H g.length I] rfl rfl (λj y h=>dH wr [t,r,n,.slice F C.length G,D,E,.slice H g.length I] 45 j y h) (fw (c:=#[t,r,n,.slice F C.length G,D,E,.slice H g.length I]) rfl) (by decide) (by unfold maxLen;omega) (by omega) (by simp;omega) (wr.heap.size+1) (by simp) ?_;intro gq af w5 s l ha O;have ah:=hid s;have ai:=hid ((a.out.alloc Y _).grown l (by simp;omega) (λb hb=>(m.out.lt b hb).1));clear s l ha O))
   go_roundw
   case rel=>exact⟨k+1,some ⟨gq,0,none⟩,af,by omega,by go_num,rfl,hid (by rw[ad.out,aI];exact ah.out),ai⟩
   case measure=>(simp[RowKit.intOf];omega)
  ·obtain rfl:k=N:=by omega
   have aj:P.length<=k∨30<=k∨L.length=0:=by
    have B:=X.out;unfold mixN at B;split at B<;>omega
   have i1:¬((k:Int)<(P.length:Int)∧(k:Int)<30∧(0:Int)<(L.length:Int)):=by omega
   by_cases c1:k<P.length
   ·by_cases c2:k<30
    ·have M:(k:Int)<(P.length:Int):=by omega
     have i4:(k:Int)<30:=by omega
     have i5:¬(0:Int)<(L.length:Int):=by omega
     go_wp2;go_ret;exact⟨A',c',rfl,m.out,a.out⟩
    ·have M:(k:Int)<(P.length:Int):=by omega
     have i4:¬(k:Int)<30:=by omega
     go_wp2;go_ret;exact⟨A',c',rfl,m.out,a.out⟩
   ·have M:¬(k:Int)<(P.length:Int):=by omega
    go_wp2;go_ret;exact⟨A',c',rfl,m.out,a.out⟩
def maxV (v u:List Int):List Int:=(List.range (max v.length u.length)).map λk=>max (v.getD k 0) (u.getD k 0)
def iq (v u:List Int):List Int:=bW (maxV v u)
theorem maxV_len (v u:List Int):(maxV v u).length=max v.length u.length:=by unfold maxV;simp
theorem getD_out {v:List Int} {k:Nat} (h:v.length<=k):v.getD k 0=0:=by rw[ae,ck h];rfl
theorem maxV_getD (v u:List Int) (k:Nat):(maxV v u).getD k 0=max (v.getD k 0) (u.getD k 0):=by
 unfold maxV;rw[ae,cT];by_cases h:k<max v.length u.length
 ·rw[iU h];rfl
 ·rw[ck (by simpa using h),Option.map_none,Option.getD_none,getD_out (by omega),getD_out (by omega)];rfl
theorem mergeV_getD (v u:List Int) (k:Nat):(iq v u).getD k 0=max (v.getD k 0) (u.getD k 0):=by unfold iq;rw[pv_getD,maxV_getD]
theorem mergeV_len (v u:List Int):(iq v u).length<=max v.length u.length:=by
 unfold iq;have a:=pv_len (maxV v u);rw[maxV_len] at a;exact a
theorem own_capmax {w:World} {B E s n c:Nat} {A:Option Addr} {xs:List Value} (h:w.ownsRow B E s (.slice A n c) n xs):c<=maxLen:=by
 rcases h.2 with⟨e1,e2⟩|⟨g,cap,cur,e1,e2,e3,e4,e5,e6⟩
 ·cases e1;exact aq _
 ·cases e1;exact e5
theorem refmerge_any (A A2:Option Addr) (c c2:Nat) (v u:List Int) (w:World) (hv:v.length<=1000) (hu:u.length<=1000) (hA:VecR w A v) (hA2:VecR w A2 u):
  Calls Tryz.prog 87 #[.slice A v.length c,.slice A2 u.length c2] w λe w'=>∃A' c',e= .returned (.slice A' (iq v u).length c')∧VecS w' (λk=>w.heap.size<=k) A' (iq v u)∧(iq v u).length<=c'∧c'<=maxLen∧Below w.heap.size w w':=by
 obtain⟨Y,Z,D,E,F⟩:=bD infointC_;obtain⟨d,j⟩:∃d,d=maxV v u:=⟨_,rfl⟩;have G:=hid (show iq v u=bW d by rw[j];rfl);have H:=hid (show ∀k:Nat,d.getD k 0=max (v.getD k 0) (u.getD k 0) from λk=>by rw[j];exact maxV_getD v u k);have I:d.length=max v.length u.length:=by rw[j,maxV_len]
 obtain⟨m,J⟩:∃m,m=d.length:=⟨_,rfl⟩;have aa:m<=1000:=by omega
 have e0:max (v.length:Int) (u.length:Int)=(m:Int):=by omega
 have g:=hid J;have HA:=hid hA;have K:=hid hA2;rw[G.out];clear j I J hA hA2;go_enter Tryz.func87,Tryz.ntmps87;go_upto_region 3 with fail;go_loopw [5,6] (λo i wr=>∃(k:Nat) (A':Option Addr) (c':Nat),k<=m∧i= .int .i64 ((k:Int)+1)∧o= .slice A' k c'∧Hid (wr.ownsRow w.heap.size 3 1 (.slice A' k c') k ((d.take k).flatMap iE))∧Hid (Below w.heap.size w wr)) (λo i _=>m+1-(RowKit.intOf i).toNat)
 case atStart=>exact⟨0,none,0,aq _,by go_num,rfl,hid (aF _ _ _ _),hid (ag _ _)⟩
 case round=>
  obtain⟨k,A',c',hk,rfl,rfl,t,h⟩:=hrel;have L:=h.out.size;by_cases M:k<m
  ·have i1:(k:Int)+1<=(m:Int):=by omega
   have N:=hid (take_int d k (by rw[<-g.out];exact M));have O:=hid (λW (x:Below w.heap.size w W)=>by have f:=fh A c v ((k:Int)+1) W (by omega) (HA.out.below x);rw[show atV v ((k:Int)+1)=v.getD k 0 from kG] at f;exact f);have P:=hid (λW (x:Below w.heap.size w W)=>by have f:=fh A2 c2 u ((k:Int)+1) W (by omega) (K.out.below x);rw[show atV u ((k:Int)+1)=u.getD k 0 from kG] at f;exact f);have Q:=H.out k;generalize v.getD k 0=a at *;generalize u.getD k 0=b at *;obtain⟨z,y⟩:∃z,z=max a b:=⟨_,rfl⟩;have e1:max a b=z:=y.symm;have HX:=hid (show d.getD k 0=z by rw[Q,y]);clear y Q
   go_wp2_with (first
    |(go_at_call 55;refine(O.out wr h.out).mono ?_;rintro e w' ⟨rfl,rfl⟩)
    |(go_at_call 55;refine(P.out _ h.out).mono ?_;rintro e w' ⟨rfl,rfl⟩)
    |(at_builtin;refine bu _ rfl _ _ 27 rfl w.heap.size 3 Y (.int .i64 0) 1 8 Tryz.underlying27 Z D E F rfl (by decide) (.slice A' k c') k _ rfl (by exact t.out.alloc _) ⟨_,0,none⟩ 1 1 (iE z) rfl rfl (by exact dH _ _ _) (by exact ocintC_ _) (by unfold maxLen;omega) (by omega) (by simp;omega) ?_;intro v' w3 l n _;have s:=hid l;have R:=hid ((h.out.alloc L _).grown n (by simp;omega) (λb hb=>(t.out.lt b hb).1));clear l n))
   obtain⟨A9,c9,rfl⟩:=bZ s.out;go_roundw
   case rel=>exact⟨k+1,A9,c9,by omega,by go_num,rfl,hid (by rw[N.out,HX.out];exact s.out),R⟩
   case measure=>(simp[RowKit.intOf];omega)
  ·obtain rfl:k=m:=by omega
   have i1:¬(k:Int)+1<=(k:Int):=by omega
   have p:wr.ownsRow w.heap.size 3 1 (.slice A' k c') k (d.flatMap iE):=by have f:=t.out;rw[g.out,aK,<-g.out] at f;exact f
   have q:=p;rw[g.out] at q;have r:=vec_own q;have B:=row_cap p;have S:=hid (vecS_plain r);have T:=pv_len d;have C:=g.out;have U:=hid (own_capmax p)
   have V:=hid (show Calls Tryz.prog 105 #[.slice A' k c'] wr λe w'=>e= .returned (.slice A' (bW d).length c')∧w'=wr from by
    have f:=kz A' c' d wr (by omega) (by omega) (VecS.vec r)
    rw[<-g.out] at f;exact f)
   have X:=hid (show(bW d).length<=c' by omega);clear p q r B T C;go_wp2_with (go_at_call 105;refine V.out.mono ?_;rintro e w9 ⟨rfl,rfl⟩);go_ret;exact⟨A',c',rfl,S.out,X.out,U.out,h.out⟩
def jX (l:List Gid) (n:Nat):Gid:=l.getD (n % (l.length+1)) .zero
theorem pick_any (L:List Gid) (A:Option Addr) (c:Nat) (q:Nat) (S:Nat->Prop) (w:World) (hl:L.length<=100000) (hq:q<=255) (hR:RowF w S A 3 idL .zero L):
  Calls Tryz.prog 143 #[.slice A L.length c,.int .u8 (q:Int)] w λe w'=>e= .returned (.agg (idL (jX L q)).toArray)∧Below w.heap.size w w':=by
 obtain⟨u,f⟩:∃u,u=q % (L.length+1):=⟨_,rfl⟩;have s:u<=L.length:=by have:=fv q (show 0<L.length+1 by omega);omega
 have y:IntKind.i64.wrap (q:Int)=(q:Int):=by rw[bz];omega
 have z:((q:Int)).tmod ((L.length:Int)+1)=(u:Int):=by rw[ee (by omega),f];rfl
 have B:IntKind.i64.wrap (u:Int)=(u:Int):=by rw[bz];omega
 have C:¬(L.length:Int)+1=0:=by omega
 have g:=hid (show jX L q=L.getD u .zero by unfold jX;rw[f]);have j:=hid hR;have b:=hid (show Below w.heap.size w (w.alloc (.cells #[(0:Int),(0:Int),(0:Int)] 108)) from(ag _ _).alloc (aa _) _);clear f hR;rw[g.out];by_cases h:u=L.length
 ·have l:((u:Int) == (L.length:Int))=true:=by rw[ce];omega
  have m:=hid (show L.getD u Gid.zero=Gid.zero by rw[ae,ck (by omega)];rfl);rw[m.out];go_enter Tryz.func143,Tryz.ntmps143;go_wp2;refine bB (v:= .agg #[(0:Int),(0:Int),(0:Int)]) (by simp[results,Tryz.results143,go_sem]) rfl ?_;exact⟨rfl,b.out⟩
 ·have l:((u:Int) == (L.length:Int))=false:=by rw[aV];omega
  have D:(0:Int)<=(u:Int):=by omega
  have E:(u:Int)<(L.length:Int):=by omega
  obtain⟨o,p,rfl,-,d,a⟩:=j.out.range (λ_=>rfl) (k:=u) (by omega);generalize L.getD u Gid.zero=x at *;obtain⟨⟨t,r⟩,n⟩:=x;have i:=hid (cd (show w.rangeAt o (p+u*3) [t,r,n] from a) d b.out);clear a d;go_enter Tryz.func143,Tryz.ntmps143
  go_wp2_with (first
   |(refine lM i aw ?_)
   |(refine bM rfl _ _ _ rfl _ _ _ _ rfl ?_ rfl ?_ ?_ ?_ ?_;(focus(simp;done));kernel_rfl;rfl;rfl))
  refine bB (v:= .agg #[t,r,n]) (by simp[results,Tryz.results143,go_sem]) rfl ?_;exact⟨rfl,(ag _ _).alloc (aa _) _⟩
theorem joined_any (L M:List Gid) (A A2:Option Addr) (c c2 B B2:Nat) (w:World) (hl:L.length<=100000) (hl2:M.length<=100000) (hO:w.ownsRow B 108 3 (.slice A L.length c) L.length (L.flatMap idL)) (hO2:w.ownsRow B2 108 3 (.slice A2 M.length c2) M.length (M.flatMap idL)):
  Calls Tryz.prog 144 #[.slice A L.length c,.slice A2 M.length c2] w λe w'=>∃A' c',e= .returned (.slice A' (L++M).length c')∧w'.ownsRow w.heap.size 108 3 (.slice A' (L++M).length c') (L++M).length ((L++M).flatMap idL)∧Below w.heap.size w w':=by
 obtain⟨H,I,v,y,z⟩:=bD info_id;have o:=row_at hO;have m:=row_at hO2;have J:∀r,A2=some r->r.block<w.heap.size:=λr e=>by
  rcases hO2.2 with⟨e1,e2⟩|⟨g,cap,cur,e1,e2,e3,e4⟩
  ·injection e1 with E;rw[E] at e;cases e
  ·injection e1 with E;rw[E] at e;injection e with e;rw[<-e];exact lt_of_block e3
 clear hO hO2;have K:=hid (flat_len (f:=idL) (s:=3) (λ_=>rfl) L);have N:=hid (flat_len (f:=idL) (s:=3) (λ_=>rfl) M);have O:=hid (show ∀u∈L.flatMap idL,u.oneCell'=true from λu S=>by obtain⟨x,-,o⟩:=dI.1 S;exact oc_idL x u o);have P:=hid (show ∀u∈M.flatMap idL,u.oneCell'=true from λu S=>by obtain⟨x,-,o⟩:=dI.1 S;exact oc_idL x u o);cases A with
 | none=>
  have h0:=o.1 rfl;obtain rfl:L=[]:=ci.1 h0;cases A2 with
  |none=>
   have T:=m.1 rfl;obtain rfl:M=[]:=ci.1 T;go_enter Tryz.func144,Tryz.ntmps144;go_wp2;go_ret;exact⟨none,0,rfl,aF _ _ _ _,ag _ _⟩
  |some l=>
   have C:=hid (m.2 l rfl);clear o m;go_enter Tryz.func144,Tryz.ntmps144;go_upto_region 3 with fail;go_wp2_with (at_builtin;refine bu _ rfl _ _ 123 rfl w.heap.size 108 H (.agg #[(0:Int),(0:Int),(0:Int)]) 3 24 eQ I v y z rfl (by decide) (.slice none 0 0) 0 _ rfl (by exact(aF w w.heap.size 108 3)) l M.length c2 (M.flatMap idL) rfl N.out C.out P.out (by unfold maxLen;omega) (by omega) (by simp) ?_;intro U q h d _;have i:=hid h;have k:=hid (Below.grown (ag w.heap.size w) d (by simp) (λb t=>(i9 (aF w w.heap.size 108 3) b t).1));clear h d);obtain⟨F,p,rfl⟩:=bZ i.out;rw[bN] at i ⊢;go_ret;exact⟨F,p,rfl,i.out,k.out⟩
 | some r=>
  have V:=hid (o.2 r rfl);cases A2 with
  | none=>
   have T:=m.1 rfl;obtain rfl:M=[]:=ci.1 T;clear o m;go_enter Tryz.func144,Tryz.ntmps144;go_upto_region 3 with(at_builtin;refine bu _ rfl _ _ 123 rfl w.heap.size 108 H (.agg #[(0:Int),(0:Int),(0:Int)]) 3 24 eQ I v y z rfl (by decide) (.slice none 0 0) 0 _ rfl (by exact(aF w w.heap.size 108 3)) r L.length c (L.flatMap idL) rfl K.out V.out O.out (by unfold maxLen;omega) (by omega) (by simp) ?_;intro U q h d _;have i:=hid h;have k:=hid (Below.grown (ag w.heap.size w) d (by simp) (λb t=>(i9 (aF w w.heap.size 108 3) b t).1));clear h d);rw[bN] at i;obtain⟨F,p,rfl⟩:=bZ i.out;have n:=hid (show q.ownsRow w.heap.size 108 3 (.slice F L.length p) L.length ((L++[]).flatMap idL) by rw[fV];exact i.out);rcases n.out.2 with⟨e1,e2⟩|⟨g,cap,cur,e1,e2,e3,e4,E,e6⟩
   ·injection e1 with W X Y;subst W;have hL:L=[]:=ci.1 X;subst hL Y;go_wp2;go_ret;exact⟨none,0,rfl,n.out,k.out⟩
   ·injection e1 with W X Y;subst W Y;have k1:¬p<L.length:=by omega
    have k2:¬p<L.length+0:=by omega
    have HU:=hid e4;clear e2 e3 E e6 X;go_wp2;go_ret
    first
     |exact⟨_,p,rfl,n.out,k.out⟩
     |(have D:=n.out;refine⟨_,p,rfl,?_,k.out⟩;simpa using D)
  |some l=>
   have C:=hid (m.2 l rfl);have Q:=hid (J l rfl);clear o m J;go_enter Tryz.func144,Tryz.ntmps144;go_upto_region 3 with(at_builtin;refine bu _ rfl _ _ 123 rfl w.heap.size 108 H (.agg #[(0:Int),(0:Int),(0:Int)]) 3 24 eQ I v y z rfl (by decide) (.slice none 0 0) 0 _ rfl (by exact(aF w w.heap.size 108 3)) r L.length c (L.flatMap idL) rfl K.out V.out O.out (by unfold maxLen;omega) (by omega) (by simp) ?_;intro U q h d _;have i:=hid h;have k:=hid (Below.grown (ag w.heap.size w) d (by simp) (λb t=>(i9 (aF w w.heap.size 108 3) b t).1));clear h d);rw[bN] at i;obtain⟨F,p,rfl⟩:=bZ i.out;have n:=hid i.out;have R:=hid k.out;have Z:=hid (show ∀(j:Nat) (u:Value),(M.flatMap idL)[j]? =some u->q.cell? (l.add j)=some u from λj u hj=>(aS (w:=w) (w':=q) (a:=l.add j) (by rw[show(l.add j).block=l.block from by unfold Addr.add;split<;>rfl];exact k.out.block _ Q.out)).trans (C.out j u hj));generalize q=w6 at *;clear i k V C Q;have aa:=R.out.size
   go_wp2_with (at_builtin;refine bu _ rfl _ _ 123 rfl w.heap.size 108 H (.agg #[(0:Int),(0:Int),(0:Int)]) 3 24 eQ I v y z rfl (by decide) (.slice F L.length p) L.length _ rfl (by exact n.out) l M.length c2 (M.flatMap idL) rfl N.out Z.out P.out (by unfold maxLen;omega) (by omega) (by omega) ?_;intro U q h d _;have i:=hid h;have k:=hid (Below.grown R.out d (by omega) (λb t=>(i9 n.out b t).1));clear h d);obtain⟨A8,c8,rfl⟩:=bZ i.out;have G:=hid (show q.ownsRow w.heap.size 108 3 (.slice A8 (L++M).length c8) (L++M).length ((L++M).flatMap idL) by rw[al,aI];exact i.out);go_ret;refine⟨A8,c8,?_,?_,k.out⟩
   ·first
     |rfl
     |(rw[al];rfl)
     |simp
   ·first
     |exact G.out
     |(have D:=G.out;rw[al] at D;exact D)
     |(have D:=G.out;simpa using D)
end
end Go.Proofs.YtkhmicndehlneaaGreatDoor
