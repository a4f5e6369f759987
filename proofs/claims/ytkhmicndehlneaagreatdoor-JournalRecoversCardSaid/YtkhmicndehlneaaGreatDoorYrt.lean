/- Part 20 of the walks and plain laws that this claim uses, joined. Conditions: as each theorem states. -/
import Derived.Test.YtkhmicndehlneaaGreatDoorYrs
namespace Go.Proofs.YtkhmicndehlneaaGreatDoor
set_option maxRecDepth 100000
set_option maxHeartbeats 16000000
set_option linter.unusedVariables false
section
open Go.RowKit Go.Lib Go.Sort
attribute [local go_sem ↓] Go.wp_at_zero Go.wp_at_succ
def stepL (G:List Dt) (out:List Gid) (d:Dt):List Gid:=if (G.any (λy=>y.eqb d) || out.any (λy=>y.eqb d.n))=true then out else insB (λy=>d.n.lt y) Gid.zero out d.n
def gU (G l:List Dt):List Gid:=l.foldl (stepL G) []
def stepO (G:List Dt) (x:Gid) (out:List Gst) (d:Dt):List Gst:=if (!(d.n.eqb x) || G.any (λy=>y.eqb d) || out.any (λy=>y.eqb d.b))=true then out else insB (λy=>d.b.lt y) Gst.zero out d.b
def ofL (G:List Dt) (x:Gid) (l:List Dt):List Gst:=l.foldl (stepO G x) []
theorem stepL_len (G:List Dt) (a:List Gid) (d:Dt):(stepL G a d).length<=a.length+1:=by
 unfold stepL;split
 ·omega
 ·rw[km];exact aa _
theorem stepO_len (G:List Dt) (x:Gid) (a:List Gst) (d:Dt):(stepO G x a d).length<=a.length+1:=by
 unfold stepO;split
 ·omega
 ·rw[km];exact aa _
theorem liveL_len (G:List Dt):∀(l:List Dt) (out:List Gid),(l.foldl (stepL G) out).length<=out.length+l.length
 | [],out=>aa _
 |d::l,out=>by
  have h1:=liveL_len G l (stepL G out d)
  have h2:=stepL_len G out d
  rw[ed,bQ];omega
theorem ofL_len (G:List Dt) (x:Gid):∀(l:List Dt) (out:List Gst),(l.foldl (stepO G x) out).length<=out.length+l.length
 | [],out=>aa _
 |d::l,out=>by
  have h1:=ofL_len G x l (stepO G x out d)
  have h2:=stepO_len G x out d
  rw[ed,bQ];omega
theorem live_any (L G:List Dt) (A A2:Option Addr) (c c2:Nat) (S S2:Nat->Prop) (w:World) (hl:L.length<=100000) (bF:G.length<=100000) (hR:RowF w S A 5 dtL dt0 L) (aW:RowF w S2 A2 5 dtL dt0 G):
  Calls Tryz.prog 113 #[.slice A L.length c,.slice A2 G.length c2] w λe w'=>∃A' c',e= .returned (.slice A' (gU G L).length c')∧w'.ownsRow w.heap.size 108 3 (.slice A' (gU G L).length c') (gU G L).length ((gU G L).flatMap idL)∧Below w.heap.size w w':=by
 obtain⟨i0,hi,bh,bi,ah⟩:=bx info_id;have HR:=hid hR;have bj:=hid aW;clear hR aW;go_enter Tryz.func113,Tryz.ntmps113;go_upto_region 3 with fail;go_loopw [5,6] (λo i wr=>∃(k:Nat) (A':Option Addr) (c' m:Nat) (M:List Gid),k<=L.length∧i= .int .i64 k∧o= .slice A' m c'∧m<=k∧Hid (m=M.length)∧Hid (M=gU G (L.take k))∧Hid (wr.ownsRow w.heap.size 108 3 (.slice A' m c') m (M.flatMap idL))∧Hid (Below w.heap.size w wr)) (λo i _=>L.length-(RowKit.intOf i).toNat)
 case atStart=>exact⟨0,none,0,0,[],aq _,rfl,rfl,aa _,hid rfl,hid rfl,hid (aH _ _ _ _),hid (ag _ _)⟩
 case round=>
  obtain⟨k,A',c',m,M,hk,rfl,rfl,bG,l,HM,HO,ai⟩:=hrel;by_cases aX:k<L.length
  ·have i1:(0:Int)<=(k:Int):=by omega
   have i2:(k:Int)<(L.length:Int):=by omega
   obtain⟨rb,ro,rfl,-,aZ,ab⟩:=HR.o.range (λ_=>rfl) aX;have a0:gU G (L.take (k+1))=stepL G M (L.getD k dt0):=by rw[HM.o];exact eU _ _ aX dt0
   generalize L.getD k dt0=p at *;obtain⟨⟨⟨t,r⟩,n⟩,⟨bt,br⟩⟩:=p;have a1:=hid (λW (hB:Below w.heap.size w W)=>show W.rangeAt rb (ro+k*5) [.int .i64 t,.int .i64 r,.int .i64 n,.int .i64 bt,.int .i64 br] from ct ab aZ hB);have ac:=hid a0;have bk:=ai.o.size;have bE:m<=100000:=by omega
   clear ab aZ a0;obtain⟨b1,av⟩:∃b,b=G.any (λy=>y.eqb ⟨⟨⟨t,r⟩,n⟩,⟨bt,br⟩⟩):=⟨_,rfl⟩;obtain⟨b3,aw⟩:∃b,b=M.any (λy=>y.eqb ⟨⟨t,r⟩,n⟩):=⟨_,rfl⟩;have al:=hid (λW (hB:Below w.heap.size w W)=>show Calls Tryz.prog 174 #[.slice A2 G.length c2,.agg #[t,r,n,bt,br]] W λe w'=>e= .returned (.bool b1)∧Below W.heap.size W w' from by rw[av];exact hasdot_any G A2 c2 ⟨⟨⟨t,r⟩,n⟩,⟨bt,br⟩⟩ S2 W (by omega) (bj.o.below hB))
   have ad:=hid (λW (hB:Below wr.heap.size wr W)=>show Calls Tryz.prog 173 #[.slice A' m c',.agg #[t,r,n]] W λe w'=>e= .returned (.bool b3)∧Below W.heap.size W w' from by
    have h9:=hasid_any M A' c' ⟨⟨t,r⟩,n⟩ _ W (by rw[<-l.o];omega) (cT (f:=idL) (z:=Gid.zero) (λ_=>rfl) l.o (HO.o.kept (dB (r:=none) hB) (cX _)))
    rw[<-l.o,<-aw] at h9;exact h9)
   have ad:=hid (λW (hB:Below wr.heap.size wr W)=>ad.o W hB);have ac:=hid (show gU G (L.take (k+1))=if (b1 || b3)=true then M else insB (λy=>Gid.lt ⟨⟨t,r⟩,n⟩ y) Gid.zero M ⟨⟨t,r⟩,n⟩ by rw[ac.o,av,aw];rfl);have a2:=hid (show wr.rangeAt rb (ro+k*5) [.int .i64 t,.int .i64 r,.int .i64 n] from bC (pre:=[]) (post:=[.int .i64 bt,.int .i64 br]) (a1.o wr ai.o));clear av aw
   go_upto_region 6 with(first
    |(refine lM a2 az ?_)
    |(refine bR rfl _ _ _ rfl _ _ _ _ rfl ?_ rfl ?_ ?_ ?_ ?_;(focus(simp;done));kernel_rfl;rfl;rfl))
   have ax:=ai.o.alloc bk (.cells #[t,r,n] 108);have ay:Below wr.heap.size wr (wr.alloc (.cells #[t,r,n] 108)):=(ag _ _).alloc (aa _) _;have aA:=hid (an wr (.cells #[t,r,n] 108));generalize hW:wr.alloc (.cells #[t,r,n] 108)=W at *;have O:=hid ax;have aB:=hid ay;have am:=hid (a1.o W ax);have a3:=kO HO ay;clear hW ax ay;cases b1 with
   | true=>
    have T:=hid (show gU G (L.take (k+1))=M by rw[ac.o];rfl)
    go_wp2_with (first
     |(refine lM am Tryz.underlying163 ?_)
     |(go_at_call 174;refine(al.o W O.o).mono ?_;rintro e w3 ⟨rfl,s⟩;have P:=bT O s;have Q:=kO a3 s;clear s))
    go_roundw
    case rel=>exact⟨k+1,A',c',m,M,by omega,by go_num,rfl,by omega,l,hid T.o.symm,Q,P⟩
    case measure=>(simp[RowKit.intOf];omega)
   | false=>
    cases b3 with
    | true=>
     have T:=hid (show gU G (L.take (k+1))=M by rw[ac.o];rfl)
     go_wp2_with (first
      |(refine lM am Tryz.underlying163 ?_)
      |(refine lA u az ?_)
      |(go_at_call 174;refine(al.o W O.o).mono ?_;rintro e Z ⟨rfl,E⟩;have ao:=bT O E;have H:=bT aB E;have u:=bK E aA;have z0:Z.cell? ⟨wr.heap.size,0,none⟩=some (.int .i64 t):=aG _ _ _ _ _ _ u.o;have z1:Z.cell? ⟨wr.heap.size,1,none⟩=some (.int .i64 r):=aG _ _ _ _ _ _ u.o;have z2:Z.cell? ⟨wr.heap.size,2,none⟩=some (.int .i64 n):=aG _ _ _ _ _ _ u.o;clear E)
      |(go_at_call 173;refine(ad.o Z H.o).mono ?_;rintro e w3 ⟨rfl,s⟩;have P:=bT ao s;have Q:=hid (HO.o.kept (dB (r:=none) (H.o.trans (s.mono H.o.size))) (cX _));clear s))
     go_roundw
     case rel=>exact⟨k+1,A',c',m,M,by omega,by go_num,rfl,by omega,l,hid T.o.symm,Q,P⟩
     case measure=>(simp[RowKit.intOf];omega)
    | false=>
     have T:=hid (show gU G (L.take (k+1))=insB (λy:Gid=>Gid.lt ⟨⟨t,r⟩,n⟩ y) Gid.zero M ⟨⟨t,r⟩,n⟩ by rw[ac.o];rfl)
     go_upto_region 7 with(first
      |(refine lM am Tryz.underlying163 ?_)
      |(refine lA u az ?_)
      |(go_at_call 174;refine(al.o W O.o).mono ?_;rintro e Z ⟨rfl,E⟩;have ao:=bT O E;have H:=bT aB E;have u:=bK E aA;have z0:Z.cell? ⟨wr.heap.size,0,none⟩=some (.int .i64 t):=aG _ _ _ _ _ _ u.o;have z1:Z.cell? ⟨wr.heap.size,1,none⟩=some (.int .i64 r):=aG _ _ _ _ _ _ u.o;have z2:Z.cell? ⟨wr.heap.size,2,none⟩=some (.int .i64 n):=aG _ _ _ _ _ _ u.o;clear E)
      |(go_at_call 173;refine(ad.o Z H.o).mono ?_;rintro e w3 ⟨rfl,s⟩;have P:=bT ao s;have Q:=hid (HO.o.kept (dB (r:=none) (H.o.trans (s.mono H.o.size))) (cX _));have a4:=bK s u;clear s))
     have aC:=P.o.size
     go_upto_region 9 with(first
      |(refine lA a4 az ?_)
      |(at_builtin;refine cm _ rfl _ _ 123 rfl w.heap.size 108 i0 (.agg #[(0:Int),(0:Int),(0:Int)]) 3 24 eK hi bh bi ah rfl (by decide) (.slice A' m c') m _ rfl (by exact Q.o.alloc _) ⟨w3.heap.size,0,none⟩ 1 1 [.int .i64 t,.int .i64 r,.int .i64 n] rfl rfl (λj y h=>dH w3 [.int .i64 t,.int .i64 r,.int .i64 n] 108 j y h) (fx (c:=#[.int .i64 t,.int .i64 r,.int .i64 n]) rfl) (by decide) (by unfold maxLen;omega) (by omega) (by simp;omega) (w3.heap.size+1) (by simp) ?_;intro g D w5 aD ap ha bd;have a5:=hid aD;have bl:=hid ((P.o.alloc aC _).grown ap (by simp;omega) (λb hb=>(Q.o.lt b hb).1));clear aD ap ha bd))
     clear al ad aA O aB am a3 ao H u P Q a4 a2 aC;have a6:slid M (⟨⟨t,r⟩,n⟩:Gid) m=M++[⟨⟨t,r⟩,n⟩]:=by rw[l.o];exact jB _ _
     have bm:=hid (show w5.ownsRow w.heap.size 108 3 (.slice (some ⟨g,0,none⟩) (m+1) D) (m+1) ((slid M (⟨⟨t,r⟩,n⟩:Gid) m).flatMap idL) by rw[a6,aK];exact a5.o);clear a6 a5;generalize w5=w6 at *;go_loopw [8] (λi wx=>∃(q:Nat),i= .int .i64 q∧q<=m∧Hid (ek (λy:Gid=>Gid.lt ⟨⟨t,r⟩,n⟩ y) .zero M q=ek (λy:Gid=>Gid.lt ⟨⟨t,r⟩,n⟩ y) .zero M M.length)∧Hid (wx.ownsRow w.heap.size 108 3 (.slice (some ⟨g,0,none⟩) (m+1) D) (m+1) ((slid M (⟨⟨t,r⟩,n⟩:Gid) q).flatMap idL))∧Hid (Below w.heap.size w wx)) (λi _=>(RowKit.intOf i).toNat)
     case atStart=>exact⟨m,rfl,aa _,hid (by rw[l.o]),bm,bl⟩
     case round=>
      obtain⟨q,rfl,hq,aE,U,aF⟩:=hrel;by_cases h0:0<q
      ·obtain⟨q,rfl⟩:∃p,q=p+1:=⟨q-1,by omega⟩;have aI:q+1<=M.length:=by rw[<-l.o];exact hq
       have ar:m+1=(slid M (⟨⟨t,r⟩,n⟩:Gid) (q+1)).length:=by rw[eW,<-l.o]
       obtain⟨g3,e3,-,a7,R⟩:=cZ (f:=idL) (λ_=>rfl) ar U.o (k:=q) (by omega) .zero;cases e3;obtain⟨g4,e4,-,-,X⟩:=cZ (f:=idL) (λ_=>rfl) ar U.o (k:=q+1) (by omega) .zero;cases e4;rw[jz aI] at R;rw[kE aI] at X;have aJ:=it (L:=M) (x:=(⟨⟨t,r⟩,n⟩:Gid)) (z:= .zero) aI;obtain⟨y,hy⟩:∃y,y=M.getD q .zero:=⟨_,rfl⟩;rw[<-hy] at R aJ;obtain⟨b2,aL⟩:∃b,b=(λy:Gid=>Gid.lt ⟨⟨t,r⟩,n⟩ y) y:=⟨_,rfl⟩;have a8:=hid (show(λy:Gid=>Gid.lt ⟨⟨t,r⟩,n⟩ y) (M.getD q .zero)=b2 by rw[<-hy,aL]);clear hy;obtain⟨⟨I,J⟩,N⟩:=y;have bn:=hid (show wr.rangeAt g (q*3) [.int .i64 I,.int .i64 J,.int .i64 N] from R);have bo:=hid (show wr.rangeAt g ((q+1)*3) [.int .i64 t,.int .i64 r,.int .i64 n] from X);have y0:=aj (w:=wr) (a:=⟨g,q*3,none⟩) (v:= .int .i64 I) (R 0 _ rfl);have y1:=aj (w:=wr) (a:=⟨g,q*3+1,none⟩) (v:= .int .i64 J) (R 1 _ rfl);have y2:=aj (w:=wr) (a:=⟨g,q*3+2,none⟩) (v:= .int .i64 N) (R 2 _ rfl);have x0:=aj (w:=wr) (a:=⟨g,(q+1)*3,none⟩) (v:= .int .i64 t) (X 0 _ rfl);have x1:=aj (w:=wr) (a:=⟨g,(q+1)*3+1,none⟩) (v:= .int .i64 r) (X 1 _ rfl);have x2:=aj (w:=wr) (a:=⟨g,(q+1)*3+2,none⟩) (v:= .int .i64 n) (X 2 _ rfl);have bq:=hid aJ;have k1:(0:Int)<(q:Int)+1:=by omega
       have k2:(0:Int)<=(q:Int):=by omega
       have k3:(q:Int)<(m:Int)+1:=by omega
       have k4:(q:Int)+1<(m:Int)+1:=by omega
       have k5:(0:Int)<=(q:Int)+1:=by omega
       have k6:IntKind.i64.wrap (q:Int)=(q:Int):=by rw[bH];omega
       have ae:=hid ar;have a9:=λW=>gp t r n I J N W;obtain⟨zc,aM⟩:∃z,z=rcmpD ⟨⟨t,r⟩,n⟩ ⟨⟨I,J⟩,N⟩:=⟨_,rfl⟩;rw[<-aM] at a9;have ah:decide (0<=zc)= !b2:=by rw[aM,j0,aL]
       have bJ:decide (zc<0)=b2:=by cases b2<;>simp at ah ⊢ <;>omega
       clear aM ah;have cA:=λd os=>ak (a9 (grow (redrawn wr d) os));clear R X aL aJ ar;cases b2 with
       |false=>
        go_upto_region 9 with fail;refine rqb ?_
        repeat(any_goals(first|go_big_quiet_step (with_reducible exact cA _ _)|quiet_step (with_reducible exact cA _ _)))
        refine qz λF B=> ?_;have aN:=hid (show gU G (L.take (k+1))=slid M (⟨⟨t,r⟩,n⟩:Gid) (q+1) by rw[T.o];unfold insB;rw[<-aE.o,gi (.inr ⟨q,rfl,a8.o⟩)]);have aQ:=kO U B;have aR:=bT aF B;go_wp2;go_roundw
        case rel=>exact⟨k+1,some ⟨g,0,none⟩,D,m+1,_,by omega,by go_num,rfl,by omega,ae,hid aN.o.symm,aQ,aR⟩
        case measure=>(simp[RowKit.intOf];omega)
       | true=>
        go_upto_region 9 with fail;refine rqb ?_
        repeat(any_goals(first|go_big_quiet_step (with_reducible exact cA _ _)|quiet_step (with_reducible exact cA _ _)))
        refine qz λF B=> ?_;have be:=hid (show ek (λy:Gid=>Gid.lt ⟨⟨t,r⟩,n⟩ y) .zero M q=ek (λy:Gid=>Gid.lt ⟨⟨t,r⟩,n⟩ y) .zero M M.length by rw[<-aE.o,iL a8.o]);have aS:=hid (ct bn.o a7 B);have aT:=hid (ct bo.o a7 B);have af:=kO U B;have bf:=bT aF B;clear y0 y1 y2 x0 x1 x2 cA U B;go_upto_region 11 with fail;obtain⟨V1,aU⟩:∃V,V=F.drew.setCells g ((q+1)*3) (#[.int .i64 I,.int .i64 J,.int .i64 N]:Array Value).toList:=⟨_,rfl⟩;have Y:V1.ownsRow w.heap.size 108 3 (.slice (some ⟨g,0,none⟩) (m+1) D) (m+1) (((slid M (⟨⟨t,r⟩,n⟩:Gid) (q+1)).set (q+1) (⟨⟨I,J⟩,N⟩:Gid)).flatMap idL)∧F.drew.grownBy V1 (some g):=by rw[aU];exact eX (f:=idL) (λ_=>rfl) (by decide) ae.o (show F.drew.ownsRow _ _ _ _ _ _ from af.o) (by omega) (⟨⟨I,J⟩,N⟩:Gid)
        obtain⟨V2,aV⟩:∃V,V=V1.setCells g (q*3) (#[.int .i64 t,.int .i64 r,.int .i64 n]:Array Value).toList:=⟨_,rfl⟩;have au:V2.ownsRow w.heap.size 108 3 (.slice (some ⟨g,0,none⟩) (m+1) D) (m+1) ((((slid M (⟨⟨t,r⟩,n⟩:Gid) (q+1)).set (q+1) (⟨⟨I,J⟩,N⟩:Gid)).set q (⟨⟨t,r⟩,n⟩:Gid)).flatMap idL)∧V1.grownBy V2 (some g):=by rw[aV];exact eX (f:=idL) (λ_=>rfl) (by decide) (by rw[dj];exact ae.o) Y.1 (by omega) (⟨⟨t,r⟩,n⟩:Gid)
        obtain⟨g5,e5,ba⟩:=eJ (show F.drew.ownsRow _ _ _ _ _ _ from af.o) (k:=q+1) (by omega);cases e5;obtain⟨g6,e6,bb⟩:=eJ Y.1 (k:=q) (by omega);cases e6;have bs:=hid au.1;have bu:=hid (show F.heap.size<=V2.heap.size∧(Below w.heap.size w F->w.heap.size<=g->Below w.heap.size w V2) from⟨aP (show F.drew.heap.size<=V1.heap.size from Y.2.size) au.2.size,λhb hl=>(hb.drew.grown Y.2 (by exact hb.size) (λb e=>by cases e;exact hl)).grown au.2 (aP hb.size (show F.drew.heap.size<=V1.heap.size from Y.2.size)) (λb e=>by cases e;exact hl)⟩);have bv:=hid aU;have bw:=hid aV;have bz:=hid ba;have bA:=hid bb;have bB:=hid (show(#[.int .i64 I,.int .i64 J,.int .i64 N]:Array Value).all (·.oneCell')=true by rw[<-cv];rfl);have bD:=hid (show(#[.int .i64 t,.int .i64 r,.int .i64 n]:Array Value).all (·.oneCell')=true by rw[<-cv];rfl);clear Y au aU aV ba bb;refine aY (S:=λ_=>True) (by kernel_rfl) ?_
        try(change wpAnyH _ _ _ _ _ _ _ _ (World.drew _))
        refine tk 0 (.slice (some ⟨g,0,none⟩) (m+1) D) (trivial) ?_;go_simp;refine tk 1 (.int .i64 ((q:Int)+1)) (trivial) ?_;go_simp;refine tk 2 (.slice (some ⟨g,0,none⟩) (m+1) D) (trivial) ?_;go_simp;refine tk 3 (.int .i64 ((q:Int)+1)) (trivial) ?_;go_simp;refine tk 4 (.int .i64 (q:Int)) (trivial) ?_;go_simp;refine tk 5 (.slice (some ⟨g,0,none⟩) (m+1) D) (trivial) ?_;go_simp;refine tk 6 (.int .i64 ((q:Int)+1)) (trivial) ?_;go_simp;refine tk 7 (.int .i64 (q:Int)) (trivial) ?_;go_simp;refine tk 8 (.pointer (some ⟨g,q*3,none⟩)) (trivial) ?_;go_simp;refine tk 10 (.slice (some ⟨g,0,none⟩) (m+1) D) (trivial) ?_;go_simp;refine tk 11 (.int .i64 ((q:Int)+1)) (trivial) ?_;go_simp;refine tk 12 (.pointer (some ⟨g,(q+1)*3,none⟩)) (trivial) ?_;go_simp;refine dJ (rs:=[9,13]) (by kernel_rfl) (by simp) ?_;refine bg rfl (λK C=> ?_) (bg rfl (λK C=> ?_) dp)
        focus
         refine bI rfl _ _ rfl g (q*3) rfl [.int .i64 I,.int .i64 J,.int .i64 N] _ (show F.drew.rangeAt _ _ _ from aS.o) az rfl (by kernel_rfl) ?_;refine C.out _ _ (trivial) (λ_=> ?_);clear C K;refine rd1 13 λK C=> ?_;refine bI rfl _ _ rfl g ((q+1)*3) rfl [.int .i64 t,.int .i64 r,.int .i64 n] _ (show F.drew.rangeAt _ _ _ from aT.o) az rfl (by kernel_rfl) ?_;refine C.out _ _ (trivial) (λ_=> ?_);clear C K
        rotate_left
        focus
         refine bI rfl _ _ rfl g ((q+1)*3) rfl [.int .i64 t,.int .i64 r,.int .i64 n] _ (show F.drew.rangeAt _ _ _ from aT.o) az rfl (by kernel_rfl) ?_;refine C.out _ _ (trivial) (λ_=> ?_);clear C K;refine rd1 9 λK C=> ?_;refine bI rfl _ _ rfl g (q*3) rfl [.int .i64 I,.int .i64 J,.int .i64 N] _ (show F.drew.rangeAt _ _ _ from aS.o) az rfl (by kernel_rfl) ?_;refine C.out _ _ (trivial) (λ_=> ?_);clear C K
        all_goals
         refine tk 14 (.pointer (some ⟨g,(q+1)*3,none⟩)) (trivial) ?_;go_simp;refine rd1 15 λK C=> ?_;refine cY rfl _ _ _ rfl g ((q+1)*3) #[.int .i64 I,.int .i64 J,.int .i64 N] (by rfl) (by rfl) bz.o (by kernel_rfl) bB.o ?_;rw[<-bv.o];refine C.out _ _ (trivial) (λ_=> ?_);clear C K;refine tk 16 (.pointer (some ⟨g,q*3,none⟩)) (trivial) ?_;go_simp;refine rd1 17 λK C=> ?_;refine cY rfl _ _ _ rfl g (q*3) #[.int .i64 t,.int .i64 r,.int .i64 n] (by rfl) (by rfl) bA.o (by kernel_rfl) bD.o ?_;rw[<-bw.o];refine C.out _ _ (trivial) (λ_=> ?_);clear C K;refine bp (by kernel_rfl) ?_ _;go_simp;go_wp2;go_roundw
         case rel=>exact⟨q,by go_num,by omega,be,hid (by rw[<-bq.o];exact bs.o),hid (bu.o.2 bf.o (af.o.lt g rfl).1)⟩
         case measure=>(simp[RowKit.intOf];try omega)
      ·obtain rfl:q=0:=by omega
       go_upto_region 9 with fail;refine rqb ?_
       repeat(any_goals(first|go_big_quiet_step (fail)|quiet_step (fail)))
       refine qz λF B=> ?_;have aN:=hid (show gU G (L.take (k+1))=slid M (⟨⟨t,r⟩,n⟩:Gid) 0 by rw[T.o];unfold insB;rw[<-aE.o];rfl);have ae:=hid (show m+1=(slid M (⟨⟨t,r⟩,n⟩:Gid) 0).length by rw[eW,<-l.o]);have aQ:=kO U B;have aR:=bT aF B;go_wp2;go_roundw
       case rel=>exact⟨k+1,some ⟨g,0,none⟩,D,m+1,_,by omega,by go_num,rfl,by omega,ae,hid aN.o.symm,aQ,aR⟩
       case measure=>(simp[RowKit.intOf];omega)
  ·obtain rfl:k=L.length:=by omega
   have i2:¬(L.length:Int)<(L.length:Int):=by omega
   have bc:=hid (show M=gU G L by have h9:=HM.o;rw[aO] at h9;exact h9);go_wp2;go_ret;refine⟨A',c',by rw[<-bc.o,<-l.o];rfl,?_,ai.o⟩;rw[<-bc.o,<-l.o];exact HO.o
theorem iK {w:World} {B a E s n:Nat} {v:Value} {b:List Value} (h:w.ownsRow B E s v n b) (c:a<=B):w.ownsRow a E s v n b:=by
 rcases h.2 with⟨e1,e2⟩|⟨g,cap,cur,e1,e2,e3⟩
 ·exact⟨h.1,.inl ⟨e1,e2⟩⟩
 ·exact⟨h.1,.inr ⟨g,cap,cur,e1,by omega,e3⟩⟩
theorem of14_any (L G:List Dt) (A A2:Option Addr) (c c2:Nat) (C D E:Int) (S S2:Nat->Prop) (H:World) (hl:L.length<=100000) (bA:G.length<=100000) (hR:RowF H S A 5 dtL dt0 L) (aN:RowF H S2 A2 5 dtL dt0 G):
  Calls Tryz.prog 145 #[.slice A L.length c,.slice A2 G.length c2,.agg #[C,D,E]] H λe w'=>∃A' c',e= .returned (.slice A' (ofL G ⟨⟨C,D⟩,E⟩ L).length c')∧w'.ownsRow H.heap.size 42 2 (.slice A' (ofL G ⟨⟨C,D⟩,E⟩ L).length c') (ofL G ⟨⟨C,D⟩,E⟩ L).length ((ofL G ⟨⟨C,D⟩,E⟩ L).flatMap stL)∧Below H.heap.size H w':=by
 obtain⟨i0,hi,ba,bb,bc⟩:=bx info_st;have al:Below H.heap.size H (H.alloc (.cells #[C,D,E] 108)):=(ag _ _).alloc (aa _) _;have au:=hid al;have bd:=hid (an H (.cells #[C,D,E] 108));have HR:=hid (hR.below al);have be:=hid (aN.below al);clear hR aN al;go_enter Tryz.func145,Tryz.ntmps145;go_upto_region 3 with fail;generalize hW:H.alloc (.cells #[C,D,E] 108)=w at *;clear hW;generalize aQ:H.heap.size=xb at *;have bf:=hid aQ;clear aQ;go_loopw [7,8] (λo i wr=>∃(k:Nat) (A':Option Addr) (c' m:Nat) (M:List Gst),k<=L.length∧i= .int .i64 k∧o= .slice A' m c'∧m<=k∧Hid (m=M.length)∧Hid (M=ofL G ⟨⟨C,D⟩,E⟩ (L.take k))∧Hid (wr.ownsRow w.heap.size 42 2 (.slice A' m c') m (M.flatMap stL))∧Hid (Below w.heap.size w wr)) (λo i _=>L.length-(RowKit.intOf i).toNat)
 case atStart=>exact⟨0,none,0,0,[],aq _,rfl,rfl,aa _,hid rfl,hid rfl,hid (aH _ _ _ _),hid (ag _ _)⟩
 case round=>
  obtain⟨k,A',c',m,M,hk,rfl,rfl,bB,F,HM,HO,P⟩:=hrel;by_cases aR:k<L.length
  ·have i1:(0:Int)<=(k:Int):=by omega
   have i2:(k:Int)<(L.length:Int):=by omega
   obtain⟨rb,ro,rfl,-,aS,ad⟩:=HR.o.range (λ_=>rfl) aR;have aT:ofL G ⟨⟨C,D⟩,E⟩ (L.take (k+1))=stepO G ⟨⟨C,D⟩,E⟩ M (L.getD k dt0):=by rw[HM.o];exact eU _ _ aR dt0
   generalize L.getD k dt0=p at *;obtain⟨⟨⟨t,r⟩,n⟩,⟨g,l⟩⟩:=p;have aU:=hid (λW (hB:Below w.heap.size w W)=>show W.rangeAt rb (ro+k*5) [.int .i64 t,.int .i64 r,.int .i64 n,.int .i64 g,.int .i64 l] from ct ad aS hB);have X:=hid aT;have ae:=P.o.size;have bz:m<=100000:=by omega
   clear ad aS aT;obtain⟨v,hv⟩:∃b,b=Gid.eqb ⟨⟨t,r⟩,n⟩ ⟨⟨C,D⟩,E⟩:=⟨_,rfl⟩;obtain⟨b1,av⟩:∃b,b=G.any (λy=>y.eqb ⟨⟨⟨t,r⟩,n⟩,⟨g,l⟩⟩):=⟨_,rfl⟩;obtain⟨b3,aw⟩:∃b,b=M.any (λy=>y.eqb ⟨g,l⟩):=⟨_,rfl⟩;have aV:=hid (λW (hB:Below w.heap.size w W)=>show Calls Tryz.prog 174 #[.slice A2 G.length c2,.agg #[t,r,n,g,l]] W λe w'=>e= .returned (.bool b1)∧Below W.heap.size W w' from by rw[av];exact hasdot_any G A2 c2 ⟨⟨⟨t,r⟩,n⟩,⟨g,l⟩⟩ S2 W (by omega) (be.o.below hB))
   have aW:=hid (λW (hB:Below wr.heap.size wr W)=>show Calls Tryz.prog 109 #[.slice A' m c',.agg #[g,l]] W λe w'=>e= .returned (.bool b3)∧Below W.heap.size W w' from by
    have h9:=hasstamp_any M A' c' ⟨g,l⟩ _ W (by rw[<-F.o];omega) (cT (f:=stL) (z:=Gst.zero) (λ_=>rfl) F.o (HO.o.kept (dB (r:=none) hB) (cX _)))
    rw[<-F.o,<-aw] at h9;exact h9)
   have X:=hid (show ofL G ⟨⟨C,D⟩,E⟩ (L.take (k+1))=if (!v || b1 || b3)=true then M else insB (λy=>Gst.lt ⟨g,l⟩ y) Gst.zero M ⟨g,l⟩ by rw[X.o,hv,av,aw];rfl);have q1:=ne_id t r n C D E v hv.symm;have Y:=hid (aU.o wr P.o);have am:=bK P.o bd;have y0:=aj (w:=wr) (a:=⟨rb,ro+k*5,none⟩) (v:= .int .i64 t) (Y.o 0 _ rfl);have y1:=aj (w:=wr) (a:=⟨rb,ro+k*5+1,none⟩) (v:= .int .i64 r) (Y.o 1 _ rfl);have y2:=aj (w:=wr) (a:=⟨rb,ro+k*5+2,none⟩) (v:= .int .i64 n) (Y.o 2 _ rfl);have y3:=aj (w:=wr) (a:=⟨rb,ro+k*5+3,none⟩) (v:= .int .i64 g) (Y.o 3 _ rfl);have y4:=aj (w:=wr) (a:=⟨rb,ro+k*5+4,none⟩) (v:= .int .i64 l) (Y.o 4 _ rfl);have x0:=rg0 am.o;have x1:=rg1 am.o;have x2:=rg2 am.o;have O:=λd os=>ak (aV.o (grow (redrawn wr d) os) (P.o.trans ((bL wr d os).mono ae)));have cB:=λd os=>ak (aW.o (grow (redrawn wr d) os) (bL wr d os));clear hv av aw;cases v with
   |false=>
    have R:=hid (show ofL G ⟨⟨C,D⟩,E⟩ (L.take (k+1))=M by rw[X.o];rfl);go_upto_region 5 with fail;refine rqb ?_
    repeat(any_goals(first|go_big_quiet_step (with_reducible first|exact O _ _|exact cB _ _)|quiet_step (with_reducible first|exact O _ _|exact cB _ _)))
    refine qz λB s=> ?_;have Q:=kO HO s;have J:=hid (P.o.trans (s.mono ae));go_wp2;go_roundw
    case rel=>exact⟨k+1,A',c',m,M,by omega,by go_num,rfl,by omega,F,hid R.o.symm,Q,J⟩
    case measure=>(simp[RowKit.intOf];omega)
   | true =>
    cases b1 with
    |true=>
     have R:=hid (show ofL G ⟨⟨C,D⟩,E⟩ (L.take (k+1))=M by rw[X.o];rfl);go_upto_region 5 with fail;refine rqb ?_
     repeat(any_goals(first|go_big_quiet_step (with_reducible first|exact O _ _|exact cB _ _)|quiet_step (with_reducible first|exact O _ _|exact cB _ _)))
     refine qz λB s=> ?_;have Q:=kO HO s;have J:=hid (P.o.trans (s.mono ae));go_wp2;go_roundw
     case rel=>exact⟨k+1,A',c',m,M,by omega,by go_num,rfl,by omega,F,hid R.o.symm,Q,J⟩
     case measure=>(simp[RowKit.intOf];omega)
    | false=>
     cases b3 with
     |true=>
      have R:=hid (show ofL G ⟨⟨C,D⟩,E⟩ (L.take (k+1))=M by rw[X.o];rfl);go_upto_region 5 with fail;refine rqb ?_
      repeat(any_goals(first|go_big_quiet_step (with_reducible first|exact O _ _|exact cB _ _)|quiet_step (with_reducible first|exact O _ _|exact cB _ _)))
      refine qz λB s=> ?_;have Q:=kO HO s;have J:=hid (P.o.trans (s.mono ae));go_wp2;go_roundw
      case rel=>exact⟨k+1,A',c',m,M,by omega,by go_num,rfl,by omega,F,hid R.o.symm,Q,J⟩
      case measure=>(simp[RowKit.intOf];omega)
     | false=>
      have R:=hid (show ofL G ⟨⟨C,D⟩,E⟩ (L.take (k+1))=insB (λy:Gst=>Gst.lt ⟨g,l⟩ y) Gst.zero M ⟨g,l⟩ by rw[X.o];rfl);go_upto_region 5 with fail;refine rqb ?_
      repeat(any_goals(first|go_big_quiet_step (with_reducible first|exact O _ _|exact cB _ _)|quiet_step (with_reducible first|exact O _ _|exact cB _ _)))
      refine qz λB s=> ?_;have Q:=kO HO s;have J:=hid (P.o.trans (s.mono ae));have ax:=J.o.size;have aX:=hid (show B.rangeAt rb (ro+k*5+3) [.int .i64 g,.int .i64 l] from bC (pre:=[.int .i64 t,.int .i64 r,.int .i64 n]) (post:=[]) (aU.o B J.o));clear y0 y1 y2 y3 y4 x0 x1 x2 O cB s
      go_upto_region 8 with(first
       |(refine lM aX cr ?_)
       |(at_builtin;refine cm _ rfl _ _ 100 rfl w.heap.size 42 i0 (.agg #[(0:Int),(0:Int)]) 2 16 Tryz.underlying100 hi ba bb bc rfl (by decide) (.slice A' m c') m _ rfl (by exact Q.o.alloc _) ⟨B.heap.size,0,none⟩ 1 1 [.int .i64 g,.int .i64 l] rfl rfl (λj y h=>dH B [.int .i64 g,.int .i64 l] 42 j y h) (fx (c:=#[.int .i64 g,.int .i64 l]) rfl) (by decide) (by unfold maxLen;omega) (by omega) (by simp;omega) (B.heap.size+1) (by simp) ?_;intro u N w5 ay ao ha a7;have aZ:=hid ay;have bh:=hid ((J.o.alloc ax _).grown ao (by simp;omega) (λb hb=>(Q.o.lt b hb).1));clear ay ao ha a7))
      clear aV aW Y am J Q aX ax;have a0:slid M (⟨g,l⟩:Gst) m=M++[⟨g,l⟩]:=by rw[F.o];exact jB _ _
      have bi:=hid (show w5.ownsRow w.heap.size 42 2 (.slice (some ⟨u,0,none⟩) (m+1) N) (m+1) ((slid M (⟨g,l⟩:Gst) m).flatMap stL) by rw[a0,aK];exact aZ.o);clear a0 aZ;generalize w5=w6 at *;go_loopw [9] (λi wx=>∃(q:Nat),i= .int .i64 q∧q<=m∧Hid (ek (λy:Gst=>Gst.lt ⟨g,l⟩ y) .zero M q=ek (λy:Gst=>Gst.lt ⟨g,l⟩ y) .zero M M.length)∧Hid (wx.ownsRow w.heap.size 42 2 (.slice (some ⟨u,0,none⟩) (m+1) N) (m+1) ((slid M (⟨g,l⟩:Gst) q).flatMap stL))∧Hid (Below w.heap.size w wx)) (λi _=>(RowKit.intOf i).toNat)
      case atStart=>exact⟨m,rfl,aa _,hid (by rw[F.o]),bi,bh⟩
      case round=>
       obtain⟨q,rfl,hq,az,Z,aA⟩:=hrel;by_cases h0:0<q
       ·obtain⟨q,rfl⟩:∃p,q=p+1:=⟨q-1,by omega⟩;have aB:q+1<=M.length:=by rw[<-F.o];exact hq
        have ap:m+1=(slid M (⟨g,l⟩:Gst) (q+1)).length:=by rw[eW,<-F.o]
        obtain⟨g3,e3,-,a1,ab⟩:=cZ (f:=stL) (λ_=>rfl) ap Z.o (k:=q) (by omega) .zero;cases e3;obtain⟨g4,e4,-,-,af⟩:=cZ (f:=stL) (λ_=>rfl) ap Z.o (k:=q+1) (by omega) .zero;cases e4;rw[jz aB] at ab;rw[kE aB] at af;have aC:=it (L:=M) (x:=(⟨g,l⟩:Gst)) (z:= .zero) aB;obtain⟨y,hy⟩:∃y,y=M.getD q .zero:=⟨_,rfl⟩;rw[<-hy] at ab aC;obtain⟨b2,aD⟩:∃b,b=(λy:Gst=>Gst.lt ⟨g,l⟩ y) y:=⟨_,rfl⟩;have a2:=hid (show(λy:Gst=>Gst.lt ⟨g,l⟩ y) (M.getD q .zero)=b2 by rw[<-hy,aD]);clear hy;obtain⟨T,U⟩:=y;have bj:=hid (show wr.rangeAt u (q*2) [.int .i64 T,.int .i64 U] from ab);have bk:=hid (show wr.rangeAt u ((q+1)*2) [.int .i64 g,.int .i64 l] from af);have y0:=aj (w:=wr) (a:=⟨u,q*2,none⟩) (v:= .int .i64 T) (ab 0 _ rfl);have y1:=aj (w:=wr) (a:=⟨u,q*2+1,none⟩) (v:= .int .i64 U) (ab 1 _ rfl);have x0:=aj (w:=wr) (a:=⟨u,(q+1)*2,none⟩) (v:= .int .i64 g) (af 0 _ rfl);have x1:=aj (w:=wr) (a:=⟨u,(q+1)*2+1,none⟩) (v:= .int .i64 l) (af 1 _ rfl);have bl:=hid aC;have k1:(0:Int)<(q:Int)+1:=by omega
        have k2:(0:Int)<=(q:Int):=by omega
        have k3:(q:Int)<(m:Int)+1:=by omega
        have k4:(q:Int)+1<(m:Int)+1:=by omega
        have k5:(0:Int)<=(q:Int)+1:=by omega
        have k6:IntKind.i64.wrap (q:Int)=(q:Int):=by rw[bH];omega
        have ah:=hid ap;have a3:=λW=>eV g l T U W;rw[show Gst.lt ⟨g,l⟩ ⟨T,U⟩=b2 from aD.symm] at a3;have O:=λd os=>ak (a3 (grow (redrawn wr d) os));clear ab af aD aC ap;cases b2 with
        |false=>
         go_upto_region 8 with fail;refine rqb ?_
         repeat(any_goals(first|go_big_quiet_step (with_reducible exact O _ _)|quiet_step (with_reducible exact O _ _)))
         refine qz λB s=> ?_;have aE:=hid (show ofL G ⟨⟨C,D⟩,E⟩ (L.take (k+1))=slid M (⟨g,l⟩:Gst) (q+1) by rw[R.o];unfold insB;rw[<-az.o,gi (.inr ⟨q,rfl,a2.o⟩)]);have aF:=kO Z s;have aG:=bT aA s;go_wp2;go_roundw
         case rel=>exact⟨k+1,some ⟨u,0,none⟩,N,m+1,_,by omega,by go_num,rfl,by omega,ah,hid aE.o.symm,aF,aG⟩
         case measure=>(simp[RowKit.intOf];omega)
        | true=>
         go_upto_region 8 with fail;refine rqb ?_
         repeat(any_goals(first|go_big_quiet_step (with_reducible exact O _ _)|quiet_step (with_reducible exact O _ _)))
         refine qz λB s=> ?_;have a8:=hid (show ek (λy:Gst=>Gst.lt ⟨g,l⟩ y) .zero M q=ek (λy:Gst=>Gst.lt ⟨g,l⟩ y) .zero M M.length by rw[<-az.o,iL a2.o]);have aI:=hid (ct bj.o a1 s);have aJ:=hid (ct bk.o a1 s);have ai:=kO Z s;have a9:=bT aA s;clear y0 y1 x0 x1 O Z s;go_upto_region 10 with fail;obtain⟨V1,aL⟩:∃V,V=B.drew.setCells u ((q+1)*2) (#[.int .i64 T,.int .i64 U]:Array Value).toList:=⟨_,rfl⟩;have ac:V1.ownsRow w.heap.size 42 2 (.slice (some ⟨u,0,none⟩) (m+1) N) (m+1) (((slid M (⟨g,l⟩:Gst) (q+1)).set (q+1) (⟨T,U⟩:Gst)).flatMap stL)∧B.drew.grownBy V1 (some u):=by rw[aL];exact eX (f:=stL) (λ_=>rfl) (by decide) ah.o (show B.drew.ownsRow _ _ _ _ _ _ from ai.o) (by omega) (⟨T,U⟩:Gst)
         obtain⟨V2,aM⟩:∃V,V=V1.setCells u (q*2) (#[.int .i64 g,.int .i64 l]:Array Value).toList:=⟨_,rfl⟩;have ar:V2.ownsRow w.heap.size 42 2 (.slice (some ⟨u,0,none⟩) (m+1) N) (m+1) ((((slid M (⟨g,l⟩:Gst) (q+1)).set (q+1) (⟨T,U⟩:Gst)).set q (⟨g,l⟩:Gst)).flatMap stL)∧V1.grownBy V2 (some u):=by rw[aM];exact eX (f:=stL) (λ_=>rfl) (by decide) (by rw[dj];exact ah.o) ac.1 (by omega) (⟨g,l⟩:Gst)
         obtain⟨g5,e5,a4⟩:=eJ (show B.drew.ownsRow _ _ _ _ _ _ from ai.o) (k:=q+1) (by omega);cases e5;obtain⟨g6,e6,a5⟩:=eJ ac.1 (k:=q) (by omega);cases e6;have bm:=hid ar.1;have bn:=hid (show B.heap.size<=V2.heap.size∧(Below w.heap.size w B->w.heap.size<=u->Below w.heap.size w V2) from⟨aP (show B.drew.heap.size<=V1.heap.size from ac.2.size) ar.2.size,λhb hl=>(hb.drew.grown ac.2 (by exact hb.size) (λb e=>by cases e;exact hl)).grown ar.2 (aP hb.size (show B.drew.heap.size<=V1.heap.size from ac.2.size)) (λb e=>by cases e;exact hl)⟩);have bo:=hid aL;have bq:=hid aM;have bs:=hid a4;have bu:=hid a5;have bv:=hid (show(#[.int .i64 T,.int .i64 U]:Array Value).all (·.oneCell')=true by rw[<-cv];rfl);have bw:=hid (show(#[.int .i64 g,.int .i64 l]:Array Value).all (·.oneCell')=true by rw[<-cv];rfl);clear ac ar aL aM a4 a5;refine aY (S:=λ_=>True) (by kernel_rfl) ?_
         try(change wpAnyH _ _ _ _ _ _ _ _ (World.drew _))
         refine tk 0 (.slice (some ⟨u,0,none⟩) (m+1) N) (trivial) ?_;go_simp;refine tk 1 (.int .i64 ((q:Int)+1)) (trivial) ?_;go_simp;refine tk 2 (.slice (some ⟨u,0,none⟩) (m+1) N) (trivial) ?_;go_simp;refine tk 3 (.int .i64 ((q:Int)+1)) (trivial) ?_;go_simp;refine tk 4 (.int .i64 (q:Int)) (trivial) ?_;go_simp;refine tk 5 (.slice (some ⟨u,0,none⟩) (m+1) N) (trivial) ?_;go_simp;refine tk 6 (.int .i64 ((q:Int)+1)) (trivial) ?_;go_simp;refine tk 7 (.int .i64 (q:Int)) (trivial) ?_;go_simp;refine tk 8 (.pointer (some ⟨u,q*2,none⟩)) (trivial) ?_;go_simp;refine tk 10 (.slice (some ⟨u,0,none⟩) (m+1) N) (trivial) ?_;go_simp;refine tk 11 (.int .i64 ((q:Int)+1)) (trivial) ?_;go_simp;refine tk 12 (.pointer (some ⟨u,(q+1)*2,none⟩)) (trivial) ?_;go_simp;refine dJ (rs:=[9,13]) (by kernel_rfl) (by simp) ?_;refine bg rfl (λK I=> ?_) (bg rfl (λK I=> ?_) dp)
         focus
          refine bI rfl _ _ rfl u (q*2) rfl [.int .i64 T,.int .i64 U] _ (show B.drew.rangeAt _ _ _ from aI.o) cr rfl (by kernel_rfl) ?_;refine I.out _ _ (trivial) (λ_=> ?_);clear I K;refine rd1 13 λK I=> ?_;refine bI rfl _ _ rfl u ((q+1)*2) rfl [.int .i64 g,.int .i64 l] _ (show B.drew.rangeAt _ _ _ from aJ.o) cr rfl (by kernel_rfl) ?_;refine I.out _ _ (trivial) (λ_=> ?_);clear I K
         rotate_left
         focus
          refine bI rfl _ _ rfl u ((q+1)*2) rfl [.int .i64 g,.int .i64 l] _ (show B.drew.rangeAt _ _ _ from aJ.o) cr rfl (by kernel_rfl) ?_;refine I.out _ _ (trivial) (λ_=> ?_);clear I K;refine rd1 9 λK I=> ?_;refine bI rfl _ _ rfl u (q*2) rfl [.int .i64 T,.int .i64 U] _ (show B.drew.rangeAt _ _ _ from aI.o) cr rfl (by kernel_rfl) ?_;refine I.out _ _ (trivial) (λ_=> ?_);clear I K
         all_goals
          refine tk 14 (.pointer (some ⟨u,(q+1)*2,none⟩)) (trivial) ?_;go_simp;refine rd1 15 λK I=> ?_;refine cY rfl _ _ _ rfl u ((q+1)*2) #[.int .i64 T,.int .i64 U] (by rfl) (by rfl) bs.o (by kernel_rfl) bv.o ?_;rw[<-bo.o];refine I.out _ _ (trivial) (λ_=> ?_);clear I K;refine tk 16 (.pointer (some ⟨u,q*2,none⟩)) (trivial) ?_;go_simp;refine rd1 17 λK I=> ?_;refine cY rfl _ _ _ rfl u (q*2) #[.int .i64 g,.int .i64 l] (by rfl) (by rfl) bu.o (by kernel_rfl) bw.o ?_;rw[<-bq.o];refine I.out _ _ (trivial) (λ_=> ?_);clear I K;refine bp (by kernel_rfl) ?_ _;go_simp;go_wp2;go_roundw
          case rel=>exact⟨q,by go_num,by omega,a8,hid (by rw[<-bl.o];exact bm.o),hid (bn.o.2 a9.o (ai.o.lt u rfl).1)⟩
          case measure=>(simp[RowKit.intOf];try omega)
       ·obtain rfl:q=0:=by omega
        go_upto_region 8 with fail;refine rqb ?_
        repeat(any_goals(first|go_big_quiet_step (fail)|quiet_step (fail)))
        refine qz λB s=> ?_;have aE:=hid (show ofL G ⟨⟨C,D⟩,E⟩ (L.take (k+1))=slid M (⟨g,l⟩:Gst) 0 by rw[R.o];unfold insB;rw[<-az.o];rfl);have ah:=hid (show m+1=(slid M (⟨g,l⟩:Gst) 0).length by rw[eW,<-F.o]);have aF:=kO Z s;have aG:=bT aA s;go_wp2;go_roundw
        case rel=>exact⟨k+1,some ⟨u,0,none⟩,N,m+1,_,by omega,by go_num,rfl,by omega,ah,hid aE.o.symm,aF,aG⟩
        case measure=>(simp[RowKit.intOf];omega)
  ·obtain rfl:k=L.length:=by omega
   have i2:¬(L.length:Int)<(L.length:Int):=by omega
   have a6:=hid (show M=ofL G ⟨⟨C,D⟩,E⟩ L by have h9:=HM.o;rw[aO] at h9;exact h9);go_wp2;go_ret;obtain rfl:=bf.o;refine⟨A',c',by rw[<-a6.o,<-F.o];rfl,?_,au.o.trans (P.o.mono au.o.size)⟩;rw[<-a6.o,<-F.o];exact iK HO.o au.o.size
def dR (v:List Int) (L:List (Grp×GrX)):List (Grp×GrX):=L.filter (λp=>oldB v p.1)
theorem knownL_len (v:List Int) (L:List (Grp×GrX)):(dR v L).length<=L.length:=ij _ _
theorem kM {v:List Int} {L:List (Grp×GrX)} {p:Grp×GrX} (h:p∈dR v L):p∈L:=(g7.1 h).1
theorem knownL_succ {v:List Int} {L:List (Grp×GrX)} {k:Nat} (h:k<L.length):dR v (L.take (k+1))=dR v (L.take k)++(if oldB v (L.getD k gp0).1=true then [L.getD k gp0] else []):=by
 unfold dR;rw[List.take_add_one,jH,aw h,ae,aw h];congr 1;cases e:oldB v L[k].1<;>simp[e]
theorem known_any (L:List (Grp×GrX)) (A:Option Addr) (c:Nat) (Q:Option Addr) (Z:Nat) (v:List Int) (w:World) (hl:L.length<=100000) (hv:v.length<=1000) (hR:RowGr w A L) (hV:VecR w Q v):
  Calls Tryz.prog 88 #[.slice A L.length c,.slice Q v.length Z] w λe w'=>∃A' c',e= .returned (.slice A' (dR v L).length c')∧w'.ownsRow w.heap.size 45 7 (.slice A' (dR v L).length c') (dR v L).length ((dR v L).flatMap grC_)∧Below w.heap.size w w':=by
 obtain⟨i0,hi,ad,ae,af⟩:=bx ib;have HR:=hid hR;have HV:=hid hV;clear hR hV;go_enter Tryz.func88,Tryz.ntmps88;go_upto_region 3 with fail;go_loopw [5,6] (λo i wr=>∃(k:Nat) (A':Option Addr) (c' m:Nat),k<=L.length∧i= .int .i64 k∧o= .slice A' m c'∧m<=k∧Hid (m=(dR v (L.take k)).length)∧Hid (wr.ownsRow w.heap.size 45 7 (.slice A' m c') m ((dR v (L.take k)).flatMap grC_))∧Hid (Below w.heap.size w wr)) (λo i _=>L.length-(RowKit.intOf i).toNat)
 case atStart=>exact⟨0,none,0,0,aq _,rfl,rfl,aa _,hid rfl,hid (aH _ _ _ _),hid (ag _ _)⟩
 case round=>
  obtain⟨k,A',c',m,hk,rfl,rfl,au,B,HO,a⟩:=hrel;by_cases R:k<L.length
  ·have i1:(0:Int)<=(k:Int):=by omega
   have i2:(k:Int)<(L.length:Int):=by omega
   obtain⟨rb,ro,rfl,S,g⟩:=HR.o.range R;have T:=knownL_succ (v:=v) R;have C:=a.o.size;generalize L.getD k gp0=p at *;obtain⟨⟨⟨t,r⟩,n,D,⟨E,F⟩,l⟩,⟨G,H,I,J⟩⟩:=p;obtain⟨z,hz⟩:∃z,z=atV v r:=⟨_,rfl⟩;obtain⟨od,K⟩:∃b,b=decide (n<=z):=⟨_,rfl⟩;have U:decide (n<=z)=od:=K.symm;have s:=hid (show dR v (L.take (k+1))=dR v (L.take k)++(if od=true then [(⟨⟨⟨t,r⟩,n,D,⟨E,F⟩,l⟩,⟨G,H,I,J⟩⟩:Grp×GrX)] else []) by rw[T];congr 1;rw[K,hz];rfl);have V:=hid (λW (hB:Below w.heap.size w W)=>show W.rangeAt rb (ro+k*7) [t,r,n,.slice G D.length H,E,F,.slice I l.length J] from ct g S hB);have X:=hid (V.o wr a.o)
   have ah:=hid (λW (hB:Below w.heap.size w W)=>show Calls Tryz.prog 55 #[.slice Q v.length Z,r] W λe w'=>e= .returned (.int .i64 z)∧Below W.heap.size W w' from by
    rw[hz]
    exact(eT Q Z v r W (by omega) (HV.o.below hB)).mono (by rintro e w' ⟨rfl,rfl⟩;exact⟨rfl,ag _ _⟩))
   have y1:=aj (X.o 1 _ rfl);have y2:=aj (X.o 2 _ rfl);have M:=λd os=>ak (ah.o (grow (redrawn wr d) os) (a.o.trans ((bL wr d os).mono C)));clear T hz K g S;cases od with
   |false=>
    have ai:¬n<=z:=by simpa using U
    go_upto_region 5 with fail;refine rqb ?_
    repeat(any_goals(first|go_big_quiet_step (with_reducible exact M _ _)|quiet_step (with_reducible exact M _ _)))
    refine qz λN f=> ?_;have u:=kO HO f;have q:=hid (a.o.trans (f.mono C));go_wp2;go_roundw
    case rel=>exact⟨k+1,A',c',m,by omega,by go_num,rfl,by omega,hid (by rw[s.o];simpa using B.o),hid (by rw[s.o];simpa using u.o),q⟩
    case measure=>(simp[RowKit.intOf];omega)
   | true=>
    have ai:n<=z:=by simpa using U
    go_upto_region 5 with fail;refine rqb ?_
    repeat(any_goals(first|go_big_quiet_step (with_reducible exact M _ _)|quiet_step (with_reducible exact M _ _)))
    refine qz λN f=> ?_;have u:=kO HO f;have q:=hid (a.o.trans (f.mono C));have ab:=q.o.size;have am:=hid (V.o N q.o);clear y1 y2 M f
    go_wp2_with (first
     |(refine lM am aJ ?_)
     |(at_builtin;refine cm _ rfl _ _ 25 rfl w.heap.size 45 i0 (.agg #[(0:Int),(0:Int),(0:Int),.slice none 0 0,(0:Int),(0:Int),.slice none 0 0]) 7 88 ci hi ad ae af rfl (by decide) (.slice A' m c') m _ rfl (by exact u.o.alloc _) ⟨N.heap.size,0,none⟩ 1 1 [t,r,n,.slice G D.length H,E,F,.slice I l.length J] rfl rfl (λj y h=>dH N [t,r,n,.slice G D.length H,E,F,.slice I l.length J] 45 j y h) (fx (c:=#[t,r,n,.slice G D.length H,E,F,.slice I l.length J]) rfl) (by decide) (by unfold maxLen;omega) (by omega) (by simp;omega) (N.heap.size+1) (by simp) ?_;intro gq an w5 O x ha ac;have ao:=hid O;have ap:=hid ((q.o.alloc ab _).grown x (by simp;omega) (λb hb=>(u.o.lt b hb).1));clear O x ha ac))
    go_roundw
    case rel=>exact⟨k+1,some ⟨gq,0,none⟩,an,m+1,by omega,by go_num,rfl,by omega,hid (by rw[s.o,aN rfl,al,<-B.o];rfl),hid (by rw[s.o,aN rfl,aK];exact ao.o),ap⟩
    case measure=>(simp[RowKit.intOf];omega)
  ·obtain rfl:k=L.length:=by omega
   have i2:¬(L.length:Int)<(L.length:Int):=by omega
   have Y:=hid (show m=(dR v L).length by have P:=B.o;rw[aO] at P;exact P);have ar:=hid (show wr.ownsRow w.heap.size 45 7 (.slice A' m c') m ((dR v L).flatMap grC_) by have P:=HO.o;rw[aO] at P;exact P);go_wp2;go_ret;refine⟨A',c',by rw[<-Y.o];rfl,?_,a.o⟩;rw[<-Y.o];exact ar.o
def latT (L:List (Grp×GrX)):Int:=L.foldl (λt p=>max t p.1.s.t) 0
theorem latest_any (L:List (Grp×GrX)) (A:Option Addr) (c:Nat) (w:World) (D:L.length<=100000) (l:RowGr w A L):
  Calls Tryz.prog 89 #[.slice A L.length c] w λe w'=>e= .returned (.int .i64 (latT L))∧Below w.heap.size w w':=by
 have x:=hid l;clear l;go_enter Tryz.func89,Tryz.ntmps89;go_upto_region 3 with fail;go_loopw [3,4] (λo i wr=>∃(k:Nat) (T:Int),k<=L.length∧i= .int .i64 k∧o= .int .i64 T∧Hid (T=latT (L.take k))∧Hid (Below w.heap.size w wr)) (λo i _=>L.length-(RowKit.intOf i).toNat)
 case atStart=>exact⟨0,0,aq _,rfl,rfl,hid rfl,hid (ag _ _)⟩
 case round=>
  obtain⟨k,T,E,rfl,rfl,m,b⟩:=hrel;by_cases f:k<L.length
  ·have F:(0:Int)<=(k:Int):=by omega
   have y:(k:Int)<(L.length:Int):=by omega
   obtain⟨z,B,rfl,g,a⟩:=x.o.range f;have h:latT (L.take (k+1))=max T (L.getD k gp0).1.s.t:=by rw[m.o];exact eU _ _ f gp0
   generalize L.getD k gp0=p at *;obtain⟨⟨⟨t,r⟩,n,G,⟨H,I⟩,C⟩,⟨J,K,M,N⟩⟩:=p;obtain⟨j,d⟩:∃q,q=max T t:=⟨_,rfl⟩;have O:max T t=j:=d.symm;have s:=hid (show latT (L.take (k+1))=j by rw[h,d]);have P:wr.cell? ⟨z,B+k*7,none⟩=some (.int .i64 t):=(ct a g b.o) 0 _ rfl;clear h d a g;go_wp2;go_roundw
   case rel=>exact⟨k+1,j,by omega,by go_num,rfl,hid s.o.symm,b⟩
   case measure=>(simp[RowKit.intOf];omega)
  ·obtain rfl:k=L.length:=by omega
   have y:¬(L.length:Int)<(L.length:Int):=by omega
   have u:=hid (show T=latT L by have v:=m.o;rw[aO] at v;exact v);go_wp2;go_ret;exact⟨by rw[<-u.o];rfl,b.o⟩
def mixL (L:List (Grp×GrX)) (P:List Int):List (Grp×GrX):=P.map λq=>L.getD (q.toNat % L.length) gp0
def mixN (L:List (Grp×GrX)) (P:List Int):Nat:=if L.length=0 then 0 else min P.length 30
def gS (L:List (Grp×GrX)) (P:List Int):List (Grp×GrX):=mixL L (P.take (mixN L P))
theorem mixed_mem {L:List (Grp×GrX)} {P:List Int} {p:Grp×GrX} (h:p∈gS L P):p∈L:=by
 unfold gS mixL at h;obtain⟨q,a,rfl⟩:=bN.1 h;by_cases b:L.length=0
 ·unfold mixN at a;rw[aN b,iz] at a;cases a
 ·exact cg (fO _ (by omega)) gp0
theorem mixed_len (L:List (Grp×GrX)) (P:List Int):(gS L P).length<=30:=by
 unfold gS mixL mixN;rw[aV,bf];split<;>omega
def u8L (q:Int):List Value:=[.int .u8 q]
theorem mixed_any (L:List (Grp×GrX)) (A:Option Addr) (c:Nat) (P:List Int) (R:Option Addr) (pc:Nat) (S:Nat->Prop) (w:World) (hl:L.length<=100000) (hp:P.length<=9223372036854775807) (T:RowGr w A L) (U:RowF w S R 1 u8L 0 P) (v:∀q∈P,0<=q∧q<=255):
  Calls Tryz.prog 19 #[.slice A L.length c,.slice R P.length pc] w λe w'=>∃A' c',e= .returned (.slice A' (gS L P).length c')∧w'.ownsRow w.heap.size 45 7 (.slice A' (gS L P).length c') (gS L P).length ((gS L P).flatMap grC_)∧Below w.heap.size w w':=by
 obtain⟨i0,hi,V,W,X⟩:=bx ib;have HR:=hid T;have HP:=hid U;have Y:=hid v;obtain⟨N,z⟩:∃N,N=mixN L P:=⟨_,rfl⟩;have an:N<=30∧N<=P.length:=by rw[z];unfold mixN;split<;>omega
 have Z:=hid (show gS L P=mixL L (P.take N) by rw[z];rfl);have aa:=hid (show(mixL L (P.take N)).length=N by unfold mixL;rw[aV,bf];omega);have HN:=hid z;rw[Z.o,aa.o];clear T U v z;go_enter Tryz.func19,Tryz.ntmps19;go_upto_region 3 with fail;go_loopw [5,6] (λo i wr=>∃(k:Nat) (A':Option Addr) (c':Nat),k<=N∧i= .int .i64 k∧o= .slice A' k c'∧Hid (wr.ownsRow w.heap.size 45 7 (.slice A' k c') k ((mixL L (P.take k)).flatMap grC_))∧Hid (Below w.heap.size w wr)) (λo i _=>30-(RowKit.intOf i).toNat)
 case atStart=>exact⟨0,none,0,aq _,rfl,rfl,hid (aH _ _ _ _),hid (ag _ _)⟩
 case round=>
  obtain⟨k,A',c',hk,rfl,rfl,m,a⟩:=hrel;have ab:=a.o.size;by_cases ao:k<N
  ·have ac:0<L.length:=by
    rcases Nat.eq_zero_or_pos L.length with M|M
    ·have:=HN.o;unfold mixN at this;rw[aN M] at this;omega
    ·exact M
   have i1:(k:Int)<(P.length:Int):=by omega
   have i2:(k:Int)<30:=by omega
   have O:(0:Int)<(L.length:Int):=by omega
   have i4:(0:Int)<=(k:Int):=by omega
   obtain⟨pb,po,rfl,-,ad,d⟩:=HP.o.range (λ_=>rfl) (k:=k) (by omega);have K:P.take (k+1)=P.take k++[P.getD k 0]:=dQ (by omega) 0;have ap:=Y.o _ (cg (L:=P) (k:=k) (by omega) 0);generalize P.getD k 0=q at *;obtain⟨q,rfl⟩:∃x:Nat,q=(x:Int):=⟨q.toNat,by omega⟩;obtain⟨u,B⟩:∃u,u=q % L.length:=⟨_,rfl⟩;have ae:u<L.length:=by rw[B];exact fO _ ac
   have j1:IntKind.i64.wrap (q:Int)=(q:Int):=by rw[bH];omega
   have j2:((q:Int)).tmod (L.length:Int)=(u:Int):=by rw[ex (by omega),B];rfl
   have j3:IntKind.i64.wrap (u:Int)=(u:Int):=by rw[bH];omega
   have j4:(0:Int)<=(u:Int):=by omega
   have j5:(u:Int)<(L.length:Int):=by omega
   have j6:¬(L.length:Int)=0:=by omega
   have j7:((L.length:Int) == 0)=false:=by rw[aL];omega
   obtain⟨rb,ro,rfl,af,f⟩:=HR.o.range ae;have ah:=hid (show mixL L (P.take (k+1))=mixL L (P.take k)++[L.getD u gp0] by unfold mixL;rw[K,bD,List.map_cons,List.map_nil,bX,<-B]);have y0:wr.cell? ⟨pb,po+k,none⟩=some (.int .u8 (q:Int)):=by
    have C:=(ct d ad a.o) 0 _ rfl;rwa[jJ] at C
   generalize L.getD u gp0=p at *;obtain⟨⟨⟨t,r⟩,n,D,⟨E,F⟩,g⟩,⟨G,H,I,J⟩⟩:=p;have ai:=hid (show wr.rangeAt rb (ro+u*7) [t,r,n,.slice G D.length H,E,F,.slice I g.length J] from ct f af a.o);clear K B d f
   go_wp2_with (first
    |(refine lM ai aJ ?_)
    |(at_builtin;refine cm _ rfl _ _ 25 rfl w.heap.size 45 i0 (.agg #[(0:Int),(0:Int),(0:Int),.slice none 0 0,(0:Int),(0:Int),.slice none 0 0]) 7 88 ci hi V W X rfl (by decide) (.slice A' k c') k _ rfl (by exact m.o.alloc _) ⟨wr.heap.size,0,none⟩ 1 1 [t,r,n,.slice G D.length H,E,F,.slice I g.length J] rfl rfl (λj y h=>dH wr [t,r,n,.slice G D.length H,E,F,.slice I g.length J] 45 j y h) (fx (c:=#[t,r,n,.slice G D.length H,E,F,.slice I g.length J]) rfl) (by decide) (by unfold maxLen;omega) (by omega) (by simp;omega) (wr.heap.size+1) (by simp) ?_;intro gq aj w5 s l ha Q;have ak:=hid s;have al:=hid ((a.o.alloc ab _).grown l (by simp;omega) (λb v=>(m.o.lt b v).1));clear s l ha Q))
   go_roundw
   case rel=>exact⟨k+1,some ⟨gq,0,none⟩,aj,by omega,by go_num,rfl,hid (by rw[ah.o,aK];exact ak.o),al⟩
   case measure=>(simp[RowKit.intOf];omega)
  ·obtain rfl:k=N:=by omega
   have am:P.length<=k∨30<=k∨L.length=0:=by
    have C:=HN.o;unfold mixN at C;split at C<;>omega
   have i1:¬((k:Int)<(P.length:Int)∧(k:Int)<30∧(0:Int)<(L.length:Int)):=by omega
   by_cases c1:k<P.length
   ·by_cases c2:k<30
    ·have O:(k:Int)<(P.length:Int):=by omega
     have i4:(k:Int)<30:=by omega
     have i5:¬(0:Int)<(L.length:Int):=by omega
     go_wp2;go_ret;exact⟨A',c',rfl,m.o,a.o⟩
    ·have O:(k:Int)<(P.length:Int):=by omega
     have i4:¬(k:Int)<30:=by omega
     go_wp2;go_ret;exact⟨A',c',rfl,m.o,a.o⟩
   ·have O:¬(k:Int)<(P.length:Int):=by omega
    go_wp2;go_ret;exact⟨A',c',rfl,m.o,a.o⟩
def maxV (v u:List Int):List Int:=(List.range (max v.length u.length)).map λk=>max (v.getD k 0) (u.getD k 0)
def iu (v u:List Int):List Int:=ck (maxV v u)
theorem maxV_len (v u:List Int):(maxV v u).length=max v.length u.length:=by unfold maxV;simp
theorem getD_out {v:List Int} {k:Nat} (h:v.length<=k):v.getD k 0=0:=by rw[ae,cz h];rfl
theorem maxV_getD (v u:List Int) (k:Nat):(maxV v u).getD k 0=max (v.getD k 0) (u.getD k 0):=by
 unfold maxV;rw[ae,dW];by_cases h:k<max v.length u.length
 ·rw[List.getElem?_range h];rfl
 ·rw[cz (by simpa using h),Option.map_none,Option.getD_none,getD_out (by omega),getD_out (by omega)];rfl
theorem mergeV_getD (v u:List Int) (k:Nat):(iu v u).getD k 0=max (v.getD k 0) (u.getD k 0):=by unfold iu;rw[pv_getD,maxV_getD]
theorem mergeV_len (v u:List Int):(iu v u).length<=max v.length u.length:=by
 unfold iu;have a:=pv_len (maxV v u);rw[maxV_len] at a;exact a
theorem own_capmax {w:World} {B E s n c:Nat} {A:Option Addr} {a:List Value} (h:w.ownsRow B E s (.slice A n c) n a):c<=maxLen:=by
 rcases h.2 with⟨e1,e2⟩|⟨g,cap,cur,e1,e2,e3,e4,e5,e6⟩
 ·cases e1;exact aq _
 ·cases e1;exact e5
theorem refmerge_any (A x:Option Addr) (c F:Nat) (v u:List Int) (w:World) (hv:v.length<=1000) (hu:u.length<=1000) (G:VecR w A v) (s:VecR w x u):
  Calls Tryz.prog 87 #[.slice A v.length c,.slice x u.length F] w λe w'=>∃A' c',e= .returned (.slice A' (iu v u).length c')∧VecS w' (λk=>w.heap.size<=k) A' (iu v u)∧(iu v u).length<=c'∧c'<=maxLen∧Below w.heap.size w w':=by
 obtain⟨i0,hi,H,I,J⟩:=bx infointC_;obtain⟨d,j⟩:∃d,d=maxV v u:=⟨_,rfl⟩;have K:=hid (show iu v u=ck d by rw[j];rfl);have L:=hid (show ∀k:Nat,d.getD k 0=max (v.getD k 0) (u.getD k 0) from λk=>by rw[j];exact maxV_getD v u k);have M:d.length=max v.length u.length:=by rw[j,maxV_len]
 obtain⟨m,N⟩:∃m,m=d.length:=⟨_,rfl⟩;have ac:m<=1000:=by omega
 have e0:max (v.length:Int) (u.length:Int)=(m:Int):=by omega
 have g:=hid N;have HA:=hid G;have O:=hid s;rw[K.o];clear j M N G s;go_enter Tryz.func87,Tryz.ntmps87;go_upto_region 3 with fail;go_loopw [5,6] (λo i wr=>∃(k:Nat) (A':Option Addr) (c':Nat),k<=m∧i= .int .i64 ((k:Int)+1)∧o= .slice A' k c'∧Hid (wr.ownsRow w.heap.size 3 1 (.slice A' k c') k ((d.take k).flatMap ip))∧Hid (Below w.heap.size w wr)) (λo i _=>m+1-(RowKit.intOf i).toNat)
 case atStart=>exact⟨0,none,0,aq _,by go_num,rfl,hid (aH _ _ _ _),hid (ag _ _)⟩
 case round=>
  obtain⟨k,A',c',hk,rfl,rfl,y,h⟩:=hrel;have P:=h.o.size;by_cases Q:k<m
  ·have i1:(k:Int)+1<=(m:Int):=by omega
   have R:=hid (take_int d k (by rw[<-g.o];exact Q));have S:=hid (λW (B:Below w.heap.size w W)=>by have f:=eT A c v ((k:Int)+1) W (by omega) (HA.o.below B);rw[show atV v ((k:Int)+1)=v.getD k 0 from kP] at f;exact f);have T:=hid (λW (B:Below w.heap.size w W)=>by have f:=eT x F u ((k:Int)+1) W (by omega) (O.o.below B);rw[show atV u ((k:Int)+1)=u.getD k 0 from kP] at f;exact f);have U:=L.o k;generalize v.getD k 0=a at *;generalize u.getD k 0=b at *;obtain⟨z,C⟩:∃z,z=max a b:=⟨_,rfl⟩;have e1:max a b=z:=C.symm;have HX:=hid (show d.getD k 0=z by rw[U,C]);clear C U
   go_wp2_with (first
    |(go_at_call 55;refine(S.o wr h.o).mono ?_;rintro e w' ⟨rfl,rfl⟩)
    |(go_at_call 55;refine(T.o _ h.o).mono ?_;rintro e w' ⟨rfl,rfl⟩)
    |(at_builtin;refine bv _ rfl _ _ 27 rfl w.heap.size 3 i0 (.int .i64 0) 1 8 jw hi H I J rfl (by decide) (.slice A' k c') k _ rfl (by exact y.o.alloc _) ⟨_,0,none⟩ 1 1 (ip z) rfl rfl (by exact dH _ _ _) (by exact ocintC_ _) (by unfold maxLen;omega) (by omega) (by simp;omega) ?_;intro v' w3 l n _;have t:=hid l;have V:=hid ((h.o.alloc P _).grown n (by simp;omega) (λb hb=>(y.o.lt b hb).1));clear l n))
   obtain⟨A9,c9,rfl⟩:=bU t.o;go_roundw
   case rel=>exact⟨k+1,A9,c9,by omega,by go_num,rfl,hid (by rw[R.o,HX.o];exact t.o),V⟩
   case measure=>(simp[RowKit.intOf];omega)
  ·obtain rfl:k=m:=by omega
   have i1:¬(k:Int)+1<=(k:Int):=by omega
   have p:wr.ownsRow w.heap.size 3 1 (.slice A' k c') k (d.flatMap ip):=by have f:=y.o;rw[g.o,aO,<-g.o] at f;exact f
   have q:=p;rw[g.o] at q;have r:=vec_own q;have D:=row_cap p;have X:=hid (vecS_plain r);have Y:=pv_len d;have E:=g.o;have Z:=hid (own_capmax p)
   have aa:=hid (show Calls Tryz.prog 105 #[.slice A' k c'] wr λe w'=>e= .returned (.slice A' (ck d).length c')∧w'=wr from by
    have f:=kI A' c' d wr (by omega) (by omega) (VecS.vec r)
    rw[<-g.o] at f;exact f)
   have ab:=hid (show(ck d).length<=c' by omega);clear p q r D Y E;go_wp2_with (go_at_call 105;refine aa.o.mono ?_;rintro e w9 ⟨rfl,rfl⟩);go_ret;exact⟨A',c',rfl,X.o,ab.o,Z.o,h.o⟩
def kg (l:List Gid) (n:Nat):Gid:=l.getD (n % (l.length+1)) .zero
theorem pick_any (L:List Gid) (A:Option Addr) (c:Nat) (q:Nat) (S:Nat->Prop) (w:World) (z:L.length<=100000) (B:q<=255) (g:RowF w S A 3 idL .zero L):
  Calls Tryz.prog 143 #[.slice A L.length c,.int .u8 (q:Int)] w λe w'=>e= .returned (.agg (idL (kg L q)).toArray)∧Below w.heap.size w w':=by
 obtain⟨u,f⟩:∃u,u=q % (L.length+1):=⟨_,rfl⟩;have y:u<=L.length:=by have:=fO q (show 0<L.length+1 by omega);omega
 have C:IntKind.i64.wrap (q:Int)=(q:Int):=by rw[bH];omega
 have D:((q:Int)).tmod ((L.length:Int)+1)=(u:Int):=by rw[ex (by omega),f];rfl
 have E:IntKind.i64.wrap (u:Int)=(u:Int):=by rw[bH];omega
 have F:¬(L.length:Int)+1=0:=by omega
 have i:=hid (show kg L q=L.getD u .zero by unfold kg;rw[f]);have l:=hid g;have b:=hid (show Below w.heap.size w (w.alloc (.cells #[(0:Int),(0:Int),(0:Int)] 108)) from(ag _ _).alloc (aa _) _);clear f g;rw[i.o];by_cases h:u=L.length
 ·have m:((u:Int) == (L.length:Int))=true:=by rw[cf];omega
  have o:=hid (show L.getD u Gid.zero=Gid.zero by rw[ae,cz (by omega)];rfl);rw[o.o];go_enter Tryz.func143,Tryz.ntmps143;go_wp2;refine aU (v:= .agg #[(0:Int),(0:Int),(0:Int)]) (by simp[results,Tryz.results143,go_sem]) rfl ?_;exact⟨rfl,b.o⟩
 ·have m:((u:Int) == (L.length:Int))=false:=by rw[aL];omega
  have G:(0:Int)<=(u:Int):=by omega
  have H:(u:Int)<(L.length:Int):=by omega
  obtain⟨p,s,rfl,-,d,a⟩:=l.o.range (λ_=>rfl) (k:=u) (by omega);generalize L.getD u Gid.zero=x at *;obtain⟨⟨t,r⟩,n⟩:=x;have j:=hid (ct (show w.rangeAt p (s+u*3) [t,r,n] from a) d b.o);clear a d;go_enter Tryz.func143,Tryz.ntmps143
  go_wp2_with (first
   |(refine lM j az ?_)
   |(refine bR rfl _ _ _ rfl _ _ _ _ rfl ?_ rfl ?_ ?_ ?_ ?_;(focus(simp;done));kernel_rfl;rfl;rfl))
  refine aU (v:= .agg #[t,r,n]) (by simp[results,Tryz.results143,go_sem]) rfl ?_;exact⟨rfl,(ag _ _).alloc (aa _) _⟩
theorem joined_any (L M:List Gid) (A E:Option Addr) (c J B B2:Nat) (w:World) (hl:L.length<=100000) (ac:M.length<=100000) (hO:w.ownsRow B 108 3 (.slice A L.length c) L.length (L.flatMap idL)) (F:w.ownsRow B2 108 3 (.slice E M.length J) M.length (M.flatMap idL)):
  Calls Tryz.prog 144 #[.slice A L.length c,.slice E M.length J] w λe w'=>∃A' c',e= .returned (.slice A' (L++M).length c')∧w'.ownsRow w.heap.size 108 3 (.slice A' (L++M).length c') (L++M).length ((L++M).flatMap idL)∧Below w.heap.size w w':=by
 obtain⟨K,N,v,y,z⟩:=bx info_id;have o:=row_at hO;have m:=row_at F;have O:∀r,E=some r->r.block<w.heap.size:=λr e=>by
  rcases F.2 with⟨e1,e2⟩|⟨g,cap,cur,e1,e2,e3,e4⟩
  ·injection e1 with G;rw[G] at e;cases e
  ·injection e1 with G;rw[G] at e;injection e with e;rw[<-e];exact lt_of_block e3
 clear hO F;have P:=hid (flat_len (f:=idL) (s:=3) (λ_=>rfl) L);have Q:=hid (flat_len (f:=idL) (s:=3) (λ_=>rfl) M);have R:=hid (show ∀u∈L.flatMap idL,u.oneCell'=true from λu V=>by obtain⟨x,-,o⟩:=dS.1 V;exact oc_idL x u o);have S:=hid (show ∀u∈M.flatMap idL,u.oneCell'=true from λu V=>by obtain⟨x,-,o⟩:=dS.1 V;exact oc_idL x u o);cases A with
 | none=>
  have h0:=o.1 rfl;obtain rfl:L=[]:=cx.1 h0;cases E with
  |none=>
   have W:=m.1 rfl;obtain rfl:M=[]:=cx.1 W;go_enter Tryz.func144,Tryz.ntmps144;go_wp2;go_ret;exact⟨none,0,rfl,aH _ _ _ _,ag _ _⟩
  |some l=>
   have C:=hid (m.2 l rfl);clear o m;go_enter Tryz.func144,Tryz.ntmps144;go_upto_region 3 with fail;go_wp2_with (at_builtin;refine bv _ rfl _ _ 123 rfl w.heap.size 108 K (.agg #[(0:Int),(0:Int),(0:Int)]) 3 24 eK N v y z rfl (by decide) (.slice none 0 0) 0 _ rfl (by exact(aH w w.heap.size 108 3)) l M.length J (M.flatMap idL) rfl Q.o C.o S.o (by unfold maxLen;omega) (by omega) (by simp) ?_;intro X q h d _;have i:=hid h;have k:=hid (Below.grown (ag w.heap.size w) d (by simp) (λb t=>(je (aH w w.heap.size 108 3) b t).1));clear h d);obtain⟨H,p,rfl⟩:=bU i.o;rw[cj] at i ⊢;go_ret;exact⟨H,p,rfl,i.o,k.o⟩
 | some r=>
  have Y:=hid (o.2 r rfl);cases E with
  | none=>
   have W:=m.1 rfl;obtain rfl:M=[]:=cx.1 W;clear o m;go_enter Tryz.func144,Tryz.ntmps144;go_upto_region 3 with(at_builtin;refine bv _ rfl _ _ 123 rfl w.heap.size 108 K (.agg #[(0:Int),(0:Int),(0:Int)]) 3 24 eK N v y z rfl (by decide) (.slice none 0 0) 0 _ rfl (by exact(aH w w.heap.size 108 3)) r L.length c (L.flatMap idL) rfl P.o Y.o R.o (by unfold maxLen;omega) (by omega) (by simp) ?_;intro X q h d _;have i:=hid h;have k:=hid (Below.grown (ag w.heap.size w) d (by simp) (λb t=>(je (aH w w.heap.size 108 3) b t).1));clear h d);rw[cj] at i;obtain⟨H,p,rfl⟩:=bU i.o;have n:=hid (show q.ownsRow w.heap.size 108 3 (.slice H L.length p) L.length ((L++[]).flatMap idL) by rw[g8];exact i.o);rcases n.o.2 with⟨e1,e2⟩|⟨g,cap,cur,e1,e2,e3,e4,G,e6⟩
   ·injection e1 with Z e8 e9;subst Z;have hL:L=[]:=cx.1 e8;subst hL e9;go_wp2;go_ret;exact⟨none,0,rfl,n.o,k.o⟩
   ·injection e1 with Z e8 e9;subst Z e9;have k1:¬p<L.length:=by omega
    have k2:¬p<L.length+0:=by omega
    have HU:=hid e4;clear e2 e3 G e6 e8;go_wp2;go_ret
    first
     |exact⟨_,p,rfl,n.o,k.o⟩
     |(have D:=n.o;refine⟨_,p,rfl,?_,k.o⟩;simpa using D)
  |some l=>
   have C:=hid (m.2 l rfl);have T:=hid (O l rfl);clear o m O;go_enter Tryz.func144,Tryz.ntmps144;go_upto_region 3 with(at_builtin;refine bv _ rfl _ _ 123 rfl w.heap.size 108 K (.agg #[(0:Int),(0:Int),(0:Int)]) 3 24 eK N v y z rfl (by decide) (.slice none 0 0) 0 _ rfl (by exact(aH w w.heap.size 108 3)) r L.length c (L.flatMap idL) rfl P.o Y.o R.o (by unfold maxLen;omega) (by omega) (by simp) ?_;intro X q h d _;have i:=hid h;have k:=hid (Below.grown (ag w.heap.size w) d (by simp) (λb t=>(je (aH w w.heap.size 108 3) b t).1));clear h d);rw[cj] at i;obtain⟨H,p,rfl⟩:=bU i.o;have n:=hid i.o;have U:=hid k.o;have aa:=hid (show ∀(j:Nat) (u:Value),(M.flatMap idL)[j]? =some u->q.cell? (l.add j)=some u from λj u hj=>(be (w:=w) (w':=q) (a:=l.add j) (by rw[show(l.add j).block=l.block from by unfold Addr.add;split<;>rfl];exact k.o.block _ T.o)).trans (C.o j u hj));generalize q=w6 at *;clear i k Y C T;have ab:=U.o.size
   go_wp2_with (at_builtin;refine bv _ rfl _ _ 123 rfl w.heap.size 108 K (.agg #[(0:Int),(0:Int),(0:Int)]) 3 24 eK N v y z rfl (by decide) (.slice H L.length p) L.length _ rfl (by exact n.o) l M.length J (M.flatMap idL) rfl Q.o aa.o S.o (by unfold maxLen;omega) (by omega) (by omega) ?_;intro X q h d _;have i:=hid h;have k:=hid (Below.grown U.o d (by omega) (λb t=>(je n.o b t).1));clear h d);obtain⟨A8,c8,rfl⟩:=bU i.o;have I:=hid (show q.ownsRow w.heap.size 108 3 (.slice A8 (L++M).length c8) (L++M).length ((L++M).flatMap idL) by rw[al,aK];exact i.o);go_ret;refine⟨A8,c8,?_,?_,k.o⟩
   ·first
     |rfl
     |(rw[al];rfl)
     |simp
   ·first
     |exact I.o
     |(have D:=I.o;rw[al] at D;exact D)
     |(have D:=I.o;simpa using D)
end
end Go.Proofs.YtkhmicndehlneaaGreatDoor
