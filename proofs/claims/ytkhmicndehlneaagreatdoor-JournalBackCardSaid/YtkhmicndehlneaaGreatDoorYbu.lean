/- Part 21 of the walks and plain laws that this claim uses, joined. Conditions: as each theorem states. -/
import Init.Data.Nat.Bitwise
import Init.Data.UInt.Lemmas
import Derived.Test.YtkhmicndehlneaaGreatDoorYbt
namespace Go.Proofs.YtkhmicndehlneaaGreatDoor
set_option maxRecDepth 100000
set_option maxHeartbeats 16000000
set_option linter.unusedVariables false
section
open Go.RowKit Go.Lib Go.Sort
attribute [local go_sem ↓] Go.wp_at_zero Go.wp_at_succ
def stepR (out:List Plc) (p:Plc):List Plc:=if (p.n.right && ek p.name && (dZ out p.n).isNone)=true then out++[p] else out
def fG (l:List Plc):List Plc:=l.foldl stepR []
theorem stepR_len (out:List Plc) (p:Plc):(stepR out p).length<=out.length+1:=by
 unfold stepR;split
 ·rw[al];exact aa _
 ·omega
theorem foldR_len:∀(l:List Plc) (out:List Plc),(l.foldl stepR out).length<=out.length+l.length
 | [],out=>aa _
 |x::l,out=>by
  have h1:=foldR_len l (stepR out x)
  have h2:=stepR_len out x
  rw[dU,bG];omega
theorem rightP_len (l:List Plc):(fG l).length<=l.length:=by
 have h:=foldR_len l [];simpa[fG] using h
theorem right15_any (L:List Plc) (A:Option Addr) (c:Nat) (S:Nat->Prop) (w:World) (hl:L.length<=100000) (hnm:∀p∈L,p.name.size<=1000000) (hR:RowF w S A 8 plcL plc0 L):
  Calls Tryz.prog 195 #[.slice A L.length c] w λe w'=>∃A' c',e= .returned (.slice A' (fG L).length c')∧w'.ownsRow w.heap.size 161 8 (.slice A' (fG L).length c') (fG L).length ((fG L).flatMap plcL)∧Below w.heap.size w w':=by
 obtain⟨i0,hi,ao,ap,ar⟩:=bD info_plc;have HR:=hid hR;have HN:=hid hnm;clear hR hnm;go_enter Tryz.func195,Tryz.ntmps195;go_upto_region 3 with fail;go_loopw [3,4] (λo i wr=>∃(k:Nat) (A':Option Addr) (c' m:Nat) (M:List Plc),k<=L.length∧i= .int .i64 k∧o= .slice A' m c'∧m<=k∧Hid (m=M.length)∧Hid (M=fG (L.take k))∧Hid (wr.ownsRow w.heap.size 161 8 (.slice A' m c') m (M.flatMap plcL))∧Hid (Below w.heap.size w wr)) (λo i _=>L.length-(RowKit.intOf i).toNat)
 case atStart=>exact⟨0,none,0,0,[],aq _,rfl,rfl,aa _,hid rfl,hid rfl,hid (aF w w.heap.size 161 8),hid (ag _ _)⟩
 case round=>
  obtain⟨k,A',c',m,M,hk,rfl,rfl,az,x,HM,Z,C⟩:=hrel;by_cases ab:k<L.length
  ·have i1:(0:Int)<=(k:Int):=by omega
   have i2:(k:Int)<(L.length:Int):=by omega
   obtain⟨s,t,rfl,-,ah,J⟩:=HR.out.range (λ_=>rfl) ab;have ai:fG (L.take (k+1))=stepR M (L.getD k plc0):=by rw[HM.out];exact eL _ _ ab plc0
   have aj:=HN.out _ (bL ab plc0);generalize L.getD k plc0=p at *;obtain⟨⟨⟨l,n⟩,q⟩,⟨⟨K,N⟩,O⟩,v,P⟩:=p;have aj:v.size<=1000000:=aj;have G:=hid (λW (hB:Below w.heap.size w W)=>show W.rangeAt s (t+k*8) [l,n,q,K,N,O,v,P] from cd J ah hB);have R:=hid (show wr.rangeAt s (t+k*8) [l,n,q] from bv (pre:=[]) (mid:=[l,n,q]) (post:=[K,N,O,v,P]) (G.out wr C.out));have T:=C.out.size;obtain⟨b1,ac⟩:∃b,b=Gid.right ⟨⟨l,n⟩,q⟩:=⟨_,rfl⟩;obtain⟨b2,ad⟩:∃b,b=ek v:=⟨_,rfl⟩;have H:=hid (show fG (L.take (k+1))=if (b1 && b2 && (dZ M ⟨⟨l,n⟩,q⟩).isNone)=true then M++[⟨⟨⟨l,n⟩,q⟩,⟨⟨K,N⟩,O⟩,v,P⟩] else M by rw[ai,ac,ad];rfl);have U:=hid (λW=>show Calls Tryz.prog 192 #[.agg #[l,n,q]] W λe w'=>e= .returned (.bool b1)∧Below W.heap.size W w' from by rw[ac];exact fY l n q W);have ae:=hid (λW=>show Calls Tryz.prog 159 #[v] W λe w'=>e= .returned (.bool b2)∧w'=W from by rw[ad];exact jI v W (by omega))
   have V:=hid (λW (hB:Below wr.heap.size wr W)=>show Calls Tryz.prog 169 #[.slice A' m c',.agg #[l,n,q]] W λe w'=>e= .returned (.int .i64 (ixI (dZ M ⟨⟨l,n⟩,q⟩)))∧Below W.heap.size W w' from by
    have h9:=gX M A' c' ⟨⟨l,n⟩,q⟩ _ W (by rw[<-x.out];omega) (ct (f:=plcL) (z:=plc0) (λ_=>rfl) x.out (Z.out.kept (dg (r:=none) hB) (cw _)))
    rw[<-x.out] at h9;exact h9)
   clear ai ac ad J ah;cases b1 with
   | false=>
    have D:=hid (show fG (L.take (k+1))=M by rw[H.out];rfl)
    go_wp2_with (first
     |(refine lM R aw ?_)
     |(go_at_call 192;refine(U.out wr).mono ?_;rintro e d ⟨rfl,g⟩;have u:=hid (C.out.trans (g.mono T));have B:=hid g;have a:=hid (G.out d u.out);have E:=kO Z B.out;clear g;have v0:d.cell? ⟨s,t+k*8,none⟩=some (.int .i64 l):=a.out 0 _ rfl;have v1:d.cell? ⟨s,t+k*8+1,none⟩=some (.int .i64 n):=a.out 1 _ rfl;have v2:d.cell? ⟨s,t+k*8+2,none⟩=some (.int .i64 q):=a.out 2 _ rfl;have v6:d.cell? ⟨s,t+k*8+6,none⟩=some (.string v):=a.out 6 _ rfl))
    go_roundw
    case rel=>exact⟨k+1,A',c',m,M,by omega,by go_num,rfl,by omega,x,hid D.out.symm,E,u⟩
    case measure=>(simp[RowKit.intOf];omega)
   | true=>
    cases b2 with
    | false=>
     have D:=hid (show fG (L.take (k+1))=M by rw[H.out];rfl)
     go_wp2_with (first
      |(refine lM R aw ?_)
      |(go_at_call 192;refine(U.out wr).mono ?_;rintro e d ⟨rfl,g⟩;have u:=hid (C.out.trans (g.mono T));have B:=hid g;have a:=hid (G.out d u.out);have E:=kO Z B.out;clear g;have v0:d.cell? ⟨s,t+k*8,none⟩=some (.int .i64 l):=a.out 0 _ rfl;have v1:d.cell? ⟨s,t+k*8+1,none⟩=some (.int .i64 n):=a.out 1 _ rfl;have v2:d.cell? ⟨s,t+k*8+2,none⟩=some (.int .i64 q):=a.out 2 _ rfl;have v6:d.cell? ⟨s,t+k*8+6,none⟩=some (.string v):=a.out 6 _ rfl)
      |(go_at_call 159;refine(ae.out d).mono ?_;rintro e w3 ⟨rfl,rfl⟩))
     go_roundw
     case rel=>exact⟨k+1,A',c',m,M,by omega,by go_num,rfl,by omega,x,hid D.out.symm,E,u⟩
     case measure=>(simp[RowKit.intOf];omega)
    | true=>
     cases I:dZ M ⟨⟨l,n⟩,q⟩ with
     | some kf=>
      have D:=hid (show fG (L.take (k+1))=M by rw[H.out,I];rfl);rw[I] at V;have k1:¬(kf:Int)<0:=by omega
      clear I H
      go_wp2_with (first
       |(refine lM R aw ?_)
       |(go_at_call 192;refine(U.out wr).mono ?_;rintro e d ⟨rfl,g⟩;have u:=hid (C.out.trans (g.mono T));have B:=hid g;have a:=hid (G.out d u.out);have E:=kO Z B.out;clear g;have v0:d.cell? ⟨s,t+k*8,none⟩=some (.int .i64 l):=a.out 0 _ rfl;have v1:d.cell? ⟨s,t+k*8+1,none⟩=some (.int .i64 n):=a.out 1 _ rfl;have v2:d.cell? ⟨s,t+k*8+2,none⟩=some (.int .i64 q):=a.out 2 _ rfl;have v6:d.cell? ⟨s,t+k*8+6,none⟩=some (.string v):=a.out 6 _ rfl)
       |(go_at_call 159;refine(ae.out d).mono ?_;rintro e w3 ⟨rfl,rfl⟩)
       |(go_at_call 169;refine(V.out _ B.out).mono ?_;rintro e w4 ⟨rfl,F⟩;have Q:=bT u F;have X:=kO E F;clear F;dsimp only[ixI]))
      go_roundw
      case rel=>exact⟨k+1,A',c',m,M,by omega,by go_num,rfl,by omega,x,hid D.out.symm,X,Q⟩
      case measure=>(simp[RowKit.intOf];omega)
     | none=>
      have D:=hid (show fG (L.take (k+1))=M++[⟨⟨⟨l,n⟩,q⟩,⟨⟨K,N⟩,O⟩,v,P⟩] by rw[H.out,I];rfl);rw[I] at V;clear I H
      go_upto_region 6 with(first
       |(refine lM R aw ?_)
       |(go_at_call 192;refine(U.out wr).mono ?_;rintro e d ⟨rfl,g⟩;have u:=hid (C.out.trans (g.mono T));have B:=hid g;have a:=hid (G.out d u.out);have E:=kO Z B.out;clear g;have v0:d.cell? ⟨s,t+k*8,none⟩=some (.int .i64 l):=a.out 0 _ rfl;have v1:d.cell? ⟨s,t+k*8+1,none⟩=some (.int .i64 n):=a.out 1 _ rfl;have v2:d.cell? ⟨s,t+k*8+2,none⟩=some (.int .i64 q):=a.out 2 _ rfl;have v6:d.cell? ⟨s,t+k*8+6,none⟩=some (.string v):=a.out 6 _ rfl)
       |(go_at_call 159;refine(ae.out d).mono ?_;rintro e w3 ⟨rfl,rfl⟩)
       |(go_at_call 169;refine(V.out _ B.out).mono ?_;rintro e w4 ⟨rfl,F⟩;have Q:=bT u F;have X:=kO E F;clear F;dsimp only[ixI]))
      have au:=hid (G.out w4 Q.out);have am:=Q.out.size;clear v0 v1 v2 v6
      go_wp2_with (first
       |(refine lM au ca ?_)
       |(at_builtin;refine bX _ rfl _ _ 101 rfl w.heap.size 161 i0 (.agg #[(0:Int),(0:Int),(0:Int),(0:Int),(0:Int),(0:Int),.string ⟨#[]⟩,false]) 8 72 Tryz.underlying101 hi ao ap ar rfl (by decide) (.slice A' m c') m _ rfl (by exact X.out.alloc _) ⟨w4.heap.size,0,none⟩ 1 1 [l,n,q,K,N,O,v,P] rfl rfl (λj y h=>dH w4 [l,n,q,K,N,O,v,P] 161 j y h) (fw (c:=#[l,n,q,K,N,O,v,P]) rfl) (by decide) (by unfold maxLen;omega) (by omega) (by simp;omega) (w4.heap.size+1) (by simp) ?_;intro gq av w5 af Y ha an;have ax:=hid af;have ay:=hid ((Q.out.alloc am _).grown Y (by simp;omega) (λb hb=>(X.out.lt b hb).1));clear af Y ha an))
      go_roundw
      case rel=>exact⟨k+1,some ⟨gq,0,none⟩,av,m+1,M++[⟨⟨⟨l,n⟩,q⟩,⟨⟨K,N⟩,O⟩,v,P⟩],by omega,by go_num,rfl,by omega,hid (by rw[al,<-x.out];rfl),hid D.out.symm,hid (by rw[aI];exact ax.out),ay⟩
      case measure=>(simp[RowKit.intOf];omega)
  ·obtain rfl:k=L.length:=by omega
   have i2:¬(L.length:Int)<(L.length:Int):=by omega
   have ak:=hid (show M=fG L by have h9:=HM.out;rw[aK] at h9;exact h9);go_wp2;go_ret;refine⟨A',c',by rw[<-ak.out,<-x.out];rfl,?_,C.out⟩;rw[<-ak.out,<-x.out];exact Z.out
def hY (L:List Plc):Nat->Gid->Bool
 |0,_=>false
 | f+1,x=>match dZ L x with
  |none=>false
  |some k=>if (L.getD k plc0).p.eqb .zero=true then true else match dZ L (L.getD k plc0).p with
   |none=>false
   |some k2=>if (L.getD k2 plc0).dir=true then hY L f (L.getD k plc0).p else false
def jO (L:List Plc) (x:Gid):Bool:=hY L (L.length+1) x
theorem rooted_any (L:List Plc) (A:Option Addr) (c:Nat) (xt xr xi:Int) (S:Nat->Prop) (w00:World) (hl:L.length<=100000) (hR:RowF w00 S A 8 plcL plc0 L):
  Calls Tryz.prog 196 #[.slice A L.length c,.agg #[xt,xr,xi]] w00 λe w'=>e= .returned (.bool (jO L ⟨⟨xt,xr⟩,xi⟩))∧Below w00.heap.size w00 w':=by
 obtain⟨l,I⟩:∃b,b=jO L ⟨⟨xt,xr⟩,xi⟩:=⟨_,rfl⟩;rw[<-I];have aj:=hid I;have B:Below w00.heap.size w00 (w00.alloc (.cells #[xt,xr,xi] 108)):=(ag _ _).alloc (aa _) _;have ak:=hid B;have ae:=hid (am w00 (.cells #[xt,xr,xi] 108));have HR:=hid hR;clear hR I B;go_enter Tryz.func196,Tryz.ntmps196;go_upto_region 2 with fail;generalize hW:w00.alloc (.cells #[xt,xr,xi] 108)=w at *;clear hW;obtain⟨G,Q⟩:∃x,x=w00.heap.size:=⟨_,rfl⟩;have al:=hid Q;rw[<-Q] at ae ⊢;clear Q;go_loopw [5] (λi wr=>∃(n:Nat) (x:Gid),n<=L.length+1∧i= .int .i64 n∧Hid (wr.heap[G]? =some (.cells (idL x).toArray 108 (0,0)))∧Hid (l=hY L (L.length+1-n) x)∧Hid (Below w00.heap.size w00 wr)) (λi _=>L.length+1-(RowKit.intOf i).toNat)
 case atStart=>exact⟨0,⟨⟨xt,xr⟩,xi⟩,aq _,rfl,ae,hid (by rw[aj.out];rfl),ak⟩
 case round=>
  obtain⟨n,x,hn,rfl,P,R,J⟩:=hrel;by_cases au:n<=L.length
  ·have i1:(n:Int)<=(L.length:Int):=by omega
   obtain⟨f,hf⟩:∃f,L.length+1-n=f+1:=⟨L.length-n,by omega⟩;have HF:=hid (show L.length+1-(n+1)=f by omega);rw[hf] at R;obtain⟨⟨t,r⟩,q⟩:=x;have P:Hid (wr.heap[G]? =some (.cells #[t,r,q] 108 (0,0))):=P;have K:=hid (show Calls Tryz.prog 169 #[.slice A L.length c,.agg #[t,r,q]] wr λe w'=>e= .returned (.int .i64 (ixI (dZ L ⟨⟨t,r⟩,q⟩)))∧Below wr.heap.size wr w' from gX L A c ⟨⟨t,r⟩,q⟩ S wr (by omega) (HR.out.below J.out));cases m:dZ L ⟨⟨t,r⟩,q⟩ with
   | none=>
    have T:=hid (show l=false by rw[R.out,hY,m]);rw[m] at K;clear hf m
    go_wp2_with (first
     |(refine lA P aw ?_)
     |(go_at_call 169;refine K.out.mono ?_;rintro e w2 ⟨rfl,o⟩;have C:=bK o P;have M:=bT J o;clear o;dsimp only[ixI]))
    go_ret;exact⟨by rw[T.out];rfl,M.out⟩
   | some k=>
    obtain⟨hk,-⟩:=fL m
    have U:l=(if (L.getD k plc0).p.eqb .zero=true then true else match dZ L (L.getD k plc0).p with
     |none=>false
     |some F=>if (L.getD F plc0).dir=true then hY L f (L.getD k plc0).p else false):=by rw[R.out,hY,m]
    rw[m] at K;obtain⟨rb,ro,af,-,ah,s⟩:=HR.out.range (λ_=>rfl) hk;have i3:(0:Int)<=(k:Int):=by omega
    have i4:(k:Int)<(L.length:Int):=by omega
    have i5:¬(k:Int)<0:=by omega
    have an:∃p,p=L.getD k plc0:=⟨_,rfl⟩;obtain⟨p,hp⟩:=an;rw[<-hp] at U s;obtain⟨⟨⟨nt,nr⟩,ni⟩,⟨⟨a,g⟩,h⟩,nm,dd⟩:=p;have ao:=hid (λW (X:Below w00.heap.size w00 W)=>show W.rangeAt rb (ro+k*8+3) [a,g,h] from bv (pre:=[nt,nr,ni]) (post:=[nm,dd]) (cd s ah X));have N:=hid (show(#[a,g,h]:Array Value).toList.all (·.oneCell')=true from rfl);have H:=hid (λW (X:Below w00.heap.size w00 W)=>show Calls Tryz.prog 169 #[.slice A L.length c,.agg #[a,g,h]] W λe w'=>e= .returned (.int .i64 (ixI (dZ L ⟨⟨a,g⟩,h⟩)))∧Below W.heap.size W w' from gX L A c ⟨⟨a,g⟩,h⟩ S W (by omega) (HR.out.below X));obtain⟨b0,B⟩:∃b,b=Gid.eqb ⟨⟨a,g⟩,h⟩ .zero:=⟨_,rfl⟩;have q0:=eJ a g h 0 0 0 b0 B.symm
    have Y:=hid (show l=(if b0=true then true else match dZ L ⟨⟨a,g⟩,h⟩ with
     |none=>false
     |some F=>if (L.getD F plc0).dir=true then hY L f ⟨⟨a,g⟩,h⟩ else false) by rw[B];exact U)
    have av:=hid af;subst af;clear hf m s ah hp U B R
    go_upto_region 7 with(first
     |(refine lA P aw ?_)
     |(go_at_call 169;refine K.out.mono ?_;rintro e w2 ⟨rfl,o⟩;have C:=bK o P;have M:=bT J o;clear o;dsimp only[ixI]))
    have O:=hid (ao.out w2 M.out);obtain⟨V,hV⟩:∃V,V=w2.setRow G #[a,g,h]:=⟨_,rfl⟩;have HV:=hid hV;have u:=hid (show V.heap[G]? =some (.cells #[a,g,h] 108 (0,0)) by rw[hV];exact aM _ C.out);have v:=hid (show Below w00.heap.size w00 V by rw[hV];exact Below.setRow' M.out (by rw[al.out];exact aa _) _);clear hV;cases b0 with
    | true=>
     have D:=hid (show l=true by rw[Y.out];rfl)
     go_upto_region 8 with(first
      |(refine lM O aw ?_)
      |(refine da rfl _ _ _ rfl G 108 #[t,r,q] #[a,g,h] rfl rfl C.out (by kernel_rfl) rfl N.out ?_;rw[<-HV.out]))
     go_wp2_with (refine lA u aw ?_);go_ret;exact⟨by rw[D.out];rfl,v.out⟩
    | false=>
     cases y:dZ L ⟨⟨a,g⟩,h⟩ with
     | none=>
      have D:=hid (show l=false by rw[Y.out,y];rfl);rw[y] at H;clear y
      go_upto_region 8 with(first
      |(refine lM O aw ?_)
      |(refine da rfl _ _ _ rfl G 108 #[t,r,q] #[a,g,h] rfl rfl C.out (by kernel_rfl) rfl N.out ?_;rw[<-HV.out]))
      go_wp2_with (first
       |(refine lA u aw ?_)
       |(go_at_call 169;refine(H.out V v.out).mono ?_;rintro e w4 ⟨rfl,j⟩;have Z:=bK j u;have z:=bT v j;clear j;dsimp only[ixI]))
      go_ret;exact⟨by rw[D.out];rfl,z.out⟩
     | some F=>
      obtain⟨ap,-⟩:=fL y;obtain⟨ax,ay,ar,-,ab,E⟩:=HR.out.range (λ_=>rfl) ap;cases ar;have l3:(0:Int)<=(F:Int):=by omega
      have l4:(F:Int)<(L.length:Int):=by omega
      have l5:¬(F:Int)<0:=by omega
      obtain⟨d2,ac⟩:∃d,d=(L.getD F plc0).dir:=⟨_,rfl⟩;have ai:=hid (λW (X:Below w00.heap.size w00 W)=>show W.cell? ⟨rb,ro+F*8+7,none⟩=some (.bool d2) from by rw[ac];exact(cd E ab X) 7 _ rfl);have D:=hid (show l=(if d2=true then hY L f ⟨⟨a,g⟩,h⟩ else false) by rw[Y.out,y,ac];rfl);rw[y] at H;clear y ac E ab;cases d2 with
      |false=>
       have ad:=hid (show l=false by rw[D.out];rfl)
       go_upto_region 8 with(first
      |(refine lM O aw ?_)
      | (refine da rfl _ _ _ rfl G 108 #[t,r,q] #[a,g,h] rfl rfl C.out (by kernel_rfl) rfl N.out ?_;rw[<-HV.out]))
       go_wp2_with (first
        |(refine lA u aw ?_)
        |(go_at_call 169;refine(H.out V v.out).mono ?_;rintro e w4 ⟨rfl,j⟩;have Z:=bK j u;have z:=bT v j;clear j;dsimp only[ixI];have c7:=ai.out w4 z.out))
       go_ret;exact⟨by rw[ad.out];rfl,z.out⟩
      |true=>
       have ad:=hid (show l=hY L f ⟨⟨a,g⟩,h⟩ by rw[D.out];rfl)
       go_upto_region 8 with(first
      |(refine lM O aw ?_)
      | (refine da rfl _ _ _ rfl G 108 #[t,r,q] #[a,g,h] rfl rfl C.out (by kernel_rfl) rfl N.out ?_;rw[<-HV.out]))
       go_wp2_with (first
        |(refine lA u aw ?_)
        |(go_at_call 169;refine(H.out V v.out).mono ?_;rintro e w4 ⟨rfl,j⟩;have Z:=bK j u;have z:=bT v j;clear j;dsimp only[ixI];have c7:=ai.out w4 z.out))
       go_roundw
       case rel=>exact⟨n+1,⟨⟨a,g⟩,h⟩,by omega,by go_num,Z,hid (by rw[HF.out];exact ad.out),z⟩
       case measure=>(simp[RowKit.intOf];omega)
  ·obtain rfl:n=L.length+1:=by omega
   have i1:¬((L.length:Int)+1)<=(L.length:Int):=by omega
   have i2:¬(((L.length+1:Nat):Int))<=(L.length:Int):=by omega
   have T:=hid (show l=false by rw[R.out,Nat.sub_self];rfl);go_wp2;go_ret;exact⟨by rw[T.out];rfl,J.out⟩
def gE (N:List Plc) (V:List Gid) (p:Plc):Bool:=N.any λq=>V.any (λy=>y.eqb q.n) && jO N q.n && jq N q.n p.n
def iX (L:List Plc) (V:List Gid):List Plc:=(fG L).filter (gE (fG L) V)
theorem seen15_any (L:List Plc) (A:Option Addr) (c:Nat) (V:List Gid) (vA:Option Addr) (vc:Nat) (S S2:Nat->Prop) (w00:World) (hl:L.length<=100000) (hv:V.length<=100000) (hnm:∀p∈L,p.name.size<=1000000) (hR:RowF w00 S A 8 plcL plc0 L) (hV:RowF w00 S2 vA 3 idL Gid.zero V):
  Calls Tryz.prog 171 #[.slice A L.length c,.slice vA V.length vc] w00 λe w'=>∃A' c',e= .returned (.slice A' (iX L V).length c')∧w'.ownsRow w00.heap.size 161 8 (.slice A' (iX L V).length c') (iX L V).length ((iX L V).flatMap plcL)∧Below w00.heap.size w00 w':=by
 obtain⟨i0,hi,aN,aO,aP⟩:=bD info_plc;have aB:=hid (right15_any L A c S w00 hl hnm hR);have aQ:=hid hV;have aR:=rightP_len L;obtain⟨N,hN⟩:∃N,N=fG L:=⟨_,rfl⟩;obtain⟨R,af⟩:∃R,R=iX L V:=⟨_,rfl⟩;have aS:=hid (show R=N.filter (gE N V) by rw[af,hN];rfl);rw[<-af];rw[<-hN] at aB aR;clear hR hV hN af;go_enter Tryz.func171,Tryz.ntmps171;go_upto_region 4 with(go_at_call 195;refine aB.out.mono ?_;rintro e w ⟨A1,c1,rfl,ab,ah⟩;have HN:=hid (ct (f:=plcL) (z:=plc0) (λ_=>rfl) rfl ab);have ai:=hid ah;have HV:=hid (aQ.out.below ah);clear ab ah);go_loopw [5,6] (λo i wr=>∃(k:Nat) (A':Option Addr) (c' m:Nat) (M:List Plc),k<=N.length∧i= .int .i64 k∧o= .slice A' m c'∧m<=k∧Hid (m=M.length)∧Hid (M=(N.take k).filter (gE N V))∧Hid (wr.ownsRow w.heap.size 161 8 (.slice A' m c') m (M.flatMap plcL))∧Hid (Below w.heap.size w wr)) (λo i _=>N.length-(RowKit.intOf i).toNat)
 case atStart=>exact⟨0,none,0,0,[],aq _,rfl,rfl,aa _,hid rfl,hid rfl,hid (aF w w.heap.size 161 8),hid (ag _ _)⟩
 case round=>
  obtain⟨k,A',c',m,M,hk,rfl,rfl,a5,ac,HM,HO,ak⟩:=hrel;by_cases aC:k<N.length
  ·have i1:(0:Int)<=(k:Int):=by omega
   have i2:(k:Int)<(N.length:Int):=by omega
   obtain⟨F,G,aT,-,aD,t⟩:=HN.out.range (λ_=>rfl) aC;have am:((N.take (k+1)).filter (gE N V))=M++(if gE N V (N.getD k plc0)=true then [N.getD k plc0] else []):=by
    rw[dF aC plc0,jD,HM.out];congr 1;generalize N.getD k plc0=p0;cases e:gE N V p0<;>simp[List.filter,e]
   obtain⟨p,hp⟩:∃p,p=N.getD k plc0:=⟨_,rfl⟩;rw[<-hp] at am t;obtain⟨⟨⟨g,l⟩,n⟩,⟨⟨Q,T⟩,U⟩,X,Y⟩:=p;have aE:=hid (λW (Z:Below w.heap.size w W)=>show W.rangeAt F (G+k*8) [.int .i64 g,.int .i64 l,.int .i64 n,.int .i64 Q,.int .i64 T,.int .i64 U,.string X,.bool Y] from cd t aD Z);have aG:=hid am;have aU:=ak.out.size;cases aT;clear t aD am hp;generalize wr=w0 at *;go_upto_region 8 with fail;go_loopw [7,8] (λh i wr=>∃(j:Nat) (b:Bool),j<=N.length∧i= .int .i64 j∧h= .bool b∧Hid (b=(N.take j).any (λq:Plc=>V.any (λy=>y.eqb q.n) && jO N q.n && jq N q.n ⟨⟨g,l⟩,n⟩))∧Hid (Below w0.heap.size w0 wr)) (λh i _=>N.length-(RowKit.intOf i).toNat)
   case atStart=>exact⟨0,false,aq _,rfl,rfl,hid rfl,hid (ag _ _)⟩
   case round=>
    obtain⟨j,b,hj,rfl,rfl,HB,E⟩:=hrel;have r:=hid (ak.out.trans (E.out.mono aU));have H:=r.out.size;by_cases aH:j<N.length
    ·have j1:(0:Int)<=(j:Int):=by omega
     have j2:(j:Int)<(N.length:Int):=by omega
     obtain⟨aV,aW,aX,-,an,s⟩:=HN.out.range (λ_=>rfl) aH;have ao:(N.take (j+1)).any (λq:Plc=>V.any (λy=>y.eqb q.n) && jO N q.n && jq N q.n ⟨⟨g,l⟩,n⟩)=((N.take j).any (λq:Plc=>V.any (λy=>y.eqb q.n) && jO N q.n && jq N q.n ⟨⟨g,l⟩,n⟩) || (λq:Plc=>V.any (λy=>y.eqb q.n) && jO N q.n && jq N q.n ⟨⟨g,l⟩,n⟩) (N.getD j plc0)):=by rw[dF aH plc0,jp];simp
     obtain⟨y,hy⟩:∃y,y=N.getD j plc0:=⟨_,rfl⟩;rw[<-hy] at ao s;obtain⟨⟨⟨u,x⟩,B⟩,⟨⟨u2,v2⟩,i2⟩,m2,d2⟩:=y;have aJ:w.rangeAt aV (aW+j*8) [.int .i64 u,.int .i64 x,.int .i64 B,.int .i64 u2,.int .i64 v2,.int .i64 i2,.string m2,.bool d2]:=s;obtain⟨b1,ap⟩:∃b,b=V.any (λy=>y.eqb ⟨⟨u,x⟩,B⟩):=⟨_,rfl⟩;obtain⟨b2,ar⟩:∃b,b=jO N ⟨⟨u,x⟩,B⟩:=⟨_,rfl⟩;obtain⟨b3,au⟩:∃b,b=jq N ⟨⟨u,x⟩,B⟩ ⟨⟨g,l⟩,n⟩:=⟨_,rfl⟩;have ad:=hid (show(N.take (j+1)).any (λq:Plc=>V.any (λy=>y.eqb q.n) && jO N q.n && jq N q.n ⟨⟨g,l⟩,n⟩)=(b || (b1 && b2 && b3)) by rw[ao,HB.out,ap,ar,au]);have I:=cd aJ an r.out;cases aX;have av:=hid (aE.out wr r.out);have y0:=aj (w:=wr) (a:=⟨F,G+j*8,none⟩) (v:= .int .i64 u) (I 0 _ rfl);have y1:=aj (w:=wr) (a:=⟨F,G+j*8+1,none⟩) (v:= .int .i64 x) (I 1 _ rfl);have y2:=aj (w:=wr) (a:=⟨F,G+j*8+2,none⟩) (v:= .int .i64 B) (I 2 _ rfl);have x0:=aj (w:=wr) (a:=⟨F,G+k*8,none⟩) (v:= .int .i64 g) (av.out 0 _ rfl);have x1:=aj (w:=wr) (a:=⟨F,G+k*8+1,none⟩) (v:= .int .i64 l) (av.out 1 _ rfl);have x2:=aj (w:=wr) (a:=⟨F,G+k*8+2,none⟩) (v:= .int .i64 n) (av.out 2 _ rfl);have aY:=hid (λW (Z:Below w.heap.size w W)=>show Calls Tryz.prog 173 #[.slice vA V.length vc,.agg #[u,x,B]] W λe w'=>e= .returned (.bool b1)∧Below W.heap.size W w' from by rw[ap];exact hasid_any V vA vc ⟨⟨u,x⟩,B⟩ S2 W (by omega) (HV.out.below Z))
     have aZ:=hid (λW (Z:Below w.heap.size w W)=>show Calls Tryz.prog 196 #[.slice (some ⟨F,G,none⟩) N.length c1,.agg #[u,x,B]] W λe w'=>e= .returned (.bool b2)∧Below W.heap.size W w' from by rw[ar];exact rooted_any N _ c1 u x B _ W (by omega) (HN.out.below Z));have a0:=hid (λW (Z:Below w.heap.size w W)=>show Calls Tryz.prog 168 #[.slice (some ⟨F,G,none⟩) N.length c1,.agg #[u,x,B],.agg #[g,l,n]] W λe w'=>e= .returned (.bool b3)∧Below W.heap.size W w' from by rw[au];exact within_any N _ c1 u x B g l n _ W (by omega) (HN.out.below Z));have J:=λd K=>ay (aY.out (grow (redrawn wr d) K) (r.out.trans ((bE wr d K).mono H)));have O:=λd K=>ay (aZ.out (grow (redrawn wr d) K) (r.out.trans ((bE wr d K).mono H)));have P:=λd K=>ay (a0.out (grow (redrawn wr d) K) (r.out.trans ((bE wr d K).mono H)));clear aJ I ap ar au hy ao s an;cases b1 with
     |false=>
      go_upto_region 10 with fail;refine rqb ?_
      repeat(any_goals(first|go_big_quiet_step (with_reducible first|exact J _ _|exact O _ _|exact P _ _)|quiet_step (with_reducible first|exact J _ _|exact O _ _|exact P _ _)))
      refine qz λwq C=> ?_;have D:=bT E C;go_wp2;go_roundw
      case rel=>exact⟨j+1,b,by omega,by go_num,rfl,hid (by rw[ad.out];simp),D⟩
      case measure=>(simp[RowKit.intOf];omega)
     | true=>
      cases b2 with
      |false=>
       go_upto_region 10 with fail;refine rqb ?_
       repeat(any_goals(first|go_big_quiet_step (with_reducible first|exact J _ _|exact O _ _|exact P _ _)|quiet_step (with_reducible first|exact J _ _|exact O _ _|exact P _ _)))
       refine qz λwq C=> ?_;have D:=bT E C;go_wp2;go_roundw
       case rel=>exact⟨j+1,b,by omega,by go_num,rfl,hid (by rw[ad.out];simp),D⟩
       case measure=>(simp[RowKit.intOf];omega)
      | true=>
       cases b3 with
       |false=>
        go_upto_region 10 with fail;refine rqb ?_
        repeat(any_goals(first|go_big_quiet_step (with_reducible first|exact J _ _|exact O _ _|exact P _ _)|quiet_step (with_reducible first|exact J _ _|exact O _ _|exact P _ _)))
        refine qz λwq C=> ?_;have D:=bT E C;go_wp2;go_roundw
        case rel=>exact⟨j+1,b,by omega,by go_num,rfl,hid (by rw[ad.out];simp),D⟩
        case measure=>(simp[RowKit.intOf];omega)
       |true=>
        go_upto_region 10 with fail;refine rqb ?_
        repeat(any_goals(first|go_big_quiet_step (with_reducible first|exact J _ _|exact O _ _|exact P _ _)|quiet_step (with_reducible first|exact J _ _|exact O _ _|exact P _ _)))
        refine qz λwq C=> ?_;have D:=bT E C;go_wp2;go_roundw
        case rel=>exact⟨j+1,true,by omega,by go_num,rfl,hid (by rw[ad.out];simp),D⟩
        case measure=>(simp[RowKit.intOf];omega)
    ·obtain rfl:j=N.length:=by omega
     have j2:¬(N.length:Int)<(N.length:Int):=by omega
     have aw:=hid (show gE N V ⟨⟨⟨g,l⟩,n⟩,⟨⟨Q,T⟩,U⟩,X,Y⟩=b by unfold gE;have h9:=HB.out;rw[aK] at h9;exact h9.symm);have ax:=kO HO E.out;cases b with
     |false=>
      have az:=hid (show((N.take (k+1)).filter (gE N V))=M by rw[aG.out,aw.out];simp);go_wp2;go_roundw
      case rel=>exact⟨k+1,A',c',m,M,by omega,by go_num,rfl,by omega,ac,hid az.out.symm,ax,r⟩
      case measure=>(simp[RowKit.intOf];omega)
     | true=>
      have az:=hid (show((N.take (k+1)).filter (gE N V))=M++[⟨⟨⟨g,l⟩,n⟩,⟨⟨Q,T⟩,U⟩,X,Y⟩] by rw[aG.out,aw.out];rfl);have a1:=hid (aE.out wr r.out)
      go_wp2_with (first
       |(refine lM a1 ca ?_)
       |(at_builtin;refine bX _ rfl _ _ 101 rfl w.heap.size 161 i0 (.agg #[(0:Int),(0:Int),(0:Int),(0:Int),(0:Int),(0:Int),.string ⟨#[]⟩,false]) 8 72 Tryz.underlying101 hi aN aO aP rfl (by decide) (.slice A' m c') m _ rfl (by exact ax.out.alloc _) ⟨wr.heap.size,0,none⟩ 1 1 [.int .i64 g,.int .i64 l,.int .i64 n,.int .i64 Q,.int .i64 T,.int .i64 U,.string X,.bool Y] rfl rfl (λj y h=>dH wr [.int .i64 g,.int .i64 l,.int .i64 n,.int .i64 Q,.int .i64 T,.int .i64 U,.string X,.bool Y] 161 j y h) (fw (c:=#[.int .i64 g,.int .i64 l,.int .i64 n,.int .i64 Q,.int .i64 T,.int .i64 U,.string X,.bool Y]) rfl) (by decide) (by unfold maxLen;omega) (by omega) (by simp;omega) (wr.heap.size+1) (by simp) ?_;intro gq a2 w5 aA ae ha aM;have a3:=hid aA;have a4:=hid ((r.out.alloc H _).grown ae (by simp;omega) (λb hb=>(ax.out.lt b hb).1));clear aA ae ha aM))
      go_roundw
      case rel=>exact⟨k+1,some ⟨gq,0,none⟩,a2,m+1,M++[⟨⟨⟨g,l⟩,n⟩,⟨⟨Q,T⟩,U⟩,X,Y⟩],by omega,by go_num,rfl,by omega,hid (by rw[al,<-ac.out];rfl),hid az.out.symm,hid (by rw[aI];exact a3.out),a4⟩
      case measure=>(simp[RowKit.intOf];omega)
  ·obtain rfl:k=N.length:=by omega
   have i2:¬(N.length:Int)<(N.length:Int):=by omega
   have aL:=hid (show M=R by rw[aS.out];have h9:=HM.out;rw[aK] at h9;exact h9);go_wp2;go_ret;refine⟨A',c',by rw[<-aL.out,<-ac.out];rfl,?_,ai.out.trans (ak.out.mono ai.out.size)⟩;rw[<-aL.out,<-ac.out];exact iC HO.out ai.out.size
end
section
section
namespace Crc
def step (c:Nat):Nat:=if c % 2=1 then (c / 2) ^^^ 3988292384 else c / 2
def steps:Nat->Nat->Nat
 |0,c=>c
 |k+1,c=>step (steps k c)
def tab (i:Nat):Nat:=steps 8 i
def one (c b:Nat):Nat:=steps 8 (c ^^^ b)
def two (t:Nat->Nat) (c b:Nat):Nat:=(c / 256) ^^^ t ((c ^^^ b) % 256)
def sum (t:Nat->Nat) (l:List UInt8) (c:Nat):Nat:=l.foldl (λc b=>two t c b.toNat) c
theorem xor_lt {a b n:Nat} (ha:a<2 ^ n) (hb:b<2 ^ n):a ^^^ b<2 ^ n:=Nat.xor_lt_two_pow ha hb
theorem xor32 {a b:Nat} (ha:a<4294967296) (hb:b<4294967296):a ^^^ b<4294967296:=xor_lt (n:=32) ha hb
theorem step_lt {c:Nat} (h:c<4294967296):step c<4294967296:=by
 unfold step;split
 ·exact xor32 (by omega) (by omega)
 ·omega
theorem steps_lt {c:Nat} (h:c<4294967296):∀k,steps k c<4294967296
 |0=>h
 |k+1=>step_lt (steps_lt h k)
theorem tab_lt {i:Nat} (h:i<256):tab i<4294967296:=steps_lt (by omega) 8
theorem two_lt {t:Nat->Nat} (ht:∀i,i<256->t i<4294967296) {c b:Nat} (hc:c<4294967296):two t c b<4294967296:=
 xor32 (by omega) (ht _ (fv _ (by decide)))
theorem sum_lt {t:Nat->Nat} (ht:∀i,i<256->t i<4294967296) (l:List UInt8):∀{c:Nat},c<4294967296->sum t l c<4294967296:=by
 induction l with
 |nil=>intro c h;exact h
 |cons b l ih=>intro c h;exact ih (two_lt ht h)
theorem sum_append (t:Nat->Nat) (l m:List UInt8) (c:Nat):sum t (l++m) c=sum t m (sum t l c):=by unfold sum;rw[List.foldl_append]
end Crc
end
section
open Go.RowKit
theorem crc_bits (c:Nat) (h:c<4294967296):
  bits .xor .u32 ((c:Int) / 2) (bits .and .u32 3988292384 (-bits .and .u32 (c:Int) 1 % 4294967296))=(Crc.step c:Nat):=by
 have b:=u32_and_nat c 1 h (by decide);have e:c &&& 1=c % 2:=Nat.and_one_is_mod c;rw[e] at b;rw[show((1:Nat):Int)=1 from rfl] at b;rw[b];unfold Crc.step;rw[show(c:Int) / 2=((c / 2:Nat):Int) from by omega];by_cases d:c % 2=1
 ·rw[aJ d,d];rw[show(-((1:Nat):Int) % 4294967296)=((4294967295:Nat):Int) from by decide];have a:=u32_and_nat 3988292384 4294967295 (by decide) (by decide);rw[show((3988292384:Nat):Int)=3988292384 from rfl] at a;rw[a,show 3988292384 &&& 4294967295=3988292384 from by decide,u32_xor_nat _ _ (by omega) (by decide)]
 ·rw[aC d,show c % 2=0 from by omega];rw[show(-((0:Nat):Int) % 4294967296)=((0:Nat):Int) from by decide];have a:=u32_and_nat 3988292384 0 (by decide) (by decide);rw[show((3988292384:Nat):Int)=3988292384 from rfl] at a;rw[a,show 3988292384 &&& 0=0 from by decide,u32_xor_nat _ _ (by omega) (by decide)];simp
theorem info_u32:(Tryz.prog.info? 78).map (λi=>(i.zero,i.size,i.bytes))=some (some (.int .u32 0),1,4):=by kernel_rfl
theorem take_snoc (s:ByteArray) (k:Nat) (h:k<s.size):s.data.toList.take (k+1)=s.data.toList.take k++[s[k]]:=by
 rw[cv (by simpa using h)];rfl
def crcOf (t:Nat->Nat) (l:List UInt8):Nat:=Crc.sum t l 4294967295 ^^^ 4294967295
theorem xor_mod256 (c b:Nat) (hb:b<256):(c % 256) ^^^ b=(c ^^^ b) % 256:=by
 rw[show(256:Nat)=2 ^ 8 from rfl,Nat.xor_mod_two_pow,iK (show b<2 ^ 8 from hb)]
theorem u8_idx (c b:Nat) (hb:b<256):bits .xor .u8 ((c:Int) % 256) (b:Int)=((c ^^^ b) % 256:Nat):=by
 rw[show(c:Int) % 256=((c % 256:Nat):Int) from by omega,u8_xor_nat _ _ (fv _ (by decide)) hb,xor_mod256 _ _ hb]
theorem u32_step (c x:Nat) (hc:c<4294967296) (hx:x<4294967296):bits .xor .u32 ((c:Int) / 256) (x:Int)=((c / 256) ^^^ x:Nat):=by
 rw[show(c:Int) / 256=((c / 256:Nat):Int) from by omega,u32_xor_nat _ _ (by omega) hx]
theorem sum_snoc (t:Nat->Nat) (s:ByteArray) (k:Nat) (h:k<s.size) (c:Nat):Crc.sum t (s.data.toList.take (k+1)) c=Crc.two t (Crc.sum t (s.data.toList.take k) c) s[k].toNat:=by
 rw[take_snoc s k h,Crc.sum_append];rfl
theorem u32_inv (c:Nat) (hc:c<4294967296):bits .xor .u32 IntKind.u32.max (c:Int)=((c ^^^ 4294967295:Nat):Int):=by
 rw[show IntKind.u32.max=((4294967295:Nat):Int) from by decide,u32_xor_nat _ _ (by decide) hc,Nat.xor_comm]
theorem ret_two {a b:Value} {x y:Value} (h:a=x) (h':b=y):Ending.returned (.tuple #[a,b])= .returned (.tuple #[x,y]):=by rw[h,h']
theorem sum_ok (A:Option Addr) (cap:Nat) (t:Nat->Nat) (ht:∀i,i<256->t i<4294967296) (s:ByteArray) (hs:s.size<=maxLen) (w:World) (hR:Row1 w w.heap.size A 256 (λi=> .int .u32 (t i:Nat))):
  Calls Tryz.prog 79 #[.slice A 256 cap,s] w λe w'=>e= .returned (.tuple #[.int .u32 (crcOf t s.data.toList:Nat),(0:Int)])∧Below w.heap.size w w':=by
 unfold maxLen at hs;have l:=λW=>run_bytes_of_string (P:=Tryz.prog) W 9 23 5 s gn dD dS;go_enter Tryz.func79,Tryz.ntmps79;go_wp2;clear l;go_loopw [6,15] (λc i wr=>∃k:Nat,k<=s.size∧i= .int .i64 k∧c= .int .u32 (Crc.sum t (s.data.toList.take k) 4294967295:Nat)∧(∀j,(m:j<s.size)->wr.cell? ⟨w.heap.size,j,none⟩=some (.int .u8 (s[j].toNat:Int)))∧Row1 wr w.heap.size A 256 (λi=> .int .u32 (t i:Nat))∧Below w.heap.size w wr) (λ_ i _=>s.size-(RowKit.intOf i).toNat)
 case atStart=>
  refine⟨0,by omega,rfl,rfl,λj m=> ?_,hR.keep λp q=>ej _ _ _ q,(ag _ _).drew.alloc (aa _) _⟩;exact(World.cell?_alloc_mark _ _ _ _ j).trans (bytesRow_at s _ j m)
 case round=>
  obtain⟨k,E,rfl,rfl,d,f,n⟩:=hrel;have a:=Crc.sum_lt ht (s.data.toList.take k) (c:=4294967295) (by decide);by_cases g:k<s.size
  ·have C:=d k g;have o:=hid (sum_snoc t s k g 4294967295);generalize Crc.sum t (s.data.toList.take k) 4294967295=c at *;have r:=fJ s[k];have u:=u8_idx c s[k].toNat r;obtain⟨x,b⟩:∃x,x=(c ^^^ s[k].toNat) % 256:=⟨_,rfl⟩;rw[<-b] at u;have h:x<256:=by rw[b];exact fv _ (by decide)
   have v:=hid b;clear b;obtain⟨F,y,-,D⟩:=f x h;have G:=u32_step c (t x) a (ht x h);have z:=hid d;have B:=hid f;clear d f hR;subst y;go_wp2;go_roundw
   case rel=>
    refine⟨k+1,by omega,by go_num,int_val ?_,z.out,B.out,n⟩;rw[o.out];unfold Crc.two;rw[<-v.out]
   case measure=>simp[RowKit.intOf];omega
  ·obtain rfl:k=s.size:=by omega
   rw[di (by simp)] at a ⊢;clear d f hR;go_wp2;go_ret2;exact⟨ret_two (int_val (u32_inv _ a)) rfl,n⟩
theorem sum_bad (A:Option Addr) (n cap:Nat) (hn:n≠256) (s:ByteArray) (w:World):
  Calls Tryz.prog 79 #[.slice A n cap,s] w λe w'=>e= .returned (.tuple #[.int .u32 0,(1:Int)])∧w=w':=by
 have a:((n:Int) != 256)=true:=by rw[eM];omega
 go_enter Tryz.func79,Tryz.ntmps79;go_wp2;go_ret2;exact⟨rfl,rfl⟩
theorem u32_xor_b (c b:Nat) (hc:c<4294967296) (hb:b<256):bits .xor .u32 (c:Int) (b:Int)=((c ^^^ b:Nat):Int):=u32_xor_nat _ _ hc (by omega)
theorem u32_xor_m (c:Nat) (hc:c<4294967296):bits .xor .u32 (c:Int) 4294967295=((c ^^^ 4294967295:Nat):Int):=u32_xor_nat _ 4294967295 hc (by decide)
theorem refsum_ok (A:Option Addr) (cap:Nat) (t:Nat->Nat) (ht:∀i,i<256->t i<4294967296) (s:ByteArray) (hs:s.size<=maxLen) (w:World) (hR:Row1 w w.heap.size A 256 (λi=> .int .u32 (t i:Nat))):
  Calls Tryz.prog 125 #[.slice A 256 cap,s] w λe w'=>e= .returned (.tuple #[.int .u32 (crcOf t s.data.toList:Nat),(0:Int)])∧w=w':=by
 unfold maxLen at hs;have g:=hid hR;clear hR;go_enter Tryz.func125,Tryz.ntmps125;go_wp2;go_loop [6,7] (λc i=>∃k:Nat,k<=s.size∧i= .int .i64 k∧c= .int .u32 (Crc.sum t (s.data.toList.take k) 4294967295:Nat)) (λ_ i=>s.size-(RowKit.intOf i).toNat)
 case atStart=>exact⟨0,by omega,rfl,rfl⟩
 case round=>
  obtain⟨k,p,rfl,rfl⟩:=hrel;have a:=Crc.sum_lt ht (s.data.toList.take k) (c:=4294967295) (by decide);by_cases d:k<s.size
  ·have f:=hid (sum_snoc t s k d 4294967295);generalize Crc.sum t (s.data.toList.take k) 4294967295=c at *;have h:=fJ s[k];have j:=u32_xor_b c s[k].toNat a h;obtain⟨y,b⟩:∃y,y=c ^^^ s[k].toNat:=⟨_,rfl⟩;rw[<-b] at j;have l:=hid b;have n:y<4294967296:=by rw[b];exact Crc.xor32 a (by omega)
   clear b;obtain⟨q,m,-,o⟩:=g.out (y % 256) (fv _ (by decide));have r:=u32_step c (t (y % 256)) a (ht _ (fv _ (by decide)));have u:y % 256<256:=fv _ (by decide);subst m;go_wp2;go_round
   case rel=>
    refine⟨k+1,by omega,by go_num,int_val ?_⟩;rw[f.out];unfold Crc.two;rw[<-l.out]
   case measure=>simp[RowKit.intOf];omega
  ·obtain rfl:k=s.size:=by omega
   rw[di (by simp)] at a ⊢;go_wp2;go_ret2;exact⟨ret_two (int_val (u32_xor_m _ a)) rfl,rfl⟩
theorem step_bits (c:Nat) (h:c<4294967296):bits .xor .u32 ((c:Int) / 2) 3988292384=((c / 2 ^^^ 3988292384:Nat):Int):=by
 rw[show(c:Int) / 2=((c / 2:Nat):Int) from by omega];exact u32_xor_nat _ 3988292384 (by omega) (by decide)
theorem step_any (c:Nat) (hc:c<4294967296) (w:World):
  Calls Tryz.prog 45 #[.int .u32 c] w λe w'=>e= .returned (.int .u32 (Crc.step c:Nat))∧w=w':=by
 have d:=step_bits c hc;by_cases h:c % 2=1
 ·have b:((c:Int) % 2 == 1)=true:=by rw[ce];omega
  have a:=hid h;clear h;go_enter Tryz.func45,Tryz.ntmps45;go_wp2;go_ret;exact⟨ret_int (by unfold Crc.step;rw[aJ a.out]),rfl⟩
 ·have b:((c:Int) % 2 == 1)=false:=by rw[aV];omega
  have a:=hid h;clear h;go_enter Tryz.func45,Tryz.ntmps45;go_wp2;go_ret;exact⟨ret_int (by unfold Crc.step;rw[aC a.out];omega),rfl⟩
def ie (c:Nat):List UInt8:=[UInt8.ofNat (c / 16777216),UInt8.ofNat (c / 65536),UInt8.ofNat (c / 256),UInt8.ofNat c]
def bytesV (c:Nat):List Value:=[.int .u8 ((c:Int) / 16777216),.int .u8 ((c:Int) / 65536 % 256),.int .u8 ((c:Int) / 256 % 256),.int .u8 ((c:Int) % 256)]
theorem bytesV_eq (c:Nat) (hc:c<4294967296):bytesV c=(ie c).map b8:=by
 unfold bytesV ie b8;simp only[List.map_cons,List.map_nil,UInt8.toNat_ofNat'];rw[iK (show c / 16777216<2 ^ 8 by omega)];simp only[Int.natCast_ediv,Int.natCast_emod];rfl
theorem cells_new (W:World) (xs:List Value) (e:TypeId) (j:Nat) (u:Value) (h:xs[j]? =some u):(W.alloc (.cells xs.toArray e)).cell? ((⟨W.heap.size,0,none⟩:Addr).add j)=some u:=by
 rw[jm];have:=World.cell?_alloc_mark W xs.toArray e (0,0) j;rw[this];simpa using h
theorem conv4 (W:World) (c:Nat) (hc:c<4294967296):
  (convert 23 9 (.slice (some ⟨W.heap.size,0,none⟩) 4 4)).run Tryz.prog (W.alloc (.cells #[.int .u8 ((c:Int) / 16777216),.int .u8 ((c:Int) / 65536 % 256),.int .u8 ((c:Int) / 256 % 256),.int .u8 ((c:Int) % 256)] 5))=
   .ok (.string ⟨(ie c).toArray⟩) (W.alloc (.cells #[.int .u8 ((c:Int) / 16777216),.int .u8 ((c:Int) / 65536 % 256),.int .u8 ((c:Int) / 256 % 256),.int .u8 ((c:Int) % 256)] 5)):=by
 refine run_convert_bytes_back _ 23 9 5 _ 4 (ie c) dD dS gn λj a=> ?_;refine cells_new W (bytesV c) _ j _ ?_;rw[bytesV_eq c hc,cT,an a];rfl
theorem bytes_any (c:Nat) (hc:c<4294967296) (w:World):
  Calls Tryz.prog 80 #[.int .u32 c] w λe w'=>e= .returned (.string ⟨(ie c).toArray⟩)∧Below w.heap.size w w':=by
 have b:=conv4 w c hc;generalize a:(ie c).toArray=B at *;clear a;go_enter Tryz.func80,Tryz.ntmps80;go_wp2;go_ret;exact⟨rfl,(ag _ _).alloc (aa _) _⟩
theorem info_u8:(Tryz.prog.info? 5).map (λi=>(i.zero,i.size,i.bytes))=some (some (.int .u8 0),1,1):=by kernel_rfl
def tabL (k:Nat):List Value:=(List.range k).map λi=> .int .u32 (Crc.tab i:Nat)
theorem tabL_succ (k:Nat):tabL (k+1)=tabL k++[.int .u32 (Crc.tab k:Nat)]:=by unfold tabL;rw[List.range_succ];simp
theorem one_cell (W:World) (u:Value) (e:TypeId) (j:Nat) (v:Value) (h:[u][j]? =some v):(W.alloc (.cells #[u] e)).cell? ((⟨W.heap.size,0,none⟩:Addr).add j)=some v:=cells_new W [u] e j v h
theorem jb (w:World):
  Calls Tryz.prog 14 #[] w λe w'=>∃v,e= .returned v∧w'.ownsRow w.heap.size 78 1 v 256 (tabL 256)∧Below w.heap.size w w':=by
 obtain⟨r,s,g,l,n⟩:=bD info_u32;go_enter Tryz.func14,Tryz.ntmps14;go_wp2;go_loopw [1,2] (λv i wr=>∃k:Nat,k<=256∧i= .int .i64 k∧wr.ownsRow w.heap.size 78 1 v k (tabL k)∧Below w.heap.size w wr) (λ_ i _=>256-(RowKit.intOf i).toNat)
 case atStart=>exact⟨0,by omega,rfl,aF _ _ _ _,ag _ _⟩
 case round=>
  obtain⟨k,z,rfl,a,b⟩:=hrel;by_cases x:k<256
  ·have A:decide ((k:Int)<256)=true:=by simp;omega
   go_wp2;go_loop [3,4] (λc j=>∃m:Nat,m<=8∧j= .int .i64 m∧c= .int .u32 (Crc.steps m k)) (λ_ j=>8-(RowKit.intOf j).toNat)
   case atStart=>exact⟨0,by omega,rfl,rfl⟩
   case round=>
    obtain⟨m,t,rfl,rfl⟩:=hrel;have o:=Crc.steps_lt (c:=k) (by omega) m;by_cases p:m<8
    ·go_wp2_with (go_at_call 45;refine(step_any _ o _).mono ?_;rintro e w' ⟨rfl,rfl⟩);go_round
     case rel=>exact⟨m+1,by omega,by go_num,rfl⟩
     case measure=>simp[RowKit.intOf];omega
    ·obtain rfl:m=8:=by omega
     clear t p;have B:=a;have y:=b.size;go_wp2_with (at_builtin;refine bu _ rfl _ _ 33 rfl w.heap.size 78 r (.int .u32 0) 1 4 Tryz.underlying33 s g l n rfl (by decide) _ _ _ rfl (a.alloc _) ⟨wr.heap.size,0,none⟩ 1 1 [.int .u32 (Crc.steps 8 k:Nat)] rfl rfl (one_cell _ _ _) (λu q=>by simp at q;subst q;rfl) (by unfold maxLen;omega) (by omega) (by simp;omega) ?_;intro C D d f _);go_roundw
     case rel=>
      refine⟨k+1,by omega,by go_num,by rw[tabL_succ];exact d,(b.alloc b.size _).grown f (by simp;omega) (λj h=>(a.lt j h).1)⟩
     case measure=>simp[RowKit.intOf];omega
  ·obtain rfl:k=256:=by omega
   go_wp2;go_ret;exact⟨_,rfl,a,b⟩
end
end
section
open Go.RowKit Go.Lib Go.Sort
attribute [local go_sem ↓] Go.wp_at_zero Go.wp_at_succ
def digs (n:Nat):List UInt8:=if n<10 then [UInt8.ofNat (48+n)] else digs (n / 10)++[UInt8.ofNat (48+n % 10)]
termination_by n
decreasing_by omega
theorem digs_low {n:Nat} (h:n<10):digs n=[UInt8.ofNat (48+n)]:=by rw[digs,aJ h]
theorem digs_high {n:Nat} (h:¬n<10):digs n=digs (n / 10)++[UInt8.ofNat (48+n % 10)]:=by rw[digs,aC h]
theorem b8_of (n:Nat) (h:n<10):b8 (UInt8.ofNat (48+n))= .int .u8 (48+(n:Int)):=by
 unfold b8;rw[UInt8.toNat_ofNat_of_lt' (show 48+n<256 by omega)];rfl
theorem pow_step {n v d:Nat} (h:v*10 ^ d<=n):v / 10*10 ^ (d+1)<=n:=by
 have a:v / 10*10<=v:=Nat.div_mul_le_self v 10;have b:v / 10*10*10 ^ d<=v*10 ^ d:=fd _ a;rw[Nat.pow_succ,Nat.mul_comm (10 ^ d) 10,<-Nat.mul_assoc];omega
theorem pow_lt {n v d:Nat} (h:v*10 ^ d<=n) (hn:n<1000000000000000000) (hv:0<v):d<18:=by
 rcases cj d 18 with a|a
 ·exact a
 ·have b:10 ^ 18<=10 ^ d:=Nat.pow_le_pow_right (by decide) a;have c:1*10 ^ d<=v*10 ^ d:=fd _ hv;have e:(10:Nat) ^ 18=1000000000000000000:=by decide
  omega
theorem digits_any (n:Nat) (w:World) (hn:n<1000000000000000000):
  Calls Tryz.prog 225 #[.int .i64 n] w λe w'=>∃T:ByteArray,e= .returned (.string T)∧T.data.toList=digs n∧T.size<=20∧Below w.heap.size w w':=by
 obtain⟨B,C,m,o,p⟩:=bD info_u8;have N:¬(n:Int)<0:=by omega
 go_enter Tryz.func225,Tryz.ntmps225;go_upto_region 4 with fail;go_loopw [0,3] (λa s wr=>∃(v:Nat) (T:ByteArray),a= .int .i64 v∧s= .string T∧v<=n∧T.size<=18∧Hid (v*10 ^ T.size<=n)∧Hid (digs n=digs v++T.data.toList)∧Hid (Below w.heap.size w wr)) (λa s _=>(RowKit.intOf a).toNat)
 case atStart=>exact⟨n,⟨#[]⟩,rfl,rfl,aa _,aq _,hid (by show n*10 ^ 0<=n;omega),hid (by simp),hid (ag _ _)⟩
 case round=>
  obtain⟨v,T,rfl,rfl,O,Q,D,E,g⟩:=hrel;have H:=g.out.size;by_cases r:v<10
  ·have I:¬(v:Int)>9:=by omega
   have J:¬(9:Int)<(v:Int):=by omega
   obtain⟨y,f⟩:∃y,y=UInt8.ofNat (48+v):=⟨_,rfl⟩;have t:=hid (show Value.int .u8 (48+(v:Int))=b8 y by rw[f,b8_of v r]);have i:=hid (show digs v=[y] by rw[f];exact digs_low r);clear f;go_upto_region 11 with(at_builtin;refine bu _ rfl _ _ 23 rfl w.heap.size 5 B (.int .u8 0) 1 1 dD C m o p rfl (by decide) (.slice none 0 0) 0 [] rfl (aF _ _ _ _) ⟨wr.heap.size,0,none⟩ 1 1 [.int .u8 (48+(v:Int))] rfl rfl (one_cell _ _ _) (λu j=>by simp at j;subst j;rfl) (by unfold maxLen;omega) (by omega) (by simp;omega) ?_;intro x z c d _;have k:=hid c;have l:=hid ((g.out.alloc g.out.size _).grown d (by simp;omega) (λb A=>by cases A));clear c d);have F:=conv_own (P:=Tryz.prog) z 23 9 5 w.heap.size x 1 [y] dD dS gn (by have h:=k.out;rw[t.out] at h;exact h);have K:Hid (((⟨#[y]⟩:ByteArray)++T).size<=maxLen):=hid (by simp only[aZ];rw[show(⟨#[y]⟩:ByteArray).size=1 from rfl];unfold maxLen;omega);go_wp2;go_ret;refine⟨_,rfl,?_,?_,l.out⟩
   ·rw[E.out,i.out];simp
   ·simp only[aZ];rw[show(⟨#[y]⟩:ByteArray).size=1 from rfl];omega
  ·have I:(v:Int)>9:=by omega
   have J:(9:Int)<(v:Int):=by omega
   have G:=hid (pow_lt D.out hn (by omega));have L:IntKind.i64.wrap (48+(v:Int) % 10)=48+(v:Int) % 10:=by rw[bz];omega
   have M:IntKind.u8.wrap (48+(v:Int) % 10)=48+(v:Int) % 10:=by rw[IntKind.wrap_u8];omega
   obtain⟨y,f⟩:∃y,y=UInt8.ofNat (48+v % 10):=⟨_,rfl⟩;have t:=hid (show Value.int .u8 (48+(v:Int) % 10)=b8 y by rw[f,b8_of (v % 10) (by omega)];rfl);have i:=hid (show digs v=digs (v / 10)++[y] by rw[f];exact digs_high r);clear f;go_upto_region 7 with(at_builtin;refine bu _ rfl _ _ 23 rfl w.heap.size 5 B (.int .u8 0) 1 1 dD C m o p rfl (by decide) (.slice none 0 0) 0 [] rfl (aF _ _ _ _) ⟨wr.heap.size,0,none⟩ 1 1 [.int .u8 (48+(v:Int) % 10)] rfl rfl (one_cell _ _ _) (λu j=>by simp at j;subst j;rfl) (by unfold maxLen;omega) (by omega) (by simp;omega) ?_;intro x z c d _;have k:=hid c;have l:=hid ((g.out.alloc g.out.size _).grown d (by simp;omega) (λb A=>by cases A));clear c d);have F:=conv_own (P:=Tryz.prog) z 23 9 5 w.heap.size x 1 [y] dD dS gn (by have h:=k.out;rw[t.out] at h;exact h);have K:Hid (((⟨#[y]⟩:ByteArray)++T).size<=maxLen):=hid (by simp only[aZ];rw[show(⟨#[y]⟩:ByteArray).size=1 from rfl];unfold maxLen;omega);have q:=hid (show((⟨#[y]⟩:ByteArray)++T).size=T.size+1 by simp only[aZ];rw[show(⟨#[y]⟩:ByteArray).size=1 from rfl];omega);go_wp2;go_roundw
   case rel=>exact⟨v / 10,_,by go_num,rfl,by omega,by rw[q.out];have:=G.out;omega,hid (by rw[q.out];exact pow_step D.out),hid (by rw[E.out,i.out];simp),l⟩
   case measure=>(simp[RowKit.intOf];omega)
end
section
open Go.RowKit Go.Lib Go.Sort
attribute [local go_sem ↓] Go.wp_at_zero Go.wp_at_succ
def digB (n:Nat):ByteArray:=⟨(digs n).toArray⟩
theorem digits_is (n:Nat) (w:World) (hn:n<1000000000000000000):Calls Tryz.prog 225 #[.int .i64 n] w λe w'=>e= .returned (.string (digB n))∧Below w.heap.size w w':=by
 refine(digits_any n w hn).mono ?_;rintro e w' ⟨T,rfl,a,-,b⟩;refine⟨?_,b⟩;unfold digB;rw[<-a,Array.toArray_toList]
theorem jh (n:Nat):n<1000000000000000000->(digB n).size<=18:=λh=>by
 show((digs n).toArray).size<=18
 rw[List.size_toArray]
 have hlow:∀m,m<10->(digs m).length=1:=λm hm=>by rw[digs_low hm];rfl
 have hs:∀(d:Nat),∀m,m<10 ^ (d+1)->(digs m).length<=d+1:=by
  intro d;induction d with
  |zero=>intro m hm;rw[hlow m (by simpa using hm)];exact aa _
  | succ d ih=>
   intro m hm;by_cases a:m<10
   ·rw[hlow m a];omega
   ·rw[digs_high a,al];have:=ih (m / 10) (by rw[Nat.div_lt_iff_lt_mul (by decide)];rw[Nat.pow_succ] at hm;exact hm);simp only[dy];omega
 exact hs 17 n h
def txtB (x:Gid):ByteArray:=if x.right=true then digB x.s.t.toNat++⟨#[46]⟩++digB x.s.r.toNat++⟨#[46]⟩++digB x.i.toNat else ⟨#[]⟩
theorem text5_any (t r i:Int) (w00:World):
  Calls Tryz.prog 221 #[.agg #[.int .i64 t,.int .i64 r,.int .i64 i]] w00 fun e w'=>e= .returned (.string (txtB ⟨⟨t,r⟩,i⟩))∧Below w00.heap.size w00 w':=by
 obtain⟨v,m⟩:∃v,v=Gid.right ⟨⟨t,r⟩,i⟩:=⟨_,rfl⟩
 obtain⟨T,q⟩:∃T,T=txtB ⟨⟨t,r⟩,i⟩:=⟨_,rfl⟩
 rw[←q]
 cases v with
 | false=>
  have D:=hid (show T=⟨#[]⟩ by rw[q];unfold txtB;rw[aC (by rw[←m];decide)])
  have k:Below w00.heap.size w00 (w00.alloc (.cells #[.int .i64 t,.int .i64 r,.int .i64 i] 108)):=(ag _ _).alloc (aa _) _
  have l:=hid k
  have s:=hid (am w00 (.cells #[.int .i64 t,.int .i64 r,.int .i64 i] 108))
  have u:=hid (show Calls Tryz.prog 192 #[.agg #[.int .i64 t,.int .i64 r,.int .i64 i]] (w00.alloc (.cells #[.int .i64 t,.int .i64 r,.int .i64 i] 108)) fun e w'=>e= .returned (.bool false)∧Below (w00.alloc (.cells #[.int .i64 t,.int .i64 r,.int .i64 i] 108)).heap.size (w00.alloc (.cells #[.int .i64 t,.int .i64 r,.int .i64 i] 108)) w' from by rw[m];exact fY t r i _)
  clear m q k
  go_enter Tryz.func221,Tryz.ntmps221
  go_upto_region 1 with fail
  generalize E:w00.alloc (.cells #[.int .i64 t,.int .i64 r,.int .i64 i] 108)=w at *
  clear E
  go_wp2_with (first
   |(refine cu rfl _ _ rfl w00.heap.size _ _ _ rfl s.out aw rfl ?_ ?_;kernel_rfl)
   |(go_at_call 192;refine u.out.mono ?_;rintro e o ⟨rfl,j⟩;have p:=hid (l.out.trans (j.mono l.out.size));clear j))
  go_ret
  exact⟨by rw[D.out];rfl,p.out⟩
 | true=>
  have C:=m.symm
  simp only[Gid.right,Gst.right,ap,ak] at C
  obtain⟨⟨⟨⟨⟨M,N⟩,O⟩,P⟩,Q⟩,R⟩:=C
  obtain⟨f,rfl⟩:∃n:Nat,t=(n:Int):=⟨t.toNat,by omega⟩
  obtain⟨g,rfl⟩:∃n:Nat,r=(n:Int):=⟨r.toNat,by omega⟩
  obtain⟨h,rfl⟩:∃n:Nat,i=(n:Int):=⟨i.toNat,by omega⟩
  obtain⟨a,z⟩:∃a,a=digB f:=⟨_,rfl⟩
  obtain⟨b,A⟩:∃a,a=digB g:=⟨_,rfl⟩
  obtain⟨c,B⟩:∃a,a=digB h:=⟨_,rfl⟩
  have D:=hid (show T=a++⟨#[46]⟩++b++⟨#[46]⟩++c by rw[q];unfold txtB;rw[aJ m.symm,z,A,B];rfl)
  have k:Below w00.heap.size w00 (w00.alloc (.cells #[.int .i64 (f:Int),.int .i64 (g:Int),.int .i64 (h:Int)] 108)):=(ag _ _).alloc (aa _) _
  have l:=hid k
  have s:=hid (am w00 (.cells #[.int .i64 (f:Int),.int .i64 (g:Int),.int .i64 (h:Int)] 108))
  have S:a.size≤18:=by rw[z];exact jh f (by omega)
  have U:b.size≤18:=by rw[A];exact jh g (by omega)
  have V:c.size≤18:=by rw[B];exact jh h (by omega)
  have u:=hid (show Calls Tryz.prog 192 #[.agg #[.int .i64 (f:Int),.int .i64 (g:Int),.int .i64 (h:Int)]] (w00.alloc (.cells #[.int .i64 (f:Int),.int .i64 (g:Int),.int .i64 (h:Int)] 108)) fun e w'=>e= .returned (.bool true)∧Below (w00.alloc (.cells #[.int .i64 (f:Int),.int .i64 (g:Int),.int .i64 (h:Int)] 108)).heap.size (w00.alloc (.cells #[.int .i64 (f:Int),.int .i64 (g:Int),.int .i64 (h:Int)] 108)) w' from by rw[m];exact fY f g h _)
  have F:=hid (fun W=>show Calls Tryz.prog 225 #[.int .i64 f] W fun e w'=>e= .returned (.string a)∧Below W.heap.size W w' from by rw[z];exact digits_is f W (by omega))
  have G:=hid (fun W=>show Calls Tryz.prog 225 #[.int .i64 g] W fun e w'=>e= .returned (.string b)∧Below W.heap.size W w' from by rw[A];exact digits_is g W (by omega))
  have H:=hid (fun W=>show Calls Tryz.prog 225 #[.int .i64 h] W fun e w'=>e= .returned (.string c)∧Below W.heap.size W w' from by rw[B];exact digits_is h W (by omega))
  clear m q k z A B
  go_enter Tryz.func221,Tryz.ntmps221
  go_upto_region 1 with fail
  generalize E:w00.alloc (.cells #[.int .i64 (f:Int),.int .i64 (g:Int),.int .i64 (h:Int)] 108)=w at *
  clear E
  go_upto_region 3 with(first
   |(refine cu rfl _ _ rfl w00.heap.size _ _ _ rfl s.out aw rfl ?_ ?_;kernel_rfl)
   |(go_at_call 192;refine u.out.mono ?_;rintro e o ⟨rfl,j⟩;have p:=hid (l.out.trans (j.mono l.out.size));have x:=hid ((j.block _ (lt_of_block s.out)).trans s.out);clear j))
  have X:=aj (w:=o) (a:=⟨w00.heap.size,0,none⟩) (v:= .int .i64 (f:Int)) (crw x.out)
  have Y:=aj (w:=o) (a:=⟨w00.heap.size,1,none⟩) (v:= .int .i64 (g:Int)) (crw x.out)
  have Z:=aj (w:=o) (a:=⟨w00.heap.size,2,none⟩) (v:= .int .i64 (h:Int)) (crw x.out)
  have I:=fun d y=>ay (F.out (grow (redrawn o d) y))
  have J:=fun d y=>ay (G.out (grow (redrawn o d) y))
  have K:=fun d y=>ay (H.out (grow (redrawn o d) y))
  refine rqb ?_
  repeat(any_goals(first|go_big_quiet_step (with_reducible first|exact I _ _|exact J _ _|exact K _ _)|quiet_step (with_reducible first|exact I _ _|exact J _ _|exact K _ _)))
  refine qz fun wq L=> ?_
  go_wp2
  go_ret
  exact⟨by rw[D.out];rfl,p.out.trans (L.mono p.out.size)⟩
theorem txtB_size (x:Gid):(txtB x).size<=60:=by
 unfold txtB;split
 ·rename_i h;simp only[Gid.right,Gst.right,ap,ak] at h;have a:=jh x.s.t.toNat (by omega);have b:=jh x.s.r.toNat (by omega);have c:=jh x.i.toNat (by omega);simp only[aZ];rw[show(⟨#[46]⟩:ByteArray).size=1 from rfl];omega
 ·exact aq _
def clashN (s:ByteArray) (x:Gid):ByteArray:=if ek s=true then (if (txtB x).size=0 then ⟨#[]⟩ else s++⟨#[126]⟩++txtB x) else ⟨#[]⟩
theorem clash_any (s:ByteArray) (t r i:Int) (w00:World) (hs:s.size≤1000000):
  Calls Tryz.prog 213 #[.string s,.agg #[.int .i64 t,.int .i64 r,.int .i64 i]] w00 fun e w'=>∃z,e= .returned (.tuple #[.string (clashN s ⟨⟨t,r⟩,i⟩),.int .i64 z])∧Below w00.heap.size w00 w':=by
 obtain⟨v,l⟩:∃v,v=ek s:=⟨_,rfl⟩
 obtain⟨X,g⟩:∃T,T=txtB ⟨⟨t,r⟩,i⟩:=⟨_,rfl⟩
 obtain⟨T,m⟩:∃T,T=clashN s ⟨⟨t,r⟩,i⟩:=⟨_,rfl⟩
 rw[←m]
 have n:=hid (show T=if v=true then (if X.size=0 then ⟨#[]⟩ else s++⟨#[126]⟩++X) else ⟨#[]⟩ by rw[m,l,g];rfl)
 have j:Below w00.heap.size w00 (w00.alloc (.cells #[.int .i64 t,.int .i64 r,.int .i64 i] 108)):=(ag _ _).alloc (aa _) _
 have a:=hid j
 have o:=hid (am w00 (.cells #[.int .i64 t,.int .i64 r,.int .i64 i] 108))
 have d:=hid (fun W=>show Calls Tryz.prog 159 #[.string s] W fun e w'=>e= .returned (.bool v)∧w'=W from by rw[l];exact jI s W (by omega))
 have k:=hid (fun W=>show Calls Tryz.prog 221 #[.agg #[.int .i64 t,.int .i64 r,.int .i64 i]] W fun e w'=>e= .returned (.string X)∧Below W.heap.size W w' from by rw[g];exact text5_any t r i W)
 have A:X.size≤60:=by rw[g];exact txtB_size _
 clear l g m j
 go_enter Tryz.func213,Tryz.ntmps213
 go_upto_region 1 with fail
 generalize x:w00.alloc (.cells #[.int .i64 t,.int .i64 r,.int .i64 i] 108)=w at *
 clear x
 cases v with
 |false=>
  have b:=hid (show T=⟨#[]⟩ by rw[n.out];rfl)
  go_wp2_with (go_at_call 159;refine(d.out w).mono ?_;rintro e p ⟨rfl,rfl⟩)
  go_ret2
  exact⟨_,by rw[b.out];rfl,a.out⟩
 | true=>
  by_cases h:X.size=0
  ·have b:=hid (show T=⟨#[]⟩ by rw[n.out,aJ rfl,aJ h])
   have q:X=⟨#[]⟩:=gm.1 (by apply bR;simpa using h)
   subst q
   go_wp2_with (first
    |(go_at_call 159;refine(d.out w).mono ?_;rintro e p ⟨rfl,rfl⟩)
    |(refine cu rfl _ _ rfl w00.heap.size _ _ _ rfl o.out aw rfl ?_ ?_;kernel_rfl)
    |(go_at_call 221;refine(k.out _).mono ?_;rintro e y ⟨rfl,c⟩;have f:=hid (a.out.trans (c.mono a.out.size));clear c))
   go_ret2
   exact⟨_,by rw[b.out];rfl,f.out⟩
  ·have b:=hid (show T=s++⟨#[126]⟩++X by rw[n.out,aJ rfl,aC h])
   have u:X.toList≠[]:=fun e=>h (by rw[eS] at e;rw[show X=⟨#[]⟩ from gm.1 e];rfl)
   have q:(X.toList == [])=false:=by rw[aV];exact u
   go_wp2_with (first
    |(go_at_call 159;refine(d.out w).mono ?_;rintro e p ⟨rfl,rfl⟩)
    |(refine cu rfl _ _ rfl w00.heap.size _ _ _ rfl o.out aw rfl ?_ ?_;kernel_rfl)
    |(go_at_call 221;refine(k.out _).mono ?_;rintro e y ⟨rfl,c⟩;have f:=hid (a.out.trans (c.mono a.out.size));clear c))
   go_ret2
   exact⟨_,by rw[b.out];rfl,f.out⟩
def nameN (L:List Plc) (p:Plc):ByteArray:=if L.any (λq:Plc=>q.p.eqb p.p && decide (q.name=p.name) && Gid.lt q.n p.n)=true then clashN p.name p.n else p.name
theorem nameN_size (L:List Plc) (p:Plc):(nameN L p).size<=p.name.size+61:=by
 unfold nameN clashN;have h:=txtB_size p.n;split
 ·split
  ·split
   ·exact aq _
   ·simp only[aZ];rw[show(⟨#[126]⟩:ByteArray).size=1 from rfl];omega
  ·exact aq _
 ·omega
theorem name15_any (L:List Plc) (A:Option Addr) (c:Nat) (nt nr ni pt pr pi:Int) (nm:ByteArray) (dd:Bool) (S:Nat→Prop) (w00:World) (hl:L.length≤100000) (hnm:nm.size≤1000000) (hR:RowF w00 S A 8 plcL plc0 L):
  Calls Tryz.prog 197 #[.slice A L.length c,.agg #[.int .i64 nt,.int .i64 nr,.int .i64 ni,.int .i64 pt,.int .i64 pr,.int .i64 pi,.string nm,.bool dd]] w00 fun e w'=>e= .returned (.string (nameN L ⟨⟨⟨nt,nr⟩,ni⟩,⟨⟨pt,pr⟩,pi⟩,nm,dd⟩))∧Below w00.heap.size w00 w':=by
 obtain⟨T,hT⟩:∃T,T=nameN L ⟨⟨⟨nt,nr⟩,ni⟩,⟨⟨pt,pr⟩,pi⟩,nm,dd⟩:=⟨_,rfl⟩
 rw[←hT]
 obtain⟨Z,hZ⟩:∃Z,Z=clashN nm ⟨⟨nt,nr⟩,ni⟩:=⟨_,rfl⟩
 have HT:=hid (show T=if L.any (fun q:Plc=>q.p.eqb ⟨⟨pt,pr⟩,pi⟩ && decide (q.name=nm) && Gid.lt q.n ⟨⟨nt,nr⟩,ni⟩)=true then Z else nm by rw[hT,hZ];rfl)
 have hb0:Below w00.heap.size w00 (w00.alloc (.cells #[.int .i64 nt,.int .i64 nr,.int .i64 ni,.int .i64 pt,.int .i64 pr,.int .i64 pi,.string nm,.bool dd] 161)):=(ag _ _).alloc (aa _) _
 have HB0:=hid hb0
 have HX0:=hid (am w00 (.cells #[.int .i64 nt,.int .i64 nr,.int .i64 ni,.int .i64 pt,.int .i64 pr,.int .i64 pi,.string nm,.bool dd] 161))
 have HR:=hid (hR.below hb0)
 have HCL:=hid (fun W=>show Calls Tryz.prog 213 #[.string nm,.agg #[.int .i64 nt,.int .i64 nr,.int .i64 ni]] W fun e w'=>∃z,e= .returned (.tuple #[.string Z,.int .i64 z])∧Below W.heap.size W w' from by rw[hZ];exact clash_any nm nt nr ni W hnm)
 clear hR hT hZ hb0
 go_enter Tryz.func197,Tryz.ntmps197
 go_upto_region 2 with fail
 generalize hW:w00.alloc (.cells #[.int .i64 nt,.int .i64 nr,.int .i64 ni,.int .i64 pt,.int .i64 pr,.int .i64 pi,.string nm,.bool dd] 161)=w at *
 clear hW
 have hxs:=HB0.out.size
 generalize hxb:w00.heap.size=xb at *
 have HXB:=hid hxb
 clear hxb
 go_loopw [5] (fun i wr=>∃(k:Nat),k≤L.length∧i= .int .i64 k∧Hid ((L.take k).any (fun q:Plc=>q.p.eqb ⟨⟨pt,pr⟩,pi⟩ && decide (q.name=nm) && Gid.lt q.n ⟨⟨nt,nr⟩,ni⟩)=false)∧Hid (Below w.heap.size w wr)) (fun i _=>L.length-(RowKit.intOf i).toNat)
 case atStart=>exact⟨0,aq _,rfl,hid rfl,hid (ag _ _)⟩
 case round=>
  obtain⟨k,hk,rfl,HA,HBr⟩:=hrel
  have HXr:=hid ((HBr.out.block _ (lt_of_block HX0.out)).trans HX0.out)
  have hxr:=aL hxs HBr.out.size
  have HBX:=hid (HB0.out.trans (HBr.out.mono hxs))
  by_cases hlt:k<L.length
  ·have i1:(0:Int)≤(k:Int):=by omega
   have i2:(k:Int)<(L.length:Int):=by omega
   obtain⟨rb,ro,rfl,-,hrb,hrange⟩:=HR.out.range (fun _=>rfl) hlt
   have htk:(L.take (k+1)).any (fun q:Plc=>q.p.eqb ⟨⟨pt,pr⟩,pi⟩ && decide (q.name=nm) && Gid.lt q.n ⟨⟨nt,nr⟩,ni⟩)=(fun q:Plc=>q.p.eqb ⟨⟨pt,pr⟩,pi⟩ && decide (q.name=nm) && Gid.lt q.n ⟨⟨nt,nr⟩,ni⟩) (L.getD k plc0):=by rw[dF hlt plc0,jp,HA.out];simp
   have hmem:(fun q:Plc=>q.p.eqb ⟨⟨pt,pr⟩,pi⟩ && decide (q.name=nm) && Gid.lt q.n ⟨⟨nt,nr⟩,ni⟩) (L.getD k plc0)=true→L.any (fun q:Plc=>q.p.eqb ⟨⟨pt,pr⟩,pi⟩ && decide (q.name=nm) && Gid.lt q.n ⟨⟨nt,nr⟩,ni⟩)=true:=fun h=>dV.2 ⟨_,bL hlt plc0,h⟩
   generalize L.getD k plc0=p at *
   obtain⟨⟨⟨t2,r2⟩,n2⟩,⟨⟨u2,v2⟩,i2⟩,m2,d2⟩:=p
   obtain⟨c1,hc1⟩:∃b,b=Gid.eqb ⟨⟨u2,v2⟩,i2⟩ ⟨⟨pt,pr⟩,pi⟩:=⟨_,rfl⟩
   obtain⟨c2,hc2⟩:∃b,b=decide (m2=nm):=⟨_,rfl⟩
   obtain⟨b2,hb2⟩:∃b,b=Gid.lt ⟨⟨t2,r2⟩,n2⟩ ⟨⟨nt,nr⟩,ni⟩:=⟨_,rfl⟩
   have HTK:=hid (show(L.take (k+1)).any (fun q:Plc=>q.p.eqb ⟨⟨pt,pr⟩,pi⟩ && decide (q.name=nm) && Gid.lt q.n ⟨⟨nt,nr⟩,ni⟩)=(c1 && c2 && b2) by rw[htk,hc1,hc2,hb2])
   have HME:=hid (show(c1 && c2 && b2)=true→L.any (fun q:Plc=>q.p.eqb ⟨⟨pt,pr⟩,pi⟩ && decide (q.name=nm) && Gid.lt q.n ⟨⟨nt,nr⟩,ni⟩)=true from fun h=>hmem (by rw[hc1,hc2,hb2] at h;exact h))
   have hrw:wr.rangeAt rb (ro+k*8) [.int .i64 t2,.int .i64 r2,.int .i64 n2,.int .i64 u2,.int .i64 v2,.int .i64 i2,.string m2,.bool d2]:=cd hrange hrb HBr.out
   have q1:=eJ u2 v2 i2 pt pr pi c1 hc1.symm
   have q2:(m2.toList == nm.toList)=c2:=beq_str hc2.symm
   have y0:=aj (w:=wr) (a:=⟨rb,ro+k*8,none⟩) (v:= .int .i64 t2) (hrw 0 _ rfl)
   have y1:=aj (w:=wr) (a:=⟨rb,ro+k*8+1,none⟩) (v:= .int .i64 r2) (hrw 1 _ rfl)
   have y2:=aj (w:=wr) (a:=⟨rb,ro+k*8+2,none⟩) (v:= .int .i64 n2) (hrw 2 _ rfl)
   have y3:=aj (w:=wr) (a:=⟨rb,ro+k*8+3,none⟩) (v:= .int .i64 u2) (hrw 3 _ rfl)
   have y4:=aj (w:=wr) (a:=⟨rb,ro+k*8+4,none⟩) (v:= .int .i64 v2) (hrw 4 _ rfl)
   have y5:=aj (w:=wr) (a:=⟨rb,ro+k*8+5,none⟩) (v:= .int .i64 i2) (hrw 5 _ rfl)
   have y6:=aj (w:=wr) (a:=⟨rb,ro+k*8+6,none⟩) (v:= .string m2) (hrw 6 _ rfl)
   have y4':=aj (w:=wr) (a:=⟨rb,ro+k*8+3+1,none⟩) (v:= .int .i64 v2) (hrw 4 _ rfl)
   have y5':=aj (w:=wr) (a:=⟨rb,ro+k*8+3+2,none⟩) (v:= .int .i64 i2) (hrw 5 _ rfl)
   have x0:=aj (w:=wr) (a:=⟨xb,0,none⟩) (v:= .int .i64 nt) (crw HXr.out)
   have x1:=aj (w:=wr) (a:=⟨xb,1,none⟩) (v:= .int .i64 nr) (crw HXr.out)
   have x2:=aj (w:=wr) (a:=⟨xb,2,none⟩) (v:= .int .i64 ni) (crw HXr.out)
   have x3:=aj (w:=wr) (a:=⟨xb,3,none⟩) (v:= .int .i64 pt) (crw HXr.out)
   have x4:=aj (w:=wr) (a:=⟨xb,4,none⟩) (v:= .int .i64 pr) (crw HXr.out)
   have x5:=aj (w:=wr) (a:=⟨xb,5,none⟩) (v:= .int .i64 pi) (crw HXr.out)
   have x6:=aj (w:=wr) (a:=⟨xb,6,none⟩) (v:= .string nm) (crw HXr.out)
   have HBF:=fun W=>gx t2 r2 n2 nt nr ni W
   obtain⟨zc,hzc⟩:∃z,z=rcmpD ⟨⟨t2,r2⟩,n2⟩ ⟨⟨nt,nr⟩,ni⟩:=⟨_,rfl⟩
   rw[←hzc] at HBF
   have hz2:decide (0≤zc)= !b2:=by rw[hzc,jW,hb2]
   have hz3:decide (zc<0)=b2:=by cases b2<;>simp at hz2 ⊢ <;>omega
   clear hzc hz2
   have cA:=fun d os=>ay (HBF (grow (redrawn wr d) os))
   clear hrange hrb hrw hc1 hc2 hb2 htk hmem
   cases c1 with
   |false=>
    go_upto_region 4 with fail
    refine rqb ?_
    repeat(any_goals(first|go_big_quiet_step (with_reducible exact cA _ _)|quiet_step (with_reducible exact cA _ _)))
    refine qz fun wq hBq=> ?_
    have HBq:=hid (HBr.out.trans (hBq.mono HBr.out.size))
    go_wp2
    go_roundw
    case rel=>exact⟨k+1,by omega,by go_num,hid HTK.out,HBq⟩
    case measure=>(simp[RowKit.intOf];omega)
   | true=>
    cases c2 with
    |false=>
     go_upto_region 4 with fail
     refine rqb ?_
     repeat(any_goals(first|go_big_quiet_step (with_reducible exact cA _ _)|quiet_step (with_reducible exact cA _ _)))
     refine qz fun wq hBq=> ?_
     have HBq:=hid (HBr.out.trans (hBq.mono HBr.out.size))
     go_wp2
     go_roundw
     case rel=>exact⟨k+1,by omega,by go_num,hid HTK.out,HBq⟩
     case measure=>(simp[RowKit.intOf];omega)
    | true=>
     cases b2 with
     |false=>
      go_upto_region 4 with fail
      refine rqb ?_
      repeat(any_goals(first|go_big_quiet_step (with_reducible exact cA _ _)|quiet_step (with_reducible exact cA _ _)))
      refine qz fun wq hBq=> ?_
      have HBq:=hid (HBr.out.trans (hBq.mono HBr.out.size))
      go_wp2
      go_roundw
      case rel=>exact⟨k+1,by omega,by go_num,hid HTK.out,HBq⟩
      case measure=>(simp[RowKit.intOf];omega)
     |true=>
      have HT2:=hid (show T=Z by rw[HT.out,aJ (HME.out rfl)])
      go_upto_region 4 with fail
      refine rqb ?_
      repeat(any_goals(first|go_big_quiet_step (with_reducible exact cA _ _)|quiet_step (with_reducible exact cA _ _)))
      refine qz fun wq hBq=> ?_
      have HBq:=hid (HBr.out.trans (hBq.mono HBr.out.size))
      have HXq:=hid ((hBq.block _ (lt_of_block HXr.out)).trans HXr.out)
      have HBQ:=hid (HBX.out.trans (hBq.mono hxr))
      have hxq:=aL hxr hBq.size
      have z0:wq.cell? ⟨xb,0,none⟩=some (.int .i64 nt):=aD _ _ _ _ _ _ HXq.out;have z1:wq.cell? ⟨xb,1,none⟩=some (.int .i64 nr):=aD _ _ _ _ _ _ HXq.out;have z2:wq.cell? ⟨xb,2,none⟩=some (.int .i64 ni):=aD _ _ _ _ _ _ HXq.out;have z6:wq.cell? ⟨xb,6,none⟩=some (.string nm):=aD _ _ _ _ _ _ HXq.out
      clear x0 y0 x1 y1 x2 y2 x3 y3 x4 y4 x5 y5 x6 y6 y4' y5' cA
      go_wp2_with (go_at_call 213;refine(HCL.out _).mono ?_;rintro e w3 ⟨zz,rfl,hB3⟩;have HB3:=hid (HBQ.out.trans (hB3.mono hxq));clear hB3)
      go_ret
      exact⟨by rw[HT2.out];rfl,by rw[HXB.out];exact HB3.out⟩
  ·obtain rfl:k=L.length:=by omega
   have i2:¬(L.length:Int)<(L.length:Int):=by omega
   have HT2:=hid (show T=nm by rw[HT.out,aC (by have h9:=HA.out;rw[aK] at h9;rw[h9];decide)])
   have z6:wr.cell? ⟨xb,6,none⟩=some (.string nm):=aD _ _ _ _ _ _ HXr.out
   go_wp2
   go_ret
   exact⟨by rw[HT2.out];rfl,by rw[HXB.out];exact HBX.out⟩
end
end Go.Proofs.YtkhmicndehlneaaGreatDoor
