/- Part 23 of the walks and plain laws that this claim uses, joined. Conditions: as each theorem states. -/
import Derived.Test.YtkhmicndehlneaaGreatDoorYrv
namespace Go.Proofs.YtkhmicndehlneaaGreatDoor
set_option maxRecDepth 100000
set_option maxHeartbeats 16000000
set_option linter.unusedVariables false
section
open Go.RowKit Go.Lib Go.Sort
attribute [local go_sem ↓] Go.wp_at_zero Go.wp_at_succ
def stepR (out:List Plc) (p:Plc):List Plc:=if (p.n.right && eC p.name && (eo out p.n).isNone)=true then out++[p] else out
def fK (l:List Plc):List Plc:=l.foldl stepR []
theorem stepR_len (a:List Plc) (p:Plc):(stepR a p).length<=a.length+1:=by
 unfold stepR;split
 ·rw[al];exact aa _
 ·omega
theorem foldR_len:∀(l:List Plc) (out:List Plc),(l.foldl stepR out).length<=out.length+l.length
 | [],out=>aa _
 |x::l,out=>by
  have h1:=foldR_len l (stepR out x)
  have h2:=stepR_len out x
  rw[ed,bQ];omega
theorem rightP_len (l:List Plc):(fK l).length<=l.length:=by
 have h:=foldR_len l [];simpa[fK] using h
theorem right15_any (L:List Plc) (A:Option Addr) (c:Nat) (S:Nat->Prop) (w:World) (hl:L.length<=100000) (ah:∀p∈L,p.name.size<=1000000) (hR:RowF w S A 8 plcL plc0 L):
  Calls Tryz.prog 195 #[.slice A L.length c] w λe w'=>∃A' c',e= .returned (.slice A' (fK L).length c')∧w'.ownsRow w.heap.size 161 8 (.slice A' (fK L).length c') (fK L).length ((fK L).flatMap plcL)∧Below w.heap.size w w':=by
 obtain⟨i0,hi,ap,ar,au⟩:=bx info_plc;have HR:=hid hR;have HN:=hid ah;clear hR ah;go_enter Tryz.func195,Tryz.ntmps195;go_upto_region 3 with fail;go_loopw [3,4] (λo i wr=>∃(k:Nat) (A':Option Addr) (c' m:Nat) (M:List Plc),k<=L.length∧i= .int .i64 k∧o= .slice A' m c'∧m<=k∧Hid (m=M.length)∧Hid (M=fK (L.take k))∧Hid (wr.ownsRow w.heap.size 161 8 (.slice A' m c') m (M.flatMap plcL))∧Hid (Below w.heap.size w wr)) (λo i _=>L.length-(RowKit.intOf i).toNat)
 case atStart=>exact⟨0,none,0,0,[],aq _,rfl,rfl,aa _,hid rfl,hid rfl,hid (aH w w.heap.size 161 8),hid (ag _ _)⟩
 case round=>
  obtain⟨k,A',c',m,M,hk,rfl,rfl,aA,x,HM,Z,C⟩:=hrel;by_cases ab:k<L.length
  ·have i1:(0:Int)<=(k:Int):=by omega
   have i2:(k:Int)<(L.length:Int):=by omega
   obtain⟨s,t,rfl,-,ai,J⟩:=HR.o.range (λ_=>rfl) ab;have aj:fK (L.take (k+1))=stepR M (L.getD k plc0):=by rw[HM.o];exact eU _ _ ab plc0
   have ak:=HN.o _ (cg ab plc0);generalize L.getD k plc0=p at *;obtain⟨⟨⟨l,n⟩,q⟩,⟨⟨K,N⟩,O⟩,v,P⟩:=p;have ak:v.size<=1000000:=ak;have G:=hid (λW (hB:Below w.heap.size w W)=>show W.rangeAt s (t+k*8) [l,n,q,K,N,O,v,P] from ct J ai hB);have R:=hid (show wr.rangeAt s (t+k*8) [l,n,q] from bC (pre:=[]) (mid:=[l,n,q]) (post:=[K,N,O,v,P]) (G.o wr C.o));have T:=C.o.size;obtain⟨b1,ac⟩:∃b,b=Gid.right ⟨⟨l,n⟩,q⟩:=⟨_,rfl⟩;obtain⟨b2,ad⟩:∃b,b=eC v:=⟨_,rfl⟩;have H:=hid (show fK (L.take (k+1))=if (b1 && b2 && (eo M ⟨⟨l,n⟩,q⟩).isNone)=true then M++[⟨⟨⟨l,n⟩,q⟩,⟨⟨K,N⟩,O⟩,v,P⟩] else M by rw[aj,ac,ad];rfl);have U:=hid (λW=>show Calls Tryz.prog 192 #[.agg #[l,n,q]] W λe w'=>e= .returned (.bool b1)∧Below W.heap.size W w' from by rw[ac];exact gf l n q W);have ae:=hid (λW=>show Calls Tryz.prog 159 #[v] W λe w'=>e= .returned (.bool b2)∧w'=W from by rw[ad];exact jO v W (by omega))
   have V:=hid (λW (hB:Below wr.heap.size wr W)=>show Calls Tryz.prog 169 #[.slice A' m c',.agg #[l,n,q]] W λe w'=>e= .returned (.int .i64 (ixI (eo M ⟨⟨l,n⟩,q⟩)))∧Below W.heap.size W w' from by
    have h9:=gW M A' c' ⟨⟨l,n⟩,q⟩ _ W (by rw[<-x.o];omega) (cT (f:=plcL) (z:=plc0) (λ_=>rfl) x.o (Z.o.kept (dB (r:=none) hB) (cX _)))
    rw[<-x.o] at h9;exact h9)
   clear aj ac ad J ai;cases b1 with
   | false=>
    have D:=hid (show fK (L.take (k+1))=M by rw[H.o];rfl)
    go_wp2_with (first
     |(refine lM R az ?_)
     |(go_at_call 192;refine(U.o wr).mono ?_;rintro e d ⟨rfl,g⟩;have u:=hid (C.o.trans (g.mono T));have B:=hid g;have a:=hid (G.o d u.o);have E:=kO Z B.o;clear g;have v0:d.cell? ⟨s,t+k*8,none⟩=some (.int .i64 l):=a.o 0 _ rfl;have v1:d.cell? ⟨s,t+k*8+1,none⟩=some (.int .i64 n):=a.o 1 _ rfl;have v2:d.cell? ⟨s,t+k*8+2,none⟩=some (.int .i64 q):=a.o 2 _ rfl;have v6:d.cell? ⟨s,t+k*8+6,none⟩=some (.string v):=a.o 6 _ rfl))
    go_roundw
    case rel=>exact⟨k+1,A',c',m,M,by omega,by go_num,rfl,by omega,x,hid D.o.symm,E,u⟩
    case measure=>(simp[RowKit.intOf];omega)
   | true=>
    cases b2 with
    | false=>
     have D:=hid (show fK (L.take (k+1))=M by rw[H.o];rfl)
     go_wp2_with (first
      |(refine lM R az ?_)
      |(go_at_call 192;refine(U.o wr).mono ?_;rintro e d ⟨rfl,g⟩;have u:=hid (C.o.trans (g.mono T));have B:=hid g;have a:=hid (G.o d u.o);have E:=kO Z B.o;clear g;have v0:d.cell? ⟨s,t+k*8,none⟩=some (.int .i64 l):=a.o 0 _ rfl;have v1:d.cell? ⟨s,t+k*8+1,none⟩=some (.int .i64 n):=a.o 1 _ rfl;have v2:d.cell? ⟨s,t+k*8+2,none⟩=some (.int .i64 q):=a.o 2 _ rfl;have v6:d.cell? ⟨s,t+k*8+6,none⟩=some (.string v):=a.o 6 _ rfl)
      |(go_at_call 159;refine(ae.o d).mono ?_;rintro e w3 ⟨rfl,rfl⟩))
     go_roundw
     case rel=>exact⟨k+1,A',c',m,M,by omega,by go_num,rfl,by omega,x,hid D.o.symm,E,u⟩
     case measure=>(simp[RowKit.intOf];omega)
    | true=>
     cases I:eo M ⟨⟨l,n⟩,q⟩ with
     | some kf=>
      have D:=hid (show fK (L.take (k+1))=M by rw[H.o,I];rfl);rw[I] at V;have k1:¬(kf:Int)<0:=by omega
      clear I H
      go_wp2_with (first
       |(refine lM R az ?_)
       |(go_at_call 192;refine(U.o wr).mono ?_;rintro e d ⟨rfl,g⟩;have u:=hid (C.o.trans (g.mono T));have B:=hid g;have a:=hid (G.o d u.o);have E:=kO Z B.o;clear g;have v0:d.cell? ⟨s,t+k*8,none⟩=some (.int .i64 l):=a.o 0 _ rfl;have v1:d.cell? ⟨s,t+k*8+1,none⟩=some (.int .i64 n):=a.o 1 _ rfl;have v2:d.cell? ⟨s,t+k*8+2,none⟩=some (.int .i64 q):=a.o 2 _ rfl;have v6:d.cell? ⟨s,t+k*8+6,none⟩=some (.string v):=a.o 6 _ rfl)
       |(go_at_call 159;refine(ae.o d).mono ?_;rintro e w3 ⟨rfl,rfl⟩)
       |(go_at_call 169;refine(V.o _ B.o).mono ?_;rintro e w4 ⟨rfl,F⟩;have Q:=bT u F;have X:=kO E F;clear F;dsimp only[ixI]))
      go_roundw
      case rel=>exact⟨k+1,A',c',m,M,by omega,by go_num,rfl,by omega,x,hid D.o.symm,X,Q⟩
      case measure=>(simp[RowKit.intOf];omega)
     | none=>
      have D:=hid (show fK (L.take (k+1))=M++[⟨⟨⟨l,n⟩,q⟩,⟨⟨K,N⟩,O⟩,v,P⟩] by rw[H.o,I];rfl);rw[I] at V;clear I H
      go_upto_region 6 with(first
       |(refine lM R az ?_)
       |(go_at_call 192;refine(U.o wr).mono ?_;rintro e d ⟨rfl,g⟩;have u:=hid (C.o.trans (g.mono T));have B:=hid g;have a:=hid (G.o d u.o);have E:=kO Z B.o;clear g;have v0:d.cell? ⟨s,t+k*8,none⟩=some (.int .i64 l):=a.o 0 _ rfl;have v1:d.cell? ⟨s,t+k*8+1,none⟩=some (.int .i64 n):=a.o 1 _ rfl;have v2:d.cell? ⟨s,t+k*8+2,none⟩=some (.int .i64 q):=a.o 2 _ rfl;have v6:d.cell? ⟨s,t+k*8+6,none⟩=some (.string v):=a.o 6 _ rfl)
       |(go_at_call 159;refine(ae.o d).mono ?_;rintro e w3 ⟨rfl,rfl⟩)
       |(go_at_call 169;refine(V.o _ B.o).mono ?_;rintro e w4 ⟨rfl,F⟩;have Q:=bT u F;have X:=kO E F;clear F;dsimp only[ixI]))
      have av:=hid (G.o w4 Q.o);have an:=Q.o.size;clear v0 v1 v2 v6
      go_wp2_with (first
       |(refine lM av co ?_)
       |(at_builtin;refine cm _ rfl _ _ 101 rfl w.heap.size 161 i0 (.agg #[(0:Int),(0:Int),(0:Int),(0:Int),(0:Int),(0:Int),.string ⟨#[]⟩,false]) 8 72 Tryz.underlying101 hi ap ar au rfl (by decide) (.slice A' m c') m _ rfl (by exact X.o.alloc _) ⟨w4.heap.size,0,none⟩ 1 1 [l,n,q,K,N,O,v,P] rfl rfl (λj y h=>dH w4 [l,n,q,K,N,O,v,P] 161 j y h) (fx (c:=#[l,n,q,K,N,O,v,P]) rfl) (by decide) (by unfold maxLen;omega) (by omega) (by simp;omega) (w4.heap.size+1) (by simp) ?_;intro gq aw w5 af Y ha ao;have ax:=hid af;have ay:=hid ((Q.o.alloc an _).grown Y (by simp;omega) (λb hb=>(X.o.lt b hb).1));clear af Y ha ao))
      go_roundw
      case rel=>exact⟨k+1,some ⟨gq,0,none⟩,aw,m+1,M++[⟨⟨⟨l,n⟩,q⟩,⟨⟨K,N⟩,O⟩,v,P⟩],by omega,by go_num,rfl,by omega,hid (by rw[al,<-x.o];rfl),hid D.o.symm,hid (by rw[aK];exact ax.o),ay⟩
      case measure=>(simp[RowKit.intOf];omega)
  ·obtain rfl:k=L.length:=by omega
   have i2:¬(L.length:Int)<(L.length:Int):=by omega
   have am:=hid (show M=fK L by have h9:=HM.o;rw[aO] at h9;exact h9);go_wp2;go_ret;refine⟨A',c',by rw[<-am.o,<-x.o];rfl,?_,C.o⟩;rw[<-am.o,<-x.o];exact Z.o
def ia (L:List Plc):Nat->Gid->Bool
 |0,_=>false
 | f+1,x=>match eo L x with
  |none=>false
  |some k=>if (L.getD k plc0).p.eqb .zero=true then true else match eo L (L.getD k plc0).p with
   |none=>false
   |some k2=>if (L.getD k2 plc0).dir=true then ia L f (L.getD k plc0).p else false
def jU (L:List Plc) (x:Gid):Bool:=ia L (L.length+1) x
theorem rooted_any (L:List Plc) (A:Option Addr) (c:Nat) (J K M:Int) (S:Nat->Prop) (a:World) (hl:L.length<=100000) (hR:RowF a S A 8 plcL plc0 L):
  Calls Tryz.prog 196 #[.slice A L.length c,.agg #[J,K,M]] a λe w'=>e= .returned (.bool (jU L ⟨⟨J,K⟩,M⟩))∧Below a.heap.size a w':=by
 obtain⟨m,N⟩:∃b,b=jU L ⟨⟨J,K⟩,M⟩:=⟨_,rfl⟩;rw[<-N];have am:=hid N;have C:Below a.heap.size a (a.alloc (.cells #[J,K,M] 108)):=(ag _ _).alloc (aa _) _;have ao:=hid C;have ai:=hid (an a (.cells #[J,K,M] 108));have HR:=hid hR;clear hR N C;go_enter Tryz.func196,Tryz.ntmps196;go_upto_region 2 with fail;generalize hW:a.alloc (.cells #[J,K,M] 108)=w at *;clear hW;obtain⟨H,X⟩:∃x,x=a.heap.size:=⟨_,rfl⟩;have ap:=hid X;rw[<-X] at ai ⊢;clear X;go_loopw [5] (λi wr=>∃(n:Nat) (x:Gid),n<=L.length+1∧i= .int .i64 n∧Hid (wr.heap[H]? =some (.cells (idL x).toArray 108 (0,0)))∧Hid (m=ia L (L.length+1-n) x)∧Hid (Below a.heap.size a wr)) (λi _=>L.length+1-(RowKit.intOf i).toNat)
 case atStart=>exact⟨0,⟨⟨J,K⟩,M⟩,aq _,rfl,ai,hid (by rw[am.o];rfl),ao⟩
 case round=>
  obtain⟨n,x,hn,rfl,U,Y,O⟩:=hrel;by_cases ax:n<=L.length
  ·have i1:(n:Int)<=(L.length:Int):=by omega
   obtain⟨f,hf⟩:∃f,L.length+1-n=f+1:=⟨L.length-n,by omega⟩;have HF:=hid (show L.length+1-(n+1)=f by omega);rw[hf] at Y;obtain⟨⟨t,r⟩,q⟩:=x;have U:Hid (wr.heap[H]? =some (.cells #[t,r,q] 108 (0,0))):=U;have P:=hid (show Calls Tryz.prog 169 #[.slice A L.length c,.agg #[t,r,q]] wr λe w'=>e= .returned (.int .i64 (ixI (eo L ⟨⟨t,r⟩,q⟩)))∧Below wr.heap.size wr w' from gW L A c ⟨⟨t,r⟩,q⟩ S wr (by omega) (HR.o.below O.o));cases o:eo L ⟨⟨t,r⟩,q⟩ with
   | none=>
    have Z:=hid (show m=false by rw[Y.o,ia,o]);rw[o] at P;clear hf o
    go_wp2_with (first
     |(refine lA U az ?_)
     |(go_at_call 169;refine P.o.mono ?_;rintro e w2 ⟨rfl,s⟩;have D:=bK s U;have Q:=bT O s;clear s;dsimp only[ixI]))
    go_ret;exact⟨by rw[Z.o];rfl,Q.o⟩
   | some k=>
    obtain⟨hk,-⟩:=fQ o
    have ab:m=(if (L.getD k plc0).p.eqb .zero=true then true else match eo L (L.getD k plc0).p with
     |none=>false
     |some G=>if (L.getD G plc0).dir=true then ia L f (L.getD k plc0).p else false):=by rw[Y.o,ia,o]
    rw[o] at P;obtain⟨rb,ro,aj,-,ak,u⟩:=HR.o.range (λ_=>rfl) hk;have i3:(0:Int)<=(k:Int):=by omega
    have i4:(k:Int)<(L.length:Int):=by omega
    have i5:¬(k:Int)<0:=by omega
    have ar:∃p,p=L.getD k plc0:=⟨_,rfl⟩;obtain⟨p,hp⟩:=ar;rw[<-hp] at ab u;obtain⟨⟨⟨nt,nr⟩,ni⟩,⟨⟨g,h⟩,j⟩,nm,dd⟩:=p;have au:=hid (λW (hB:Below a.heap.size a W)=>show W.rangeAt rb (ro+k*8+3) [g,h,j] from bC (pre:=[nt,nr,ni]) (post:=[nm,dd]) (ct u ak hB));have R:=hid (show(#[g,h,j]:Array Value).toList.all (·.oneCell')=true from rfl);have I:=hid (λW (hB:Below a.heap.size a W)=>show Calls Tryz.prog 169 #[.slice A L.length c,.agg #[g,h,j]] W λe w'=>e= .returned (.int .i64 (ixI (eo L ⟨⟨g,h⟩,j⟩)))∧Below W.heap.size W w' from gW L A c ⟨⟨g,h⟩,j⟩ S W (by omega) (HR.o.below hB));obtain⟨b0,C⟩:∃b,b=Gid.eqb ⟨⟨g,h⟩,j⟩ .zero:=⟨_,rfl⟩;have q0:=eN g h j 0 0 0 b0 C.symm
    have ac:=hid (show m=(if b0=true then true else match eo L ⟨⟨g,h⟩,j⟩ with
     |none=>false
     |some G=>if (L.getD G plc0).dir=true then ia L f ⟨⟨g,h⟩,j⟩ else false) by rw[C];exact ab)
    have ay:=hid aj;subst aj;clear hf o u ak hp ab C Y
    go_upto_region 7 with(first
     |(refine lA U az ?_)
     |(go_at_call 169;refine P.o.mono ?_;rintro e w2 ⟨rfl,s⟩;have D:=bK s U;have Q:=bT O s;clear s;dsimp only[ixI]))
    have T:=hid (au.o w2 Q.o);obtain⟨V,hV⟩:∃V,V=w2.setRow H #[g,h,j]:=⟨_,rfl⟩;have HV:=hid hV;have v:=hid (show V.heap[H]? =some (.cells #[g,h,j] 108 (0,0)) by rw[hV];exact aF _ D.o);have y:=hid (show Below a.heap.size a V by rw[hV];exact Below.setRow' Q.o (by rw[ap.o];exact aa _) _);clear hV;cases b0 with
    | true=>
     have E:=hid (show m=true by rw[ac.o];rfl)
     go_upto_region 8 with(first
      |(refine lM T az ?_)
      |(refine bW rfl _ _ _ rfl H 108 #[t,r,q] #[g,h,j] rfl rfl D.o (by kernel_rfl) rfl R.o ?_;rw[<-HV.o]))
     go_wp2_with (refine lA v az ?_);go_ret;exact⟨by rw[E.o];rfl,y.o⟩
    | false=>
     cases z:eo L ⟨⟨g,h⟩,j⟩ with
     | none=>
      have E:=hid (show m=false by rw[ac.o,z];rfl);rw[z] at I;clear z
      go_upto_region 8 with(first
      |(refine lM T az ?_)
      |(refine bW rfl _ _ _ rfl H 108 #[t,r,q] #[g,h,j] rfl rfl D.o (by kernel_rfl) rfl R.o ?_;rw[<-HV.o]))
      go_wp2_with (first
       |(refine lA v az ?_)
       |(go_at_call 169;refine(I.o V y.o).mono ?_;rintro e w4 ⟨rfl,l⟩;have ad:=bK l v;have B:=bT y l;clear l;dsimp only[ixI]))
      go_ret;exact⟨by rw[E.o];rfl,B.o⟩
     | some G=>
      obtain⟨av,-⟩:=fQ z;obtain⟨aA,aB,aw,-,ae,F⟩:=HR.o.range (λ_=>rfl) av;cases aw;have l3:(0:Int)<=(G:Int):=by omega
      have l4:(G:Int)<(L.length:Int):=by omega
      have l5:¬(G:Int)<0:=by omega
      obtain⟨d2,af⟩:∃d,d=(L.getD G plc0).dir:=⟨_,rfl⟩;have al:=hid (λW (hB:Below a.heap.size a W)=>show W.cell? ⟨rb,ro+G*8+7,none⟩=some (.bool d2) from by rw[af];exact(ct F ae hB) 7 _ rfl);have E:=hid (show m=(if d2=true then ia L f ⟨⟨g,h⟩,j⟩ else false) by rw[ac.o,z,af];rfl);rw[z] at I;clear z af F ae;cases d2 with
      |false=>
       have ah:=hid (show m=false by rw[E.o];rfl)
       go_upto_region 8 with(first
      |(refine lM T az ?_)
      | (refine bW rfl _ _ _ rfl H 108 #[t,r,q] #[g,h,j] rfl rfl D.o (by kernel_rfl) rfl R.o ?_;rw[<-HV.o]))
       go_wp2_with (first
        |(refine lA v az ?_)
        |(go_at_call 169;refine(I.o V y.o).mono ?_;rintro e w4 ⟨rfl,l⟩;have ad:=bK l v;have B:=bT y l;clear l;dsimp only[ixI];have c7:=al.o w4 B.o))
       go_ret;exact⟨by rw[ah.o];rfl,B.o⟩
      |true=>
       have ah:=hid (show m=ia L f ⟨⟨g,h⟩,j⟩ by rw[E.o];rfl)
       go_upto_region 8 with(first
      |(refine lM T az ?_)
      | (refine bW rfl _ _ _ rfl H 108 #[t,r,q] #[g,h,j] rfl rfl D.o (by kernel_rfl) rfl R.o ?_;rw[<-HV.o]))
       go_wp2_with (first
        |(refine lA v az ?_)
        |(go_at_call 169;refine(I.o V y.o).mono ?_;rintro e w4 ⟨rfl,l⟩;have ad:=bK l v;have B:=bT y l;clear l;dsimp only[ixI];have c7:=al.o w4 B.o))
       go_roundw
       case rel=>exact⟨n+1,⟨⟨g,h⟩,j⟩,by omega,by go_num,ad,hid (by rw[HF.o];exact ah.o),B⟩
       case measure=>(simp[RowKit.intOf];omega)
  ·obtain rfl:n=L.length+1:=by omega
   have i1:¬((L.length:Int)+1)<=(L.length:Int):=by omega
   have i2:¬(((L.length+1:Nat):Int))<=(L.length:Int):=by omega
   have Z:=hid (show m=false by rw[Y.o,iQ];rfl);go_wp2;go_ret;exact⟨by rw[Z.o];rfl,O.o⟩
def gv (N:List Plc) (V:List Gid) (p:Plc):Bool:=N.any λq=>V.any (λy=>y.eqb q.n) && jU N q.n && jy N q.n p.n
def ja (L:List Plc) (V:List Gid):List Plc:=(fK L).filter (gv (fK L) V)
theorem seen15_any (L:List Plc) (A:Option Addr) (c:Nat) (V:List Gid) (vA:Option Addr) (vc:Nat) (S S2:Nat->Prop) (t:World) (hl:L.length<=100000) (hv:V.length<=100000) (aM:∀p∈L,p.name.size<=1000000) (hR:RowF t S A 8 plcL plc0 L) (hV:RowF t S2 vA 3 idL Gid.zero V):
  Calls Tryz.prog 171 #[.slice A L.length c,.slice vA V.length vc] t λe w'=>∃A' c',e= .returned (.slice A' (ja L V).length c')∧w'.ownsRow t.heap.size 161 8 (.slice A' (ja L V).length c') (ja L V).length ((ja L V).flatMap plcL)∧Below t.heap.size t w':=by
 obtain⟨i0,hi,aN,aP,aQ⟩:=bx info_plc;have aB:=hid (right15_any L A c S t hl aM hR);have aR:=hid hV;have aS:=rightP_len L;obtain⟨N,hN⟩:∃N,N=fK L:=⟨_,rfl⟩;obtain⟨R,af⟩:∃R,R=ja L V:=⟨_,rfl⟩;have aT:=hid (show R=N.filter (gv N V) by rw[af,hN];rfl);rw[<-af];rw[<-hN] at aB aS;clear hR hV hN af;go_enter Tryz.func171,Tryz.ntmps171;go_upto_region 4 with(go_at_call 195;refine aB.o.mono ?_;rintro e w ⟨A1,c1,rfl,ab,ah⟩;have HN:=hid (cT (f:=plcL) (z:=plc0) (λ_=>rfl) rfl ab);have ai:=hid ah;have HV:=hid (aR.o.below ah);clear ab ah);go_loopw [5,6] (λo i wr=>∃(k:Nat) (A':Option Addr) (c' m:Nat) (M:List Plc),k<=N.length∧i= .int .i64 k∧o= .slice A' m c'∧m<=k∧Hid (m=M.length)∧Hid (M=(N.take k).filter (gv N V))∧Hid (wr.ownsRow w.heap.size 161 8 (.slice A' m c') m (M.flatMap plcL))∧Hid (Below w.heap.size w wr)) (λo i _=>N.length-(RowKit.intOf i).toNat)
 case atStart=>exact⟨0,none,0,0,[],aq _,rfl,rfl,aa _,hid rfl,hid rfl,hid (aH w w.heap.size 161 8),hid (ag _ _)⟩
 case round=>
  obtain⟨k,A',c',m,M,hk,rfl,rfl,a6,ac,HM,HO,am⟩:=hrel;by_cases aC:k<N.length
  ·have i1:(0:Int)<=(k:Int):=by omega
   have i2:(k:Int)<(N.length:Int):=by omega
   obtain⟨G,H,aU,-,aD,u⟩:=HN.o.range (λ_=>rfl) aC;have an:((N.take (k+1)).filter (gv N V))=M++(if gv N V (N.getD k plc0)=true then [N.getD k plc0] else []):=by
    rw[dQ aC plc0,jH,HM.o];congr 1;generalize N.getD k plc0=p0;cases e:gv N V p0<;>simp[List.filter,e]
   obtain⟨p,hp⟩:∃p,p=N.getD k plc0:=⟨_,rfl⟩;rw[<-hp] at an u;obtain⟨⟨⟨g,l⟩,n⟩,⟨⟨T,U⟩,X⟩,Y,Z⟩:=p;have aE:=hid (λW (hB:Below w.heap.size w W)=>show W.rangeAt G (H+k*8) [.int .i64 g,.int .i64 l,.int .i64 n,.int .i64 T,.int .i64 U,.int .i64 X,.string Y,.bool Z] from ct u aD hB);have aF:=hid an;have aV:=am.o.size;cases aU;clear u aD an hp;generalize wr=w0 at *;go_upto_region 8 with fail;go_loopw [7,8] (λh i wr=>∃(j:Nat) (b:Bool),j<=N.length∧i= .int .i64 j∧h= .bool b∧Hid (b=(N.take j).any (λq:Plc=>V.any (λy=>y.eqb q.n) && jU N q.n && jy N q.n ⟨⟨g,l⟩,n⟩))∧Hid (Below w0.heap.size w0 wr)) (λh i _=>N.length-(RowKit.intOf i).toNat)
   case atStart=>exact⟨0,false,aq _,rfl,rfl,hid rfl,hid (ag _ _)⟩
   case round=>
    obtain⟨j,b,hj,rfl,rfl,HB,F⟩:=hrel;have r:=hid (am.o.trans (F.o.mono aV));have I:=r.o.size;by_cases aG:j<N.length
    ·have j1:(0:Int)<=(j:Int):=by omega
     have j2:(j:Int)<(N.length:Int):=by omega
     obtain⟨aW,aX,aY,-,ao,s⟩:=HN.o.range (λ_=>rfl) aG;have ap:(N.take (j+1)).any (λq:Plc=>V.any (λy=>y.eqb q.n) && jU N q.n && jy N q.n ⟨⟨g,l⟩,n⟩)=((N.take j).any (λq:Plc=>V.any (λy=>y.eqb q.n) && jU N q.n && jy N q.n ⟨⟨g,l⟩,n⟩) || (λq:Plc=>V.any (λy=>y.eqb q.n) && jU N q.n && jy N q.n ⟨⟨g,l⟩,n⟩) (N.getD j plc0)):=by rw[dQ aG plc0,jx];simp
     obtain⟨y,hy⟩:∃y,y=N.getD j plc0:=⟨_,rfl⟩;rw[<-hy] at ap s;obtain⟨⟨⟨x,B⟩,C⟩,⟨⟨u2,v2⟩,i2⟩,m2,d2⟩:=y;have aI:w.rangeAt aW (aX+j*8) [.int .i64 x,.int .i64 B,.int .i64 C,.int .i64 u2,.int .i64 v2,.int .i64 i2,.string m2,.bool d2]:=s;obtain⟨b1,ar⟩:∃b,b=V.any (λy=>y.eqb ⟨⟨x,B⟩,C⟩):=⟨_,rfl⟩;obtain⟨b2,au⟩:∃b,b=jU N ⟨⟨x,B⟩,C⟩:=⟨_,rfl⟩;obtain⟨b3,av⟩:∃b,b=jy N ⟨⟨x,B⟩,C⟩ ⟨⟨g,l⟩,n⟩:=⟨_,rfl⟩;have ad:=hid (show(N.take (j+1)).any (λq:Plc=>V.any (λy=>y.eqb q.n) && jU N q.n && jy N q.n ⟨⟨g,l⟩,n⟩)=(b || (b1 && b2 && b3)) by rw[ap,HB.o,ar,au,av]);have J:=ct aI ao r.o;cases aY;have aw:=hid (aE.o wr r.o);have y0:=aj (w:=wr) (a:=⟨G,H+j*8,none⟩) (v:= .int .i64 x) (J 0 _ rfl);have y1:=aj (w:=wr) (a:=⟨G,H+j*8+1,none⟩) (v:= .int .i64 B) (J 1 _ rfl);have y2:=aj (w:=wr) (a:=⟨G,H+j*8+2,none⟩) (v:= .int .i64 C) (J 2 _ rfl);have x0:=aj (w:=wr) (a:=⟨G,H+k*8,none⟩) (v:= .int .i64 g) (aw.o 0 _ rfl);have x1:=aj (w:=wr) (a:=⟨G,H+k*8+1,none⟩) (v:= .int .i64 l) (aw.o 1 _ rfl);have x2:=aj (w:=wr) (a:=⟨G,H+k*8+2,none⟩) (v:= .int .i64 n) (aw.o 2 _ rfl);have aZ:=hid (λW (hB:Below w.heap.size w W)=>show Calls Tryz.prog 173 #[.slice vA V.length vc,.agg #[x,B,C]] W λe w'=>e= .returned (.bool b1)∧Below W.heap.size W w' from by rw[ar];exact hasid_any V vA vc ⟨⟨x,B⟩,C⟩ S2 W (by omega) (HV.o.below hB))
     have a0:=hid (λW (hB:Below w.heap.size w W)=>show Calls Tryz.prog 196 #[.slice (some ⟨G,H,none⟩) N.length c1,.agg #[x,B,C]] W λe w'=>e= .returned (.bool b2)∧Below W.heap.size W w' from by rw[au];exact rooted_any N _ c1 x B C _ W (by omega) (HN.o.below hB));have a1:=hid (λW (hB:Below w.heap.size w W)=>show Calls Tryz.prog 168 #[.slice (some ⟨G,H,none⟩) N.length c1,.agg #[x,B,C],.agg #[g,l,n]] W λe w'=>e= .returned (.bool b3)∧Below W.heap.size W w' from by rw[av];exact within_any N _ c1 x B C g l n _ W (by omega) (HN.o.below hB));have K:=λd O=>ak (aZ.o (grow (redrawn wr d) O) (r.o.trans ((bL wr d O).mono I)));have P:=λd O=>ak (a0.o (grow (redrawn wr d) O) (r.o.trans ((bL wr d O).mono I)));have Q:=λd O=>ak (a1.o (grow (redrawn wr d) O) (r.o.trans ((bL wr d O).mono I)));clear aI J ar au av hy ap s ao;cases b1 with
     |false=>
      go_upto_region 10 with fail;refine rqb ?_
      repeat(any_goals(first|go_big_quiet_step (with_reducible first|exact K _ _|exact P _ _|exact Q _ _)|quiet_step (with_reducible first|exact K _ _|exact P _ _|exact Q _ _)))
      refine qz λwq D=> ?_;have E:=bT F D;go_wp2;go_roundw
      case rel=>exact⟨j+1,b,by omega,by go_num,rfl,hid (by rw[ad.o];simp),E⟩
      case measure=>(simp[RowKit.intOf];omega)
     | true=>
      cases b2 with
      |false=>
       go_upto_region 10 with fail;refine rqb ?_
       repeat(any_goals(first|go_big_quiet_step (with_reducible first|exact K _ _|exact P _ _|exact Q _ _)|quiet_step (with_reducible first|exact K _ _|exact P _ _|exact Q _ _)))
       refine qz λwq D=> ?_;have E:=bT F D;go_wp2;go_roundw
       case rel=>exact⟨j+1,b,by omega,by go_num,rfl,hid (by rw[ad.o];simp),E⟩
       case measure=>(simp[RowKit.intOf];omega)
      | true=>
       cases b3 with
       |false=>
        go_upto_region 10 with fail;refine rqb ?_
        repeat(any_goals(first|go_big_quiet_step (with_reducible first|exact K _ _|exact P _ _|exact Q _ _)|quiet_step (with_reducible first|exact K _ _|exact P _ _|exact Q _ _)))
        refine qz λwq D=> ?_;have E:=bT F D;go_wp2;go_roundw
        case rel=>exact⟨j+1,b,by omega,by go_num,rfl,hid (by rw[ad.o];simp),E⟩
        case measure=>(simp[RowKit.intOf];omega)
       |true=>
        go_upto_region 10 with fail;refine rqb ?_
        repeat(any_goals(first|go_big_quiet_step (with_reducible first|exact K _ _|exact P _ _|exact Q _ _)|quiet_step (with_reducible first|exact K _ _|exact P _ _|exact Q _ _)))
        refine qz λwq D=> ?_;have E:=bT F D;go_wp2;go_roundw
        case rel=>exact⟨j+1,true,by omega,by go_num,rfl,hid (by rw[ad.o];simp),E⟩
        case measure=>(simp[RowKit.intOf];omega)
    ·obtain rfl:j=N.length:=by omega
     have j2:¬(N.length:Int)<(N.length:Int):=by omega
     have ax:=hid (show gv N V ⟨⟨⟨g,l⟩,n⟩,⟨⟨T,U⟩,X⟩,Y,Z⟩=b by unfold gv;have h9:=HB.o;rw[aO] at h9;exact h9.symm);have ay:=kO HO F.o;cases b with
     |false=>
      have az:=hid (show((N.take (k+1)).filter (gv N V))=M by rw[aF.o,ax.o];simp);go_wp2;go_roundw
      case rel=>exact⟨k+1,A',c',m,M,by omega,by go_num,rfl,by omega,ac,hid az.o.symm,ay,r⟩
      case measure=>(simp[RowKit.intOf];omega)
     | true=>
      have az:=hid (show((N.take (k+1)).filter (gv N V))=M++[⟨⟨⟨g,l⟩,n⟩,⟨⟨T,U⟩,X⟩,Y,Z⟩] by rw[aF.o,ax.o];rfl);have a2:=hid (aE.o wr r.o)
      go_wp2_with (first
       |(refine lM a2 co ?_)
       |(at_builtin;refine cm _ rfl _ _ 101 rfl w.heap.size 161 i0 (.agg #[(0:Int),(0:Int),(0:Int),(0:Int),(0:Int),(0:Int),.string ⟨#[]⟩,false]) 8 72 Tryz.underlying101 hi aN aP aQ rfl (by decide) (.slice A' m c') m _ rfl (by exact ay.o.alloc _) ⟨wr.heap.size,0,none⟩ 1 1 [.int .i64 g,.int .i64 l,.int .i64 n,.int .i64 T,.int .i64 U,.int .i64 X,.string Y,.bool Z] rfl rfl (λj y h=>dH wr [.int .i64 g,.int .i64 l,.int .i64 n,.int .i64 T,.int .i64 U,.int .i64 X,.string Y,.bool Z] 161 j y h) (fx (c:=#[.int .i64 g,.int .i64 l,.int .i64 n,.int .i64 T,.int .i64 U,.int .i64 X,.string Y,.bool Z]) rfl) (by decide) (by unfold maxLen;omega) (by omega) (by simp;omega) (wr.heap.size+1) (by simp) ?_;intro gq a3 w5 aA ae ha aL;have a4:=hid aA;have a5:=hid ((r.o.alloc I _).grown ae (by simp;omega) (λb hb=>(ay.o.lt b hb).1));clear aA ae ha aL))
      go_roundw
      case rel=>exact⟨k+1,some ⟨gq,0,none⟩,a3,m+1,M++[⟨⟨⟨g,l⟩,n⟩,⟨⟨T,U⟩,X⟩,Y,Z⟩],by omega,by go_num,rfl,by omega,hid (by rw[al,<-ac.o];rfl),hid az.o.symm,hid (by rw[aK];exact a4.o),a5⟩
      case measure=>(simp[RowKit.intOf];omega)
  ·obtain rfl:k=N.length:=by omega
   have i2:¬(N.length:Int)<(N.length:Int):=by omega
   have aJ:=hid (show M=R by rw[aT.o];have h9:=HM.o;rw[aO] at h9;exact h9);go_wp2;go_ret;refine⟨A',c',by rw[<-aJ.o,<-ac.o];rfl,?_,ai.o.trans (am.o.mono ai.o.size)⟩;rw[<-aJ.o,<-ac.o];exact iK HO.o ai.o.size
end
section
open Go.RowKit Go.Lib Go.Sort
attribute [local go_sem ↓] Go.wp_at_zero Go.wp_at_succ
def digs (n:Nat):List UInt8:=if n<10 then [UInt8.ofNat (48+n)] else digs (n / 10)++[UInt8.ofNat (48+n % 10)]
termination_by n
decreasing_by omega
theorem digs_low {n:Nat} (h:n<10):digs n=[UInt8.ofNat (48+n)]:=by rw[digs,aN h]
theorem digs_high {n:Nat} (h:¬n<10):digs n=digs (n / 10)++[UInt8.ofNat (48+n % 10)]:=by rw[digs,aE h]
theorem b8_of (n:Nat) (h:n<10):b8 (UInt8.ofNat (48+n))= .int .u8 (48+(n:Int)):=by
 unfold b8;rw[UInt8.toNat_ofNat_of_lt' (show 48+n<256 by omega)];rfl
theorem pow_step {n v d:Nat} (h:v*10 ^ d<=n):v / 10*10 ^ (d+1)<=n:=by
 have a:v / 10*10<=v:=Nat.div_mul_le_self v 10;have b:v / 10*10*10 ^ d<=v*10 ^ d:=eP _ a;rw[Nat.pow_succ,Nat.mul_comm (10 ^ d) 10,<-Nat.mul_assoc];omega
theorem pow_lt {n v d:Nat} (h:v*10 ^ d<=n) (c:n<1000000000000000000) (b:0<v):d<18:=by
 rcases cJ d 18 with a|a
 ·exact a
 ·have e:10 ^ 18<=10 ^ d:=Nat.pow_le_pow_right (by decide) a;have f:1*10 ^ d<=v*10 ^ d:=eP _ b;have g:(10:Nat) ^ 18=1000000000000000000:=by decide
  omega
theorem digits_any (n:Nat) (w:World) (H:n<1000000000000000000):
  Calls Tryz.prog 225 #[.int .i64 n] w λe w'=>∃T:ByteArray,e= .returned (.string T)∧T.data.toList=digs n∧T.size<=20∧Below w.heap.size w w':=by
 obtain⟨B,C,m,o,p⟩:=bx info_u8;have O:¬(n:Int)<0:=by omega
 go_enter Tryz.func225,Tryz.ntmps225;go_upto_region 4 with fail;go_loopw [0,3] (λa s wr=>∃(v:Nat) (T:ByteArray),a= .int .i64 v∧s= .string T∧v<=n∧T.size<=18∧Hid (v*10 ^ T.size<=n)∧Hid (digs n=digs v++T.data.toList)∧Hid (Below w.heap.size w wr)) (λa s _=>(RowKit.intOf a).toNat)
 case atStart=>exact⟨n,⟨#[]⟩,rfl,rfl,aa _,aq _,hid (by show n*10 ^ 0<=n;omega),hid (by simp),hid (ag _ _)⟩
 case round=>
  obtain⟨v,T,rfl,rfl,Q,R,D,E,g⟩:=hrel;have I:=g.o.size;by_cases r:v<10
  ·have J:¬(v:Int)>9:=by omega
   have K:¬(9:Int)<(v:Int):=by omega
   obtain⟨y,f⟩:∃y,y=UInt8.ofNat (48+v):=⟨_,rfl⟩;have t:=hid (show Value.int .u8 (48+(v:Int))=b8 y by rw[f,b8_of v r]);have i:=hid (show digs v=[y] by rw[f];exact digs_low r);clear f;go_upto_region 11 with(at_builtin;refine bv _ rfl _ _ 23 rfl w.heap.size 5 B (.int .u8 0) 1 1 df C m o p rfl (by decide) (.slice none 0 0) 0 [] rfl (aH _ _ _ _) ⟨wr.heap.size,0,none⟩ 1 1 [.int .u8 (48+(v:Int))] rfl rfl (one_cell _ _ _) (λu j=>by simp at j;subst j;rfl) (by unfold maxLen;omega) (by omega) (by simp;omega) ?_;intro x z c d _;have k:=hid c;have l:=hid ((g.o.alloc g.o.size _).grown d (by simp;omega) (λb A=>by cases A));clear c d);have F:=kx (P:=Tryz.prog) z 23 9 5 w.heap.size x 1 [y] df dM fF (by have h:=k.o;rw[t.o] at h;exact h);have L:Hid (((⟨#[y]⟩:ByteArray)++T).size<=maxLen):=hid (by simp only[aX];rw[show(⟨#[y]⟩:ByteArray).size=1 from rfl];unfold maxLen;omega);go_wp2;go_ret;refine⟨_,rfl,?_,?_,l.o⟩
   ·rw[E.o,i.o];simp
   ·simp only[aX];rw[show(⟨#[y]⟩:ByteArray).size=1 from rfl];omega
  ·have J:(v:Int)>9:=by omega
   have K:(9:Int)<(v:Int):=by omega
   have G:=hid (pow_lt D.o H (by omega));have M:IntKind.i64.wrap (48+(v:Int) % 10)=48+(v:Int) % 10:=by rw[bH];omega
   have N:IntKind.u8.wrap (48+(v:Int) % 10)=48+(v:Int) % 10:=by rw[IntKind.wrap_u8];omega
   obtain⟨y,f⟩:∃y,y=UInt8.ofNat (48+v % 10):=⟨_,rfl⟩;have t:=hid (show Value.int .u8 (48+(v:Int) % 10)=b8 y by rw[f,b8_of (v % 10) (by omega)];rfl);have i:=hid (show digs v=digs (v / 10)++[y] by rw[f];exact digs_high r);clear f;go_upto_region 7 with(at_builtin;refine bv _ rfl _ _ 23 rfl w.heap.size 5 B (.int .u8 0) 1 1 df C m o p rfl (by decide) (.slice none 0 0) 0 [] rfl (aH _ _ _ _) ⟨wr.heap.size,0,none⟩ 1 1 [.int .u8 (48+(v:Int) % 10)] rfl rfl (one_cell _ _ _) (λu j=>by simp at j;subst j;rfl) (by unfold maxLen;omega) (by omega) (by simp;omega) ?_;intro x z c d _;have k:=hid c;have l:=hid ((g.o.alloc g.o.size _).grown d (by simp;omega) (λb A=>by cases A));clear c d);have F:=kx (P:=Tryz.prog) z 23 9 5 w.heap.size x 1 [y] df dM fF (by have h:=k.o;rw[t.o] at h;exact h);have L:Hid (((⟨#[y]⟩:ByteArray)++T).size<=maxLen):=hid (by simp only[aX];rw[show(⟨#[y]⟩:ByteArray).size=1 from rfl];unfold maxLen;omega);have q:=hid (show((⟨#[y]⟩:ByteArray)++T).size=T.size+1 by simp only[aX];rw[show(⟨#[y]⟩:ByteArray).size=1 from rfl];omega);go_wp2;go_roundw
   case rel=>exact⟨v / 10,_,by go_num,rfl,by omega,by rw[q.o];have:=G.o;omega,hid (by rw[q.o];exact pow_step D.o),hid (by rw[E.o,i.o];simp),l⟩
   case measure=>(simp[RowKit.intOf];omega)
end
section
open Go.RowKit Go.Lib Go.Sort
attribute [local go_sem ↓] Go.wp_at_zero Go.wp_at_succ
def digB (n:Nat):ByteArray:=⟨(digs n).toArray⟩
theorem digits_is (n:Nat) (w:World) (a:n<1000000000000000000):Calls Tryz.prog 225 #[.int .i64 n] w λe w'=>e= .returned (.string (digB n))∧Below w.heap.size w w':=by
 refine(digits_any n w a).mono ?_;rintro e w' ⟨T,rfl,b,-,c⟩;refine⟨?_,c⟩;unfold digB;rw[<-b,Array.toArray_toList]
theorem jp (n:Nat):n<1000000000000000000->(digB n).size<=18:=λh=>by
 show((digs n).toArray).size<=18
 rw[List.size_toArray]
 have hlow:∀m,m<10->(digs m).length=1:=λm hm=>by rw[digs_low hm];rfl
 have hs:∀(d:Nat),∀m,m<10 ^ (d+1)->(digs m).length<=d+1:=by
  intro d;induction d with
  |zero=>intro m hm;rw[hlow m (by simpa using hm)];exact aa _
  | succ d ih=>
   intro m hm;by_cases a:m<10
   ·rw[hlow m a];omega
   ·rw[digs_high a,al];have:=ih (m / 10) (by rw[Nat.div_lt_iff_lt_mul (by decide)];rw[Nat.pow_succ] at hm;exact hm);simp only[dC];omega
 exact hs 17 n h
def txtB (x:Gid):ByteArray:=if x.right=true then digB x.s.t.toNat++⟨#[46]⟩++digB x.s.r.toNat++⟨#[46]⟩++digB x.i.toNat else ⟨#[]⟩
theorem text5_any (t r i:Int) (f:World):
  Calls Tryz.prog 221 #[.agg #[.int .i64 t,.int .i64 r,.int .i64 i]] f fun e w'=>e= .returned (.string (txtB ⟨⟨t,r⟩,i⟩))∧Below f.heap.size f w':=by
 obtain⟨v,o⟩:∃v,v=Gid.right ⟨⟨t,r⟩,i⟩:=⟨_,rfl⟩
 obtain⟨T,s⟩:∃T,T=txtB ⟨⟨t,r⟩,i⟩:=⟨_,rfl⟩
 rw[←s]
 cases v with
 | false=>
  have E:=hid (show T=⟨#[]⟩ by rw[s];unfold txtB;rw[aE (by rw[←o];decide)])
  have l:Below f.heap.size f (f.alloc (.cells #[.int .i64 t,.int .i64 r,.int .i64 i] 108)):=(ag _ _).alloc (aa _) _
  have m:=hid l
  have u:=hid (an f (.cells #[.int .i64 t,.int .i64 r,.int .i64 i] 108))
  have x:=hid (show Calls Tryz.prog 192 #[.agg #[.int .i64 t,.int .i64 r,.int .i64 i]] (f.alloc (.cells #[.int .i64 t,.int .i64 r,.int .i64 i] 108)) fun e w'=>e= .returned (.bool false)∧Below (f.alloc (.cells #[.int .i64 t,.int .i64 r,.int .i64 i] 108)).heap.size (f.alloc (.cells #[.int .i64 t,.int .i64 r,.int .i64 i] 108)) w' from by rw[o];exact gf t r i _)
  clear o s l
  go_enter Tryz.func221,Tryz.ntmps221
  go_upto_region 1 with fail
  generalize F:f.alloc (.cells #[.int .i64 t,.int .i64 r,.int .i64 i] 108)=w at *
  clear F
  go_wp2_with (first
   |(refine cd rfl _ _ rfl f.heap.size _ _ _ rfl u.o az rfl ?_ ?_;kernel_rfl)
   |(go_at_call 192;refine x.o.mono ?_;rintro e p ⟨rfl,k⟩;have q:=hid (m.o.trans (k.mono m.o.size));clear k))
  go_ret
  exact⟨by rw[E.o];rfl,q.o⟩
 | true=>
  have D:=o.symm
  simp only[Gid.right,Gst.right,ay,au] at D
  obtain⟨⟨⟨⟨⟨N,O⟩,P⟩,Q⟩,R⟩,S⟩:=D
  obtain⟨g,rfl⟩:∃n:Nat,t=(n:Int):=⟨t.toNat,by omega⟩
  obtain⟨h,rfl⟩:∃n:Nat,r=(n:Int):=⟨r.toNat,by omega⟩
  obtain⟨j,rfl⟩:∃n:Nat,i=(n:Int):=⟨i.toNat,by omega⟩
  obtain⟨a,A⟩:∃a,a=digB g:=⟨_,rfl⟩
  obtain⟨b,B⟩:∃a,a=digB h:=⟨_,rfl⟩
  obtain⟨c,C⟩:∃a,a=digB j:=⟨_,rfl⟩
  have E:=hid (show T=a++⟨#[46]⟩++b++⟨#[46]⟩++c by rw[s];unfold txtB;rw[aN o.symm,A,B,C];rfl)
  have l:Below f.heap.size f (f.alloc (.cells #[.int .i64 (g:Int),.int .i64 (h:Int),.int .i64 (j:Int)] 108)):=(ag _ _).alloc (aa _) _
  have m:=hid l
  have u:=hid (an f (.cells #[.int .i64 (g:Int),.int .i64 (h:Int),.int .i64 (j:Int)] 108))
  have U:a.size≤18:=by rw[A];exact jp g (by omega)
  have V:b.size≤18:=by rw[B];exact jp h (by omega)
  have X:c.size≤18:=by rw[C];exact jp j (by omega)
  have x:=hid (show Calls Tryz.prog 192 #[.agg #[.int .i64 (g:Int),.int .i64 (h:Int),.int .i64 (j:Int)]] (f.alloc (.cells #[.int .i64 (g:Int),.int .i64 (h:Int),.int .i64 (j:Int)] 108)) fun e w'=>e= .returned (.bool true)∧Below (f.alloc (.cells #[.int .i64 (g:Int),.int .i64 (h:Int),.int .i64 (j:Int)] 108)).heap.size (f.alloc (.cells #[.int .i64 (g:Int),.int .i64 (h:Int),.int .i64 (j:Int)] 108)) w' from by rw[o];exact gf g h j _)
  have G:=hid (fun W=>show Calls Tryz.prog 225 #[.int .i64 g] W fun e w'=>e= .returned (.string a)∧Below W.heap.size W w' from by rw[A];exact digits_is g W (by omega))
  have H:=hid (fun W=>show Calls Tryz.prog 225 #[.int .i64 h] W fun e w'=>e= .returned (.string b)∧Below W.heap.size W w' from by rw[B];exact digits_is h W (by omega))
  have I:=hid (fun W=>show Calls Tryz.prog 225 #[.int .i64 j] W fun e w'=>e= .returned (.string c)∧Below W.heap.size W w' from by rw[C];exact digits_is j W (by omega))
  clear o s l A B C
  go_enter Tryz.func221,Tryz.ntmps221
  go_upto_region 1 with fail
  generalize F:f.alloc (.cells #[.int .i64 (g:Int),.int .i64 (h:Int),.int .i64 (j:Int)] 108)=w at *
  clear F
  go_upto_region 3 with(first
   |(refine cd rfl _ _ rfl f.heap.size _ _ _ rfl u.o az rfl ?_ ?_;kernel_rfl)
   |(go_at_call 192;refine x.o.mono ?_;rintro e p ⟨rfl,k⟩;have q:=hid (m.o.trans (k.mono m.o.size));have y:=hid ((k.block _ (lt_of_block u.o)).trans u.o);clear k))
  have Y:=aj (w:=p) (a:=⟨f.heap.size,0,none⟩) (v:= .int .i64 (g:Int)) (crw y.o)
  have Z:=aj (w:=p) (a:=⟨f.heap.size,1,none⟩) (v:= .int .i64 (h:Int)) (crw y.o)
  have y2:=aj (w:=p) (a:=⟨f.heap.size,2,none⟩) (v:= .int .i64 (j:Int)) (crw y.o)
  have J:=fun d z=>ak (G.o (grow (redrawn p d) z))
  have K:=fun d z=>ak (H.o (grow (redrawn p d) z))
  have L:=fun d z=>ak (I.o (grow (redrawn p d) z))
  refine rqb ?_
  repeat(any_goals(first|go_big_quiet_step (with_reducible first|exact J _ _|exact K _ _|exact L _ _)|quiet_step (with_reducible first|exact J _ _|exact K _ _|exact L _ _)))
  refine qz fun wq M=> ?_
  go_wp2
  go_ret
  exact⟨by rw[E.o];rfl,q.o.trans (M.mono q.o.size)⟩
theorem txtB_size (x:Gid):(txtB x).size<=60:=by
 unfold txtB;split
 ·rename_i h;simp only[Gid.right,Gst.right,ay,au] at h;have a:=jp x.s.t.toNat (by omega);have b:=jp x.s.r.toNat (by omega);have c:=jp x.i.toNat (by omega);simp only[aX];rw[show(⟨#[46]⟩:ByteArray).size=1 from rfl];omega
 ·exact aq _
def clashN (s:ByteArray) (x:Gid):ByteArray:=if eC s=true then (if (txtB x).size=0 then ⟨#[]⟩ else s++⟨#[126]⟩++txtB x) else ⟨#[]⟩
theorem clash_any (s:ByteArray) (t r i:Int) (a:World) (B:s.size<=1000000):
  Calls Tryz.prog 213 #[.string s,.agg #[.int .i64 t,.int .i64 r,.int .i64 i]] a λe w'=>∃z,e= .returned (.tuple #[.string (clashN s ⟨⟨t,r⟩,i⟩),.int .i64 z])∧Below a.heap.size a w':=by
 obtain⟨v,m⟩:∃v,v=eC s:=⟨_,rfl⟩
 obtain⟨X,h⟩:∃T,T=txtB ⟨⟨t,r⟩,i⟩:=⟨_,rfl⟩
 obtain⟨T,n⟩:∃T,T=clashN s ⟨⟨t,r⟩,i⟩:=⟨_,rfl⟩
 rw[<-n]
 have o:=hid (show T=if v=true then (if X.size=0 then ⟨#[]⟩ else s++⟨#[126]⟩++X) else ⟨#[]⟩ by rw[n,m,h];rfl)
 have k:Below a.heap.size a (a.alloc (.cells #[.int .i64 t,.int .i64 r,.int .i64 i] 108)):=(ag _ _).alloc (aa _) _
 have d:=hid k
 have p:=hid (an a (.cells #[.int .i64 t,.int .i64 r,.int .i64 i] 108))
 have f:=hid (λW=>show Calls Tryz.prog 159 #[.string s] W λe w'=>e= .returned (.bool v)∧w'=W from by rw[m];exact jO s W (by omega))
 have l:=hid (λW=>show Calls Tryz.prog 221 #[.agg #[.int .i64 t,.int .i64 r,.int .i64 i]] W λe w'=>e= .returned (.string X)∧Below W.heap.size W w' from by rw[h];exact text5_any t r i W)
 have C:X.size<=60:=by rw[h];exact txtB_size _
 clear m h n k
 go_enter Tryz.func213,Tryz.ntmps213
 go_upto_region 1 with fail
 generalize y:a.alloc (.cells #[.int .i64 t,.int .i64 r,.int .i64 i] 108)=w at *
 clear y
 cases v with
 |false=>
  have b:=hid (show T=⟨#[]⟩ by rw[o.o];rfl)
  go_wp2_with (go_at_call 159;refine(f.o w).mono ?_;rintro e q ⟨rfl,rfl⟩)
  go_ret2
  exact⟨_,by rw[b.o];rfl,d.o⟩
 | true=>
  by_cases j:X.size=0
  ·have b:=hid (show T=⟨#[]⟩ by rw[o.o,aN rfl,aN j])
   have u:X=⟨#[]⟩:=eb.1 (by apply cu;simpa using j)
   subst u
   go_wp2_with (first
    |(go_at_call 159;refine(f.o w).mono ?_;rintro e q ⟨rfl,rfl⟩)
    |(refine lA p az ?_)
    |(go_at_call 221;refine(l.o _).mono ?_;rintro e A ⟨rfl,c⟩;have g:=bT d c;clear c))
   go_ret2
   exact⟨_,by rw[b.o];rfl,g.o⟩
  ·have b:=hid (show T=s++⟨#[126]⟩++X by rw[o.o,aN rfl,aE j])
   have x:X.toList≠[]:=λe=>j (by rw[cw] at e;rw[show X=⟨#[]⟩ from eb.1 e];rfl)
   have u:(X.toList == [])=false:=by rw[aL];exact x
   go_wp2_with (first
    |(go_at_call 159;refine(f.o w).mono ?_;rintro e q ⟨rfl,rfl⟩)
    |(refine lA p az ?_)
    |(go_at_call 221;refine(l.o _).mono ?_;rintro e A ⟨rfl,c⟩;have g:=bT d c;clear c))
   go_ret2
   exact⟨_,by rw[b.o];rfl,g.o⟩
def nameN (L:List Plc) (p:Plc):ByteArray:=if L.any (λq:Plc=>q.p.eqb p.p && decide (q.name=p.name) && Gid.lt q.n p.n)=true then clashN p.name p.n else p.name
theorem nameN_size (L:List Plc) (p:Plc):(nameN L p).size<=p.name.size+61:=by
 unfold nameN clashN;have h:=txtB_size p.n;split
 ·split
  ·split
   ·exact aq _
   ·simp only[aX];rw[show(⟨#[126]⟩:ByteArray).size=1 from rfl];omega
  ·exact aq _
 ·omega
theorem name15_any (L:List Plc) (A:Option Addr) (c:Nat) (g j l n o r:Int) (f:ByteArray) (N:Bool) (S:Nat→Prop) (s:World) (hl:L.length≤100000) (ax:f.size≤1000000) (hR:RowF s S A 8 plcL plc0 L):
  Calls Tryz.prog 197 #[.slice A L.length c,.agg #[.int .i64 g,.int .i64 j,.int .i64 l,.int .i64 n,.int .i64 o,.int .i64 r,.string f,.bool N]] s fun e w'=>e= .returned (.string (nameN L ⟨⟨⟨g,j⟩,l⟩,⟨⟨n,o⟩,r⟩,f,N⟩))∧Below s.heap.size s w':=by
 obtain⟨T,hT⟩:∃T,T=nameN L ⟨⟨⟨g,j⟩,l⟩,⟨⟨n,o⟩,r⟩,f,N⟩:=⟨_,rfl⟩
 rw[←hT]
 obtain⟨Z,hZ⟩:∃Z,Z=clashN f ⟨⟨g,j⟩,l⟩:=⟨_,rfl⟩
 have HT:=hid (show T=if L.any (fun q:Plc=>q.p.eqb ⟨⟨n,o⟩,r⟩ && decide (q.name=f) && Gid.lt q.n ⟨⟨g,j⟩,l⟩)=true then Z else f by rw[hT,hZ];rfl)
 have P:Below s.heap.size s (s.alloc (.cells #[.int .i64 g,.int .i64 j,.int .i64 l,.int .i64 n,.int .i64 o,.int .i64 r,.string f,.bool N] 161)):=(ag _ _).alloc (aa _) _
 have ae:=hid P
 have af:=hid (an s (.cells #[.int .i64 g,.int .i64 j,.int .i64 l,.int .i64 n,.int .i64 o,.int .i64 r,.string f,.bool N] 161))
 have HR:=hid (hR.below P)
 have ay:=hid (fun W=>show Calls Tryz.prog 213 #[.string f,.agg #[.int .i64 g,.int .i64 j,.int .i64 l]] W fun e w'=>∃z,e= .returned (.tuple #[.string Z,.int .i64 z])∧Below W.heap.size W w' from by rw[hZ];exact clash_any f g j l W ax)
 clear hR hT hZ P
 go_enter Tryz.func197,Tryz.ntmps197
 go_upto_region 2 with fail
 generalize hW:s.alloc (.cells #[.int .i64 g,.int .i64 j,.int .i64 l,.int .i64 n,.int .i64 o,.int .i64 r,.string f,.bool N] 161)=w at *
 clear hW
 have ah:=ae.o.size
 generalize ai:s.heap.size=y at *
 have al:=hid ai
 clear ai
 go_loopw [5] (fun i wr=>∃(k:Nat),k≤L.length∧i= .int .i64 k∧Hid ((L.take k).any (fun q:Plc=>q.p.eqb ⟨⟨n,o⟩,r⟩ && decide (q.name=f) && Gid.lt q.n ⟨⟨g,j⟩,l⟩)=false)∧Hid (Below w.heap.size w wr)) (fun i _=>L.length-(RowKit.intOf i).toNat)
 case atStart=>exact⟨0,aq _,rfl,hid rfl,hid (ag _ _)⟩
 case round=>
  obtain⟨k,hk,rfl,HA,m⟩:=hrel
  have t:=hid ((m.o.block _ (lt_of_block af.o)).trans af.o)
  have am:=aP ah m.o.size
  have ao:=hid (ae.o.trans (m.o.mono ah))
  by_cases Q:k<L.length
  ·have i1:(0:Int)≤(k:Int):=by omega
   have G:(k:Int)<(L.length:Int):=by omega
   obtain⟨B,C,rfl,-,ap,F⟩:=HR.o.range (fun _=>rfl) Q
   have ar:(L.take (k+1)).any (fun q:Plc=>q.p.eqb ⟨⟨n,o⟩,r⟩ && decide (q.name=f) && Gid.lt q.n ⟨⟨g,j⟩,l⟩)=(fun q:Plc=>q.p.eqb ⟨⟨n,o⟩,r⟩ && decide (q.name=f) && Gid.lt q.n ⟨⟨g,j⟩,l⟩) (L.getD k plc0):=by rw[dQ Q plc0,jx,HA.o];simp
   have R:(fun q:Plc=>q.p.eqb ⟨⟨n,o⟩,r⟩ && decide (q.name=f) && Gid.lt q.n ⟨⟨g,j⟩,l⟩) (L.getD k plc0)=true→L.any (fun q:Plc=>q.p.eqb ⟨⟨n,o⟩,r⟩ && decide (q.name=f) && Gid.lt q.n ⟨⟨g,j⟩,l⟩)=true:=fun h=>eQ.2 ⟨_,cg Q plc0,h⟩
   generalize L.getD k plc0=p at *
   obtain⟨⟨⟨U,V⟩,X⟩,⟨⟨u2,Y⟩,G⟩,m2,d2⟩:=p
   obtain⟨c1,I⟩:∃b,b=Gid.eqb ⟨⟨u2,Y⟩,G⟩ ⟨⟨n,o⟩,r⟩:=⟨_,rfl⟩
   obtain⟨c2,J⟩:∃b,b=decide (m2=f):=⟨_,rfl⟩
   obtain⟨O,K⟩:∃b,b=Gid.lt ⟨⟨U,V⟩,X⟩ ⟨⟨g,j⟩,l⟩:=⟨_,rfl⟩
   have ab:=hid (show(L.take (k+1)).any (fun q:Plc=>q.p.eqb ⟨⟨n,o⟩,r⟩ && decide (q.name=f) && Gid.lt q.n ⟨⟨g,j⟩,l⟩)=(c1 && c2 && O) by rw[ar,I,J,K])
   have az:=hid (show(c1 && c2 && O)=true→L.any (fun q:Plc=>q.p.eqb ⟨⟨n,o⟩,r⟩ && decide (q.name=f) && Gid.lt q.n ⟨⟨g,j⟩,l⟩)=true from fun h=>R (by rw[I,J,K] at h;exact h))
   have u:wr.rangeAt B (C+k*8) [.int .i64 U,.int .i64 V,.int .i64 X,.int .i64 u2,.int .i64 Y,.int .i64 G,.string m2,.bool d2]:=ct F ap m.o
   have q1:=eN u2 Y G n o r c1 I.symm
   have q2:(m2.toList == f.toList)=c2:=beq_str J.symm
   have y0:=aj (w:=wr) (a:=⟨B,C+k*8,none⟩) (v:= .int .i64 U) (u 0 _ rfl)
   have y1:=aj (w:=wr) (a:=⟨B,C+k*8+1,none⟩) (v:= .int .i64 V) (u 1 _ rfl)
   have y2:=aj (w:=wr) (a:=⟨B,C+k*8+2,none⟩) (v:= .int .i64 X) (u 2 _ rfl)
   have y3:=aj (w:=wr) (a:=⟨B,C+k*8+3,none⟩) (v:= .int .i64 u2) (u 3 _ rfl)
   have y4:=aj (w:=wr) (a:=⟨B,C+k*8+4,none⟩) (v:= .int .i64 Y) (u 4 _ rfl)
   have y5:=aj (w:=wr) (a:=⟨B,C+k*8+5,none⟩) (v:= .int .i64 G) (u 5 _ rfl)
   have y6:=aj (w:=wr) (a:=⟨B,C+k*8+6,none⟩) (v:= .string m2) (u 6 _ rfl)
   have aA:=aj (w:=wr) (a:=⟨B,C+k*8+3+1,none⟩) (v:= .int .i64 Y) (u 4 _ rfl)
   have aB:=aj (w:=wr) (a:=⟨B,C+k*8+3+2,none⟩) (v:= .int .i64 G) (u 5 _ rfl)
   have x0:=aj (w:=wr) (a:=⟨y,0,none⟩) (v:= .int .i64 g) (crw t.o)
   have x1:=aj (w:=wr) (a:=⟨y,1,none⟩) (v:= .int .i64 j) (crw t.o)
   have x2:=aj (w:=wr) (a:=⟨y,2,none⟩) (v:= .int .i64 l) (crw t.o)
   have x3:=aj (w:=wr) (a:=⟨y,3,none⟩) (v:= .int .i64 n) (crw t.o)
   have x4:=aj (w:=wr) (a:=⟨y,4,none⟩) (v:= .int .i64 o) (crw t.o)
   have x5:=aj (w:=wr) (a:=⟨y,5,none⟩) (v:= .int .i64 r) (crw t.o)
   have x6:=aj (w:=wr) (a:=⟨y,6,none⟩) (v:= .string f) (crw t.o)
   have au:=fun W=>gp U V X g j l W
   obtain⟨zc,ac⟩:∃z,z=rcmpD ⟨⟨U,V⟩,X⟩ ⟨⟨g,j⟩,l⟩:=⟨_,rfl⟩
   rw[←ac] at au
   have av:decide (0≤zc)= !O:=by rw[ac,j0,K]
   have aH:decide (zc<0)=O:=by cases O<;>simp at av ⊢ <;>omega
   clear ac av
   have E:=fun d os=>ak (au (grow (redrawn wr d) os))
   clear F ap u I J K ar R
   cases c1 with
   |false=>
    go_upto_region 4 with fail
    refine rqb ?_
    repeat(any_goals(first|go_big_quiet_step (with_reducible exact E _ _)|quiet_step (with_reducible exact E _ _)))
    refine qz fun H x=> ?_
    have D:=hid (m.o.trans (x.mono m.o.size))
    go_wp2
    go_roundw
    case rel=>exact⟨k+1,by omega,by go_num,hid ab.o,D⟩
    case measure=>(simp[RowKit.intOf];omega)
   | true=>
    cases c2 with
    |false=>
     go_upto_region 4 with fail
     refine rqb ?_
     repeat(any_goals(first|go_big_quiet_step (with_reducible exact E _ _)|quiet_step (with_reducible exact E _ _)))
     refine qz fun H x=> ?_
     have D:=hid (m.o.trans (x.mono m.o.size))
     go_wp2
     go_roundw
     case rel=>exact⟨k+1,by omega,by go_num,hid ab.o,D⟩
     case measure=>(simp[RowKit.intOf];omega)
    | true=>
     cases O with
     |false=>
      go_upto_region 4 with fail
      refine rqb ?_
      repeat(any_goals(first|go_big_quiet_step (with_reducible exact E _ _)|quiet_step (with_reducible exact E _ _)))
      refine qz fun H x=> ?_
      have D:=hid (m.o.trans (x.mono m.o.size))
      go_wp2
      go_roundw
      case rel=>exact⟨k+1,by omega,by go_num,hid ab.o,D⟩
      case measure=>(simp[RowKit.intOf];omega)
     |true=>
      have ad:=hid (show T=Z by rw[HT.o,aN (az.o rfl)])
      go_upto_region 4 with fail
      refine rqb ?_
      repeat(any_goals(first|go_big_quiet_step (with_reducible exact E _ _)|quiet_step (with_reducible exact E _ _)))
      refine qz fun H x=> ?_
      have D:=hid (m.o.trans (x.mono m.o.size))
      have M:=hid ((x.block _ (lt_of_block t.o)).trans t.o)
      have aC:=hid (ao.o.trans (x.mono am))
      have aD:=aP am x.size
      have z0:H.cell? ⟨y,0,none⟩=some (.int .i64 g):=aG _ _ _ _ _ _ M.o;have z1:H.cell? ⟨y,1,none⟩=some (.int .i64 j):=aG _ _ _ _ _ _ M.o;have z2:H.cell? ⟨y,2,none⟩=some (.int .i64 l):=aG _ _ _ _ _ _ M.o;have z6:H.cell? ⟨y,6,none⟩=some (.string f):=aG _ _ _ _ _ _ M.o
      clear x0 y0 x1 y1 x2 y2 x3 y3 x4 y4 x5 y5 x6 y6 aA aB E
      go_wp2_with (go_at_call 213;refine(ay.o _).mono ?_;rintro e w3 ⟨zz,rfl,aw⟩;have aF:=hid (aC.o.trans (aw.mono aD));clear aw)
      go_ret
      exact⟨by rw[ad.o];rfl,by rw[al.o];exact aF.o⟩
  ·obtain rfl:k=L.length:=by omega
   have G:¬(L.length:Int)<(L.length:Int):=by omega
   have ad:=hid (show T=f by rw[HT.o,aE (by have h9:=HA.o;rw[aO] at h9;rw[h9];decide)])
   have z6:wr.cell? ⟨y,6,none⟩=some (.string f):=aG _ _ _ _ _ _ t.o
   go_wp2
   go_ret
   exact⟨by rw[ad.o];rfl,by rw[al.o];exact ao.o⟩
def iW (L:List Plc):Nat->Plc->Bool
 |0,p=>p.p.eqb .zero
 |f+1,p=>if p.p.eqb .zero=true then true else match eo L p.p with
  |none=>false
  |some k=>iW L f (L.getD k plc0)
def pathF (L:List Plc):Nat->Plc->ByteArray->ByteArray
 |0,_,s=>s
 |f+1,p,s=>if p.p.eqb .zero=true then s else match eo L p.p with
  |none=>s
  |some k=>pathF L f (L.getD k plc0) ((⟨#[47]⟩:ByteArray)++nameN L (L.getD k plc0)++s)
def pathN (L:List Plc) (f:Nat) (p:Plc):ByteArray:=pathF L f p ((⟨#[47]⟩:ByteArray)++nameN L p)
theorem pathF_zero (L:List Plc) (f:Nat) (p:Plc) (s:ByteArray) (h:p.p.eqb .zero=true):pathF L f p s=s:=by
 cases f with
 |zero=>rfl
 |succ f=>rw[pathF,aN h]
theorem path15_any (L:List Plc) (A:Option Addr) (c:Nat) (Q:Nat) (l m n a d g:Int) (j:ByteArray) (o:Bool) (S:Nat->Prop) (i:World) (hl:L.length<=100000) (R:∀p∈L,p.name.size<=1000) (ae:j.size<=1000) (ay:Q<=10000) (af:iW L Q (⟨⟨⟨l,m⟩,n⟩,⟨⟨a,d⟩,g⟩,j,o⟩:Plc)=true) (hR:RowF i S A 8 plcL plc0 L):
  Calls Tryz.prog 172 #[.slice A L.length c,.agg #[l,m,n,a,d,g,j,o]] i λe w'=>e= .returned (.string (pathN L Q (⟨⟨⟨l,m⟩,n⟩,⟨⟨a,d⟩,g⟩,j,o⟩:Plc)))∧Below i.heap.size i w':=by
 obtain⟨Z,hZ⟩:∃T,T=pathN L Q (⟨⟨⟨l,m⟩,n⟩,⟨⟨a,d⟩,g⟩,j,o⟩:Plc):=⟨_,rfl⟩;rw[<-hZ];obtain⟨U,J⟩:∃T,T=nameN L (⟨⟨⟨l,m⟩,n⟩,⟨⟨a,d⟩,g⟩,j,o⟩:Plc):=⟨_,rfl⟩;have HZ:=hid (show Z=pathF L Q (⟨⟨⟨l,m⟩,n⟩,⟨⟨a,d⟩,g⟩,j,o⟩:Plc) ((⟨#[47]⟩:ByteArray)++U) by rw[hZ,J];rfl);have aY:U.size<=1061:=by rw[J];have h:=nameN_size L (⟨⟨⟨l,m⟩,n⟩,⟨⟨a,d⟩,g⟩,j,o⟩:Plc);have h2:(⟨⟨⟨l,m⟩,n⟩,⟨⟨a,d⟩,g⟩,j,o⟩:Plc).name.size<=1000:=ae;omega
 have q:Below i.heap.size i (i.alloc (.cells #[l,m,n,a,d,g,j,o] 161)):=(ag _ _).alloc (aa _) _;have ah:=hid q;have ai:=hid (an i (.cells #[l,m,n,a,d,g,j,o] 161));have HR:=hid hR;have aA:=hid af;have aB:=hid R;have aC:=hid (show Calls Tryz.prog 197 #[.slice A L.length c,.agg #[l,m,n,a,d,g,j,o]] (i.alloc (.cells #[l,m,n,a,d,g,j,o] 161)) λe w'=>e= .returned (.string U)∧Below (i.alloc (.cells #[l,m,n,a,d,g,j,o] 161)).heap.size (i.alloc (.cells #[l,m,n,a,d,g,j,o] 161)) w' from by rw[J];exact name15_any L A c l m n a d g j o S _ hl (by omega) (hR.below q));clear hR hZ J q af R;go_enter Tryz.func172,Tryz.ntmps172;go_upto_region 1 with fail;generalize hW:i.alloc (.cells #[l,m,n,a,d,g,j,o] 161)=w at *;clear hW;have aj:=ah.o.size;generalize ak:i.heap.size=r at *;have X:=hid ak;clear ak
 go_upto_region 2 with(first
  |(refine lA ai co ?_)
  |(go_at_call 197;refine aC.o.mono ?_;rintro e w1 ⟨rfl,K⟩;have aD:=bK K ai;have aG:=hid (ah.o.trans (K.mono aj));have aH:=aP aj K.size;clear K))
 have al:=hid (show((⟨#[47]⟩:ByteArray)++U).size<=1100 by simp only[aX];rw[show(⟨#[47]⟩:ByteArray).size=1 from rfl];omega);obtain⟨T0,N⟩:∃T,T=(⟨#[47]⟩:ByteArray)++U:=⟨_,rfl⟩;rw[<-N] at al HZ;have aW:T0.size<=1100:=al.o;have aZ:=hid N;simp only[<-N];clear N;go_loopw [5] (λs wr=>∃(f:Nat) (p:Plc) (T:ByteArray),s= .string T∧f<=10000∧T.size+f*1100<=20000000∧p.name.size<=1000∧Hid (iW L f p=true)∧Hid (wr.heap[r]? =some (.cells (plcL p).toArray 161 (0,0)))∧Hid (Z=pathF L f p T)∧Hid (Below r i wr)∧r<=wr.heap.size) (λs _=>match s with| .string T=>20000000-T.size|_=>0)
 case atStart=>exact⟨Q,(⟨⟨⟨l,m⟩,n⟩,⟨⟨a,d⟩,g⟩,j,o⟩:Plc),T0,rfl,ay,by omega,ae,aA,aD,HZ,aG,aH⟩
 case round=>
  obtain⟨f,p,T,rfl,hf,hT,a0,HC,HX,HA,Y,am⟩:=hrel;obtain⟨⟨⟨l,m⟩,n⟩,⟨⟨a,d⟩,g⟩,j,o⟩:=p;have HX:Hid (wr.heap[r]? =some (.cells #[l,m,n,a,d,g,j,o] 161 (0,0))):=HX;obtain⟨b0,q⟩:∃b,b=Gid.eqb ⟨⟨a,d⟩,g⟩ .zero:=⟨_,rfl⟩;have q0:=ne_id a d g 0 0 0 b0 q.symm;have ab:=hid (show wr.rangeAt r 3 [a,d,g] from bC (pre:=[l,m,n]) (mid:=[a,d,g]) (post:=[j,o]) (bq HX.o));cases b0 with
  |true=>
   have aI:=hid (show Z=T by rw[HA.o];exact pathF_zero L f _ T q.symm);clear q;go_wp2_with (refine ik rfl _ _ rfl r 3 rfl [a,d,g] _ ab.o az rfl (by kernel_rfl) ?_);go_ret;exact⟨by rw[aI.o];rfl,by rw[X.o];exact Y.o⟩
  | false=>
   cases f with
   |zero=>exact absurd (show Gid.eqb ⟨⟨a,d⟩,g⟩ .zero=true from HC.o) (by rw[<-q];decide)
   | succ f=>
    have F:=HC.o;rw[iW,aE (show ¬Gid.eqb ⟨⟨a,d⟩,g⟩ .zero=true by rw[<-q];decide)] at F;have G:=HA.o;rw[pathF,aE (show ¬Gid.eqb ⟨⟨a,d⟩,g⟩ .zero=true by rw[<-q];decide)] at G;have ac:eo L (⟨⟨⟨l,m⟩,n⟩,⟨⟨a,d⟩,g⟩,j,o⟩:Plc).p=eo L ⟨⟨a,d⟩,g⟩:=rfl;rw[ac] at F G;have I:RowF wr S A 8 plcL plc0 L:=HR.o.below (by rw[X.o];exact Y.o);have ao:=hid (show Calls Tryz.prog 169 #[.slice A L.length c,.agg #[a,d,g]] wr λe w'=>e= .returned (.int .i64 (ixI (eo L ⟨⟨a,d⟩,g⟩)))∧Below wr.heap.size wr w' from gW L A c ⟨⟨a,d⟩,g⟩ S wr (by omega) I);cases O:eo L ⟨⟨a,d⟩,g⟩ with
    |none=>rw[O] at F;exact absurd (show false=true from F) (by decide)
    | some k=>
     obtain⟨hk,-⟩:=fQ O;rw[O] at F G ao;have F:iW L f (L.getD k plc0)=true:=F;have G:Z=pathF L f (L.getD k plc0) ((⟨#[47]⟩:ByteArray)++nameN L (L.getD k plc0)++T):=G;obtain⟨rb,ro,aJ,-,ap,u⟩:=I.range (λ_=>rfl) hk;have ad:=aB.o _ (cg hk plc0);have i3:(0:Int)<=(k:Int):=by omega
     have i4:(k:Int)<(L.length:Int):=by omega
     obtain⟨y,hy⟩:∃y,y=L.getD k plc0:=⟨_,rfl⟩;rw[<-hy] at F G u ad;obtain⟨⟨⟨v,x⟩,z⟩,⟨⟨B,C⟩,D⟩,t,E⟩:=y;have aq:t.size<=1000:=ad;obtain⟨M,hM⟩:∃M,M=nameN L (⟨⟨⟨v,x⟩,z⟩,⟨⟨B,C⟩,D⟩,t,E⟩:Plc):=⟨_,rfl⟩;have a1:M.size<=1061:=by rw[hM];have h:=nameN_size L (⟨⟨⟨v,x⟩,z⟩,⟨⟨B,C⟩,D⟩,t,E⟩:Plc);have h2:(⟨⟨⟨v,x⟩,z⟩,⟨⟨B,C⟩,D⟩,t,E⟩:Plc).name.size<=1000:=aq;omega
     rw[<-hM] at G;have aK:=hid (λW (hB:Below r i W)=>show Calls Tryz.prog 197 #[.slice A L.length c,.agg #[v,x,z,B,C,D,t,E]] W λe w'=>e= .returned (.string M)∧Below W.heap.size W w' from by rw[hM];exact name15_any L A c v x z B C D t E S W hl (by omega) (HR.o.below (by rw[X.o];exact hB)));have aL:=hid (λW (hB:Below wr.heap.size wr W)=>show W.rangeAt rb (ro+k*8) [v,x,z,B,C,D,t,E] from ct u ap hB);have aM:=hid F;have aN:=hid (show(#[v,x,z,B,C,D,t,E]:Array Value).toList.all (·.oneCell')=true from rfl);have aO:=hid G;have ar:=hid (show((⟨#[47]⟩:ByteArray)++M++T).size=1+M.size+T.size by simp only[aX];rfl);subst aJ;clear q F G ac I O u ap ad hy hM HA HC;go_upto_region 3 with(refine ik rfl _ _ rfl r 3 rfl [a,d,g] _ ab.o az rfl (by kernel_rfl) ?_)
     go_upto_region 4 with(first
      |(refine ik rfl _ _ rfl r 3 rfl [a,d,g] _ ab.o az rfl (by kernel_rfl) ?_)
      |(go_at_call 169;refine ao.o.mono ?_;rintro e w2 ⟨rfl,H⟩;have au:=bK H HX;have aQ:=hid (Y.o.trans (H.mono am));have aR:=aP am H.size;have aS:=hid (aL.o w2 H);obtain⟨V,hV⟩:∃V,V=w2.setRow r #[v,x,z,B,C,D,t,E]:=⟨_,rfl⟩;have HV:=hid hV;have av:=hid (show V.heap[r]? =some (.cells #[v,x,z,B,C,D,t,E] 161 (0,0)) by rw[hV];exact aF _ au.o);have aw:=hid (show Below r i V by rw[hV];exact Below.setRow' aQ.o (aa _) _);have ax:r<=V.heap.size:=(by rw[hV];simpa[World.setRow] using aR);clear H hV;dsimp only[ixI])
      |(refine lM aS co ?_)
      |(refine bW rfl _ _ _ rfl r 161 #[l,m,n,a,d,g,j,o] #[v,x,z,B,C,D,t,E] rfl rfl au.o (by kernel_rfl) rfl aN.o ?_;rw[<-HV.o]))
     go_wp2_with (first
      |(refine lA av co ?_)
      |(go_at_call 197;refine(aK.o V aw.o).mono ?_;rintro e w4 ⟨rfl,P⟩;have aT:=bK P av;have aU:=hid (aw.o.trans (P.mono ax));have aV:=aP ax P.size;clear P))
     go_roundw
     case rel=>exact⟨f,(⟨⟨⟨v,x⟩,z⟩,⟨⟨B,C⟩,D⟩,t,E⟩:Plc),_,rfl,by omega,by rw[ar.o];omega,aq,aM,aT,aO,aU,aV⟩
     case measure=>show 20000000-((⟨#[47]⟩:ByteArray)++M++T).size<20000000-T.size;rw[ar.o];omega
end
end Go.Proofs.YtkhmicndehlneaaGreatDoor
