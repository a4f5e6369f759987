/- Part 22 of the walks and plain laws that this claim uses, joined. Conditions: as each theorem states. -/
import Derived.Test.YtkhmicndehlneaaGreatDoorYbu
namespace Go.Proofs.YtkhmicndehlneaaGreatDoor
set_option maxRecDepth 100000
set_option maxHeartbeats 16000000
set_option linter.unusedVariables false
section
open Go.RowKit Go.Lib Go.Sort
attribute [local go_sem ↓] Go.wp_at_zero Go.wp_at_succ
def iR (L:List Plc):Nat->Plc->Bool
 |0,p=>p.p.eqb .zero
 |f+1,p=>if p.p.eqb .zero=true then true else match dZ L p.p with
  |none=>false
  |some k=>iR L f (L.getD k plc0)
def pathF (L:List Plc):Nat->Plc->ByteArray->ByteArray
 |0,_,s=>s
 |f+1,p,s=>if p.p.eqb .zero=true then s else match dZ L p.p with
  |none=>s
  |some k=>pathF L f (L.getD k plc0) ((⟨#[47]⟩:ByteArray)++nameN L (L.getD k plc0)++s)
def pathN (L:List Plc) (f:Nat) (p:Plc):ByteArray:=pathF L f p ((⟨#[47]⟩:ByteArray)++nameN L p)
theorem pathF_zero (L:List Plc) (f:Nat) (p:Plc) (s:ByteArray) (h:p.p.eqb .zero=true):pathF L f p s=s:=by
 cases f with
 |zero=>rfl
 |succ f=>rw[pathF,aJ h]
theorem path15_any (L:List Plc) (A:Option Addr) (c:Nat) (f0:Nat) (nt nr ni pt pr pi:Int) (nm:ByteArray) (dd:Bool) (S:Nat->Prop) (w00:World) (hl:L.length<=100000) (hnms:∀p∈L,p.name.size<=1000) (hnm:nm.size<=1000) (hf0:f0<=10000) (hcl:iR L f0 (⟨⟨⟨nt,nr⟩,ni⟩,⟨⟨pt,pr⟩,pi⟩,nm,dd⟩:Plc)=true) (hR:RowF w00 S A 8 plcL plc0 L):
  Calls Tryz.prog 172 #[.slice A L.length c,.agg #[nt,nr,ni,pt,pr,pi,nm,dd]] w00 λe w'=>e= .returned (.string (pathN L f0 (⟨⟨⟨nt,nr⟩,ni⟩,⟨⟨pt,pr⟩,pi⟩,nm,dd⟩:Plc)))∧Below w00.heap.size w00 w':=by
 obtain⟨Z,hZ⟩:∃T,T=pathN L f0 (⟨⟨⟨nt,nr⟩,ni⟩,⟨⟨pt,pr⟩,pi⟩,nm,dd⟩:Plc):=⟨_,rfl⟩;rw[<-hZ];obtain⟨F,z⟩:∃T,T=nameN L (⟨⟨⟨nt,nr⟩,ni⟩,⟨⟨pt,pr⟩,pi⟩,nm,dd⟩:Plc):=⟨_,rfl⟩;have HZ:=hid (show Z=pathF L f0 (⟨⟨⟨nt,nr⟩,ni⟩,⟨⟨pt,pr⟩,pi⟩,nm,dd⟩:Plc) ((⟨#[47]⟩:ByteArray)++F) by rw[hZ,z];rfl);have aK:F.size<=1061:=by rw[z];have h:=nameN_size L (⟨⟨⟨nt,nr⟩,ni⟩,⟨⟨pt,pr⟩,pi⟩,nm,dd⟩:Plc);have h2:(⟨⟨⟨nt,nr⟩,ni⟩,⟨⟨pt,pr⟩,pi⟩,nm,dd⟩:Plc).name.size<=1000:=hnm;omega
 have a:Below w00.heap.size w00 (w00.alloc (.cells #[nt,nr,ni,pt,pr,pi,nm,dd] 161)):=(ag _ _).alloc (aa _) _;have Q:=hid a;have R:=hid (am w00 (.cells #[nt,nr,ni,pt,pr,pi,nm,dd] 161));have HR:=hid hR;have al:=hid hcl;have an:=hid hnms;have ao:=hid (show Calls Tryz.prog 197 #[.slice A L.length c,.agg #[nt,nr,ni,pt,pr,pi,nm,dd]] (w00.alloc (.cells #[nt,nr,ni,pt,pr,pi,nm,dd] 161)) λe w'=>e= .returned (.string F)∧Below (w00.alloc (.cells #[nt,nr,ni,pt,pr,pi,nm,dd] 161)).heap.size (w00.alloc (.cells #[nt,nr,ni,pt,pr,pi,nm,dd] 161)) w' from by rw[z];exact name15_any L A c nt nr ni pt pr pi nm dd S _ hl (by omega) (hR.below a));clear hR hZ z a hcl hnms;go_enter Tryz.func172,Tryz.ntmps172;go_upto_region 1 with fail;generalize hW:w00.alloc (.cells #[nt,nr,ni,pt,pr,pi,nm,dd] 161)=w at *;clear hW;have U:=Q.out.size;generalize X:w00.heap.size=d at *;have G:=hid X;clear X
 go_upto_region 2 with(first
  |(refine lA R ca ?_)
  |(go_at_call 197;refine ao.out.mono ?_;rintro e w1 ⟨rfl,B⟩;have ap:=bK B R;have aq:=hid (Q.out.trans (B.mono U));have ar:=aL U B.size;clear B))
 have Y:=hid (show((⟨#[47]⟩:ByteArray)++F).size<=1100 by simp only[aZ];rw[show(⟨#[47]⟩:ByteArray).size=1 from rfl];omega);obtain⟨T0,C⟩:∃T,T=(⟨#[47]⟩:ByteArray)++F:=⟨_,rfl⟩;rw[<-C] at Y HZ;have aJ:T0.size<=1100:=Y.out;have aN:=hid C;simp only[<-C];clear C;go_loopw [5] (λs wr=>∃(f:Nat) (p:Plc) (T:ByteArray),s= .string T∧f<=10000∧T.size+f*1100<=20000000∧p.name.size<=1000∧Hid (iR L f p=true)∧Hid (wr.heap[d]? =some (.cells (plcL p).toArray 161 (0,0)))∧Hid (Z=pathF L f p T)∧Hid (Below d w00 wr)∧d<=wr.heap.size) (λs _=>match s with| .string T=>20000000-T.size|_=>0)
 case atStart=>exact⟨f0,(⟨⟨⟨nt,nr⟩,ni⟩,⟨⟨pt,pr⟩,pi⟩,nm,dd⟩:Plc),T0,rfl,hf0,by omega,hnm,al,ap,HZ,aq,ar⟩
 case round=>
  obtain⟨f,p,T,rfl,hf,hT,aO,HC,O,HA,H,ab⟩:=hrel;obtain⟨⟨⟨nt,nr⟩,ni⟩,⟨⟨pt,pr⟩,pi⟩,nm,dd⟩:=p;have O:Hid (wr.heap[d]? =some (.cells #[nt,nr,ni,pt,pr,pi,nm,dd] 161 (0,0))):=O;obtain⟨b0,a⟩:∃b,b=Gid.eqb ⟨⟨pt,pr⟩,pi⟩ .zero:=⟨_,rfl⟩;have q0:=ne_id pt pr pi 0 0 0 b0 a.symm;have I:=hid (show wr.rangeAt d 3 [pt,pr,pi] from bv (pre:=[nt,nr,ni]) (mid:=[pt,pr,pi]) (post:=[nm,dd]) (bf O.out));cases b0 with
  |true=>
   have au:=hid (show Z=T by rw[HA.out];exact pathF_zero L f _ T a.symm);clear a;go_wp2_with (refine ii rfl _ _ rfl d 3 rfl [pt,pr,pi] _ I.out aw rfl (by kernel_rfl) ?_);go_ret;exact⟨by rw[au.out];rfl,by rw[G.out];exact H.out⟩
  | false=>
   cases f with
   |zero=>exact absurd (show Gid.eqb ⟨⟨pt,pr⟩,pi⟩ .zero=true from HC.out) (by rw[<-a];decide)
   | succ f=>
    have t:=HC.out;rw[iR,aC (show ¬Gid.eqb ⟨⟨pt,pr⟩,pi⟩ .zero=true by rw[<-a];decide)] at t;have u:=HA.out;rw[pathF,aC (show ¬Gid.eqb ⟨⟨pt,pr⟩,pi⟩ .zero=true by rw[<-a];decide)] at u;have J:dZ L (⟨⟨⟨nt,nr⟩,ni⟩,⟨⟨pt,pr⟩,pi⟩,nm,dd⟩:Plc).p=dZ L ⟨⟨pt,pr⟩,pi⟩:=rfl;rw[J] at t u;have x:RowF wr S A 8 plcL plc0 L:=HR.out.below (by rw[G.out];exact H.out);have ac:=hid (show Calls Tryz.prog 169 #[.slice A L.length c,.agg #[pt,pr,pi]] wr λe w'=>e= .returned (.int .i64 (ixI (dZ L ⟨⟨pt,pr⟩,pi⟩)))∧Below wr.heap.size wr w' from gX L A c ⟨⟨pt,pr⟩,pi⟩ S wr (by omega) x);cases D:dZ L ⟨⟨pt,pr⟩,pi⟩ with
    |none=>rw[D] at t;exact absurd (show false=true from t) (by decide)
    | some k=>
     obtain⟨hk,-⟩:=fL D;rw[D] at t u ac;have t:iR L f (L.getD k plc0)=true:=t;have u:Z=pathF L f (L.getD k plc0) ((⟨#[47]⟩:ByteArray)++nameN L (L.getD k plc0)++T):=u;obtain⟨rb,ro,av,-,ad,i⟩:=x.range (λ_=>rfl) hk;have K:=an.out _ (bL hk plc0);have i3:(0:Int)<=(k:Int):=by omega
     have i4:(k:Int)<(L.length:Int):=by omega
     obtain⟨y,hy⟩:∃y,y=L.getD k plc0:=⟨_,rfl⟩;rw[<-hy] at t u i K;obtain⟨⟨⟨j,l⟩,m⟩,⟨⟨n,o⟩,q⟩,g,r⟩:=y;have ae:g.size<=1000:=K;obtain⟨M,P⟩:∃M,M=nameN L (⟨⟨⟨j,l⟩,m⟩,⟨⟨n,o⟩,q⟩,g,r⟩:Plc):=⟨_,rfl⟩;have aP:M.size<=1061:=by rw[P];have h:=nameN_size L (⟨⟨⟨j,l⟩,m⟩,⟨⟨n,o⟩,q⟩,g,r⟩:Plc);have h2:(⟨⟨⟨j,l⟩,m⟩,⟨⟨n,o⟩,q⟩,g,r⟩:Plc).name.size<=1000:=ae;omega
     rw[<-P] at u;have ax:=hid (λW (hB:Below d w00 W)=>show Calls Tryz.prog 197 #[.slice A L.length c,.agg #[j,l,m,n,o,q,g,r]] W λe w'=>e= .returned (.string M)∧Below W.heap.size W w' from by rw[P];exact name15_any L A c j l m n o q g r S W hl (by omega) (HR.out.below (by rw[G.out];exact hB)));have ay:=hid (λW (hB:Below wr.heap.size wr W)=>show W.rangeAt rb (ro+k*8) [j,l,m,n,o,q,g,r] from cd i ad hB);have az:=hid t;have aA:=hid (show(#[j,l,m,n,o,q,g,r]:Array Value).toList.all (·.oneCell')=true from rfl);have aB:=hid u;have af:=hid (show((⟨#[47]⟩:ByteArray)++M++T).size=1+M.size+T.size by simp only[aZ];rfl);subst av;clear a t u J x D i ad K hy P HA HC;go_upto_region 3 with(refine ii rfl _ _ rfl d 3 rfl [pt,pr,pi] _ I.out aw rfl (by kernel_rfl) ?_)
     go_upto_region 4 with(first
      |(refine ii rfl _ _ rfl d 3 rfl [pt,pr,pi] _ I.out aw rfl (by kernel_rfl) ?_)
      |(go_at_call 169;refine ac.out.mono ?_;rintro e w2 ⟨rfl,v⟩;have ah:=bK v O;have aD:=hid (H.out.trans (v.mono ab));have aE:=aL ab v.size;have aF:=hid (ay.out w2 v);obtain⟨V,N⟩:∃V,V=w2.setRow d #[j,l,m,n,o,q,g,r]:=⟨_,rfl⟩;have HV:=hid N;have ai:=hid (show V.heap[d]? =some (.cells #[j,l,m,n,o,q,g,r] 161 (0,0)) by rw[N];exact aM _ ah.out);have aj:=hid (show Below d w00 V by rw[N];exact Below.setRow' aD.out (aa _) _);have ak:d<=V.heap.size:=(by rw[N];simpa[World.setRow] using aE);clear v N;dsimp only[ixI])
      |(refine lM aF ca ?_)
      |(refine da rfl _ _ _ rfl d 161 #[nt,nr,ni,pt,pr,pi,nm,dd] #[j,l,m,n,o,q,g,r] rfl rfl ah.out (by kernel_rfl) rfl aA.out ?_;rw[<-HV.out]))
     go_wp2_with (first
      |(refine lA ai ca ?_)
      |(go_at_call 197;refine(ax.out V aj.out).mono ?_;rintro e w4 ⟨rfl,E⟩;have aG:=bK E ai;have aH:=hid (aj.out.trans (E.mono ak));have aI:=aL ak E.size;clear E))
     go_roundw
     case rel=>exact⟨f,(⟨⟨⟨j,l⟩,m⟩,⟨⟨n,o⟩,q⟩,g,r⟩:Plc),_,rfl,by omega,by rw[af.out];omega,ae,az,aG,aB,aH,aI⟩
     case measure=>show 20000000-((⟨#[47]⟩:ByteArray)++M++T).size<20000000-T.size;rw[af.out];omega
def ltS (a b:ByteArray):Bool:=Op.bytesLess a.toList b.toList
def stepI (N:List Plc) (V:List Gid) (f0:Nat) (out:List Itm) (p:Plc):List Itm:=insB (λy:Itm=>ltS (pathN N f0 p) y.path) itm0 out ⟨p.n,pathN N f0 p,p.dir,!(V.any (λy=>y.eqb p.n))⟩
def itemsL (f0:Nat) (L:List Plc) (V:List Gid):List Itm:=(iX L V).foldl (stepI (iX L V) V f0) []
theorem seenP_len (L:List Plc) (V:List Gid):(iX L V).length<=L.length:=aL (ig _ _) (rightP_len L)
theorem items15_any (L:List Plc) (A:Option Addr) (c:Nat) (V:List Gid) (vA:Option Addr) (vc f0:Nat) (S S2:Nat->Prop) (w00:World) (hl:L.length<=100000) (hv:V.length<=100000) (hnm:∀p∈L,p.name.size<=1000) (hsn:∀p∈iX L V,p.name.size<=1000∧iR (iX L V) f0 p=true) (hf0:f0<=10000) (hR:RowF w00 S A 8 plcL plc0 L) (hV:RowF w00 S2 vA 3 idL Gid.zero V):
  Calls Tryz.prog 112 #[.slice A L.length c,.slice vA V.length vc] w00 λe w'=>∃A' c',e= .returned (.slice A' (itemsL f0 L V).length c')∧w'.ownsRow w00.heap.size 110 6 (.slice A' (itemsL f0 L V).length c') (itemsL f0 L V).length ((itemsL f0 L V).flatMap itmL)∧Below w00.heap.size w00 w':=by
 obtain⟨i0,hi,bC,bE,bF⟩:=bD info_itm;have a2:=hid (seen15_any L A c V vA vc S S2 w00 hl hv (λp hp=>aL (hnm p hp) (by decide)) hR hV);have bG:=hid hV;have bH:=seenP_len L V;obtain⟨N,hN⟩:∃N,N=iX L V:=⟨_,rfl⟩;obtain⟨R,ar⟩:∃R,R=itemsL f0 L V:=⟨_,rfl⟩;have bI:=hid (show R=N.foldl (stepI N V f0) [] by rw[ar,hN];rfl);rw[<-ar];rw[<-hN] at a2 bH hsn;have a3:=hid hsn;clear hR hV hN ar hnm hsn;go_enter Tryz.func112,Tryz.ntmps112;go_upto_region 4 with(go_at_call 171;refine a2.out.mono ?_;rintro e w ⟨A1,c1,rfl,C,au⟩;have HN:=hid (ct (f:=plcL) (z:=plc0) (λ_=>rfl) rfl C);have av:=hid au;have HV:=hid (bG.out.below au);clear C au);go_loopw [6,7] (λo i wr=>∃(k:Nat) (A':Option Addr) (c' m:Nat) (M:List Itm),k<=N.length∧i= .int .i64 k∧o= .slice A' m c'∧m<=k∧Hid (m=M.length)∧Hid (M=(N.take k).foldl (stepI N V f0) [])∧Hid (wr.ownsRow w.heap.size 110 6 (.slice A' m c') m (M.flatMap itmL))∧Hid (Below w.heap.size w wr)) (λo i _=>N.length-(RowKit.intOf i).toNat)
 case atStart=>exact⟨0,none,0,0,[],aq _,rfl,rfl,aa _,hid rfl,hid rfl,hid (aF w w.heap.size 110 6),hid (ag _ _)⟩
 case round=>
  obtain⟨k,A',c',m,M,hk,rfl,rfl,b8,O,HM,HO,ac⟩:=hrel;by_cases ay:k<N.length
  ·have i1:(0:Int)<=(k:Int):=by omega
   have i2:(k:Int)<(N.length:Int):=by omega
   obtain⟨rb,ro,ak,-,a4,P⟩:=HN.out.range (λ_=>rfl) ay;have az:((N.take (k+1)).foldl (stepI N V f0) [])=stepI N V f0 M (N.getD k plc0):=by rw[HM.out];exact eL _ _ ay plc0
   have a5:=a3.out _ (bL ay plc0);obtain⟨p,hp⟩:∃p,p=N.getD k plc0:=⟨_,rfl⟩;rw[<-hp] at az P a5;obtain⟨⟨⟨a,d⟩,g⟩,⟨⟨D,E⟩,F⟩,G,j⟩:=p;obtain⟨a6,a7⟩:=a5;have bJ:=ac.out.size;have b7:m<=100000:=by omega
   obtain⟨Z,hZ⟩:∃Z,Z=pathN N f0 (⟨⟨⟨a,d⟩,g⟩,⟨⟨D,E⟩,F⟩,G,j⟩:Plc):=⟨_,rfl⟩;obtain⟨bh,aA⟩:∃b,b=V.any (λy=>y.eqb ⟨⟨a,d⟩,g⟩):=⟨_,rfl⟩;have a8:=hid (show((N.take (k+1)).foldl (stepI N V f0) [])=insB (λy:Itm=>ltS Z y.path) itm0 M ⟨⟨⟨a,d⟩,g⟩,Z,j,!bh⟩ by rw[az,hZ,aA];rfl);have a9:=hid (show wr.rangeAt rb (ro+k*8) [a,d,g,D,E,F,G,j] from cd P a4 ac.out);have ba:=hid (λW (hB:Below w.heap.size w W)=>show Calls Tryz.prog 172 #[.slice A1 N.length c1,.agg #[a,d,g,D,E,F,G,j]] W λe w'=>e= .returned (.string Z)∧Below W.heap.size W w' from by rw[hZ];exact path15_any N A1 c1 f0 a d g D E F G j _ W (by omega) (λp hp=>(a3.out p hp).1) a6 hf0 a7 (HN.out.below hB));have bb:=hid (λW (hB:Below w.heap.size w W)=>show Calls Tryz.prog 173 #[.slice vA V.length vc,.agg #[a,d,g]] W λe w'=>e= .returned (.bool bh)∧Below W.heap.size W w' from by rw[aA];exact hasid_any V vA vc ⟨⟨a,d⟩,g⟩ S2 W (by omega) (HV.out.below hB));have bN:=hid ak;have bO:=bN.out;clear az P a4 hp a6 a7 hZ aA bO;go_upto_region 6 with fail;rw[ak]
   go_upto_region 7 with(first
    |(refine lM a9 ca ?_)
    |(refine bM rfl _ _ _ rfl _ _ _ _ rfl ?_ rfl ?_ ?_ ?_ ?_;(focus(simp;done));kernel_rfl;rfl;rfl))
   rw[<-ak];have aB:=ac.out.alloc bJ (.cells #[a,d,g,D,E,F,G,j] 161);have bc:Below wr.heap.size wr (wr.alloc (.cells #[a,d,g,D,E,F,G,j] 161)):=(ag _ _).alloc (aa _) _;have t:=hid (am wr (.cells #[a,d,g,D,E,F,G,j] 161));have bd:=hid (show(Value.slice A' m c').ownBlock≠some wr.heap.size from λe=>by have:=(HO.out.lt _ e).2;omega);generalize hW:wr.alloc (.cells #[a,d,g,D,E,F,G,j] 161)=W at *;have bP:=hid aB;have bg:=kO HO bc;have aC:=hid (show Below w.heap.size w W.drew from aB.trans ⟨rfl,rfl,rfl,aa _,λ_ _=>rfl⟩);generalize bQ:wr.heap.size=s at *;have bi:s<W.drew.heap.size:=lt_of_block t.out;clear hW aB bc bQ HO ac ak;refine aR (S:=λW'=>W'.heap[s]? =some (.cells #[a,d,g,D,E,F,G,j] 161 (0,0))) (by kernel_rfl) ?_
   try(change wpAnyH _ _ _ _ _ _ _ _ (World.drew _))
   refine tk 0 (.slice A' m c') ((show W.drew.heap[s]? =_ from t.out)) ?_;go_simp;refine tk 1 (.pointer (some ⟨s,0,none⟩)) ((show W.drew.heap[s]? =_ from t.out)) ?_;go_simp;refine tk2 2 (.agg #[a,d,g]) rfl (aT (by rfl) _ _ rfl s (0) rfl [a,d,g] _ (λW' Q=>bv (pre:=[]) (mid:=[a,d,g]) (post:=[D,E,F,G,j]) (bf Q)) aw rfl (by kernel_rfl)) ((show W.drew.heap[s]? =_ from t.out)) ?_;go_simp;refine tk 3 (.slice A1 N.length c1) ((show W.drew.heap[s]? =_ from t.out)) ?_;go_simp;refine tk2 4 (.agg #[a,d,g,D,E,F,G,j]) rfl (aT (by rfl) _ _ rfl s (0) rfl [a,d,g,D,E,F,G,j] _ (λW' Q=>bv (pre:=[]) (mid:=[a,d,g,D,E,F,G,j]) (post:=[]) (bf Q)) ca rfl (by kernel_rfl)) ((show W.drew.heap[s]? =_ from t.out)) ?_;go_simp;refine tk 6 (.pointer (some ⟨s,7,none⟩)) ((show W.drew.heap[s]? =_ from t.out)) ?_;go_simp;refine tk2 7 (.bool j) rfl (Or.inl ⟨by rfl,λW' Q=>by(have c_:W'.cell? ⟨s,7,none⟩=some (.bool j):=aD _ _ _ _ _ _ Q;go_simp)⟩) ((show W.drew.heap[s]? =_ from t.out)) ?_;go_simp;refine tk 8 (.slice vA V.length vc) ((show W.drew.heap[s]? =_ from t.out)) ?_;go_simp;refine tk 9 (.pointer (some ⟨s,0,none⟩)) ((show W.drew.heap[s]? =_ from t.out)) ?_;go_simp
   refine tk2 10 (.agg #[a,d,g]) rfl (aT (by rfl) _ _ rfl s (0) rfl [a,d,g] _ (λW' Q=>bv (pre:=[]) (mid:=[a,d,g]) (post:=[D,E,F,G,j]) (bf Q)) aw rfl (by kernel_rfl)) ((show W.drew.heap[s]? =_ from t.out)) ?_;go_simp;refine rd1 5 λK l=> ?_;go_simp;refine(ba.out W.drew aC.out).mono ?_;rintro e wa ⟨rfl,J⟩;have aE:=bT aC J;have aG:=hid ((J.block s bi).trans t.out);have bj:=hid (bg.out.kept (dg (r:=none) (show Below W.heap.size W wa from⟨J.os,J.tape,J.output,J.size,J.block⟩)) (cw _));clear J;go_simp;refine l.out _ _ (aG.out) (λ_=> ?_);clear l K;refine rd1 11 λK l=> ?_;go_simp;refine(bb.out wa aE.out).mono ?_;rintro e wr ⟨rfl,al⟩;have ad:=bT aE al;have T:=bK al aG;have aH:=kO bj al;clear al;go_simp;refine l.out _ _ (T.out) (λ_=> ?_);clear l K;refine tk 12 (.bool (!bh)) (T.out) ?_;go_simp;refine tk 13 (.agg #[a,d,g,Z,j,.bool (!bh)]) (T.out) ?_;go_simp;have ae:(wr.alloc (.cells #[a,d,g,Z,j,.bool (!bh)] 110)).heap.size=wr.heap.size+1:=by simp
   have bk:=hid (aH.out.alloc (.cells #[a,d,g,Z,j,.bool (!bh)] 110));have bl:=hid (λ(i:Nat) (y:Value) (h:([a,d,g,Z,j,.bool (!bh)]:List Value)[i]? =some y)=>dH wr [a,d,g,Z,j,.bool (!bh)] 110 i y h);have bm:=hid (show ∀u∈([a,d,g,Z,j,.bool (!bh)]:List Value),u.oneCell'=true from fw (c:=#[a,d,g,Z,j,.bool (!bh)]) rfl);have bn:=hid (ad.out.alloc ad.out.size (.cells #[a,d,g,Z,j,.bool (!bh)] 110));have aJ:=hid ((ax wr (.cells #[a,d,g,Z,j,.bool (!bh)] 110) s (lt_of_block T.out)).trans T.out);refine rd1 14 λK l=> ?_;go_simp;refine l.out _ _ (aJ.out) (λ_=> ?_);clear l K;refine rd1 15 λK l=> ?_;refine dW _ (by rfl) _ _ 103 (by rfl) w.heap.size 110 i0 (.agg #[(0:Int),(0:Int),(0:Int),.string ⟨#[]⟩,false,false]) 6 48 Tryz.underlying103 hi bC bE bF rfl (by decide) (.slice A' m c') m _ (by rfl) (by exact bk.out) ⟨wr.heap.size,0,none⟩ 1 1 [a,d,g,Z,j,.bool (!bh)] (by rfl) (by rfl) (by exact bl.out) bm.out (by decide) (by unfold maxLen;omega) (by omega) (by rw[ae];have:=ad.out.size;omega) (wr.heap.size+1) ae ?_;intro n v w5 C ab bR bw;have bo:=hid C;have bS:=hid (bn.out.grown ab (by rw[ae];have:=ad.out.size;omega) (λb hb=>(aH.out.lt b hb).1));have aM:=hid ((ab.block s (by rw[ae];have:=lt_of_block T.out;omega) (λe=>bd.out e.symm)).trans aJ.out);clear C ab bR bw;refine l.out _ _ (aM.out) (λ_=> ?_);clear l K
   refine tk 16 (.slice (some ⟨n,0,none⟩) (m+1) v) (aM.out) ?_;go_simp;refine be (by kernel_rfl) ?_ _;go_simp;go_upto_region 9 with fail;clear a9 ba bb aC aE aG bj ad T aH bk bl bm bn aJ ae aM t bP bg bd bi;have bp:slid M (⟨⟨⟨a,d⟩,g⟩,Z,j,!bh⟩:Itm) m=M++[⟨⟨⟨a,d⟩,g⟩,Z,j,!bh⟩]:=by rw[O.out];exact ju _ _
   have bU:=hid (show w5.ownsRow w.heap.size 110 6 (.slice (some ⟨n,0,none⟩) (m+1) v) (m+1) ((slid M (⟨⟨⟨a,d⟩,g⟩,Z,j,!bh⟩:Itm) m).flatMap itmL) by rw[bp,aI];exact bo.out);clear bp bo;generalize w5=w6 at *;go_loopw [9] (λi wx=>∃(q:Nat),i= .int .i64 q∧q<=m∧Hid (dY (λy:Itm=>ltS Z y.path) itm0 M q=dY (λy:Itm=>ltS Z y.path) itm0 M M.length)∧Hid (wx.ownsRow w.heap.size 110 6 (.slice (some ⟨n,0,none⟩) (m+1) v) (m+1) ((slid M (⟨⟨⟨a,d⟩,g⟩,Z,j,!bh⟩:Itm) q).flatMap itmL))∧Hid (Below w.heap.size w wx)) (λi _=>(RowKit.intOf i).toNat)
   case atStart=>exact⟨m,rfl,aa _,hid (by rw[O.out]),bU,bS⟩
   case round=>
    obtain⟨q,rfl,hq,aN,X,aO⟩:=hrel;by_cases h0:0<q
    ·obtain⟨q,rfl⟩:∃p,q=p+1:=⟨q-1,by omega⟩;have aP:q+1<=M.length:=by rw[<-O.out];exact hq
     have an:m+1=(slid M (⟨⟨⟨a,d⟩,g⟩,Z,j,!bh⟩:Itm) (q+1)).length:=by rw[eO,<-O.out]
     obtain⟨g3,e3,-,bq,af⟩:=cz (f:=itmL) (λ_=>rfl) an X.out (k:=q) (by omega) itm0;cases e3;obtain⟨g4,e4,-,-,ao⟩:=cz (f:=itmL) (λ_=>rfl) an X.out (k:=q+1) (by omega) itm0;cases e4;rw[js aP] at af;rw[ku aP] at ao;have aQ:=ip (L:=M) (x:=(⟨⟨⟨a,d⟩,g⟩,Z,j,!bh⟩:Itm)) (z:=itm0) aP;obtain⟨y,hy⟩:∃y,y=M.getD q itm0:=⟨_,rfl⟩;rw[<-hy] at af aQ;obtain⟨b2,aS⟩:∃b,b=(λy:Itm=>ltS Z y.path) y:=⟨_,rfl⟩;have br:=hid (show(λy:Itm=>ltS Z y.path) (M.getD q itm0)=b2 by rw[<-hy,aS]);clear hy;obtain⟨⟨⟨t2,r2⟩,n2⟩,U,d2,H⟩:=y;have bV:=hid (show wr.rangeAt n (q*6) [t2,r2,n2,U,d2,H] from af);have bW:=hid (show wr.rangeAt n ((q+1)*6) [a,d,g,Z,j,.bool (!bh)] from ao);have y3:=aj (af 3 _ rfl);have x3:=aj (ao 3 _ rfl);have bX:=hid aQ;have k1:(0:Int)<(q:Int)+1:=by omega
     have k2:(0:Int)<=(q:Int):=by omega
     have k3:(q:Int)<(m:Int)+1:=by omega
     have k4:(q:Int)+1<(m:Int)+1:=by omega
     have k5:(0:Int)<=(q:Int)+1:=by omega
     have k6:IntKind.i64.wrap (q:Int)=(q:Int):=by rw[bz];omega
     have ah:=hid an;have q2:Op.bytesLess Z.toList U.toList=b2:=aS.symm;have cA:=trivial;clear af ao aS aQ an;cases b2 with
     |false=>
      go_upto_region 9 with fail;refine rqb ?_
      repeat(any_goals(first|go_big_quiet_step (with_reducible exact cA _ _)|quiet_step (with_reducible exact cA _ _)))
      refine qz λI B=> ?_;have aU:=hid (show((N.take (k+1)).foldl (stepI N V f0) [])=slid M (⟨⟨⟨a,d⟩,g⟩,Z,j,!bh⟩:Itm) (q+1) by rw[a8.out];unfold insB;rw[<-aN.out,ge (.inr ⟨q,rfl,br.out⟩)]);have aV:=kO X B;have aW:=bT aO B;go_wp2;go_roundw
      case rel=>exact⟨k+1,some ⟨n,0,none⟩,v,m+1,_,by omega,by go_num,rfl,by omega,ah,hid aU.out.symm,aV,aW⟩
      case measure=>(simp[RowKit.intOf];omega)
     | true=>
      go_upto_region 9 with fail;refine rqb ?_
      repeat(any_goals(first|go_big_quiet_step (with_reducible exact cA _ _)|quiet_step (with_reducible exact cA _ _)))
      refine qz λI B=> ?_;have bx:=hid (show dY (λy:Itm=>ltS Z y.path) itm0 M q=dY (λy:Itm=>ltS Z y.path) itm0 M M.length by rw[<-aN.out,iF br.out]);have aY:=hid (cd bV.out bq B);have aZ:=hid (cd bW.out bq B);have ai:=kO X B;have bB:=bT aO B;clear y3 x3 cA X B;go_upto_region 11 with fail;obtain⟨V1,a0⟩:∃V,V=I.drew.setCells n ((q+1)*6) (#[t2,r2,n2,U,d2,H]:Array Value).toList:=⟨_,rfl⟩;have Y:V1.ownsRow w.heap.size 110 6 (.slice (some ⟨n,0,none⟩) (m+1) v) (m+1) (((slid M (⟨⟨⟨a,d⟩,g⟩,Z,j,!bh⟩:Itm) (q+1)).set (q+1) (⟨⟨⟨t2,r2⟩,n2⟩,U,d2,H⟩:Itm)).flatMap itmL)∧I.drew.grownBy V1 (some n):=by rw[a0];exact eP (f:=itmL) (λ_=>rfl) (by decide) ah.out (show I.drew.ownsRow _ _ _ _ _ _ from ai.out) (by omega) (⟨⟨⟨t2,r2⟩,n2⟩,U,d2,H⟩:Itm)
      obtain⟨V2,a1⟩:∃V,V=V1.setCells n (q*6) (#[a,d,g,Z,j,.bool (!bh)]:Array Value).toList:=⟨_,rfl⟩;have ap:V2.ownsRow w.heap.size 110 6 (.slice (some ⟨n,0,none⟩) (m+1) v) (m+1) ((((slid M (⟨⟨⟨a,d⟩,g⟩,Z,j,!bh⟩:Itm) (q+1)).set (q+1) (⟨⟨⟨t2,r2⟩,n2⟩,U,d2,H⟩:Itm)).set q (⟨⟨⟨a,d⟩,g⟩,Z,j,!bh⟩:Itm)).flatMap itmL)∧V1.grownBy V2 (some n):=by rw[a1];exact eP (f:=itmL) (λ_=>rfl) (by decide) (by rw[cM];exact ah.out) Y.1 (by omega) (⟨⟨⟨a,d⟩,g⟩,Z,j,!bh⟩:Itm)
      obtain⟨g5,e5,bs⟩:=ey (show I.drew.ownsRow _ _ _ _ _ _ from ai.out) (k:=q+1) (by omega);cases e5;obtain⟨g6,e6,bt⟩:=ey Y.1 (k:=q) (by omega);cases e6;have bY:=hid ap.1;have bZ:=hid (show I.heap.size<=V2.heap.size∧(Below w.heap.size w I->w.heap.size<=n->Below w.heap.size w V2) from⟨aL (show I.drew.heap.size<=V1.heap.size from Y.2.size) ap.2.size,λhb hl=>(hb.drew.grown Y.2 (by exact hb.size) (λb e=>by cases e;exact hl)).grown ap.2 (aL hb.size (show I.drew.heap.size<=V1.heap.size from Y.2.size)) (λb e=>by cases e;exact hl)⟩);have b0:=hid a0;have b1:=hid a1;have b3:=hid bs;have b4:=hid bt;have b5:=hid (show(#[t2,r2,n2,U,d2,H]:Array Value).all (·.oneCell')=true by rw[<-cg];rfl);have b6:=hid (show(#[a,d,g,Z,j,.bool (!bh)]:Array Value).all (·.oneCell')=true by rw[<-cg];rfl);clear Y ap a0 a1 bs bt;refine aR (S:=λ_=>True) (by kernel_rfl) ?_
      try(change wpAnyH _ _ _ _ _ _ _ _ (World.drew _))
      refine tk 0 (.slice (some ⟨n,0,none⟩) (m+1) v) (trivial) ?_;go_simp;refine tk 1 (.int .i64 ((q:Int)+1)) (trivial) ?_;go_simp;refine tk 2 (.slice (some ⟨n,0,none⟩) (m+1) v) (trivial) ?_;go_simp;refine tk 3 (.int .i64 ((q:Int)+1)) (trivial) ?_;go_simp;refine tk 4 (.int .i64 (q:Int)) (trivial) ?_;go_simp;refine tk 5 (.slice (some ⟨n,0,none⟩) (m+1) v) (trivial) ?_;go_simp;refine tk 6 (.int .i64 ((q:Int)+1)) (trivial) ?_;go_simp;refine tk 7 (.int .i64 (q:Int)) (trivial) ?_;go_simp;refine tk 8 (.pointer (some ⟨n,q*6,none⟩)) (trivial) ?_;go_simp;refine tk 10 (.slice (some ⟨n,0,none⟩) (m+1) v) (trivial) ?_;go_simp;refine tk 11 (.int .i64 ((q:Int)+1)) (trivial) ?_;go_simp;refine tk 12 (.pointer (some ⟨n,(q+1)*6,none⟩)) (trivial) ?_;go_simp;refine dp (rs:=[9,13]) (by kernel_rfl) (by simp) ?_;refine aX rfl (λK l=> ?_) (aX rfl (λK l=> ?_) cX)
      focus
       refine bA rfl _ _ rfl n (q*6) rfl [t2,r2,n2,U,d2,H] _ (show I.drew.rangeAt _ _ _ from aY.out) Tryz.underlying110 rfl (by kernel_rfl) ?_;refine l.out _ _ (trivial) (λ_=> ?_);clear l K;refine rd1 13 λK l=> ?_;refine bA rfl _ _ rfl n ((q+1)*6) rfl [a,d,g,Z,j,.bool (!bh)] _ (show I.drew.rangeAt _ _ _ from aZ.out) Tryz.underlying110 rfl (by kernel_rfl) ?_;refine l.out _ _ (trivial) (λ_=> ?_);clear l K
      rotate_left
      focus
       refine bA rfl _ _ rfl n ((q+1)*6) rfl [a,d,g,Z,j,.bool (!bh)] _ (show I.drew.rangeAt _ _ _ from aZ.out) Tryz.underlying110 rfl (by kernel_rfl) ?_;refine l.out _ _ (trivial) (λ_=> ?_);clear l K;refine rd1 9 λK l=> ?_;refine bA rfl _ _ rfl n (q*6) rfl [t2,r2,n2,U,d2,H] _ (show I.drew.rangeAt _ _ _ from aY.out) Tryz.underlying110 rfl (by kernel_rfl) ?_;refine l.out _ _ (trivial) (λ_=> ?_);clear l K
      all_goals
       refine tk 14 (.pointer (some ⟨n,(q+1)*6,none⟩)) (trivial) ?_;go_simp;refine rd1 15 λK l=> ?_;refine cy rfl _ _ _ rfl n ((q+1)*6) #[t2,r2,n2,U,d2,H] (by rfl) (by rfl) b3.out (by kernel_rfl) b5.out ?_;rw[<-b0.out];refine l.out _ _ (trivial) (λ_=> ?_);clear l K;refine tk 16 (.pointer (some ⟨n,q*6,none⟩)) (trivial) ?_;go_simp;refine rd1 17 λK l=> ?_;refine cy rfl _ _ _ rfl n (q*6) #[a,d,g,Z,j,.bool (!bh)] (by rfl) (by rfl) b4.out (by kernel_rfl) b6.out ?_;rw[<-b1.out];refine l.out _ _ (trivial) (λ_=> ?_);clear l K;refine be (by kernel_rfl) ?_ _;go_simp;go_wp2;go_roundw
       case rel=>exact⟨q,by go_num,by omega,bx,hid (by rw[<-bX.out];exact bY.out),hid (bZ.out.2 bB.out (ai.out.lt n rfl).1)⟩
       case measure=>(simp[RowKit.intOf];try omega)
    ·obtain rfl:q=0:=by omega
     go_upto_region 9 with fail;refine rqb ?_
     repeat(any_goals(first|go_big_quiet_step (fail)|quiet_step (fail)))
     refine qz λI B=> ?_;have aU:=hid (show((N.take (k+1)).foldl (stepI N V f0) [])=slid M (⟨⟨⟨a,d⟩,g⟩,Z,j,!bh⟩:Itm) 0 by rw[a8.out];unfold insB;rw[<-aN.out];rfl);have ah:=hid (show m+1=(slid M (⟨⟨⟨a,d⟩,g⟩,Z,j,!bh⟩:Itm) 0).length by rw[eO,<-O.out]);have aV:=kO X B;have aW:=bT aO B;go_wp2;go_roundw
     case rel=>exact⟨k+1,some ⟨n,0,none⟩,v,m+1,_,by omega,by go_num,rfl,by omega,ah,hid aU.out.symm,aV,aW⟩
     case measure=>(simp[RowKit.intOf];omega)
  ·obtain rfl:k=N.length:=by omega
   have i2:¬(N.length:Int)<(N.length:Int):=by omega
   have bu:=hid (show M=R by rw[bI.out];have h9:=HM.out;rw[aK] at h9;exact h9);go_wp2;go_ret;refine⟨A',c',by rw[<-bu.out,<-O.out];rfl,?_,av.out.trans (ac.out.mono av.out.size)⟩;rw[<-bu.out,<-O.out];exact iC HO.out av.out.size
end
section
open Go.RowKit Go.Lib Go.Sort
theorem pigeon:∀(n m:Nat) (f:Nat->Nat),(∀i,i<m->f i<n)->(∀i j,i<m->j<m->f i=f j->i=j)->m<=n
 |n,0,_,_,_=>aq _
 |0,m+1,f,h1,_=>absurd (h1 0 (Nat.succ_pos _)) (cG _)
 | n +1,m+1,f,h1,h2=>by
  have h:=pigeon n m (λi=>if f i=n then f m else f i) (λi hi=>by
   have a:=h1 i (by omega)
   have b:=h1 m (by omega)
   show(if f i=n then f m else f i)<n
   split
   ·rename_i e
    have:f m≠n:=λe2=>by have:=h2 i m (by omega) (by omega) (by rw[e,e2]);omega
    omega
   ·omega) (λi j hi hj e=>by
   have e:(if f i=n then f m else f i)=(if f j=n then f m else f j):=e
   split at e
   ·rename_i e1
    split at e
    ·rename_i e2
     exact h2 i j (by omega) (by omega) (by rw[e1,e2])
    ·have:=h2 m j (by omega) (by omega) e;omega
   ·split at e
    ·have:=h2 i m (by omega) (by omega) e;omega
    ·exact h2 i j (by omega) (by omega) e)
  omega
def reach (N:List Plc):Nat->Gid->Prop
 |0,x=>x= .zero
 |m+1,x=>x≠ .zero∧∃k,dZ N x=some k∧reach N m (N.getD k plc0).p
def ups (N:List Plc):Nat->Gid->Gid->Prop
 |0,x,y=>x=y
 |s+1,x,y=>∃k,dZ N x=some k∧ups N s (N.getD k plc0).p y
theorem reach_one {N:List Plc}:∀{m m':Nat} {x:Gid},reach N m x->reach N m' x->m=m'
 |0,0,_,_,_=>rfl
 |0,m'+1,_,h,h'=>absurd h h'.1
 |m+1,0,_,h,h'=>absurd h' h.1
 |m+1,m'+1,x,⟨_,k,hk,h⟩,⟨_,k',hk',h'⟩=>by
  rw[hk] at hk';cases hk'
  rw[reach_one h h']
theorem reach_idx {N:List Plc}:∀{m:Nat} {x:Gid},reach N m x->∃g:Nat->Nat,∀i,i<m->∃y,reach N (m-i) y∧dZ N y=some (g i)
 |0,_,_=>⟨λ_=>0,λi hi=>absurd hi (cG _)⟩
 | m+1,x,⟨hx,k,hk,h⟩=>by
  obtain⟨g,hg⟩:=reach_idx h
  refine⟨λi=>match i with|0=>k|i+1=>g i,λi hi=> ?_⟩
  cases i with
  |zero=>exact⟨x,⟨hx,k,hk,h⟩,hk⟩
  |succ i=>
   obtain⟨y,h1,h2⟩:=hg i (by omega)
   exact⟨y,by rw[show m+1-(i+1)=m-i by omega];exact h1,h2⟩
theorem reach_le {N:List Plc} {m:Nat} {x:Gid} (h:reach N m x):m<=N.length:=by
 obtain⟨g,b⟩:=reach_idx h;refine pigeon _ _ g (λi c=> ?_) (λi j c l e=> ?_)
 ·obtain⟨y,_,d⟩:=b i c;exact(fL d).1
 ·obtain⟨y,n,d⟩:=b i c;obtain⟨p,a,f⟩:=b j l;have k:=(fL d).2;have o:=(fL f).2;rw[e,o] at k;rw[k] at a;have:=reach_one n a;omega
theorem rooted_reach {N:List Plc} (hz:dZ N .zero=none):∀(f:Nat) (x:Gid),hY N f x=true->∃m,reach N (m+1) x
 |0,_,h=>by cases h
 | f +1,x,h=>by
  rw[hY] at h
  cases hk:dZ N x with
  |none=>rw[hk] at h;cases h
  | some k=>
   have hx:x≠ .zero:=λe=>by rw[e,hz] at hk;cases hk
   rw[hk] at h
   simp only at h
   by_cases hp:(N.getD k plc0).p.eqb .zero=true
   ·exact⟨0,hx,k,hk,Gid.eqb_iff.1 hp⟩
   ·rw[aC hp] at h
    cases hk2:dZ N (N.getD k plc0).p with
    |none=>rw[hk2] at h;cases h
    | some k2=>
     rw[hk2] at h
     simp only at h
     by_cases hd:(N.getD k2 plc0).dir=true
     ·rw[aJ hd] at h
      obtain⟨m,hm⟩:=rooted_reach hz f _ h
      exact⟨m+1,hx,k,hk,hm⟩
     ·rw[aC hd] at h;cases h
theorem within_ups {N:List Plc} (hz:dZ N .zero=none) {y:Gid} (hy:y≠ .zero):∀(f m:Nat) (x:Gid),m<f->reach N m x->gv N y f x=true->∃s,ups N s x y
 |0,m,x,hm,_,_=>absurd hm (cG _)
 | f +1,m,x,hm,hr,h=>by
  rw[gv] at h
  by_cases e:x.eqb y=true
  ·exact⟨0,Gid.eqb_iff.1 e⟩
  ·rw[aC e] at h
   cases hk:dZ N x with
   |none=>rw[hk] at h;cases h
   | some k=>
    rw[hk] at h
    cases m with
    |zero=>rw[show x= .zero from hr,hz] at hk;cases hk
    |succ m=>
     obtain⟨_,k',hk',hr'⟩:=hr
     rw[hk] at hk';cases hk'
     obtain⟨s,hs⟩:=within_ups hz hy f m _ (by omega) hr' h
     exact⟨s+1,k,hk,hs⟩
theorem ups_within {N:List Plc} {y:Gid}:∀(s f:Nat) (x:Gid),s<f->ups N s x y->gv N y f x=true
 |_,0,_,h,_=>absurd h (cG _)
 |0,f+1,x,_,h=>by rw[gv,aJ (Gid.eqb_iff.2 h)]
 |s+1,f+1,x,hs,⟨k,hk,h⟩=>by
  rw[gv]
  split
  ·rfl
  ·rw[hk];exact ups_within s f _ (by omega) h
theorem ups_tail {N:List Plc} {y:Gid} {k:Nat} (hk:dZ N y=some k):∀(s:Nat) (x:Gid),ups N s x y->ups N (s+1) x (N.getD k plc0).p
 |0,x,h=>by have h:x=y:=h;subst h;exact⟨k,hk,rfl⟩
 |s+1,x,⟨k',hk',h⟩=>⟨k',hk',ups_tail hk s _ h⟩
theorem ups_reach {N:List Plc} {y:Gid}:∀(s m:Nat) (x:Gid),(y≠ .zero->True)->reach N m x->dZ N .zero=none->ups N s x y->∃r,r+s=m∧reach N r y
 |0,m,x,_,hr,_,h=>by have h:x=y:=h;subst h;exact⟨m,rfl,hr⟩
 |s+1,0,x,_,hr,hz,⟨k,hk,h⟩=>by rw[show x= .zero from hr,hz] at hk;cases hk
 |s+1,m+1,x,t,⟨_,k',hk',hr⟩,hz,⟨k,hk,h⟩=>by
  rw[hk] at hk';cases hk'
  obtain⟨r,e,h2⟩:=ups_reach s m _ t hr hz h
  exact⟨r,by omega,h2⟩
theorem findP_mem {S:List Plc} {p:Plc} (h:p∈S):∃k,dZ S p.n=some k:=by
 cases e:dZ S p.n with
 |some k=>exact⟨k,rfl⟩
 |none=>
  unfold dZ at e;rw[List.findIdx?_eq_none_iff] at e;have:=e p h;rw[show p.n.eqb p.n=true from Gid.eqb_iff.2 rfl] at this;cases this
structure RightR (N:List Plc):Prop where
 one:∀p∈N,∀q∈N,p.n=q.n->p=q
 ok:∀p∈N,p.n.right=true∧ek p.name=true
theorem RightR.step {N:List Plc} (h:RightR N) (p:Plc):RightR (stepR N p):=by
 unfold stepR;split
 ·rename_i c;simp only[ap] at c;obtain⟨⟨l,m⟩,i⟩:=c;have g:∀q∈N,q.n≠p.n:=λq n e=>by
   obtain⟨k,j⟩:=findP_mem n;rw[e] at j;rw[j] at i;cases i
  refine⟨λa d b f e=> ?_,λa d=> ?_⟩
  ·rcases au.1 d with d|d<;>rcases au.1 f with f|f
   ·exact h.one a d b f e
   ·rw[aO.1 f] at e;exact absurd e (g a d)
   ·rw[aO.1 d] at e;exact absurd e.symm (g b f)
   ·rw[aO.1 d,aO.1 f]
  ·rcases au.1 d with d|d
   ·exact h.ok a d
   ·rw[aO.1 d];exact⟨l,m⟩
 ·exact h
theorem RightR.fold:∀(l:List Plc) {N:List Plc},RightR N->RightR (l.foldl stepR N)
 | [],_,h=>h
 |p::l,_,h=>RightR.fold l (h.step p)
theorem rightP_ok (L:List Plc):RightR (fG L):=RightR.fold L ⟨λ_ h=>absurd h eZ,λ_ h=>absurd h eZ⟩
theorem RightR.zero {N:List Plc} (h:RightR N):dZ N .zero=none:=by
 cases e:dZ N .zero with
 |none=>rfl
 |some k=>
  obtain⟨a,b⟩:=fL e;have:=(h.ok _ (bL a plc0)).1;rw[b] at this;exact absurd this (by decide)
theorem climbs_seen {N:List Plc} {V:List Gid} (h:RightR N) {q:Plc} (hq:q∈N) (hv:V.any (λy=>y.eqb q.n)=true) (hro:jO N q.n=true) {m:Nat} (hm:reach N m q.n):
  ∀(r s f:Nat) (p:Plc),r+s=m->r<=f+1->p∈N->reach N r p.n->ups N s q.n p.n->iR (N.filter (gE N V)) f p=true
 |0,s,f,p,_,_,hp,hr,_=>by
  have:=(h.ok p hp).1
  rw[show p.n= .zero from hr] at this
  exact absurd this (by decide)
 | r +1,s,f,p,hrs,hf,hp,⟨hx,k,hk,hr⟩,hu=>by
  obtain⟨hk1,hk2⟩:=fL hk
  have hpk:N.getD k plc0=p:=h.one _ (bL hk1 plc0) _ hp hk2
  rw[hpk] at hr
  by_cases hz:p.p.eqb .zero=true
  ·cases f with
   |zero=>exact hz
   |succ f=>rw[iR,aJ hz]
  ·cases r with
   |zero=>exact absurd (Gid.eqb_iff.2 hr) hz
   | succ r=>
    have hr0:=hr
    obtain⟨hx2,k2,hk2',hr2⟩:=hr
    obtain⟨j1,j2⟩:=fL hk2'
    have hm2:=bL j1 plc0
    have hu2:ups N (s+1) q.n p.p:=by have:=ups_tail hk s _ hu;rw[hpk] at this;exact this
    have hml:=reach_le hm
    have hsee:gE N V (N.getD k2 plc0)=true:=by
     unfold gE;rw[dV];refine⟨q,hq,?_⟩;rw[hv,hro,j2];show gv N p.p (N.length+1) q.n=true;exact ups_within (s+1) _ _ (by omega) hu2
    have b:N.getD k2 plc0∈N.filter (gE N V):=g7.2 ⟨hm2,hsee⟩;obtain⟨c,a⟩:=findP_mem b;obtain⟨d,e⟩:=fL a;have g:(N.filter (gE N V)).getD c plc0=N.getD k2 plc0:=h.one _ (g7.1 (bL d plc0)).1 _ hm2 e;rw[j2] at a;cases f with
    |zero=>omega
    |succ f=>
     rw[iR,aC hz,a];show iR _ f _=true;rw[g];exact climbs_seen h hq hv hro hm (r+1) (s+1) f _ (by omega) (by omega) hm2 (by rw[j2];exact hr0) (by rw[j2];exact hu2)
theorem seen_climbs (L:List Plc) (V:List Gid) (f:Nat) (hf:L.length<=f+1):∀p∈iX L V,ek p.name=true∧iR (iX L V) f p=true:=by
 intro p g;have h:=rightP_ok L;have v:=rightP_len L;unfold iX at g ⊢;generalize fG L=N at *;obtain⟨a,c⟩:=g7.1 g;refine⟨(h.ok p a).2,?_⟩;unfold gE at c;obtain⟨q,l,i⟩:=dV.1 c;simp only[ap] at i;obtain⟨⟨n,d⟩,o⟩:=i;obtain⟨m,b⟩:=rooted_reach h.zero _ _ d;have u:=reach_le b;have j:p.n≠ .zero:=λe=>by have:=(h.ok p a).1;rw[e] at this;exact absurd this (by decide)
 obtain⟨s,k⟩:=within_ups h.zero j (N.length+1) (m+1) q.n (by omega) b o;obtain⟨r,e,t⟩:=ups_reach s (m+1) q.n (λ_=>trivial) b h.zero k;exact climbs_seen h l n d b r s f p e (by omega) a t k
end
section
open Go.RowKit Go.Lib Go.Sort
attribute [local go_sem ↓] Go.wp_at_zero Go.wp_at_succ
def hH (on:List Hd) (x:Hd):List Hd:=if on.any (λy=>y.u.eqb x.s)=true then on else on++[x]
def onH (l:List Hd):List Hd:=(jH l).foldl hH []
def onS (l:List Hd):List Gst:=(onH l).reverse.map (·.s)
theorem stepOn_len (on:List Hd) (x:Hd):(hH on x).length<=on.length+1:=by
 unfold hH;split
 ·omega
 ·rw[al,dy];exact aa _
theorem foldOn_len:∀(l:List Hd) (out:List Hd),(l.foldl hH out).length<=out.length+l.length
 | [],out=>aa _
 |x::l,out=>by
  have h1:=foldOn_len l (hH out x)
  have h2:=stepOn_len out x
  rw[dU,bG];omega
theorem onS_len (l:List Hd):(onS l).length<=l.length:=by
 unfold onS onH;rw[aQ,iT];have a:=foldOn_len (jH l) [];have b:=sortH_len l [];simp only[fU,bN] at a b;exact aL a b
theorem rev_step {M:List Hd} {q:Nat} (h:q<M.length):(M.drop q).reverse.map (·.s)=(M.drop (q+1)).reverse.map (·.s)++[(M.getD q hd0).s]:=by
 rw[iM h,List.reverse_cons,bq,ae,an h];rfl
theorem on_any (L:List Hd) (A:Option Addr) (c:Nat) (S:Nat->Prop) (w:World) (hl:L.length<=100000) (hR:RowF w S A 4 hdL hd0 L):
  Calls Tryz.prog 107 #[.slice A L.length c] w λe w'=>∃A' c',e= .returned (.slice A' (onS L).length c')∧w'.ownsRow w.heap.size 42 2 (.slice A' (onS L).length c') (onS L).length ((onS L).flatMap stL)∧Below w.heap.size w w':=by
 obtain⟨i0,hi,aE,aG,aH⟩:=bD info_hd;obtain⟨i1,aM,aN,aO,aP⟩:=bD info_st;have ai:=hid (sortedh_any L A c S w hl hR);have U:=sortH_len L [];have aR:=hid (show(onS L).length=(onH L).length by unfold onS;rw[aQ,iT]);obtain⟨N,hN⟩:∃N,N=jH L:=⟨_,rfl⟩;obtain⟨R,V⟩:∃R,R=onS L:=⟨_,rfl⟩;have aS:=hid (show R=(N.foldl hH []).reverse.map (·.s) by rw[V,hN];rfl);rw[<-V];rw[<-hN] at ai;have a0:N.length<=100000:=by rw[hN];simp only[fU,bN] at U;exact aL U hl
 clear hR V hN U aR;go_enter Tryz.func107,Tryz.ntmps107;go_upto_region 4 with(go_at_call 166;refine ai.out.mono ?_;rintro e P ⟨A1,c1,rfl,I,ak⟩;have aT:=hid I;have X:=hid ak;clear I ak);go_loopw [4,5] (λo i wr=>∃(k:Nat) (A':Option Addr) (c' m:Nat) (M:List Hd),k<=N.length∧i= .int .i64 k∧o= .slice A' m c'∧m<=k∧Hid (m=M.length)∧Hid (M=(N.take k).foldl hH [])∧Hid (wr.ownsRow P.heap.size 224 4 (.slice A' m c') m (M.flatMap hdL))∧Hid (Below P.heap.size P wr)) (λo i _=>N.length-(RowKit.intOf i).toNat)
 case atStart=>exact⟨0,none,0,0,[],aq _,rfl,rfl,aa _,hid rfl,hid rfl,hid (aF _ _ _ _),hid (ag _ _)⟩
 case round=>
  obtain⟨k,A',c',m,M,hk,rfl,rfl,a1,d,HM,HO,J⟩:=hrel;by_cases am:k<N.length
  ·have i1:(0:Int)<=(k:Int):=by omega
   have i2:(k:Int)<(N.length:Int):=by omega
   obtain⟨rb,rfl,-,an,B⟩:=jY (f:=hdL) (λ_=>rfl) aT.out am hd0;have ao:(N.take (k+1)).foldl hH []=hH M (N.getD k hd0):=by rw[HM.out];exact eL _ _ am hd0
   generalize N.getD k hd0=p at *;obtain⟨⟨t,r⟩,⟨E,F⟩⟩:=p;have Y:=hid (λW (hB:Below P.heap.size P W)=>show W.rangeAt rb (k*4) [t,r,E,F] from cd B an hB);have ap:=hid ao;have aU:=J.out.size;clear B an ao;generalize wr=w0 at *;go_upto_region 8 with fail;go_loopw [6,7] (λh i wr=>∃(j:Nat) (b:Bool),j<=m∧i= .int .i64 j∧h= .bool b∧Hid (b=(M.take j).any (λy:Hd=>y.u.eqb ⟨t,r⟩))∧Hid (Below w0.heap.size w0 wr)) (λh i _=>m-(RowKit.intOf i).toNat)
   case atStart=>exact⟨0,false,aq _,rfl,rfl,hid rfl,hid (ag _ _)⟩
   case round=>
    obtain⟨j,b,hj,rfl,rfl,HB,C⟩:=hrel;have s:=hid (J.out.trans (C.out.mono aU));have K:=kO HO C.out;by_cases ar:j<m
    ·have j1:(0:Int)<=(j:Int):=by omega
     have j2:(j:Int)<(m:Int):=by omega
     obtain⟨g2,rfl,-,au,x⟩:=cz (f:=hdL) (λ_=>rfl) d.out K.out ar hd0;have av:(M.take (j+1)).any (λy:Hd=>y.u.eqb ⟨t,r⟩)=((M.take j).any (λy:Hd=>y.u.eqb ⟨t,r⟩) || (λy:Hd=>y.u.eqb ⟨t,r⟩) (M.getD j hd0)):=by rw[dF (by rw[<-d.out];exact ar) hd0,jp];simp
     generalize M.getD j hd0=y at *;obtain⟨⟨t2,r2⟩,⟨aw,ax⟩⟩:=y;obtain⟨b2,Z⟩:∃b,b=(λy:Hd=>y.u.eqb ⟨t,r⟩) ⟨⟨t2,r2⟩,⟨aw,ax⟩⟩:=⟨_,rfl⟩;have q1:=eq_st aw ax t r b2 Z.symm;have ay:=hid (show(M.take (j+1)).any (λy:Hd=>y.u.eqb ⟨t,r⟩)=(b || b2) by rw[av,HB.out,Z]);have y2:=aj (x 2 _ rfl);have y3:=aj (x 3 _ rfl);have x0:=aj (w:=wr) (a:=⟨rb,k*4,none⟩) (v:= .int .i64 t) ((Y.out wr s.out) 0 _ rfl);have x1:=aj (w:=wr) (a:=⟨rb,k*4+1,none⟩) (v:= .int .i64 r) ((Y.out wr s.out) 1 _ rfl);clear x Z av;cases b with
     |true=>
      go_upto_region 10 with fail;refine rqb ?_
      repeat(any_goals(first|go_big_quiet_step (fail)|quiet_step (fail)))
      refine qz λwq ab=> ?_;go_wp2;go_roundw
      case rel=>exact⟨j+1,true,by omega,by go_num,rfl,hid (by rw[ay.out];rfl),bT C ab⟩
      case measure=>(simp[RowKit.intOf];omega)
     |false=>
      go_upto_region 10 with fail;refine rqb ?_
      repeat(any_goals(first|go_big_quiet_step (fail)|quiet_step (fail)))
      refine qz λwq ab=> ?_;go_wp2;go_roundw
      case rel=>exact⟨j+1,b2,by omega,by go_num,rfl,hid (by rw[ay.out];rfl),bT C ab⟩
      case measure=>(simp[RowKit.intOf];omega)
    ·obtain rfl:j=m:=by omega
     have j2:¬(j:Int)<(j:Int):=by omega
     have z:b=M.any (λy:Hd=>y.u.eqb ⟨t,r⟩):=by rw[HB.out,d.out,aK]
     cases b with
     |true=>
      have ac:=hid (show((N.take (k+1)).foldl hH [])=M by rw[ap.out];unfold hH;rw[aJ z.symm]);clear z;go_wp2;go_roundw
      case rel=>exact⟨k+1,A',c',j,M,by omega,by go_num,rfl,by omega,d,hid ac.out.symm,K,s⟩
      case measure=>(simp[RowKit.intOf];omega)
     | false=>
      have ac:=hid (show((N.take (k+1)).foldl hH [])=M++[⟨⟨t,r⟩,⟨E,F⟩⟩] by rw[ap.out];unfold hH;rw[aC (by rw[<-z];decide)]);clear z;have aD:=hid (Y.out wr s.out);have G:=s.out.size;have aZ:=C.out.size
      go_wp2_with (first
       |(refine lM aD iI ?_)
       |(at_builtin;refine bX _ rfl _ _ 157 rfl P.heap.size 224 i0 (.agg #[(0:Int),(0:Int),(0:Int),(0:Int)]) 4 32 Tryz.underlying157 hi aE aG aH rfl (by decide) (.slice A' j c') j _ rfl (by exact K.out.alloc _) ⟨wr.heap.size,0,none⟩ 1 1 [t,r,E,F] rfl rfl (λj y h=>dH wr [t,r,E,F] 224 j y h) (fw (c:=#[t,r,E,F]) rfl) (by decide) (by unfold maxLen;omega) (by omega) (by simp;omega) (wr.heap.size+1) (by simp) ?_;intro gq D w5 u l ha H;have ad:=hid u;have ae:=hid ((s.out.alloc G _).grown l (by simp;omega) (λb hb=>(K.out.lt b hb).1));clear u l ha H))
      go_roundw
      case rel=>exact⟨k+1,some ⟨gq,0,none⟩,D,j+1,_,by omega,by go_num,rfl,by omega,hid (by rw[al,<-d.out];rfl),hid ac.out.symm,hid (by rw[aI];exact ad.out),ae⟩
      case measure=>(simp[RowKit.intOf];omega)
  ·obtain rfl:k=N.length:=by omega
   have i2:¬(N.length:Int)<(N.length:Int):=by omega
   have aV:=hid (show M=N.foldl hH [] by have h9:=HM.out;rw[aK] at h9;exact h9);have a2:m<=100000:=by omega
   generalize wr=w7 at *;go_upto_region 15 with fail;go_loopw [8,9] (λo i wr=>∃(q:Nat) (Q:Option Addr) (T n:Nat),q<=m∧q+n=m∧i= .int .i64 ((q:Int)-1)∧o= .slice Q n T∧Hid (wr.ownsRow w7.heap.size 42 2 (.slice Q n T) n (((M.drop q).reverse.map (·.s)).flatMap stL))∧Hid (Below w7.heap.size w7 wr)) (λo i _=>(RowKit.intOf i+1).toNat)
   case atStart=>exact⟨m,none,0,0,aa _,by omega,by go_num,rfl,hid (by rw[d.out,List.drop_length];exact aF _ _ _ _),hid (ag _ _)⟩
   case round=>
    obtain⟨q,Q,T,n,hq,a3,rfl,rfl,af,O⟩:=hrel;have s:=bT J O.out;by_cases h0:0<q
    ·obtain⟨q,rfl⟩:∃p,q=p+1:=⟨q-1,by omega⟩;have aW:q<M.length:=by rw[<-d.out];omega
     obtain⟨g2,rfl,-,au,x⟩:=cz (f:=hdL) (λ_=>rfl) d.out HO.out (k:=q) (by omega) hd0;have az:=rev_step aW;generalize M.getD q hd0=y at *;obtain⟨⟨t,r⟩,⟨E,F⟩⟩:=y;have aX:=hid (show wr.rangeAt g2 (q*4) [t,r] from bv (pre:=[]) (post:=[E,F]) (cd x au O.out));have aY:=hid az;have e0:(((q+1:Nat):Int)-1)=(q:Int):=by omega
     rw[e0];have k1:(0:Int)<=(q:Int):=by omega
     have k2:(q:Int)<(m:Int):=by omega
     have k3:IntKind.i64.wrap ((q:Int)-1)=(q:Int)-1:=by rw[bz];omega
     have G:=O.out.size;have a4:n<=100000:=by omega
     clear x az e0
     go_wp2_with (first
      |(refine lM aX cb ?_)
      |(at_builtin;refine bX _ rfl _ _ 100 rfl w7.heap.size 42 i1 (.agg #[(0:Int),(0:Int)]) 2 16 Tryz.underlying100 aM aN aO aP rfl (by decide) (.slice Q n T) n _ rfl (by exact af.out.alloc _) ⟨wr.heap.size,0,none⟩ 1 1 [t,r] rfl rfl (λj y h=>dH wr [t,r] 42 j y h) (fw (c:=#[t,r]) rfl) (by decide) (by unfold maxLen;omega) (by omega) (by simp;omega) (wr.heap.size+1) (by simp) ?_;intro gq D w5 u l ha H;have ad:=hid u;have ae:=hid ((O.out.alloc G _).grown l (by simp;omega) (λb hb=>(af.out.lt b hb).1));clear u l ha H))
     go_roundw
     case rel=>exact⟨q,some ⟨gq,0,none⟩,D,n+1,by omega,by omega,by go_num,rfl,hid (by rw[aY.out,aI];exact ad.out),ae⟩
     case measure=>(simp[RowKit.intOf];try omega)
    ·obtain rfl:q=0:=by omega
     rw[show(((0:Nat):Int)-1)= -1 by rfl];obtain rfl:n=m:=by omega
     have aA:=hid (show R=M.reverse.map (·.s) by rw[aS.out,aV.out]);have aB:=hid (show R.length=n by rw[aA.out,aQ,iT,d.out]);have ah:=hid (show wr.ownsRow w7.heap.size 42 2 (.slice Q n T) n (R.flatMap stL) by rw[aA.out];exact af.out);go_wp2;go_ret;refine⟨Q,T,by rw[aB.out];rfl,?_,X.out.trans (s.out.mono X.out.size)⟩;rw[aB.out];have h9:=X.out.size;have h8:=J.out.size;rcases ah.out.2 with⟨e1,e2⟩|⟨g,D,cur,e1,e2,e3⟩
     ·exact⟨ah.out.1,.inl ⟨e1,e2⟩⟩
     ·exact⟨ah.out.1,.inr ⟨g,D,cur,e1,by omega,e3⟩⟩
end
section
open Go.RowKit Go.Lib Go.Sort
def apart (u v:Value):Prop:=∀g,u.ownBlock=some g->v.ownBlock=some g->False
theorem apart.symm {u v:Value} (h:apart u v):apart v u:=λg a b=>h g b a
theorem apart.kept {u v:Value} (h:apart u v):u.ownBlock=none∨u.ownBlock≠v.ownBlock:=by
 cases e:u.ownBlock with
 |none=>exact .inl rfl
 |some g=>exact .inr λa=>h g e a.symm
theorem apart.new {u v:Value} {g n cap N:Nat} (h:apart u v) (hat:u.ownBlock=some g∨g=N) (hv:∀b,v.ownBlock=some b->b<N):apart (.slice (some ⟨g,0,none⟩) n cap) v:=λb e1 e2=>by
 have e1:some g=some b:=e1
 cases e1
 rcases hat with h1|h1
 ·exact h g h1 e2
 ·have:=hv g e2;omega
theorem apart.nil {v:Value}:apart (.slice none 0 0) v:=λg e _=>by cases e
structure OfI (B sb onb kb:Nat) (onA:Option Addr) (ON:List Gst) (ko:Obj) (so sh sl:Value) (w1 wr:World) (va vt vh vl:Value) (na nt nh nl:Nat) (AT:List Gid) (TL:List Plc) (HV LS:List Dt):Prop where
 ea:na=AT.length
 et:nt=TL.length
 eh:nh=HV.length
 el:nl=LS.length
 oa:wr.ownsRow B 108 3 va na (AT.flatMap idL)
 ot:wr.ownsRow B 161 8 vt nt (TL.flatMap plcL)
 oh:wr.ownsRow B 163 5 vh nh (HV.flatMap dtL)
 ol:wr.ownsRow B 163 5 vl nl (LS.flatMap dtL)
 dat:apart va vt
 dah:apart va vh
 dal:apart va vl
 dth:apart vt vh
 dtl:apart vt vl
 dhl:apart vh vl
 st:wr.heap[sb]? =some (.cells #[so,.slice none 0 0,sh,sl,.slice none 0 0] 105 (0,0))
 on:RowF wr (λb=>b=onb) onA 2 stL Gst.zero ON
 ke:wr.heap[kb]? =some ko
 ka:va.ownBlock≠some kb
 kt:vt.ownBlock≠some kb
 kh:vh.ownBlock≠some kb
 kl:vl.ownBlock≠some kb
 ks:kb≠sb
 bl:Below w1.heap.size w1 wr
 sz:B<=wr.heap.size
 s1:w1.heap.size<=sb
 s2:sb<B
 o1:onb<B
 o2:onb≠sb
section
variable {B sb onb kb : Nat} {onA : Option Addr} {ON : List Gst} {ko : Obj} {so sh sl : Value} {w1 wr w' : World} {va vt vh vl : Value} {na nt nh nl : Nat} {AT : List Gid} {TL : List Plc} {HV LS : List Dt}
theorem ge_none {u:Value} {r:Option Nat} (h:r=none):u.ownBlock=none∨u.ownBlock≠r:=by
 cases e:u.ownBlock with
 |none=>exact .inl rfl
 |some g=>rw[h];exact .inr (by simp)
theorem OfI.below (h:OfI B sb onb kb onA ON ko so sh sl w1 wr va vt vh vl na nt nh nl AT TL HV LS) (hB:Below wr.heap.size wr w'):OfI B sb onb kb onA ON ko so sh sl w1 w' va vt vh vl na nt nh nl AT TL HV LS:=by
 have a:wr.grownBy w' none:=dg hB;refine⟨h.ea,h.et,h.eh,h.el,h.oa.kept a (ge_none rfl),h.ot.kept a (ge_none rfl),h.oh.kept a (ge_none rfl),h.ol.kept a (ge_none rfl),h.dat,h.dah,h.dal,h.dth,h.dtl,h.dhl,(hB.block _ (lt_of_block h.st)).trans h.st,h.on.below hB,(hB.block _ (lt_of_block h.ke)).trans h.ke,h.ka,h.kt,h.kh,h.kl,h.ks,h.bl.trans (hB.mono (aL h.s1 (Nat.le_of_lt (lt_of_block h.st)))),aL h.sz hB.size,h.s1,h.s2,h.o1,h.o2⟩
theorem OfI.newk (h:OfI B sb onb kb onA ON ko so sh sl w1 wr va vt vh vl na nt nh nl AT TL HV LS) (o:Obj):OfI B sb onb wr.heap.size onA ON o so sh sl w1 (wr.alloc o) va vt vh vl na nt nh nl AT TL HV LS:=by
 have k:=h.below ((ag _ _).alloc (aa _) o);exact⟨k.ea,k.et,k.eh,k.el,k.oa,k.ot,k.oh,k.ol,k.dat,k.dah,k.dal,k.dth,k.dtl,k.dhl,k.st,k.on,am wr o,λe=>by have:=(h.oa.lt _ e).2;omega,λe=>by have:=(h.ot.lt _ e).2;omega,λe=>by have:=(h.oh.lt _ e).2;omega,λe=>by have:=(h.ol.lt _ e).2;omega,λe=>by have:=lt_of_block h.st;omega,k.bl,k.sz,k.s1,k.s2,k.o1,k.o2⟩
theorem OfI.core (h:OfI B sb onb kb onA ON ko so sh sl w1 wr va vt vh vl na nt nh nl AT TL HV LS) {u:Value} (hu:∀g,u.ownBlock=some g->B<=g) (hk:u.ownBlock≠some kb) (hg:wr.grownBy w' u.ownBlock):
  w'.heap[sb]? =some (.cells #[so,.slice none 0 0,sh,sl,.slice none 0 0] 105 (0,0))∧RowF w' (λb=>b=onb) onA 2 stL Gst.zero ON∧w'.heap[kb]? =some ko∧Below w1.heap.size w1 w'∧B<=w'.heap.size:=by
 refine⟨(hg.block sb (lt_of_block h.st) (λe=>by have:=hu sb e.symm;have:=h.s2;omega)).trans h.st,h.on.agr (Agr.grown hg λg c a=> ?_),(hg.block kb (lt_of_block h.ke) (λe=>hk e.symm)).trans h.ke,h.bl.grown hg h.bl.size (λb e=> ?_),aL h.sz hg.size⟩
 ·have a:g=onb:=a;have:=hu g c;have:=h.o1;omega
 ·have:=hu b e;have:=h.s1;have:=h.s2;omega
theorem new_ne {u:Value} {g n cap N P:Nat} (h:u.ownBlock≠some P) (hat:u.ownBlock=some g∨g=N) (hP:P<N):(Value.slice (some ⟨g,0,none⟩) n cap).ownBlock≠some P:=λe=>by
 have e:some g=some P:=e
 cases e
 rcases hat with h1|h1
 ·exact h h1
 ·omega
theorem OfI.app_a (h:OfI B sb onb kb onA ON ko so sh sl w1 wr va vt vh vl na nt nh nl AT TL HV LS) {g cap:Nat} (x:Gid) (ho:w'.ownsRow B 108 3 (.slice (some ⟨g,0,none⟩) (na+1) cap) (na+1) (AT.flatMap idL++idL x)) (hg:wr.grownBy w' va.ownBlock) (hat:va.ownBlock=some g∨g=wr.heap.size):
  OfI B sb onb kb onA ON ko so sh sl w1 w' (.slice (some ⟨g,0,none⟩) (na+1) cap) vt vh vl (na+1) nt nh nl (AT++[x]) TL HV LS:=by
 obtain⟨a,c,d,f,i⟩:=h.core (λb e=>(h.oa.lt b e).1) h.ka hg
 exact⟨by rw[al,<-h.ea];rfl,h.et,h.eh,h.el,by rw[aI];simpa using ho,h.ot.kept hg h.dat.symm.kept,h.oh.kept hg h.dah.symm.kept,h.ol.kept hg h.dal.symm.kept,
  h.dat.new hat (λb e=>(h.ot.lt b e).2),h.dah.new hat (λb e=>(h.oh.lt b e).2),h.dal.new hat (λb e=>(h.ol.lt b e).2),h.dth,h.dtl,h.dhl,a,c,d,new_ne h.ka hat (lt_of_block h.ke),h.kt,h.kh,h.kl,h.ks,f,i,h.s1,h.s2,h.o1,h.o2⟩
theorem OfI.app_t (h:OfI B sb onb kb onA ON ko so sh sl w1 wr va vt vh vl na nt nh nl AT TL HV LS) {g cap:Nat} (x:Plc) (ho:w'.ownsRow B 161 8 (.slice (some ⟨g,0,none⟩) (nt+1) cap) (nt+1) (TL.flatMap plcL++plcL x)) (hg:wr.grownBy w' vt.ownBlock) (hat:vt.ownBlock=some g∨g=wr.heap.size):
  OfI B sb onb kb onA ON ko so sh sl w1 w' va (.slice (some ⟨g,0,none⟩) (nt+1) cap) vh vl na (nt+1) nh nl AT (TL++[x]) HV LS:=by
 obtain⟨a,c,d,f,i⟩:=h.core (λb e=>(h.ot.lt b e).1) h.kt hg
 exact⟨h.ea,by rw[al,<-h.et];rfl,h.eh,h.el,h.oa.kept hg h.dat.kept,by rw[aI];simpa using ho,h.oh.kept hg h.dth.symm.kept,h.ol.kept hg h.dtl.symm.kept,
  (h.dat.symm.new hat (λb e=>(h.oa.lt b e).2)).symm,h.dah,h.dal,h.dth.new hat (λb e=>(h.oh.lt b e).2),h.dtl.new hat (λb e=>(h.ol.lt b e).2),h.dhl,a,c,d,h.ka,new_ne h.kt hat (lt_of_block h.ke),h.kh,h.kl,h.ks,f,i,h.s1,h.s2,h.o1,h.o2⟩
theorem OfI.app_h (h:OfI B sb onb kb onA ON ko so sh sl w1 wr va vt vh vl na nt nh nl AT TL HV LS) {g cap:Nat} (x:Dt) (ho:w'.ownsRow B 163 5 (.slice (some ⟨g,0,none⟩) (nh+1) cap) (nh+1) (HV.flatMap dtL++dtL x)) (hg:wr.grownBy w' vh.ownBlock) (hat:vh.ownBlock=some g∨g=wr.heap.size):
  OfI B sb onb kb onA ON ko so sh sl w1 w' va vt (.slice (some ⟨g,0,none⟩) (nh+1) cap) vl na nt (nh+1) nl AT TL (HV++[x]) LS:=by
 obtain⟨a,c,d,f,i⟩:=h.core (λb e=>(h.oh.lt b e).1) h.kh hg
 exact⟨h.ea,h.et,by rw[al,<-h.eh];rfl,h.el,h.oa.kept hg h.dah.kept,h.ot.kept hg h.dth.kept,by rw[aI];simpa using ho,h.ol.kept hg h.dhl.symm.kept,
  h.dat,(h.dah.symm.new hat (λb e=>(h.oa.lt b e).2)).symm,h.dal,(h.dth.symm.new hat (λb e=>(h.ot.lt b e).2)).symm,h.dtl,h.dhl.new hat (λb e=>(h.ol.lt b e).2),a,c,d,h.ka,h.kt,new_ne h.kh hat (lt_of_block h.ke),h.kl,h.ks,f,i,h.s1,h.s2,h.o1,h.o2⟩
theorem OfI.app_l (h:OfI B sb onb kb onA ON ko so sh sl w1 wr va vt vh vl na nt nh nl AT TL HV LS) {g cap:Nat} (x:Dt) (ho:w'.ownsRow B 163 5 (.slice (some ⟨g,0,none⟩) (nl+1) cap) (nl+1) (LS.flatMap dtL++dtL x)) (hg:wr.grownBy w' vl.ownBlock) (hat:vl.ownBlock=some g∨g=wr.heap.size):
  OfI B sb onb kb onA ON ko so sh sl w1 w' va vt vh (.slice (some ⟨g,0,none⟩) (nl+1) cap) na nt nh (nl+1) AT TL HV (LS++[x]):=by
 obtain⟨a,c,d,f,i⟩:=h.core (λb e=>(h.ol.lt b e).1) h.kl hg
 exact⟨h.ea,h.et,h.eh,by rw[al,<-h.el];rfl,h.oa.kept hg h.dal.kept,h.ot.kept hg h.dtl.kept,h.oh.kept hg h.dhl.kept,by rw[aI];simpa using ho,
  h.dat,h.dah,(h.dal.symm.new hat (λb e=>(h.oa.lt b e).2)).symm,h.dth,(h.dtl.symm.new hat (λb e=>(h.ot.lt b e).2)).symm,(h.dhl.symm.new hat (λb e=>(h.oh.lt b e).2)).symm,a,c,d,h.ka,h.kt,h.kh,new_ne h.kl hat (lt_of_block h.ke),h.ks,f,i,h.s1,h.s2,h.o1,h.o2⟩
theorem OfI.put (h:OfI B sb onb kb onA ON ko so sh sl w1 wr va vt vh vl na nt nh nl AT TL HV LS) (i:Nat) (v:Value) {so' sh' sl':Value} (hc:(#[so,.slice none 0 0,sh,sl,.slice none 0 0]:Array Value).setIfInBounds i v=#[so',.slice none 0 0,sh',sl',.slice none 0 0]):
  OfI B sb onb kb onA ON ko so' sh' sl' w1 (wr.setCell ⟨sb,i,none⟩ v) va vt vh vl na nt nh nl AT TL HV LS:=by
 have a:=eF (w:=wr) sb i v;have c:∀{u:Value} {E s n:Nat} {xs:List Value},wr.ownsRow B E s u n xs->u.ownBlock=none∨u.ownBlock≠some sb:=λd=> .inr λe=>by have:=(d.lt _ e).1;have:=h.s2;omega
 exact⟨h.ea,h.et,h.eh,h.el,h.oa.kept a (c h.oa),h.ot.kept a (c h.ot),h.oh.kept a (c h.oh),h.ol.kept a (c h.ol),h.dat,h.dah,h.dal,h.dth,h.dtl,h.dhl,gI h.st i v hc,
  h.on.agr (Agr.grown a λg f j=>by cases f;exact h.o2 (show sb=onb from j).symm),(a.block kb (lt_of_block h.ke) (λe=>by cases e;exact h.ks rfl)).trans h.ke,h.ka,h.kt,h.kh,h.kl,h.ks,h.bl.grown a h.bl.size (λb e=>by cases e;exact h.s1),aL h.sz a.size,h.s1,h.s2,h.o1,h.o2⟩
end
def oAt (b:Bool) (s:Gst) (ops:List Gop) (i:Nat):List Gid:=if ((decide ((ops.getD i (opO 0 .zero)).kind=0)) || (decide ((ops.getD i (opO 0 .zero)).kind=1) && b))=true then [⟨s,(i:Int)⟩] else []
def oTl (b:Bool) (ops:List Gop) (i:Nat):List Plc:=if ((decide ((ops.getD i (opO 0 .zero)).kind=0)) || (decide ((ops.getD i (opO 0 .zero)).kind=1) && b))=true then [⟨(ops.getD i (opO 0 .zero)).node,(ops.getD i (opO 0 .zero)).parent,(ops.getD i (opO 0 .zero)).name,(ops.getD i (opO 0 .zero)).dir⟩] else []
def oHv (b:Bool) (s:Gst) (ops:List Gop) (i:Nat):List Dt:=if (b && !(decide ((ops.getD i (opO 0 .zero)).kind=2)))=true then [⟨(ops.getD i (opO 0 .zero)).node,s⟩] else []
def oLs (b:Bool) (ops:List Gop) (i:Nat):List Dt:=if b=true then (ops.getD i (opO 0 .zero)).dots.map (λd=>⟨(ops.getD i (opO 0 .zero)).node,d⟩) else []
def upto {α:Type} (f:Nat->List α) (n:Nat):List α:=(List.range n).flatMap f
theorem fg {α:Type} (f:Nat->List α) (n:Nat):upto f (n+1)=upto f n++f n:=by
 unfold upto;rw[List.range_succ,aI];simp
def onB (ON:List Gst) (s:Gst):Bool:=ON.any (λy=>y.eqb s)
def gAt (ON:List Gst) (L:List (Grp×GrX)) (k:Nat):List Gid:=upto (oAt (onB ON (L.getD k gp0).1.s) (L.getD k gp0).1.s (L.getD k gp0).1.ops) (L.getD k gp0).1.ops.length
def gTl (ON:List Gst) (L:List (Grp×GrX)) (k:Nat):List Plc:=upto (oTl (onB ON (L.getD k gp0).1.s) (L.getD k gp0).1.ops) (L.getD k gp0).1.ops.length
def gHv (ON:List Gst) (L:List (Grp×GrX)) (k:Nat):List Dt:=upto (oHv (onB ON (L.getD k gp0).1.s) (L.getD k gp0).1.s (L.getD k gp0).1.ops) (L.getD k gp0).1.ops.length
def gLs (ON:List Gst) (L:List (Grp×GrX)) (k:Nat):List Dt:=upto (oLs (onB ON (L.getD k gp0).1.s) (L.getD k gp0).1.ops) (L.getD k gp0).1.ops.length
def onG (L:List (Grp×GrX)):List Gst:=onS (L.map hdOf)
def jL (L:List (Grp×GrX)):List Dt:=upto (gHv (onG L) L) L.length
def jK (L:List (Grp×GrX)):List Dt:=upto (gLs (onG L) L) L.length
end
end Go.Proofs.YtkhmicndehlneaaGreatDoor
