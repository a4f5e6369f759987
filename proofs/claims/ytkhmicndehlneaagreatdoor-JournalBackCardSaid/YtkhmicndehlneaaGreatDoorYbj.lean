/- Part 10 of the walks and plain laws that this claim uses, joined. Conditions: as each theorem states. -/
import Derived.Lib.VarintBits
import Derived.Lib.Zigzag
import Derived.OwnWalk
import Derived.Test.YtkhmicndehlneaaGreatDoorYbi
namespace Go.Proofs.YtkhmicndehlneaaGreatDoor
set_option maxRecDepth 100000
set_option maxHeartbeats 16000000
set_option linter.unusedVariables false
section
open Go.RowKit Go.Lib Go.Sort
attribute [local go_sem ↓] Go.wp_at_zero Go.wp_at_succ
theorem vop_any (gt gr:Int) (n':Int) (dA':Option Addr) (dn' dc':Nat) (ut ur:Int) (oA:Option Addr) (on oc:Nat) (k:Nat) (o:Gop) (x:OpX) (S:Nat->Prop) (w:World) (hI:OpIn w S o x) (ht:o.text.size<=1000000) (hvt:opB ⟨gt,gr⟩ o k=true):
  Calls Tryz.prog 104 #[.agg #[gt,gr,n',.slice dA' dn' dc',ut,ur,.slice oA on oc],.agg (opA o x),.int .i64 k] w λe w'=>e= .returned (.int .i64 (fW ⟨gt,gr⟩ o k))∧Below w.heap.size w w':=by
 have hvt:(de ⟨gt,gr⟩ o k && cr o)=true:=by rw[Bool.and_comm];exact hvt
 obtain⟨b,⟨⟨l,n⟩,p⟩,⟨⟨q,r⟩,s⟩,c,h,d,⟨⟨i,t⟩,u⟩,⟨⟨v,y⟩,z⟩,text,a⟩:=o;obtain⟨A,B,C,D⟩:=x;have E:=aL hI.dle hI.dmax;have F:=aL hI.ele hI.emax;have G:=hI.name;have f:=hI.dots;have g:=hI.elems;simp only[maxLen] at E F G f g ht;by_cases H:b=0
 ·subst H;exact vop_0 gt gr n' dA' dn' dc' ut ur oA on oc k l n p q r s c h d i t u v y z text a A B C D S w (by omega) (by omega) (by omega) f g hvt
 by_cases I:b=1
 ·subst I;exact vop_1 gt gr n' dA' dn' dc' ut ur oA on oc k l n p q r s c h d i t u v y z text a A B C D S w (by omega) (by omega) (by omega) f g hvt
 by_cases J:b=2
 ·subst J;exact vop_2 gt gr n' dA' dn' dc' ut ur oA on oc k l n p q r s c h d i t u v y z text a A B C D S w (by omega) (by omega) (by omega) f g hvt
 by_cases K:b=4
 ·subst K;exact vop_4 gt gr n' dA' dn' dc' ut ur oA on oc k l n p q r s c h d i t u v y z text a A B C D S w (by omega) (by omega) (by omega) f g hvt
 by_cases L:b=3
 ·subst L;cases M:cnt text.data.toList with
  |none=>
   exfalso;have j:=(eG.1 hvt).1;unfold de at j;simp only[textB,jj,M] at j;simp at j
  |some m=>exact vop_3s gt gr n' dA' dn' dc' ut ur oA on oc k l n p q r s c h d i t u v y z text a A B C D S w (by omega) (by omega) (by omega) f g ht m M hvt
 exfalso;have j:=(eG.1 hvt).1;unfold de at j;simp[H,I,J,L,K] at j
theorem v9head_parts {t r n:Int} {v:List Int} {ut ur:Int} {ops:List Gop} (h:gC ⟨⟨t,r⟩,n,v,⟨ut,ur⟩,ops⟩=true):Gst.right ⟨t,r⟩=true∧1<=n∧n<=1099511627776∧vecB v=true∧atV v r=n-1:=by
 simp only[gC,ap,ak] at h;exact⟨h.1.1.1.1,h.1.1.1.2,h.1.1.2,h.1.2,h.2⟩
theorem vchk_undo (t r n:Int) (v:List Int) (ut ur:Int) (ops:List Gop) (dA:Option Addr) (dc:Nat) (oA:Option Addr) (oc:Nat) (w:World) (hl:v.length<=dc) (hc:dc<=9223372036854775807) (hn:i63 n) (hD:VecR w dA v) (hh:gC ⟨⟨t,r⟩,n,v,⟨ut,ur⟩,ops⟩=true) (hu:Gst.eqb ⟨ut,ur⟩ ⟨0,0⟩=false) (z:Int) (hz:z=if (Gst.right ⟨ut,ur⟩ && Gst.lt ⟨ut,ur⟩ ⟨t,r⟩ && decide (ops.length=0))=true then 0 else 80) (hvz:z≠80):
  Calls Tryz.prog 54 #[.agg #[t,r,n,.slice dA v.length dc,ut,ur,.slice oA ops.length oc]] w λe w'=>e= .returned (.int .i64 z)∧Below w.heap.size w w':=by
 have j:=hid hz;have g:=hid hvz;clear hvz;clear hz;obtain⟨D,L,M,E,F⟩:=v9head_parts hh;have u:=hn;unfold i63 at u;obtain⟨W,k⟩:∃W,W=w.alloc (.cells #[t,r,n,.slice dA v.length dc,ut,ur,.slice oA ops.length oc] 45):=⟨_,rfl⟩;have h:Below w.heap.size w W:=by subst k;exact(ag _ _).alloc (aa _) _
 have i:=hD.below h;have f:W.heap[w.heap.size]? =some (.cells #[t,r,n,.slice dA v.length dc,ut,ur,.slice oA ops.length oc] 45 (0,0)):=by subst k;exact am _ _
 have G:=rg0 f;have H:=rg1 f;have N:=rg2 f;have O:=rg3 f;have l:=λd b=>ay (gw t r (grow (redrawn W d) b));have m:=λd b=>ay (refvector_any dA dc v (grow (redrawn W d) b) hl (by omega) (i.regrown d b));have o:=λd b=>Calls.regrown_same (fh dA dc v r (grow (redrawn W d) b) (by omega) (i.regrown d b));have I:=hid k;have J:=hid f;have x:=hid h;clear f i k h;rw[D] at l;rw[E] at m;have P:decide (n<1)=false:=aE (by omega);have Q:¬n<1:=by omega
 have R:decide (1099511627776<n)=false:=aE (by omega);have S:¬1099511627776<n:=by omega
 have T:IntKind.i64.wrap (n-1)=n-1:=ds _ (by omega);have U:=hid hD;rw[F] at o;have V:(n-1 == n-1)=true:=beq_self_eq_true _;have X:(n-1 != n-1)=false:=by rw[bne_eq_false_iff_eq]
 have K:=ne_st ut ur 0 0 false hu;clear hh F E D hl hc hn u hD hu L M;go_enter Tryz.func54,Tryz.ntmps54;go_upto_region 1 with fail;rw[<-I.out];refine rqb ?_
 repeat(any_goals(first|go_big_quiet_step (with_reducible first|exact l _ _|exact m _ _|exact o _ _)|quiet_step (with_reducible first|exact l _ _|exact m _ _|exact o _ _)))
 refine qz λA c=> ?_;have a:=bK c J;have y:=bT x c;clear c G H N O l m o P R Q S T V X I J x;have Y:=cw0 a.out;have Z:=cw1 a.out;have r2:=cw2 a.out;have r3:=cw3 a.out;have r4:=cw4 a.out;have r5:=cw5 a.out;have r6:=cw6 a.out;go_upto_region 4 with fail;clear K;have G:=rg0 a.out;have H:=rg1 a.out;have x4:=rg4 a.out;have x5:=rg5 a.out;have x6:=rg6 a.out;have B:=λd b=>ay (gw ut ur (grow (redrawn A d) b));have C:=λd b=>ay (eN ut ur t r (grow (redrawn A d) b));clear Y Z r2 r3 r4 r5 r6 a U;cases p:Gst.right ⟨ut,ur⟩ with
 |false=>
  obtain rfl:z=80:=by rw[j.out,p];simp
  exact absurd rfl g.out
 |true=>
 have HU:=hid p;rw[p] at B;clear p;cases q:Gst.lt ⟨ut,ur⟩ ⟨t,r⟩ with
 |false=>
  obtain rfl:z=80:=by rw[j.out,q];simp
  exact absurd rfl g.out
 |true=>
 have HL:=hid q;rw[q] at C;clear q;by_cases s:ops.length=0
 ·obtain rfl:z=0:=by rw[j.out,HU.out,HL.out,s];simp
  have e1:ops=[]:=bR s;subst e1;clear s;refine bF ?_
  repeat(any_goals(first|go_big_quiet_step (with_reducible first|exact B _ _|exact C _ _)|quiet_step (with_reducible first|exact B _ _|exact C _ _)))
  refine qz λA c=> ?_;go_wp2;go_ret;exact⟨rfl,y.out.trans (c.mono y.out.size)⟩
 ·obtain rfl:z=80:=by rw[j.out,aE s];simp
  exact absurd rfl g.out
theorem v9refV_opB {g:Gst} {o:Gop} {k:Nat} (b:Bool) (h:b=opB g o k):fW g o k=if b=true then (eR o:Int) else -1:=by
 unfold fW;rw[h];unfold opB;rw[Bool.and_comm]
theorem vchk_ops (t r n:Int) (v:List Int) (ut ur:Int) (ops:List Gop) (dA:Option Addr) (dc:Nat) (oA:Option Addr) (oc:Nat) (w:World) (hl:v.length<=dc) (hc:dc<=9223372036854775807) (hn:i63 n) (hD:VecR w dA v) (hh:gC ⟨⟨t,r⟩,n,v,⟨ut,ur⟩,ops⟩=true) (hu:Gst.eqb ⟨ut,ur⟩ ⟨0,0⟩=true) (h1:1<=ops.length) (h2:ops.length<=200) (S:Nat->Prop) (hO:OpsS w S oA ops) (hTx:∀o∈ops,o.text.size<=1000000) (z:Int) (hz:z=if opsB ⟨t,r⟩ ops 0=true then 0 else 80) (hvz:z≠80):
  Calls Tryz.prog 54 #[.agg #[t,r,n,.slice dA v.length dc,ut,ur,.slice oA ops.length oc]] w λe w'=>e= .returned (.int .i64 z)∧Below w.heap.size w w':=by
 have HO:=hid hO;have aj:=hid hTx;have HZ:=hid hz;have U:=hid hvz;clear hvz;have E:=hid h1;have N:=hid h2;clear hO hTx hz h1 h2;obtain⟨hR,h1,h2,hV,h3⟩:=v9head_parts hh;have V:=hn;unfold i63 at V;obtain⟨W,O⟩:∃W,W=w.alloc (.cells #[t,r,n,.slice dA v.length dc,ut,ur,.slice oA ops.length oc] 45):=⟨_,rfl⟩;have F:Below w.heap.size w W:=by subst O;exact(ag _ _).alloc (aa _) _
 have G:=hD.below F;have C:W.heap[w.heap.size]? =some (.cells #[t,r,n,.slice dA v.length dc,ut,ur,.slice oA ops.length oc] 45 (0,0)):=by subst O;exact am _ _
 have x0:=rg0 C;have x1:=rg1 C;have x2:=rg2 C;have x3:=rg3 C;have P:=λd p=>ay (gw t r (grow (redrawn W d) p));have Q:=λd p=>ay (refvector_any dA dc v (grow (redrawn W d) p) hl (by omega) (G.regrown d p));have R:=λd p=>Calls.regrown_same (fh dA dc v r (grow (redrawn W d) p) (by omega) (G.regrown d p));have HW:=hid O;have HA:=hid C;have Y:=hid F;clear C G O F;rw[hR] at P;rw[hV] at Q;have t1:decide (n<1)=false:=aE (by omega);have s1:¬n<1:=by omega
 have t2:decide (1099511627776<n)=false:=aE (by omega);have s2:¬1099511627776<n:=by omega
 have hw:IntKind.i64.wrap (n-1)=n-1:=ds _ (by omega);have HD:=hid hD;rw[h3] at R;have t3:(n-1 == n-1)=true:=beq_self_eq_true _;have t4:(n-1 != n-1)=false:=by rw[bne_eq_false_iff_eq]
 have al:=ne_st ut ur 0 0 true hu;clear hh h3 hV hR hl hc hn V hD hu h1 h2;go_enter Tryz.func54,Tryz.ntmps54;go_upto_region 1 with fail;rw[<-HW.out];refine rqb ?_
 repeat(any_goals(first|go_big_quiet_step (with_reducible first|exact P _ _|exact Q _ _|exact R _ _)|quiet_step (with_reducible first|exact P _ _|exact Q _ _|exact R _ _)))
 refine qz λwq f=> ?_;have c:=bK f HA;have an:=bT Y f;clear f x0 x1 x2 x3 P Q R t1 t2 s1 s2 hw t3 t4 HW HA Y;have r0:=cw0 c.out;have r1:=cw1 c.out;have r2:=cw2 c.out;have r3:=cw3 c.out;have r4:=cw4 c.out;have r5:=cw5 c.out;have r6:=cw6 c.out;have b1:decide (ops.length<1)=false:=by rw[aU];have:=E.out;omega
 have b2:¬(ops.length:Int)<1:=by have:=E.out;omega
 have b3:decide (200<ops.length)=false:=by rw[aU];have:=N.out;omega
 have b4:¬200<(ops.length:Int):=by have:=N.out;omega
 have b5:decide (ops.length=0)=false:=by rw[aU];have:=E.out;omega
 have b6:decide (0<ops.length)=true:=by rw[ak];have:=E.out;omega
 have b7:¬ops=[]:=by intro e;have:=E.out;rw[e] at this;simp at this
 go_upto_region 11 with(fail);clear b1 b2 b3 b4 b5 b6 b7 al;go_loopw [3,4] (λk i wr=>∃j a:Nat,j<=ops.length∧i= .int .i64 j∧k= .int .i64 a∧a<=2000*j∧Hid (opsB ⟨t,r⟩ ops 0=opsB ⟨t,r⟩ (ops.drop j) a)∧Hid (Below w.heap.size w wr)∧Hid (wr.heap[w.heap.size]? =some (.cells #[t,r,n,.slice dA v.length dc,ut,ur,.slice oA ops.length oc] 45 (0,0)))) (λ_ i _=>ops.length-(RowKit.intOf i).toNat)
 case atStart=>exact⟨0,0,by omega,rfl,rfl,by omega,hid rfl,an,c⟩
 case round=>
  clear r0 r1 r2 r3 r4 r5 r6;obtain⟨j,a,hj,rfl,rfl,aw,T,H,b⟩:=hrel;have r6:=cw6 b.out;by_cases s:j<ops.length
  ·have ao:(j:Int)<(ops.length:Int):=by omega
   have ax:decide ((j:Int)<(ops.length:Int))=true:=aN ao;go_upto_region 13 with fail;obtain⟨X,Z,ab⟩:=OpsS.agr HO.out (Agr.below H.out);obtain⟨ob,oo,rfl,hS,aA,hc⟩:=Z j s;have y:=ab j s;obtain⟨o,I⟩:∃o,o=ops.getD j (opO 0 .zero):=⟨_,rfl⟩;obtain⟨x,hx⟩:∃x,x=X j:=⟨_,rfl⟩;rw[<-I] at y;simp only[<-I,<-hx] at y hc;have ac:o.text.size<=1000000:=aj.out o (by rw[I];simp[List.getD,s]);have J:=hid (show opsB ⟨t,r⟩ (ops.drop j) a=(opB ⟨t,r⟩ o a && opsB ⟨t,r⟩ (ops.drop (j+1)) (a+eR o)) by rw[I];exact opsB_step (g:=⟨t,r⟩) (k:=a) s (opO 0 .zero));have K:=λh=>more_le (g:=⟨t,r⟩) (o:=o) (k:=a) h;obtain⟨bb,A⟩:∃m,m=opB ⟨t,r⟩ o a:=⟨_,rfl⟩;have ad:opB ⟨t,r⟩ o a=true:=by
    have h8:opsB ⟨t,r⟩ ops 0=true:=by
     cases h7:opsB ⟨t,r⟩ ops 0 with
     |true=>rfl
     |false=>exact absurd (by rw[HZ.out,h7];rfl) U.out
    have h9:=J.out;rw[<-T.out,h8] at h9;exact(eG.1 h9.symm).1
   have q:=λd p=>ay (vop_any t r n dA v.length dc ut ur (some ⟨ob,oo,none⟩) ops.length oc a o x S (grow (redrawn wr d) p) (y.agr (Agr.below (bE wr d p))) ac ad);rw[v9refV_opB bb A] at q;obtain⟨D,u⟩:∃m,m=eR o:=⟨_,rfl⟩;simp only[<-u,<-A] at q K;have L:Hid (opsB ⟨t,r⟩ (ops.drop j) a=(bb && opsB ⟨t,r⟩ (ops.drop (j+1)) (a+D))):=hid (by rw[A,u];exact J.out);have ae:=hid (eT (jw hc));obtain⟨M,B⟩:∃l,l=opL o x:=⟨_,rfl⟩;rw[<-B] at ae;have ap:=hid (show(Tryz.prog.info? 125).map (·.size)=some M.length by rw[B];kernel_rfl);clear ad J u A I hx y ac Z ab hc r6;have af:=hid K;clear K;have aq:=hid (show(.agg M.toArray:Value)= .agg (opA o x) by rw[B];rfl);clear B;have x0:=rg0 b.out;have x1:=rg1 b.out;have x2:=rg2 b.out;have x3:=rg3 b.out;have x4:=rg4 b.out;have x5:=rg5 b.out;have x6:=rg6 b.out;have aB:IntKind.i64.wrap ((j:Int)+1)=(j:Int)+1:=ds _ (by have:=N.out;omega);have aC:j<ops.length:=s;cases bb with
   |false=>
    obtain rfl:z=80:=by rw[HZ.out,T.out,L.out];rfl
    exact absurd rfl U.out
   |true=>
    simp only[fy] at q;have aD:IntKind.i64.wrap ((a:Int)+(D:Int))=(a:Int)+(D:Int):=ds _ (by have:=N.out;have:=af.out rfl;omega);have m1:¬(D:Int)<0:=by omega
    have m2:decide ((D:Int)<0)=false:=aE m1;refine rqb ?_
    repeat(any_goals(first|(refine eI rfl _ _ rfl ob (oo+j*18) rfl M _ ae.out az rfl ap.out ?_;rw[aq.out])|go_big_quiet_step (with_reducible exact q _ _)|quiet_step (with_reducible exact q _ _)))
    refine wpQuiet_nil ?_;intro _ ar;obtain⟨⟨dq,ah⟩,ai⟩:=ar;subst ai;have f:=bE wr dq ah;generalize grow (redrawn wr dq) ah=aF at *;have au:=bK f b;have av:=bT H f;clear f q x0 x1 x2 x3 x4 x5 x6;go_wp2;go_roundw
    case rel=>exact⟨j+1,a+D,by omega,by go_num,by go_num,by have:=af.out rfl;omega,hid (by rw[T.out,L.out];rfl),av,au⟩
    case measure=>simp[RowKit.intOf];omega
  ·obtain rfl:j=ops.length:=by omega
   obtain rfl:z=0:=by rw[HZ.out,T.out,List.drop_length];rfl
   go_wp2;go_ret;exact⟨rfl,H.out⟩
theorem vchk_any (g:Grp) (dA:Option Addr) (dc:Nat) (oA:Option Addr) (oc:Nat) (S:Nat->Prop) (w:World) (hI:GrIn w S g dA dc oA oc) (hTx:g.ops.length<=200->∀o∈g.ops,o.text.size<=1000000) (hck:chkB g=true):
  Calls Tryz.prog 54 #[.agg (grA g dA dc oA oc)] w λe w'=>e= .returned (.int .i64 (if chkB g=true then 0 else 80))∧Below w.heap.size w w':=by
 obtain⟨⟨t,r⟩,n,v,⟨b,c⟩,ops⟩:=g;have f:=hI.dle;have j:dc<=9223372036854775807:=by have:=hI.dmax;simp only[maxLen] at this;omega
 have h:=hI.nin;have i:=hI.deps.vec;simp only at f h i hTx;rw[hck,aJ rfl];have a:=hck;simp only[chkB,ap] at a;obtain⟨k,a⟩:=a;cases d:Gst.eqb ⟨b,c⟩ ⟨0,0⟩ with
 |false=>
  refine vchk_undo t r n v b c ops dA dc oA oc w f j h i k d 0 ?_ (by decide);rw[aC (by rw[show Gst.eqb ⟨b,c⟩ .zero=false from d];decide)] at a;rw[aJ a]
 |true=>
  rw[aJ (show Gst.eqb ⟨b,c⟩ .zero=true from d)] at a;simp only[ap,ak] at a;refine vchk_ops t r n v b c ops dA dc oA oc w f j h i k d a.1.1 a.1.2 S hI.ops (hTx a.1.2) 0 ?_ (by decide);rw[aJ a.2]
end
section
section
open Go.RowKit Go.Lib Go.Sort
attribute [local go_sem ↓] Go.wp_at_zero Go.wp_at_succ
def firstO:Gop:={ opO 0 ⟨⟨1,1⟩,0⟩ with name:=⟨#[97]⟩,dir:=true }
def firstG:Grp:=⟨⟨1,1⟩,1,[],⟨0,0⟩,[firstO]⟩
theorem first_in (w:World) (g:Nat) (B:Nat) (hB:B<=g) (h:w.heap[g]? =some (.cells #[(0:Int),(1:Int),(1:Int),(0:Int),(0:Int),(0:Int),(0:Int),.string ⟨#[97]⟩,true,.slice none 0 0,(0:Int),(0:Int),(0:Int),(0:Int),(0:Int),(0:Int),.string ⟨#[]⟩,.slice none 0 0] 125 (0,0))):
  GrIn w (λk=>B<=k) firstG none 0 (some ⟨g,0,none⟩) 1:=by
 refine⟨RowG.zero,⟨λ_=>⟨none,0,none,0⟩,?_,?_⟩,aa _,aa _,aq _,by decide,⟨by decide,by decide⟩,λx d=>(by cases d)⟩
 ·intro k a;obtain rfl:k=0:=by have:k<1:=a;omega
  have f:g<w.heap.size:=by
   rcases cj g w.heap.size with b|c
   ·exact b
   ·rw[Array.getElem?_eq_none c] at h;cases h
  refine⟨g,0,rfl,hB,f,λj i=> ?_⟩;have e:(0+0*18+j:Nat)=j:=by omega
  rw[e,aD _ _ _ _ _ _ h]
  match j,i with
  |0,_=>rfl
  |1,_=>rfl
  |2,_=>rfl
  |3,_=>rfl
  |4,_=>rfl
  |5,_=>rfl
  |6,_=>rfl
  |7,_=>rfl
  |8,_=>rfl
  |9,_=>rfl
  |10,_=>rfl
  |11,_=>rfl
  |12,_=>rfl
  |13,_=>rfl
  |14,_=>rfl
  |15,_=>rfl
  |16,_=>rfl
  |17,_=>rfl
  |n+18,h=>exact absurd h (by omega)
 ·intro k a;obtain rfl:k=0:=by have:k<1:=a;omega
  exact⟨RowG.zero,RowG.zero,aa _,aa _,aq _,aq _,by decide,aq _⟩
def FirstQ (w:World) (e:Ending) (w':World):Prop:=∃a,e= .returned (.agg #[(1:Int),(1:Int),(1:Int),.slice none 0 0,(0:Int),(0:Int),.slice (some ⟨a,0,none⟩) 1 1])∧GrIn w' (λk=>w.heap.size<=k) firstG none 0 (some ⟨a,0,none⟩) 1∧Below w.heap.size w w'
theorem firstg_any (w:World):Calls Tryz.prog 42 #[] w (FirstQ w):=by
 go_enter Tryz.func42,Tryz.ntmps42;go_wp2;refine bB (v:= .agg #[(1:Int),(1:Int),(1:Int),.slice none 0 0,(0:Int),(0:Int),.slice (some ⟨w.heap.size+1+1,0,none⟩) 1 1]) (by simp[results,Tryz.results42,go_sem]) rfl ?_;exact⟨w.heap.size+1+1,rfl,first_in _ _ _ (by omega) (bn _ _ (by simp)),(((ag _ _).alloc (aa _) _).alloc (by simp) _).alloc (by simp;omega) _⟩
end
section
open Go.RowKit Go.Lib
theorem ofInt_63 (a:Nat) (ha:a<9223372036854775808):(BitVec.ofInt 64 (a:Int)).toNat=a:=by
 rw[BitVec.ofInt_natCast,BitVec.toNat_ofNat];exact iK (by omega)
theorem or_63 (a b:Nat) (ha:a<9223372036854775808) (hb:b<9223372036854775808):bits .or .i64 (a:Int) (b:Int)=((a ||| b:Nat):Int):=by
 have c:a ||| b<2 ^ 63:=Nat.or_lt_two_pow (by omega) (by omega);show IntKind.i64.wrap ((BitVec.ofInt 64 (a:Int) ||| BitVec.ofInt 64 (b:Int)).toNat:Int)=_;rw[BitVec.toNat_or,ofInt_63 a ha,ofInt_63 b hb,bz];omega
theorem pow_128 (k:Nat):128 ^ k=2 ^ (7*k):=by rw[Nat.pow_mul]
theorem pow_le_56 {k:Nat} (hk:k<=8):128 ^ k<=72057594037927936:=aL (Nat.pow_le_pow_right (by decide) hk) (by decide)
theorem or_digit (acc b k:Nat) (hb:b<128) (hk:k≤8) (ha:acc<128 ^ k):bits .or .i64 (acc:Int) (wrap64 ((b:Int)*2 ^ (7*k)))=((acc+b*128 ^ k:Nat):Int):=by
 have a:=pow_le_56 hk
 have c:b*128 ^ k<9223372036854775808:=by
  calc b*128 ^ k≤127*128 ^ k:=fd _ (by omega)
   _≤127*72057594037927936:=iS _ a
   _<9223372036854775808:=by decide
 have d:(b:Int)*2 ^ (7*k)=((b*128 ^ k:Nat):Int):=by
  rw[Int.natCast_mul,pow_128]
  simp
 have e:wrap64 ((b*128 ^ k:Nat):Int)=((b*128 ^ k:Nat):Int):=IntWalk.wrap64_in _ (by omega)
 rw[d,e,or_63 _ _ (by omega) c]
 congr 1
 rw[Nat.or_comm,Nat.mul_comm,pow_128,←Nat.two_pow_add_eq_or_of_lt (by rw[←pow_128];exact ha)]
 omega
theorem or_step (acc b k:Nat) (hb:b<256) (hk:k<=8) (ha:acc<128 ^ k):
  bits .or .i64 (acc:Int) (wrap64 (wrap64 (bits .and .u8 (b:Int) 127)*2 ^ (7*k)))=((acc+(b % 128)*128 ^ k:Nat):Int):=by
 rw[Go.u8_and127 (b:Int) (by omega) (by omega)];rw[show(b:Int) % 128=((b % 128:Nat):Int) from by omega];rw[show wrap64 ((b % 128:Nat):Int)=((b % 128:Nat):Int) from IntWalk.wrap64_in _ (by omega)];exact or_digit acc (b % 128) k (fv _ (by decide)) hk ha
def tkN (l:List UInt8):Nat:=match Vr.take l with| .ok n _=>n| .err _=>0
def tkR (l:List UInt8):List UInt8:=match Vr.take l with| .ok _ r=>r| .err _=>[]
def tkE (l:List UInt8):Nat:=match Vr.take l with| .ok _ _=>0| .err e=>e
theorem take_step (s:ByteArray) (k:Nat) (h:k<s.size):s.data.toList.drop k=s[k]::s.data.toList.drop (k+1):=by
 rw[iM (by simpa using h)];rfl
theorem tk_ok {l:List UInt8} {n:Nat} {r:List UInt8} (h:Vr.take l= .ok n r):tkN l=n∧tkR l=r∧tkE l=0:=by
 unfold tkN tkR tkE;rw[h];exact⟨rfl,rfl,rfl⟩
theorem tk_err {l:List UInt8} {e:Nat} (h:Vr.take l= .err e):tkN l=0∧tkR l=[]∧tkE l=e:=by
 unfold tkN tkR tkE;rw[h];exact⟨rfl,rfl,rfl⟩
theorem rest_of (s:ByteArray) (k:Nat):s.extract k s.size=⟨(s.data.toList.drop k).toArray⟩:=by
 apply fD;rw[gT];apply eH.1;rw[iw,fS,di (by rw[bI];simp)]
def takeQ (s:ByteArray) (w:World) (e:Ending) (w':World):Prop:=
 e= .returned (.tuple #[.int .i64 (tkN s.data.toList:Nat),.string ⟨(tkR s.data.toList).toArray⟩,.int .i64 (tkE s.data.toList:Nat)])∧∃n,w'=w.drewN n
theorem takeQ_err {s:ByteArray} {w:World} {e:Nat} (h:Vr.take s.data.toList= .err e):
  takeQ s w (.returned (.tuple #[(0:Int),.string ⟨#[]⟩,(e:Int)])) w:=by
 obtain⟨a,b,c⟩:=tk_err h;exact⟨by rw[a,b,c];rfl,0,rfl⟩
theorem takeQ_ok {s:ByteArray} {w:World} {n k nq:Nat} (h:Vr.take s.data.toList= .ok n (s.data.toList.drop k)):
  takeQ s w (.returned (.tuple #[(n:Int),.string (s.extract k s.size),(0:Int)])) (w.drewN nq):=by
 obtain⟨a,b,c⟩:=tk_ok h;exact⟨by rw[a,b,c,rest_of];rfl,nq,rfl⟩
theorem take_any (s:ByteArray) (hs:s.size<=maxLen) (w:World):
  Calls Tryz.prog 78 #[s] w λe w'=>takeQ s w e w':=by
 unfold maxLen at hs;go_enter Tryz.func78,Tryz.ntmps78;go_wp2;go_step3;go_wp2;go_step3;go_wp2;go_loop [2,5] (λn i=>∃k a:Nat,k<=s.size∧k<=8∧i= .int .i64 k∧n= .int .i64 a∧a<128 ^ k∧Hid (Vr.takeF (s.data.toList.drop k) k a=Vr.take s.data.toList)) (λ_ i=>8-(RowKit.intOf i).toNat)
 case atStart=>exact⟨0,0,by omega,by omega,rfl,rfl,by decide,rfl⟩
 case round=>
  obtain⟨k,a,D,o,rfl,rfl,b,f⟩:=hrel;by_cases v:k<s.size
  ·have E:((k:Int) == (s.size:Int))=false:=by rw[aV];omega
   have d:=take_step s k v;by_cases l:s[k].toNat<128
   ·have y:(s[k].toNat:Int)<128:=by omega
    by_cases m:s[k].toNat=0∧0<k
    ·obtain⟨p,q⟩:=m;have t:((s[k].toNat:Int) == 0)=true:=by rw[ce];omega
     have F:(0:Int)<(k:Int):=by omega
     have c:Vr.take s.data.toList= .err 11:=by
      rw[<-f.out,d];simp only[Vr.takeF];rw[aC (by omega),aJ ⟨p,q⟩]
     have g:=hid (@takeQ_err s w 11 c);clear c d p q l b;go_wp2
     try rw[eW]
     go_ret3;exact g.out
    ·have c:Vr.take s.data.toList= .ok (a+s[k].toNat*128 ^ k) (s.data.toList.drop (k+1)):=by
      rw[<-f.out,d];simp only[Vr.takeF];rw[aC (by omega),aC m]
     have h:=or_digit a s[k].toNat k l o b;generalize a+s[k].toNat*128 ^ k=n at *;have g:=hid (λz=>@takeQ_ok s w n (k+1) z c);have u:bits .or .i64 (a:Int) (wrap64 (wrap64 (s[k].toNat:Int)*2 ^ (7*k)))=(n:Int):=by
      rw[show wrap64 (s[k].toNat:Int)=(s[k].toNat:Int) from IntWalk.wrap64_in _ (by omega)];exact h
     have G:(k:Int)+1<=(s.size:Int):=by omega
     have H:IntKind.i64.wrap ((k:Int)+1)=(k:Int)+1:=ds _ (by omega);by_cases r:s[k].toNat=0
     ·obtain rfl:k=0:=by omega
      have t:((s[0].toNat:Int) == 0)=true:=by rw[ce];omega
      have A:bits .or .i64 (a:Int) (s[0].toNat:Int)=(n:Int):=by
       rw[<-h];simp only[Nat.mul_zero,Int.pow_zero,Int.mul_one];rw[show wrap64 (s[0].toNat:Int)=(s[0].toNat:Int) from IntWalk.wrap64_in _ (by omega)]
      clear c d l b m r h u;go_wp2;go_quiet (fail);go_wp2
      try rw[eW]
      go_ret3;exact g.out _
     ·have t:((s[k].toNat:Int) == 0)=false:=by rw[aV];omega
      clear c d l b m r;go_wp2;go_quiet (fail);go_wp2
      try rw[eW]
      go_ret3;exact g.out _
   ·have y:¬(s[k].toNat:Int)<128:=by omega
    by_cases x:k=8
    ·subst x;have c:Vr.take s.data.toList= .err 11:=by
      rw[<-f.out,d];simp only[Vr.takeF];rw[aJ (by omega),aJ True.intro]
     have g:=hid (@takeQ_err s w 11 c);clear c d l b f;go_wp2
     try rw[eW]
     go_ret3;exact g.out
    ·have t:((k:Int) == 8)=false:=by rw[aV];omega
     have c:Vr.takeF (s.data.toList.drop (k+1)) (k+1) (a+(s[k].toNat % 128)*128 ^ k)=Vr.take s.data.toList:=by
      rw[<-f.out,d];simp only[Vr.takeF];rw[aJ (by omega),aC x]
     have h:=or_step a s[k].toNat k (fJ _) o b;have j:a+(s[k].toNat % 128)*128 ^ k<128 ^ (k+1):=by
      rw[Nat.pow_succ];have:(s[k].toNat % 128)*128 ^ k<=127*128 ^ k:=fd _ (by omega);omega
     generalize a+(s[k].toNat % 128)*128 ^ k=n at *;have B:=hid c;have C:=hid j;clear c d l b j f;go_wp2;go_round
     case rel=>exact⟨k+1,n,by omega,by omega,by go_num,rfl,C.out,B⟩
     case measure=>simp[RowKit.intOf];omega
  ·obtain rfl:k=s.size:=by omega
   have c:Vr.take s.data.toList= .err 10:=by
    rw[<-f.out,List.drop_of_length_le (by simp)];rfl
   have g:=hid (@takeQ_err s w 10 c);clear c b f;go_wp2
   try rw[eW]
   go_ret3;exact g.out
def putV (m:Nat):List Value:=(uvarint m).map b8
theorem or_128 (m:Nat):bits .or .u8 ((m:Int) % 256) 128=((m % 128+128:Nat):Int):=by
 rw[Lib.u8_or128_any _ (by omega) (by omega)];omega
theorem byte_big (m:Nat):(Value.int .u8 ((m % 128+128:Nat):Int))=b8 (m % 128+128).toUInt8:=by
 unfold b8;rw[Vr.toNat_big]
theorem byte_small (m:Nat) (h:m<128):(Value.int .u8 (m:Int))=b8 m.toUInt8:=by
 unfold b8;rw[Vr.toNat_small m h]
theorem putV_big {m:Nat} (h:128<=m) (xs:List Value):xs++putV m=(xs++[Value.int .u8 ((m % 128+128:Nat):Int)])++putV (m / 128):=by
 unfold putV;rw[uvarint_big h,byte_big];simp
theorem putV_small {m:Nat} (h:m<128) (xs:List Value):xs++putV m=xs++[Value.int .u8 (m:Int)]:=by
 unfold putV;rw[uvarint_small h,byte_small m h];simp
theorem infoB:(Tryz.prog.info? 5).map (λi=>(i.zero,i.size,i.bytes))=some (some (.int .u8 0),1,1):=by kernel_rfl
theorem cellOne (W:World) (u:Value) (e:TypeId) (j:Nat) (v:Value) (h:[u][j]? =some v):(W.alloc (.cells #[u] e)).cell? ((⟨W.heap.size,0,none⟩:Addr).add j)=some v:=by
 rw[jm];have:=World.cell?_alloc_mark W #[u] e (0,0) j;rw[this];simpa using h
theorem put_any (base:Nat) (v:Value) (n:Nat) (xs:List Value) (m:Nat) (hm:m<9223372036854775808) (hn:n<=100000) (w:World) (hO:w.ownsRow base 5 1 v n xs) (hb:base<=w.heap.size):
  Calls Tryz.prog 122 #[v,.int .u64 m] w λe w'=>∃v' n',e= .returned v'∧w'.ownsRow base 5 1 v' n' (xs++putV m)∧Below base w w':=by
 obtain⟨z,A,l,o,p⟩:=bD infoB;go_enter Tryz.func122,Tryz.ntmps122;go_wp2;go_loopw [0,1] (λv' c wr=>∃j a n':Nat,∃g:List Value,j<=8∧c= .int .u64 a∧Hid (a<128 ^ (9-j))∧a<9223372036854775808∧n'<=n+j∧wr.ownsRow base 5 1 v' n' g∧Hid (g++putV a=xs++putV m)∧Below base w wr) (λ_ c _=>(RowKit.intOf c).toNat)
 case atStart=>exact⟨0,m,n,xs,by omega,rfl,hid (by simpa using hm),hm,by omega,hO,rfl,ag _ _⟩
 case round=>
  obtain⟨j,a,n',g,K,rfl,B,H,I,f,C,q⟩:=hrel;have J:=q.size;clear hO;by_cases D:128<=a
  ·have r:=or_128 a;obtain⟨x,s⟩:∃x,x=a % 128+128:=⟨_,rfl⟩;rw[<-s] at r;have t:Hid ((g++[Value.int .u8 (x:Int)])++putV (a / 128)=xs++putV m):=by
    rw[<-C.out,putV_big D,s];exact rfl
   have E:j<8:=by
    rcases cj j 8 with h|h
    ·exact h
    ·exfalso;obtain rfl:j=8:=by omega
     have:=B.out;simp at this;omega
   have F:Hid (a / 128<128 ^ (9-(j+1))):=by
    have:=B.out;rw[Vr.pow_split j E] at this;exact Nat.div_lt_of_lt_mul this
   clear s;go_wp2_with (at_builtin;refine bu _ rfl _ _ 23 rfl base 5 z (.int .u8 0) 1 1 dD A l o p rfl (by decide) _ _ _ rfl (f.alloc _) ⟨wr.heap.size,0,none⟩ 1 1 [.int .u8 (x:Int)] rfl rfl (cellOne _ _ _) (λu k=>by simp at k;subst k;rfl) (by unfold maxLen;omega) (by omega) (by simp;omega) ?_;intro v' G b d _);go_roundw
   case rel=>exact⟨j+1,a / 128,n'+1,_,by omega,by go_num,F,by omega,by omega,b,t,(q.alloc (by omega) _).grown d (by simp;omega) (λi h=>(f.lt i h).1)⟩
   case measure=>simp[RowKit.intOf];omega
  ·have y:a<128:=by omega
   have t:Hid (g++[Value.int .u8 (a:Int)]=xs++putV m):=by
    rw[<-C.out,putV_small y];exact rfl
   go_wp2_with (at_builtin;refine bu _ rfl _ _ 23 rfl base 5 z (.int .u8 0) 1 1 dD A l o p rfl (by decide) _ _ _ rfl (f.alloc _) ⟨wr.heap.size,0,none⟩ 1 1 [.int .u8 (a:Int)] rfl rfl (cellOne _ _ _) (λu k=>by simp at k;subst k;rfl) (by unfold maxLen;omega) (by omega) (by simp;omega) ?_;intro v' G b d _);go_ret;exact⟨v',n'+1,rfl,by rw[<-t.out];exact b,(q.alloc (by omega) _).grown d (by simp;omega) (λi h=>(f.lt i h).1)⟩
def putS (m:Nat):ByteArray:=⟨(uvarint m).toArray⟩
theorem nil_own (w:World) (base:Nat):w.ownsRow base 5 1 (.slice none 0 0) 0 []:=aF _ _ _ _
theorem nat_ok (n:Int) (h0:0<=n) (h1:n<9223372036854775808) (w:World):
  Calls Tryz.prog 179 #[n] w λe w'=>e= .returned (.tuple #[.string (putS n.toNat),(0:Int)])∧Below w.heap.size w w':=by
 obtain⟨m,rfl⟩:=fm h0;have d:m<9223372036854775808:=by omega
 rw[dL];clear h0 h1;go_enter Tryz.func179,Tryz.ntmps179;go_wp2_with fail;refine(put_any w.heap.size _ 0 [] m d (by omega) _ (nil_own _ _) (aa _)).mono ?_;rintro e b ⟨v,k,rfl,c,f⟩;have a:=conv_own (P:=Tryz.prog) b 23 9 5 w.heap.size v k (uvarint m) dD dS gn c;clear c;have g:(convert 23 9 v).run Tryz.prog b= .ok (.string (putS m)) b:=a;clear a;go_wp2;go_ret2;exact⟨rfl,f⟩
theorem nat_bad (n:Int) (h0:n<0) (w:World):
  Calls Tryz.prog 179 #[n] w λe w'=>e= .returned (.tuple #[.string ⟨#[]⟩,(1:Int)])∧w=w':=by
 go_enter Tryz.func179,Tryz.ntmps179;go_wp2;go_ret2;exact⟨rfl,rfl⟩
theorem tkN_lt (l:List UInt8):tkN l<9223372036854775808:=by
 unfold tkN;cases h:Vr.take l with
 |ok n r=>exact(Vr.take_ok h).2
 |err e=>show 0<9223372036854775808;omega
theorem fI {B:Nat} {a w:World} (h:Below B a w) (n:Nat):Below B a (w.drewN n):=⟨h.os,h.tape,h.output,h.size,h.block⟩
def TkIs (l:List UInt8) (n:Nat) (R:ByteArray) (e:Nat):Prop:=tkN l=n∧(⟨(tkR l).toArray⟩:ByteArray)=R∧tkE l=e
theorem ja (s:ByteArray) (hs:s.size<=maxLen) (n:Nat) (R:ByteArray) (c:Nat) (h:TkIs s.data.toList n R c) (w:World):
  Calls Tryz.prog 78 #[s] w λe w'=>e= .returned (.tuple #[.int .i64 n,R,.int .i64 c])∧∃k,w'=w.drewN k:=by
 obtain⟨rfl,rfl,rfl⟩:=h;exact take_any s hs w
theorem TkIs.lt {l:List UInt8} {n:Nat} {R:ByteArray} {e:Nat} (h:TkIs l n R e):n<9223372036854775808:=by rw[<-h.1];exact tkN_lt l
theorem tkR_le (l:List UInt8):(tkR l).length<=l.length:=by
 unfold tkR;cases h:Vr.take l with
 |ok n r=>have:=(Vr.take_ok h).1;rw[this];simp
 |err e=>simp
theorem TkIs.len {l:List UInt8} {n:Nat} {R:ByteArray} {e:Nat} (h:TkIs l n R e):R.size<=l.length:=by
 rw[<-h.2.1];have:=tkR_le l;simpa[ByteArray.size] using this
theorem putS_size (m:Nat):(putS m).size=(uvarint m).length:=by unfold putS;simp[ByteArray.size]
theorem putS_le (m:Nat) (h:m<18446744073709551616):(putS m).size<=10:=by rw[putS_size];exact uvarint_length64 h
def tbE (n:Nat) (R:ByteArray) (e:Nat):Nat:=if e≠0 then e else if R.size<n then 10 else 0
def tbT (n:Nat) (R:ByteArray) (e:Nat):ByteArray:=if e≠0 then ⟨#[]⟩ else if R.size<n then ⟨#[]⟩ else R.extract 0 n
def tbR (n:Nat) (R:ByteArray) (e:Nat):ByteArray:=if e≠0 then ⟨#[]⟩ else if R.size<n then ⟨#[]⟩ else R.extract n R.size
theorem takebytes_any (s:ByteArray) (hs:s.size<=maxLen) (n:Nat) (R:ByteArray) (c:Nat) (h:TkIs s.data.toList n R c) (w:World):
  Calls Tryz.prog 182 #[s] w λe w'=>e= .returned (.tuple #[.string (tbT n R c),.string (tbR n R c),.int .i64 (tbE n R c:Nat)])∧∃k,w'=w.drewN k:=by
 have o:=h.lt;have H:=hid h;have i:=hid hs;have p:R.size<=9223372036854775807:=by
  have:=h.len;have e:s.data.toList.length=s.size:=by simp
  unfold maxLen at hs;omega
 by_cases a:c=0
 ·have l:((c:Int) != 0)=false:=by rw[a];rfl
  have q:Hid (c=0):=a;by_cases b:R.size<n
  ·have d:tbT n R c=⟨#[]⟩:=by unfold tbT;rw[aC (by omega),aJ b]
   have f:tbR n R c=⟨#[]⟩:=by unfold tbR;rw[aC (by omega),aJ b]
   have g:tbE n R c=10:=by unfold tbE;rw[aC (by omega),aJ b]
   rw[d,f,g];have m:(R.size:Int)<(n:Int):=by omega
   clear h hs a d f g b;go_enter Tryz.func182,Tryz.ntmps182;go_wp2_with fail;refine(ja s i.out n R c H.out _).mono ?_;rintro e j ⟨rfl,k,rfl⟩;go_wp2;go_ret3;exact⟨rfl,k,rfl⟩
  ·have d:tbT n R c=R.extract 0 n:=by unfold tbT;rw[aC (by omega),aC b]
   have f:tbR n R c=R.extract n R.size:=by unfold tbR;rw[aC (by omega),aC b]
   have g:tbE n R c=0:=by unfold tbE;rw[aC (by omega),aC b]
   rw[d,f,g];have m:¬(R.size:Int)<(n:Int):=by omega
   have r:(n:Int)<=(R.size:Int):=by omega
   have t:(0:Int)<=(n:Int):=by omega
   clear h hs a d f g b;go_enter Tryz.func182,Tryz.ntmps182;go_wp2_with fail;refine(ja s i.out n R c H.out _).mono ?_;rintro e j ⟨rfl,k,rfl⟩;go_wp2;go_quiet (fail);go_wp2;go_ret3;exact⟨rfl,_,World.drewN_drewN _ _ _⟩
 ·have l:((c:Int) != 0)=true:=by rw[eM];omega
  have d:tbT n R c=⟨#[]⟩:=by unfold tbT;rw[aJ a]
  have f:tbR n R c=⟨#[]⟩:=by unfold tbR;rw[aJ a]
  have g:tbE n R c=c:=by unfold tbE;rw[aJ a]
  rw[d,f,g];clear h hs a d f g;go_enter Tryz.func182,Tryz.ntmps182;go_wp2_with fail;refine(ja s i.out n R c H.out _).mono ?_;rintro e j ⟨rfl,k,rfl⟩;go_wp2;go_ret3;exact⟨rfl,k,rfl⟩
theorem bytes1_any (t:ByteArray) (hs:t.size<=140737488351232) (w:World):
  Calls Tryz.prog 135 #[t] w λe w'=>e= .returned (.string (putS t.size++t))∧Below w.heap.size w w':=by
 obtain⟨m,a⟩:∃m,m=t.size:=⟨_,rfl⟩;have c:m<9223372036854775808:=by omega
 have g:(putS m).size<=10:=putS_le _ (by omega);rw[<-a];have h:(t.size:Int)=(m:Int):=by rw[a]
 have j:=hid a;clear a;go_enter Tryz.func135,Tryz.ntmps135;go_wp2_with fail;refine(put_any w.heap.size _ 0 [] m c (by omega) _ (nil_own _ _) (aa _)).mono ?_;rintro e b ⟨v,k,rfl,d,f⟩;have i:(convert 23 9 v).run Tryz.prog b= .ok (.string (putS m)) b:=conv_own (P:=Tryz.prog) b 23 9 5 w.heap.size v k (uvarint m) dD dS gn d;clear d;go_wp2;go_ret;exact⟨rfl,f⟩
end
section
open Go.RowKit Go.Lib
def natsB (f:Nat->Int) (k:Nat):List UInt8:=(List.range k).flatMap λi=>uvarint (f i).toNat
theorem natsB_succ (f:Nat->Int) (k:Nat):natsB f (k+1)=natsB f k++uvarint (f k).toNat:=by
 unfold natsB;rw[List.range_succ];simp
theorem uv_len (m:Nat) (h:m<9223372036854775808):(uvarint m).length<=10:=uvarint_length64 (by omega)
theorem natsB_len (f:Nat->Int) (n:Nat) (hf:∀i,i<n->f i<9223372036854775808):∀k,k<=n->(natsB f k).length<=10*k
 |0,_=>by simp[natsB]
 |k+1,hk=>by
  rw[natsB_succ,al]
  have:=natsB_len f n hf k (by omega)
  have h1:=hf k (by omega)
  have:=uv_len (f k).toNat (by omega)
  omega
def natsS (f:Nat->Int) (n:Nat):ByteArray:=⟨(uvarint n++natsB f n).toArray⟩
theorem own_len {w:World} {base e n:Nat} {v:Value} {xs:List Value} (h:w.ownsRow base e 1 v n xs):n=xs.length:=by have:=h.1;omega
theorem nats_ok (A:Option Addr) (n cap:Nat) (f:Nat->Int) (hn:n<=5000) (hf:∀i,i<n->0<=f i∧f i<9223372036854775808) (w:World) (hR:Row1 w w.heap.size A n (λi=> .int .i64 (f i))):
  Calls Tryz.prog 72 #[.slice A n cap] w λe w'=>e= .returned (.tuple #[.string (natsS f n),(0:Int)])∧Below w.heap.size w w':=by
 have u:=hid hR;have l:=hid hf;have y:=hid (natsB_len f n (λi z=>(hf i z).2));obtain⟨S,d⟩:∃S,S=natsS f n:=⟨_,rfl⟩;rw[<-d];have B:=hid d;clear hR hf d;go_enter Tryz.func72,Tryz.ntmps72;go_wp2_with fail;refine(put_any w.heap.size _ 0 [] n (by omega) (by omega) _ (nil_own _ _) (aa _)).mono ?_;rintro e L ⟨v,j,rfl,o,p⟩;go_wp2;go_loopw [4,13] (λv i wr=>∃k m:Nat,k<=n∧i= .int .i64 k∧wr.ownsRow w.heap.size 5 1 v m ((uvarint n++natsB f k).map b8)∧Below w.heap.size w wr) (λ_ i _=>n-(RowKit.intOf i).toNat)
 case atStart=>exact⟨0,j,by omega,rfl,by simpa[natsB,putV] using o,p⟩
 case round=>
  obtain⟨k,m,C,rfl,a,b⟩:=hrel;clear o p;by_cases c:k<n
  ·obtain⟨D,E,-,g⟩:=(u.out.below b) k c;subst E;replace g:wr.cell? (D.add k)=some (.int .i64 (f k)):=g;have q:=(l.out k c).1;have F:=(l.out k c).2;have G:=hid (natsB_succ f k);have H:m<=100000:=by
    have:=own_len a;rw[aQ,al] at this;have:=y.out k C;have:=uv_len n (by omega);omega
   obtain⟨x,h⟩:=fm q;rw[h] at g;have I:=hid h;have r:x<9223372036854775808:=by omega
   clear h q F;go_wp2_with fail;refine(put_any w.heap.size _ m _ x r H _ a b.size).mono ?_;rintro e M ⟨N,J,rfl,s,t⟩;go_wp2;go_roundw
   case rel=>
    refine⟨k+1,J,by omega,by go_num,?_,b.trans t⟩;rw[G.out,I.out,dL,<-aG,bq];exact s
   case measure=>simp[RowKit.intOf];omega
  ·obtain rfl:k=n:=by omega
   have K:(convert 23 9 u4).run Tryz.prog wr= .ok (.string S) wr:=by rw[B.out];exact conv_own (P:=Tryz.prog) wr 23 9 5 w.heap.size u4 m (uvarint k++natsB f k) dD dS gn a
   clear a;go_wp2;go_ret2;exact⟨rfl,b⟩
end
section
open Go.RowKit Go.Lib Go.Sort
section
variable {w w1 w2 : World} {r : Option Nat}
theorem gby_refl:w.grownBy w r:=⟨rfl,rfl,rfl,aa _,λ_ _ _=>rfl⟩
theorem dC (h:w.grownBy w1 r) (k:w1.grownBy w2 r):w.grownBy w2 r:=
 ⟨k.os.trans h.os,k.tape.trans h.tape,k.output.trans h.output,aL h.size k.size,λi hi hr=>(k.block i (bC hi h.size) hr).trans (h.block i hi hr)⟩
theorem dg (h:Below w.heap.size w w1):w.grownBy w1 r:=⟨h.os,h.tape,h.output,h.size,λi hi _=>h.block i hi⟩
theorem gby_new {q:Option Nat} (h:w.grownBy w1 r) (k:w1.grownBy w2 q) (hq:∀g,q=some g->w.heap.size<=g):w.grownBy w2 r:=
 ⟨k.os.trans h.os,k.tape.trans h.tape,k.output.trans h.output,aL h.size k.size,λi hi hr=>(k.block i (bC hi h.size) (λe=>by have:=hq i e.symm;omega)).trans (h.block i hi hr)⟩
theorem eF (b o:Nat) (v:Value):w.grownBy (w.setCell ⟨b,o,none⟩ v) (some b):=
 ⟨rfl,rfl,rfl,by simp[World.setCell],λi hi hr=>cK _ _ _ _ (λe=>hr (by rw[e]))⟩
theorem jx (h:w.grownBy w1 r) (b o:Nat) (v:Value) (hb:w.heap.size<=b):w.grownBy (w1.setCell ⟨b,o,none⟩ v) r:=
 gby_new h (eF b o v) (λg e=>by cases e;exact hb)
theorem jg (h:w.grownBy w1 r) (o:Obj):w.grownBy (w1.alloc o) r:=dC h (bi w1 o r)
theorem jN (h:w.grownBy w1 r) (b:Nat) (c:Array Value) (hb:w.heap.size<=b):w.grownBy (w1.setRow b c) r:=by
 have a:Below b w1 (w1.setRow b c):=Below.setRow' (ag b w1) (aa b) c;exact⟨a.os.trans h.os,a.tape.trans h.tape,a.output.trans h.output,aL h.size a.size,λi d e=>(a.block i (by omega)).trans (h.block i d e)⟩
theorem gby_drewN (h:w.grownBy w1 r) (k:Nat):w.grownBy (w1.drewN k) r:=⟨h.os,h.tape,h.output,h.size,h.block⟩
end
def Rdr (w:World) (b:Nat) (s:ByteArray) (bad:Bool):Prop:=w.heap[b]? =some (.cells #[s,bad] 133 (0,0))
section
variable {w w' : World} {b : Nat} {s : ByteArray} {bad : Bool}
theorem Rdr.c0 (h:Rdr w b s bad):w.cell? ⟨b,0,none⟩=some (.string s):=by rw[crw h];rfl
theorem Rdr.c1 (h:Rdr w b s bad):w.cell? ⟨b,1,none⟩=some (.bool bad):=by rw[crw h];rfl
theorem Rdr.f (h:Rdr w b s bad) (j:Nat):w.frozen? ⟨b,j,none⟩=false:=aW _ _ _ _ _ h
theorem Rdr.lt (h:Rdr w b s bad):b<w.heap.size:=eK h.c0
theorem Rdr.set (h:Rdr w b s bad) (s':ByteArray) (bad':Bool):Rdr ((w.setCell ⟨b,0,none⟩ (.string s')).setCell ⟨b,1,none⟩ (.bool bad')) b s' bad':=by
 unfold Rdr at h ⊢;simp[World.setCell,cx,h]
theorem Rdr.set1 (h:Rdr w b s bad) (bad':Bool):Rdr (w.setCell ⟨b,1,none⟩ (.bool bad')) b s bad':=by
 unfold Rdr at h ⊢;simp[World.setCell,cx,h]
theorem Rdr.kept {r:Option Nat} (h:Rdr w b s bad) (hg:w.grownBy w' r) (hr:r≠some b):Rdr w' b s bad:=(hg.block b h.lt (λe=>hr e.symm)).trans h
theorem Rdr.keptN (h:Rdr w b s bad) (k:Nat):Rdr (w.drewN k) b s bad:=h
end
def RdQ {α:Type} (p:Rd α) (P:α->World->Value->Prop) (b:Nat) (s:ByteArray) (bad:Bool) (w:World) (e:Ending) (w':World):Prop:=
 ∃(x:α) (v:Value) (s':ByteArray) (bad':Bool),e= .returned v∧P x w' v∧Rdr w' b s' bad'∧w.grownBy w' (some b)∧RdIs p s.data.toList bad x s'.data.toList bad'
def PInt (n:Int) (_:World) (v:Value):Prop:=v= .int .i64 n∧okI n
def PStr (x:ByteArray) (_:World) (v:Value):Prop:=v= .string x∧x.size<=1000000
def PSt (x:Gst) (_:World) (v:Value):Prop:=v=stV x
def PId (x:Gid) (_:World) (v:Value):Prop:=v=idV x
theorem RdIs.take {s:ByteArray} {n:Nat} {R:ByteArray} {c:Nat} (h:TkIs s.data.toList n R c) (bad:Bool):RdIs intR s.data.toList bad (n:Int) R.data.toList (bad || decide (c≠0)):=by
 have a:R.data.toList.length=R.size:=by simp
 refine⟨λe=>by rw[e];rfl,λe=> ?_,by rw[a];exact h.len⟩;obtain⟨rfl,rfl,rfl⟩:=h;unfold intR tkE tkN tkR;cases b:Vr.take s.data.toList with
 |ok n r=>exact .inl ⟨by rw[e];simp,rfl⟩
 |err c=>
  refine .inr ⟨?_,rfl⟩;have d:c≠0:=by have:=Vr.takeF_err _ _ _ _ b;omega
  simp[d]
theorem fX (b:Nat) (s:ByteArray) (bad:Bool) (w:World) (hs:s.size<=1000000) (hR:Rdr w b s bad):
  Calls Tryz.prog 82 #[.pointer (some ⟨b,0,none⟩)] w (RdQ intR PInt b s bad w):=by
 obtain⟨n,R,c,d⟩:∃n R c,TkIs s.data.toList n R c:=⟨_,_,_,rfl,rfl,rfl⟩;have a:∀k v,v=(bad || decide (c≠0))->RdQ intR PInt b s bad w (.returned (.int .i64 n)) (((w.drewN k).setCell ⟨b,0,none⟩ (.string R)).setCell ⟨b,1,none⟩ (.bool v)):=λk v f=>
  ⟨n,_,R,_,rfl,⟨rfl,by omega,by have:=d.lt;omega⟩,(hR.keptN k).set R v,dC (dC (gby_drewN gby_refl k) (eF _ _ _)) (eF _ _ _),by rw[f];exact RdIs.take d bad⟩
 have g:=hid a;have h:=hid (ja s (by unfold maxLen;omega) n R c d);have m:=hR.c0;have o:=hR.c1;have p:=hR.f 0;have q:=hR.f 1;clear a d hR;cases bad with
 |true=>
  go_enter Tryz.func82,Tryz.ntmps82;go_wp2_with fail;refine(h.out _).mono ?_;rintro e j ⟨rfl,k,rfl⟩;go_wp2;go_ret;exact g.out k _ rfl
 | false=>
  by_cases i:c=0
  ·subst i;go_enter Tryz.func82,Tryz.ntmps82;go_wp2_with fail;refine(h.out _).mono ?_;rintro e j ⟨rfl,k,rfl⟩;go_wp2;go_ret;exact g.out k _ rfl
  ·have r:((c:Int) != 0)=true:=by rw[eM];omega
   have f:true=(false || decide (c≠0)):=by simp[i]
   have l:=hid f;clear f i;go_enter Tryz.func82,Tryz.ntmps82;go_wp2_with fail;refine(h.out _).mono ?_;rintro e j ⟨rfl,k,rfl⟩;go_wp2;go_ret;exact g.out k _ l.out
theorem RdIs.takeb {s:ByteArray} {n:Nat} {R:ByteArray} {c:Nat} (h:TkIs s.data.toList n R c) (hs:s.size<=1000000) (bad:Bool):
  RdIs fu s.data.toList bad (tbT n R c) (tbR n R c).data.toList (bad || decide (tbE n R c≠0))∧(tbT n R c).size<=1000000:=by
 have o:R.data.toList.length=R.size:=by simp
 have l:=h.len;have m:s.data.toList.length=s.size:=by simp
 have i:=RdIs.take h bad;by_cases a:c=0
 ·subst a;by_cases b:R.size<n
  ·have d:tbT n R 0=⟨#[]⟩:=by unfold tbT;rw[aC (by omega),aJ b]
   have f:tbR n R 0=⟨#[]⟩:=by unfold tbR;rw[aC (by omega),aJ b]
   have g:tbE n R 0=10:=by unfold tbE;rw[aC (by omega),aJ b]
   rw[d,f,g];refine⟨⟨λe=>by rw[e];rfl,λe=> .inr ⟨by simp,?_⟩,by simp⟩,by decide⟩;rcases i.step e with⟨_,h2⟩|⟨h1,_⟩
   ·unfold fu;rw[bH h2,dL,aJ (by omega)]
   ·rw[e] at h1;simp at h1
  ·have d:tbT n R 0=R.extract 0 n:=by unfold tbT;rw[aC (by omega),aC b]
   have f:tbR n R 0=R.extract n R.size:=by unfold tbR;rw[aC (by omega),aC b]
   have g:tbE n R 0=0:=by unfold tbE;rw[aC (by omega),aC b]
   have j:(R.extract n R.size).data.toList=R.data.toList.drop n:=by rw[rest_of]
   have k:R.extract 0 n=⟨(R.data.toList.take n).toArray⟩:=by
    apply fD;rw[gT];apply eH.1;rw[iw,fS];simp
   rw[d,f,g,j];refine⟨⟨λe=>by rw[e];rfl,λe=> .inl ⟨by rw[e];simp,?_⟩,by rw[bI];omega⟩,by rw[cI];omega⟩;rcases i.step e with⟨_,h2⟩|⟨h1,_⟩
   ·unfold fu;rw[bH h2,dL,aC (by omega),k]
   ·rw[e] at h1;simp at h1
 ·have d:tbT n R c=⟨#[]⟩:=by unfold tbT;rw[aJ a]
  have f:tbR n R c=⟨#[]⟩:=by unfold tbR;rw[aJ a]
  have g:tbE n R c=c:=by unfold tbE;rw[aJ a]
  rw[d,f,g];refine⟨⟨λe=>by rw[e];rfl,λe=> .inr ⟨by simp[a],?_⟩,by simp⟩,by decide⟩;rcases i.step e with⟨h1,_⟩|⟨_,h2⟩
  ·simp[a] at h1
  ·unfold fu;rw[gP h2]
theorem rbytes_any (b:Nat) (s:ByteArray) (bad:Bool) (w:World) (hs:s.size<=1000000) (hR:Rdr w b s bad):
  Calls Tryz.prog 137 #[.pointer (some ⟨b,0,none⟩)] w (RdQ fu PStr b s bad w):=by
 obtain⟨n,R,c,f⟩:∃n R c,TkIs s.data.toList n R c:=⟨_,_,_,rfl,rfl,rfl⟩;obtain⟨j,l⟩:=RdIs.takeb f hs bad;have m:=takebytes_any s (by unfold maxLen;omega) n R c f;generalize tbT n R c=X at *;generalize tbR n R c=Y at *;generalize tbE n R c=z at *;have a:∀k v,v=(bad || decide (z≠0))->RdQ fu PStr b s bad w (.returned (.string X)) (((w.drewN k).setCell ⟨b,0,none⟩ (.string Y)).setCell ⟨b,1,none⟩ (.bool v)):=λk v d=>
  ⟨X,_,Y,_,rfl,⟨rfl,l⟩,(hR.keptN k).set Y v,dC (dC (gby_drewN gby_refl k) (eF _ _ _)) (eF _ _ _),by rw[d];exact j⟩
 have g:=hid a;have h:=hid m;have q:=hR.c0;have r:=hR.c1;have t:=hR.f 0;have u:=hR.f 1;clear a m hR j l f;cases bad with
 |true=>
  go_enter Tryz.func137,Tryz.ntmps137;go_wp2_with fail;refine(h.out _).mono ?_;rintro e o ⟨rfl,k,rfl⟩;go_wp2;go_ret;exact g.out k _ rfl
 | false=>
  by_cases i:z=0
  ·subst i;go_enter Tryz.func137,Tryz.ntmps137;go_wp2_with fail;refine(h.out _).mono ?_;rintro e o ⟨rfl,k,rfl⟩;go_wp2;go_ret;exact g.out k _ rfl
  ·have x:((z:Int) != 0)=true:=by rw[eM];omega
   have d:true=(false || decide (z≠0)):=by simp[i]
   have p:=hid d;clear d i;go_enter Tryz.func137,Tryz.ntmps137;go_wp2_with fail;refine(h.out _).mono ?_;rintro e o ⟨rfl,k,rfl⟩;go_wp2;go_ret;exact g.out k _ p.out
theorem eB {s s':ByteArray} {α:Type} {p:Rd α} {b b':Bool} {x:α} (h:RdIs p s.data.toList b x s'.data.toList b') (hs:s.size<=1000000):s'.size<=1000000:=by
 have:=h.le;have a:s.data.toList.length=s.size:=by simp
 have c:s'.data.toList.length=s'.size:=by simp
 omega
theorem ky (b:Nat) (s:ByteArray) (bad:Bool) (w:World) (hs:s.size<=1000000) (hR:Rdr w b s bad):
  Calls Tryz.prog 81 #[.pointer (some ⟨b,0,none⟩)] w (RdQ stR PSt b s bad w):=by
 have H:=hR.lt;have d:=am w (.cells #[(0:Int),(0:Int)] 42);have n:=hid (hR.kept (bi w (.cells #[(0:Int),(0:Int)] 42) none) (by simp));have o:=hid d;have J:=hid hR;clear d hR;go_enter Tryz.func81,Tryz.ntmps81;go_wp2_with fail;refine(fX b s bad _ hs n.out).mono ?_;rintro e A ⟨t,v,B,k,rfl,⟨rfl,p⟩,f,g,c⟩;have C:=hid (fX b B k A (eB c hs) f);have q:=hid c;have u:=hid g;have I:=hid p;clear f g c p;go_wp2_with fail;refine C.out.mono ?_;rintro e x ⟨r,v,D,l,rfl,⟨rfl,K⟩,h,i,j⟩;have m:=dC u.out i;have a:=(m.block w.heap.size (by simp) (by intro e;cases e;omega)).trans o.out;have E:=cw0 a;have F:=cw1 a;have L:x.frozen? ⟨w.heap.size,0,none⟩=false:=aW _ _ _ _ _ a;have M:x.frozen? ⟨w.heap.size,1,none⟩=false:=aW _ _ _ _ _ a;have y:=hid h;have G:=hid m;have z:=hid j;clear m i a h j;go_wp2;refine bB (v:= .agg #[t,r]) (by simp[results,Tryz.results81,go_sem,E,F]) rfl ?_;refine⟨⟨t,r⟩,_,D,l,rfl,rfl,?_,jx (jx (dC (bi _ _ _) G.out) _ _ _ (aa _)) _ _ _ (aa _),RdIs.st q.out z.out⟩;exact(y.out.kept (eF _ _ _) (by intro e;cases e;omega)).kept (eF _ _ _) (by intro e;cases e;omega)
theorem rid_any (b:Nat) (s:ByteArray) (bad:Bool) (w:World) (hs:s.size<=1000000) (hR:Rdr w b s bad):
  Calls Tryz.prog 136 #[.pointer (some ⟨b,0,none⟩)] w (RdQ idR PId b s bad w):=by
 have R:=hR.lt;have x:=hid (hR.kept (bi w (.cells #[(0:Int),(0:Int),(0:Int)] 108) none) (by simp));have y:=hid (am w (.cells #[(0:Int),(0:Int),(0:Int)] 108));have z:=hid (bi w (.cells #[(0:Int),(0:Int),(0:Int)] 108) (some b));clear hR;go_enter Tryz.func136,Tryz.ntmps136;go_wp2_with fail;refine(ky b s bad _ hs x.out).mono ?_;rintro e c ⟨⟨t,r⟩,v,A,h,rfl,J,l,f,j⟩;obtain rfl:v= .agg #[t,r]:=J;have B:=eB j hs;have C:=hid j;have D:=hid (dC z.out f);have E:=hid ((f.block w.heap.size (by simp) (by intro e;cases e;omega)).trans y.out);have k:w.heap.size<c.heap.size:=by have:=f.size;simp at this;omega
 have F:=hid l;clear j f l;go_upto_region 2 with(fail);generalize hW:c.alloc (.cells #[t,r] 42)=W;have q:=hid (show W.heap[c.heap.size]? =some (.cells #[t,r] 42 (0,0)) by subst hW;exact am _ _);have K:=hid (show W.heap[w.heap.size]? =some (.cells #[(0:Int),(0:Int),(0:Int)] 108 (0,0)) by subst hW;exact(ax _ _ _ k).trans E.out);have L:=hid (show Rdr W b A h by subst hW;exact F.out.kept (bi c _ none) (by simp));have M:=hid (show w.grownBy W (some b) by subst hW;exact jg D.out _);have m:c.heap.size<W.heap.size:=by subst hW;simp
 clear hW;have S:=cw0 q.out;have T:=cw1 q.out;go_region_with (go_at_call 82;refine(fX b A h _ (by exact B) (by exact L.out)).mono ?_;rintro e d ⟨i,v,N,u,rfl,⟨rfl,U⟩,n,g,o⟩;have p:=hid ((g.block c.heap.size m (by intro e;cases e;omega)).trans q.out);have a:=hid ((g.block w.heap.size (Nat.lt_trans k m) (by intro e;cases e;omega)).trans K.out);have G:=hid n;have H:=hid o;have I:=hid (dC M.out (dC (⟨rfl,rfl,rfl,aa _,λ_ _ _=>rfl⟩:W.grownBy W.drew (some b)) g));clear n o g;have V:d.cell? ⟨c.heap.size,0,none⟩=some (.int .i64 t):=by { rw[crw p.out];rfl };have X:d.cell? ⟨c.heap.size,1,none⟩=some (.int .i64 r):=by { rw[crw p.out];rfl };have O:d.cell? ⟨w.heap.size,0,none⟩=some (.int .i64 0):=by { rw[crw a.out];rfl };have P:d.cell? ⟨w.heap.size,1,none⟩=some (.int .i64 0):=by { rw[crw a.out];rfl };have Q:d.cell? ⟨w.heap.size,2,none⟩=some (.int .i64 0):=by { rw[crw a.out];rfl };have Y:d.frozen? ⟨w.heap.size,0,none⟩=false:=aW _ _ _ _ _ a.out;have Z:d.frozen? ⟨w.heap.size,1,none⟩=false:=aW _ _ _ _ _ a.out;have f2:d.frozen? ⟨w.heap.size,2,none⟩=false:=aW _ _ _ _ _ a.out)
 all_goals
  go_wp2;refine bB (v:= .agg #[t,r,i]) (by simp[results,Tryz.results136,go_sem,O,P,Q]) rfl ?_;refine⟨⟨⟨t,r⟩,i⟩,_,N,u,rfl,rfl,?_,jx (jx (jx I.out _ _ _ (aa _)) _ _ _ (aa _)) _ _ _ (aa _),RdIs.id C.out H.out⟩;exact((G.out.kept (eF _ _ _) (by intro e;cases e;omega)).kept (eF _ _ _) (by intro e;cases e;omega)).kept (eF _ _ _) (by intro e;cases e;omega)
end
section
open Go.RowKit Go.Lib Go.Sort
theorem dH (W:World) (xs:List Value) (e:TypeId) (j:Nat) (u:Value) (h:xs[j]? =some u):(W.alloc (.cells xs.toArray e)).cell? ((⟨W.heap.size,0,none⟩:Addr).add j)=some u:=by
 rw[jm];have:=World.cell?_alloc_mark W xs.toArray e (0,0) j;rw[this];simpa using h
def PRow {α:Type} (B:Nat) (e:TypeId) (size:Nat) (enc:α->List Value) (xs:List α) (w':World) (v:Value):Prop:=
 (∃A c,v= .slice A xs.length c)∧w'.ownsRow B e size v xs.length (xs.flatMap enc)∧xs.length<=1000001
def PRowI (B:Nat) (e:TypeId) (size:Nat) (enc:Int->List Value) (xs:List Int) (w':World) (v:Value):Prop:=
 (∃A c,v= .slice A xs.length c)∧w'.ownsRow B e size v xs.length (xs.flatMap enc)∧xs.length<=1000001∧∀x∈xs,okI x
theorem bZ {w:World} {B:Nat} {e:TypeId} {size:Nat} {v:Value} {n:Nat} {xs:List Value} (h:w.ownsRow B e size v n xs):∃A c,v= .slice A n c:=by
 rcases h.2 with⟨rfl,rfl⟩|⟨g,cap,cur,rfl,_⟩
 ·exact⟨_,_,rfl⟩
 ·exact⟨_,_,rfl⟩
def iE (x:Int):List Value:=[x]
theorem ocintC_ (x:Int):∀u∈iE x,u.oneCell'=true:=by
 intro u a;simp only[iE,bY,eZ,or_false] at a;subst a;rfl
theorem infointC_:(Tryz.prog.info? 3).map (λi=>(i.zero,i.size,i.bytes))=some (some (.int .i64 0),1,8):=by kernel_rfl
theorem rmany_int (b:Nat) (s:ByteArray) (bad:Bool) (w:World) (hs:s.size<=1000000) (hR:Rdr w b s bad):
  Calls Tryz.prog 83 #[.pointer (some ⟨b,0,none⟩),.func (Fn.func 82) #[.pointer (some ⟨b,0,none⟩)] #[]] w (RdQ (fx intR) (PRowI w.heap.size 3 1 iE) b s bad w):=by
 obtain⟨i0,hi,L,M,N⟩:=bD infointC_;have aj:=hR.lt;have O:=hid (hR.kept (bi w (.cells #[] 3) none) (by simp));have P:=hid (am w (.cells #[] 3));have Q:=hid (bi w (.cells #[] 3) (some b));clear hR;go_enter Tryz.func83,Tryz.ntmps83;go_wp2_with fail;refine(fX b s bad _ hs O.out).mono ?_;rintro e w1 ⟨n0,v,A,p,rfl,⟨rfl,q⟩,D,r,t⟩;obtain⟨n,rfl⟩:=fm q.1;have hn:n<9223372036854775808:=by have:=q.2;omega
 have ak:=eB t hs;have R:=hid t;have S:=hid (dC Q.out r);have T:=hid ((r.block w.heap.size (by simp) (by intro e;cases e;omega)).trans P.out);have U:=hid D;clear t r D q;go_wp2;go_loopw [5,6] (λv m wr=>∃(k:Nat) (c:List Int) (d:ByteArray) (a:Bool),m= .int .i64 k∧k<=n∧wr.ownsRow w.heap.size 3 1 v c.length (c.flatMap iE)∧Hid (Rdr wr b d a)∧Hid (w.grownBy wr (some b))∧Hid (ManyAt intR n A.data.toList p k c d.data.toList a)∧Hid (∀x∈c,okI x)) (λ_ m _=>(RowKit.intOf m).toNat)
 case atStart=>exact⟨n,[],A,p,rfl,aa _,⟨rfl,.inr ⟨w.heap.size,0,#[],rfl,aa _,T.out,aa _,by unfold maxLen;omega,rfl,rfl⟩⟩,U,S,hid ManyAt.start,hid (λx B=>by cases B)⟩
 case round=>
  obtain⟨k,c,d,a,rfl,hk,l,I,J,C,V⟩:=hrel;have W:=C.out.le;have u:=C.out.few;have X:A.data.toList.length=A.size:=by simp
  have Y:d.data.toList.length=d.size:=by simp
  have Z:c.length<=1000001:=by split at u<;>omega
  have z:∀h:a=true∨k=0,RdQ (fx intR) (PRowI w.heap.size 3 1 iE) b s bad w (.returned u5) wr:=λh=>
   ⟨c,u5,d,a,rfl,⟨bZ l,l,Z,V.out⟩,I.out,J.out,RdIs.many R.out (by rw[dL];exact C.out.done h)⟩
  have HF:=hid z;have c1:=I.out.c1;have ab:d.size<=1000000:=by omega
  clear z W u X Y;cases a with
  | true=>
   go_wp2
   all_goals
    go_ret;exact HF.out (.inl (by first|rfl|trivial))
  | false=>
   by_cases h0:0<k
   ·obtain⟨m,rfl⟩:∃m,k=m+1:=⟨k-1,by omega⟩;have HC:=hid (fX b d false wr ab I.out);have HB:=hid (λg e=>(l.lt g e).1);have E:=hid (show u5.ownBlock≠some b from λe=>by have:=(l.lt b e).1;omega);have an:=J.out.size;have ac:=hid l;clear l
    go_wp2_with (first
     |(go_at_call 82;refine HC.out.mono ?_;rintro e w2 ⟨x,v2,s2,K,rfl,⟨hv,B⟩,F,f,G⟩;obtain rfl:v2= .int .i64 x:=hv;have ad:=hid F;have ae:=hid f;have af:=hid G;have ai:=f.size;have ag:=hid (ac.out.kept f (.inr E.out));clear F f G;have HO:=hid B;clear B)
     |(at_builtin;refine bu _ rfl _ _ 27 rfl w.heap.size 3 i0 (.int .i64 0) 1 8 Tryz.underlying27 hi L M N rfl (by decide) _ _ _ rfl (by exact ag.out.alloc _) ⟨w2.heap.size,0,none⟩ 1 1 (iE x) rfl rfl (by exact dH _ _ _) (by exact ocintC_ _) (by unfold maxLen;omega) (by omega) (by simp;omega) ?_;intro v' w3 i j _;have ah:=hid i;have H:=hid j;clear i j))
    go_roundw
    case rel=>exact⟨m,c++[x],s2,K,by go_num,by omega,by rw[al,aI,bP];exact ah.out,hid ((ad.out.kept (bi w2 _ none) (by simp)).kept H.out E.out),hid (gby_new (jg (dC J.out ae.out) _) H.out HB.out),hid (C.out.next intT af.out),hid (λy o=>by rcases au.1 o with o|o;exact V.out y o;simp at o;rw[o];exact HO.out)⟩
    case measure=>simp[RowKit.intOf]
   ·obtain rfl:k=0:=by omega
    go_wp2;go_ret;exact HF.out (.inr (by first|rfl|trivial))
def stC_ (x:Gst):List Value:=[.int .i64 x.t,.int .i64 x.r]
theorem ocstC_ (x:Gst):∀u∈stC_ x,u.oneCell'=true:=by
 intro u a;simp only[stC_,bY,eZ,or_false] at a;rcases a with rfl|rfl<;>rfl
theorem infostC_:(Tryz.prog.info? 42).map (λi=>(i.zero,i.size,i.bytes))=some (some (.agg #[(0:Int),(0:Int)]),2,16):=by kernel_rfl
theorem rmany_st (b:Nat) (s:ByteArray) (bad:Bool) (w:World) (hs:s.size<=1000000) (hR:Rdr w b s bad):
  Calls Tryz.prog 138 #[.pointer (some ⟨b,0,none⟩),.func (Fn.func 81) #[.pointer (some ⟨b,0,none⟩)] #[]] w (RdQ (fx stR) (PRow w.heap.size 42 2 stC_) b s bad w):=by
 obtain⟨i0,hi,J,K,L⟩:=bD infostC_;have ah:=hR.lt;have M:=hid (hR.kept (bi w (.cells #[] 42) none) (by simp));have N:=hid (am w (.cells #[] 42));have O:=hid (bi w (.cells #[] 42) (some b));clear hR;go_enter Tryz.func138,Tryz.ntmps138;go_wp2_with fail;refine(fX b s bad _ hs M.out).mono ?_;rintro e w1 ⟨n0,v,z,o,rfl,⟨rfl,p⟩,B,q,u⟩;obtain⟨n,rfl⟩:=fm p.1;have hn:n<9223372036854775808:=by have:=p.2;omega
 have ai:=eB u hs;have P:=hid u;have Q:=hid (dC O.out q);have R:=hid ((q.block w.heap.size (by simp) (by intro e;cases e;omega)).trans N.out);have S:=hid B;clear u q B p;go_wp2;go_loopw [5,6] (λv m wr=>∃(k:Nat) (d:List Gst) (c:ByteArray) (a:Bool),m= .int .i64 k∧k<=n∧wr.ownsRow w.heap.size 42 2 v d.length (d.flatMap stC_)∧Hid (Rdr wr b c a)∧Hid (w.grownBy wr (some b))∧Hid (ManyAt stR n z.data.toList o k d c.data.toList a)) (λ_ m _=>(RowKit.intOf m).toNat)
 case atStart=>exact⟨n,[],z,o,rfl,aa _,⟨rfl,.inr ⟨w.heap.size,0,#[],rfl,aa _,R.out,aa _,by unfold maxLen;omega,rfl,rfl⟩⟩,S,Q,hid ManyAt.start⟩
 case round=>
  obtain⟨k,d,c,a,rfl,hk,l,G,H,A⟩:=hrel;have T:=A.out.le;have x:=A.out.few;have U:z.data.toList.length=z.size:=by simp
  have V:c.data.toList.length=c.size:=by simp
  have W:d.length<=1000001:=by split at x<;>omega
  have y:∀h:a=true∨k=0,RdQ (fx stR) (PRow w.heap.size 42 2 stC_) b s bad w (.returned u5) wr:=λh=>
   ⟨d,u5,c,a,rfl,⟨bZ l,l,W⟩,G.out,H.out,RdIs.many P.out (by rw[dL];exact A.out.done h)⟩
  have X:=hid y;have c1:=G.out.c1;have Y:c.size<=1000000:=by omega
  clear y T x U V;cases a with
  | true=>
   go_wp2
   all_goals
    go_ret;exact X.out (.inl (by first|rfl|trivial))
  | false=>
   by_cases h0:0<k
   ·obtain⟨m,rfl⟩:∃m,k=m+1:=⟨k-1,by omega⟩;have HC:=hid (ky b c false wr Y G.out);have HB:=hid (λg e=>(l.lt g e).1);have C:=hid (show u5.ownBlock≠some b from λe=>by have:=(l.lt b e).1;omega);have aj:=H.out.size;have Z:=hid l;clear l
    go_wp2_with (first
     |(go_at_call 81;refine HC.out.mono ?_;rintro e w2 ⟨⟨t,r⟩,v2,s2,I,rfl,hv,D,f,E⟩;obtain rfl:v2= .agg #[t,r]:=hv;have ab:=hid D;have ac:=hid f;have ad:=hid E;have ag:=f.size;have ae:=hid (Z.out.kept f (.inr C.out));clear D f E)
     |(at_builtin;refine bu _ rfl _ _ 100 rfl w.heap.size 42 i0 (.agg #[(0:Int),(0:Int)]) 2 16 Tryz.underlying100 hi J K L rfl (by decide) _ _ _ rfl (by exact ae.out.alloc _) ⟨w2.heap.size,0,none⟩ 1 1 (stC_ (⟨t,r⟩:Gst)) rfl rfl (by exact dH _ _ _) (by exact ocstC_ _) (by unfold maxLen;omega) (by omega) (by simp;omega) ?_;intro v' w3 i j _;have af:=hid i;have F:=hid j;clear i j))
    go_roundw
    case rel=>exact⟨m,d++[(⟨t,r⟩:Gst)],s2,I,by go_num,by omega,by rw[al,aI,bP];exact af.out,hid ((ab.out.kept (bi w2 _ none) (by simp)).kept F.out C.out),hid (gby_new (jg (dC H.out ac.out) _) F.out HB.out),hid (A.out.next stT ad.out)⟩
    case measure=>simp[RowKit.intOf]
   ·obtain rfl:k=0:=by omega
    go_wp2;go_ret;exact X.out (.inr (by first|rfl|trivial))
def idC_ (x:Gid):List Value:=[.int .i64 x.s.t,.int .i64 x.s.r,.int .i64 x.i]
theorem ocidC_ (x:Gid):∀u∈idC_ x,u.oneCell'=true:=by
 intro u a;simp only[idC_,bY,eZ,or_false] at a;rcases a with rfl|rfl|rfl<;>rfl
theorem infoidC_:(Tryz.prog.info? 108).map (λi=>(i.zero,i.size,i.bytes))=some (some (.agg #[(0:Int),(0:Int),(0:Int)]),3,24):=by kernel_rfl
theorem rmany_id (b:Nat) (s:ByteArray) (bad:Bool) (w:World) (hs:s.size<=1000000) (hR:Rdr w b s bad):
  Calls Tryz.prog 139 #[.pointer (some ⟨b,0,none⟩),.func (Fn.func 136) #[.pointer (some ⟨b,0,none⟩)] #[]] w (RdQ (fx idR) (PRow w.heap.size 108 3 idC_) b s bad w):=by
 obtain⟨i0,hi,K,L,M⟩:=bD infoidC_;have ai:=hR.lt;have N:=hid (hR.kept (bi w (.cells #[] 108) none) (by simp));have O:=hid (am w (.cells #[] 108));have P:=hid (bi w (.cells #[] 108) (some b));clear hR;go_enter Tryz.func139,Tryz.ntmps139;go_wp2_with fail;refine(fX b s bad _ hs N.out).mono ?_;rintro e w1 ⟨n0,v,A,p,rfl,⟨rfl,q⟩,C,u,x⟩;obtain⟨n,rfl⟩:=fm q.1;have hn:n<9223372036854775808:=by have:=q.2;omega
 have aj:=eB x hs;have Q:=hid x;have R:=hid (dC P.out u);have S:=hid ((u.block w.heap.size (by simp) (by intro e;cases e;omega)).trans O.out);have T:=hid C;clear x u C q;go_wp2;go_loopw [5,6] (λv m wr=>∃(k:Nat) (d:List Gid) (c:ByteArray) (a:Bool),m= .int .i64 k∧k<=n∧wr.ownsRow w.heap.size 108 3 v d.length (d.flatMap idC_)∧Hid (Rdr wr b c a)∧Hid (w.grownBy wr (some b))∧Hid (ManyAt idR n A.data.toList p k d c.data.toList a)) (λ_ m _=>(RowKit.intOf m).toNat)
 case atStart=>exact⟨n,[],A,p,rfl,aa _,⟨rfl,.inr ⟨w.heap.size,0,#[],rfl,aa _,S.out,aa _,by unfold maxLen;omega,rfl,rfl⟩⟩,T,R,hid ManyAt.start⟩
 case round=>
  obtain⟨k,d,c,a,rfl,hk,o,H,I,B⟩:=hrel;have U:=B.out.le;have y:=B.out.few;have V:A.data.toList.length=A.size:=by simp
  have W:c.data.toList.length=c.size:=by simp
  have X:d.length<=1000001:=by split at y<;>omega
  have z:∀h:a=true∨k=0,RdQ (fx idR) (PRow w.heap.size 108 3 idC_) b s bad w (.returned u5) wr:=λh=>
   ⟨d,u5,c,a,rfl,⟨bZ o,o,X⟩,H.out,I.out,RdIs.many Q.out (by rw[dL];exact B.out.done h)⟩
  have Y:=hid z;have c1:=H.out.c1;have Z:c.size<=1000000:=by omega
  clear z U y V W;cases a with
  | true=>
   go_wp2
   all_goals
    go_ret;exact Y.out (.inl (by first|rfl|trivial))
  | false=>
   by_cases h0:0<k
   ·obtain⟨m,rfl⟩:∃m,k=m+1:=⟨k-1,by omega⟩;have HC:=hid (rid_any b c false wr Z H.out);have HB:=hid (λg e=>(o.lt g e).1);have D:=hid (show u5.ownBlock≠some b from λe=>by have:=(o.lt b e).1;omega);have ak:=I.out.size;have ab:=hid o;clear o
    go_wp2_with (first
     |(go_at_call 136;refine HC.out.mono ?_;rintro e w2 ⟨⟨⟨t,r⟩,i⟩,v2,s2,J,rfl,hv,E,f,F⟩;obtain rfl:v2= .agg #[t,r,i]:=hv;have ac:=hid E;have ad:=hid f;have ae:=hid F;have ah:=f.size;have af:=hid (ab.out.kept f (.inr D.out));clear E f F)
     |(at_builtin;refine bu _ rfl _ _ 123 rfl w.heap.size 108 i0 (.agg #[(0:Int),(0:Int),(0:Int)]) 3 24 eQ hi K L M rfl (by decide) _ _ _ rfl (by exact af.out.alloc _) ⟨w2.heap.size,0,none⟩ 1 1 (idC_ (⟨⟨t,r⟩,i⟩:Gid)) rfl rfl (by exact dH _ _ _) (by exact ocidC_ _) (by unfold maxLen;omega) (by omega) (by simp;omega) ?_;intro v' w3 j l _;have ag:=hid j;have G:=hid l;clear j l))
    go_roundw
    case rel=>exact⟨m,d++[(⟨⟨t,r⟩,i⟩:Gid)],s2,J,by go_num,by omega,by rw[al,aI,bP];exact ag.out,hid ((ac.out.kept (bi w2 _ none) (by simp)).kept G.out D.out),hid (gby_new (jg (dC I.out ad.out) _) G.out HB.out),hid (B.out.next idT ae.out)⟩
    case measure=>simp[RowKit.intOf]
   ·obtain rfl:k=0:=by omega
    go_wp2;go_ret;exact Y.out (.inr (by first|rfl|trivial))
end
end
end Go.Proofs.YtkhmicndehlneaaGreatDoor
