/- Part 19 of the walks and plain laws that this claim uses, joined. Conditions: as each theorem states. -/
import Derived.Test.YtkhmicndehlneaaGreatDoorYbr
namespace Go.Proofs.YtkhmicndehlneaaGreatDoor
set_option maxRecDepth 100000
set_option maxHeartbeats 16000000
set_option linter.unusedVariables false
section
open Go.RowKit Go.Lib Go.Sort
attribute [local go_sem ↓] Go.wp_at_zero Go.wp_at_succ
def opsN (d:Bool) (l:List Gop):List Gid:=(l.filter (λo=>decide (o.kind=0) && (o.dir == d))).map (·.node)
def fs (d:Bool) (L:List (Grp×GrX)):List Gid:=L.flatMap λp=>opsN d p.1.ops
theorem opsN_succ (d:Bool) {l:List Gop} {j:Nat} (h:j<l.length):opsN d (l.take (j+1))=opsN d (l.take j)++(if (decide ((l.getD j (opO 0 .zero)).kind=0) && ((l.getD j (opO 0 .zero)).dir == d))=true then [(l.getD j (opO 0 .zero)).node] else []):=by
 unfold opsN;rw[dF h (opO 0 .zero),jD,bq];congr 1;generalize l.getD j (opO 0 .zero)=o;cases e:(decide (o.kind=0) && (o.dir == d))<;>simp[List.filter,e]
def opsR (x:Gid) (l:List Gop):List Rn:=(l.filter (λo=>decide (o.kind=3) && o.node.eqb x)).map λo=>⟨o.after,o.elem,o.text⟩
def fK (x:Gid) (L:List (Grp×GrX)):List Rn:=L.flatMap λp=>opsR x p.1.ops
theorem opsR_succ (x:Gid) {l:List Gop} {j:Nat} (h:j<l.length):opsR x (l.take (j+1))=opsR x (l.take j)++(if (decide ((l.getD j (opO 0 .zero)).kind=3) && (l.getD j (opO 0 .zero)).node.eqb x)=true then [⟨(l.getD j (opO 0 .zero)).after,(l.getD j (opO 0 .zero)).elem,(l.getD j (opO 0 .zero)).text⟩] else []):=by
 unfold opsR;rw[dF h (opO 0 .zero),jD,bq];congr 1;generalize l.getD j (opO 0 .zero)=o;cases e:(decide (o.kind=3) && o.node.eqb x)<;>simp[List.filter,e]
theorem nodes_any (L:List (Grp×GrX)) (A:Option Addr) (c:Nat) (d:Bool) (S:Nat->Prop) (w:World) (hl:L.length<=1000) (hlo:∀p∈L,p.1.ops.length<=1000) (hR:RowGr w A L) (hG:∀p∈L,GrG w S p):
  Calls Tryz.prog 142 #[.slice A L.length c,d] w λe w'=>∃A' c',e= .returned (.slice A' (fs d L).length c')∧w'.ownsRow w.heap.size 108 3 (.slice A' (fs d L).length c') (fs d L).length ((fs d L).flatMap idL)∧Below w.heap.size w w':=by
 obtain⟨i0,hi,aj,ak,am⟩:=bD info_id;have HR:=hid hR;have HG:=hid hG;clear hR hG;go_enter Tryz.func142,Tryz.ntmps142;have an:=hid hlo;clear hlo;go_upto_region 3 with fail;go_loopw [5,6] (λo i wr=>∃(k:Nat) (A':Option Addr) (c' m:Nat),k<=L.length∧i= .int .i64 k∧o= .slice A' m c'∧m<=k*1000∧Hid (m=(fs d (L.take k)).length)∧Hid (wr.ownsRow w.heap.size 108 3 (.slice A' m c') m ((fs d (L.take k)).flatMap idL))∧Hid (Below w.heap.size w wr)) (λo i _=>L.length-(RowKit.intOf i).toNat)
 case atStart=>exact⟨0,none,0,0,aq _,rfl,rfl,aq _,hid rfl,hid (aF _ _ _ _),hid (ag _ _)⟩
 case round=>
  obtain⟨k,A',c',m,hk,rfl,rfl,ao,l,q,a⟩:=hrel;by_cases u:k<L.length
  ·have i1:(0:Int)<=(k:Int):=by omega
   have i2:(k:Int)<(L.length:Int):=by omega
   obtain⟨rb,ro,rfl,T,s⟩:=HR.out.range u;have U:fs d (L.take (k+1))=fs d (L.take k)++opsN d (L.getD k gp0).1.ops:=by rw[dF u gp0];simp[fs]
   have ap:=(HG.out _ (bL u gp0)).ops;have V:=an.out _ (bL u gp0);generalize fs d (L.take k)=N at *;generalize L.getD k gp0=p at *;obtain⟨⟨⟨t,r⟩,n,dv,⟨ut,ur⟩,ops⟩,⟨dA,dc,oA,oc⟩⟩:=p;obtain⟨X,Y,au⟩:=ap;have V:ops.length<=1000:=V;have av:=hid (λW (hB:Below w.heap.size w W)=>show W.rangeAt rb (ro+k*7) [t,r,n,.slice dA dv.length dc,ut,ur,.slice oA ops.length oc] from cd s T hB);have ax:=hid Y;have Z:=hid (show fs d (L.take (k+1))=N++opsN d ops from U);have aE:=a.out.size;clear s T U Y au;generalize wr=w0 at *;go_upto_region 6 with fail;go_loopw [5,7] (λo i wr=>∃(j:Nat) (A':Option Addr) (c' m:Nat),j<=ops.length∧i= .int .i64 j∧o= .slice A' m c'∧m<=k*1000+j∧Hid (m=(N++opsN d (ops.take j)).length)∧Hid (wr.ownsRow w.heap.size 108 3 (.slice A' m c') m ((N++opsN d (ops.take j)).flatMap idL))∧Hid (Below w.heap.size w wr)) (λo i _=>ops.length-(RowKit.intOf i).toNat)
   case atStart=>exact⟨0,A',c',m,aq _,rfl,rfl,ao,hid (by rw[l.out];simp[opsN]),hid (by have f:=q.out;simpa[opsN] using f),a⟩
   case round=>
    obtain⟨j,A',c',m,hj,rfl,rfl,aH,l,q,a⟩:=hrel;have ay:=hid (av.out wr a.out);have af:=a.out.size;have g6:wr.cell? ⟨rb,ro+k*7+6,none⟩=some (.slice oA ops.length oc):=ay.out 6 _ rfl;by_cases aa:j<ops.length
    ·have j1:(0:Int)<=(j:Int):=by omega
     have j2:(j:Int)<(ops.length:Int):=by omega
     obtain⟨Q,R,rfl,-,ab,ac⟩:=ax.out j aa;have ad:=jw ac;have F:=opsN_succ d aa;generalize ops.getD j (opO 0 .zero)=o at *;generalize X j=x at *;obtain⟨G,⟨⟨C,D⟩,E⟩,⟨⟨pt,pr⟩,pi⟩,nm,H,I,⟨⟨ae,ar⟩,ai⟩,⟨⟨et,er⟩,ei⟩,tx,v⟩:=o;obtain⟨sA,sc,eA,ec⟩:=x;have az:=hid (λW (hB:Below w.heap.size w W)=>show W.rangeAt Q (R+j*18) [G,C,D,E,pt,pr,pi,nm,H,.slice sA I.length sc,ae,ar,ai,et,er,ei,tx,.slice eA v.length ec] from cd ad ab hB);have g:=hid F;clear ad ab ac F;obtain⟨b1,J⟩:∃b,b=decide (G=0):=⟨_,rfl⟩;obtain⟨b2,K⟩:∃b,b=(H == d):=⟨_,rfl⟩;have q1:(G == 0)=b1:=by rw[J];rfl
     have q2:(H == d)=b2:=K.symm;have g:=hid (show opsN d (ops.take (j+1))=opsN d (ops.take j)++(if (b1 && b2)=true then [⟨⟨C,D⟩,E⟩] else []) by rw[g.out,J,K]);have M:=hid (az.out wr a.out);have z0:wr.cell? ⟨Q,R+j*18,none⟩=some (.int .i64 G):=M.out 0 _ rfl;have z8:wr.cell? ⟨Q,R+j*18+8,none⟩=some (.bool H):=M.out 8 _ rfl;have aA:=hid (show wr.rangeAt Q (R+j*18+1) [C,D,E] from bv (pre:=[G]) (post:=[pt,pr,pi,nm,H,.slice sA I.length sc,ae,ar,ai,et,er,ei,tx,.slice eA v.length ec]) M.out);clear J K;cases b1 with
     |false=>
      go_wp2;go_roundw
      case rel=>exact⟨j+1,A',c',m,by omega,by go_num,rfl,by omega,hid (by rw[g.out];simpa using l.out),hid (by rw[g.out];simpa using q.out),a⟩
      case measure=>(simp[RowKit.intOf];omega)
     | true=>
      cases b2 with
      |false=>
       go_wp2;go_roundw
       case rel=>exact⟨j+1,A',c',m,by omega,by go_num,rfl,by omega,hid (by rw[g.out];simpa using l.out),hid (by rw[g.out];simpa using q.out),a⟩
       case measure=>(simp[RowKit.intOf];omega)
      | true=>
       go_wp2_with (first
        |(refine lM aA aw ?_)
        |(at_builtin;refine bX _ rfl _ _ 123 rfl w.heap.size 108 i0 (.agg #[(0:Int),(0:Int),(0:Int)]) 3 24 eQ hi aj ak am rfl (by decide) (.slice A' m c') m _ rfl (by exact q.out.alloc _) ⟨wr.heap.size,0,none⟩ 1 1 [C,D,E] rfl rfl (λj y h=>dH wr [C,D,E] 108 j y h) (fw (c:=#[C,D,E]) rfl) (by decide) (by unfold maxLen;omega) (by omega) (by simp;omega) (wr.heap.size+1) (by simp) ?_;intro gq aB w5 O z ha ah;have aC:=hid O;have aD:=hid ((a.out.alloc af _).grown z (by simp;omega) (λb hb=>(q.out.lt b hb).1));clear O z ha ah))
       go_roundw
       case rel=>exact⟨j+1,some ⟨gq,0,none⟩,aB,m+1,by omega,by go_num,rfl,by omega,hid (by rw[g.out,aJ (show(true && true)=true from rfl),<-aG,al,<-l.out];rfl),hid (by rw[g.out,aJ (show(true && true)=true from rfl),<-aG,aI];exact aC.out),aD⟩
       case measure=>(simp[RowKit.intOf];omega)
    ·obtain rfl:j=ops.length:=by omega
     have j2:¬(ops.length:Int)<(ops.length:Int):=by omega
     have B:=hid (show m=(fs d (L.take (k+1))).length by rw[Z.out];have f:=l.out;rw[aK] at f;exact f);have P:=hid (show wr.ownsRow w.heap.size 108 3 (.slice A' m c') m ((fs d (L.take (k+1))).flatMap idL) by rw[Z.out];have f:=q.out;rw[aK] at f;exact f);go_wp2;go_roundw
     case rel=>exact⟨k+1,A',c',m,by omega,by go_num,rfl,by omega,B,P,a⟩
     case measure=>(simp[RowKit.intOf];omega)
  ·obtain rfl:k=L.length:=by omega
   have i2:¬(L.length:Int)<(L.length:Int):=by omega
   have B:=hid (show m=(fs d L).length by have f:=l.out;rw[aK] at f;exact f);have P:=hid (show wr.ownsRow w.heap.size 108 3 (.slice A' m c') m ((fs d L).flatMap idL) by have f:=q.out;rw[aK] at f;exact f);go_wp2;go_ret;refine⟨A',c',by rw[<-B.out];rfl,?_,a.out⟩;rw[<-B.out];exact P.out
theorem runs_any (L:List (Grp×GrX)) (A:Option Addr) (c:Nat) (xt xr xi:Int) (S:Nat->Prop) (w00:World) (hl:L.length<=1000) (hlo:∀p∈L,p.1.ops.length<=1000) (hR:RowGr w00 A L) (hG:∀p∈L,GrG w00 S p):
  Calls Tryz.prog 115 #[.slice A L.length c,.agg #[xt,xr,xi]] w00 λe w'=>∃A' c',e= .returned (.slice A' (fK ⟨⟨xt,xr⟩,xi⟩ L).length c')∧w'.ownsRow w00.heap.size 238 7 (.slice A' (fK ⟨⟨xt,xr⟩,xi⟩ L).length c') (fK ⟨⟨xt,xr⟩,xi⟩ L).length ((fK ⟨⟨xt,xr⟩,xi⟩ L).flatMap rnL)∧Below w00.heap.size w00 w':=by
 obtain⟨i0,hi,aR,aS,aT⟩:=bD info_rn;have Y:Below w00.heap.size w00 (w00.alloc (.cells #[xt,xr,xi] 108)):=(ag _ _).alloc (aa _) _;have af:=hid Y;have aU:=hid (am w00 (.cells #[xt,xr,xi] 108));have HR:=hid (hR.below Y);have HG:=hid (λp hp=>(hG p hp).agr (Agr.below Y));clear hR hG Y;go_enter Tryz.func115,Tryz.ntmps115;go_upto_region 1 with fail;generalize hW:w00.alloc (.cells #[xt,xr,xi] 108)=w at *;clear hW;generalize av:w00.heap.size=xb at *;have aV:=hid av;clear av;have aW:=hid hlo;clear hlo;go_upto_region 3 with fail;go_loopw [5,6] (λo i wr=>∃(k:Nat) (A':Option Addr) (c' m:Nat),k<=L.length∧i= .int .i64 k∧o= .slice A' m c'∧m<=k*1000∧Hid (m=(fK ⟨⟨xt,xr⟩,xi⟩ (L.take k)).length)∧Hid (wr.ownsRow w.heap.size 238 7 (.slice A' m c') m ((fK ⟨⟨xt,xr⟩,xi⟩ (L.take k)).flatMap rnL))∧Hid (Below w.heap.size w wr)) (λo i _=>L.length-(RowKit.intOf i).toNat)
 case atStart=>exact⟨0,none,0,0,aq _,rfl,rfl,aq _,hid rfl,hid (aF _ _ _ _),hid (ag _ _)⟩
 case round=>
  obtain⟨k,A',c',m,hk,rfl,rfl,aX,D,HO,g⟩:=hrel;by_cases Z:k<L.length
  ·have i1:(0:Int)<=(k:Int):=by omega
   have i2:(k:Int)<(L.length:Int):=by omega
   obtain⟨rb,ro,rfl,ax,J⟩:=HR.out.range Z;have ay:fK ⟨⟨xt,xr⟩,xi⟩ (L.take (k+1))=fK ⟨⟨xt,xr⟩,xi⟩ (L.take k)++opsR ⟨⟨xt,xr⟩,xi⟩ (L.getD k gp0).1.ops:=by rw[dF Z gp0];simp[fK]
   have aY:=(HG.out _ (bL Z gp0)).ops;have aA:=aW.out _ (bL Z gp0);generalize fK ⟨⟨xt,xr⟩,xi⟩ (L.take k)=N at *;generalize L.getD k gp0=p at *;obtain⟨⟨⟨t,r⟩,n,dv,⟨ut,ur⟩,ops⟩,⟨dA,dc,oA,oc⟩⟩:=p;obtain⟨X,aB,aZ⟩:=aY;have aA:ops.length<=1000:=aA;have a0:=hid (λW (hB:Below w.heap.size w W)=>show W.rangeAt rb (ro+k*7) [t,r,n,.slice dA dv.length dc,ut,ur,.slice oA ops.length oc] from cd J ax hB);have a1:=hid aB;have aC:=hid (show fK ⟨⟨xt,xr⟩,xi⟩ (L.take (k+1))=N++opsR ⟨⟨xt,xr⟩,xi⟩ ops from ay);have ba:=g.out.size;clear J ax ay aB aZ;generalize wr=w0 at *;go_upto_region 6 with fail;go_loopw [5,7] (λo i wr=>∃(j:Nat) (A':Option Addr) (c' m:Nat),j<=ops.length∧i= .int .i64 j∧o= .slice A' m c'∧m<=k*1000+j∧Hid (m=(N++opsR ⟨⟨xt,xr⟩,xi⟩ (ops.take j)).length)∧Hid (wr.ownsRow w.heap.size 238 7 (.slice A' m c') m ((N++opsR ⟨⟨xt,xr⟩,xi⟩ (ops.take j)).flatMap rnL))∧Hid (Below w.heap.size w wr)) (λo i _=>ops.length-(RowKit.intOf i).toNat)
   case atStart=>exact⟨0,A',c',m,aq _,rfl,rfl,aX,hid (by rw[D.out];simp[opsR]),hid (by have l:=HO.out;simpa[opsR] using l),g⟩
   case round=>
    obtain⟨j,A',c',m,hj,rfl,rfl,bb,D,HO,g⟩:=hrel;have a2:=hid (a0.out wr g.out);have aO:=g.out.size;have g6:wr.cell? ⟨rb,ro+k*7+6,none⟩=some (.slice oA ops.length oc):=a2.out 6 _ rfl;by_cases aD:j<ops.length
    ·have j1:(0:Int)<=(j:Int):=by omega
     have j2:(j:Int)<(ops.length:Int):=by omega
     obtain⟨ob,oo,rfl,-,aE,aH⟩:=a1.out j aD;have aL:=jw aH;have ah:=opsR_succ ⟨⟨xt,xr⟩,xi⟩ aD;generalize ops.getD j (opO 0 .zero)=o at *;generalize X j=x at *;obtain⟨E,⟨⟨F,G⟩,H⟩,⟨⟨K,M⟩,O⟩,P,Q,f,⟨⟨d,q⟩,s⟩,⟨⟨u,v⟩,z⟩,C,a⟩:=o;obtain⟨R,T,U,V⟩:=x;have a3:=hid (λW (hB:Below w.heap.size w W)=>show W.rangeAt ob (oo+j*18) [E,F,G,H,K,M,O,P,Q,.slice R f.length T,d,q,s,u,v,z,C,.slice U a.length V] from cd aL aE hB);have B:=hid ah;clear aL aE aH ah;obtain⟨b1,aj⟩:∃b,b=decide (E=3):=⟨_,rfl⟩;obtain⟨b2,ak⟩:∃b,b=Gid.eqb ⟨⟨F,G⟩,H⟩ ⟨⟨xt,xr⟩,xi⟩:=⟨_,rfl⟩;have q1:(E == 3)=b1:=by rw[aj];rfl
     have q2:=eJ F G H xt xr xi b2 ak.symm;have B:=hid (show opsR ⟨⟨xt,xr⟩,xi⟩ (ops.take (j+1))=opsR ⟨⟨xt,xr⟩,xi⟩ (ops.take j)++(if (b1 && b2)=true then [(⟨⟨⟨d,q⟩,s⟩,⟨⟨u,v⟩,z⟩,C⟩:Rn)] else []) by rw[B.out,aj,ak]);have a4:=hid (a3.out wr g.out);clear aj ak
     go_upto_region 9 with(first
      |(refine lM a4 az ?_)
      |(refine bM rfl _ _ _ rfl _ _ _ _ rfl ?_ rfl ?_ ?_ ?_ ?_;(focus(simp;done));kernel_rfl;rfl;rfl))
     have ab:=g.out.alloc aO (.cells #[E,F,G,H,K,M,O,P,Q,.slice R f.length T,d,q,s,u,v,z,C,.slice U a.length V] 125);have aM:Below wr.heap.size wr (wr.alloc (.cells #[E,F,G,H,K,M,O,P,Q,.slice R f.length T,d,q,s,u,v,z,C,.slice U a.length V] 125)):=(ag _ _).alloc (aa _) _;have I:=hid (am wr (.cells #[E,F,G,H,K,M,O,P,Q,.slice R f.length T,d,q,s,u,v,z,C,.slice U a.length V] 125));have an:=bK ab aU;generalize hW:wr.alloc (.cells #[E,F,G,H,K,M,O,P,Q,.slice R f.length T,d,q,s,u,v,z,C,.slice U a.length V] 125)=W at *;have ao:=hid ab;have aP:=ab.size;have ac:=kO HO aM;clear hW ab aM;have z0:=cw0 I.out;have z1:=cw1 I.out;have z2:=cw2 I.out;have z3:=cw3 I.out;have bc:=cw16 I.out;have x0:=cw0 an.out;have x1:=cw1 an.out;have x2:=cw2 an.out;have aN:=hid (show W.rangeAt wr.heap.size 0 [E,F,G,H,K,M,O,P,Q,.slice R f.length T,d,q,s,u,v,z,C,.slice U a.length V] from bf I.out);have a5:=hid (show W.rangeAt wr.heap.size 10 [d,q,s] from bv (pre:=[E,F,G,H,K,M,O,P,Q,.slice R f.length T]) (post:=[u,v,z,C,.slice U a.length V]) aN.out);have a6:=hid (show W.rangeAt wr.heap.size 13 [u,v,z] from bv (pre:=[E,F,G,H,K,M,O,P,Q,.slice R f.length T,d,q,s]) (post:=[C,.slice U a.length V]) aN.out);cases b1 with
     |false=>
      go_wp2;go_roundw
      case rel=>exact⟨j+1,A',c',m,by omega,by go_num,rfl,by omega,hid (by rw[B.out];simpa using D.out),hid (by rw[B.out];simpa using ac.out),ao⟩
      case measure=>(simp[RowKit.intOf];omega)
     | true=>
      cases b2 with
      |false=>
       go_wp2;go_roundw
       case rel=>exact⟨j+1,A',c',m,by omega,by go_num,rfl,by omega,hid (by rw[B.out];simpa using D.out),hid (by rw[B.out];simpa using ac.out),ao⟩
       case measure=>(simp[RowKit.intOf];omega)
      | true=>
       go_wp2_with (first
        |(refine ii rfl _ _ rfl wr.heap.size (10) rfl [d,q,s] _ a5.out aw rfl (by kernel_rfl) ?_)
        |(refine ii rfl _ _ rfl wr.heap.size (13) rfl [u,v,z] _ a6.out aw rfl (by kernel_rfl) ?_)
        |(at_builtin;refine bX _ rfl _ _ 171 rfl w.heap.size 238 i0 (.agg #[(0:Int),(0:Int),(0:Int),(0:Int),(0:Int),(0:Int),.string ⟨#[]⟩]) 7 64 Tryz.underlying171 hi aR aS aT rfl (by decide) (.slice A' m c') m _ rfl (by exact ac.out.alloc _) ⟨W.heap.size,0,none⟩ 1 1 [d,q,s,u,v,z,C] rfl rfl (λj y h=>dH W [d,q,s,u,v,z,C] 238 j y h) (fw (c:=#[d,q,s,u,v,z,C]) rfl) (by decide) (by unfold maxLen;omega) (by omega) (by simp;omega) (W.heap.size+1) (by simp) ?_;intro gq a7 w5 ap ad ha aQ;have a8:=hid ap;have a9:=hid ((ao.out.alloc aP _).grown ad (by simp;omega) (λb hb=>(ac.out.lt b hb).1));clear ap ad ha aQ))
       go_roundw
       case rel=>exact⟨j+1,some ⟨gq,0,none⟩,a7,m+1,by omega,by go_num,rfl,by omega,hid (by rw[B.out,aJ (show(true && true)=true from rfl),<-aG,al,<-D.out];rfl),hid (by rw[B.out,aJ (show(true && true)=true from rfl),<-aG,aI];exact a8.out),a9⟩
       case measure=>(simp[RowKit.intOf];omega)
    ·obtain rfl:j=ops.length:=by omega
     have j2:¬(ops.length:Int)<(ops.length:Int):=by omega
     have ae:=hid (show m=(fK ⟨⟨xt,xr⟩,xi⟩ (L.take (k+1))).length by rw[aC.out];have l:=D.out;rw[aK] at l;exact l);have au:=hid (show wr.ownsRow w.heap.size 238 7 (.slice A' m c') m ((fK ⟨⟨xt,xr⟩,xi⟩ (L.take (k+1))).flatMap rnL) by rw[aC.out];have l:=HO.out;rw[aK] at l;exact l);go_wp2;go_roundw
     case rel=>exact⟨k+1,A',c',m,by omega,by go_num,rfl,by omega,ae,au,g⟩
     case measure=>(simp[RowKit.intOf];omega)
  ·obtain rfl:k=L.length:=by omega
   have i2:¬(L.length:Int)<(L.length:Int):=by omega
   have ae:=hid (show m=(fK ⟨⟨xt,xr⟩,xi⟩ L).length by have l:=D.out;rw[aK] at l;exact l);have au:=hid (show wr.ownsRow w.heap.size 238 7 (.slice A' m c') m ((fK ⟨⟨xt,xr⟩,xi⟩ L).flatMap rnL) by have l:=HO.out;rw[aK] at l;exact l);obtain rfl:=aV.out;go_wp2;go_ret;refine⟨A',c',by rw[<-ae.out];rfl,?_,af.out.trans (g.out.mono af.out.size)⟩;rw[<-ae.out];exact iC au.out af.out.size
end
section
open Go.RowKit Go.Lib Go.Sort
def strL (t:ByteArray):List Value:=[t]
def SpR (r:Option Nat) (w:World) (e:Ending) (w':World):Prop:=match r with
 |none=>e= .returned (.tuple #[.slice none 0 0,(60:Int)])∧Below w.heap.size w w'
 |some m=>∃A c,∃ps:List ByteArray,m=ps.length∧e= .returned (.tuple #[.slice A m c,(0:Int)])∧w'.ownsRow w.heap.size 9 1 (.slice A m c) m (ps.flatMap strL)∧Below w.heap.size w w'
theorem split6_row (s:ByteArray) (w:World) (hs:s.size<=1000000):
  Calls Tryz.prog 193 #[s] w λe w'=>SpR (cnt s.data.toList) w e w':=by
 obtain⟨R,z⟩:∃R,R=cnt s.data.toList:=⟨_,rfl⟩;rw[<-z];have S:=hid z;clear z;obtain⟨U,V,H,I,J⟩:=bD infoStr;go_enter Tryz.func193,Tryz.ntmps193;go_wp2;go_loopw [0,4] (λt v wr=>∃T:ByteArray,∃(A:Option Addr) (m c:Nat),∃o:List ByteArray,t= .string T∧v= .slice A m c∧T.size+m<=s.size∧Hid (m=o.length)∧Hid (wr.ownsRow w.heap.size 9 1 (.slice A m c) m (o.flatMap strL))∧Hid (Below w.heap.size w wr)∧Hid (R=cntAdd m (cnt T.data.toList))) (λt _ _=>match t with| .string T=>T.size|_=>0)
 case atStart=>exact⟨s,none,0,0,[],rfl,rfl,by omega,hid rfl,hid (aF w w.heap.size 9 1),hid (ag _ _),by
  show R=_;rw[S.out]
  cases cnt s.data.toList<;>rfl⟩
 case round=>
  obtain⟨T,A,m,c,o,rfl,rfl,hm,K,B,q,C⟩:=hrel;have b:T.data.toList.length=T.size:=by simp
  by_cases W:0<T.size
  ·have d:T.data.toList≠[]:=λe=>by rw[e] at b;simp at b;omega
   have n:=first_any T wr (by omega) W;cases f:rfL T.data.toList with
   |none=>
    rw[f] at n;obtain rfl:R=none:=by rw[C.out,cntAdd_none d m f]
    have D:Hid (Calls Tryz.prog 212 #[T] wr λe w'=>e= .returned (.tuple #[(0:Int),(0:Int),false])∧w'=wr):=n;clear n f d b B;go_wp2_with fail;refine D.out.mono ?_;rintro e L ⟨rfl,rfl⟩;go_wp2;go_ret2;exact⟨rfl,q.out⟩
   | some p=>
    obtain⟨X,k⟩:=p;rw[f] at n;have M:=je d f;rw[b] at M;have N:Hid (R=cntAdd (m+1) (cnt (T.extract k T.size).data.toList)):=by
     show R=_;rw[C.out,cntAdd_step d m f,drop_ext]
    have D:Hid (Calls Tryz.prog 212 #[T] wr λe w'=>e= .returned (.tuple #[.int .i64 (X:Nat),.int .i64 (k:Nat),true])∧w'=wr):=n;obtain⟨Z,aa⟩:=M;have b1:(0:Int)<=(k:Int):=by omega
    have b2:(k:Int)<=(T.size:Int):=by omega
    have ab:=q.out.size;have x:(T.extract k T.size).size=T.size-k:=by rw[cI];omega
    have y:=hid x;clear n f d b x;go_wp2_with fail;refine D.out.mono ?_;rintro e L ⟨rfl,rfl⟩;have O:=B.out;go_wp2_with (at_builtin;refine bu _ rfl _ _ 60 rfl w.heap.size 9 U (.string ⟨#[]⟩) 1 16 Tryz.underlying60 V H I J rfl (by decide) _ _ _ rfl (by exact O.alloc _) ⟨L.heap.size,0,none⟩ 1 1 [.string (T.extract 0 k)] rfl rfl (by exact cell1 _ _ _) (λu P=>by simp at P;subst P;rfl) (by unfold maxLen;omega) (by omega) (by simp;omega) ?_;intro Y w3 j r _);obtain⟨E,F,rfl⟩:∃E F,Y=Value.slice E (m+1) F:=by
     rcases j.2 with⟨rfl,h9⟩|⟨g,cap,cur,rfl,_⟩
     ·exact⟨_,_,by rw[show m+1=0 from h9]⟩
     ·exact⟨_,_,rfl⟩
    go_roundw
    case rel=>exact⟨_,E,m+1,F,o++[T.extract 0 k],rfl,rfl,by rw[y.out];omega,hid (by rw[al,<-K.out];rfl),hid (by rw[aI];exact j),hid ((q.out.alloc (by omega) _).grown r (by simp;omega) (λi h=>(O.lt i h).1)),N⟩
    case measure=>show(T.extract k T.size).size<T.size;rw[y.out];omega
  ·have G:T.data.toList=[]:=by
    cases e:T.data.toList with
    |nil=>rfl
    |cons a l=>rw[e] at b;simp at b;omega
   obtain rfl:R=some m:=by rw[C.out,G,cnt_nil];show some (0+m)=_;rw[bN]
   have Q:T.size=0:=by omega
   obtain rfl:T=⟨#[]⟩:=gm.1 G;clear b G Q;go_wp2;go_ret2;exact⟨A,c,o,K.out,rfl,B.out,q.out⟩
end
section
open Go.RowKit Go.Lib Go.Sort
attribute [local go_sem ↓] Go.wp_at_zero Go.wp_at_succ
def dZ (L:List Plc) (x:Gid):Option Nat:=L.findIdx? λy=>y.n.eqb x
def gv (L:List Plc) (up:Gid):Nat->Gid->Bool
 |0,_=>true
 |f+1,x=>if x.eqb up=true then true else match dZ L x with
  |none=>false
  |some k=>gv L up f (L.getD k plc0).p
def jq (L:List Plc) (x up:Gid):Bool:=gv L up (L.length+1) x
theorem fL {L:List Plc} {x:Gid} {k:Nat} (h:dZ L x=some k):k<L.length∧(L.getD k plc0).n=x:=by
 unfold dZ at h;rw[List.findIdx?_eq_some_iff_getElem] at h;obtain⟨a,b,-⟩:=h;refine⟨a,?_⟩;rw[ae,an a];exact Gid.eqb_iff.1 b
theorem within_any (L:List Plc) (A:Option Addr) (c:Nat) (xt xr xi ut ur ui:Int) (S:Nat->Prop) (w00:World) (hl:L.length<=100000) (hR:RowF w00 S A 8 plcL plc0 L):
  Calls Tryz.prog 168 #[.slice A L.length c,.agg #[xt,xr,xi],.agg #[ut,ur,ui]] w00 λe w'=>e= .returned (.bool (jq L ⟨⟨xt,xr⟩,xi⟩ ⟨⟨ut,ur⟩,ui⟩))∧Below w00.heap.size w00 w':=by
 obtain⟨j,m⟩:∃b,b=jq L ⟨⟨xt,xr⟩,xi⟩ ⟨⟨ut,ur⟩,ui⟩:=⟨_,rfl⟩;rw[<-m];have N:=hid m;have G:Below w00.heap.size w00 ((w00.alloc (.cells #[xt,xr,xi] 108)).alloc (.cells #[ut,ur,ui] 108)):=((ag _ _).alloc (aa _) _).alloc (by simp) _;have H:=am w00 (.cells #[xt,xr,xi] 108);have I:((w00.alloc (.cells #[xt,xr,xi] 108)).alloc (.cells #[ut,ur,ui] 108)).heap[w00.heap.size+1]? =some (.cells #[ut,ur,ui] 108 (0,0)):=bn _ _ (by simp);have J:((w00.alloc (.cells #[xt,xr,xi] 108)).alloc (.cells #[ut,ur,ui] 108)).heap[w00.heap.size]? =some (.cells #[xt,xr,xi] 108 (0,0)):=(ax _ _ _ (by simp)).trans H;have P:=hid G;have Q:=hid J;have R:=hid I;have T:=hid hR;clear hR m G H I J;go_enter Tryz.func168,Tryz.ntmps168;go_upto_region 2 with fail;generalize hW:(w00.alloc (.cells #[xt,xr,xi] 108)).alloc (.cells #[ut,ur,ui] 108)=w at *;clear hW;go_loopw [7] (λi wr=>∃(n:Nat) (x:Gid),n<=L.length+1∧i= .int .i64 n∧Hid (wr.heap[w00.heap.size]? =some (.cells (idL x).toArray 108 (0,0)))∧Hid (wr.heap[w00.heap.size+1]? =some (.cells #[ut,ur,ui] 108 (0,0)))∧Hid (j=gv L ⟨⟨ut,ur⟩,ui⟩ (L.length+1-n) x)∧Hid (Below w00.heap.size w00 wr)) (λi _=>L.length+1-(RowKit.intOf i).toNat)
 case atStart=>exact⟨0,⟨⟨xt,xr⟩,xi⟩,aq _,rfl,Q,R,hid (by rw[N.out];rfl),P⟩
 case round=>
  obtain⟨n,x,hn,rfl,v,E,C,h⟩:=hrel;by_cases ae:n<=L.length
  ·have i1:(n:Int)<=(L.length:Int):=by omega
   obtain⟨f,F⟩:∃f,L.length+1-n=f+1:=⟨L.length-n,by omega⟩;have HF:=hid (show L.length+1-(n+1)=f by omega);rw[F] at C;obtain⟨⟨t,r⟩,q⟩:=x;have v:Hid (wr.heap[w00.heap.size]? =some (.cells #[t,r,q] 108 (0,0))):=v;obtain⟨b,o⟩:∃b,b=Gid.eqb ⟨⟨t,r⟩,q⟩ ⟨⟨ut,ur⟩,ui⟩:=⟨_,rfl⟩;have q1:=eJ t r q ut ur ui b o.symm;have s:=hid (show Calls Tryz.prog 169 #[.slice A L.length c,.agg #[t,r,q]] wr λe w'=>e= .returned (.int .i64 (ixI (dZ L ⟨⟨t,r⟩,q⟩)))∧Below wr.heap.size wr w' from gX L A c ⟨⟨t,r⟩,q⟩ S wr (by omega) (T.out.below h.out));cases b with
   | true=>
    have a:=hid (show j=true by rw[C.out,gv,aJ o.symm]);clear o F
    go_wp2_with (first
     |(refine lA v aw ?_)
     |(refine lA E aw ?_))
    go_ret;exact⟨by rw[a.out];rfl,h.out⟩
   | false=>
    cases d:dZ L ⟨⟨t,r⟩,q⟩ with
    | none=>
     have a:=hid (show j=false by rw[C.out,gv,aC (by rw[<-o];decide),d]);rw[d] at s;clear o F d
     go_wp2_with (first
      |(refine lA v aw ?_)
      |(refine lA E aw ?_)
      |(go_at_call 169;refine s.out.mono ?_;rintro e O ⟨rfl,g⟩;have u:=hid g;clear g;dsimp only[ixI]))
     go_ret;exact⟨by rw[a.out];rfl,h.out.trans (u.out.mono h.out.size)⟩
    | some k=>
     obtain⟨hk,-⟩:=fL d;have a:=hid (show j=gv L ⟨⟨ut,ur⟩,ui⟩ f (L.getD k plc0).p by rw[C.out,gv,aC (by rw[<-o];decide),d]);rw[d] at s;obtain⟨rb,ro,rfl,-,K,l⟩:=T.out.range (λ_=>rfl) hk;have i3:(0:Int)<=(k:Int):=by omega
     have i4:(k:Int)<(L.length:Int):=by omega
     have i5:¬(k:Int)<0:=by omega
     generalize L.getD k plc0=p at *;obtain⟨⟨⟨nt,nr⟩,ni⟩,⟨⟨y,z⟩,B⟩,nm,dd⟩:=p;have U:=hid (λW (hB:Below w00.heap.size w00 W)=>show W.rangeAt rb (ro+k*8+3) [y,z,B] from bv (pre:=[nt,nr,ni]) (post:=[nm,dd]) (cd l K hB));have X:=hid (show(#[y,z,B]:Array Value).toList.all (·.oneCell')=true from rfl);clear o F d l K
     go_upto_region 9 with(first
      |(refine lA v aw ?_)
      |(refine lA E aw ?_)
      |(go_at_call 169;refine s.out.mono ?_;rintro e O ⟨rfl,g⟩;have M:=bK g v;have Y:=bK g E;have u:=bT h g;have Z:=hid (U.out O u.out);clear g;dsimp only[ixI]))
     obtain⟨V,D⟩:∃V,V=O.setRow w00.heap.size #[y,z,B]:=⟨_,rfl⟩;have HV:=hid D;have ab:=hid (show V.heap[w00.heap.size]? =some (.cells #[y,z,B] 108 (0,0)) by rw[D];exact aM _ M.out);have ac:=hid (show V.heap[w00.heap.size+1]? =some (.cells #[ut,ur,ui] 108 (0,0)) by rw[D,setRow_other _ _ _ _ (by omega)];exact Y.out);have ad:=hid (show Below w00.heap.size w00 V by rw[D];exact Below.setRow' u.out (aa _) _);clear D
     go_wp2_with (first
      |(refine lM Z aw ?_)
      |(refine da rfl _ _ _ rfl w00.heap.size 108 #[t,r,q] #[y,z,B] rfl rfl M.out (by kernel_rfl) rfl X.out ?_;rw[<-HV.out]))
     go_roundw
     case rel=>exact⟨n+1,⟨⟨y,z⟩,B⟩,by omega,by go_num,ab,ac,hid (by rw[HF.out];exact a.out),ad⟩
     case measure=>(simp[RowKit.intOf];omega)
  ·obtain rfl:n=L.length+1:=by omega
   have i1:¬((L.length:Int)+1)<=(L.length:Int):=by omega
   have i2:¬(((L.length+1:Nat):Int))<=(L.length:Int):=by omega
   have a:=hid (show j=true by rw[C.out,Nat.sub_self];rfl);go_wp2;go_ret;exact⟨by rw[a.out];rfl,h.out⟩
def g8 (out:List Plc) (x:Told):List Plc:=
 if (x.p.n.eqb .zero || jq out x.p.p x.p.n)=true then out else match dZ out x.p.n with
  |some k=>out.set k ⟨x.p.n,x.p.p,x.p.name,(out.getD k plc0).dir⟩
  |none=>insB (λy=>x.p.n.lt y.n) plc0 out x.p
def fH (l:List Told):List Plc:=(jG l).foldl g8 []
theorem stepP_len (out:List Plc) (x:Told):(g8 out x).length<=out.length+1:=by
 unfold g8;split
 ·omega
 ·split
  ·rw[cM];omega
  ·rw[j0];exact aa _
theorem foldP_len:∀(l:List Told) (out:List Plc),(l.foldl g8 out).length<=out.length+l.length
 | [],out=>aa _
 |x::l,out=>by
  have h1:=foldP_len l (g8 out x)
  have h2:=stepP_len out x
  rw[dU,bG];omega
theorem replayL_len (l:List Told):(fH l).length<=l.length:=by
 unfold fH;have a:=foldP_len (jG l) [];have b:=sortT_len l [];simp only[fU,bN] at a b;exact aL a b
theorem replay_any (L:List Told) (A A2:Option Addr) (c c2:Nat) (S S2:Nat->Prop) (w00:World) (hl:L.length<=100000) (hR:RowF w00 S A 3 idL Gid.zero (L.map (·.a))) (hR2:RowF w00 S2 A2 8 plcL plc0 (L.map (·.p))):
  Calls Tryz.prog 111 #[.slice A L.length c,.slice A2 L.length c2] w00 λe w'=>∃A' c',e= .returned (.slice A' (fH L).length c')∧w'.ownsRow w00.heap.size 161 8 (.slice A' (fH L).length c') (fH L).length ((fH L).flatMap plcL)∧Below w00.heap.size w00 w':=by
 obtain⟨i0,hi,bR,bS,aM⟩:=bD info_plc;have bp:=hid (sortedt_any L A A2 c c2 S S2 w00 hl hR hR2);have aY:=sortT_len L [];obtain⟨N,hN⟩:∃N,N=jG L:=⟨_,rfl⟩;obtain⟨R,aZ⟩:∃R,R=fH L:=⟨_,rfl⟩;have bU:=hid (show R=N.foldl g8 [] by rw[aZ,hN];rfl);rw[<-aZ];rw[<-hN] at bp;have ck:N.length<=100000:=by rw[hN];simp only[fU,bN] at aY;exact aL aY hl
 clear hR hR2 aZ hN aY;go_enter Tryz.func111,Tryz.ntmps111;go_upto_region 4 with(go_at_call 167;refine bp.out.mono ?_;rintro e w ⟨A1,c1,rfl,aN,bq⟩;have bV:=hid aN;have a0:=hid bq;clear aN bq);go_loopw [6,7] (λo i wr=>∃(k:Nat) (A':Option Addr) (c' m:Nat) (M:List Plc),k<=N.length∧i= .int .i64 k∧o= .slice A' m c'∧m<=k∧Hid (m=M.length)∧Hid (M=(N.take k).foldl g8 [])∧Hid (wr.ownsRow w.heap.size 161 8 (.slice A' m c') m (M.flatMap plcL))∧Hid (Below w.heap.size w wr)) (λo i _=>N.length-(RowKit.intOf i).toNat)
 case atStart=>exact⟨0,none,0,0,[],aq _,rfl,rfl,aa _,hid rfl,hid rfl,hid (aF _ _ _ _),hid (ag _ _)⟩
 case round=>
  obtain⟨k,A',c',m,M,hk,rfl,rfl,cl,H,HM,HO,aO⟩:=hrel;by_cases br:k<N.length
  ·have i1:(0:Int)<=(k:Int):=by omega
   have i2:(k:Int)<(N.length:Int):=by omega
   obtain⟨rb,rfl,-,bs,az⟩:=jY (f:=toldL) (λ_=>rfl) bV.out br fE;have bt:((N.take (k+1)).foldl g8 [])=g8 M (N.getD k fE):=by rw[HM.out];exact eL _ _ br fE
   generalize N.getD k fE=p at *;obtain⟨⟨⟨t,r⟩,n⟩,⟨⟨⟨g,l⟩,s⟩,⟨⟨u,B⟩,C⟩,E,G⟩⟩:=p;have bu:=aO.out.size;have cj:m<=100000:=by omega
   have bw:=hid (show wr.rangeAt rb (k*11+3) [.int .i64 g,.int .i64 l,.int .i64 s,.int .i64 u,.int .i64 B,.int .i64 C,.string E,.bool G] from bv (pre:=[.int .i64 t,.int .i64 r,.int .i64 n]) (post:=[]) (cd az bs aO.out));obtain⟨b0,a1⟩:∃b,b=Gid.eqb ⟨⟨g,l⟩,s⟩ ⟨⟨0,0⟩,0⟩:=⟨_,rfl⟩;obtain⟨b1,a2⟩:∃b,b=jq M ⟨⟨u,B⟩,C⟩ ⟨⟨g,l⟩,s⟩:=⟨_,rfl⟩;have q0:=eJ g l s 0 0 0 b0 a1.symm
   have an:=hid (show((N.take (k+1)).foldl g8 [])=if (b0 || b1)=true then M else match dZ M ⟨⟨g,l⟩,s⟩ with
    |some k=>M.set k ⟨⟨⟨g,l⟩,s⟩,⟨⟨u,B⟩,C⟩,E,(M.getD k plc0).dir⟩
    |none=>insB (λy=>Gid.lt ⟨⟨g,l⟩,s⟩ y.n) plc0 M ⟨⟨⟨g,l⟩,s⟩,⟨⟨u,B⟩,C⟩,E,G⟩ by rw[bt,a1,a2];rfl)
   have aP:=hid (λW (hB:Below wr.heap.size wr W)=>show Calls Tryz.prog 168 #[.slice A' m c',.agg #[u,B,C],.agg #[g,l,s]] W λe w'=>e= .returned (.bool b1)∧Below W.heap.size W w' from by
    have h9:=within_any M A' c' u B C g l s _ W (by rw[<-H.out];omega) (ct (f:=plcL) (z:=plc0) (λ_=>rfl) H.out (HO.out.kept (dg (r:=none) hB) (cw _)))
    rw[<-H.out,<-a2] at h9;exact h9)
   have aA:=hid (λW (hB:Below wr.heap.size wr W)=>show Calls Tryz.prog 169 #[.slice A' m c',.agg #[g,l,s]] W λe w'=>e= .returned (.int .i64 (ixI (dZ M ⟨⟨g,l⟩,s⟩)))∧Below W.heap.size W w' from by
    have h9:=gX M A' c' ⟨⟨g,l⟩,s⟩ _ W (by rw[<-H.out];omega) (ct (f:=plcL) (z:=plc0) (λ_=>rfl) H.out (HO.out.kept (dg (r:=none) hB) (cw _)))
    rw[<-H.out] at h9;exact h9)
   clear bt a1 a2 az bs
   go_upto_region 7 with(first
    |(refine lM bw ca ?_)
    |(refine bM rfl _ _ _ rfl _ _ _ _ rfl ?_ rfl ?_ ?_ ?_ ?_;(focus(simp;done));kernel_rfl;rfl;rfl))
   have bx:=aO.out.alloc bu (.cells #[g,l,s,u,B,C,E,G] 161);have a3:Below wr.heap.size wr (wr.alloc (.cells #[g,l,s,u,B,C,E,G] 161)):=(ag _ _).alloc (aa _) _;have O:=hid (am wr (.cells #[g,l,s,u,B,C,E,G] 161));generalize hW:wr.alloc (.cells #[g,l,s,u,B,C,E,G] 161)=W at *;have aB:=hid bx;have ak:=hid a3;have bB:=kO HO a3;clear hW bx a3;have z0:=cw0 O.out;have z1:=cw1 O.out;have z2:=cw2 O.out;have z3:=cw3 O.out;have z4:=cw4 O.out;have z5:=cw5 O.out;have z6:=cw6 O.out;have z7:=cw7 O.out;cases b0 with
   |true=>
    have X:=hid (show((N.take (k+1)).foldl g8 [])=M by rw[an.out];rfl);go_wp2;go_roundw
    case rel=>exact⟨k+1,A',c',m,M,by omega,by go_num,rfl,by omega,H,hid X.out.symm,bB,aB⟩
    case measure=>(simp[RowKit.intOf];omega)
   | false=>
    cases b1 with
    |true=>
     have X:=hid (show((N.take (k+1)).foldl g8 [])=M by rw[an.out];rfl);go_wp2_with (go_at_call 168;refine(aP.out W ak.out).mono ?_;rintro e I ⟨rfl,J⟩;have D:=bK J O;have ah:=bT ak J;have ao:=bT aB J;clear J;have v0:I.cell? ⟨wr.heap.size,0,none⟩=some (.int .i64 g):=aD _ _ _ _ _ _ D.out;have v1:I.cell? ⟨wr.heap.size,1,none⟩=some (.int .i64 l):=aD _ _ _ _ _ _ D.out;have v2:I.cell? ⟨wr.heap.size,2,none⟩=some (.int .i64 s):=aD _ _ _ _ _ _ D.out;have v3:I.cell? ⟨wr.heap.size,3,none⟩=some (.int .i64 u):=aD _ _ _ _ _ _ D.out;have v4:I.cell? ⟨wr.heap.size,4,none⟩=some (.int .i64 B):=aD _ _ _ _ _ _ D.out;have v5:I.cell? ⟨wr.heap.size,5,none⟩=some (.int .i64 C):=aD _ _ _ _ _ _ D.out;have v6:I.cell? ⟨wr.heap.size,6,none⟩=some (.string E):=aD _ _ _ _ _ _ D.out;have v7:I.cell? ⟨wr.heap.size,7,none⟩=some (.bool G):=aD _ _ _ _ _ _ D.out);have bW:=kO HO ah.out;go_roundw
     case rel=>exact⟨k+1,A',c',m,M,by omega,by go_num,rfl,by omega,H,hid X.out.symm,bW,ao⟩
     case measure=>(simp[RowKit.intOf];omega)
    | false=>
     cases al:dZ M ⟨⟨g,l⟩,s⟩ with
     | none=>
      have X:=hid (show((N.take (k+1)).foldl g8 [])=insB (λy:Plc=>Gid.lt ⟨⟨g,l⟩,s⟩ y.n) plc0 M ⟨⟨⟨g,l⟩,s⟩,⟨⟨u,B⟩,C⟩,E,G⟩ by rw[an.out,aC (by decide),al]);rw[al] at aA;clear al an
      go_upto_region 12 with(first
       |(go_at_call 168;refine(aP.out W ak.out).mono ?_;rintro e I ⟨rfl,J⟩;have D:=bK J O;have ah:=bT ak J;have ao:=bT aB J;clear J;have v0:I.cell? ⟨wr.heap.size,0,none⟩=some (.int .i64 g):=aD _ _ _ _ _ _ D.out;have v1:I.cell? ⟨wr.heap.size,1,none⟩=some (.int .i64 l):=aD _ _ _ _ _ _ D.out;have v2:I.cell? ⟨wr.heap.size,2,none⟩=some (.int .i64 s):=aD _ _ _ _ _ _ D.out;have v3:I.cell? ⟨wr.heap.size,3,none⟩=some (.int .i64 u):=aD _ _ _ _ _ _ D.out;have v4:I.cell? ⟨wr.heap.size,4,none⟩=some (.int .i64 B):=aD _ _ _ _ _ _ D.out;have v5:I.cell? ⟨wr.heap.size,5,none⟩=some (.int .i64 C):=aD _ _ _ _ _ _ D.out;have v6:I.cell? ⟨wr.heap.size,6,none⟩=some (.string E):=aD _ _ _ _ _ _ D.out;have v7:I.cell? ⟨wr.heap.size,7,none⟩=some (.bool G):=aD _ _ _ _ _ _ D.out)
       |(go_at_call 169;refine(aA.out I ah.out).mono ?_;rintro e w3 ⟨rfl,Y⟩;have ap:=bK Y D;have aQ:=bT ah Y;have ar:=bT ao Y;have au:=kO HO aQ.out;clear Y;dsimp only[ixI]))
      have a4:=ar.out.size
      go_upto_region 14 with(first
       |(refine lA ap ca ?_)
       |(at_builtin;refine bX _ rfl _ _ 101 rfl w.heap.size 161 i0 (.agg #[(0:Int),(0:Int),(0:Int),(0:Int),(0:Int),(0:Int),.string ⟨#[]⟩,false]) 8 72 Tryz.underlying101 hi bR bS aM rfl (by decide) (.slice A' m c') m _ rfl (by exact au.out.alloc _) ⟨w3.heap.size,0,none⟩ 1 1 [.int .i64 g,.int .i64 l,.int .i64 s,.int .i64 u,.int .i64 B,.int .i64 C,.string E,.bool G] rfl rfl (λj y h=>dH w3 [.int .i64 g,.int .i64 l,.int .i64 s,.int .i64 u,.int .i64 B,.int .i64 C,.string E,.bool G] 161 j y h) (fw (c:=#[.int .i64 g,.int .i64 l,.int .i64 s,.int .i64 u,.int .i64 B,.int .i64 C,.string E,.bool G]) rfl) (by decide) (by unfold maxLen;omega) (by omega) (by simp;omega) (w3.heap.size+1) (by simp) ?_;intro F T w5 a5 aS ha bL;have aT:=hid a5;have a6:=hid ((ar.out.alloc a4 _).grown aS (by simp;omega) (λb hb=>(au.out.lt b hb).1));clear a5 aS ha bL))
      clear aP aA O aB ak bB ah ao D aQ ar au ap bw a4 z0 z1 z2 z3 z4 z5 z6 z7 v0 v1 v2 v3 v4 v5 v6 v7;have bC:slid M (⟨⟨⟨g,l⟩,s⟩,⟨⟨u,B⟩,C⟩,E,G⟩:Plc) m=M++[⟨⟨⟨g,l⟩,s⟩,⟨⟨u,B⟩,C⟩,E,G⟩]:=by rw[H.out];exact ju _ _
      have bY:=hid (show w5.ownsRow w.heap.size 161 8 (.slice (some ⟨F,0,none⟩) (m+1) T) (m+1) ((slid M (⟨⟨⟨g,l⟩,s⟩,⟨⟨u,B⟩,C⟩,E,G⟩:Plc) m).flatMap plcL) by rw[bC,aI];exact aT.out);clear bC aT;generalize w5=w6 at *;go_loopw [10] (λi wx=>∃(q:Nat),i= .int .i64 q∧q<=m∧Hid (dY (λy:Plc=>Gid.lt ⟨⟨g,l⟩,s⟩ y.n) plc0 M q=dY (λy:Plc=>Gid.lt ⟨⟨g,l⟩,s⟩ y.n) plc0 M M.length)∧Hid (wx.ownsRow w.heap.size 161 8 (.slice (some ⟨F,0,none⟩) (m+1) T) (m+1) ((slid M (⟨⟨⟨g,l⟩,s⟩,⟨⟨u,B⟩,C⟩,E,G⟩:Plc) q).flatMap plcL))∧Hid (Below w.heap.size w wx)) (λi _=>(RowKit.intOf i).toNat)
      case atStart=>exact⟨m,rfl,aa _,hid (by rw[H.out]),bY,a6⟩
      case round=>
       obtain⟨q,rfl,hq,a7,av,a8⟩:=hrel;by_cases h0:0<q
       ·obtain⟨q,rfl⟩:∃p,q=p+1:=⟨q-1,by omega⟩;have a9:q+1<=M.length:=by rw[<-H.out];exact hq
        have aU:m+1=(slid M (⟨⟨⟨g,l⟩,s⟩,⟨⟨u,B⟩,C⟩,E,G⟩:Plc) (q+1)).length:=by rw[eO,<-H.out]
        obtain⟨g3,e3,-,ba,U⟩:=cz (f:=plcL) (λ_=>rfl) aU av.out (k:=q) (by omega) plc0;cases e3;obtain⟨g4,e4,-,-,aw⟩:=cz (f:=plcL) (λ_=>rfl) aU av.out (k:=q+1) (by omega) plc0;cases e4;rw[js a9] at U;rw[ku a9] at aw;have bb:=ip (L:=M) (x:=(⟨⟨⟨g,l⟩,s⟩,⟨⟨u,B⟩,C⟩,E,G⟩:Plc)) (z:=plc0) a9;obtain⟨y,hy⟩:∃y,y=M.getD q plc0:=⟨_,rfl⟩;rw[<-hy] at U bb;obtain⟨b2,bc⟩:∃b,b=(λy:Plc=>Gid.lt ⟨⟨g,l⟩,s⟩ y.n) y:=⟨_,rfl⟩;have bE:=hid (show(λy:Plc=>Gid.lt ⟨⟨g,l⟩,s⟩ y.n) (M.getD q plc0)=b2 by rw[<-hy,bc]);clear hy;obtain⟨⟨⟨t2,r2⟩,n2⟩,⟨⟨Z,ab⟩,ac⟩,ad,ae⟩:=y;have bZ:=hid (show wr.rangeAt F (q*8) [.int .i64 t2,.int .i64 r2,.int .i64 n2,.int .i64 Z,.int .i64 ab,.int .i64 ac,.string ad,.bool ae] from U);have b3:=hid (show wr.rangeAt F ((q+1)*8) [.int .i64 g,.int .i64 l,.int .i64 s,.int .i64 u,.int .i64 B,.int .i64 C,.string E,.bool G] from aw);have y0:=aj (w:=wr) (a:=⟨F,q*8,none⟩) (v:= .int .i64 t2) (U 0 _ rfl);have y1:=aj (w:=wr) (a:=⟨F,q*8+1,none⟩) (v:= .int .i64 r2) (U 1 _ rfl);have y2:=aj (w:=wr) (a:=⟨F,q*8+2,none⟩) (v:= .int .i64 n2) (U 2 _ rfl);have x0:=aj (w:=wr) (a:=⟨F,(q+1)*8,none⟩) (v:= .int .i64 g) (aw 0 _ rfl);have x1:=aj (w:=wr) (a:=⟨F,(q+1)*8+1,none⟩) (v:= .int .i64 l) (aw 1 _ rfl);have x2:=aj (w:=wr) (a:=⟨F,(q+1)*8+2,none⟩) (v:= .int .i64 s) (aw 2 _ rfl);have b4:=hid bb;have k1:(0:Int)<(q:Int)+1:=by omega
        have k2:(0:Int)<=(q:Int):=by omega
        have k3:(q:Int)<(m:Int)+1:=by omega
        have k4:(q:Int)+1<(m:Int)+1:=by omega
        have k5:(0:Int)<=(q:Int)+1:=by omega
        have k6:IntKind.i64.wrap (q:Int)=(q:Int):=by rw[bz];omega
        have aE:=hid aU;have bF:=λW=>gx g l s t2 r2 n2 W;obtain⟨zc,bd⟩:∃z,z=rcmpD ⟨⟨g,l⟩,s⟩ ⟨⟨t2,r2⟩,n2⟩:=⟨_,rfl⟩;rw[<-bd] at bF;have aM:decide (0<=zc)= !b2:=by rw[bd,jW,bc]
        have cm:decide (zc<0)=b2:=by cases b2<;>simp at aM ⊢ <;>omega
        clear bd aM;have cA:=λd os=>ay (bF (grow (redrawn wr d) os));clear U aw bc bb aU;cases b2 with
        |false=>
         go_upto_region 14 with fail;refine rqb ?_
         repeat(any_goals(first|go_big_quiet_step (with_reducible exact cA _ _)|quiet_step (with_reducible exact cA _ _)))
         refine qz λwq P=> ?_;have bf:=hid (show((N.take (k+1)).foldl g8 [])=slid M (⟨⟨⟨g,l⟩,s⟩,⟨⟨u,B⟩,C⟩,E,G⟩:Plc) (q+1) by rw[X.out];unfold insB;rw[<-a7.out,ge (.inr ⟨q,rfl,bE.out⟩)]);have bg:=kO av P;have bh:=bT a8 P;go_wp2;go_roundw
         case rel=>exact⟨k+1,some ⟨F,0,none⟩,T,m+1,_,by omega,by go_num,rfl,by omega,aE,hid bf.out.symm,bg,bh⟩
         case measure=>(simp[RowKit.intOf];omega)
        | true=>
         go_upto_region 14 with fail;refine rqb ?_
         repeat(any_goals(first|go_big_quiet_step (with_reducible exact cA _ _)|quiet_step (with_reducible exact cA _ _)))
         refine qz λwq P=> ?_;have bO:=hid (show dY (λy:Plc=>Gid.lt ⟨⟨g,l⟩,s⟩ y.n) plc0 M q=dY (λy:Plc=>Gid.lt ⟨⟨g,l⟩,s⟩ y.n) plc0 M M.length by rw[<-a7.out,iF bE.out]);have bi:=hid (cd bZ.out ba P);have bj:=hid (cd b3.out ba P);have aH:=kO av P;have bP:=bT a8 P;clear y0 y1 y2 x0 x1 x2 cA av P;go_upto_region 16 with fail;obtain⟨V1,af⟩:∃V,V=wq.drew.setCells F ((q+1)*8) (#[.int .i64 t2,.int .i64 r2,.int .i64 n2,.int .i64 Z,.int .i64 ab,.int .i64 ac,.string ad,.bool ae]:Array Value).toList:=⟨_,rfl⟩;have ax:V1.ownsRow w.heap.size 161 8 (.slice (some ⟨F,0,none⟩) (m+1) T) (m+1) (((slid M (⟨⟨⟨g,l⟩,s⟩,⟨⟨u,B⟩,C⟩,E,G⟩:Plc) (q+1)).set (q+1) (⟨⟨⟨t2,r2⟩,n2⟩,⟨⟨Z,ab⟩,ac⟩,ad,ae⟩:Plc)).flatMap plcL)∧wq.drew.grownBy V1 (some F):=by rw[af];exact eP (f:=plcL) (λ_=>rfl) (by decide) aE.out (show wq.drew.ownsRow _ _ _ _ _ _ from aH.out) (by omega) (⟨⟨⟨t2,r2⟩,n2⟩,⟨⟨Z,ab⟩,ac⟩,ad,ae⟩:Plc)
         obtain⟨V2,ai⟩:∃V,V=V1.setCells F (q*8) (#[.int .i64 g,.int .i64 l,.int .i64 s,.int .i64 u,.int .i64 B,.int .i64 C,.string E,.bool G]:Array Value).toList:=⟨_,rfl⟩;have aV:V2.ownsRow w.heap.size 161 8 (.slice (some ⟨F,0,none⟩) (m+1) T) (m+1) ((((slid M (⟨⟨⟨g,l⟩,s⟩,⟨⟨u,B⟩,C⟩,E,G⟩:Plc) (q+1)).set (q+1) (⟨⟨⟨t2,r2⟩,n2⟩,⟨⟨Z,ab⟩,ac⟩,ad,ae⟩:Plc)).set q (⟨⟨⟨g,l⟩,s⟩,⟨⟨u,B⟩,C⟩,E,G⟩:Plc)).flatMap plcL)∧V1.grownBy V2 (some F):=by rw[ai];exact eP (f:=plcL) (λ_=>rfl) (by decide) (by rw[cM];exact aE.out) ax.1 (by omega) (⟨⟨⟨g,l⟩,s⟩,⟨⟨u,B⟩,C⟩,E,G⟩:Plc)
         obtain⟨g5,e5,bG⟩:=ey (show wq.drew.ownsRow _ _ _ _ _ _ from aH.out) (k:=q+1) (by omega);cases e5;obtain⟨g6,e6,aG⟩:=ey ax.1 (k:=q) (by omega);cases e6;have b5:=hid aV.1;have b6:=hid (show wq.heap.size<=V2.heap.size∧(Below w.heap.size w wq->w.heap.size<=F->Below w.heap.size w V2) from⟨aL (show wq.drew.heap.size<=V1.heap.size from ax.2.size) aV.2.size,λhb hl=>(hb.drew.grown ax.2 (by exact hb.size) (λb e=>by cases e;exact hl)).grown aV.2 (aL hb.size (show wq.drew.heap.size<=V1.heap.size from ax.2.size)) (λb e=>by cases e;exact hl)⟩);have b7:=hid af;have bk:=hid ai;have b8:=hid bG;have bl:=hid aG;have b9:=hid (show(#[.int .i64 t2,.int .i64 r2,.int .i64 n2,.int .i64 Z,.int .i64 ab,.int .i64 ac,.string ad,.bool ae]:Array Value).all (·.oneCell')=true by rw[<-cg];rfl);have cb:=hid (show(#[.int .i64 g,.int .i64 l,.int .i64 s,.int .i64 u,.int .i64 B,.int .i64 C,.string E,.bool G]:Array Value).all (·.oneCell')=true by rw[<-cg];rfl);clear ax aV af ai bG aG;refine aR (S:=λ_=>True) (by kernel_rfl) ?_
         try(change wpAnyH _ _ _ _ _ _ _ _ (World.drew _))
         refine tk 0 (.slice (some ⟨F,0,none⟩) (m+1) T) (trivial) ?_;go_simp;refine tk 1 (.int .i64 ((q:Int)+1)) (trivial) ?_;go_simp;refine tk 2 (.slice (some ⟨F,0,none⟩) (m+1) T) (trivial) ?_;go_simp;refine tk 3 (.int .i64 ((q:Int)+1)) (trivial) ?_;go_simp;refine tk 4 (.int .i64 (q:Int)) (trivial) ?_;go_simp;refine tk 5 (.slice (some ⟨F,0,none⟩) (m+1) T) (trivial) ?_;go_simp;refine tk 6 (.int .i64 ((q:Int)+1)) (trivial) ?_;go_simp;refine tk 7 (.int .i64 (q:Int)) (trivial) ?_;go_simp;refine tk 8 (.pointer (some ⟨F,q*8,none⟩)) (trivial) ?_;go_simp;refine tk 10 (.slice (some ⟨F,0,none⟩) (m+1) T) (trivial) ?_;go_simp;refine tk 11 (.int .i64 ((q:Int)+1)) (trivial) ?_;go_simp;refine tk 12 (.pointer (some ⟨F,(q+1)*8,none⟩)) (trivial) ?_;go_simp;refine dp (rs:=[9,13]) (by kernel_rfl) (by simp) ?_;refine aX rfl (λK Q=> ?_) (aX rfl (λK Q=> ?_) cX)
         focus
          refine bA rfl _ _ rfl F (q*8) rfl [.int .i64 t2,.int .i64 r2,.int .i64 n2,.int .i64 Z,.int .i64 ab,.int .i64 ac,.string ad,.bool ae] _ (show wq.drew.rangeAt _ _ _ from bi.out) ca rfl (by kernel_rfl) ?_;refine Q.out _ _ (trivial) (λ_=> ?_);clear Q K;refine rd1 13 λK Q=> ?_;refine bA rfl _ _ rfl F ((q+1)*8) rfl [.int .i64 g,.int .i64 l,.int .i64 s,.int .i64 u,.int .i64 B,.int .i64 C,.string E,.bool G] _ (show wq.drew.rangeAt _ _ _ from bj.out) ca rfl (by kernel_rfl) ?_;refine Q.out _ _ (trivial) (λ_=> ?_);clear Q K
         rotate_left
         focus
          refine bA rfl _ _ rfl F ((q+1)*8) rfl [.int .i64 g,.int .i64 l,.int .i64 s,.int .i64 u,.int .i64 B,.int .i64 C,.string E,.bool G] _ (show wq.drew.rangeAt _ _ _ from bj.out) ca rfl (by kernel_rfl) ?_;refine Q.out _ _ (trivial) (λ_=> ?_);clear Q K;refine rd1 9 λK Q=> ?_;refine bA rfl _ _ rfl F (q*8) rfl [.int .i64 t2,.int .i64 r2,.int .i64 n2,.int .i64 Z,.int .i64 ab,.int .i64 ac,.string ad,.bool ae] _ (show wq.drew.rangeAt _ _ _ from bi.out) ca rfl (by kernel_rfl) ?_;refine Q.out _ _ (trivial) (λ_=> ?_);clear Q K
         all_goals
          refine tk 14 (.pointer (some ⟨F,(q+1)*8,none⟩)) (trivial) ?_;go_simp;refine rd1 15 λK Q=> ?_;refine cy rfl _ _ _ rfl F ((q+1)*8) #[.int .i64 t2,.int .i64 r2,.int .i64 n2,.int .i64 Z,.int .i64 ab,.int .i64 ac,.string ad,.bool ae] (by rfl) (by rfl) b8.out (by kernel_rfl) b9.out ?_;rw[<-b7.out];refine Q.out _ _ (trivial) (λ_=> ?_);clear Q K;refine tk 16 (.pointer (some ⟨F,q*8,none⟩)) (trivial) ?_;go_simp;refine rd1 17 λK Q=> ?_;refine cy rfl _ _ _ rfl F (q*8) #[.int .i64 g,.int .i64 l,.int .i64 s,.int .i64 u,.int .i64 B,.int .i64 C,.string E,.bool G] (by rfl) (by rfl) bl.out (by kernel_rfl) cb.out ?_;rw[<-bk.out];refine Q.out _ _ (trivial) (λ_=> ?_);clear Q K;refine be (by kernel_rfl) ?_ _;go_simp;go_wp2;go_roundw
          case rel=>exact⟨q,by go_num,by omega,bO,hid (by rw[<-b4.out];exact b5.out),hid (b6.out.2 bP.out (aH.out.lt F rfl).1)⟩
          case measure=>(simp[RowKit.intOf];try omega)
       ·obtain rfl:q=0:=by omega
        go_upto_region 14 with fail;refine rqb ?_
        repeat(any_goals(first|go_big_quiet_step (fail)|quiet_step (fail)))
        refine qz λwq P=> ?_;have bf:=hid (show((N.take (k+1)).foldl g8 [])=slid M (⟨⟨⟨g,l⟩,s⟩,⟨⟨u,B⟩,C⟩,E,G⟩:Plc) 0 by rw[X.out];unfold insB;rw[<-a7.out];rfl);have aE:=hid (show m+1=(slid M (⟨⟨⟨g,l⟩,s⟩,⟨⟨u,B⟩,C⟩,E,G⟩:Plc) 0).length by rw[eO,<-H.out]);have bg:=kO av P;have bh:=bT a8 P;go_wp2;go_roundw
        case rel=>exact⟨k+1,some ⟨F,0,none⟩,T,m+1,_,by omega,by go_num,rfl,by omega,aE,hid bf.out.symm,bg,bh⟩
        case measure=>(simp[RowKit.intOf];omega)
     | some kf=>
      obtain⟨cc,-⟩:=fL al;have bm:kf<m:=by rw[H.out];exact cc
      have X:=hid (show((N.take (k+1)).foldl g8 [])=M.set kf ⟨⟨⟨g,l⟩,s⟩,⟨⟨u,B⟩,C⟩,E,(M.getD kf plc0).dir⟩ by rw[an.out,aC (by decide),al]);rw[al] at aA;have k1:(0:Int)<=(kf:Int):=by omega
      have k2:(kf:Int)<(m:Int):=by omega
      clear al an
      go_upto_region 10 with(first
       |(go_at_call 168;refine(aP.out W ak.out).mono ?_;rintro e I ⟨rfl,J⟩;have D:=bK J O;have ah:=bT ak J;have ao:=bT aB J;clear J;have v0:I.cell? ⟨wr.heap.size,0,none⟩=some (.int .i64 g):=aD _ _ _ _ _ _ D.out;have v1:I.cell? ⟨wr.heap.size,1,none⟩=some (.int .i64 l):=aD _ _ _ _ _ _ D.out;have v2:I.cell? ⟨wr.heap.size,2,none⟩=some (.int .i64 s):=aD _ _ _ _ _ _ D.out;have v3:I.cell? ⟨wr.heap.size,3,none⟩=some (.int .i64 u):=aD _ _ _ _ _ _ D.out;have v4:I.cell? ⟨wr.heap.size,4,none⟩=some (.int .i64 B):=aD _ _ _ _ _ _ D.out;have v5:I.cell? ⟨wr.heap.size,5,none⟩=some (.int .i64 C):=aD _ _ _ _ _ _ D.out;have v6:I.cell? ⟨wr.heap.size,6,none⟩=some (.string E):=aD _ _ _ _ _ _ D.out;have v7:I.cell? ⟨wr.heap.size,7,none⟩=some (.bool G):=aD _ _ _ _ _ _ D.out)
       |(go_at_call 169;refine(aA.out I ah.out).mono ?_;rintro e w3 ⟨rfl,Y⟩;have ap:=bK Y D;have aQ:=bT ah Y;have ar:=bT ao Y;have au:=kO HO aQ.out;clear Y;dsimp only[ixI]))
      obtain⟨g3,rfl,-,ba,U⟩:=cz (f:=plcL) (λ_=>rfl) H.out au.out bm plc0;obtain⟨d2,bn⟩:∃d,d=(M.getD kf plc0).dir:=⟨_,rfl⟩;have ce:w3.cell? ⟨g3,kf*8+7,none⟩=some (.bool d2):=by rw[bn];exact U 7 _ rfl
      rw[<-bn] at X;have bH:(Value.slice (some ⟨g3,0,none⟩) m c').ownBlock≠some wr.heap.size:=λe=>by
       have e:some g3=some wr.heap.size:=e;injection e with e;have:=(HO.out.lt g3 rfl).2;omega
      have c7:=cw7 ap.out;have f7:w3.frozen? ⟨wr.heap.size,7,none⟩=false:=aW _ _ _ _ _ ap.out;have cf:=hid bH;clear U bn bH;go_upto_region 11 with fail;obtain⟨V1,af⟩:∃V,V=w3.setCell ⟨wr.heap.size,7,none⟩ (.bool d2):=⟨_,rfl⟩;have ch:=hid (show V1.heap[wr.heap.size]? =some (.cells #[g,l,s,u,B,C,E,d2] 161 (0,0)) by rw[af];exact gI (c:=#[.int .i64 g,.int .i64 l,.int .i64 s,.int .i64 u,.int .i64 B,.int .i64 C,.string E,.bool G]) ap.out 7 (.bool d2) rfl);have bo:=hid (show V1.ownsRow w.heap.size 161 8 (.slice (some ⟨g3,0,none⟩) m c') m (M.flatMap plcL) by rw[af];exact gJ au.out cf.out 7 (.bool d2));have bI:=hid (show Below w.heap.size w V1 by rw[af];exact ar.out.grown (eF wr.heap.size 7 (.bool d2)) ar.out.size (λb e=>by cases e;exact bu));have aJ:=eP (f:=plcL) (λ_=>rfl) (by decide) H.out bo.out bm (⟨⟨⟨g,l⟩,s⟩,⟨⟨u,B⟩,C⟩,E,d2⟩:Plc);obtain⟨V2,ai⟩:∃V,V=V1.setCells g3 (kf*8) (#[.int .i64 g,.int .i64 l,.int .i64 s,.int .i64 u,.int .i64 B,.int .i64 C,.string E,.bool d2]:Array Value).toList:=⟨_,rfl⟩;have aT:=hid (show V2.ownsRow w.heap.size 161 8 (.slice (some ⟨g3,0,none⟩) m c') m ((M.set kf (⟨⟨⟨g,l⟩,s⟩,⟨⟨u,B⟩,C⟩,E,d2⟩:Plc)).flatMap plcL) by rw[ai];exact aJ.1);have a6:=hid (show Below w.heap.size w V2 by rw[ai];exact bI.out.grown aJ.2 bI.out.size (λb e=>by cases e;exact(bo.out.lt g3 rfl).1));obtain⟨g6,e6,aG⟩:=ey bo.out bm;cases e6;have bl:=hid aG;have bk:=hid ai
      have ci:=hid (show(#[.int .i64 g,.int .i64 l,.int .i64 s,.int .i64 u,.int .i64 B,.int .i64 C,.string E,.bool d2]:Array Value).all (·.oneCell')=true by rw[<-cg];rfl);have bQ:=hid (show m=(M.set kf (⟨⟨⟨g,l⟩,s⟩,⟨⟨u,B⟩,C⟩,E,d2⟩:Plc)).length by rw[cM];exact H.out);rw[<-af];clear aJ aG ai af c7 f7 ce v0 v1 v2 v3 v4 v5 v6 v7 z0 z1 z2 z3 z4 z5 z6 z7
      go_wp2_with (first
       |(refine lA ch ca ?_)
       |(refine wpList_store_mid rfl _ _ _ rfl g3 (kf*8) #[.int .i64 g,.int .i64 l,.int .i64 s,.int .i64 u,.int .i64 B,.int .i64 C,.string E,.bool d2] rfl rfl bl.out (by kernel_rfl) ci.out ?_;rw[<-bk.out]))
      go_roundw
      case rel=>exact⟨k+1,some ⟨g3,0,none⟩,c',m,_,by omega,by go_num,rfl,by omega,bQ,hid X.out.symm,aT,a6⟩
      case measure=>(simp[RowKit.intOf];omega)
  ·obtain rfl:k=N.length:=by omega
   have i2:¬(N.length:Int)<(N.length:Int):=by omega
   have bJ:=hid (show M=R by rw[bU.out];have h9:=HM.out;rw[aK] at h9;exact h9);go_wp2;go_ret;refine⟨A',c',by rw[<-bJ.out,<-H.out];rfl,?_,a0.out.trans (aO.out.mono a0.out.size)⟩;rw[<-bJ.out,<-H.out];exact iC HO.out a0.out.size
end
end Go.Proofs.YtkhmicndehlneaaGreatDoor
