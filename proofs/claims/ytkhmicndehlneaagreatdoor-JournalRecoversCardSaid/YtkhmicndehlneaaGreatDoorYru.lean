/- Part 21 of the walks and plain laws that this claim uses, joined. Conditions: as each theorem states. -/
import Derived.Test.YtkhmicndehlneaaGreatDoorYrt
namespace Go.Proofs.YtkhmicndehlneaaGreatDoor
set_option maxRecDepth 100000
set_option maxHeartbeats 16000000
set_option linter.unusedVariables false
section
open Go.RowKit Go.Lib Go.Sort
attribute [local go_sem ↓] Go.wp_at_zero Go.wp_at_succ
def opsN (d:Bool) (l:List Gop):List Gid:=(l.filter (λo=>decide (o.kind=0) && (o.dir == d))).map (·.node)
def fD (d:Bool) (L:List (Grp×GrX)):List Gid:=L.flatMap λp=>opsN d p.1.ops
theorem opsN_succ (d:Bool) {l:List Gop} {j:Nat} (h:j<l.length):opsN d (l.take (j+1))=opsN d (l.take j)++(if (decide ((l.getD j (opO 0 .zero)).kind=0) && ((l.getD j (opO 0 .zero)).dir == d))=true then [(l.getD j (opO 0 .zero)).node] else []):=by
 unfold opsN;rw[dQ h (opO 0 .zero),jH,bD];congr 1;generalize l.getD j (opO 0 .zero)=o;cases e:(decide (o.kind=0) && (o.dir == d))<;>simp[List.filter,e]
def opsR (x:Gid) (l:List Gop):List Rn:=(l.filter (λo=>decide (o.kind=3) && o.node.eqb x)).map λo=>⟨o.after,o.elem,o.text⟩
def fP (x:Gid) (L:List (Grp×GrX)):List Rn:=L.flatMap λp=>opsR x p.1.ops
theorem opsR_succ (x:Gid) {l:List Gop} {j:Nat} (h:j<l.length):opsR x (l.take (j+1))=opsR x (l.take j)++(if (decide ((l.getD j (opO 0 .zero)).kind=3) && (l.getD j (opO 0 .zero)).node.eqb x)=true then [⟨(l.getD j (opO 0 .zero)).after,(l.getD j (opO 0 .zero)).elem,(l.getD j (opO 0 .zero)).text⟩] else []):=by
 unfold opsR;rw[dQ h (opO 0 .zero),jH,bD];congr 1;generalize l.getD j (opO 0 .zero)=o;cases e:(decide (o.kind=3) && o.node.eqb x)<;>simp[List.filter,e]
theorem nodes_any (L:List (Grp×GrX)) (A:Option Addr) (c:Nat) (d:Bool) (S:Nat->Prop) (w:World) (hl:L.length<=1000) (T:∀p∈L,p.1.ops.length<=1000) (hR:RowGr w A L) (hG:∀p∈L,GrG w S p):
  Calls Tryz.prog 142 #[.slice A L.length c,d] w λe w'=>∃A' c',e= .returned (.slice A' (fD d L).length c')∧w'.ownsRow w.heap.size 108 3 (.slice A' (fD d L).length c') (fD d L).length ((fD d L).flatMap idL)∧Below w.heap.size w w':=by
 obtain⟨i0,hi,ak,am,an⟩:=bx info_id;have HR:=hid hR;have HG:=hid hG;clear hR hG;go_enter Tryz.func142,Tryz.ntmps142;have ao:=hid T;clear T;go_upto_region 3 with fail;go_loopw [5,6] (λo i wr=>∃(k:Nat) (A':Option Addr) (c' m:Nat),k<=L.length∧i= .int .i64 k∧o= .slice A' m c'∧m<=k*1000∧Hid (m=(fD d (L.take k)).length)∧Hid (wr.ownsRow w.heap.size 108 3 (.slice A' m c') m ((fD d (L.take k)).flatMap idL))∧Hid (Below w.heap.size w wr)) (λo i _=>L.length-(RowKit.intOf i).toNat)
 case atStart=>exact⟨0,none,0,0,aq _,rfl,rfl,aq _,hid rfl,hid (aH _ _ _ _),hid (ag _ _)⟩
 case round=>
  obtain⟨k,A',c',m,hk,rfl,rfl,ap,l,q,a⟩:=hrel;by_cases u:k<L.length
  ·have i1:(0:Int)<=(k:Int):=by omega
   have i2:(k:Int)<(L.length:Int):=by omega
   obtain⟨rb,ro,rfl,U,s⟩:=HR.o.range u;have V:fD d (L.take (k+1))=fD d (L.take k)++opsN d (L.getD k gp0).1.ops:=by rw[dQ u gp0];simp[fD]
   have au:=(HG.o _ (cg u gp0)).ops;have Y:=ao.o _ (cg u gp0);generalize fD d (L.take k)=N at *;generalize L.getD k gp0=p at *;obtain⟨⟨⟨t,r⟩,n,dv,⟨ut,ur⟩,ops⟩,⟨dA,dc,oA,oc⟩⟩:=p;obtain⟨X,Z,av⟩:=au;have Y:ops.length<=1000:=Y;have aw:=hid (λW (hB:Below w.heap.size w W)=>show W.rangeAt rb (ro+k*7) [t,r,n,.slice dA dv.length dc,ut,ur,.slice oA ops.length oc] from ct s U hB);have ax:=hid Z;have aa:=hid (show fD d (L.take (k+1))=N++opsN d ops from V);have aF:=a.o.size;clear s U V Z av;generalize wr=w0 at *;go_upto_region 6 with fail;go_loopw [5,7] (λo i wr=>∃(j:Nat) (A':Option Addr) (c' m:Nat),j<=ops.length∧i= .int .i64 j∧o= .slice A' m c'∧m<=k*1000+j∧Hid (m=(N++opsN d (ops.take j)).length)∧Hid (wr.ownsRow w.heap.size 108 3 (.slice A' m c') m ((N++opsN d (ops.take j)).flatMap idL))∧Hid (Below w.heap.size w wr)) (λo i _=>ops.length-(RowKit.intOf i).toNat)
   case atStart=>exact⟨0,A',c',m,aq _,rfl,rfl,ap,hid (by rw[l.o];simp[opsN]),hid (by have f:=q.o;simpa[opsN] using f),a⟩
   case round=>
    obtain⟨j,A',c',m,hj,rfl,rfl,aG,l,q,a⟩:=hrel;have ay:=hid (aw.o wr a.o);have ah:=a.o.size;have g6:wr.cell? ⟨rb,ro+k*7+6,none⟩=some (.slice oA ops.length oc):=ay.o 6 _ rfl;by_cases ab:j<ops.length
    ·have j1:(0:Int)<=(j:Int):=by omega
     have j2:(j:Int)<(ops.length:Int):=by omega
     obtain⟨Q,R,rfl,-,ac,ad⟩:=ax.o j ab;have ae:=jD ad;have F:=opsN_succ d ab;generalize ops.getD j (opO 0 .zero)=o at *;generalize X j=x at *;obtain⟨G,⟨⟨C,D⟩,E⟩,⟨⟨pt,pr⟩,pi⟩,nm,H,I,⟨⟨af,ar⟩,ai⟩,⟨⟨et,er⟩,ei⟩,tx,v⟩:=o;obtain⟨sA,sc,eA,ec⟩:=x;have aA:=hid (λW (hB:Below w.heap.size w W)=>show W.rangeAt Q (R+j*18) [G,C,D,E,pt,pr,pi,nm,H,.slice sA I.length sc,af,ar,ai,et,er,ei,tx,.slice eA v.length ec] from ct ae ac hB);have g:=hid F;clear ae ac ad F;obtain⟨b1,J⟩:∃b,b=decide (G=0):=⟨_,rfl⟩;obtain⟨b2,K⟩:∃b,b=(H == d):=⟨_,rfl⟩;have q1:(G == 0)=b1:=by rw[J];rfl
     have q2:(H == d)=b2:=K.symm;have g:=hid (show opsN d (ops.take (j+1))=opsN d (ops.take j)++(if (b1 && b2)=true then [⟨⟨C,D⟩,E⟩] else []) by rw[g.o,J,K]);have M:=hid (aA.o wr a.o);have z0:wr.cell? ⟨Q,R+j*18,none⟩=some (.int .i64 G):=M.o 0 _ rfl;have z8:wr.cell? ⟨Q,R+j*18+8,none⟩=some (.bool H):=M.o 8 _ rfl;have aB:=hid (show wr.rangeAt Q (R+j*18+1) [C,D,E] from bC (pre:=[G]) (post:=[pt,pr,pi,nm,H,.slice sA I.length sc,af,ar,ai,et,er,ei,tx,.slice eA v.length ec]) M.o);clear J K;cases b1 with
     |false=>
      go_wp2;go_roundw
      case rel=>exact⟨j+1,A',c',m,by omega,by go_num,rfl,by omega,hid (by rw[g.o];simpa using l.o),hid (by rw[g.o];simpa using q.o),a⟩
      case measure=>(simp[RowKit.intOf];omega)
     | true=>
      cases b2 with
      |false=>
       go_wp2;go_roundw
       case rel=>exact⟨j+1,A',c',m,by omega,by go_num,rfl,by omega,hid (by rw[g.o];simpa using l.o),hid (by rw[g.o];simpa using q.o),a⟩
       case measure=>(simp[RowKit.intOf];omega)
      | true=>
       go_wp2_with (first
        |(refine lM aB az ?_)
        |(at_builtin;refine cm _ rfl _ _ 123 rfl w.heap.size 108 i0 (.agg #[(0:Int),(0:Int),(0:Int)]) 3 24 eK hi ak am an rfl (by decide) (.slice A' m c') m _ rfl (by exact q.o.alloc _) ⟨wr.heap.size,0,none⟩ 1 1 [C,D,E] rfl rfl (λj y h=>dH wr [C,D,E] 108 j y h) (fx (c:=#[C,D,E]) rfl) (by decide) (by unfold maxLen;omega) (by omega) (by simp;omega) (wr.heap.size+1) (by simp) ?_;intro gq aC w5 O z ha aj;have aD:=hid O;have aE:=hid ((a.o.alloc ah _).grown z (by simp;omega) (λb hb=>(q.o.lt b hb).1));clear O z ha aj))
       go_roundw
       case rel=>exact⟨j+1,some ⟨gq,0,none⟩,aC,m+1,by omega,by go_num,rfl,by omega,hid (by rw[g.o,aN (show(true && true)=true from rfl),<-aM,al,<-l.o];rfl),hid (by rw[g.o,aN (show(true && true)=true from rfl),<-aM,aK];exact aD.o),aE⟩
       case measure=>(simp[RowKit.intOf];omega)
    ·obtain rfl:j=ops.length:=by omega
     have j2:¬(ops.length:Int)<(ops.length:Int):=by omega
     have B:=hid (show m=(fD d (L.take (k+1))).length by rw[aa.o];have f:=l.o;rw[aO] at f;exact f);have P:=hid (show wr.ownsRow w.heap.size 108 3 (.slice A' m c') m ((fD d (L.take (k+1))).flatMap idL) by rw[aa.o];have f:=q.o;rw[aO] at f;exact f);go_wp2;go_roundw
     case rel=>exact⟨k+1,A',c',m,by omega,by go_num,rfl,by omega,B,P,a⟩
     case measure=>(simp[RowKit.intOf];omega)
  ·obtain rfl:k=L.length:=by omega
   have i2:¬(L.length:Int)<(L.length:Int):=by omega
   have B:=hid (show m=(fD d L).length by have f:=l.o;rw[aO] at f;exact f);have P:=hid (show wr.ownsRow w.heap.size 108 3 (.slice A' m c') m ((fD d L).flatMap idL) by have f:=q.o;rw[aO] at f;exact f);go_wp2;go_ret;refine⟨A',c',by rw[<-B.o];rfl,?_,a.o⟩;rw[<-B.o];exact P.o
theorem runs_any (L:List (Grp×GrX)) (A:Option Addr) (c:Nat) (a d f:Int) (S:Nat->Prop) (q:World) (hl:L.length<=1000) (ay:∀p∈L,p.1.ops.length<=1000) (hR:RowGr q A L) (hG:∀p∈L,GrG q S p):
  Calls Tryz.prog 115 #[.slice A L.length c,.agg #[a,d,f]] q λe w'=>∃A' c',e= .returned (.slice A' (fP ⟨⟨a,d⟩,f⟩ L).length c')∧w'.ownsRow q.heap.size 238 7 (.slice A' (fP ⟨⟨a,d⟩,f⟩ L).length c') (fP ⟨⟨a,d⟩,f⟩ L).length ((fP ⟨⟨a,d⟩,f⟩ L).flatMap rnL)∧Below q.heap.size q w':=by
 obtain⟨i0,hi,aU,aV,aW⟩:=bx info_rn;have ab:Below q.heap.size q (q.alloc (.cells #[a,d,f] 108)):=(ag _ _).alloc (aa _) _;have aj:=hid ab;have aX:=hid (an q (.cells #[a,d,f] 108));have HR:=hid (hR.below ab);have HG:=hid (λp hp=>(hG p hp).agr (Agr.below ab));clear hR hG ab;go_enter Tryz.func115,Tryz.ntmps115;go_upto_region 1 with fail;generalize hW:q.alloc (.cells #[a,d,f] 108)=w at *;clear hW;generalize aA:q.heap.size=xb at *;have aY:=hid aA;clear aA;have aZ:=hid ay;clear ay;go_upto_region 3 with fail;go_loopw [5,6] (λo i wr=>∃(k:Nat) (A':Option Addr) (c' m:Nat),k<=L.length∧i= .int .i64 k∧o= .slice A' m c'∧m<=k*1000∧Hid (m=(fP ⟨⟨a,d⟩,f⟩ (L.take k)).length)∧Hid (wr.ownsRow w.heap.size 238 7 (.slice A' m c') m ((fP ⟨⟨a,d⟩,f⟩ (L.take k)).flatMap rnL))∧Hid (Below w.heap.size w wr)) (λo i _=>L.length-(RowKit.intOf i).toNat)
 case atStart=>exact⟨0,none,0,0,aq _,rfl,rfl,aq _,hid rfl,hid (aH _ _ _ _),hid (ag _ _)⟩
 case round=>
  obtain⟨k,A',c',m,hk,rfl,rfl,a0,H,HO,u⟩:=hrel;by_cases ac:k<L.length
  ·have i1:(0:Int)<=(k:Int):=by omega
   have i2:(k:Int)<(L.length:Int):=by omega
   obtain⟨rb,ro,rfl,aB,P⟩:=HR.o.range ac;have aC:fP ⟨⟨a,d⟩,f⟩ (L.take (k+1))=fP ⟨⟨a,d⟩,f⟩ (L.take k)++opsR ⟨⟨a,d⟩,f⟩ (L.getD k gp0).1.ops:=by rw[dQ ac gp0];simp[fP]
   have a1:=(HG.o _ (cg ac gp0)).ops;have aD:=aZ.o _ (cg ac gp0);generalize fP ⟨⟨a,d⟩,f⟩ (L.take k)=N at *;generalize L.getD k gp0=p at *;obtain⟨⟨⟨t,r⟩,n,dv,⟨ut,ur⟩,ops⟩,⟨dA,dc,oA,oc⟩⟩:=p;obtain⟨X,aE,a2⟩:=a1;have aD:ops.length<=1000:=aD;have a3:=hid (λW (hB:Below w.heap.size w W)=>show W.rangeAt rb (ro+k*7) [t,r,n,.slice dA dv.length dc,ut,ur,.slice oA ops.length oc] from ct P aB hB);have a4:=hid aE;have aF:=hid (show fP ⟨⟨a,d⟩,f⟩ (L.take (k+1))=N++opsR ⟨⟨a,d⟩,f⟩ ops from aC);have bd:=u.o.size;clear P aB aC aE a2;generalize wr=w0 at *;go_upto_region 6 with fail;go_loopw [5,7] (λo i wr=>∃(j:Nat) (A':Option Addr) (c' m:Nat),j<=ops.length∧i= .int .i64 j∧o= .slice A' m c'∧m<=k*1000+j∧Hid (m=(N++opsR ⟨⟨a,d⟩,f⟩ (ops.take j)).length)∧Hid (wr.ownsRow w.heap.size 238 7 (.slice A' m c') m ((N++opsR ⟨⟨a,d⟩,f⟩ (ops.take j)).flatMap rnL))∧Hid (Below w.heap.size w wr)) (λo i _=>ops.length-(RowKit.intOf i).toNat)
   case atStart=>exact⟨0,A',c',m,aq _,rfl,rfl,a0,hid (by rw[H.o];simp[opsR]),hid (by have v:=HO.o;simpa[opsR] using v),u⟩
   case round=>
    obtain⟨j,A',c',m,hj,rfl,rfl,be,H,HO,u⟩:=hrel;have a5:=hid (a3.o wr u.o);have aR:=u.o.size;have g6:wr.cell? ⟨rb,ro+k*7+6,none⟩=some (.slice oA ops.length oc):=a5.o 6 _ rfl;by_cases aG:j<ops.length
    ·have j1:(0:Int)<=(j:Int):=by omega
     have j2:(j:Int)<(ops.length:Int):=by omega
     obtain⟨ob,oo,rfl,-,aI,aJ⟩:=a4.o j aG;have aL:=jD aJ;have ak:=opsR_succ ⟨⟨a,d⟩,f⟩ aG;generalize ops.getD j (opO 0 .zero)=o at *;generalize X j=x at *;obtain⟨I,⟨⟨J,K⟩,M⟩,⟨⟨Q,R⟩,T⟩,U,V,s,⟨⟨l,z⟩,B⟩,⟨⟨C,D⟩,E⟩,G,g⟩:=o;obtain⟨Y,Z,eA,ec⟩:=x;have a6:=hid (λW (hB:Below w.heap.size w W)=>show W.rangeAt ob (oo+j*18) [I,J,K,M,Q,R,T,U,V,.slice Y s.length Z,l,z,B,C,D,E,G,.slice eA g.length ec] from ct aL aI hB);have F:=hid ak;clear aL aI aJ ak;obtain⟨b1,ao⟩:∃b,b=decide (I=3):=⟨_,rfl⟩;obtain⟨b2,ap⟩:∃b,b=Gid.eqb ⟨⟨J,K⟩,M⟩ ⟨⟨a,d⟩,f⟩:=⟨_,rfl⟩;have q1:(I == 3)=b1:=by rw[ao];rfl
     have q2:=eN J K M a d f b2 ap.symm;have F:=hid (show opsR ⟨⟨a,d⟩,f⟩ (ops.take (j+1))=opsR ⟨⟨a,d⟩,f⟩ (ops.take j)++(if (b1 && b2)=true then [(⟨⟨⟨l,z⟩,B⟩,⟨⟨C,D⟩,E⟩,G⟩:Rn)] else []) by rw[F.o,ao,ap]);have a7:=hid (a6.o wr u.o);clear ao ap
     go_upto_region 9 with(first
      |(refine lM a7 am ?_)
      |(refine bR rfl _ _ _ rfl _ _ _ _ rfl ?_ rfl ?_ ?_ ?_ ?_;(focus(simp;done));kernel_rfl;rfl;rfl))
     have ad:=u.o.alloc aR (.cells #[I,J,K,M,Q,R,T,U,V,.slice Y s.length Z,l,z,B,C,D,E,G,.slice eA g.length ec] 125);have aP:Below wr.heap.size wr (wr.alloc (.cells #[I,J,K,M,Q,R,T,U,V,.slice Y s.length Z,l,z,B,C,D,E,G,.slice eA g.length ec] 125)):=(ag _ _).alloc (aa _) _;have O:=hid (an wr (.cells #[I,J,K,M,Q,R,T,U,V,.slice Y s.length Z,l,z,B,C,D,E,G,.slice eA g.length ec] 125));have au:=bK ad aX;generalize hW:wr.alloc (.cells #[I,J,K,M,Q,R,T,U,V,.slice Y s.length Z,l,z,B,C,D,E,G,.slice eA g.length ec] 125)=W at *;have av:=hid ad;have aS:=ad.size;have ae:=kO HO aP;clear hW ad aP;have z0:=cw0 O.o;have z1:=cw1 O.o;have z2:=cw2 O.o;have z3:=cw3 O.o;have bf:=cw16 O.o;have x0:=cw0 au.o;have x1:=cw1 au.o;have x2:=cw2 au.o;have aQ:=hid (show W.rangeAt wr.heap.size 0 [I,J,K,M,Q,R,T,U,V,.slice Y s.length Z,l,z,B,C,D,E,G,.slice eA g.length ec] from bq O.o);have a8:=hid (show W.rangeAt wr.heap.size 10 [l,z,B] from bC (pre:=[I,J,K,M,Q,R,T,U,V,.slice Y s.length Z]) (post:=[C,D,E,G,.slice eA g.length ec]) aQ.o);have a9:=hid (show W.rangeAt wr.heap.size 13 [C,D,E] from bC (pre:=[I,J,K,M,Q,R,T,U,V,.slice Y s.length Z,l,z,B]) (post:=[G,.slice eA g.length ec]) aQ.o);cases b1 with
     |false=>
      go_wp2;go_roundw
      case rel=>exact⟨j+1,A',c',m,by omega,by go_num,rfl,by omega,hid (by rw[F.o];simpa using H.o),hid (by rw[F.o];simpa using ae.o),av⟩
      case measure=>(simp[RowKit.intOf];omega)
     | true=>
      cases b2 with
      |false=>
       go_wp2;go_roundw
       case rel=>exact⟨j+1,A',c',m,by omega,by go_num,rfl,by omega,hid (by rw[F.o];simpa using H.o),hid (by rw[F.o];simpa using ae.o),av⟩
       case measure=>(simp[RowKit.intOf];omega)
      | true=>
       go_wp2_with (first
        |(refine ik rfl _ _ rfl wr.heap.size (10) rfl [l,z,B] _ a8.o az rfl (by kernel_rfl) ?_)
        |(refine ik rfl _ _ rfl wr.heap.size (13) rfl [C,D,E] _ a9.o az rfl (by kernel_rfl) ?_)
        |(at_builtin;refine cm _ rfl _ _ 171 rfl w.heap.size 238 i0 (.agg #[(0:Int),(0:Int),(0:Int),(0:Int),(0:Int),(0:Int),.string ⟨#[]⟩]) 7 64 Tryz.underlying171 hi aU aV aW rfl (by decide) (.slice A' m c') m _ rfl (by exact ae.o.alloc _) ⟨W.heap.size,0,none⟩ 1 1 [l,z,B,C,D,E,G] rfl rfl (λj y h=>dH W [l,z,B,C,D,E,G] 238 j y h) (fx (c:=#[l,z,B,C,D,E,G]) rfl) (by decide) (by unfold maxLen;omega) (by omega) (by simp;omega) (W.heap.size+1) (by simp) ?_;intro gq ba w5 aw af ha aT;have bb:=hid aw;have bc:=hid ((av.o.alloc aS _).grown af (by simp;omega) (λb hb=>(ae.o.lt b hb).1));clear aw af ha aT))
       go_roundw
       case rel=>exact⟨j+1,some ⟨gq,0,none⟩,ba,m+1,by omega,by go_num,rfl,by omega,hid (by rw[F.o,aN (show(true && true)=true from rfl),<-aM,al,<-H.o];rfl),hid (by rw[F.o,aN (show(true && true)=true from rfl),<-aM,aK];exact bb.o),bc⟩
       case measure=>(simp[RowKit.intOf];omega)
    ·obtain rfl:j=ops.length:=by omega
     have j2:¬(ops.length:Int)<(ops.length:Int):=by omega
     have ah:=hid (show m=(fP ⟨⟨a,d⟩,f⟩ (L.take (k+1))).length by rw[aF.o];have v:=H.o;rw[aO] at v;exact v);have ax:=hid (show wr.ownsRow w.heap.size 238 7 (.slice A' m c') m ((fP ⟨⟨a,d⟩,f⟩ (L.take (k+1))).flatMap rnL) by rw[aF.o];have v:=HO.o;rw[aO] at v;exact v);go_wp2;go_roundw
     case rel=>exact⟨k+1,A',c',m,by omega,by go_num,rfl,by omega,ah,ax,u⟩
     case measure=>(simp[RowKit.intOf];omega)
  ·obtain rfl:k=L.length:=by omega
   have i2:¬(L.length:Int)<(L.length:Int):=by omega
   have ah:=hid (show m=(fP ⟨⟨a,d⟩,f⟩ L).length by have v:=H.o;rw[aO] at v;exact v);have ax:=hid (show wr.ownsRow w.heap.size 238 7 (.slice A' m c') m ((fP ⟨⟨a,d⟩,f⟩ L).flatMap rnL) by have v:=HO.o;rw[aO] at v;exact v);obtain rfl:=aY.o;go_wp2;go_ret;refine⟨A',c',by rw[<-ah.o];rfl,?_,aj.o.trans (u.o.mono aj.o.size)⟩;rw[<-ah.o];exact iK ax.o aj.o.size
end
section
open Go.RowKit Go.Lib Go.Sort
def strL (t:ByteArray):List Value:=[t]
def SpR (r:Option Nat) (w:World) (e:Ending) (w':World):Prop:=match r with
 |none=>e= .returned (.tuple #[.slice none 0 0,(60:Int)])∧Below w.heap.size w w'
 |some m=>∃A c,∃ps:List ByteArray,m=ps.length∧e= .returned (.tuple #[.slice A m c,(0:Int)])∧w'.ownsRow w.heap.size 9 1 (.slice A m c) m (ps.flatMap strL)∧Below w.heap.size w w'
theorem split6_row (s:ByteArray) (w:World) (hs:s.size<=1000000):
  Calls Tryz.prog 193 #[s] w λe w'=>SpR (cnt s.data.toList) w e w':=by
 obtain⟨R,z⟩:∃R,R=cnt s.data.toList:=⟨_,rfl⟩;rw[<-z];have S:=hid z;clear z;obtain⟨U,V,H,I,J⟩:=bx infoStr;go_enter Tryz.func193,Tryz.ntmps193;go_wp2;go_loopw [0,4] (λt v wr=>∃T:ByteArray,∃(A:Option Addr) (m c:Nat),∃o:List ByteArray,t= .string T∧v= .slice A m c∧T.size+m<=s.size∧Hid (m=o.length)∧Hid (wr.ownsRow w.heap.size 9 1 (.slice A m c) m (o.flatMap strL))∧Hid (Below w.heap.size w wr)∧Hid (R=cntAdd m (cnt T.data.toList))) (λt _ _=>match t with| .string T=>T.size|_=>0)
 case atStart=>exact⟨s,none,0,0,[],rfl,rfl,by omega,hid rfl,hid (aH w w.heap.size 9 1),hid (ag _ _),by
  show R=_;rw[S.o]
  cases cnt s.data.toList<;>rfl⟩
 case round=>
  obtain⟨T,A,m,c,o,rfl,rfl,hm,K,B,q,C⟩:=hrel;have b:T.data.toList.length=T.size:=by simp
  by_cases W:0<T.size
  ·have d:T.data.toList≠[]:=λe=>by rw[e] at b;simp at b;omega
   have n:=first_any T wr (by omega) W;cases f:rfL T.data.toList with
   |none=>
    rw[f] at n;obtain rfl:R=none:=by rw[C.o,cntAdd_none d m f]
    have D:Hid (Calls Tryz.prog 212 #[T] wr λe w'=>e= .returned (.tuple #[(0:Int),(0:Int),false])∧w'=wr):=n;clear n f d b B;go_wp2_with fail;refine D.o.mono ?_;rintro e L ⟨rfl,rfl⟩;go_wp2;go_ret2;exact⟨rfl,q.o⟩
   | some p=>
    obtain⟨X,k⟩:=p;rw[f] at n;have M:=jl d f;rw[b] at M;have N:Hid (R=cntAdd (m+1) (cnt (T.extract k T.size).data.toList)):=by
     show R=_;rw[C.o,cntAdd_step d m f,drop_ext]
    have D:Hid (Calls Tryz.prog 212 #[T] wr λe w'=>e= .returned (.tuple #[.int .i64 (X:Nat),.int .i64 (k:Nat),true])∧w'=wr):=n;obtain⟨Z,aa⟩:=M;have b1:(0:Int)<=(k:Int):=by omega
    have b2:(k:Int)<=(T.size:Int):=by omega
    have ab:=q.o.size;have x:(T.extract k T.size).size=T.size-k:=by rw[dg];omega
    have y:=hid x;clear n f d b x;go_wp2_with fail;refine D.o.mono ?_;rintro e L ⟨rfl,rfl⟩;have O:=B.o;go_wp2_with (at_builtin;refine bv _ rfl _ _ 60 rfl w.heap.size 9 U (.string ⟨#[]⟩) 1 16 Tryz.underlying60 V H I J rfl (by decide) _ _ _ rfl (by exact O.alloc _) ⟨L.heap.size,0,none⟩ 1 1 [.string (T.extract 0 k)] rfl rfl (by exact cell1 _ _ _) (λu P=>by simp at P;subst P;rfl) (by unfold maxLen;omega) (by omega) (by simp;omega) ?_;intro Y w3 j r _);obtain⟨E,F,rfl⟩:∃E F,Y=Value.slice E (m+1) F:=by
     rcases j.2 with⟨rfl,h9⟩|⟨g,cap,cur,rfl,_⟩
     ·exact⟨_,_,by rw[show m+1=0 from h9]⟩
     ·exact⟨_,_,rfl⟩
    go_roundw
    case rel=>exact⟨_,E,m+1,F,o++[T.extract 0 k],rfl,rfl,by rw[y.o];omega,hid (by rw[al,<-K.o];rfl),hid (by rw[aK];exact j),hid ((q.o.alloc (by omega) _).grown r (by simp;omega) (λi h=>(O.lt i h).1)),N⟩
    case measure=>show(T.extract k T.size).size<T.size;rw[y.o];omega
  ·have G:T.data.toList=[]:=by
    cases e:T.data.toList with
    |nil=>rfl
    |cons a l=>rw[e] at b;simp at b;omega
   obtain rfl:R=some m:=by rw[C.o,G,cnt_nil];show some (0+m)=_;rw[cj]
   have Q:T.size=0:=by omega
   obtain rfl:T=⟨#[]⟩:=eb.1 G;clear b G Q;go_wp2;go_ret2;exact⟨A,c,o,K.o,rfl,B.o,q.o⟩
end
section
open Go.RowKit Go.Lib Go.Sort
attribute [local go_sem ↓] Go.wp_at_zero Go.wp_at_succ
def eo (L:List Plc) (x:Gid):Option Nat:=L.findIdx? λy=>y.n.eqb x
def gn (L:List Plc) (up:Gid):Nat->Gid->Bool
 |0,_=>true
 |f+1,x=>if x.eqb up=true then true else match eo L x with
  |none=>false
  |some k=>gn L up f (L.getD k plc0).p
def jy (L:List Plc) (x up:Gid):Bool:=gn L up (L.length+1) x
theorem fQ {L:List Plc} {x:Gid} {k:Nat} (h:eo L x=some k):k<L.length∧(L.getD k plc0).n=x:=by
 unfold eo at h;rw[List.findIdx?_eq_some_iff_getElem] at h;obtain⟨a,b,-⟩:=h;refine⟨a,?_⟩;rw[ae,aw a];exact Gid.eqb_iff.1 b
theorem within_any (L:List Plc) (A:Option Addr) (c:Nat) (o s u d g h:Int) (S:Nat->Prop) (a:World) (hl:L.length<=100000) (Z:RowF a S A 8 plcL plc0 L):
  Calls Tryz.prog 168 #[.slice A L.length c,.agg #[o,s,u],.agg #[d,g,h]] a λe w'=>e= .returned (.bool (jy L ⟨⟨o,s⟩,u⟩ ⟨⟨d,g⟩,h⟩))∧Below a.heap.size a w':=by
 obtain⟨y,B⟩:∃b,b=jy L ⟨⟨o,s⟩,u⟩ ⟨⟨d,g⟩,h⟩:=⟨_,rfl⟩;rw[<-B];have X:=hid B;have O:Below a.heap.size a ((a.alloc (.cells #[o,s,u] 108)).alloc (.cells #[d,g,h] 108)):=((ag _ _).alloc (aa _) _).alloc (by simp) _;have P:=an a (.cells #[o,s,u] 108);have Q:((a.alloc (.cells #[o,s,u] 108)).alloc (.cells #[d,g,h] 108)).heap[a.heap.size+1]? =some (.cells #[d,g,h] 108 (0,0)):=bu _ _ (by simp);have R:((a.alloc (.cells #[o,s,u] 108)).alloc (.cells #[d,g,h] 108)).heap[a.heap.size]? =some (.cells #[o,s,u] 108 (0,0)):=(ax _ _ _ (by simp)).trans P;have ab:=hid O;have ac:=hid R;have ad:=hid Q;have HR:=hid Z;clear Z B O P Q R;go_enter Tryz.func168,Tryz.ntmps168;go_upto_region 2 with fail;generalize hW:(a.alloc (.cells #[o,s,u] 108)).alloc (.cells #[d,g,h] 108)=w at *;clear hW;go_loopw [7] (λi wr=>∃(n:Nat) (x:Gid),n<=L.length+1∧i= .int .i64 n∧Hid (wr.heap[a.heap.size]? =some (.cells (idL x).toArray 108 (0,0)))∧Hid (wr.heap[a.heap.size+1]? =some (.cells #[d,g,h] 108 (0,0)))∧Hid (y=gn L ⟨⟨d,g⟩,h⟩ (L.length+1-n) x)∧Hid (Below a.heap.size a wr)) (λi _=>L.length+1-(RowKit.intOf i).toNat)
 case atStart=>exact⟨0,⟨⟨o,s⟩,u⟩,aq _,rfl,ac,ad,hid (by rw[X.o];rfl),ab⟩
 case round=>
  obtain⟨n,x,hn,rfl,F,M,J,v⟩:=hrel;by_cases am:n<=L.length
  ·have i1:(n:Int)<=(L.length:Int):=by omega
   obtain⟨f,N⟩:∃f,L.length+1-n=f+1:=⟨L.length-n,by omega⟩;have HF:=hid (show L.length+1-(n+1)=f by omega);rw[N] at J;obtain⟨⟨t,r⟩,q⟩:=x;have F:Hid (wr.heap[a.heap.size]? =some (.cells #[t,r,q] 108 (0,0))):=F;obtain⟨b,C⟩:∃b,b=Gid.eqb ⟨⟨t,r⟩,q⟩ ⟨⟨d,g⟩,h⟩:=⟨_,rfl⟩;have q1:=eN t r q d g h b C.symm;have D:=hid (show Calls Tryz.prog 169 #[.slice A L.length c,.agg #[t,r,q]] wr λe w'=>e= .returned (.int .i64 (ixI (eo L ⟨⟨t,r⟩,q⟩)))∧Below wr.heap.size wr w' from gW L A c ⟨⟨t,r⟩,q⟩ S wr (by omega) (HR.o.below v.o));cases b with
   | true=>
    have j:=hid (show y=true by rw[J.o,gn,aN C.symm]);clear C N
    go_wp2_with (first
     |(refine lA F az ?_)
     |(refine lA M az ?_))
    go_ret;exact⟨by rw[j.o];rfl,v.o⟩
   | false=>
    cases l:eo L ⟨⟨t,r⟩,q⟩ with
    | none=>
     have j:=hid (show y=false by rw[J.o,gn,aE (by rw[<-C];decide),l]);rw[l] at D;clear C N l
     go_wp2_with (first
      |(refine lA F az ?_)
      |(refine lA M az ?_)
      |(go_at_call 169;refine D.o.mono ?_;rintro e Y ⟨rfl,m⟩;have E:=hid m;clear m;dsimp only[ixI]))
     go_ret;exact⟨by rw[j.o];rfl,v.o.trans (E.o.mono v.o.size)⟩
    | some k=>
     obtain⟨hk,-⟩:=fQ l;have j:=hid (show y=gn L ⟨⟨d,g⟩,h⟩ f (L.getD k plc0).p by rw[J.o,gn,aE (by rw[<-C];decide),l]);rw[l] at D;obtain⟨rb,ro,rfl,-,T,z⟩:=HR.o.range (λ_=>rfl) hk;have i3:(0:Int)<=(k:Int):=by omega
     have i4:(k:Int)<(L.length:Int):=by omega
     have i5:¬(k:Int)<0:=by omega
     generalize L.getD k plc0=p at *;obtain⟨⟨⟨nt,nr⟩,ni⟩,⟨⟨G,H⟩,I⟩,nm,dd⟩:=p;have ae:=hid (λW (hB:Below a.heap.size a W)=>show W.rangeAt rb (ro+k*8+3) [G,H,I] from bC (pre:=[nt,nr,ni]) (post:=[nm,dd]) (ct z T hB));have af:=hid (show(#[G,H,I]:Array Value).toList.all (·.oneCell')=true from rfl);clear C N l z T
     go_upto_region 9 with(first
      |(refine lA F az ?_)
      |(refine lA M az ?_)
      |(go_at_call 169;refine D.o.mono ?_;rintro e Y ⟨rfl,m⟩;have U:=bK m F;have ah:=bK m M;have E:=bT v m;have ai:=hid (ae.o Y E.o);clear m;dsimp only[ixI]))
     obtain⟨V,K⟩:∃V,V=Y.setRow a.heap.size #[G,H,I]:=⟨_,rfl⟩;have HV:=hid K;have aj:=hid (show V.heap[a.heap.size]? =some (.cells #[G,H,I] 108 (0,0)) by rw[K];exact aF _ U.o);have ak:=hid (show V.heap[a.heap.size+1]? =some (.cells #[d,g,h] 108 (0,0)) by rw[K,setRow_other _ _ _ _ (by omega)];exact ah.o);have al:=hid (show Below a.heap.size a V by rw[K];exact Below.setRow' E.o (aa _) _);clear K
     go_wp2_with (first
      |(refine lM ai az ?_)
      |(refine bW rfl _ _ _ rfl a.heap.size 108 #[t,r,q] #[G,H,I] rfl rfl U.o (by kernel_rfl) rfl af.o ?_;rw[<-HV.o]))
     go_roundw
     case rel=>exact⟨n+1,⟨⟨G,H⟩,I⟩,by omega,by go_num,aj,ak,hid (by rw[HF.o];exact j.o),al⟩
     case measure=>(simp[RowKit.intOf];omega)
  ·obtain rfl:n=L.length+1:=by omega
   have i1:¬((L.length:Int)+1)<=(L.length:Int):=by omega
   have i2:¬(((L.length+1:Nat):Int))<=(L.length:Int):=by omega
   have j:=hid (show y=true by rw[J.o,iQ];rfl);go_wp2;go_ret;exact⟨by rw[j.o];rfl,v.o⟩
def hH (out:List Plc) (x:Told):List Plc:=
 if (x.p.n.eqb .zero || jy out x.p.p x.p.n)=true then out else match eo out x.p.n with
  |some k=>out.set k ⟨x.p.n,x.p.p,x.p.name,(out.getD k plc0).dir⟩
  |none=>insB (λy=>x.p.n.lt y.n) plc0 out x.p
def fL (l:List Told):List Plc:=(jM l).foldl hH []
theorem stepP_len (a:List Plc) (x:Told):(hH a x).length<=a.length+1:=by
 unfold hH;split
 ·omega
 ·split
  ·rw[dj];omega
  ·rw[km];exact aa _
theorem foldP_len:∀(l:List Told) (out:List Plc),(l.foldl hH out).length<=out.length+l.length
 | [],out=>aa _
 |x::l,out=>by
  have h1:=foldP_len l (hH out x)
  have h2:=stepP_len out x
  rw[ed,bQ];omega
theorem replayL_len (l:List Told):(fL l).length<=l.length:=by
 unfold fL;have a:=foldP_len (jM l) [];have b:=sortT_len l [];simp only[fY,cj] at a b;exact aP a b
theorem replay_any (L:List Told) (A A2:Option Addr) (c c2:Nat) (S S2:Nat->Prop) (al:World) (hl:L.length<=100000) (hR:RowF al S A 3 idL Gid.zero (L.map (·.a))) (bq:RowF al S2 A2 8 plcL plc0 (L.map (·.p))):
  Calls Tryz.prog 111 #[.slice A L.length c,.slice A2 L.length c2] al λe w'=>∃A' c',e= .returned (.slice A' (fL L).length c')∧w'.ownsRow al.heap.size 161 8 (.slice A' (fL L).length c') (fL L).length ((fL L).flatMap plcL)∧Below al.heap.size al w':=by
 obtain⟨i0,hi,bS,bU,aL⟩:=bx info_plc;have br:=hid (sortedt_any L A A2 c c2 S S2 al hl hR bq);have aX:=sortT_len L [];obtain⟨N,hN⟩:∃N,N=jM L:=⟨_,rfl⟩;obtain⟨R,aZ⟩:∃R,R=fL L:=⟨_,rfl⟩;have bV:=hid (show R=N.foldl hH [] by rw[aZ,hN];rfl);rw[<-aZ];rw[<-hN] at br;have ch:N.length<=100000:=by rw[hN];simp only[fY,cj] at aX;exact aP aX hl
 clear hR bq aZ hN aX;go_enter Tryz.func111,Tryz.ntmps111;go_upto_region 4 with(go_at_call 167;refine br.o.mono ?_;rintro e w ⟨A1,c1,rfl,aM,bs⟩;have bW:=hid aM;have a0:=hid bs;clear aM bs);go_loopw [6,7] (λo i wr=>∃(k:Nat) (A':Option Addr) (c' m:Nat) (M:List Plc),k<=N.length∧i= .int .i64 k∧o= .slice A' m c'∧m<=k∧Hid (m=M.length)∧Hid (M=(N.take k).foldl hH [])∧Hid (wr.ownsRow w.heap.size 161 8 (.slice A' m c') m (M.flatMap plcL))∧Hid (Below w.heap.size w wr)) (λo i _=>N.length-(RowKit.intOf i).toNat)
 case atStart=>exact⟨0,none,0,0,[],aq _,rfl,rfl,aa _,hid rfl,hid rfl,hid (aH _ _ _ _),hid (ag _ _)⟩
 case round=>
  obtain⟨k,A',c',m,M,hk,rfl,rfl,ci,H,HM,HO,aN⟩:=hrel;by_cases bt:k<N.length
  ·have i1:(0:Int)<=(k:Int):=by omega
   have i2:(k:Int)<(N.length:Int):=by omega
   obtain⟨rb,rfl,-,bu,aA⟩:=ki (f:=toldL) (λ_=>rfl) bW.o bt fI;have bv:((N.take (k+1)).foldl hH [])=hH M (N.getD k fI):=by rw[HM.o];exact eU _ _ bt fI
   generalize N.getD k fI=p at *;obtain⟨⟨⟨t,r⟩,n⟩,⟨⟨⟨g,l⟩,s⟩,⟨⟨u,B⟩,C⟩,E,G⟩⟩:=p;have bw:=aN.o.size;have cg:m<=100000:=by omega
   have bz:=hid (show wr.rangeAt rb (k*11+3) [.int .i64 g,.int .i64 l,.int .i64 s,.int .i64 u,.int .i64 B,.int .i64 C,.string E,.bool G] from bC (pre:=[.int .i64 t,.int .i64 r,.int .i64 n]) (post:=[]) (ct aA bu aN.o));obtain⟨b0,a1⟩:∃b,b=Gid.eqb ⟨⟨g,l⟩,s⟩ ⟨⟨0,0⟩,0⟩:=⟨_,rfl⟩;obtain⟨b1,a2⟩:∃b,b=jy M ⟨⟨u,B⟩,C⟩ ⟨⟨g,l⟩,s⟩:=⟨_,rfl⟩;have q0:=eN g l s 0 0 0 b0 a1.symm
   have ap:=hid (show((N.take (k+1)).foldl hH [])=if (b0 || b1)=true then M else match eo M ⟨⟨g,l⟩,s⟩ with
    |some k=>M.set k ⟨⟨⟨g,l⟩,s⟩,⟨⟨u,B⟩,C⟩,E,(M.getD k plc0).dir⟩
    |none=>insB (λy=>Gid.lt ⟨⟨g,l⟩,s⟩ y.n) plc0 M ⟨⟨⟨g,l⟩,s⟩,⟨⟨u,B⟩,C⟩,E,G⟩ by rw[bv,a1,a2];rfl)
   have aQ:=hid (λW (hB:Below wr.heap.size wr W)=>show Calls Tryz.prog 168 #[.slice A' m c',.agg #[u,B,C],.agg #[g,l,s]] W λe w'=>e= .returned (.bool b1)∧Below W.heap.size W w' from by
    have h9:=within_any M A' c' u B C g l s _ W (by rw[<-H.o];omega) (cT (f:=plcL) (z:=plc0) (λ_=>rfl) H.o (HO.o.kept (dB (r:=none) hB) (cX _)))
    rw[<-H.o,<-a2] at h9;exact h9)
   have aB:=hid (λW (hB:Below wr.heap.size wr W)=>show Calls Tryz.prog 169 #[.slice A' m c',.agg #[g,l,s]] W λe w'=>e= .returned (.int .i64 (ixI (eo M ⟨⟨g,l⟩,s⟩)))∧Below W.heap.size W w' from by
    have h9:=gW M A' c' ⟨⟨g,l⟩,s⟩ _ W (by rw[<-H.o];omega) (cT (f:=plcL) (z:=plc0) (λ_=>rfl) H.o (HO.o.kept (dB (r:=none) hB) (cX _)))
    rw[<-H.o] at h9;exact h9)
   clear bv a1 a2 aA bu
   go_upto_region 7 with(first
    |(refine lM bz co ?_)
    |(refine bR rfl _ _ _ rfl _ _ _ _ rfl ?_ rfl ?_ ?_ ?_ ?_;(focus(simp;done));kernel_rfl;rfl;rfl))
   have bA:=aN.o.alloc bw (.cells #[g,l,s,u,B,C,E,G] 161);have a3:Below wr.heap.size wr (wr.alloc (.cells #[g,l,s,u,B,C,E,G] 161)):=(ag _ _).alloc (aa _) _;have O:=hid (an wr (.cells #[g,l,s,u,B,C,E,G] 161));generalize hW:wr.alloc (.cells #[g,l,s,u,B,C,E,G] 161)=W at *;have aC:=hid bA;have am:=hid a3;have bB:=kO HO a3;clear hW bA a3;have z0:=cw0 O.o;have z1:=cw1 O.o;have z2:=cw2 O.o;have z3:=cw3 O.o;have z4:=cw4 O.o;have z5:=cw5 O.o;have z6:=cw6 O.o;have z7:=cw7 O.o;cases b0 with
   |true=>
    have X:=hid (show((N.take (k+1)).foldl hH [])=M by rw[ap.o];rfl);go_wp2;go_roundw
    case rel=>exact⟨k+1,A',c',m,M,by omega,by go_num,rfl,by omega,H,hid X.o.symm,bB,aC⟩
    case measure=>(simp[RowKit.intOf];omega)
   | false=>
    cases b1 with
    |true=>
     have X:=hid (show((N.take (k+1)).foldl hH [])=M by rw[ap.o];rfl);go_wp2_with (go_at_call 168;refine(aQ.o W am.o).mono ?_;rintro e I ⟨rfl,J⟩;have D:=bK J O;have ah:=bT am J;have ar:=bT aC J;clear J;have v0:I.cell? ⟨wr.heap.size,0,none⟩=some (.int .i64 g):=aG _ _ _ _ _ _ D.o;have v1:I.cell? ⟨wr.heap.size,1,none⟩=some (.int .i64 l):=aG _ _ _ _ _ _ D.o;have v2:I.cell? ⟨wr.heap.size,2,none⟩=some (.int .i64 s):=aG _ _ _ _ _ _ D.o;have v3:I.cell? ⟨wr.heap.size,3,none⟩=some (.int .i64 u):=aG _ _ _ _ _ _ D.o;have v4:I.cell? ⟨wr.heap.size,4,none⟩=some (.int .i64 B):=aG _ _ _ _ _ _ D.o;have v5:I.cell? ⟨wr.heap.size,5,none⟩=some (.int .i64 C):=aG _ _ _ _ _ _ D.o;have v6:I.cell? ⟨wr.heap.size,6,none⟩=some (.string E):=aG _ _ _ _ _ _ D.o;have v7:I.cell? ⟨wr.heap.size,7,none⟩=some (.bool G):=aG _ _ _ _ _ _ D.o);have bX:=kO HO ah.o;go_roundw
     case rel=>exact⟨k+1,A',c',m,M,by omega,by go_num,rfl,by omega,H,hid X.o.symm,bX,ar⟩
     case measure=>(simp[RowKit.intOf];omega)
    | false=>
     cases ao:eo M ⟨⟨g,l⟩,s⟩ with
     | none=>
      have X:=hid (show((N.take (k+1)).foldl hH [])=insB (λy:Plc=>Gid.lt ⟨⟨g,l⟩,s⟩ y.n) plc0 M ⟨⟨⟨g,l⟩,s⟩,⟨⟨u,B⟩,C⟩,E,G⟩ by rw[ap.o,aE (by decide),ao]);rw[ao] at aB;clear ao ap
      go_upto_region 12 with(first
       |(go_at_call 168;refine(aQ.o W am.o).mono ?_;rintro e I ⟨rfl,J⟩;have D:=bK J O;have ah:=bT am J;have ar:=bT aC J;clear J;have v0:I.cell? ⟨wr.heap.size,0,none⟩=some (.int .i64 g):=aG _ _ _ _ _ _ D.o;have v1:I.cell? ⟨wr.heap.size,1,none⟩=some (.int .i64 l):=aG _ _ _ _ _ _ D.o;have v2:I.cell? ⟨wr.heap.size,2,none⟩=some (.int .i64 s):=aG _ _ _ _ _ _ D.o;have v3:I.cell? ⟨wr.heap.size,3,none⟩=some (.int .i64 u):=aG _ _ _ _ _ _ D.o;have v4:I.cell? ⟨wr.heap.size,4,none⟩=some (.int .i64 B):=aG _ _ _ _ _ _ D.o;have v5:I.cell? ⟨wr.heap.size,5,none⟩=some (.int .i64 C):=aG _ _ _ _ _ _ D.o;have v6:I.cell? ⟨wr.heap.size,6,none⟩=some (.string E):=aG _ _ _ _ _ _ D.o;have v7:I.cell? ⟨wr.heap.size,7,none⟩=some (.bool G):=aG _ _ _ _ _ _ D.o)
       |(go_at_call 169;refine(aB.o I ah.o).mono ?_;rintro e w3 ⟨rfl,Y⟩;have au:=bK Y D;have aR:=bT ah Y;have av:=bT ar Y;have aw:=kO HO aR.o;clear Y;dsimp only[ixI]))
      have a4:=av.o.size
      go_upto_region 14 with(first
       |(refine lA au co ?_)
       |(at_builtin;refine cm _ rfl _ _ 101 rfl w.heap.size 161 i0 (.agg #[(0:Int),(0:Int),(0:Int),(0:Int),(0:Int),(0:Int),.string ⟨#[]⟩,false]) 8 72 Tryz.underlying101 hi bS bU aL rfl (by decide) (.slice A' m c') m _ rfl (by exact aw.o.alloc _) ⟨w3.heap.size,0,none⟩ 1 1 [.int .i64 g,.int .i64 l,.int .i64 s,.int .i64 u,.int .i64 B,.int .i64 C,.string E,.bool G] rfl rfl (λj y h=>dH w3 [.int .i64 g,.int .i64 l,.int .i64 s,.int .i64 u,.int .i64 B,.int .i64 C,.string E,.bool G] 161 j y h) (fx (c:=#[.int .i64 g,.int .i64 l,.int .i64 s,.int .i64 u,.int .i64 B,.int .i64 C,.string E,.bool G]) rfl) (by decide) (by unfold maxLen;omega) (by omega) (by simp;omega) (w3.heap.size+1) (by simp) ?_;intro F T w5 a5 aT ha bN;have aU:=hid a5;have a6:=hid ((av.o.alloc a4 _).grown aT (by simp;omega) (λb hb=>(aw.o.lt b hb).1));clear a5 aT ha bN))
      clear aQ aB O aC am bB ah ar D aR av aw au bz a4 z0 z1 z2 z3 z4 z5 z6 z7 v0 v1 v2 v3 v4 v5 v6 v7;have bD:slid M (⟨⟨⟨g,l⟩,s⟩,⟨⟨u,B⟩,C⟩,E,G⟩:Plc) m=M++[⟨⟨⟨g,l⟩,s⟩,⟨⟨u,B⟩,C⟩,E,G⟩]:=by rw[H.o];exact jB _ _
      have bY:=hid (show w5.ownsRow w.heap.size 161 8 (.slice (some ⟨F,0,none⟩) (m+1) T) (m+1) ((slid M (⟨⟨⟨g,l⟩,s⟩,⟨⟨u,B⟩,C⟩,E,G⟩:Plc) m).flatMap plcL) by rw[bD,aK];exact aU.o);clear bD aU;generalize w5=w6 at *;go_loopw [10] (λi wx=>∃(q:Nat),i= .int .i64 q∧q<=m∧Hid (ek (λy:Plc=>Gid.lt ⟨⟨g,l⟩,s⟩ y.n) plc0 M q=ek (λy:Plc=>Gid.lt ⟨⟨g,l⟩,s⟩ y.n) plc0 M M.length)∧Hid (wx.ownsRow w.heap.size 161 8 (.slice (some ⟨F,0,none⟩) (m+1) T) (m+1) ((slid M (⟨⟨⟨g,l⟩,s⟩,⟨⟨u,B⟩,C⟩,E,G⟩:Plc) q).flatMap plcL))∧Hid (Below w.heap.size w wx)) (λi _=>(RowKit.intOf i).toNat)
      case atStart=>exact⟨m,rfl,aa _,hid (by rw[H.o]),bY,a6⟩
      case round=>
       obtain⟨q,rfl,hq,a7,ax,a8⟩:=hrel;by_cases h0:0<q
       ·obtain⟨q,rfl⟩:∃p,q=p+1:=⟨q-1,by omega⟩;have a9:q+1<=M.length:=by rw[<-H.o];exact hq
        have aV:m+1=(slid M (⟨⟨⟨g,l⟩,s⟩,⟨⟨u,B⟩,C⟩,E,G⟩:Plc) (q+1)).length:=by rw[eW,<-H.o]
        obtain⟨g3,e3,-,ba,U⟩:=cZ (f:=plcL) (λ_=>rfl) aV ax.o (k:=q) (by omega) plc0;cases e3;obtain⟨g4,e4,-,-,ay⟩:=cZ (f:=plcL) (λ_=>rfl) aV ax.o (k:=q+1) (by omega) plc0;cases e4;rw[jz a9] at U;rw[kE a9] at ay;have bb:=it (L:=M) (x:=(⟨⟨⟨g,l⟩,s⟩,⟨⟨u,B⟩,C⟩,E,G⟩:Plc)) (z:=plc0) a9;obtain⟨y,hy⟩:∃y,y=M.getD q plc0:=⟨_,rfl⟩;rw[<-hy] at U bb;obtain⟨b2,bc⟩:∃b,b=(λy:Plc=>Gid.lt ⟨⟨g,l⟩,s⟩ y.n) y:=⟨_,rfl⟩;have bE:=hid (show(λy:Plc=>Gid.lt ⟨⟨g,l⟩,s⟩ y.n) (M.getD q plc0)=b2 by rw[<-hy,bc]);clear hy;obtain⟨⟨⟨t2,r2⟩,n2⟩,⟨⟨Z,ab⟩,ac⟩,ad,ae⟩:=y;have bZ:=hid (show wr.rangeAt F (q*8) [.int .i64 t2,.int .i64 r2,.int .i64 n2,.int .i64 Z,.int .i64 ab,.int .i64 ac,.string ad,.bool ae] from U);have b3:=hid (show wr.rangeAt F ((q+1)*8) [.int .i64 g,.int .i64 l,.int .i64 s,.int .i64 u,.int .i64 B,.int .i64 C,.string E,.bool G] from ay);have y0:=aj (w:=wr) (a:=⟨F,q*8,none⟩) (v:= .int .i64 t2) (U 0 _ rfl);have y1:=aj (w:=wr) (a:=⟨F,q*8+1,none⟩) (v:= .int .i64 r2) (U 1 _ rfl);have y2:=aj (w:=wr) (a:=⟨F,q*8+2,none⟩) (v:= .int .i64 n2) (U 2 _ rfl);have x0:=aj (w:=wr) (a:=⟨F,(q+1)*8,none⟩) (v:= .int .i64 g) (ay 0 _ rfl);have x1:=aj (w:=wr) (a:=⟨F,(q+1)*8+1,none⟩) (v:= .int .i64 l) (ay 1 _ rfl);have x2:=aj (w:=wr) (a:=⟨F,(q+1)*8+2,none⟩) (v:= .int .i64 s) (ay 2 _ rfl);have b4:=hid bb;have k1:(0:Int)<(q:Int)+1:=by omega
        have k2:(0:Int)<=(q:Int):=by omega
        have k3:(q:Int)<(m:Int)+1:=by omega
        have k4:(q:Int)+1<(m:Int)+1:=by omega
        have k5:(0:Int)<=(q:Int)+1:=by omega
        have k6:IntKind.i64.wrap (q:Int)=(q:Int):=by rw[bH];omega
        have aD:=hid aV;have bF:=λW=>gp g l s t2 r2 n2 W;obtain⟨zc,bd⟩:∃z,z=rcmpD ⟨⟨g,l⟩,s⟩ ⟨⟨t2,r2⟩,n2⟩:=⟨_,rfl⟩;rw[<-bd] at bF;have aL:decide (0<=zc)= !b2:=by rw[bd,j0,bc]
        have ck:decide (zc<0)=b2:=by cases b2<;>simp at aL ⊢ <;>omega
        clear bd aL;have cA:=λd os=>ak (bF (grow (redrawn wr d) os));clear U ay bc bb aV;cases b2 with
        |false=>
         go_upto_region 14 with fail;refine rqb ?_
         repeat(any_goals(first|go_big_quiet_step (with_reducible exact cA _ _)|quiet_step (with_reducible exact cA _ _)))
         refine qz λwq P=> ?_;have be:=hid (show((N.take (k+1)).foldl hH [])=slid M (⟨⟨⟨g,l⟩,s⟩,⟨⟨u,B⟩,C⟩,E,G⟩:Plc) (q+1) by rw[X.o];unfold insB;rw[<-a7.o,gi (.inr ⟨q,rfl,bE.o⟩)]);have bf:=kO ax P;have bh:=bT a8 P;go_wp2;go_roundw
         case rel=>exact⟨k+1,some ⟨F,0,none⟩,T,m+1,_,by omega,by go_num,rfl,by omega,aD,hid be.o.symm,bf,bh⟩
         case measure=>(simp[RowKit.intOf];omega)
        | true=>
         go_upto_region 14 with fail;refine rqb ?_
         repeat(any_goals(first|go_big_quiet_step (with_reducible exact cA _ _)|quiet_step (with_reducible exact cA _ _)))
         refine qz λwq P=> ?_;have bO:=hid (show ek (λy:Plc=>Gid.lt ⟨⟨g,l⟩,s⟩ y.n) plc0 M q=ek (λy:Plc=>Gid.lt ⟨⟨g,l⟩,s⟩ y.n) plc0 M M.length by rw[<-a7.o,iL bE.o]);have bi:=hid (ct bZ.o ba P);have bj:=hid (ct b3.o ba P);have aI:=kO ax P;have bP:=bT a8 P;clear y0 y1 y2 x0 x1 x2 cA ax P;go_upto_region 16 with fail;obtain⟨V1,af⟩:∃V,V=wq.drew.setCells F ((q+1)*8) (#[.int .i64 t2,.int .i64 r2,.int .i64 n2,.int .i64 Z,.int .i64 ab,.int .i64 ac,.string ad,.bool ae]:Array Value).toList:=⟨_,rfl⟩;have az:V1.ownsRow w.heap.size 161 8 (.slice (some ⟨F,0,none⟩) (m+1) T) (m+1) (((slid M (⟨⟨⟨g,l⟩,s⟩,⟨⟨u,B⟩,C⟩,E,G⟩:Plc) (q+1)).set (q+1) (⟨⟨⟨t2,r2⟩,n2⟩,⟨⟨Z,ab⟩,ac⟩,ad,ae⟩:Plc)).flatMap plcL)∧wq.drew.grownBy V1 (some F):=by rw[af];exact eX (f:=plcL) (λ_=>rfl) (by decide) aD.o (show wq.drew.ownsRow _ _ _ _ _ _ from aI.o) (by omega) (⟨⟨⟨t2,r2⟩,n2⟩,⟨⟨Z,ab⟩,ac⟩,ad,ae⟩:Plc)
         obtain⟨V2,ai⟩:∃V,V=V1.setCells F (q*8) (#[.int .i64 g,.int .i64 l,.int .i64 s,.int .i64 u,.int .i64 B,.int .i64 C,.string E,.bool G]:Array Value).toList:=⟨_,rfl⟩;have aW:V2.ownsRow w.heap.size 161 8 (.slice (some ⟨F,0,none⟩) (m+1) T) (m+1) ((((slid M (⟨⟨⟨g,l⟩,s⟩,⟨⟨u,B⟩,C⟩,E,G⟩:Plc) (q+1)).set (q+1) (⟨⟨⟨t2,r2⟩,n2⟩,⟨⟨Z,ab⟩,ac⟩,ad,ae⟩:Plc)).set q (⟨⟨⟨g,l⟩,s⟩,⟨⟨u,B⟩,C⟩,E,G⟩:Plc)).flatMap plcL)∧V1.grownBy V2 (some F):=by rw[ai];exact eX (f:=plcL) (λ_=>rfl) (by decide) (by rw[dj];exact aD.o) az.1 (by omega) (⟨⟨⟨g,l⟩,s⟩,⟨⟨u,B⟩,C⟩,E,G⟩:Plc)
         obtain⟨g5,e5,bG⟩:=eJ (show wq.drew.ownsRow _ _ _ _ _ _ from aI.o) (k:=q+1) (by omega);cases e5;obtain⟨g6,e6,aF⟩:=eJ az.1 (k:=q) (by omega);cases e6;have b5:=hid aW.1;have b6:=hid (show wq.heap.size<=V2.heap.size∧(Below w.heap.size w wq->w.heap.size<=F->Below w.heap.size w V2) from⟨aP (show wq.drew.heap.size<=V1.heap.size from az.2.size) aW.2.size,λhb hl=>(hb.drew.grown az.2 (by exact hb.size) (λb e=>by cases e;exact hl)).grown aW.2 (aP hb.size (show wq.drew.heap.size<=V1.heap.size from az.2.size)) (λb e=>by cases e;exact hl)⟩);have b7:=hid af;have bk:=hid ai;have b8:=hid bG;have bl:=hid aF;have b9:=hid (show(#[.int .i64 t2,.int .i64 r2,.int .i64 n2,.int .i64 Z,.int .i64 ab,.int .i64 ac,.string ad,.bool ae]:Array Value).all (·.oneCell')=true by rw[<-cv];rfl);have ca:=hid (show(#[.int .i64 g,.int .i64 l,.int .i64 s,.int .i64 u,.int .i64 B,.int .i64 C,.string E,.bool G]:Array Value).all (·.oneCell')=true by rw[<-cv];rfl);clear az aW af ai bG aF;refine aY (S:=λ_=>True) (by kernel_rfl) ?_
         try(change wpAnyH _ _ _ _ _ _ _ _ (World.drew _))
         refine tk 0 (.slice (some ⟨F,0,none⟩) (m+1) T) (trivial) ?_;go_simp;refine tk 1 (.int .i64 ((q:Int)+1)) (trivial) ?_;go_simp;refine tk 2 (.slice (some ⟨F,0,none⟩) (m+1) T) (trivial) ?_;go_simp;refine tk 3 (.int .i64 ((q:Int)+1)) (trivial) ?_;go_simp;refine tk 4 (.int .i64 (q:Int)) (trivial) ?_;go_simp;refine tk 5 (.slice (some ⟨F,0,none⟩) (m+1) T) (trivial) ?_;go_simp;refine tk 6 (.int .i64 ((q:Int)+1)) (trivial) ?_;go_simp;refine tk 7 (.int .i64 (q:Int)) (trivial) ?_;go_simp;refine tk 8 (.pointer (some ⟨F,q*8,none⟩)) (trivial) ?_;go_simp;refine tk 10 (.slice (some ⟨F,0,none⟩) (m+1) T) (trivial) ?_;go_simp;refine tk 11 (.int .i64 ((q:Int)+1)) (trivial) ?_;go_simp;refine tk 12 (.pointer (some ⟨F,(q+1)*8,none⟩)) (trivial) ?_;go_simp;refine dJ (rs:=[9,13]) (by kernel_rfl) (by simp) ?_;refine bg rfl (λK Q=> ?_) (bg rfl (λK Q=> ?_) dp)
         focus
          refine bI rfl _ _ rfl F (q*8) rfl [.int .i64 t2,.int .i64 r2,.int .i64 n2,.int .i64 Z,.int .i64 ab,.int .i64 ac,.string ad,.bool ae] _ (show wq.drew.rangeAt _ _ _ from bi.o) co rfl (by kernel_rfl) ?_;refine Q.out _ _ (trivial) (λ_=> ?_);clear Q K;refine rd1 13 λK Q=> ?_;refine bI rfl _ _ rfl F ((q+1)*8) rfl [.int .i64 g,.int .i64 l,.int .i64 s,.int .i64 u,.int .i64 B,.int .i64 C,.string E,.bool G] _ (show wq.drew.rangeAt _ _ _ from bj.o) co rfl (by kernel_rfl) ?_;refine Q.out _ _ (trivial) (λ_=> ?_);clear Q K
         rotate_left
         focus
          refine bI rfl _ _ rfl F ((q+1)*8) rfl [.int .i64 g,.int .i64 l,.int .i64 s,.int .i64 u,.int .i64 B,.int .i64 C,.string E,.bool G] _ (show wq.drew.rangeAt _ _ _ from bj.o) co rfl (by kernel_rfl) ?_;refine Q.out _ _ (trivial) (λ_=> ?_);clear Q K;refine rd1 9 λK Q=> ?_;refine bI rfl _ _ rfl F (q*8) rfl [.int .i64 t2,.int .i64 r2,.int .i64 n2,.int .i64 Z,.int .i64 ab,.int .i64 ac,.string ad,.bool ae] _ (show wq.drew.rangeAt _ _ _ from bi.o) co rfl (by kernel_rfl) ?_;refine Q.out _ _ (trivial) (λ_=> ?_);clear Q K
         all_goals
          refine tk 14 (.pointer (some ⟨F,(q+1)*8,none⟩)) (trivial) ?_;go_simp;refine rd1 15 λK Q=> ?_;refine cY rfl _ _ _ rfl F ((q+1)*8) #[.int .i64 t2,.int .i64 r2,.int .i64 n2,.int .i64 Z,.int .i64 ab,.int .i64 ac,.string ad,.bool ae] (by rfl) (by rfl) b8.o (by kernel_rfl) b9.o ?_;rw[<-b7.o];refine Q.out _ _ (trivial) (λ_=> ?_);clear Q K;refine tk 16 (.pointer (some ⟨F,q*8,none⟩)) (trivial) ?_;go_simp;refine rd1 17 λK Q=> ?_;refine cY rfl _ _ _ rfl F (q*8) #[.int .i64 g,.int .i64 l,.int .i64 s,.int .i64 u,.int .i64 B,.int .i64 C,.string E,.bool G] (by rfl) (by rfl) bl.o (by kernel_rfl) ca.o ?_;rw[<-bk.o];refine Q.out _ _ (trivial) (λ_=> ?_);clear Q K;refine bp (by kernel_rfl) ?_ _;go_simp;go_wp2;go_roundw
          case rel=>exact⟨q,by go_num,by omega,bO,hid (by rw[<-b4.o];exact b5.o),hid (b6.o.2 bP.o (aI.o.lt F rfl).1)⟩
          case measure=>(simp[RowKit.intOf];try omega)
       ·obtain rfl:q=0:=by omega
        go_upto_region 14 with fail;refine rqb ?_
        repeat(any_goals(first|go_big_quiet_step (fail)|quiet_step (fail)))
        refine qz λwq P=> ?_;have be:=hid (show((N.take (k+1)).foldl hH [])=slid M (⟨⟨⟨g,l⟩,s⟩,⟨⟨u,B⟩,C⟩,E,G⟩:Plc) 0 by rw[X.o];unfold insB;rw[<-a7.o];rfl);have aD:=hid (show m+1=(slid M (⟨⟨⟨g,l⟩,s⟩,⟨⟨u,B⟩,C⟩,E,G⟩:Plc) 0).length by rw[eW,<-H.o]);have bf:=kO ax P;have bh:=bT a8 P;go_wp2;go_roundw
        case rel=>exact⟨k+1,some ⟨F,0,none⟩,T,m+1,_,by omega,by go_num,rfl,by omega,aD,hid be.o.symm,bf,bh⟩
        case measure=>(simp[RowKit.intOf];omega)
     | some kf=>
      obtain⟨cb,-⟩:=fQ ao;have bm:kf<m:=by rw[H.o];exact cb
      have X:=hid (show((N.take (k+1)).foldl hH [])=M.set kf ⟨⟨⟨g,l⟩,s⟩,⟨⟨u,B⟩,C⟩,E,(M.getD kf plc0).dir⟩ by rw[ap.o,aE (by decide),ao]);rw[ao] at aB;have k1:(0:Int)<=(kf:Int):=by omega
      have k2:(kf:Int)<(m:Int):=by omega
      clear ao ap
      go_upto_region 10 with(first
       |(go_at_call 168;refine(aQ.o W am.o).mono ?_;rintro e I ⟨rfl,J⟩;have D:=bK J O;have ah:=bT am J;have ar:=bT aC J;clear J;have v0:I.cell? ⟨wr.heap.size,0,none⟩=some (.int .i64 g):=aG _ _ _ _ _ _ D.o;have v1:I.cell? ⟨wr.heap.size,1,none⟩=some (.int .i64 l):=aG _ _ _ _ _ _ D.o;have v2:I.cell? ⟨wr.heap.size,2,none⟩=some (.int .i64 s):=aG _ _ _ _ _ _ D.o;have v3:I.cell? ⟨wr.heap.size,3,none⟩=some (.int .i64 u):=aG _ _ _ _ _ _ D.o;have v4:I.cell? ⟨wr.heap.size,4,none⟩=some (.int .i64 B):=aG _ _ _ _ _ _ D.o;have v5:I.cell? ⟨wr.heap.size,5,none⟩=some (.int .i64 C):=aG _ _ _ _ _ _ D.o;have v6:I.cell? ⟨wr.heap.size,6,none⟩=some (.string E):=aG _ _ _ _ _ _ D.o;have v7:I.cell? ⟨wr.heap.size,7,none⟩=some (.bool G):=aG _ _ _ _ _ _ D.o)
       |(go_at_call 169;refine(aB.o I ah.o).mono ?_;rintro e w3 ⟨rfl,Y⟩;have au:=bK Y D;have aR:=bT ah Y;have av:=bT ar Y;have aw:=kO HO aR.o;clear Y;dsimp only[ixI]))
      obtain⟨g3,rfl,-,ba,U⟩:=cZ (f:=plcL) (λ_=>rfl) H.o aw.o bm plc0;obtain⟨d2,bn⟩:∃d,d=(M.getD kf plc0).dir:=⟨_,rfl⟩;have cc:w3.cell? ⟨g3,kf*8+7,none⟩=some (.bool d2):=by rw[bn];exact U 7 _ rfl
      rw[<-bn] at X;have bJ:(Value.slice (some ⟨g3,0,none⟩) m c').ownBlock≠some wr.heap.size:=λe=>by
       have e:some g3=some wr.heap.size:=e;injection e with e;have:=(HO.o.lt g3 rfl).2;omega
      have c7:=cw7 au.o;have f7:w3.frozen? ⟨wr.heap.size,7,none⟩=false:=aS _ _ _ _ _ au.o;have cd:=hid bJ;clear U bn bJ;go_upto_region 11 with fail;obtain⟨V1,af⟩:∃V,V=w3.setCell ⟨wr.heap.size,7,none⟩ (.bool d2):=⟨_,rfl⟩;have ce:=hid (show V1.heap[wr.heap.size]? =some (.cells #[g,l,s,u,B,C,E,d2] 161 (0,0)) by rw[af];exact gF (c:=#[.int .i64 g,.int .i64 l,.int .i64 s,.int .i64 u,.int .i64 B,.int .i64 C,.string E,.bool G]) au.o 7 (.bool d2) rfl);have bo:=hid (show V1.ownsRow w.heap.size 161 8 (.slice (some ⟨g3,0,none⟩) m c') m (M.flatMap plcL) by rw[af];exact gG aw.o cd.o 7 (.bool d2));have bL:=hid (show Below w.heap.size w V1 by rw[af];exact av.o.grown (di wr.heap.size 7 (.bool d2)) av.o.size (λb e=>by cases e;exact bw));have aJ:=eX (f:=plcL) (λ_=>rfl) (by decide) H.o bo.o bm (⟨⟨⟨g,l⟩,s⟩,⟨⟨u,B⟩,C⟩,E,d2⟩:Plc);obtain⟨V2,ai⟩:∃V,V=V1.setCells g3 (kf*8) (#[.int .i64 g,.int .i64 l,.int .i64 s,.int .i64 u,.int .i64 B,.int .i64 C,.string E,.bool d2]:Array Value).toList:=⟨_,rfl⟩;have aU:=hid (show V2.ownsRow w.heap.size 161 8 (.slice (some ⟨g3,0,none⟩) m c') m ((M.set kf (⟨⟨⟨g,l⟩,s⟩,⟨⟨u,B⟩,C⟩,E,d2⟩:Plc)).flatMap plcL) by rw[ai];exact aJ.1);have a6:=hid (show Below w.heap.size w V2 by rw[ai];exact bL.o.grown aJ.2 bL.o.size (λb e=>by cases e;exact(bo.o.lt g3 rfl).1));obtain⟨g6,e6,aF⟩:=eJ bo.o bm;cases e6;have bl:=hid aF;have bk:=hid ai
      have cf:=hid (show(#[.int .i64 g,.int .i64 l,.int .i64 s,.int .i64 u,.int .i64 B,.int .i64 C,.string E,.bool d2]:Array Value).all (·.oneCell')=true by rw[<-cv];rfl);have bQ:=hid (show m=(M.set kf (⟨⟨⟨g,l⟩,s⟩,⟨⟨u,B⟩,C⟩,E,d2⟩:Plc)).length by rw[dj];exact H.o);rw[<-af];clear aJ aF ai af c7 f7 cc v0 v1 v2 v3 v4 v5 v6 v7 z0 z1 z2 z3 z4 z5 z6 z7
      go_wp2_with (first
       |(refine lA ce co ?_)
       |(refine wpList_store_mid rfl _ _ _ rfl g3 (kf*8) #[.int .i64 g,.int .i64 l,.int .i64 s,.int .i64 u,.int .i64 B,.int .i64 C,.string E,.bool d2] rfl rfl bl.o (by kernel_rfl) cf.o ?_;rw[<-bk.o]))
      go_roundw
      case rel=>exact⟨k+1,some ⟨g3,0,none⟩,c',m,_,by omega,by go_num,rfl,by omega,bQ,hid X.o.symm,aU,a6⟩
      case measure=>(simp[RowKit.intOf];omega)
  ·obtain rfl:k=N.length:=by omega
   have i2:¬(N.length:Int)<(N.length:Int):=by omega
   have bM:=hid (show M=R by rw[bV.o];have h9:=HM.o;rw[aO] at h9;exact h9);go_wp2;go_ret;refine⟨A',c',by rw[<-bM.o,<-H.o];rfl,?_,a0.o.trans (aN.o.mono a0.o.size)⟩;rw[<-bM.o,<-H.o];exact iK HO.o a0.o.size
end
end Go.Proofs.YtkhmicndehlneaaGreatDoor
