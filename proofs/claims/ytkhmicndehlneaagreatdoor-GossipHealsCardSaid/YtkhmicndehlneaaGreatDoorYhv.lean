/- Part 22 of the walks and plain laws that this claim uses, joined. Conditions: as each theorem states. -/
import Derived.Test.YtkhmicndehlneaaGreatDoorYhu
namespace Go.Proofs.YtkhmicndehlneaaGreatDoor
set_option maxRecDepth 100000
set_option maxHeartbeats 16000000
set_option linter.unusedVariables false
section
open Go.RowKit Go.Lib Go.Sort
attribute [local go_sem ↓] Go.wp_at_zero Go.wp_at_succ
def opsN (d:Bool) (l:List Gop):List Gid:=(l.filter (λo=>decide (o.kind=0) && (o.dir == d))).map (·.node)
def fs (d:Bool) (L:List (Grp×GrX)):List Gid:=L.flatMap λp=>opsN d p.1.ops
theorem opsN_succ (d:Bool) {l:List Gop} {j:Nat} (h:j<l.length):opsN d (l.take (j+1))=opsN d (l.take j)++(if (decide ((l.getD j (opO 0 .zero)).kind=0) && ((l.getD j (opO 0 .zero)).dir == d))=true then [(l.getD j (opO 0 .zero)).node] else []):=by
 unfold opsN;rw[dF h (opO 0 .zero),jD,bq];congr 1;generalize l.getD j (opO 0 .zero)=o;cases e:(decide (o.kind=0) && (o.dir == d))<;>simp[List.filter,e]
def opsR (x:Gid) (l:List Gop):List Rn:=(l.filter (λo=>decide (o.kind=3) && o.node.eqb x)).map λo=>⟨o.after,o.elem,o.text⟩
def fK (x:Gid) (L:List (Grp×GrX)):List Rn:=L.flatMap λp=>opsR x p.1.ops
theorem opsR_succ (x:Gid) {l:List Gop} {j:Nat} (h:j<l.length):opsR x (l.take (j+1))=opsR x (l.take j)++(if (decide ((l.getD j (opO 0 .zero)).kind=3) && (l.getD j (opO 0 .zero)).node.eqb x)=true then [⟨(l.getD j (opO 0 .zero)).after,(l.getD j (opO 0 .zero)).elem,(l.getD j (opO 0 .zero)).text⟩] else []):=by
 unfold opsR;rw[dF h (opO 0 .zero),jD,bq];congr 1;generalize l.getD j (opO 0 .zero)=o;cases e:(decide (o.kind=3) && o.node.eqb x)<;>simp[List.filter,e]
theorem nodes_any (L:List (Grp×GrX)) (A:Option Addr) (c:Nat) (d:Bool) (S:Nat->Prop) (w:World) (hl:L.length<=1000) (hlo:∀p∈L,p.1.ops.length<=1000) (hR:RowGr w A L) (hG:∀p∈L,GrG w S p):
  Calls Tryz.prog 142 #[.slice A L.length c,d] w λe w'=>∃A' c',e= .returned (.slice A' (fs d L).length c')∧w'.ownsRow w.heap.size 108 3 (.slice A' (fs d L).length c') (fs d L).length ((fs d L).flatMap idL)∧Below w.heap.size w w':=by
 obtain⟨i0,hi,hz0,hz1,hz2⟩:=bD info_id;have HR:=hid hR;have HG:=hid hG;clear hR hG;go_enter Tryz.func142,Tryz.ntmps142;have HLO:=hid hlo;clear hlo;go_upto_region 3 with fail;go_loopw [5,6] (λo i wr=>∃(k:Nat) (A':Option Addr) (c' m:Nat),k<=L.length∧i= .int .i64 k∧o= .slice A' m c'∧m<=k*1000∧Hid (m=(fs d (L.take k)).length)∧Hid (wr.ownsRow w.heap.size 108 3 (.slice A' m c') m ((fs d (L.take k)).flatMap idL))∧Hid (Below w.heap.size w wr)) (λo i _=>L.length-(RowKit.intOf i).toNat)
 case atStart=>exact⟨0,none,0,0,aq _,rfl,rfl,aq _,hid rfl,hid (aF _ _ _ _),hid (ag _ _)⟩
 case round=>
  obtain⟨k,A',c',m,hk,rfl,rfl,hmk,HML,HO,HBr⟩:=hrel;by_cases hlt:k<L.length
  ·have i1:(0:Int)<=(k:Int):=by omega
   have i2:(k:Int)<(L.length:Int):=by omega
   obtain⟨rb,ro,rfl,hrb,hrange⟩:=HR.out.range hlt;have hst:fs d (L.take (k+1))=fs d (L.take k)++opsN d (L.getD k gp0).1.ops:=by rw[dF hlt gp0];simp[fs]
   have hop:=(HG.out _ (bL hlt gp0)).ops;have hol:=HLO.out _ (bL hlt gp0);generalize fs d (L.take k)=N at *;generalize L.getD k gp0=p at *;obtain⟨⟨⟨t,r⟩,n,dv,⟨ut,ur⟩,ops⟩,⟨dA,dc,oA,oc⟩⟩:=p;obtain⟨X,hX1,hX2⟩:=hop;have hol:ops.length<=1000:=hol;have HRW:=hid (λW (hB:Below w.heap.size w W)=>show W.rangeAt rb (ro+k*7) [t,r,n,.slice dA dv.length dc,ut,ur,.slice oA ops.length oc] from cd hrange hrb hB);have HX1:=hid hX1;have HST:=hid (show fs d (L.take (k+1))=N++opsN d ops from hst);have hsz:=HBr.out.size;clear hrange hrb hst hX1 hX2;generalize wr=w0 at *;go_upto_region 6 with fail;go_loopw [5,7] (λo i wr=>∃(j:Nat) (A':Option Addr) (c' m:Nat),j<=ops.length∧i= .int .i64 j∧o= .slice A' m c'∧m<=k*1000+j∧Hid (m=(N++opsN d (ops.take j)).length)∧Hid (wr.ownsRow w.heap.size 108 3 (.slice A' m c') m ((N++opsN d (ops.take j)).flatMap idL))∧Hid (Below w.heap.size w wr)) (λo i _=>ops.length-(RowKit.intOf i).toNat)
   case atStart=>exact⟨0,A',c',m,aq _,rfl,rfl,hmk,hid (by rw[HML.out];simp[opsN]),hid (by have h9:=HO.out;simpa[opsN] using h9),HBr⟩
   case round=>
    obtain⟨j,A',c',m,hj,rfl,rfl,hmj,HML,HO,HBr⟩:=hrel;have HRG:=hid (HRW.out wr HBr.out);have hszr:=HBr.out.size;have g6:wr.cell? ⟨rb,ro+k*7+6,none⟩=some (.slice oA ops.length oc):=HRG.out 6 _ rfl;by_cases hjl:j<ops.length
    ·have j1:(0:Int)<=(j:Int):=by omega
     have j2:(j:Int)<(ops.length:Int):=by omega
     obtain⟨ob,oo,rfl,-,hob,hoc⟩:=HX1.out j hjl;have hor:=jw hoc;have hst2:=opsN_succ d hjl;generalize ops.getD j (opO 0 .zero)=o at *;generalize X j=x at *;obtain⟨kd,⟨⟨nt,nr⟩,ni⟩,⟨⟨pt,pr⟩,pi⟩,nm,dd,dots,⟨⟨at_,ar⟩,ai⟩,⟨⟨et,er⟩,ei⟩,tx,elems⟩:=o;obtain⟨sA,sc,eA,ec⟩:=x;have HOR:=hid (λW (hB:Below w.heap.size w W)=>show W.rangeAt ob (oo+j*18) [kd,nt,nr,ni,pt,pr,pi,nm,dd,.slice sA dots.length sc,at_,ar,ai,et,er,ei,tx,.slice eA elems.length ec] from cd hor hob hB);have HS2:=hid hst2;clear hor hob hoc hst2;obtain⟨b1,hb1⟩:∃b,b=decide (kd=0):=⟨_,rfl⟩;obtain⟨b2,hb2⟩:∃b,b=(dd == d):=⟨_,rfl⟩;have q1:(kd == 0)=b1:=by rw[hb1];rfl
     have q2:(dd == d)=b2:=hb2.symm;have HS2:=hid (show opsN d (ops.take (j+1))=opsN d (ops.take j)++(if (b1 && b2)=true then [⟨⟨nt,nr⟩,ni⟩] else []) by rw[HS2.out,hb1,hb2]);have HOw:=hid (HOR.out wr HBr.out);have z0:wr.cell? ⟨ob,oo+j*18,none⟩=some (.int .i64 kd):=HOw.out 0 _ rfl;have z8:wr.cell? ⟨ob,oo+j*18+8,none⟩=some (.bool dd):=HOw.out 8 _ rfl;have HNW:=hid (show wr.rangeAt ob (oo+j*18+1) [nt,nr,ni] from bv (pre:=[kd]) (post:=[pt,pr,pi,nm,dd,.slice sA dots.length sc,at_,ar,ai,et,er,ei,tx,.slice eA elems.length ec]) HOw.out);clear hb1 hb2;cases b1 with
     |false=>
      go_wp2;go_roundw
      case rel=>exact⟨j+1,A',c',m,by omega,by go_num,rfl,by omega,hid (by rw[HS2.out];simpa using HML.out),hid (by rw[HS2.out];simpa using HO.out),HBr⟩
      case measure=>(simp[RowKit.intOf];omega)
     | true=>
      cases b2 with
      |false=>
       go_wp2;go_roundw
       case rel=>exact⟨j+1,A',c',m,by omega,by go_num,rfl,by omega,hid (by rw[HS2.out];simpa using HML.out),hid (by rw[HS2.out];simpa using HO.out),HBr⟩
       case measure=>(simp[RowKit.intOf];omega)
      | true=>
       go_wp2_with (first
        |(refine lM HNW aw ?_)
        |(at_builtin;refine bX _ rfl _ _ 123 rfl w.heap.size 108 i0 (.agg #[(0:Int),(0:Int),(0:Int)]) 3 24 eQ hi hz0 hz1 hz2 rfl (by decide) (.slice A' m c') m _ rfl (by exact HO.out.alloc _) ⟨wr.heap.size,0,none⟩ 1 1 [nt,nr,ni] rfl rfl (λj y h=>dH wr [nt,nr,ni] 108 j y h) (fw (c:=#[nt,nr,ni]) rfl) (by decide) (by unfold maxLen;omega) (by omega) (by simp;omega) (wr.heap.size+1) (by simp) ?_;intro gq cap w5 hown hgrow ha hlt5;have HO5:=hid hown;have HB5:=hid ((HBr.out.alloc hszr _).grown hgrow (by simp;omega) (λb hb=>(HO.out.lt b hb).1));clear hown hgrow ha hlt5))
       go_roundw
       case rel=>exact⟨j+1,some ⟨gq,0,none⟩,cap,m+1,by omega,by go_num,rfl,by omega,hid (by rw[HS2.out,aJ (show(true && true)=true from rfl),<-aG,al,<-HML.out];rfl),hid (by rw[HS2.out,aJ (show(true && true)=true from rfl),<-aG,aI];exact HO5.out),HB5⟩
       case measure=>(simp[RowKit.intOf];omega)
    ·obtain rfl:j=ops.length:=by omega
     have j2:¬(ops.length:Int)<(ops.length:Int):=by omega
     have HM9:=hid (show m=(fs d (L.take (k+1))).length by rw[HST.out];have h9:=HML.out;rw[aK] at h9;exact h9);have HO9:=hid (show wr.ownsRow w.heap.size 108 3 (.slice A' m c') m ((fs d (L.take (k+1))).flatMap idL) by rw[HST.out];have h9:=HO.out;rw[aK] at h9;exact h9);go_wp2;go_roundw
     case rel=>exact⟨k+1,A',c',m,by omega,by go_num,rfl,by omega,HM9,HO9,HBr⟩
     case measure=>(simp[RowKit.intOf];omega)
  ·obtain rfl:k=L.length:=by omega
   have i2:¬(L.length:Int)<(L.length:Int):=by omega
   have HM9:=hid (show m=(fs d L).length by have h9:=HML.out;rw[aK] at h9;exact h9);have HO9:=hid (show wr.ownsRow w.heap.size 108 3 (.slice A' m c') m ((fs d L).flatMap idL) by have h9:=HO.out;rw[aK] at h9;exact h9);go_wp2;go_ret;refine⟨A',c',by rw[<-HM9.out];rfl,?_,HBr.out⟩;rw[<-HM9.out];exact HO9.out
theorem runs_any (L:List (Grp×GrX)) (A:Option Addr) (c:Nat) (xt xr xi:Int) (S:Nat->Prop) (w00:World) (hl:L.length<=1000) (hlo:∀p∈L,p.1.ops.length<=1000) (hR:RowGr w00 A L) (hG:∀p∈L,GrG w00 S p):
  Calls Tryz.prog 115 #[.slice A L.length c,.agg #[xt,xr,xi]] w00 λe w'=>∃A' c',e= .returned (.slice A' (fK ⟨⟨xt,xr⟩,xi⟩ L).length c')∧w'.ownsRow w00.heap.size 238 7 (.slice A' (fK ⟨⟨xt,xr⟩,xi⟩ L).length c') (fK ⟨⟨xt,xr⟩,xi⟩ L).length ((fK ⟨⟨xt,xr⟩,xi⟩ L).flatMap rnL)∧Below w00.heap.size w00 w':=by
 obtain⟨i0,hi,hz0,hz1,hz2⟩:=bD info_rn;have hb0:Below w00.heap.size w00 (w00.alloc (.cells #[xt,xr,xi] 108)):=(ag _ _).alloc (aa _) _;have HB0:=hid hb0;have HXC:=hid (am w00 (.cells #[xt,xr,xi] 108));have HR:=hid (hR.below hb0);have HG:=hid (λp hp=>(hG p hp).agr (Agr.below hb0));clear hR hG hb0;go_enter Tryz.func115,Tryz.ntmps115;go_upto_region 1 with fail;generalize hW:w00.alloc (.cells #[xt,xr,xi] 108)=w at *;clear hW;generalize hxb:w00.heap.size=xb at *;have HXB:=hid hxb;clear hxb;have HLO:=hid hlo;clear hlo;go_upto_region 3 with fail;go_loopw [5,6] (λo i wr=>∃(k:Nat) (A':Option Addr) (c' m:Nat),k<=L.length∧i= .int .i64 k∧o= .slice A' m c'∧m<=k*1000∧Hid (m=(fK ⟨⟨xt,xr⟩,xi⟩ (L.take k)).length)∧Hid (wr.ownsRow w.heap.size 238 7 (.slice A' m c') m ((fK ⟨⟨xt,xr⟩,xi⟩ (L.take k)).flatMap rnL))∧Hid (Below w.heap.size w wr)) (λo i _=>L.length-(RowKit.intOf i).toNat)
 case atStart=>exact⟨0,none,0,0,aq _,rfl,rfl,aq _,hid rfl,hid (aF _ _ _ _),hid (ag _ _)⟩
 case round=>
  obtain⟨k,A',c',m,hk,rfl,rfl,hmk,HML,HO,HBr⟩:=hrel;by_cases hlt:k<L.length
  ·have i1:(0:Int)<=(k:Int):=by omega
   have i2:(k:Int)<(L.length:Int):=by omega
   obtain⟨rb,ro,rfl,hrb,hrange⟩:=HR.out.range hlt;have hst:fK ⟨⟨xt,xr⟩,xi⟩ (L.take (k+1))=fK ⟨⟨xt,xr⟩,xi⟩ (L.take k)++opsR ⟨⟨xt,xr⟩,xi⟩ (L.getD k gp0).1.ops:=by rw[dF hlt gp0];simp[fK]
   have hop:=(HG.out _ (bL hlt gp0)).ops;have hol:=HLO.out _ (bL hlt gp0);generalize fK ⟨⟨xt,xr⟩,xi⟩ (L.take k)=N at *;generalize L.getD k gp0=p at *;obtain⟨⟨⟨t,r⟩,n,dv,⟨ut,ur⟩,ops⟩,⟨dA,dc,oA,oc⟩⟩:=p;obtain⟨X,hX1,hX2⟩:=hop;have hol:ops.length<=1000:=hol;have HRW:=hid (λW (hB:Below w.heap.size w W)=>show W.rangeAt rb (ro+k*7) [t,r,n,.slice dA dv.length dc,ut,ur,.slice oA ops.length oc] from cd hrange hrb hB);have HX1:=hid hX1;have HST:=hid (show fK ⟨⟨xt,xr⟩,xi⟩ (L.take (k+1))=N++opsR ⟨⟨xt,xr⟩,xi⟩ ops from hst);have hsz:=HBr.out.size;clear hrange hrb hst hX1 hX2;generalize wr=w0 at *;go_upto_region 6 with fail;go_loopw [5,7] (λo i wr=>∃(j:Nat) (A':Option Addr) (c' m:Nat),j<=ops.length∧i= .int .i64 j∧o= .slice A' m c'∧m<=k*1000+j∧Hid (m=(N++opsR ⟨⟨xt,xr⟩,xi⟩ (ops.take j)).length)∧Hid (wr.ownsRow w.heap.size 238 7 (.slice A' m c') m ((N++opsR ⟨⟨xt,xr⟩,xi⟩ (ops.take j)).flatMap rnL))∧Hid (Below w.heap.size w wr)) (λo i _=>ops.length-(RowKit.intOf i).toNat)
   case atStart=>exact⟨0,A',c',m,aq _,rfl,rfl,hmk,hid (by rw[HML.out];simp[opsR]),hid (by have h9:=HO.out;simpa[opsR] using h9),HBr⟩
   case round=>
    obtain⟨j,A',c',m,hj,rfl,rfl,hmj,HML,HO,HBr⟩:=hrel;have HRG:=hid (HRW.out wr HBr.out);have hszr:=HBr.out.size;have g6:wr.cell? ⟨rb,ro+k*7+6,none⟩=some (.slice oA ops.length oc):=HRG.out 6 _ rfl;by_cases hjl:j<ops.length
    ·have j1:(0:Int)<=(j:Int):=by omega
     have j2:(j:Int)<(ops.length:Int):=by omega
     obtain⟨ob,oo,rfl,-,hob,hoc⟩:=HX1.out j hjl;have hor:=jw hoc;have hst2:=opsR_succ ⟨⟨xt,xr⟩,xi⟩ hjl;generalize ops.getD j (opO 0 .zero)=o at *;generalize X j=x at *;obtain⟨kd,⟨⟨nt,nr⟩,ni⟩,⟨⟨pt,pr⟩,pi⟩,nm,dd,dots,⟨⟨at_,ar⟩,ai⟩,⟨⟨et,er⟩,ei⟩,tx,elems⟩:=o;obtain⟨sA,sc,eA,ec⟩:=x;have HOR:=hid (λW (hB:Below w.heap.size w W)=>show W.rangeAt ob (oo+j*18) [kd,nt,nr,ni,pt,pr,pi,nm,dd,.slice sA dots.length sc,at_,ar,ai,et,er,ei,tx,.slice eA elems.length ec] from cd hor hob hB);have HS2:=hid hst2;clear hor hob hoc hst2;obtain⟨b1,hb1⟩:∃b,b=decide (kd=3):=⟨_,rfl⟩;obtain⟨b2,hb2⟩:∃b,b=Gid.eqb ⟨⟨nt,nr⟩,ni⟩ ⟨⟨xt,xr⟩,xi⟩:=⟨_,rfl⟩;have q1:(kd == 3)=b1:=by rw[hb1];rfl
     have q2:=eJ nt nr ni xt xr xi b2 hb2.symm;have HS2:=hid (show opsR ⟨⟨xt,xr⟩,xi⟩ (ops.take (j+1))=opsR ⟨⟨xt,xr⟩,xi⟩ (ops.take j)++(if (b1 && b2)=true then [(⟨⟨⟨at_,ar⟩,ai⟩,⟨⟨et,er⟩,ei⟩,tx⟩:Rn)] else []) by rw[HS2.out,hb1,hb2]);have HOw:=hid (HOR.out wr HBr.out);clear hb1 hb2
     go_upto_region 9 with(first
      |(refine lM HOw az ?_)
      |(refine bM rfl _ _ _ rfl _ _ _ _ rfl ?_ rfl ?_ ?_ ?_ ?_;(focus(simp;done));kernel_rfl;rfl;rfl))
     have hba:=HBr.out.alloc hszr (.cells #[kd,nt,nr,ni,pt,pr,pi,nm,dd,.slice sA dots.length sc,at_,ar,ai,et,er,ei,tx,.slice eA elems.length ec] 125);have hbx:Below wr.heap.size wr (wr.alloc (.cells #[kd,nt,nr,ni,pt,pr,pi,nm,dd,.slice sA dots.length sc,at_,ar,ai,et,er,ei,tx,.slice eA elems.length ec] 125)):=(ag _ _).alloc (aa _) _;have HCX:=hid (am wr (.cells #[kd,nt,nr,ni,pt,pr,pi,nm,dd,.slice sA dots.length sc,at_,ar,ai,et,er,ei,tx,.slice eA elems.length ec] 125));have HXr:=bK hba HXC;generalize hW:wr.alloc (.cells #[kd,nt,nr,ni,pt,pr,pi,nm,dd,.slice sA dots.length sc,at_,ar,ai,et,er,ei,tx,.slice eA elems.length ec] 125)=W at *;have HBW:=hid hba;have hszW:=hba.size;have HOW:=kO HO hbx;clear hW hba hbx;have z0:=cw0 HCX.out;have z1:=cw1 HCX.out;have z2:=cw2 HCX.out;have z3:=cw3 HCX.out;have z16:=cw16 HCX.out;have x0:=cw0 HXr.out;have x1:=cw1 HXr.out;have x2:=cw2 HXr.out;have HRB:=hid (show W.rangeAt wr.heap.size 0 [kd,nt,nr,ni,pt,pr,pi,nm,dd,.slice sA dots.length sc,at_,ar,ai,et,er,ei,tx,.slice eA elems.length ec] from bf HCX.out);have HA1:=hid (show W.rangeAt wr.heap.size 10 [at_,ar,ai] from bv (pre:=[kd,nt,nr,ni,pt,pr,pi,nm,dd,.slice sA dots.length sc]) (post:=[et,er,ei,tx,.slice eA elems.length ec]) HRB.out);have HE1:=hid (show W.rangeAt wr.heap.size 13 [et,er,ei] from bv (pre:=[kd,nt,nr,ni,pt,pr,pi,nm,dd,.slice sA dots.length sc,at_,ar,ai]) (post:=[tx,.slice eA elems.length ec]) HRB.out);cases b1 with
     |false=>
      go_wp2;go_roundw
      case rel=>exact⟨j+1,A',c',m,by omega,by go_num,rfl,by omega,hid (by rw[HS2.out];simpa using HML.out),hid (by rw[HS2.out];simpa using HOW.out),HBW⟩
      case measure=>(simp[RowKit.intOf];omega)
     | true=>
      cases b2 with
      |false=>
       go_wp2;go_roundw
       case rel=>exact⟨j+1,A',c',m,by omega,by go_num,rfl,by omega,hid (by rw[HS2.out];simpa using HML.out),hid (by rw[HS2.out];simpa using HOW.out),HBW⟩
       case measure=>(simp[RowKit.intOf];omega)
      | true=>
       go_wp2_with (first
        |(refine ii rfl _ _ rfl wr.heap.size (10) rfl [at_,ar,ai] _ HA1.out aw rfl (by kernel_rfl) ?_)
        |(refine ii rfl _ _ rfl wr.heap.size (13) rfl [et,er,ei] _ HE1.out aw rfl (by kernel_rfl) ?_)
        |(at_builtin;refine bX _ rfl _ _ 171 rfl w.heap.size 238 i0 (.agg #[(0:Int),(0:Int),(0:Int),(0:Int),(0:Int),(0:Int),.string ⟨#[]⟩]) 7 64 Tryz.underlying171 hi hz0 hz1 hz2 rfl (by decide) (.slice A' m c') m _ rfl (by exact HOW.out.alloc _) ⟨W.heap.size,0,none⟩ 1 1 [at_,ar,ai,et,er,ei,tx] rfl rfl (λj y h=>dH W [at_,ar,ai,et,er,ei,tx] 238 j y h) (fw (c:=#[at_,ar,ai,et,er,ei,tx]) rfl) (by decide) (by unfold maxLen;omega) (by omega) (by simp;omega) (W.heap.size+1) (by simp) ?_;intro gq cap w5 hown hgrow ha hlt5;have HO5:=hid hown;have HB5:=hid ((HBW.out.alloc hszW _).grown hgrow (by simp;omega) (λb hb=>(HOW.out.lt b hb).1));clear hown hgrow ha hlt5))
       go_roundw
       case rel=>exact⟨j+1,some ⟨gq,0,none⟩,cap,m+1,by omega,by go_num,rfl,by omega,hid (by rw[HS2.out,aJ (show(true && true)=true from rfl),<-aG,al,<-HML.out];rfl),hid (by rw[HS2.out,aJ (show(true && true)=true from rfl),<-aG,aI];exact HO5.out),HB5⟩
       case measure=>(simp[RowKit.intOf];omega)
    ·obtain rfl:j=ops.length:=by omega
     have j2:¬(ops.length:Int)<(ops.length:Int):=by omega
     have HM9:=hid (show m=(fK ⟨⟨xt,xr⟩,xi⟩ (L.take (k+1))).length by rw[HST.out];have h9:=HML.out;rw[aK] at h9;exact h9);have HO9:=hid (show wr.ownsRow w.heap.size 238 7 (.slice A' m c') m ((fK ⟨⟨xt,xr⟩,xi⟩ (L.take (k+1))).flatMap rnL) by rw[HST.out];have h9:=HO.out;rw[aK] at h9;exact h9);go_wp2;go_roundw
     case rel=>exact⟨k+1,A',c',m,by omega,by go_num,rfl,by omega,HM9,HO9,HBr⟩
     case measure=>(simp[RowKit.intOf];omega)
  ·obtain rfl:k=L.length:=by omega
   have i2:¬(L.length:Int)<(L.length:Int):=by omega
   have HM9:=hid (show m=(fK ⟨⟨xt,xr⟩,xi⟩ L).length by have h9:=HML.out;rw[aK] at h9;exact h9);have HO9:=hid (show wr.ownsRow w.heap.size 238 7 (.slice A' m c') m ((fK ⟨⟨xt,xr⟩,xi⟩ L).flatMap rnL) by have h9:=HO.out;rw[aK] at h9;exact h9);obtain rfl:=HXB.out;go_wp2;go_ret;refine⟨A',c',by rw[<-HM9.out];rfl,?_,HB0.out.trans (HBr.out.mono HB0.out.size)⟩;rw[<-HM9.out];exact iC HO9.out HB0.out.size
end
section
open Go.RowKit Go.Lib Go.Sort
def strL (t:ByteArray):List Value:=[t]
def SpR (r:Option Nat) (w:World) (e:Ending) (w':World):Prop:=match r with
 |none=>e= .returned (.tuple #[.slice none 0 0,(60:Int)])∧Below w.heap.size w w'
 |some m=>∃A c,∃ps:List ByteArray,m=ps.length∧e= .returned (.tuple #[.slice A m c,(0:Int)])∧w'.ownsRow w.heap.size 9 1 (.slice A m c) m (ps.flatMap strL)∧Below w.heap.size w w'
theorem split6_row (s:ByteArray) (w:World) (hs:s.size<=1000000):
  Calls Tryz.prog 193 #[s] w λe w'=>SpR (cnt s.data.toList) w e w':=by
 obtain⟨R,hR⟩:∃R,R=cnt s.data.toList:=⟨_,rfl⟩;rw[<-hR];have HR:=hid hR;clear hR;obtain⟨i0,hi,hz0,hz1,hz2⟩:=bD infoStr;go_enter Tryz.func193,Tryz.ntmps193;go_wp2;go_loopw [0,4] (λt v wr=>∃T:ByteArray,∃(A:Option Addr) (m c:Nat),∃ps:List ByteArray,t= .string T∧v= .slice A m c∧T.size+m<=s.size∧Hid (m=ps.length)∧Hid (wr.ownsRow w.heap.size 9 1 (.slice A m c) m (ps.flatMap strL))∧Hid (Below w.heap.size w wr)∧Hid (R=cntAdd m (cnt T.data.toList))) (λt _ _=>match t with| .string T=>T.size|_=>0)
 case atStart=>exact⟨s,none,0,0,[],rfl,rfl,by omega,hid rfl,hid (aF w w.heap.size 9 1),hid (ag _ _),by
  show R=_;rw[HR.out]
  cases cnt s.data.toList<;>rfl⟩
 case round=>
  obtain⟨T,A,m,c,ps,rfl,rfl,hm,HM,HO,HB,HC⟩:=hrel;have hTl:T.data.toList.length=T.size:=by simp
  by_cases h0:0<T.size
  ·have hne:T.data.toList≠[]:=λe=>by rw[e] at hTl;simp at hTl;omega
   have hF:=first_any T wr (by omega) h0;cases hr:rfL T.data.toList with
   |none=>
    rw[hr] at hF;obtain rfl:R=none:=by rw[HC.out,cntAdd_none hne m hr]
    have HF:Hid (Calls Tryz.prog 212 #[T] wr λe w'=>e= .returned (.tuple #[(0:Int),(0:Int),false])∧w'=wr):=hF;clear hF hr hne hTl HO;go_wp2_with fail;refine HF.out.mono ?_;rintro e w1 ⟨rfl,rfl⟩;go_wp2;go_ret2;exact⟨rfl,HB.out⟩
   | some p=>
    obtain⟨cp,k⟩:=p;rw[hr] at hF;have hk:=je hne hr;rw[hTl] at hk;have HC2:Hid (R=cntAdd (m+1) (cnt (T.extract k T.size).data.toList)):=by
     show R=_;rw[HC.out,cntAdd_step hne m hr,drop_ext]
    have HF:Hid (Calls Tryz.prog 212 #[T] wr λe w'=>e= .returned (.tuple #[.int .i64 (cp:Nat),.int .i64 (k:Nat),true])∧w'=wr):=hF;obtain⟨hk1,hk2⟩:=hk;have b1:(0:Int)<=(k:Int):=by omega
    have b2:(k:Int)<=(T.size:Int):=by omega
    have hsz:=HB.out.size;have hex:(T.extract k T.size).size=T.size-k:=by rw[cI];omega
    have HEX:=hid hex;clear hF hr hne hTl hex;go_wp2_with fail;refine HF.out.mono ?_;rintro e w1 ⟨rfl,rfl⟩;have hO:=HO.out;go_wp2_with (at_builtin;refine bu _ rfl _ _ 60 rfl w.heap.size 9 i0 (.string ⟨#[]⟩) 1 16 Tryz.underlying60 hi hz0 hz1 hz2 rfl (by decide) _ _ _ rfl (by exact hO.alloc _) ⟨w1.heap.size,0,none⟩ 1 1 [.string (T.extract 0 k)] rfl rfl (by exact cell1 _ _ _) (λu hu=>by simp at hu;subst hu;rfl) (by unfold maxLen;omega) (by omega) (by simp;omega) ?_;intro v' w3 hown' hgrow _);obtain⟨A',c',rfl⟩:∃A' c',v'=Value.slice A' (m+1) c':=by
     rcases hown'.2 with⟨rfl,h9⟩|⟨g,cap,cur,rfl,_⟩
     ·exact⟨_,_,by rw[show m+1=0 from h9]⟩
     ·exact⟨_,_,rfl⟩
    go_roundw
    case rel=>exact⟨_,A',m+1,c',ps++[T.extract 0 k],rfl,rfl,by rw[HEX.out];omega,hid (by rw[al,<-HM.out];rfl),hid (by rw[aI];exact hown'),hid ((HB.out.alloc (by omega) _).grown hgrow (by simp;omega) (λi h=>(hO.lt i h).1)),HC2⟩
    case measure=>show(T.extract k T.size).size<T.size;rw[HEX.out];omega
  ·have he:T.data.toList=[]:=by
    cases e:T.data.toList with
    |nil=>rfl
    |cons a l=>rw[e] at hTl;simp at hTl;omega
   obtain rfl:R=some m:=by rw[HC.out,he,cnt_nil];show some (0+m)=_;rw[bN]
   have hTs:T.size=0:=by omega
   obtain rfl:T=⟨#[]⟩:=gm.1 he;clear hTl he hTs;go_wp2;go_ret2;exact⟨A,c,ps,HM.out,rfl,HO.out,HB.out⟩
end
section
open Go.RowKit Go.Lib Go.Sort
attribute [local go_sem ↓] Go.wp_at_zero Go.wp_at_succ
def dZ (L:List Plc) (x:Gid):Option Nat:=L.findIdx? λy=>y.n.eqb x
def gv (L:List Plc) (up:Gid):Nat->Gid->Bool
 |0,_=>true
 |f+1,x=>if x.eqb up=true then true else match dZ L x with
  |none=>false
  |some k=>gv L up f (L.getD k plc0).p
def jq (L:List Plc) (x up:Gid):Bool:=gv L up (L.length+1) x
theorem fL {L:List Plc} {x:Gid} {k:Nat} (h:dZ L x=some k):k<L.length∧(L.getD k plc0).n=x:=by
 unfold dZ at h;rw[List.findIdx?_eq_some_iff_getElem] at h;obtain⟨hk,h1,-⟩:=h;refine⟨hk,?_⟩;rw[ae,an hk];exact Gid.eqb_iff.1 h1
theorem within_any (L:List Plc) (A:Option Addr) (c:Nat) (xt xr xi ut ur ui:Int) (S:Nat->Prop) (w00:World) (hl:L.length<=100000) (hR:RowF w00 S A 8 plcL plc0 L):
  Calls Tryz.prog 168 #[.slice A L.length c,.agg #[xt,xr,xi],.agg #[ut,ur,ui]] w00 λe w'=>e= .returned (.bool (jq L ⟨⟨xt,xr⟩,xi⟩ ⟨⟨ut,ur⟩,ui⟩))∧Below w00.heap.size w00 w':=by
 obtain⟨ans,hans⟩:∃b,b=jq L ⟨⟨xt,xr⟩,xi⟩ ⟨⟨ut,ur⟩,ui⟩:=⟨_,rfl⟩;rw[<-hans];have HANS:=hid hans;have hb0:Below w00.heap.size w00 ((w00.alloc (.cells #[xt,xr,xi] 108)).alloc (.cells #[ut,ur,ui] 108)):=((ag _ _).alloc (aa _) _).alloc (by simp) _;have hc1:=am w00 (.cells #[xt,xr,xi] 108);have hc2:((w00.alloc (.cells #[xt,xr,xi] 108)).alloc (.cells #[ut,ur,ui] 108)).heap[w00.heap.size+1]? =some (.cells #[ut,ur,ui] 108 (0,0)):=bn _ _ (by simp);have hc3:((w00.alloc (.cells #[xt,xr,xi] 108)).alloc (.cells #[ut,ur,ui] 108)).heap[w00.heap.size]? =some (.cells #[xt,xr,xi] 108 (0,0)):=(ax _ _ _ (by simp)).trans hc1;have HB0:=hid hb0;have HX0:=hid hc3;have HU0:=hid hc2;have HR:=hid hR;clear hR hans hb0 hc1 hc2 hc3;go_enter Tryz.func168,Tryz.ntmps168;go_upto_region 2 with fail;generalize hW:(w00.alloc (.cells #[xt,xr,xi] 108)).alloc (.cells #[ut,ur,ui] 108)=w at *;clear hW;go_loopw [7] (λi wr=>∃(n:Nat) (x:Gid),n<=L.length+1∧i= .int .i64 n∧Hid (wr.heap[w00.heap.size]? =some (.cells (idL x).toArray 108 (0,0)))∧Hid (wr.heap[w00.heap.size+1]? =some (.cells #[ut,ur,ui] 108 (0,0)))∧Hid (ans=gv L ⟨⟨ut,ur⟩,ui⟩ (L.length+1-n) x)∧Hid (Below w00.heap.size w00 wr)) (λi _=>L.length+1-(RowKit.intOf i).toNat)
 case atStart=>exact⟨0,⟨⟨xt,xr⟩,xi⟩,aq _,rfl,HX0,HU0,hid (by rw[HANS.out];rfl),HB0⟩
 case round=>
  obtain⟨n,x,hn,rfl,HX,HU,HA,HBr⟩:=hrel;by_cases hlt:n<=L.length
  ·have i1:(n:Int)<=(L.length:Int):=by omega
   obtain⟨f,hf⟩:∃f,L.length+1-n=f+1:=⟨L.length-n,by omega⟩;have HF:=hid (show L.length+1-(n+1)=f by omega);rw[hf] at HA;obtain⟨⟨t,r⟩,q⟩:=x;have HX:Hid (wr.heap[w00.heap.size]? =some (.cells #[t,r,q] 108 (0,0))):=HX;obtain⟨b,hb⟩:∃b,b=Gid.eqb ⟨⟨t,r⟩,q⟩ ⟨⟨ut,ur⟩,ui⟩:=⟨_,rfl⟩;have q1:=eJ t r q ut ur ui b hb.symm;have HFD:=hid (show Calls Tryz.prog 169 #[.slice A L.length c,.agg #[t,r,q]] wr λe w'=>e= .returned (.int .i64 (ixI (dZ L ⟨⟨t,r⟩,q⟩)))∧Below wr.heap.size wr w' from gX L A c ⟨⟨t,r⟩,q⟩ S wr (by omega) (HR.out.below HBr.out));cases b with
   | true=>
    have HA2:=hid (show ans=true by rw[HA.out,gv,aJ hb.symm]);clear hb hf
    go_wp2_with (first
     |(refine lA HX aw ?_)
     |(refine lA HU aw ?_))
    go_ret;exact⟨by rw[HA2.out];rfl,HBr.out⟩
   | false=>
    cases hfd:dZ L ⟨⟨t,r⟩,q⟩ with
    | none=>
     have HA2:=hid (show ans=false by rw[HA.out,gv,aC (by rw[<-hb];decide),hfd]);rw[hfd] at HFD;clear hb hf hfd
     go_wp2_with (first
      |(refine lA HX aw ?_)
      |(refine lA HU aw ?_)
      |(go_at_call 169;refine HFD.out.mono ?_;rintro e w2 ⟨rfl,hB2⟩;have HB2:=hid hB2;clear hB2;dsimp only[ixI]))
     go_ret;exact⟨by rw[HA2.out];rfl,HBr.out.trans (HB2.out.mono HBr.out.size)⟩
    | some k=>
     obtain⟨hk,-⟩:=fL hfd;have HA2:=hid (show ans=gv L ⟨⟨ut,ur⟩,ui⟩ f (L.getD k plc0).p by rw[HA.out,gv,aC (by rw[<-hb];decide),hfd]);rw[hfd] at HFD;obtain⟨rb,ro,rfl,-,hrb,hrange⟩:=HR.out.range (λ_=>rfl) hk;have i3:(0:Int)<=(k:Int):=by omega
     have i4:(k:Int)<(L.length:Int):=by omega
     have i5:¬(k:Int)<0:=by omega
     generalize L.getD k plc0=p at *;obtain⟨⟨⟨nt,nr⟩,ni⟩,⟨⟨pt,pr⟩,pi⟩,nm,dd⟩:=p;have HRW:=hid (λW (hB:Below w00.heap.size w00 W)=>show W.rangeAt rb (ro+k*8+3) [pt,pr,pi] from bv (pre:=[nt,nr,ni]) (post:=[nm,dd]) (cd hrange hrb hB));have HPC:=hid (show(#[pt,pr,pi]:Array Value).toList.all (·.oneCell')=true from rfl);clear hb hf hfd hrange hrb
     go_upto_region 9 with(first
      |(refine lA HX aw ?_)
      |(refine lA HU aw ?_)
      |(go_at_call 169;refine HFD.out.mono ?_;rintro e w2 ⟨rfl,hB2⟩;have HX2:=bK hB2 HX;have HU2:=bK hB2 HU;have HB2:=bT HBr hB2;have HRX:=hid (HRW.out w2 HB2.out);clear hB2;dsimp only[ixI]))
     obtain⟨V,hV⟩:∃V,V=w2.setRow w00.heap.size #[pt,pr,pi]:=⟨_,rfl⟩;have HV:=hid hV;have HX3:=hid (show V.heap[w00.heap.size]? =some (.cells #[pt,pr,pi] 108 (0,0)) by rw[hV];exact aM _ HX2.out);have HU3:=hid (show V.heap[w00.heap.size+1]? =some (.cells #[ut,ur,ui] 108 (0,0)) by rw[hV,setRow_other _ _ _ _ (by omega)];exact HU2.out);have HB3:=hid (show Below w00.heap.size w00 V by rw[hV];exact Below.setRow' HB2.out (aa _) _);clear hV
     go_wp2_with (first
      |(refine lM HRX aw ?_)
      |(refine da rfl _ _ _ rfl w00.heap.size 108 #[t,r,q] #[pt,pr,pi] rfl rfl HX2.out (by kernel_rfl) rfl HPC.out ?_;rw[<-HV.out]))
     go_roundw
     case rel=>exact⟨n+1,⟨⟨pt,pr⟩,pi⟩,by omega,by go_num,HX3,HU3,hid (by rw[HF.out];exact HA2.out),HB3⟩
     case measure=>(simp[RowKit.intOf];omega)
  ·obtain rfl:n=L.length+1:=by omega
   have i1:¬((L.length:Int)+1)<=(L.length:Int):=by omega
   have i2:¬(((L.length+1:Nat):Int))<=(L.length:Int):=by omega
   have HA2:=hid (show ans=true by rw[HA.out,Nat.sub_self];rfl);go_wp2;go_ret;exact⟨by rw[HA2.out];rfl,HBr.out⟩
def g8 (out:List Plc) (x:Told):List Plc:=
 if (x.p.n.eqb .zero || jq out x.p.p x.p.n)=true then out else match dZ out x.p.n with
  |some k=>out.set k ⟨x.p.n,x.p.p,x.p.name,(out.getD k plc0).dir⟩
  |none=>insB (λy=>x.p.n.lt y.n) plc0 out x.p
def fH (l:List Told):List Plc:=(jG l).foldl g8 []
theorem stepP_len (out:List Plc) (x:Told):(g8 out x).length<=out.length+1:=by
 unfold g8;split
 ·omega
 ·split
  ·rw[cM];omega
  ·rw[j0];exact aa _
theorem foldP_len:∀(l:List Told) (out:List Plc),(l.foldl g8 out).length<=out.length+l.length
 | [],out=>aa _
 |x::l,out=>by
  have h1:=foldP_len l (g8 out x)
  have h2:=stepP_len out x
  rw[dU,bG];omega
theorem replayL_len (l:List Told):(fH l).length<=l.length:=by
 unfold fH;have h1:=foldP_len (jG l) [];have h2:=sortT_len l [];simp only[fU,bN] at h1 h2;exact aL h1 h2
theorem replay_any (L:List Told) (A A2:Option Addr) (c c2:Nat) (S S2:Nat->Prop) (w00:World) (hl:L.length<=100000) (hR:RowF w00 S A 3 idL Gid.zero (L.map (·.a))) (hR2:RowF w00 S2 A2 8 plcL plc0 (L.map (·.p))):
  Calls Tryz.prog 111 #[.slice A L.length c,.slice A2 L.length c2] w00 λe w'=>∃A' c',e= .returned (.slice A' (fH L).length c')∧w'.ownsRow w00.heap.size 161 8 (.slice A' (fH L).length c') (fH L).length ((fH L).flatMap plcL)∧Below w00.heap.size w00 w':=by
 obtain⟨i0,hi,hz0,hz1,hz2⟩:=bD info_plc;have HSO:=hid (sortedt_any L A A2 c c2 S S2 w00 hl hR hR2);have hsl:=sortT_len L [];obtain⟨N,hN⟩:∃N,N=jG L:=⟨_,rfl⟩;obtain⟨R,hR9⟩:∃R,R=fH L:=⟨_,rfl⟩;have HRR:=hid (show R=N.foldl g8 [] by rw[hR9,hN];rfl);rw[<-hR9];rw[<-hN] at HSO;have hNl:N.length<=100000:=by rw[hN];simp only[fU,bN] at hsl;exact aL hsl hl
 clear hR hR2 hR9 hN hsl;go_enter Tryz.func111,Tryz.ntmps111;go_upto_region 4 with(go_at_call 167;refine HSO.out.mono ?_;rintro e w ⟨A1,c1,rfl,hown1,hB1⟩;have HN1:=hid hown1;have HB1:=hid hB1;clear hown1 hB1);go_loopw [6,7] (λo i wr=>∃(k:Nat) (A':Option Addr) (c' m:Nat) (M:List Plc),k<=N.length∧i= .int .i64 k∧o= .slice A' m c'∧m<=k∧Hid (m=M.length)∧Hid (M=(N.take k).foldl g8 [])∧Hid (wr.ownsRow w.heap.size 161 8 (.slice A' m c') m (M.flatMap plcL))∧Hid (Below w.heap.size w wr)) (λo i _=>N.length-(RowKit.intOf i).toNat)
 case atStart=>exact⟨0,none,0,0,[],aq _,rfl,rfl,aa _,hid rfl,hid rfl,hid (aF _ _ _ _),hid (ag _ _)⟩
 case round=>
  obtain⟨k,A',c',m,M,hk,rfl,rfl,hmk,HML,HM,HO,HBr⟩:=hrel;by_cases hlt:k<N.length
  ·have i1:(0:Int)<=(k:Int):=by omega
   have i2:(k:Int)<(N.length:Int):=by omega
   obtain⟨rb,rfl,-,hrb,hrange⟩:=jY (f:=toldL) (λ_=>rfl) HN1.out hlt fE;have hst:((N.take (k+1)).foldl g8 [])=g8 M (N.getD k fE):=by rw[HM.out];exact eL _ _ hlt fE
   generalize N.getD k fE=p at *;obtain⟨⟨⟨t,r⟩,n⟩,⟨⟨⟨nt,nr⟩,ni⟩,⟨⟨pt,pr⟩,pi⟩,nm,dd⟩⟩:=p;have hsz:=HBr.out.size;have hm63:m<=100000:=by omega
   have HPX:=hid (show wr.rangeAt rb (k*11+3) [.int .i64 nt,.int .i64 nr,.int .i64 ni,.int .i64 pt,.int .i64 pr,.int .i64 pi,.string nm,.bool dd] from bv (pre:=[.int .i64 t,.int .i64 r,.int .i64 n]) (post:=[]) (cd hrange hrb HBr.out));obtain⟨b0,hb0⟩:∃b,b=Gid.eqb ⟨⟨nt,nr⟩,ni⟩ ⟨⟨0,0⟩,0⟩:=⟨_,rfl⟩;obtain⟨b1,hb1⟩:∃b,b=jq M ⟨⟨pt,pr⟩,pi⟩ ⟨⟨nt,nr⟩,ni⟩:=⟨_,rfl⟩;have q0:=eJ nt nr ni 0 0 0 b0 hb0.symm
   have HST:=hid (show((N.take (k+1)).foldl g8 [])=if (b0 || b1)=true then M else match dZ M ⟨⟨nt,nr⟩,ni⟩ with
    |some k=>M.set k ⟨⟨⟨nt,nr⟩,ni⟩,⟨⟨pt,pr⟩,pi⟩,nm,(M.getD k plc0).dir⟩
    |none=>insB (λy=>Gid.lt ⟨⟨nt,nr⟩,ni⟩ y.n) plc0 M ⟨⟨⟨nt,nr⟩,ni⟩,⟨⟨pt,pr⟩,pi⟩,nm,dd⟩ by rw[hst,hb0,hb1];rfl)
   have HWI:=hid (λW (hB:Below wr.heap.size wr W)=>show Calls Tryz.prog 168 #[.slice A' m c',.agg #[pt,pr,pi],.agg #[nt,nr,ni]] W λe w'=>e= .returned (.bool b1)∧Below W.heap.size W w' from by
    have h9:=within_any M A' c' pt pr pi nt nr ni _ W (by rw[<-HML.out];omega) (ct (f:=plcL) (z:=plc0) (λ_=>rfl) HML.out (HO.out.kept (dg (r:=none) hB) (cw _)))
    rw[<-HML.out,<-hb1] at h9;exact h9)
   have HFD:=hid (λW (hB:Below wr.heap.size wr W)=>show Calls Tryz.prog 169 #[.slice A' m c',.agg #[nt,nr,ni]] W λe w'=>e= .returned (.int .i64 (ixI (dZ M ⟨⟨nt,nr⟩,ni⟩)))∧Below W.heap.size W w' from by
    have h9:=gX M A' c' ⟨⟨nt,nr⟩,ni⟩ _ W (by rw[<-HML.out];omega) (ct (f:=plcL) (z:=plc0) (λ_=>rfl) HML.out (HO.out.kept (dg (r:=none) hB) (cw _)))
    rw[<-HML.out] at h9;exact h9)
   clear hst hb0 hb1 hrange hrb
   go_upto_region 7 with(first
    |(refine lM HPX ca ?_)
    |(refine bM rfl _ _ _ rfl _ _ _ _ rfl ?_ rfl ?_ ?_ ?_ ?_;(focus(simp;done));kernel_rfl;rfl;rfl))
   have hba:=HBr.out.alloc hsz (.cells #[nt,nr,ni,pt,pr,pi,nm,dd] 161);have hbx:Below wr.heap.size wr (wr.alloc (.cells #[nt,nr,ni,pt,pr,pi,nm,dd] 161)):=(ag _ _).alloc (aa _) _;have HCX:=hid (am wr (.cells #[nt,nr,ni,pt,pr,pi,nm,dd] 161));generalize hW:wr.alloc (.cells #[nt,nr,ni,pt,pr,pi,nm,dd] 161)=W at *;have HBW:=hid hba;have HBX:=hid hbx;have HOW:=kO HO hbx;clear hW hba hbx;have z0:=cw0 HCX.out;have z1:=cw1 HCX.out;have z2:=cw2 HCX.out;have z3:=cw3 HCX.out;have z4:=cw4 HCX.out;have z5:=cw5 HCX.out;have z6:=cw6 HCX.out;have z7:=cw7 HCX.out;cases b0 with
   |true=>
    have HS9:=hid (show((N.take (k+1)).foldl g8 [])=M by rw[HST.out];rfl);go_wp2;go_roundw
    case rel=>exact⟨k+1,A',c',m,M,by omega,by go_num,rfl,by omega,HML,hid HS9.out.symm,HOW,HBW⟩
    case measure=>(simp[RowKit.intOf];omega)
   | false=>
    cases b1 with
    |true=>
     have HS9:=hid (show((N.take (k+1)).foldl g8 [])=M by rw[HST.out];rfl);go_wp2_with (go_at_call 168;refine(HWI.out W HBX.out).mono ?_;rintro e w2 ⟨rfl,hB2⟩;have HC2:=bK hB2 HCX;have HBY:=bT HBX hB2;have HB2:=bT HBW hB2;clear hB2;have v0:w2.cell? ⟨wr.heap.size,0,none⟩=some (.int .i64 nt):=aD _ _ _ _ _ _ HC2.out;have v1:w2.cell? ⟨wr.heap.size,1,none⟩=some (.int .i64 nr):=aD _ _ _ _ _ _ HC2.out;have v2:w2.cell? ⟨wr.heap.size,2,none⟩=some (.int .i64 ni):=aD _ _ _ _ _ _ HC2.out;have v3:w2.cell? ⟨wr.heap.size,3,none⟩=some (.int .i64 pt):=aD _ _ _ _ _ _ HC2.out;have v4:w2.cell? ⟨wr.heap.size,4,none⟩=some (.int .i64 pr):=aD _ _ _ _ _ _ HC2.out;have v5:w2.cell? ⟨wr.heap.size,5,none⟩=some (.int .i64 pi):=aD _ _ _ _ _ _ HC2.out;have v6:w2.cell? ⟨wr.heap.size,6,none⟩=some (.string nm):=aD _ _ _ _ _ _ HC2.out;have v7:w2.cell? ⟨wr.heap.size,7,none⟩=some (.bool dd):=aD _ _ _ _ _ _ HC2.out);have HO2:=kO HO HBY.out;go_roundw
     case rel=>exact⟨k+1,A',c',m,M,by omega,by go_num,rfl,by omega,HML,hid HS9.out.symm,HO2,HB2⟩
     case measure=>(simp[RowKit.intOf];omega)
    | false=>
     cases hfd:dZ M ⟨⟨nt,nr⟩,ni⟩ with
     | none=>
      have HS9:=hid (show((N.take (k+1)).foldl g8 [])=insB (λy:Plc=>Gid.lt ⟨⟨nt,nr⟩,ni⟩ y.n) plc0 M ⟨⟨⟨nt,nr⟩,ni⟩,⟨⟨pt,pr⟩,pi⟩,nm,dd⟩ by rw[HST.out,aC (by decide),hfd]);rw[hfd] at HFD;clear hfd HST
      go_upto_region 12 with(first
       |(go_at_call 168;refine(HWI.out W HBX.out).mono ?_;rintro e w2 ⟨rfl,hB2⟩;have HC2:=bK hB2 HCX;have HBY:=bT HBX hB2;have HB2:=bT HBW hB2;clear hB2;have v0:w2.cell? ⟨wr.heap.size,0,none⟩=some (.int .i64 nt):=aD _ _ _ _ _ _ HC2.out;have v1:w2.cell? ⟨wr.heap.size,1,none⟩=some (.int .i64 nr):=aD _ _ _ _ _ _ HC2.out;have v2:w2.cell? ⟨wr.heap.size,2,none⟩=some (.int .i64 ni):=aD _ _ _ _ _ _ HC2.out;have v3:w2.cell? ⟨wr.heap.size,3,none⟩=some (.int .i64 pt):=aD _ _ _ _ _ _ HC2.out;have v4:w2.cell? ⟨wr.heap.size,4,none⟩=some (.int .i64 pr):=aD _ _ _ _ _ _ HC2.out;have v5:w2.cell? ⟨wr.heap.size,5,none⟩=some (.int .i64 pi):=aD _ _ _ _ _ _ HC2.out;have v6:w2.cell? ⟨wr.heap.size,6,none⟩=some (.string nm):=aD _ _ _ _ _ _ HC2.out;have v7:w2.cell? ⟨wr.heap.size,7,none⟩=some (.bool dd):=aD _ _ _ _ _ _ HC2.out)
       |(go_at_call 169;refine(HFD.out w2 HBY.out).mono ?_;rintro e w3 ⟨rfl,hB3⟩;have HC3:=bK hB3 HC2;have HBZ:=bT HBY hB3;have HB3:=bT HB2 hB3;have HO3:=kO HO HBZ.out;clear hB3;dsimp only[ixI]))
      have hsz3:=HB3.out.size
      go_upto_region 14 with(first
       |(refine lA HC3 ca ?_)
       |(at_builtin;refine bX _ rfl _ _ 101 rfl w.heap.size 161 i0 (.agg #[(0:Int),(0:Int),(0:Int),(0:Int),(0:Int),(0:Int),.string ⟨#[]⟩,false]) 8 72 Tryz.underlying101 hi hz0 hz1 hz2 rfl (by decide) (.slice A' m c') m _ rfl (by exact HO3.out.alloc _) ⟨w3.heap.size,0,none⟩ 1 1 [.int .i64 nt,.int .i64 nr,.int .i64 ni,.int .i64 pt,.int .i64 pr,.int .i64 pi,.string nm,.bool dd] rfl rfl (λj y h=>dH w3 [.int .i64 nt,.int .i64 nr,.int .i64 ni,.int .i64 pt,.int .i64 pr,.int .i64 pi,.string nm,.bool dd] 161 j y h) (fw (c:=#[.int .i64 nt,.int .i64 nr,.int .i64 ni,.int .i64 pt,.int .i64 pr,.int .i64 pi,.string nm,.bool dd]) rfl) (by decide) (by unfold maxLen;omega) (by omega) (by simp;omega) (w3.heap.size+1) (by simp) ?_;intro gq cap w5 hown hgrow ha hlt5;have HO5:=hid hown;have HB5:=hid ((HB3.out.alloc hsz3 _).grown hgrow (by simp;omega) (λb hb=>(HO3.out.lt b hb).1));clear hown hgrow ha hlt5))
      clear HWI HFD HCX HBW HBX HOW HBY HB2 HC2 HBZ HB3 HO3 HC3 HPX hsz3 z0 z1 z2 z3 z4 z5 z6 z7 v0 v1 v2 v3 v4 v5 v6 v7;have hs9:slid M (⟨⟨⟨nt,nr⟩,ni⟩,⟨⟨pt,pr⟩,pi⟩,nm,dd⟩:Plc) m=M++[⟨⟨⟨nt,nr⟩,ni⟩,⟨⟨pt,pr⟩,pi⟩,nm,dd⟩]:=by rw[HML.out];exact ju _ _
      have HO6:=hid (show w5.ownsRow w.heap.size 161 8 (.slice (some ⟨gq,0,none⟩) (m+1) cap) (m+1) ((slid M (⟨⟨⟨nt,nr⟩,ni⟩,⟨⟨pt,pr⟩,pi⟩,nm,dd⟩:Plc) m).flatMap plcL) by rw[hs9,aI];exact HO5.out);clear hs9 HO5;generalize w5=w6 at *;go_loopw [10] (λi wx=>∃(q:Nat),i= .int .i64 q∧q<=m∧Hid (dY (λy:Plc=>Gid.lt ⟨⟨nt,nr⟩,ni⟩ y.n) plc0 M q=dY (λy:Plc=>Gid.lt ⟨⟨nt,nr⟩,ni⟩ y.n) plc0 M M.length)∧Hid (wx.ownsRow w.heap.size 161 8 (.slice (some ⟨gq,0,none⟩) (m+1) cap) (m+1) ((slid M (⟨⟨⟨nt,nr⟩,ni⟩,⟨⟨pt,pr⟩,pi⟩,nm,dd⟩:Plc) q).flatMap plcL))∧Hid (Below w.heap.size w wx)) (λi _=>(RowKit.intOf i).toNat)
      case atStart=>exact⟨m,rfl,aa _,hid (by rw[HML.out]),HO6,HB5⟩
      case round=>
       obtain⟨q,rfl,hq,HIX,HOq,HBq⟩:=hrel;by_cases h0:0<q
       ·obtain⟨q,rfl⟩:∃p,q=p+1:=⟨q-1,by omega⟩;have hqm:q+1<=M.length:=by rw[<-HML.out];exact hq
        have hl1:m+1=(slid M (⟨⟨⟨nt,nr⟩,ni⟩,⟨⟨pt,pr⟩,pi⟩,nm,dd⟩:Plc) (q+1)).length:=by rw[eO,<-HML.out]
        obtain⟨g3,e3,-,hg3,hr3⟩:=cz (f:=plcL) (λ_=>rfl) hl1 HOq.out (k:=q) (by omega) plc0;cases e3;obtain⟨g4,e4,-,-,hr4⟩:=cz (f:=plcL) (λ_=>rfl) hl1 HOq.out (k:=q+1) (by omega) plc0;cases e4;rw[js hqm] at hr3;rw[ku hqm] at hr4;have hsw:=ip (L:=M) (x:=(⟨⟨⟨nt,nr⟩,ni⟩,⟨⟨pt,pr⟩,pi⟩,nm,dd⟩:Plc)) (z:=plc0) hqm;obtain⟨y,hy⟩:∃y,y=M.getD q plc0:=⟨_,rfl⟩;rw[<-hy] at hr3 hsw;obtain⟨b2,hb2⟩:∃b,b=(λy:Plc=>Gid.lt ⟨⟨nt,nr⟩,ni⟩ y.n) y:=⟨_,rfl⟩;have HPY:=hid (show(λy:Plc=>Gid.lt ⟨⟨nt,nr⟩,ni⟩ y.n) (M.getD q plc0)=b2 by rw[<-hy,hb2]);clear hy;obtain⟨⟨⟨t2,r2⟩,n2⟩,⟨⟨pt2,pr2⟩,pi2⟩,nm2,dd2⟩:=y;have HR3:=hid (show wr.rangeAt gq (q*8) [.int .i64 t2,.int .i64 r2,.int .i64 n2,.int .i64 pt2,.int .i64 pr2,.int .i64 pi2,.string nm2,.bool dd2] from hr3);have HR4:=hid (show wr.rangeAt gq ((q+1)*8) [.int .i64 nt,.int .i64 nr,.int .i64 ni,.int .i64 pt,.int .i64 pr,.int .i64 pi,.string nm,.bool dd] from hr4);have y0:=aj (w:=wr) (a:=⟨gq,q*8,none⟩) (v:= .int .i64 t2) (hr3 0 _ rfl);have y1:=aj (w:=wr) (a:=⟨gq,q*8+1,none⟩) (v:= .int .i64 r2) (hr3 1 _ rfl);have y2:=aj (w:=wr) (a:=⟨gq,q*8+2,none⟩) (v:= .int .i64 n2) (hr3 2 _ rfl);have x0:=aj (w:=wr) (a:=⟨gq,(q+1)*8,none⟩) (v:= .int .i64 nt) (hr4 0 _ rfl);have x1:=aj (w:=wr) (a:=⟨gq,(q+1)*8+1,none⟩) (v:= .int .i64 nr) (hr4 1 _ rfl);have x2:=aj (w:=wr) (a:=⟨gq,(q+1)*8+2,none⟩) (v:= .int .i64 ni) (hr4 2 _ rfl);have HSW:=hid hsw;have k1:(0:Int)<(q:Int)+1:=by omega
        have k2:(0:Int)<=(q:Int):=by omega
        have k3:(q:Int)<(m:Int)+1:=by omega
        have k4:(q:Int)+1<(m:Int)+1:=by omega
        have k5:(0:Int)<=(q:Int)+1:=by omega
        have k6:IntKind.i64.wrap (q:Int)=(q:Int):=by rw[bz];omega
        have HL1:=hid hl1;have HBF:=λW=>gx nt nr ni t2 r2 n2 W;obtain⟨zc,hzc⟩:∃z,z=rcmpD ⟨⟨nt,nr⟩,ni⟩ ⟨⟨t2,r2⟩,n2⟩:=⟨_,rfl⟩;rw[<-hzc] at HBF;have hz2:decide (0<=zc)= !b2:=by rw[hzc,jW,hb2]
        have hz3:decide (zc<0)=b2:=by cases b2<;>simp at hz2 ⊢ <;>omega
        clear hzc hz2;have cA:=λd os=>ay (HBF (grow (redrawn wr d) os));clear hr3 hr4 hb2 hsw hl1;cases b2 with
        |false=>
         go_upto_region 14 with fail;refine rqb ?_
         repeat(any_goals(first|go_big_quiet_step (with_reducible exact cA _ _)|quiet_step (with_reducible exact cA _ _)))
         refine qz λwq hBq=> ?_;have HS8:=hid (show((N.take (k+1)).foldl g8 [])=slid M (⟨⟨⟨nt,nr⟩,ni⟩,⟨⟨pt,pr⟩,pi⟩,nm,dd⟩:Plc) (q+1) by rw[HS9.out];unfold insB;rw[<-HIX.out,ge (.inr ⟨q,rfl,HPY.out⟩)]);have HOx:=kO HOq hBq;have HBx:=bT HBq hBq;go_wp2;go_roundw
         case rel=>exact⟨k+1,some ⟨gq,0,none⟩,cap,m+1,_,by omega,by go_num,rfl,by omega,HL1,hid HS8.out.symm,HOx,HBx⟩
         case measure=>(simp[RowKit.intOf];omega)
        | true=>
         go_upto_region 14 with fail;refine rqb ?_
         repeat(any_goals(first|go_big_quiet_step (with_reducible exact cA _ _)|quiet_step (with_reducible exact cA _ _)))
         refine qz λwq hBq=> ?_;have HIX2:=hid (show dY (λy:Plc=>Gid.lt ⟨⟨nt,nr⟩,ni⟩ y.n) plc0 M q=dY (λy:Plc=>Gid.lt ⟨⟨nt,nr⟩,ni⟩ y.n) plc0 M M.length by rw[<-HIX.out,iF HPY.out]);have HR3q:=hid (cd HR3.out hg3 hBq);have HR4q:=hid (cd HR4.out hg3 hBq);have HOq2:=kO HOq hBq;have HBq2:=bT HBq hBq;clear y0 y1 y2 x0 x1 x2 cA HOq hBq;go_upto_region 16 with fail;obtain⟨V1,hV1⟩:∃V,V=wq.drew.setCells gq ((q+1)*8) (#[.int .i64 t2,.int .i64 r2,.int .i64 n2,.int .i64 pt2,.int .i64 pr2,.int .i64 pi2,.string nm2,.bool dd2]:Array Value).toList:=⟨_,rfl⟩;have hP1:V1.ownsRow w.heap.size 161 8 (.slice (some ⟨gq,0,none⟩) (m+1) cap) (m+1) (((slid M (⟨⟨⟨nt,nr⟩,ni⟩,⟨⟨pt,pr⟩,pi⟩,nm,dd⟩:Plc) (q+1)).set (q+1) (⟨⟨⟨t2,r2⟩,n2⟩,⟨⟨pt2,pr2⟩,pi2⟩,nm2,dd2⟩:Plc)).flatMap plcL)∧wq.drew.grownBy V1 (some gq):=by rw[hV1];exact eP (f:=plcL) (λ_=>rfl) (by decide) HL1.out (show wq.drew.ownsRow _ _ _ _ _ _ from HOq2.out) (by omega) (⟨⟨⟨t2,r2⟩,n2⟩,⟨⟨pt2,pr2⟩,pi2⟩,nm2,dd2⟩:Plc)
         obtain⟨V2,hV2⟩:∃V,V=V1.setCells gq (q*8) (#[.int .i64 nt,.int .i64 nr,.int .i64 ni,.int .i64 pt,.int .i64 pr,.int .i64 pi,.string nm,.bool dd]:Array Value).toList:=⟨_,rfl⟩;have hP2:V2.ownsRow w.heap.size 161 8 (.slice (some ⟨gq,0,none⟩) (m+1) cap) (m+1) ((((slid M (⟨⟨⟨nt,nr⟩,ni⟩,⟨⟨pt,pr⟩,pi⟩,nm,dd⟩:Plc) (q+1)).set (q+1) (⟨⟨⟨t2,r2⟩,n2⟩,⟨⟨pt2,pr2⟩,pi2⟩,nm2,dd2⟩:Plc)).set q (⟨⟨⟨nt,nr⟩,ni⟩,⟨⟨pt,pr⟩,pi⟩,nm,dd⟩:Plc)).flatMap plcL)∧V1.grownBy V2 (some gq):=by rw[hV2];exact eP (f:=plcL) (λ_=>rfl) (by decide) (by rw[cM];exact HL1.out) hP1.1 (by omega) (⟨⟨⟨nt,nr⟩,ni⟩,⟨⟨pt,pr⟩,pi⟩,nm,dd⟩:Plc)
         obtain⟨g5,e5,ht5⟩:=ey (show wq.drew.ownsRow _ _ _ _ _ _ from HOq2.out) (k:=q+1) (by omega);cases e5;obtain⟨g6,e6,ht6⟩:=ey hP1.1 (k:=q) (by omega);cases e6;have HP2:=hid hP2.1;have HG2:=hid (show wq.heap.size<=V2.heap.size∧(Below w.heap.size w wq->w.heap.size<=gq->Below w.heap.size w V2) from⟨aL (show wq.drew.heap.size<=V1.heap.size from hP1.2.size) hP2.2.size,λhb hl=>(hb.drew.grown hP1.2 (by exact hb.size) (λb e=>by cases e;exact hl)).grown hP2.2 (aL hb.size (show wq.drew.heap.size<=V1.heap.size from hP1.2.size)) (λb e=>by cases e;exact hl)⟩);have HV1:=hid hV1;have HV2:=hid hV2;have HT5:=hid ht5;have HT6:=hid ht6;have HAY:=hid (show(#[.int .i64 t2,.int .i64 r2,.int .i64 n2,.int .i64 pt2,.int .i64 pr2,.int .i64 pi2,.string nm2,.bool dd2]:Array Value).all (·.oneCell')=true by rw[<-cg];rfl);have HAX:=hid (show(#[.int .i64 nt,.int .i64 nr,.int .i64 ni,.int .i64 pt,.int .i64 pr,.int .i64 pi,.string nm,.bool dd]:Array Value).all (·.oneCell')=true by rw[<-cg];rfl);clear hP1 hP2 hV1 hV2 ht5 ht6;refine aR (S:=λ_=>True) (by kernel_rfl) ?_
         try(change wpAnyH _ _ _ _ _ _ _ _ (World.drew _))
         refine tk 0 (.slice (some ⟨gq,0,none⟩) (m+1) cap) (trivial) ?_;go_simp;refine tk 1 (.int .i64 ((q:Int)+1)) (trivial) ?_;go_simp;refine tk 2 (.slice (some ⟨gq,0,none⟩) (m+1) cap) (trivial) ?_;go_simp;refine tk 3 (.int .i64 ((q:Int)+1)) (trivial) ?_;go_simp;refine tk 4 (.int .i64 (q:Int)) (trivial) ?_;go_simp;refine tk 5 (.slice (some ⟨gq,0,none⟩) (m+1) cap) (trivial) ?_;go_simp;refine tk 6 (.int .i64 ((q:Int)+1)) (trivial) ?_;go_simp;refine tk 7 (.int .i64 (q:Int)) (trivial) ?_;go_simp;refine tk 8 (.pointer (some ⟨gq,q*8,none⟩)) (trivial) ?_;go_simp;refine tk 10 (.slice (some ⟨gq,0,none⟩) (m+1) cap) (trivial) ?_;go_simp;refine tk 11 (.int .i64 ((q:Int)+1)) (trivial) ?_;go_simp;refine tk 12 (.pointer (some ⟨gq,(q+1)*8,none⟩)) (trivial) ?_;go_simp;refine dp (rs:=[9,13]) (by kernel_rfl) (by simp) ?_;refine aX rfl (λK hK=> ?_) (aX rfl (λK hK=> ?_) cX)
         focus
          refine bA rfl _ _ rfl gq (q*8) rfl [.int .i64 t2,.int .i64 r2,.int .i64 n2,.int .i64 pt2,.int .i64 pr2,.int .i64 pi2,.string nm2,.bool dd2] _ (show wq.drew.rangeAt _ _ _ from HR3q.out) ca rfl (by kernel_rfl) ?_;refine hK.out _ _ (trivial) (λ_=> ?_);clear hK K;refine rd1 13 λK hK=> ?_;refine bA rfl _ _ rfl gq ((q+1)*8) rfl [.int .i64 nt,.int .i64 nr,.int .i64 ni,.int .i64 pt,.int .i64 pr,.int .i64 pi,.string nm,.bool dd] _ (show wq.drew.rangeAt _ _ _ from HR4q.out) ca rfl (by kernel_rfl) ?_;refine hK.out _ _ (trivial) (λ_=> ?_);clear hK K
         rotate_left
         focus
          refine bA rfl _ _ rfl gq ((q+1)*8) rfl [.int .i64 nt,.int .i64 nr,.int .i64 ni,.int .i64 pt,.int .i64 pr,.int .i64 pi,.string nm,.bool dd] _ (show wq.drew.rangeAt _ _ _ from HR4q.out) ca rfl (by kernel_rfl) ?_;refine hK.out _ _ (trivial) (λ_=> ?_);clear hK K;refine rd1 9 λK hK=> ?_;refine bA rfl _ _ rfl gq (q*8) rfl [.int .i64 t2,.int .i64 r2,.int .i64 n2,.int .i64 pt2,.int .i64 pr2,.int .i64 pi2,.string nm2,.bool dd2] _ (show wq.drew.rangeAt _ _ _ from HR3q.out) ca rfl (by kernel_rfl) ?_;refine hK.out _ _ (trivial) (λ_=> ?_);clear hK K
         all_goals
          refine tk 14 (.pointer (some ⟨gq,(q+1)*8,none⟩)) (trivial) ?_;go_simp;refine rd1 15 λK hK=> ?_;refine cy rfl _ _ _ rfl gq ((q+1)*8) #[.int .i64 t2,.int .i64 r2,.int .i64 n2,.int .i64 pt2,.int .i64 pr2,.int .i64 pi2,.string nm2,.bool dd2] (by rfl) (by rfl) HT5.out (by kernel_rfl) HAY.out ?_;rw[<-HV1.out];refine hK.out _ _ (trivial) (λ_=> ?_);clear hK K;refine tk 16 (.pointer (some ⟨gq,q*8,none⟩)) (trivial) ?_;go_simp;refine rd1 17 λK hK=> ?_;refine cy rfl _ _ _ rfl gq (q*8) #[.int .i64 nt,.int .i64 nr,.int .i64 ni,.int .i64 pt,.int .i64 pr,.int .i64 pi,.string nm,.bool dd] (by rfl) (by rfl) HT6.out (by kernel_rfl) HAX.out ?_;rw[<-HV2.out];refine hK.out _ _ (trivial) (λ_=> ?_);clear hK K;refine be (by kernel_rfl) ?_ _;go_simp;go_wp2;go_roundw
          case rel=>exact⟨q,by go_num,by omega,HIX2,hid (by rw[<-HSW.out];exact HP2.out),hid (HG2.out.2 HBq2.out (HOq2.out.lt gq rfl).1)⟩
          case measure=>(simp[RowKit.intOf];try omega)
       ·obtain rfl:q=0:=by omega
        go_upto_region 14 with fail;refine rqb ?_
        repeat(any_goals(first|go_big_quiet_step (fail)|quiet_step (fail)))
        refine qz λwq hBq=> ?_;have HS8:=hid (show((N.take (k+1)).foldl g8 [])=slid M (⟨⟨⟨nt,nr⟩,ni⟩,⟨⟨pt,pr⟩,pi⟩,nm,dd⟩:Plc) 0 by rw[HS9.out];unfold insB;rw[<-HIX.out];rfl);have HL1:=hid (show m+1=(slid M (⟨⟨⟨nt,nr⟩,ni⟩,⟨⟨pt,pr⟩,pi⟩,nm,dd⟩:Plc) 0).length by rw[eO,<-HML.out]);have HOx:=kO HOq hBq;have HBx:=bT HBq hBq;go_wp2;go_roundw
        case rel=>exact⟨k+1,some ⟨gq,0,none⟩,cap,m+1,_,by omega,by go_num,rfl,by omega,HL1,hid HS8.out.symm,HOx,HBx⟩
        case measure=>(simp[RowKit.intOf];omega)
     | some kf=>
      obtain⟨hkf,-⟩:=fL hfd;have hkm:kf<m:=by rw[HML.out];exact hkf
      have HS9:=hid (show((N.take (k+1)).foldl g8 [])=M.set kf ⟨⟨⟨nt,nr⟩,ni⟩,⟨⟨pt,pr⟩,pi⟩,nm,(M.getD kf plc0).dir⟩ by rw[HST.out,aC (by decide),hfd]);rw[hfd] at HFD;have k1:(0:Int)<=(kf:Int):=by omega
      have k2:(kf:Int)<(m:Int):=by omega
      clear hfd HST
      go_upto_region 10 with(first
       |(go_at_call 168;refine(HWI.out W HBX.out).mono ?_;rintro e w2 ⟨rfl,hB2⟩;have HC2:=bK hB2 HCX;have HBY:=bT HBX hB2;have HB2:=bT HBW hB2;clear hB2;have v0:w2.cell? ⟨wr.heap.size,0,none⟩=some (.int .i64 nt):=aD _ _ _ _ _ _ HC2.out;have v1:w2.cell? ⟨wr.heap.size,1,none⟩=some (.int .i64 nr):=aD _ _ _ _ _ _ HC2.out;have v2:w2.cell? ⟨wr.heap.size,2,none⟩=some (.int .i64 ni):=aD _ _ _ _ _ _ HC2.out;have v3:w2.cell? ⟨wr.heap.size,3,none⟩=some (.int .i64 pt):=aD _ _ _ _ _ _ HC2.out;have v4:w2.cell? ⟨wr.heap.size,4,none⟩=some (.int .i64 pr):=aD _ _ _ _ _ _ HC2.out;have v5:w2.cell? ⟨wr.heap.size,5,none⟩=some (.int .i64 pi):=aD _ _ _ _ _ _ HC2.out;have v6:w2.cell? ⟨wr.heap.size,6,none⟩=some (.string nm):=aD _ _ _ _ _ _ HC2.out;have v7:w2.cell? ⟨wr.heap.size,7,none⟩=some (.bool dd):=aD _ _ _ _ _ _ HC2.out)
       |(go_at_call 169;refine(HFD.out w2 HBY.out).mono ?_;rintro e w3 ⟨rfl,hB3⟩;have HC3:=bK hB3 HC2;have HBZ:=bT HBY hB3;have HB3:=bT HB2 hB3;have HO3:=kO HO HBZ.out;clear hB3;dsimp only[ixI]))
      obtain⟨g3,rfl,-,hg3,hr3⟩:=cz (f:=plcL) (λ_=>rfl) HML.out HO3.out hkm plc0;obtain⟨d2,hd2⟩:∃d,d=(M.getD kf plc0).dir:=⟨_,rfl⟩;have hc7:w3.cell? ⟨g3,kf*8+7,none⟩=some (.bool d2):=by rw[hd2];exact hr3 7 _ rfl
      rw[<-hd2] at HS9;have hgn:(Value.slice (some ⟨g3,0,none⟩) m c').ownBlock≠some wr.heap.size:=λe=>by
       have e:some g3=some wr.heap.size:=e;injection e with e;have:=(HO.out.lt g3 rfl).2;omega
      have c7:=cw7 HC3.out;have f7:w3.frozen? ⟨wr.heap.size,7,none⟩=false:=aW _ _ _ _ _ HC3.out;have HGN:=hid hgn;clear hr3 hd2 hgn;go_upto_region 11 with fail;obtain⟨V1,hV1⟩:∃V,V=w3.setCell ⟨wr.heap.size,7,none⟩ (.bool d2):=⟨_,rfl⟩;have HC4:=hid (show V1.heap[wr.heap.size]? =some (.cells #[nt,nr,ni,pt,pr,pi,nm,d2] 161 (0,0)) by rw[hV1];exact gI (c:=#[.int .i64 nt,.int .i64 nr,.int .i64 ni,.int .i64 pt,.int .i64 pr,.int .i64 pi,.string nm,.bool dd]) HC3.out 7 (.bool d2) rfl);have HO4:=hid (show V1.ownsRow w.heap.size 161 8 (.slice (some ⟨g3,0,none⟩) m c') m (M.flatMap plcL) by rw[hV1];exact gJ HO3.out HGN.out 7 (.bool d2));have HB4:=hid (show Below w.heap.size w V1 by rw[hV1];exact HB3.out.grown (eF wr.heap.size 7 (.bool d2)) HB3.out.size (λb e=>by cases e;exact hsz));have hput:=eP (f:=plcL) (λ_=>rfl) (by decide) HML.out HO4.out hkm (⟨⟨⟨nt,nr⟩,ni⟩,⟨⟨pt,pr⟩,pi⟩,nm,d2⟩:Plc);obtain⟨V2,hV2⟩:∃V,V=V1.setCells g3 (kf*8) (#[.int .i64 nt,.int .i64 nr,.int .i64 ni,.int .i64 pt,.int .i64 pr,.int .i64 pi,.string nm,.bool d2]:Array Value).toList:=⟨_,rfl⟩;have HO5:=hid (show V2.ownsRow w.heap.size 161 8 (.slice (some ⟨g3,0,none⟩) m c') m ((M.set kf (⟨⟨⟨nt,nr⟩,ni⟩,⟨⟨pt,pr⟩,pi⟩,nm,d2⟩:Plc)).flatMap plcL) by rw[hV2];exact hput.1);have HB5:=hid (show Below w.heap.size w V2 by rw[hV2];exact HB4.out.grown hput.2 HB4.out.size (λb e=>by cases e;exact(HO4.out.lt g3 rfl).1));obtain⟨g6,e6,ht6⟩:=ey HO4.out hkm;cases e6;have HT6:=hid ht6;have HV2:=hid hV2
      have HAL:=hid (show(#[.int .i64 nt,.int .i64 nr,.int .i64 ni,.int .i64 pt,.int .i64 pr,.int .i64 pi,.string nm,.bool d2]:Array Value).all (·.oneCell')=true by rw[<-cg];rfl);have HML2:=hid (show m=(M.set kf (⟨⟨⟨nt,nr⟩,ni⟩,⟨⟨pt,pr⟩,pi⟩,nm,d2⟩:Plc)).length by rw[cM];exact HML.out);rw[<-hV1];clear hput ht6 hV2 hV1 c7 f7 hc7 v0 v1 v2 v3 v4 v5 v6 v7 z0 z1 z2 z3 z4 z5 z6 z7
      go_wp2_with (first
       |(refine lA HC4 ca ?_)
       |(refine wpList_store_mid rfl _ _ _ rfl g3 (kf*8) #[.int .i64 nt,.int .i64 nr,.int .i64 ni,.int .i64 pt,.int .i64 pr,.int .i64 pi,.string nm,.bool d2] rfl rfl HT6.out (by kernel_rfl) HAL.out ?_;rw[<-HV2.out]))
      go_roundw
      case rel=>exact⟨k+1,some ⟨g3,0,none⟩,c',m,_,by omega,by go_num,rfl,by omega,HML2,hid HS9.out.symm,HO5,HB5⟩
      case measure=>(simp[RowKit.intOf];omega)
  ·obtain rfl:k=N.length:=by omega
   have i2:¬(N.length:Int)<(N.length:Int):=by omega
   have HM9:=hid (show M=R by rw[HRR.out];have h9:=HM.out;rw[aK] at h9;exact h9);go_wp2;go_ret;refine⟨A',c',by rw[<-HM9.out,<-HML.out];rfl,?_,HB1.out.trans (HBr.out.mono HB1.out.size)⟩;rw[<-HM9.out,<-HML.out];exact iC HO.out HB1.out.size
end
end Go.Proofs.YtkhmicndehlneaaGreatDoor
