/- Part 18 of the walks and plain laws that this claim uses, joined. Conditions: as each theorem states. -/
import Derived.Test.YtkhmicndehlneaaGreatDoorYhq
namespace Go.Proofs.YtkhmicndehlneaaGreatDoor
set_option maxRecDepth 100000
set_option maxHeartbeats 16000000
set_option linter.unusedVariables false
section
open Go.RowKit Go.Lib Go.Sort
attribute [local go_sem ↓] Go.wp_at_zero Go.wp_at_succ
def dG (v:List Int) (L:List (Grp×GrX)):List (Grp×GrX):=L.filter (λp=>oldB v p.1)
theorem knownL_len (v:List Int) (L:List (Grp×GrX)):(dG v L).length<=L.length:=ig _ _
theorem kE {v:List Int} {L:List (Grp×GrX)} {p:Grp×GrX} (h:p∈dG v L):p∈L:=(g7.1 h).1
theorem knownL_succ {v:List Int} {L:List (Grp×GrX)} {k:Nat} (h:k<L.length):dG v (L.take (k+1))=dG v (L.take k)++(if oldB v (L.getD k gp0).1=true then [L.getD k gp0] else []):=by
 unfold dG;rw[List.take_add_one,jD,an h,ae,an h];congr 1;cases e:oldB v L[k].1<;>simp[e]
theorem known_any (L:List (Grp×GrX)) (A:Option Addr) (c:Nat) (vA:Option Addr) (vc:Nat) (v:List Int) (w:World) (hl:L.length<=100000) (hv:v.length<=1000) (hR:RowGr w A L) (hV:VecR w vA v):
  Calls Tryz.prog 88 #[.slice A L.length c,.slice vA v.length vc] w λe w'=>∃A' c',e= .returned (.slice A' (dG v L).length c')∧w'.ownsRow w.heap.size 45 7 (.slice A' (dG v L).length c') (dG v L).length ((dG v L).flatMap grC_)∧Below w.heap.size w w':=by
 obtain⟨i0,hi,hz0,hz1,hz2⟩:=bD ia;have HR:=hid hR;have HV:=hid hV;clear hR hV;go_enter Tryz.func88,Tryz.ntmps88;go_upto_region 3 with fail;go_loopw [5,6] (λo i wr=>∃(k:Nat) (A':Option Addr) (c' m:Nat),k<=L.length∧i= .int .i64 k∧o= .slice A' m c'∧m<=k∧Hid (m=(dG v (L.take k)).length)∧Hid (wr.ownsRow w.heap.size 45 7 (.slice A' m c') m ((dG v (L.take k)).flatMap grC_))∧Hid (Below w.heap.size w wr)) (λo i _=>L.length-(RowKit.intOf i).toNat)
 case atStart=>exact⟨0,none,0,0,aq _,rfl,rfl,aa _,hid rfl,hid (aF _ _ _ _),hid (ag _ _)⟩
 case round=>
  obtain⟨k,A',c',m,hk,rfl,rfl,hmk,HML,HO,HBr⟩:=hrel;by_cases hlt:k<L.length
  ·have i1:(0:Int)<=(k:Int):=by omega
   have i2:(k:Int)<(L.length:Int):=by omega
   obtain⟨rb,ro,rfl,hrb,hrange⟩:=HR.out.range hlt;have hst:=knownL_succ (v:=v) hlt;have hsz:=HBr.out.size;generalize L.getD k gp0=p at *;obtain⟨⟨⟨t,r⟩,n,dv,⟨ut,ur⟩,ops⟩,⟨dA,dc,oA,oc⟩⟩:=p;obtain⟨z,hz⟩:∃z,z=atV v r:=⟨_,rfl⟩;obtain⟨od,hod⟩:∃b,b=decide (n<=z):=⟨_,rfl⟩;have hzo:decide (n<=z)=od:=hod.symm;have HST:=hid (show dG v (L.take (k+1))=dG v (L.take k)++(if od=true then [(⟨⟨⟨t,r⟩,n,dv,⟨ut,ur⟩,ops⟩,⟨dA,dc,oA,oc⟩⟩:Grp×GrX)] else []) by rw[hst];congr 1;rw[hod,hz];rfl);have HRW:=hid (λW (hB:Below w.heap.size w W)=>show W.rangeAt rb (ro+k*7) [t,r,n,.slice dA dv.length dc,ut,ur,.slice oA ops.length oc] from cd hrange hrb hB);have HRG:=hid (HRW.out wr HBr.out)
   have HAT:=hid (λW (hB:Below w.heap.size w W)=>show Calls Tryz.prog 55 #[.slice vA v.length vc,r] W λe w'=>e= .returned (.int .i64 z)∧Below W.heap.size W w' from by
    rw[hz]
    exact(fh vA vc v r W (by omega) (HV.out.below hB)).mono (by rintro e w' ⟨rfl,rfl⟩;exact⟨rfl,ag _ _⟩))
   have y1:=aj (HRG.out 1 _ rfl);have y2:=aj (HRG.out 2 _ rfl);have cA:=λd os=>ay (HAT.out (grow (redrawn wr d) os) (HBr.out.trans ((bE wr d os).mono hsz)));clear hst hz hod hrange hrb;cases od with
   |false=>
    have hzh:¬n<=z:=by simpa using hzo
    go_upto_region 5 with fail;refine rqb ?_
    repeat(any_goals(first|go_big_quiet_step (with_reducible exact cA _ _)|quiet_step (with_reducible exact cA _ _)))
    refine qz λwq hBq=> ?_;have HO3:=kO HO hBq;have HB3:=hid (HBr.out.trans (hBq.mono hsz));go_wp2;go_roundw
    case rel=>exact⟨k+1,A',c',m,by omega,by go_num,rfl,by omega,hid (by rw[HST.out];simpa using HML.out),hid (by rw[HST.out];simpa using HO3.out),HB3⟩
    case measure=>(simp[RowKit.intOf];omega)
   | true=>
    have hzh:n<=z:=by simpa using hzo
    go_upto_region 5 with fail;refine rqb ?_
    repeat(any_goals(first|go_big_quiet_step (with_reducible exact cA _ _)|quiet_step (with_reducible exact cA _ _)))
    refine qz λwq hBq=> ?_;have HO3:=kO HO hBq;have HB3:=hid (HBr.out.trans (hBq.mono hsz));have hsz3:=HB3.out.size;have HRq:=hid (HRW.out wq HB3.out);clear y1 y2 cA hBq
    go_wp2_with (first
     |(refine lM HRq aH ?_)
     |(at_builtin;refine bX _ rfl _ _ 25 rfl w.heap.size 45 i0 (.agg #[(0:Int),(0:Int),(0:Int),.slice none 0 0,(0:Int),(0:Int),.slice none 0 0]) 7 88 bV hi hz0 hz1 hz2 rfl (by decide) (.slice A' m c') m _ rfl (by exact HO3.out.alloc _) ⟨wq.heap.size,0,none⟩ 1 1 [t,r,n,.slice dA dv.length dc,ut,ur,.slice oA ops.length oc] rfl rfl (λj y h=>dH wq [t,r,n,.slice dA dv.length dc,ut,ur,.slice oA ops.length oc] 45 j y h) (fw (c:=#[t,r,n,.slice dA dv.length dc,ut,ur,.slice oA ops.length oc]) rfl) (by decide) (by unfold maxLen;omega) (by omega) (by simp;omega) (wq.heap.size+1) (by simp) ?_;intro gq cap w5 hown hgrow ha hlt5;have HO5:=hid hown;have HB5:=hid ((HB3.out.alloc hsz3 _).grown hgrow (by simp;omega) (λb hb=>(HO3.out.lt b hb).1));clear hown hgrow ha hlt5))
    go_roundw
    case rel=>exact⟨k+1,some ⟨gq,0,none⟩,cap,m+1,by omega,by go_num,rfl,by omega,hid (by rw[HST.out,aJ rfl,al,<-HML.out];rfl),hid (by rw[HST.out,aJ rfl,aI];exact HO5.out),HB5⟩
    case measure=>(simp[RowKit.intOf];omega)
  ·obtain rfl:k=L.length:=by omega
   have i2:¬(L.length:Int)<(L.length:Int):=by omega
   have HM9:=hid (show m=(dG v L).length by have h9:=HML.out;rw[aK] at h9;exact h9);have HO9:=hid (show wr.ownsRow w.heap.size 45 7 (.slice A' m c') m ((dG v L).flatMap grC_) by have h9:=HO.out;rw[aK] at h9;exact h9);go_wp2;go_ret;refine⟨A',c',by rw[<-HM9.out];rfl,?_,HBr.out⟩;rw[<-HM9.out];exact HO9.out
def latT (L:List (Grp×GrX)):Int:=L.foldl (λt p=>max t p.1.s.t) 0
theorem latest_any (L:List (Grp×GrX)) (A:Option Addr) (c:Nat) (w:World) (hl:L.length<=100000) (hR:RowGr w A L):
  Calls Tryz.prog 89 #[.slice A L.length c] w λe w'=>e= .returned (.int .i64 (latT L))∧Below w.heap.size w w':=by
 have HR:=hid hR;clear hR;go_enter Tryz.func89,Tryz.ntmps89;go_upto_region 3 with fail;go_loopw [3,4] (λo i wr=>∃(k:Nat) (T:Int),k<=L.length∧i= .int .i64 k∧o= .int .i64 T∧Hid (T=latT (L.take k))∧Hid (Below w.heap.size w wr)) (λo i _=>L.length-(RowKit.intOf i).toNat)
 case atStart=>exact⟨0,0,aq _,rfl,rfl,hid rfl,hid (ag _ _)⟩
 case round=>
  obtain⟨k,T,hk,rfl,rfl,HT,HBr⟩:=hrel;by_cases hlt:k<L.length
  ·have i1:(0:Int)<=(k:Int):=by omega
   have i2:(k:Int)<(L.length:Int):=by omega
   obtain⟨rb,ro,rfl,hrb,hrange⟩:=HR.out.range hlt;have hst:latT (L.take (k+1))=max T (L.getD k gp0).1.s.t:=by rw[HT.out];exact eL _ _ hlt gp0
   generalize L.getD k gp0=p at *;obtain⟨⟨⟨t,r⟩,n,dv,⟨ut,ur⟩,ops⟩,⟨dA,dc,oA,oc⟩⟩:=p;obtain⟨T2,hT2⟩:∃q,q=max T t:=⟨_,rfl⟩;have e1:max T t=T2:=hT2.symm;have HST:=hid (show latT (L.take (k+1))=T2 by rw[hst,hT2]);have y0:wr.cell? ⟨rb,ro+k*7,none⟩=some (.int .i64 t):=(cd hrange hrb HBr.out) 0 _ rfl;clear hst hT2 hrange hrb;go_wp2;go_roundw
   case rel=>exact⟨k+1,T2,by omega,by go_num,rfl,hid HST.out.symm,HBr⟩
   case measure=>(simp[RowKit.intOf];omega)
  ·obtain rfl:k=L.length:=by omega
   have i2:¬(L.length:Int)<(L.length:Int):=by omega
   have HM9:=hid (show T=latT L by have h9:=HT.out;rw[aK] at h9;exact h9);go_wp2;go_ret;exact⟨by rw[<-HM9.out];rfl,HBr.out⟩
def mixL (L:List (Grp×GrX)) (P:List Int):List (Grp×GrX):=P.map λq=>L.getD (q.toNat % L.length) gp0
def mixN (L:List (Grp×GrX)) (P:List Int):Nat:=if L.length=0 then 0 else min P.length 30
def mixed (L:List (Grp×GrX)) (P:List Int):List (Grp×GrX):=mixL L (P.take (mixN L P))
theorem mixed_mem {L:List (Grp×GrX)} {P:List Int} {p:Grp×GrX} (h:p∈mixed L P):p∈L:=by
 unfold mixed mixL at h;obtain⟨q,hq,rfl⟩:=bj.1 h;by_cases h0:L.length=0
 ·unfold mixN at hq;rw[aJ h0,iu] at hq;cases hq
 ·exact bL (fv _ (by omega)) gp0
theorem mixed_len (L:List (Grp×GrX)) (P:List Int):(mixed L P).length<=30:=by
 unfold mixed mixL mixN;rw[aQ,aP];split<;>omega
def u8L (q:Int):List Value:=[.int .u8 q]
theorem mixed_any (L:List (Grp×GrX)) (A:Option Addr) (c:Nat) (P:List Int) (pA:Option Addr) (pc:Nat) (S:Nat->Prop) (w:World) (hl:L.length<=100000) (hp:P.length<=9223372036854775807) (hR:RowGr w A L) (hP:RowF w S pA 1 u8L 0 P) (hb:∀q∈P,0<=q∧q<=255):
  Calls Tryz.prog 19 #[.slice A L.length c,.slice pA P.length pc] w λe w'=>∃A' c',e= .returned (.slice A' (mixed L P).length c')∧w'.ownsRow w.heap.size 45 7 (.slice A' (mixed L P).length c') (mixed L P).length ((mixed L P).flatMap grC_)∧Below w.heap.size w w':=by
 obtain⟨i0,hi,hz0,hz1,hz2⟩:=bD ia;have HR:=hid hR;have HP:=hid hP;have HBD:=hid hb;obtain⟨N,hN⟩:∃N,N=mixN L P:=⟨_,rfl⟩;have hN30:N<=30∧N<=P.length:=by rw[hN];unfold mixN;split<;>omega
 have HMX:=hid (show mixed L P=mixL L (P.take N) by rw[hN];rfl);have HLN:=hid (show(mixL L (P.take N)).length=N by unfold mixL;rw[aQ,aP];omega);have HN:=hid hN;rw[HMX.out,HLN.out];clear hR hP hb hN;go_enter Tryz.func19,Tryz.ntmps19;go_upto_region 3 with fail;go_loopw [5,6] (λo i wr=>∃(k:Nat) (A':Option Addr) (c':Nat),k<=N∧i= .int .i64 k∧o= .slice A' k c'∧Hid (wr.ownsRow w.heap.size 45 7 (.slice A' k c') k ((mixL L (P.take k)).flatMap grC_))∧Hid (Below w.heap.size w wr)) (λo i _=>30-(RowKit.intOf i).toNat)
 case atStart=>exact⟨0,none,0,aq _,rfl,rfl,hid (aF _ _ _ _),hid (ag _ _)⟩
 case round=>
  obtain⟨k,A',c',hk,rfl,rfl,HO,HBr⟩:=hrel;have hsz:=HBr.out.size;by_cases hlt:k<N
  ·have hL0:0<L.length:=by
    rcases Nat.eq_zero_or_pos L.length with h0|h0
    ·have:=HN.out;unfold mixN at this;rw[aJ h0] at this;omega
    ·exact h0
   have i1:(k:Int)<(P.length:Int):=by omega
   have i2:(k:Int)<30:=by omega
   have i3:(0:Int)<(L.length:Int):=by omega
   have i4:(0:Int)<=(k:Int):=by omega
   obtain⟨pb,po,rfl,-,hpb,hprange⟩:=HP.out.range (λ_=>rfl) (k:=k) (by omega);have hst:P.take (k+1)=P.take k++[P.getD k 0]:=dF (by omega) 0;have hbd:=HBD.out _ (bL (L:=P) (k:=k) (by omega) 0);generalize P.getD k 0=q at *;obtain⟨q,rfl⟩:∃x:Nat,q=(x:Int):=⟨q.toNat,by omega⟩;obtain⟨u,hu⟩:∃u,u=q % L.length:=⟨_,rfl⟩;have hul:u<L.length:=by rw[hu];exact fv _ hL0
   have j1:IntKind.i64.wrap (q:Int)=(q:Int):=by rw[bz];omega
   have j2:((q:Int)).tmod (L.length:Int)=(u:Int):=by rw[ee (by omega),hu];rfl
   have j3:IntKind.i64.wrap (u:Int)=(u:Int):=by rw[bz];omega
   have j4:(0:Int)<=(u:Int):=by omega
   have j5:(u:Int)<(L.length:Int):=by omega
   have j6:¬(L.length:Int)=0:=by omega
   have j7:((L.length:Int) == 0)=false:=by rw[aV];omega
   obtain⟨rb,ro,rfl,hrb,hrange⟩:=HR.out.range hul;have HST:=hid (show mixL L (P.take (k+1))=mixL L (P.take k)++[L.getD u gp0] by unfold mixL;rw[hst,bq,List.map_cons,List.map_nil,dL,<-hu]);have y0:wr.cell? ⟨pb,po+k,none⟩=some (.int .u8 (q:Int)):=by
    have h9:=(cd hprange hpb HBr.out) 0 _ rfl;rwa[jE] at h9
   generalize L.getD u gp0=p at *;obtain⟨⟨⟨t,r⟩,n,dv,⟨ut,ur⟩,ops⟩,⟨dA,dc,oA,oc⟩⟩:=p;have HRq:=hid (show wr.rangeAt rb (ro+u*7) [t,r,n,.slice dA dv.length dc,ut,ur,.slice oA ops.length oc] from cd hrange hrb HBr.out);clear hst hu hprange hrange
   go_wp2_with (first
    |(refine lM HRq aH ?_)
    |(at_builtin;refine bX _ rfl _ _ 25 rfl w.heap.size 45 i0 (.agg #[(0:Int),(0:Int),(0:Int),.slice none 0 0,(0:Int),(0:Int),.slice none 0 0]) 7 88 bV hi hz0 hz1 hz2 rfl (by decide) (.slice A' k c') k _ rfl (by exact HO.out.alloc _) ⟨wr.heap.size,0,none⟩ 1 1 [t,r,n,.slice dA dv.length dc,ut,ur,.slice oA ops.length oc] rfl rfl (λj y h=>dH wr [t,r,n,.slice dA dv.length dc,ut,ur,.slice oA ops.length oc] 45 j y h) (fw (c:=#[t,r,n,.slice dA dv.length dc,ut,ur,.slice oA ops.length oc]) rfl) (by decide) (by unfold maxLen;omega) (by omega) (by simp;omega) (wr.heap.size+1) (by simp) ?_;intro gq cap w5 hown hgrow ha hlt5;have HO5:=hid hown;have HB5:=hid ((HBr.out.alloc hsz _).grown hgrow (by simp;omega) (λb hb=>(HO.out.lt b hb).1));clear hown hgrow ha hlt5))
   go_roundw
   case rel=>exact⟨k+1,some ⟨gq,0,none⟩,cap,by omega,by go_num,rfl,hid (by rw[HST.out,aI];exact HO5.out),HB5⟩
   case measure=>(simp[RowKit.intOf];omega)
  ·obtain rfl:k=N:=by omega
   have hcase:P.length<=k∨30<=k∨L.length=0:=by
    have h9:=HN.out;unfold mixN at h9;split at h9<;>omega
   have i1:¬((k:Int)<(P.length:Int)∧(k:Int)<30∧(0:Int)<(L.length:Int)):=by omega
   by_cases c1:k<P.length
   ·by_cases c2:k<30
    ·have i3:(k:Int)<(P.length:Int):=by omega
     have i4:(k:Int)<30:=by omega
     have i5:¬(0:Int)<(L.length:Int):=by omega
     go_wp2;go_ret;exact⟨A',c',rfl,HO.out,HBr.out⟩
    ·have i3:(k:Int)<(P.length:Int):=by omega
     have i4:¬(k:Int)<30:=by omega
     go_wp2;go_ret;exact⟨A',c',rfl,HO.out,HBr.out⟩
   ·have i3:¬(k:Int)<(P.length:Int):=by omega
    go_wp2;go_ret;exact⟨A',c',rfl,HO.out,HBr.out⟩
def tellS (p:Grp×GrX):ByteArray:=⟨(33::grpZ p.1).toArray⟩
def tellC (p:Grp×GrX):List Value:=[.string (tellS p)]
theorem info_text:(Tryz.prog.info? 9).map (λi=>(i.zero,i.size,i.bytes))=some (some (.string ByteArray.empty),1,16):=by kernel_rfl
theorem tellV_ok {g:Grp} (h:chkB g=true) (x:GrX):tellV g= .tuple #[.string (tellS (g,x)),(0:Int)]:=by unfold tellV tellS;rw[aJ h]
theorem answer_any (L:List (Grp×GrX)) (A:Option Addr) (c:Nat) (vA:Option Addr) (vc:Nat) (v:List Int) (S:Nat->Prop) (w:World) (hl:L.length<=100000) (hv:v.length<=1000) (hR:RowGr w A L) (hG:∀p∈L,GrG w S p) (hT:∀p∈L,∀o∈p.1.ops,o.text.size<=1000000) (hC:∀p∈L,chkB p.1=true) (hV:VecR w vA v) (hTb:Tabs w):
  Calls Tryz.prog 32 #[.slice A L.length c,.slice vA v.length vc] w λe w'=>∃A' c',e= .returned (.slice A' (missL v L).length c')∧w'.ownsRow w.heap.size 9 1 (.slice A' (missL v L).length c') (missL v L).length ((missL v L).flatMap tellC)∧Below w.heap.size w w':=by
 obtain⟨i0,hi,hz0,hz1,hz2⟩:=bD info_text;have HR:=hid hR;have HV:=hid hV;have HG:=hid hG;have HT:=hid hT;have HC:=hid hC;have HTB:=hid hTb;clear hR hV hG hT hC hTb;go_enter Tryz.func32,Tryz.ntmps32;go_upto_region 3 with fail;go_loopw [5,13] (λo i wr=>∃(k:Nat) (A':Option Addr) (c' m:Nat),k<=L.length∧i= .int .i64 k∧o= .slice A' m c'∧m<=k∧Hid (m=(missL v (L.take k)).length)∧Hid (wr.ownsRow w.heap.size 9 1 (.slice A' m c') m ((missL v (L.take k)).flatMap tellC))∧Hid (Below w.heap.size w wr)) (λo i _=>L.length-(RowKit.intOf i).toNat)
 case atStart=>exact⟨0,some ⟨w.heap.size,0,none⟩,0,0,aq _,rfl,rfl,aa _,hid rfl,hid ⟨rfl,.inr ⟨w.heap.size,0,#[],rfl,aa _,am _ _,aa _,aq _,rfl,rfl⟩⟩,hid ((ag _ _).alloc (aa _) _)⟩
 case round=>
  obtain⟨k,A',c',m,hk,rfl,rfl,hmk,HML,HO,HBr⟩:=hrel;by_cases hlt:k<L.length
  ·have i1:(0:Int)<=(k:Int):=by omega
   have i2:(k:Int)<(L.length:Int):=by omega
   obtain⟨rb,ro,rfl,hrb,hrange⟩:=HR.out.range hlt;have hst:=missL_succ (v:=v) hlt;have hm:L.getD k gp0∈L:=bL hlt gp0;have hsz:=HBr.out.size;have hTL:∀W,Below wr.heap.size wr W->Calls Tryz.prog 65 #[.agg (grA (L.getD k gp0).1 (L.getD k gp0).2.dA (L.getD k gp0).2.dc (L.getD k gp0).2.oA (L.getD k gp0).2.oc)] W λe w'=>e= .returned (.tuple #[.string (tellS (L.getD k gp0)),(0:Int)])∧Below W.heap.size W w':=λW hB=>by
    have hBW:=HBr.out.trans (hB.mono hsz);rw[<-tellV_ok (HC.out _ hm) (L.getD k gp0).2];exact tell_any _ _ _ _ _ S W ((HG.out _ hm).agr (Agr.below hBW)) (λo ho=>by have:=HT.out _ hm o ho;omega) (λ_=>HT.out _ hm) (HTB.out.below hBW)
   generalize L.getD k gp0=p at *;generalize hxs:tellS p=xs at *;have hxc:tellC p=[.string xs]:=by unfold tellC;rw[hxs]
   obtain⟨⟨⟨t,r⟩,n,dv,⟨ut,ur⟩,ops⟩,⟨dA,dc,oA,oc⟩⟩:=p;have HTL:Hid (∀W,Below wr.heap.size wr W->Calls Tryz.prog 65 #[.agg #[t,r,n,.slice dA dv.length dc,ut,ur,.slice oA ops.length oc]] W λe w'=>e= .returned (.tuple #[xs,(0:Int)])∧Below W.heap.size W w'):=hid hTL;obtain⟨z,hz⟩:∃z,z=atV v r:=⟨_,rfl⟩;obtain⟨od,hod⟩:∃b,b=decide (n<=z):=⟨_,rfl⟩;have hzo:decide (n<=z)=od:=hod.symm;have HST:=hid (show missL v (L.take (k+1))=missL v (L.take k)++(if od=true then [] else [(⟨⟨⟨t,r⟩,n,dv,⟨ut,ur⟩,ops⟩,⟨dA,dc,oA,oc⟩⟩:Grp×GrX)]) by rw[hst];congr 1;rw[hod,hz];rfl);have HXC:=hid hxc;have HRG:=hid (show wr.rangeAt rb (ro+k*7) [t,r,n,.slice dA dv.length dc,ut,ur,.slice oA ops.length oc] from cd hrange hrb HBr.out)
   have HAT:=hid (λW (hB:Below w.heap.size w W)=>show Calls Tryz.prog 63 #[.slice vA v.length vc,r] W λe w'=>e= .returned (.int .i64 z)∧Below W.heap.size W w' from by
    rw[hz]
    exact(at_any vA vc v r W (by omega) (HV.out.below hB)).mono (by rintro e w' ⟨rfl,rfl⟩;exact⟨rfl,ag _ _⟩))
   clear hst hz hod hrange hrb hTL hxs hxc hm;go_upto_region 5 with(refine lM HRG aH ?_);have HA1:=hid (am wr (.cells #[t,r,n,.slice dA dv.length dc,ut,ur,.slice oA ops.length oc] 45));have HBa:=hid ((ag wr.heap.size wr).alloc (aa _) (.cells #[t,r,n,.slice dA dv.length dc,ut,ur,.slice oA ops.length oc] 45));generalize hW1:wr.alloc (.cells #[t,r,n,.slice dA dv.length dc,ut,ur,.slice oA ops.length oc] 45)=w1 at *;clear hW1;have HB1:=hid (HBr.out.trans (HBa.out.mono hsz));have hsz1:=HB1.out.size;have y1:=rg1 HA1.out;have y2:=rg2 HA1.out;have cA:=λd os=>ay (HAT.out (grow (redrawn w1 d) os) (HB1.out.trans ((bE w1 d os).mono hsz1)));cases od with
   |true=>
    have hzh:n<=z:=by simpa using hzo
    refine rqb ?_
    repeat(any_goals(first|go_big_quiet_step (with_reducible exact cA _ _)|quiet_step (with_reducible exact cA _ _)))
    refine qz λwq hBq=> ?_;have HB2:=bT HBa hBq;have HO3:=kO HO HB2.out;have HB3:=hid (HB1.out.trans (hBq.mono hsz1));go_wp2;go_roundw
    case rel=>exact⟨k+1,A',c',m,by omega,by go_num,rfl,by omega,hid (by rw[HST.out];simpa using HML.out),hid (by rw[HST.out];simpa using HO3.out),HB3⟩
    case measure=>(simp[RowKit.intOf];omega)
   | false=>
    have hzh:¬n<=z:=by simpa using hzo
    refine rqb ?_
    repeat(any_goals(first|go_big_quiet_step (with_reducible exact cA _ _)|quiet_step (with_reducible exact cA _ _)))
    refine qz λwq hBq=> ?_;have HB2:=bT HBa hBq;have HA2:=bK hBq HA1;clear y1 y2 cA hBq
    go_upto_region 7 with(first
     |(refine lA HA2 aH ?_)
     |(go_at_call 65;refine(HTL.out _ HB2.out).mono ?_;rintro e w3 ⟨rfl,hB3⟩;have HB3:=hid (HBr.out.trans ((HB2.out.trans (hB3.mono HB2.out.size)).mono hsz));have HO3:=hid (HO.out.kept (dg (r:=none) (HB2.out.trans (hB3.mono HB2.out.size))) (cw _));clear hB3))
    have hsz3:=HB3.out.size;go_wp2_with (at_builtin;refine bX _ rfl _ _ 60 rfl w.heap.size 9 i0 (.string ByteArray.empty) 1 16 Tryz.underlying60 hi hz0 hz1 hz2 rfl (by decide) (.slice A' m c') m _ rfl (by exact HO3.out.alloc _) ⟨w3.heap.size,0,none⟩ 1 1 [xs] rfl rfl (cellOne _ _ _) (λu hu=>by simp at hu;subst hu;rfl) (by decide) (by unfold maxLen;omega) (by omega) (by simp;omega) (w3.heap.size+1) (by simp) ?_;intro gq cap w5 hown hgrow ha hlt5;have HO5:=hid hown;have HB5:=hid ((HB3.out.alloc hsz3 _).grown hgrow (by simp;omega) (λb hb=>(HO3.out.lt b hb).1));clear hown hgrow ha hlt5);go_roundw
    case rel=>exact⟨k+1,some ⟨gq,0,none⟩,cap,m+1,by omega,by go_num,rfl,by omega,hid (by rw[HST.out,aC (by decide),al,<-HML.out];rfl),hid (by rw[HST.out,aC (by decide),aI,cW,List.flatMap_nil,HXC.out];exact HO5.out),HB5⟩
    case measure=>(simp[RowKit.intOf];omega)
  ·obtain rfl:k=L.length:=by omega
   have i2:¬(L.length:Int)<(L.length:Int):=by omega
   have HM9:=hid (show m=(missL v L).length by have h9:=HML.out;rw[aK] at h9;exact h9);have HO9:=hid (show wr.ownsRow w.heap.size 9 1 (.slice A' m c') m ((missL v L).flatMap tellC) by have h9:=HO.out;rw[aK] at h9;exact h9);go_wp2;go_ret;refine⟨A',c',by rw[<-HM9.out];rfl,?_,HBr.out⟩;rw[<-HM9.out];exact HO9.out
theorem getD_fst' (L:List (Grp×GrX)) (k:Nat):(L.getD k gp0).1=(L.map Prod.fst).getD k gz:=by
 rw[ae,ae,cT];cases L[k]? <;>rfl
theorem aheadV_take:∀(l:List Grp) (v u:List Int),dM v l=some u->∀j,j<l.length->∃x,dM v (l.take j)=some x∧chkB (l.getD j gz)=true∧covB x (l.getD j gz).deps=true∧atV x (l.getD j gz).s.r=(l.getD j gz).n-1∧dM v (l.take (j+1))=some (eE x (l.getD j gz).s.r (l.getD j gz).n)
 | [],v,u,h,j,hj=>absurd hj (cG _)
 | g::l,v,u,h,0,hj=>by
  rw[dM] at h
  split at h
  ·rename_i c
   simp only[ap,ak] at c
   refine⟨v,rfl,c.1.1,c.1.2,c.2,?_⟩
   show dM v (g::l.take 0)=_
   rw[dM,aJ (by simp[c.1.1,c.1.2,c.2])]
   rw[iu];rfl
  ·cases h
 | g::l,v,u,h,j+1,hj=>by
  rw[dM] at h
  split at h
  ·rename_i c
   obtain⟨x,h1,h2,h3,h4,h5⟩:=aheadV_take l _ u h j (by simpa using hj)
   refine⟨x,?_,h2,h3,h4,?_⟩
   ·show dM v (g::l.take j)=_
    rw[dM,aJ c];exact h1
   ·show dM v (g::l.take (j+1))=_
    rw[dM,aJ c];exact h5
  ·cases h
theorem reffind_none (L:List (Grp×GrX)) (A:Option Addr) (c:Nat) (x:Gst) (w:World) (hl:L.length<=1000000) (hR:RowGr w A L) (hn:∀p∈L,p.1.s.eqb x=false):
  Calls Tryz.prog 165 #[.slice A L.length c,.agg #[.int .i64 x.t,.int .i64 x.r]] w λe w'=>e= .returned (.int .i64 (-1))∧Below w.heap.size w w':=by
 obtain⟨xt,xr⟩:=x;have hb0:Below w.heap.size w (w.alloc (.cells #[xt,xr] 42)):=(ag _ _).alloc (aa _) _;have HC:=hid (am w (.cells #[xt,xr] 42));have hs0:(w.alloc (.cells #[xt,xr] 42)).heap.size=w.heap.size+1:=by simp
 have HS:=hid hs0;have HB:=hid hb0;have HR:=hid hR;have HN:=hid hn;clear hb0 hR hn hs0;show Calls _ _ #[.slice A L.length c,.agg #[xt,xr]] _ _;go_enter Tryz.func165,Tryz.ntmps165;go_upto_region 2 with(fail);generalize hW0:w.alloc (.cells #[xt,xr] 42)=W0 at *;clear hW0;go_loopw [5] (λi wr=>∃k:Nat,i= .int .i64 k∧k<=L.length∧Hid (Below W0.heap.size W0 wr)) (λi _=>L.length-(RowKit.intOf i).toNat)
 case atStart=>exact⟨0,rfl,aq _,hid (ag _ _)⟩
 case round=>
  obtain⟨k,rfl,hk,HBr⟩:=hrel;have HBw:=bT HB HBr.out;by_cases hlt:k<L.length
  ·obtain⟨rb,ro,rfl,hrb,hrange⟩:=RowGr.range (RowGr.below HR.out HBw.out) hlt;have i0:(0:Int)<=(k:Int):=by omega
   have i1:(k:Int)<(L.length:Int):=by omega
   have hm:L.getD k gp0∈L:=by rw[ae,an hlt];exact bU hlt
   have hne:=HN.out _ hm;generalize L.getD k gp0=p at *;obtain⟨⟨⟨t,r⟩,n,dv,⟨ut,ur⟩,ops⟩,⟨dA,dc,oA,oc⟩⟩:=p;have q1:=eq_st t r xt xr false hne;have HCr:=hid ((HBr.out.block w.heap.size (by rw[HS.out];omega)).trans HC.out);have x0:=rg0 HCr.out;have x1:=rg1 HCr.out;have y0:=aj (w:=wr) (a:=⟨rb,ro+k*7,none⟩) (v:= .int .i64 t) (hrange 0 _ rfl);have y1:=aj (w:=wr) (a:=⟨rb,ro+k*7+1,none⟩) (v:= .int .i64 r) (hrange 1 _ rfl);clear hne hm hrange;go_upto_region 4 with(fail);refine rqb ?_
   repeat(any_goals(first|go_big_quiet_step (fail)|quiet_step (fail)))
   refine qz λwq hBq=> ?_;go_wp2;go_roundw
   case rel=>exact⟨k+1,by go_num,by omega,bT HBr hBq⟩
   case measure=>(simp[RowKit.intOf];omega)
  ·obtain rfl:k=L.length:=by omega
   have i1:¬(L.length:Int)<(L.length:Int):=by omega
   go_wp2;go_ret;exact⟨rfl,HBw.out⟩
theorem flat_take_succ {L:List (Grp×GrX)} {k:Nat} (h:k<L.length):(L.take (k+1)).flatMap grC_=(L.take k).flatMap grC_++grC_ (L.getD k gp0):=by
 rw[List.take_add_one,aI,an h,ae,an h];simp
theorem refrights_any (L:List (Grp×GrX)) (A:Option Addr) (c:Nat) (S:Nat->Prop) (w:World) (hl:L.length<=100000) (hR:RowGr w A L) (hG:∀p∈L,GrG w S p) (hT:∀p∈L,∀o∈p.1.ops,o.text.size<=1000000) (hck:∀p∈L,chkB p.1=true) (hnd:(L.map (·.1.s)).Nodup):
  Calls Tryz.prog 106 #[.slice A L.length c] w λe w'=>∃A' c',e= .returned (.slice A' L.length c')∧w'.ownsRow w.heap.size 45 7 (.slice A' L.length c') L.length (L.flatMap grC_)∧Below w.heap.size w w':=by
 obtain⟨i0,hi,hz0,hz1,hz2⟩:=bD ia;have HR:=hid hR;have HG:=hid hG;have HT:=hid hT;have HCK:=hid hck;have HND:=hid hnd;clear hR hG hT hck hnd;go_enter Tryz.func106,Tryz.ntmps106;go_upto_region 3 with(fail);go_loopw [3,4] (λo i wr=>∃(k:Nat) (A':Option Addr) (c':Nat),k<=L.length∧i= .int .i64 k∧o= .slice A' k c'∧Hid (wr.ownsRow w.heap.size 45 7 (.slice A' k c') k ((L.take k).flatMap grC_))∧Hid (Below w.heap.size w wr)) (λo i _=>L.length-(RowKit.intOf i).toNat)
 case atStart=>exact⟨0,none,0,aq _,rfl,rfl,hid (aF _ _ _ _),hid (ag _ _)⟩
 case round=>
  obtain⟨k,A',c',hk,rfl,rfl,HO,HBr⟩:=hrel;by_cases hlt:k<L.length
  ·obtain⟨rb,ro,rfl,hrb,hrange⟩:=RowGr.range (RowGr.below HR.out HBr.out) hlt;have hbw:rb<w.heap.size:=by obtain⟨b',o',e',-,hb',-⟩:=HR.out k hlt;cases e';exact hb'
   have i0':(0:Int)<=(k:Int):=by omega
   have i1:(k:Int)<(L.length:Int):=by omega
   have hsz:=HBr.out.size;have hm:L.getD k gp0∈L:=by rw[ae,an hlt];exact bU hlt
   have hgood:GrG wr S (L.getD k gp0):=(HG.out _ hm).agr (Agr.below HBr.out);have htx:=HT.out _ hm;have hch:=HCK.out _ hm;have HTK:=hid (flat_take_succ hlt);have hne:∀q∈L.take k,q.1.s.eqb (L.getD k gp0).1.s=false:=λq hq=>by
    cases e:q.1.s.eqb (L.getD k gp0).1.s with
    |false=>rfl
    |true=>
     exfalso;rw[Gst.eqb_iff] at e;obtain⟨j,hj,rfl⟩:=List.getElem_of_mem hq;have hjk:j<k:=by rw[aP] at hj;omega
     rw[List.getElem_take] at e;rw[ae,an hlt] at e;have hp:=(iL.1 HND.out) j k (by rw[aQ];omega) (by rw[aQ];exact hlt) hjk;rw[List.getElem_map,List.getElem_map] at hp;exact hp e
   have hRt:RowGr wr A' (L.take k):=by
    have hlk:(L.take k).length=k:=by rw[aP];omega
    have:=HO.out;refine RowGr.own (c:=c') (B:=w.heap.size) (E:=45) ?_;rw[hlk];exact this
   have hlk:(L.take k).length=k:=by rw[aP];omega
   generalize L.getD k gp0=p at *;obtain⟨⟨⟨t,r⟩,n,dv,⟨ut,ur⟩,ops⟩,⟨dA,dc,oA,oc⟩⟩:=p;have hch:chkB ⟨⟨t,r⟩,n,dv,⟨ut,ur⟩,ops⟩=true:=hch;have HCC:=hid (vchk_any ⟨⟨t,r⟩,n,dv,⟨ut,ur⟩,ops⟩ dA dc oA oc S wr hgood (λ_=>htx) hch);rw[hch,aJ rfl] at HCC
   have HFN:=hid (λW (hB:Below wr.heap.size wr W)=>show Calls Tryz.prog 165 #[.slice A' k c',.agg #[t,r]] W λe w'=>e= .returned (.int .i64 (-1))∧Below W.heap.size W w' from by
    have:=reffind_none (L.take k) A' c' ⟨t,r⟩ W (by omega) (RowGr.below hRt hB) hne;rw[hlk] at this
    exact this)
   have y0:wr.cell? ⟨rb,ro+k*7,none⟩=some (.int .i64 t):=hrange 0 _ rfl;have y1:wr.cell? ⟨rb,ro+k*7+1,none⟩=some (.int .i64 r):=hrange 1 _ rfl;have y2:wr.cell? ⟨rb,ro+k*7+2,none⟩=some (.int .i64 n):=hrange 2 _ rfl;have y3:wr.cell? ⟨rb,ro+k*7+3,none⟩=some (.slice dA dv.length dc):=hrange 3 _ rfl;have y4:wr.cell? ⟨rb,ro+k*7+4,none⟩=some (.int .i64 ut):=hrange 4 _ rfl;have y5:wr.cell? ⟨rb,ro+k*7+5,none⟩=some (.int .i64 ur):=hrange 5 _ rfl;have y6:wr.cell? ⟨rb,ro+k*7+6,none⟩=some (.slice oA ops.length oc):=hrange 6 _ rfl;clear hrange hgood htx hch hm hne hRt hlk
   go_upto_region 6 with(first
    |(go_at_call 54;refine HCC.out.mono ?_;rintro e w1 ⟨rfl,hB1⟩;have HB1:=hid hB1;have z0:=(aS (w:=wr) (w':=w1) (a:=⟨rb,ro+k*7,none⟩) (hB1.block rb (by omega))).trans y0;have z1:=(aS (w:=wr) (w':=w1) (a:=⟨rb,ro+k*7+1,none⟩) (hB1.block rb (by omega))).trans y1;have z2:=(aS (w:=wr) (w':=w1) (a:=⟨rb,ro+k*7+2,none⟩) (hB1.block rb (by omega))).trans y2;have z3:=(aS (w:=wr) (w':=w1) (a:=⟨rb,ro+k*7+3,none⟩) (hB1.block rb (by omega))).trans y3;have z4:=(aS (w:=wr) (w':=w1) (a:=⟨rb,ro+k*7+4,none⟩) (hB1.block rb (by omega))).trans y4;have z5:=(aS (w:=wr) (w':=w1) (a:=⟨rb,ro+k*7+5,none⟩) (hB1.block rb (by omega))).trans y5;have z6:=(aS (w:=wr) (w':=w1) (a:=⟨rb,ro+k*7+6,none⟩) (hB1.block rb (by omega))).trans y6;clear hB1)
    |(go_at_call 165;refine(HFN.out w1 HB1.out).mono ?_;rintro e w2 ⟨rfl,hB2⟩;have HB2:=bT HB1 hB2;have hs1:=HB1.out.size;have v0:=(aS (w:=w1) (w':=w2) (a:=⟨rb,ro+k*7,none⟩) (hB2.block rb (by omega))).trans z0;have v1:=(aS (w:=w1) (w':=w2) (a:=⟨rb,ro+k*7+1,none⟩) (hB2.block rb (by omega))).trans z1;have v2:=(aS (w:=w1) (w':=w2) (a:=⟨rb,ro+k*7+2,none⟩) (hB2.block rb (by omega))).trans z2;have v3:=(aS (w:=w1) (w':=w2) (a:=⟨rb,ro+k*7+3,none⟩) (hB2.block rb (by omega))).trans z3;have v4:=(aS (w:=w1) (w':=w2) (a:=⟨rb,ro+k*7+4,none⟩) (hB2.block rb (by omega))).trans z4;have v5:=(aS (w:=w1) (w':=w2) (a:=⟨rb,ro+k*7+5,none⟩) (hB2.block rb (by omega))).trans z5;have v6:=(aS (w:=w1) (w':=w2) (a:=⟨rb,ro+k*7+6,none⟩) (hB2.block rb (by omega))).trans z6;clear hB2))
   have hs2:=HB2.out.size;have HO2:=kO HO HB2.out;have HBw2:=hid (HBr.out.trans (HB2.out.mono hsz));clear y0 y1 y2 y3 y4 y5 y6 z0 z1 z2 z3 z4 z5 z6;go_wp2_with (at_builtin;refine bu _ rfl _ _ 25 rfl w.heap.size 45 i0 (.agg #[(0:Int),(0:Int),(0:Int),.slice none 0 0,(0:Int),(0:Int),.slice none 0 0]) 7 88 bV hi hz0 hz1 hz2 rfl (by decide) _ _ _ rfl (by exact HO2.out.alloc _) ⟨w2.heap.size,0,none⟩ 1 1 [t,r,n,.slice dA dv.length dc,ut,ur,.slice oA ops.length oc] rfl rfl (λj y h=>dH w2 [t,r,n,.slice dA dv.length dc,ut,ur,.slice oA ops.length oc] 45 j y h) (iO (⟨⟨t,r⟩,n,dv,⟨ut,ur⟩,ops⟩,⟨dA,dc,oA,oc⟩)) (by unfold maxLen;omega) (by omega) (by simp;omega) ?_;intro v' w3 hown hgrow hnil);obtain⟨A3,c3,rfl⟩:=bZ hown;have HO3:=hid (show w3.ownsRow w.heap.size 45 7 (.slice A3 (k+1) c3) (k+1) ((L.take (k+1)).flatMap grC_) by rw[HTK.out];exact hown);have HB3:=hid ((HBw2.out.alloc HBw2.out.size _).grown hgrow (by simp;have:=HBw2.out.size;omega) (λb hb=>HO.out.lt b hb |>.1));clear hown hgrow hnil;go_roundw
   case rel=>exact⟨k+1,A3,c3,by omega,by go_num,rfl,HO3,HB3⟩
   case measure=>(simp[RowKit.intOf];omega)
  ·obtain rfl:k=L.length:=by omega
   have i1:¬(L.length:Int)<(L.length:Int):=by omega
   go_wp2;go_ret;refine⟨A',c',rfl,?_,HBr.out⟩;have:=HO.out;rw[aK] at this;exact this
theorem rvector_any (L:List (Grp×GrX)) (A:Option Addr) (c:Nat) (S:Nat->Prop) (w:World) (hl:L.length<=100000) (hR:RowGr w A L) (hG:∀p∈L,GrG w S p) (hT:∀p∈L,∀o∈p.1.ops,o.text.size<=1000000) (hck:∀p∈L,chkB p.1=true) (hnd:(L.map (·.1.s)).Nodup) (u:List Int) (hu:dM [] (L.map Prod.fst)=some u):
  Calls Tryz.prog 70 #[.slice A L.length c] w λe w'=>∃A' c',e= .returned (.slice A' u.length c')∧VecS w' (λ_=>True) A' u∧u.length<=16∧Below w.heap.size w w':=by
 have HRT:=hid (refrights_any L A c S w hl hR hG hT hck hnd);have HU:=hid hu;have HCK:=hid hck;clear hR hG hT hck hnd hu;go_enter Tryz.func70,Tryz.ntmps70;go_upto_region 4 with(go_at_call 106;refine HRT.out.mono ?_;rintro e w1 ⟨A1,c1,rfl,hown,hB1⟩;have HR1:=hid (RowGr.own hown);have HB1:=hid hB1;clear hown hB1);go_loopw [3,4] (λs i wr=>∃(k:Nat) (v:List Int) (vA:Option Addr) (vc:Nat),k<=L.length∧s= .slice vA v.length vc∧v.length<=16∧VecS wr (λ_=>True) vA v∧Hid (dM [] ((L.map Prod.fst).take k)=some v)∧i= .int .i64 k∧Hid (Below w1.heap.size w1 wr)) (λs i _=>L.length-(RowKit.intOf i).toNat)
 case atStart=>exact⟨0,[],none,0,by omega,rfl,by decide,RowG.zero,hid rfl,rfl,hid (ag _ _)⟩
 case round=>
  obtain⟨k,v,vA,vc,hk,rfl,hv16,hV,HV,rfl,HBr⟩:=hrel;by_cases hlt:k<L.length
  ·have i0:(0:Int)<=(k:Int):=by omega
   have i1:(k:Int)<(L.length:Int):=by omega
   obtain⟨rb,ro,rfl,hrb,hrange⟩:=RowGr.range (RowGr.below HR1.out HBr.out) hlt;have hsz:=HBr.out.size;have hm:L.getD k gp0∈L:=by rw[ae,an hlt];exact bU hlt
   have hch:=HCK.out _ hm;have hgd:=getD_fst' L k;obtain⟨x5,k1,k2,k3,k4,k5⟩:=aheadV_take _ _ _ HU.out k (by rw[aQ];exact hlt);obtain rfl:x5=v:=by rw[HV.out] at k1;exact(Option.some.inj k1).symm
   rw[<-hgd] at k2 k3 k4 k5;generalize L.getD k gp0=p at *;obtain⟨⟨⟨t,r⟩,n,dv,⟨ut,ur⟩,ops⟩,⟨dA,dc,oA,oc⟩⟩:=p;clear hgd hm k1 k3;obtain⟨c1',c2,c3,-⟩:=eC k2;have hr:=right_r c1';have hr1:1<=r:=hr.1;have hr2:r<=16:=hr.2;have hn1:1<=n:=c2;have hn2:n<=1099511627776:=c3;have k4:atV x5 r=n-1:=k4;have K5:=hid (show dM [] ((L.map Prod.fst).take (k+1))=some (eE x5 r n) from k5);have HAT:=hid (λW (hB:Below wr.heap.size wr W)=>fh vA vc x5 r W (by omega) (VecS.vec (RowG.agr hV (Agr.below hB))));have HWI:=hid (λW (hB:Below wr.heap.size wr W)=>refwith_any vA vc x5 r n W (by omega) hr1 hr2 (VecS.vec (RowG.agr hV (Agr.below hB))));rw[k4] at HAT;have q1:max n (n-1)=n:=by omega
   have y1:=aj (hrange 1 _ rfl);have y2:=aj (hrange 2 _ rfl);have HY1:=hid (show wr.cell? ⟨rb,ro+k*7+1,none⟩=some (.int .i64 r) from hrange 1 _ rfl);clear k2 k4 k5 c1' c2 c3 hr hch hrange;have cC:∀d os,Calls Tryz.prog 55 #[.slice vA x5.length vc,r] (grow (redrawn wr d) os) λe w''=>e= .returned (.int .i64 (n-1))∧∃p:Regrown,w''=grow (redrawn wr p.d) p.os:=λd os=>ay ((HAT.out (grow (redrawn wr d) os) (bE wr d os)).mono (by rintro e w' ⟨rfl,rfl⟩;exact⟨rfl,ag _ _⟩));go_upto_region 6 with(fail);refine rqb ?_
   repeat(any_goals(first|go_big_quiet_step (with_reducible exact cC _ _)|quiet_step (with_reducible exact cC _ _)))
   refine qz λwq hBq=> ?_;have z1:=(aS (w:=wr) (w':=wq) (a:=⟨rb,ro+k*7+1,none⟩) (hBq.block rb hrb)).trans HY1.out;have HBq:=hid hBq;clear y1 y2 cC hBq;go_wp2_with (go_at_call 56;refine(HWI.out wq HBq.out).mono ?_;rintro e w9 ⟨hB9,A9,c9,rfl,hv9,hc9,hm9⟩);have hl9:=withV_len x5 r n hv16 hr2;go_roundw
   case rel=>exact⟨k+1,eE x5 r n,A9,c9,by omega,rfl,hl9,RowG.sub hv9 (λ_ _ _=>trivial),K5,by go_num,hid (HBr.out.trans ((HBq.out.trans (hB9.mono HBq.out.size)).mono hsz))⟩
   case measure=>(simp[RowKit.intOf];omega)
  ·obtain rfl:k=L.length:=by omega
   have i1:¬(L.length:Int)<(L.length:Int):=by omega
   have hvu:v=u:=by
    have:=HV.out;rw[di (by rw[aQ];exact aa _),HU.out] at this;exact(Option.some.inj this).symm
   subst hvu;go_wp2;go_ret;exact⟨vA,⟨vc,rfl⟩,hV,HB1.out.trans (HBr.out.mono HB1.out.size)⟩
end
section
open Go.RowKit Go.Lib Go.Sort
structure RbX where
 dv:Value
 wv:Value
 L:List (Grp×GrX)
 M:List (Grp×GrX)
def OwnR (P:Nat) (X:RbX) (k:Nat):Prop:=k=P∨X.dv.ownBlock=some k∨X.wv.ownBlock=some k
structure RbIn (B P:Nat) (S:Nat->Prop) (dn wt:List Grp) (X:RbX) (w:World):Prop where
 obj:w.heap[P]? =some (.cells #[X.dv,X.wv] 65 (0,0))
 done:w.ownsRow B 45 7 X.dv X.L.length (X.L.flatMap grC_)
 wait:w.ownsRow B 45 7 X.wv X.M.length (X.M.flatMap grC_)
 dl:X.L.map Prod.fst=dn
 wl:X.M.map Prod.fst=wt
 good:∀p∈X.L++X.M,GrG w S p
 hP:B<=P
 dP:X.dv.ownBlock≠some P
 wP:X.wv.ownBlock≠some P
 dw:∀g,X.dv.ownBlock=some g->X.wv.ownBlock≠some g
 sep:∀k,S k->k<w.heap.size∧¬OwnR P X k
structure RbTo (P:Nat) (X:RbX) (w:World) (X':RbX) (w':World):Prop where
 gr:GrB (OwnR P X) w w'
 own:∀k,OwnR P X' k->OwnR P X k∨w.heap.size<=k
section
variable {B P : Nat} {S : Nat → Prop} {dn wt : List Grp} {X X' X'' : RbX} {w w' w'' : World}
theorem RbTo.trans (h:RbTo P X w X' w') (k:RbTo P X' w' X'' w''):RbTo P X w X'' w'':=
 ⟨h.gr.trans k.gr λi hi e=>(h.own i e).resolve_right (by omega),λi hi=>by
  rcases k.own i hi with h1|h1
  ·exact h.own i h1
  ·exact .inr (aL h.gr.size h1)⟩
theorem RbTo.of_below (h:Below w.heap.size w w'):RbTo P X w X w':=⟨GrB.of_below h,λ_ h=> .inl h⟩
theorem RbIn.own_lt (h:RbIn B P S dn wt X w) {k:Nat} (hk:OwnR P X k):B<=k∧k<w.heap.size:=by
 rcases hk with rfl|hk|hk
 ·exact⟨h.hP,lt_of_block h.obj⟩
 ·exact h.done.lt k hk
 ·exact h.wait.lt k hk
theorem RbIn.below (h:RbIn B P S dn wt X w) (hb:Below w.heap.size w w'):RbIn B P S dn wt X w':=by
 have hg:=dg (r:=none) hb;exact⟨(hb.block P (lt_of_block h.obj)).trans h.obj,h.done.kept hg (cw _),h.wait.kept hg (cw _),h.dl,h.wl,λp hp=>(h.good p hp).agr (Agr.below hb),h.hP,h.dP,h.wP,h.dw,λk hk=>⟨bC (h.sep k hk).1 hb.size,(h.sep k hk).2⟩⟩
theorem RbIn.cell (h:RbIn B P S dn wt X w) (i:Nat):w.cell? ⟨P,i,none⟩=#[X.dv,X.wv][i]? :=aD _ _ _ _ _ _ h.obj
theorem RbIn.dlen (h:RbIn B P S dn wt X w):X.L.length=dn.length:=by rw[<-h.dl,aQ]
theorem RbIn.wlen (h:RbIn B P S dn wt X w):X.M.length=wt.length:=by rw[<-h.wl,aQ]
def NewAt (u u':Value) (n:Nat):Prop:=u'.ownBlock=u.ownBlock∨∀k,u'.ownBlock=some k->n<=k
theorem NewAt.ne {u u':Value} {n P:Nat} (hat:NewAt u u' n) (h:u.ownBlock≠some P) (hP:P<n):u'.ownBlock≠some P:=by
 rcases hat with e|e
 ·rw[e];exact h
 ·intro e2;have:=e P e2;omega
theorem RbIn.dset (h:RbIn B P S dn wt X w) {w1 w3:World} {dv':Value} {L':List (Grp×GrX)} (hb:Below w.heap.size w w1) (hg:w1.grownBy w3 X.dv.ownBlock) (hown:w3.ownsRow B 45 7 dv' L'.length (L'.flatMap grC_))
  (hat:NewAt X.dv dv' w.heap.size) (hgood:∀p∈L',GrG w S p):
  RbIn B P S (L'.map Prod.fst) wt { X with dv:=dv',L:=L' } (w3.setCell ⟨P,0,none⟩ dv')∧RbTo P X w { X with dv:=dv',L:=L' } (w3.setCell ⟨P,0,none⟩ dv'):=by
 have hPl:=lt_of_block h.obj;have h1:=h.below hb;have hs1:=hb.size;have hS:∀g,X.dv.ownBlock=some g->¬S g:=λg e hS=>(h.sep g hS).2 (.inr (.inl e));have hPS:¬S P:=λhs=>(h.sep P hs).2 (.inl rfl);have ha:Agr S w (w3.setCell ⟨P,0,none⟩ dv'):=((Agr.below hb).trans (Agr.grown hg hS)).trans (gY w3 P 0 dv' hPS);have hgr:GrB (OwnR P X) w (w3.setCell ⟨P,0,none⟩ dv'):=((GrB.of_below hb).grown hg (λg e _=> .inr (.inl e))).set P 0 dv' (λ_=> .inl rfl);have hown':∀k,OwnR P { X with dv:=dv',L:=L' } k->OwnR P X k∨w.heap.size<=k:=λk hk=>by
  rcases hk with e|e|e
  ·exact .inl (.inl e)
  ·have e:dv'.ownBlock=some k:=e;rcases hat with e3|e3
   ·exact .inl (.inr (.inl (e3.symm.trans e)))
   ·exact .inr (e3 k e)
  ·exact .inl (.inr (.inr e))
 refine⟨⟨gI (c:=#[X.dv,X.wv]) ((hg.block P (by omega) (λe=>h.dP e.symm)).trans h1.obj) 0 dv' rfl,gJ hown (hat.ne h.dP hPl) 0 dv',gJ (h1.wait.kept hg (kept_or h.dw)) h.wP 0 dv',rfl,h.wl,?_,h.hP,hat.ne h.dP hPl,h.wP,?_,?_⟩,⟨hgr,hown'⟩⟩
 ·intro q hq;rcases au.1 hq with hq|hq
  ·exact(hgood q hq).agr ha
  ·exact(h.good q (au.2 (.inr hq))).agr ha
 ·intro g e e2;have e:dv'.ownBlock=some g:=e;rcases hat with e3|e3
  ·rw[e3] at e;exact h.dw g e e2
  ·have:=e3 g e;have:=(h.wait.lt g e2).2;omega
 ·intro k hk;have h3:=h.sep k hk;exact⟨bC h3.1 hgr.size,λho=>(hown' k ho).elim h3.2 (by omega)⟩
theorem RbIn.wset (h:RbIn B P S dn wt X w) {w1 w3:World} {wv':Value} {M':List (Grp×GrX)} (hb:Below w.heap.size w w1) (hg:w1.grownBy w3 X.wv.ownBlock) (hown:w3.ownsRow B 45 7 wv' M'.length (M'.flatMap grC_))
  (hat:NewAt X.wv wv' w.heap.size) (hgood:∀p∈M',GrG w S p):
  RbIn B P S dn (M'.map Prod.fst) { X with wv:=wv',M:=M' } (w3.setCell ⟨P,1,none⟩ wv')∧RbTo P X w { X with wv:=wv',M:=M' } (w3.setCell ⟨P,1,none⟩ wv'):=by
 have hPl:=lt_of_block h.obj;have h1:=h.below hb;have hs1:=hb.size;have hS:∀g,X.wv.ownBlock=some g->¬S g:=λg e hS=>(h.sep g hS).2 (.inr (.inr e));have hPS:¬S P:=λhs=>(h.sep P hs).2 (.inl rfl);have ha:Agr S w (w3.setCell ⟨P,1,none⟩ wv'):=((Agr.below hb).trans (Agr.grown hg hS)).trans (gY w3 P 1 wv' hPS);have hgr:GrB (OwnR P X) w (w3.setCell ⟨P,1,none⟩ wv'):=((GrB.of_below hb).grown hg (λg e _=> .inr (.inr e))).set P 1 wv' (λ_=> .inl rfl);have hown':∀k,OwnR P { X with wv:=wv',M:=M' } k->OwnR P X k∨w.heap.size<=k:=λk hk=>by
  rcases hk with e|e|e
  ·exact .inl (.inl e)
  ·exact .inl (.inr (.inl e))
  ·have e:wv'.ownBlock=some k:=e;rcases hat with e3|e3
   ·exact .inl (.inr (.inr (e3.symm.trans e)))
   ·exact .inr (e3 k e)
 refine⟨⟨gI (c:=#[X.dv,X.wv]) ((hg.block P (by omega) (λe=>h.wP e.symm)).trans h1.obj) 1 wv' rfl,gJ (h1.done.kept hg (kept_or (λg e e2=>h.dw g e2 e))) h.dP 1 wv',gJ hown (hat.ne h.wP hPl) 1 wv',h.dl,rfl,?_,h.hP,h.dP,hat.ne h.wP hPl,?_,?_⟩,⟨hgr,hown'⟩⟩
 ·intro q hq;rcases au.1 hq with hq|hq
  ·exact(h.good q (au.2 (.inl hq))).agr ha
  ·exact(hgood q hq).agr ha
 ·intro g e e2;have e2:wv'.ownBlock=some g:=e2;rcases hat with e3|e3
  ·rw[e3] at e2;exact h.dw g e e2
  ·have:=e3 g e2;have:=(h.done.lt g e).2;omega
 ·intro k hk;have h3:=h.sep k hk;exact⟨bC h3.1 hgr.size,λho=>(hown' k ho).elim h3.2 (by omega)⟩
structure RbOk (b:Bx):Prop where
 ok:BxOk b
 txt:∀g∈b.done++b.wait,∀o∈g.ops,o.text.size<=1000000
 len:b.done.length+b.wait.length<=100000
end
theorem rbvec_any {B P:Nat} {S:Nat->Prop} {b:Bx} {X:RbX} {w:World} (h:RbIn B P S b.done b.wait X w) (ho:RbOk b):
  Calls Tryz.prog 35 #[.pointer (some ⟨P,0,none⟩)] w λe w'=>∃A' c',e= .returned (.slice A' b.v.length c')∧VecS w' (λ_=>True) A' b.v∧b.v.length<=16∧Below w.heap.size w w':=by
 obtain⟨A0,c0,hv⟩:=bZ h.done;have hO:=h.done;rw[hv] at hO;have hln:=ho.len;have hm:∀p∈X.L,p.1∈b.done:=λp hp=>by rw[<-h.dl];exact bj.2 ⟨p,hp,rfl⟩
 have HV:=hid (rvector_any X.L A0 c0 S w (by rw[h.dlen];omega) (RowGr.own hO) (λp hp=>h.good p (au.2 (.inl hp))) (λp hp=>ho.txt p.1 (au.2 (.inl (hm p hp)))) (λp hp=>ho.ok.chk p.1 (au.2 (.inl (hm p hp)))) (by
  have:=ho.ok.apart;rw[bq,dK] at this;have h1:=this.1;rw[<-h.dl,List.map_map] at h1
  exact h1) b.v (by rw[h.dl];exact ho.ok.ahead))
 have d0:w.cell? ⟨P,0,none⟩=some (.slice A0 X.L.length c0):=by rw[h.cell,<-hv];rfl
 obtain⟨n,hn⟩:∃n,n=X.L.length:=⟨_,rfl⟩;rw[<-hn] at HV d0;clear h hO hv ho hm hln hn;go_enter Tryz.func35,Tryz.ntmps35;go_wp2_with (go_at_call 70;refine HV.out.mono ?_;rintro e w1 ⟨A1,c1,rfl,hv1,hl1,hB1⟩);go_ret;exact⟨A1,c1,rfl,hv1,hl1,hB1⟩
end
section
open Go.RowKit Go.Lib Go.Sort
attribute [local go_sem ↓] Go.wp_at_zero Go.wp_at_succ
theorem rbready_any {B P:Nat} {S S2:Nat->Prop} {b:Bx} {X:RbX} {w:World} (h:RbIn B P S b.done b.wait X w) (ho:RbOk b) (g:Grp) (x:GrX) (hG:GrG w S2 (g,x)) (hdl:g.deps.length<=1000):
  Calls Tryz.prog 68 #[.pointer (some ⟨P,0,none⟩),.agg (grA g x.dA x.dc x.oA x.oc)] w λe w'=>e= .returned (.bool (fp b.v g))∧Below w.heap.size w w':=by
 obtain⟨⟨t,r⟩,n,u,⟨ut,ur⟩,ops⟩:=g;obtain⟨dA,dc,oA,oc⟩:=x;obtain⟨ans,hans⟩:∃z,z=fp b.v ⟨⟨t,r⟩,n,u,⟨ut,ur⟩,ops⟩:=⟨_,rfl⟩;rw[<-hans];have hb0:Below w.heap.size w (w.alloc (.cells #[t,r,n,.slice dA u.length dc,ut,ur,.slice oA ops.length oc] 45)):=(ag _ _).alloc (aa _) _;have hul:u.length<=9223372036854775800:=by have h1:u.length<=1000:=hdl;omega
 have hVC:∀W,Below w.heap.size w W->Calls Tryz.prog 35 #[.pointer (some ⟨P,0,none⟩)] W λe w'=>∃A' c',e= .returned (.slice A' b.v.length c')∧VecS w' (λ_=>True) A' b.v∧b.v.length<=16∧Below W.heap.size W w':=λW hB=>rbvec_any (h.below hB) ho;have hCV:∀W A' c',Below w.heap.size w W->VecS W (λ_=>True) A' b.v->b.v.length<=16->Calls Tryz.prog 38 #[.slice A' b.v.length c',.slice dA u.length dc] W λe w'=>e= .returned (.bool ans)∧w'=W:=λW A' c' hB hv hl=>by
  rw[hans];exact refcovers_any A' dA c' dc b.v u W (by omega) hul hv.vec (VecS.vec (show VecS W S2 dA u from RowG.agr hG.deps (Agr.below hB)))
 have HVC:=hid hVC;have HCV:=hid hCV;have HC:=hid (am w (.cells #[t,r,n,.slice dA u.length dc,ut,ur,.slice oA ops.length oc] 45));have HB:=hid hb0;show Calls _ _ #[.pointer (some ⟨P,0,none⟩),.agg #[t,r,n,.slice dA u.length dc,ut,ur,.slice oA ops.length oc]] _ _;clear hVC hCV hG h ho hans hdl hb0;go_enter Tryz.func68,Tryz.ntmps68;go_upto_region 1 with fail;generalize hW:w.alloc (.cells #[t,r,n,.slice dA u.length dc,ut,ur,.slice oA ops.length oc] 45)=W at *;clear hW;have hwW:w.heap.size<W.heap.size:=lt_of_block HC.out;refine aR (S:=λw'=>w'.heap[w.heap.size]? =some (.cells #[t,r,n,.slice dA u.length dc,ut,ur,.slice oA ops.length oc] 45 (0,0))) (by kernel_rfl) ?_
 try(change wpAnyH _ _ _ _ _ _ _ _ (World.drew _))
 refine tk 0 (.pointer (some ⟨P,0,none⟩)) ((show W.drew.heap[w.heap.size]? =_ from HC.out)) ?_;go_simp;refine tk 2 (.pointer (some ⟨w.heap.size,3,none⟩)) ((show W.drew.heap[w.heap.size]? =_ from HC.out)) ?_;go_simp;refine tk2 3 (.slice dA u.length dc) rfl (Or.inl ⟨by rfl,λW' hW'=>by(have c_:W'.cell? ⟨w.heap.size,3,none⟩=some (.slice dA u.length dc):=(by rw[crw hW'];rfl);go_simp)⟩) ((show W.drew.heap[w.heap.size]? =_ from HC.out)) ?_;go_simp;refine rd1 1 λK hK=> ?_;go_simp;have hbd:Below w.heap.size w W.drew:=HB.out.trans ((show Below W.heap.size W W.drew from⟨rfl,rfl,rfl,aa _,λ_ _=>rfl⟩).mono HB.out.size);refine(HVC.out W.drew hbd).mono ?_;rintro e w1 ⟨A1,c1,rfl,hv1,hl1,hB1⟩;have HC1:=hid ((hB1.block w.heap.size hwW).trans (show W.drew.heap[w.heap.size]? =_ from HC.out));have HB1:=hid (hbd.trans (hB1.mono hbd.size));have HV1:=hid hv1;clear hB1 hv1;go_simp;refine hK.out _ _ (HC1.out) (λ_=> ?_);clear hK K;refine rd1 4 λK hK=> ?_;go_simp;refine(HCV.out w1 A1 c1 HB1.out HV1.out hl1).mono ?_;rintro e w2 ⟨rfl,rfl⟩;go_simp;refine hK.out _ _ (HC1.out) (λ_=> ?_);clear hK K;refine tk 5 (.bool ans) HC1.out ?_;go_simp;refine be (by kernel_rfl) ?_ _;go_simp;go_wp2;go_ret;exact⟨rfl,HB1.out⟩
theorem any_at {l:List (Grp×GrX)} {f:Grp->Bool} {k:Nat} (hk:k<l.length) (h:f (l.getD k gp0).1=true):(l.map Prod.fst).any f=true:=by
 rw[dV];refine⟨_,bj.2 ⟨l.getD k gp0,?_,rfl⟩,h⟩;rw[ae,an hk];exact bU hk
theorem any_none {l:List (Grp×GrX)} {f:Grp->Bool} (h:∀k,k<l.length->f (l.getD k gp0).1=false):(l.map Prod.fst).any f=false:=by
 rw[List.any_eq_false];intro x hx e;obtain⟨p,hp,rfl⟩:=bj.1 hx;obtain⟨k,hk,rfl⟩:=List.getElem_of_mem hp;have:=h k hk;rw[ae,an hk] at this;exact absurd e (by simp only[Option.getD_some] at this;rw[this];decide)
theorem rbstale_any {B P:Nat} {S:Nat->Prop} {b:Bx} {X:RbX} {w:World} (h:RbIn B P S b.done b.wait X w) (ho:RbOk b) (g:Grp) (x:GrX):
    Calls Tryz.prog 67 #[.pointer (some ⟨P,0,none⟩),.agg (grA g x.dA x.dc x.oA x.oc)] w λe w'=>e= .returned (.bool (iQ b g))∧Below w.heap.size w w':=by
  obtain⟨⟨t,r⟩,n,u,⟨ut,ur⟩,ops⟩:=g;obtain⟨dA,dc,oA,oc⟩:=x;obtain⟨ans,hans⟩:∃z,z=iQ b ⟨⟨t,r⟩,n,u,⟨ut,ur⟩,ops⟩:=⟨_,rfl⟩;rw[<-hans];obtain⟨old,hold⟩:∃z,z=oldB b.v ⟨⟨t,r⟩,n,u,⟨ut,ur⟩,ops⟩:=⟨_,rfl⟩;obtain⟨z,hz⟩:∃z,z=atV b.v r:=⟨_,rfl⟩;have q1:decide (n<=z)=old:=by rw[hold,hz];rfl
  have HANS:=hid (show ans=((X.L.map Prod.fst).any (λd=>d.s.eqb ⟨t,r⟩) || old || (X.M.map Prod.fst).any (λa=>fB a ⟨⟨t,r⟩,n,u,⟨ut,ur⟩,ops⟩)) by rw[hans,hold,h.dl,h.wl];rfl);have hb0:Below w.heap.size w (w.alloc (.cells #[t,r,n,.slice dA u.length dc,ut,ur,.slice oA ops.length oc] 45)):=(ag _ _).alloc (aa _) _;have hVC:∀W,Below w.heap.size w W->Calls Tryz.prog 35 #[.pointer (some ⟨P,0,none⟩)] W λe w'=>∃A' c',e= .returned (.slice A' b.v.length c')∧VecS w' (λ_=>True) A' b.v∧b.v.length<=16∧Below W.heap.size W w':=λW hB=>rbvec_any (h.below hB) ho;have hAT:∀W A' c',VecS W (λ_=>True) A' b.v->b.v.length<=16->Calls Tryz.prog 55 #[.slice A' b.v.length c',r] W λe w'=>e= .returned (.int .i64 z)∧w'=W:=λW A' c' hv hl=>by
    rw[hz];exact fh A' c' b.v r W (by omega) hv.vec
  have HVC:=hid hVC;have HAT:=hid hAT;have HC:=hid (am w (.cells #[t,r,n,.slice dA u.length dc,ut,ur,.slice oA ops.length oc] 45));have HX:=hid (h.below hb0);have HB:=hid hb0;obtain⟨dA0,dc0,hdv⟩:=bZ h.done;obtain⟨wA0,wc0,hwv⟩:=bZ h.wait;have HDV:=hid hdv;have HWV:=hid hwv;have hLl:X.L.length<=100000:=by have:=ho.len;have:=h.dlen;omega
  have hMl:X.M.length<=100000:=by have:=ho.len;have:=h.wlen;omega
  show Calls _ _ #[.pointer (some ⟨P,0,none⟩),.agg #[t,r,n,.slice dA u.length dc,ut,ur,.slice oA ops.length oc]] _ _;clear hVC hAT h ho hans hold hb0 hz hdv hwv;cases old with
  | true=>
    obtain rfl:ans=true:=by rw[HANS.out];simp
    go_enter Tryz.func67,Tryz.ntmps67;go_upto_region 1 with fail;generalize hW:w.alloc (.cells #[t,r,n,.slice dA u.length dc,ut,ur,.slice oA ops.length oc] 45)=W at *;clear hW;have hwW:w.heap.size<W.heap.size:=lt_of_block HC.out;refine aR (S:=λw'=>w'.heap[w.heap.size]? =some (.cells #[t,r,n,.slice dA u.length dc,ut,ur,.slice oA ops.length oc] 45 (0,0))) (by kernel_rfl) ?_
    try(change wpAnyH _ _ _ _ _ _ _ _ (World.drew _))
    refine tk 0 (.pointer (some ⟨w.heap.size,2,none⟩)) ((show W.drew.heap[w.heap.size]? =_ from HC.out)) ?_;go_simp;refine tk2 1 (.int .i64 n) rfl (Or.inl ⟨by rfl,λW' hW'=>by(have c_:W'.cell? ⟨w.heap.size,2,none⟩=some (.int .i64 n):=(by rw[crw hW'];rfl);go_simp)⟩) ((show W.drew.heap[w.heap.size]? =_ from HC.out)) ?_;go_simp;refine tk 2 (.pointer (some ⟨P,0,none⟩)) ((show W.drew.heap[w.heap.size]? =_ from HC.out)) ?_;go_simp;refine tk 4 (.pointer (some ⟨w.heap.size,0,none⟩)) ((show W.drew.heap[w.heap.size]? =_ from HC.out)) ?_;go_simp;refine tk 5 (.pointer (some ⟨w.heap.size,1,none⟩)) ((show W.drew.heap[w.heap.size]? =_ from HC.out)) ?_;go_simp;refine tk2 6 (.int .i64 r) rfl (Or.inl ⟨by rfl,λW' hW'=>by(have c_:W'.cell? ⟨w.heap.size,1,none⟩=some (.int .i64 r):=(by rw[crw hW'];rfl);go_simp)⟩) ((show W.drew.heap[w.heap.size]? =_ from HC.out)) ?_;go_simp;refine rd1 3 λK hK=> ?_;go_simp;have hbd:Below W.heap.size W W.drew:=⟨rfl,rfl,rfl,aa _,λ_ _=>rfl⟩;refine(HVC.out W.drew (HB.out.trans (hbd.mono HB.out.size))).mono ?_;rintro e w1 ⟨A1,c1,rfl,hv1,hl1,hB1⟩;have HW1:=hid (hbd.trans hB1);have HC1:=hid ((HW1.out.block w.heap.size hwW).trans HC.out);have HB1:=bT HB HW1.out;have HV1:=hid hv1;clear hB1 hv1 hbd;go_simp;refine hK.out _ _ (HC1.out) (λ_=> ?_);clear hK K;refine rd1 7 λK hK=> ?_;go_simp;refine(HAT.out w1 A1 c1 HV1.out hl1).mono ?_;rintro e w2 ⟨rfl,hw2⟩;replace hw2:=hw2.symm;subst hw2;go_simp;refine hK.out _ _ (HC1.out) (λ_=> ?_);clear hK K
    refine tk 8 (.bool true) (HC1.out) ?_;go_simp;refine be (by kernel_rfl) ?_ _;go_simp;go_wp2;go_ret;exact⟨rfl,HB1.out⟩
  | false =>
    go_enter Tryz.func67,Tryz.ntmps67;go_upto_region 1 with fail;generalize hW:w.alloc (.cells #[t,r,n,.slice dA u.length dc,ut,ur,.slice oA ops.length oc] 45)=W at *;clear hW;have hwW:w.heap.size<W.heap.size:=lt_of_block HC.out;refine aR (S:=λw'=>w'.heap[w.heap.size]? =some (.cells #[t,r,n,.slice dA u.length dc,ut,ur,.slice oA ops.length oc] 45 (0,0))) (by kernel_rfl) ?_
    try(change wpAnyH _ _ _ _ _ _ _ _ (World.drew _))
    refine tk 0 (.pointer (some ⟨w.heap.size,2,none⟩)) ((show W.drew.heap[w.heap.size]? =_ from HC.out)) ?_;go_simp;refine tk2 1 (.int .i64 n) rfl (Or.inl ⟨by rfl,λW' hW'=>by(have c_:W'.cell? ⟨w.heap.size,2,none⟩=some (.int .i64 n):=(by rw[crw hW'];rfl);go_simp)⟩) ((show W.drew.heap[w.heap.size]? =_ from HC.out)) ?_;go_simp;refine tk 2 (.pointer (some ⟨P,0,none⟩)) ((show W.drew.heap[w.heap.size]? =_ from HC.out)) ?_;go_simp;refine tk 4 (.pointer (some ⟨w.heap.size,0,none⟩)) ((show W.drew.heap[w.heap.size]? =_ from HC.out)) ?_;go_simp;refine tk 5 (.pointer (some ⟨w.heap.size,1,none⟩)) ((show W.drew.heap[w.heap.size]? =_ from HC.out)) ?_;go_simp;refine tk2 6 (.int .i64 r) rfl (Or.inl ⟨by rfl,λW' hW'=>by(have c_:W'.cell? ⟨w.heap.size,1,none⟩=some (.int .i64 r):=(by rw[crw hW'];rfl);go_simp)⟩) ((show W.drew.heap[w.heap.size]? =_ from HC.out)) ?_;go_simp;refine rd1 3 λK hK=> ?_;go_simp;have hbd:Below W.heap.size W W.drew:=⟨rfl,rfl,rfl,aa _,λ_ _=>rfl⟩;refine(HVC.out W.drew (HB.out.trans (hbd.mono HB.out.size))).mono ?_;rintro e w1 ⟨A1,c1,rfl,hv1,hl1,hB1⟩;have HW1:=hid (hbd.trans hB1);have HC1:=hid ((HW1.out.block w.heap.size hwW).trans HC.out);have HB1:=bT HB HW1.out;have HV1:=hid hv1;clear hB1 hv1 hbd;go_simp;refine hK.out _ _ (HC1.out) (λ_=> ?_);clear hK K;refine rd1 7 λK hK=> ?_;go_simp;refine(HAT.out w1 A1 c1 HV1.out hl1).mono ?_;rintro e w2 ⟨rfl,hw2⟩;replace hw2:=hw2.symm;subst hw2;go_simp;refine hK.out _ _ (HC1.out) (λ_=> ?_);clear hK K
    refine tk 8 (.bool false) (HC1.out) ?_;go_simp;refine be (by kernel_rfl) ?_ _;go_simp;go_upto_region 4 with(fail);have HX1:=hid ((HX.out.below HW1.out));go_loopw [5] (λi wr=>∃k:Nat,i= .int .i64 k∧k<=X.M.length∧Hid (Below w1.heap.size w1 wr)∧Hid (∀j,j<k->fB (X.M.getD j gp0).1 ⟨⟨t,r⟩,n,u,⟨ut,ur⟩,ops⟩=false)) (λi _=>X.M.length-(RowKit.intOf i).toNat)
    case atStart=>exact⟨0,rfl,aq _,hid (ag _ _),hid (λj hj=>absurd hj (cG j))⟩
    case round=>
      obtain⟨k,rfl,hk,HBr,HK⟩:=hrel;have HXr:=hid (HX1.out.below HBr.out);have HBw:=bT HB1 HBr.out;have HCr:=bK HBr.out HC1;have p1:wr.cell? ⟨P,1,none⟩=some (.slice wA0 X.M.length wc0):=by rw[HXr.out.cell,HWV.out];rfl
      by_cases hlt:k<X.M.length
      · have i0 : (0:Int)<=(k:Int):=by omega
        have i1:(k:Int)<(X.M.length:Int):=by omega
        have hrow:=HXr.out.wait;rw[HWV.out] at hrow;obtain⟨rb,ro,hwA,hrb,hrange⟩:=RowGr.range (RowGr.own hrow) hlt;subst hwA;obtain⟨cl,hcl⟩:∃z,z=fB (X.M.getD k gp0).1 ⟨⟨t,r⟩,n,u,⟨ut,ur⟩,ops⟩:=⟨_,rfl⟩;have HCL:=hid hcl;generalize X.M.getD k gp0=p at hcl hrange;obtain⟨⟨⟨t2,r2⟩,n2,dv,⟨ut2,ur2⟩,ops2⟩,⟨dA2,dc2,oA2,oc2⟩⟩:=p;obtain⟨b1,h1⟩:∃b,b=decide (r2=r):=⟨_,rfl⟩;obtain⟨b2,h2⟩:∃b,b=decide (n2=n):=⟨_,rfl⟩;obtain⟨b3,h3⟩:∃b,Gst.eqb ⟨t2,r2⟩ ⟨t,r⟩=b:=⟨_,rfl⟩;have k1:(r2 == r)=b1:=by rw[h1];rfl
        have k2:(n2 == n)=b2:=by rw[h2];rfl
        have k3:=eq_st t2 r2 t r b3 h3;have HCB:=hid (show cl=((b1 && b2) || b3) by rw[hcl,h1,h2,<-h3];rfl);have x0:=rg0 HCr.out;have x1:=rg1 HCr.out;have x2:=rg2 HCr.out;have y0:=aj (w:=wr) (a:=⟨rb,ro+k*7,none⟩) (v:= .int .i64 t2) (hrange 0 _ rfl);have y1:=aj (w:=wr) (a:=⟨rb,ro+k*7+1,none⟩) (v:= .int .i64 r2) (hrange 1 _ rfl);have y2:=aj (w:=wr) (a:=⟨rb,ro+k*7+2,none⟩) (v:= .int .i64 n2) (hrange 2 _ rfl);have yp:=aj p1;have hMK:X.M.length<=9223372036854775807:=by omega
        clear h1 h2 h3 hcl hrange hrow;cases b1
        all_goals
          cases b2
          all_goals
            cases b3
            all_goals
              go_upto_region 6 with(fail);refine rqb ?_
              repeat(any_goals(first|go_big_quiet_step (fail)|quiet_step (fail)))
              refine qz λwq hBq=> ?_
              first
                | (obtain rfl:cl=true:=HCB.out
                   obtain rfl:ans=true:=by rw[HANS.out,any_at hlt HCL.out.symm];simp
                   go_wp2;go_ret
                   exact⟨rfl,HBw.out.trans (hBq.mono HBw.out.size)⟩)
                | (obtain rfl:cl=false:=HCB.out
                   go_wp2;go_roundw;(case rel=>exact⟨k+1,by go_num,by omega,bT HBr hBq,hid (λj hj=>by by_cases e:j=k;(rw[e];exact HCL.out.symm);exact HK.out j (by omega))⟩)
                   (case measure=>(simp[RowKit.intOf];omega)))
      · obtain rfl:k=X.M.length:=by omega
        have i1:¬(X.M.length:Int)<(X.M.length:Int):=by omega
        have HNW:=hid (any_none (f:=λa=>fB a ⟨⟨t,r⟩,n,u,⟨ut,ur⟩,ops⟩) HK.out);have HXr2:=HXr;have HCr2:=HCr;have HBw2:=HBw;clear HX1 HC1 HB1 HK HBr;go_upto_region 9 with(fail);generalize wr=w2 at *;go_loopw [6] (λi wr=>∃k:Nat,i= .int .i64 k∧k<=X.L.length∧Hid (Below w2.heap.size w2 wr)∧Hid (∀j,j<k->(X.L.getD j gp0).1.s.eqb ⟨t,r⟩=false)) (λi _=>X.L.length-(RowKit.intOf i).toNat)
        case atStart=>exact⟨0,rfl,aq _,hid (ag _ _),hid (λj hj=>absurd hj (cG j))⟩
        case round=>
          obtain⟨k,rfl,hk,HBr,HK⟩:=hrel;have HXr:=hid (HXr2.out.below HBr.out);have HBw:=bT HBw2 HBr.out;have HCr:=bK HBr.out HCr2;have p1:wr.cell? ⟨P,0,none⟩=some (.slice dA0 X.L.length dc0):=by rw[HXr.out.cell,HDV.out];rfl
          by_cases hlt:k<X.L.length
          · have i0:(0:Int)<=(k:Int):=by omega
            have i1:(k:Int)<(X.L.length:Int):=by omega
            have hrow:=HXr.out.done;rw[HDV.out] at hrow;obtain⟨rb,ro,hwA,hrb,hrange⟩:=RowGr.range (RowGr.own hrow) hlt;subst hwA;obtain⟨cl,hcl⟩:∃z,z=(X.L.getD k gp0).1.s.eqb ⟨t,r⟩:=⟨_,rfl⟩;have HCL:=hid hcl;generalize X.L.getD k gp0=p at hcl hrange;obtain⟨⟨⟨t2,r2⟩,n2,dv,⟨ut2,ur2⟩,ops2⟩,⟨dA2,dc2,oA2,oc2⟩⟩:=p;have k3:=eq_st t2 r2 t r cl hcl.symm;have x0:=rg0 HCr.out;have x1:=rg1 HCr.out;have y0:=aj (w:=wr) (a:=⟨rb,ro+k*7,none⟩) (v:= .int .i64 t2) (hrange 0 _ rfl);have y1:=aj (w:=wr) (a:=⟨rb,ro+k*7+1,none⟩) (v:= .int .i64 r2) (hrange 1 _ rfl);have yp:=aj p1;clear hcl hrange hrow;cases cl with
            | true=>
              obtain rfl:ans=true:=by rw[HANS.out,any_at (f:=λd=>d.s.eqb ⟨t,r⟩) hlt HCL.out.symm];simp
              go_upto_region 11 with(fail);refine rqb ?_
              repeat(any_goals(first|go_big_quiet_step (fail)|quiet_step (fail)))
              refine qz λwq hBq=> ?_;go_wp2;go_ret;exact⟨rfl,HBw.out.trans (hBq.mono HBw.out.size)⟩
            | false=>
              go_upto_region 11 with(fail);refine rqb ?_
              repeat(any_goals(first|go_big_quiet_step (fail)|quiet_step (fail)))
              refine qz λwq hBq=> ?_;go_wp2;go_roundw
              case rel=>exact⟨k+1,by go_num,by omega,bT HBr hBq,hid (λj hj=>by by_cases e:j=k;(rw[e];exact HCL.out.symm);exact HK.out j (by omega))⟩
              case measure=>(simp[RowKit.intOf];omega)
          · obtain rfl:k=X.L.length:=by omega
            have i1:¬(X.L.length:Int)<(X.L.length:Int):=by omega
            obtain rfl:ans=false:=by rw[HANS.out,HNW.out,any_none (f:=λd=>d.s.eqb ⟨t,r⟩) HK.out];rfl
            go_wp2;go_ret;exact⟨rfl,HBw.out⟩
end
end Go.Proofs.YtkhmicndehlneaaGreatDoor
