/- Part 12 of the walks and plain laws that this claim uses, joined. Conditions: as each theorem states. -/
import Derived.ChangeSame
import Derived.Deep.Slices
import Derived.SizedLaws
import Derived.Test.YtkhmicndehlneaaGreatDoorYhk
namespace Go.Proofs.YtkhmicndehlneaaGreatDoor
set_option maxRecDepth 100000
set_option maxHeartbeats 16000000
set_option linter.unusedVariables false
section
section
open Go.RowKit Go.Lib Go.Sort
def kw (u v:List Gst):Bool:=decide (u.length=v.length) && i8 u.length (λi=>(u.getD i .zero).eqb (v.getD i .zero))
theorem sameSt_iff {u v:List Gst}:kw u v=true↔u=v:=by
 unfold kw;rw[ap,ak];refine⟨λ⟨h1,h2⟩=>List.ext_getElem h1 λi hi hj=> ?_,λh=>⟨by rw[h],ed λi _=>by rw[h,Gst.eqb_iff]⟩⟩;have:=jz h2 i hi;rw[Gst.eqb_iff,ae,ae,an hi,an hj] at this;exact this
theorem sames_any (A B:Option Addr) (c d:Nat) (u v:List Gst) (S T:Nat->Prop) (w:World) (hl:u.length<=9223372036854775807) (hA:StsS w S A u) (hB:StsS w T B v):
  Calls Tryz.prog 140 #[.slice A u.length c,.slice B v.length d] w λe w'=>e= .returned (.bool (kw u v))∧Below w.heap.size w w':=by
 have HA:=hid hA;have HB:=hid hB;obtain⟨n,hn⟩:∃n,n=u.length:=⟨_,rfl⟩;obtain⟨m,hm⟩:∃m,m=v.length:=⟨_,rfl⟩;obtain⟨r,hr⟩:∃r,r=kw u v:=⟨_,rfl⟩;rw[<-hr];rw[<-hn] at hl ⊢;rw[<-hm];have HN:=hid hn;have HM:=hid hm;have HV:=hid hr;clear hn hm hr hA hB;by_cases hnm:n=m
 ·subst hnm;go_enter Tryz.func140,Tryz.ntmps140;go_wp2;go_loopw [5] (λi wr=>∃k:Nat,k<=n∧i= .int .i64 k∧Below w.heap.size w wr∧Hid (∀i,i<k->(u.getD i .zero).eqb (v.getD i .zero)=true)) (λi _=>n-(RowKit.intOf i).toNat)
  case atStart=>exact⟨0,by omega,rfl,ag _ _,λi hi=>absurd hi (by omega)⟩
  case round=>
   obtain⟨k,hk,rfl,hBr,HK⟩:=hrel;by_cases hlt:k<n
   ·obtain⟨ab,ao,rfl,-,hab,c0,c1⟩:=StsS.at_ (RowG.agr HA.out (Agr.below hBr)) (k:=k) (by have:=HN.out;omega);obtain⟨bb,bo,rfl,-,hbb,d0,d1⟩:=StsS.at_ (RowG.agr HB.out (Agr.below hBr)) (k:=k) (by have:=HM.out;omega);have hx:∃x,x=u.getD k .zero:=⟨_,rfl⟩;obtain⟨x,hx⟩:=hx;obtain⟨y,hy⟩:∃y,y=v.getD k .zero:=⟨_,rfl⟩;rw[<-hx] at c0 c1;rw[<-hy] at d0 d1;cases hxy:x.eqb y with
    | true=>
     have HK2:Hid (∀i,i<k+1->(u.getD i .zero).eqb (v.getD i .zero)=true):=λi hi=>by
      rcases cj i k with h|h
      ·exact HK.out i h
      ·obtain rfl:i=k:=by omega
       rw[<-hx,<-hy,hxy]
     clear hx hy;obtain⟨xt,xr⟩:=x;obtain⟨yt,yr⟩:=y;simp only at c0 c1 d0 d1;have hne:=ne_st xt xr yt yr true hxy;clear hxy;go_wp2;go_quiet (fail);go_wp2;go_roundw
     case rel=>exact⟨k+1,by omega,by go_num,jy hBr _,HK2⟩
     case measure=>simp[RowKit.intOf];omega
    | false=>
     have hr:r=false:=by
      rw[HV.out];unfold kw;rw[fl (by rw[<-HN.out];exact hlt) (by rw[<-hx,<-hy];exact hxy),bc]
     subst hr;clear hx hy;obtain⟨xt,xr⟩:=x;obtain⟨yt,yr⟩:=y;simp only at c0 c1 d0 d1;have hne:=ne_st xt xr yt yr false hxy;clear hxy;go_wp2;go_quiet (fail);go_wp2;go_ret;exact⟨rfl,jy hBr _⟩
   ·obtain rfl:k=n:=by omega
    have hr:r=true:=by
     rw[HV.out];unfold kw;rw[ed (by rw[<-HN.out];exact HK.out),aN (by rw[<-HN.out,<-HM.out]),Bool.and_self]
    subst hr;go_wp2;go_ret;exact⟨rfl,hBr⟩
 ·have t1:((n:Int) != (m:Int))=true:=by rw[eM];omega
  have hr:r=false:=by
   rw[HV.out];unfold kw;rw[aE (by rw[<-HN.out,<-HM.out];exact hnm),ba]
  subst hr;go_enter Tryz.func140,Tryz.ntmps140;go_wp2;go_ret;exact⟨rfl,ag _ _⟩
def kx (u v:List Gid):Bool:=decide (u.length=v.length) && i8 u.length (λi=>(u.getD i .zero).eqb (v.getD i .zero))
theorem sameId_iff {u v:List Gid}:kx u v=true↔u=v:=by
 unfold kx;rw[ap,ak];refine⟨λ⟨h1,h2⟩=>List.ext_getElem h1 λi hi hj=> ?_,λh=>⟨by rw[h],ed λi _=>by rw[h,Gid.eqb_iff]⟩⟩;have:=jz h2 i hi;rw[Gid.eqb_iff,ae,ae,an hi,an hj] at this;exact this
theorem sameids_any (A B:Option Addr) (c d:Nat) (u v:List Gid) (S T:Nat->Prop) (w:World) (hl:u.length<=9223372036854775807) (hA:IdsS w S A u) (hB:IdsS w T B v):
  Calls Tryz.prog 141 #[.slice A u.length c,.slice B v.length d] w λe w'=>e= .returned (.bool (kx u v))∧Below w.heap.size w w':=by
 have HA:=hid hA;have HB:=hid hB;obtain⟨n,hn⟩:∃n,n=u.length:=⟨_,rfl⟩;obtain⟨m,hm⟩:∃m,m=v.length:=⟨_,rfl⟩;obtain⟨r,hr⟩:∃r,r=kx u v:=⟨_,rfl⟩;rw[<-hr];rw[<-hn] at hl ⊢;rw[<-hm];have HN:=hid hn;have HM:=hid hm;have HV:=hid hr;clear hn hm hr hA hB;by_cases hnm:n=m
 ·subst hnm;go_enter Tryz.func141,Tryz.ntmps141;go_wp2;go_loopw [5] (λi wr=>∃k:Nat,k<=n∧i= .int .i64 k∧Below w.heap.size w wr∧Hid (∀i,i<k->(u.getD i .zero).eqb (v.getD i .zero)=true)) (λi _=>n-(RowKit.intOf i).toNat)
  case atStart=>exact⟨0,by omega,rfl,ag _ _,λi hi=>absurd hi (by omega)⟩
  case round=>
   obtain⟨k,hk,rfl,hBr,HK⟩:=hrel;by_cases hlt:k<n
   ·obtain⟨ab,ao,rfl,-,hab,c0,c1,c2⟩:=IdsS.at_ (RowG.agr HA.out (Agr.below hBr)) (k:=k) (by have:=HN.out;omega);obtain⟨bb,bo,rfl,-,hbb,d0,d1,d2⟩:=IdsS.at_ (RowG.agr HB.out (Agr.below hBr)) (k:=k) (by have:=HM.out;omega);have hx:∃x,x=u.getD k .zero:=⟨_,rfl⟩;obtain⟨x,hx⟩:=hx;obtain⟨y,hy⟩:∃y,y=v.getD k .zero:=⟨_,rfl⟩;rw[<-hx] at c0 c1 c2;rw[<-hy] at d0 d1 d2;cases hxy:x.eqb y with
    | true=>
     have HK2:Hid (∀i,i<k+1->(u.getD i .zero).eqb (v.getD i .zero)=true):=λi hi=>by
      rcases cj i k with h|h
      ·exact HK.out i h
      ·obtain rfl:i=k:=by omega
       rw[<-hx,<-hy,hxy]
     clear hx hy;obtain⟨⟨xt,xr⟩,xi⟩:=x;obtain⟨⟨yt,yr⟩,yi⟩:=y;simp only at c0 c1 c2 d0 d1 d2;have hne:=ne_id xt xr xi yt yr yi true hxy;clear hxy;go_wp2;go_quiet (fail);go_wp2;go_roundw
     case rel=>exact⟨k+1,by omega,by go_num,jy hBr _,HK2⟩
     case measure=>simp[RowKit.intOf];omega
    | false=>
     have hr:r=false:=by
      rw[HV.out];unfold kx;rw[fl (by rw[<-HN.out];exact hlt) (by rw[<-hx,<-hy];exact hxy),bc]
     subst hr;clear hx hy;obtain⟨⟨xt,xr⟩,xi⟩:=x;obtain⟨⟨yt,yr⟩,yi⟩:=y;simp only at c0 c1 c2 d0 d1 d2;have hne:=ne_id xt xr xi yt yr yi false hxy;clear hxy;go_wp2;go_quiet (fail);go_wp2;go_ret;exact⟨rfl,jy hBr _⟩
   ·obtain rfl:k=n:=by omega
    have hr:r=true:=by
     rw[HV.out];unfold kx;rw[ed (by rw[<-HN.out];exact HK.out),aN (by rw[<-HN.out,<-HM.out]),Bool.and_self]
    subst hr;go_wp2;go_ret;exact⟨rfl,hBr⟩
 ·have t1:((n:Int) != (m:Int))=true:=by rw[eM];omega
  have hr:r=false:=by
   rw[HV.out];unfold kx;rw[aE (by rw[<-HN.out,<-HM.out];exact hnm),ba]
  subst hr;go_enter Tryz.func141,Tryz.ntmps141;go_wp2;go_ret;exact⟨rfl,ag _ _⟩
end
section
open Go.RowKit Go.Lib Go.Sort
section
variable {P : Program} {ops : Array Oper} {rest : List Oper} {o : Oper} {a : Act} {C : World → Prop}
theorem eI {Q:Act->Prop} (hw:Region.wanted o (yielded ops a.tmps)=true) (ty:TypeId) (x:Operand) (ho:o.op= .load ty x) (b q:Nat) (hx:a.eval x= .pointer (some ⟨b,q,none⟩)) (cs:List Value) (d:TypeDesc) (hC:∀w,C w->w.rangeAt b q cs)
  (hu:P.underlying ty=some d) (hd:d.isRow=true) (hi:(P.info? ty).map (·.size)=some cs.length) (h:wpQuiet P ops C Q rest (a.put o.dst (.agg cs.toArray))):wpQuiet P ops C Q (o::rest) a:=by
 unfold wpQuiet;rw[aJ hw];refine⟨.agg cs.toArray,λw hw'=> ?_,h⟩;unfold Oper.quietAt execOp;simp only[ho,hx,Instr.loadAt,Instr.sureAddr,Sem.run_bind,Sem.run_pure,Result.andThen_ok,run_loadVar_mid w b q ty cs d (hC w hw') hu hd hi];exact⟨rfl,rfl⟩
end
def opL (o:Gop) (x:OpX):List Value:=
 [.int .i64 o.kind,.int .i64 o.node.s.t,.int .i64 o.node.s.r,.int .i64 o.node.i,.int .i64 o.parent.s.t,.int .i64 o.parent.s.r,.int .i64 o.parent.i,.string o.name,.bool o.dir,.slice x.dA o.dots.length x.dc,
  .int .i64 o.after.s.t,.int .i64 o.after.s.r,.int .i64 o.after.i,.int .i64 o.elem.s.t,.int .i64 o.elem.s.r,.int .i64 o.elem.i,.string o.text,.slice x.eA o.elems.length x.ec]
theorem jw {w:World} {b q:Nat} {o:Gop} {x:OpX} (hc:∀j,j<18->w.cell? ⟨b,q+j,none⟩=some ((opA o x).getD j undef)):w.rangeAt b q (opL o x):=λj v hv=>by
 have hj:j<18:=by
  have:=(ep.1 hv).1;exact this
 rw[hc j hj];congr 1;have e:(opA o x).getD j undef=(opL o x).getD j undef:=by
  rw[Array.getD_eq_getD_getElem?,ae];show((opL o x).toArray)[j]?.getD undef=_;rw[List.getElem?_toArray]
 rw[e,ae,hv];rfl
theorem eT {W:World} {b q:Nat} {cs:List Value} (h:W.rangeAt b q cs):∀w,(∃p:Regrown,w=grow (redrawn W p.d) p.os)->w.rangeAt b q cs:=by
 rintro w ⟨p,rfl⟩ j v hv;exact aj (h j v hv) _ _
end
section
open Go.RowKit Go.Lib Go.Sort
attribute [local go_sem ↓] Go.wp_at_zero Go.wp_at_succ
def jv (a b:Gop):Bool:=decide (a.kind=b.kind) && a.node.eqb b.node && a.parent.eqb b.parent && decide (a.name=b.name) && decide (a.dir=b.dir) && a.after.eqb b.after && a.elem.eqb b.elem && decide (a.text=b.text) && kw a.dots b.dots && kx a.elems b.elems
theorem sameOp_iff {a b:Gop}:jv a b=true↔a=b:=by
 obtain⟨a1,a2,a3,a4,a5,a6,a7,a8,a9,a10⟩:=a;obtain⟨b1,b2,b3,b4,b5,b6,b7,b8,b9,b10⟩:=b;simp only[jv,ap,ak,Gid.eqb_iff,sameSt_iff,sameId_iff,Gop.mk.injEq];constructor
 ·rintro⟨⟨⟨⟨⟨⟨⟨⟨⟨h1,h2⟩,h3⟩,h4⟩,h5⟩,h7⟩,h8⟩,h9⟩,h6⟩,h10⟩;exact⟨h1,h2,h3,h4,h5,h6,h7,h8,h9,h10⟩
 ·rintro⟨h1,h2,h3,h4,h5,h6,h7,h8,h9,h10⟩;exact⟨⟨⟨⟨⟨⟨⟨⟨⟨h1,h2⟩,h3⟩,h4⟩,h5⟩,h7⟩,h8⟩,h9⟩,h6⟩,h10⟩
theorem beq_of {α:Type} [DecidableEq α] {a b:α} {v:Bool} (h:decide (a=b)=v):(a == b)=v:=h
theorem beq_str {a b:ByteArray} {v:Bool} (h:decide (a=b)=v):(a.toList == b.toList)=v:=by
 rw[<-h,bw,ce,ak,eS,eS];exact⟨λe=>fD (eH.1 e),λe=>by rw[e]⟩
theorem sameop_any (o1 o2:Gop) (x1 x2:OpX) (S1 S2:Nat->Prop) (w:World) (hI1:OpIn w S1 o1 x1) (hI2:OpIn w S2 o2 x2):
  Calls Tryz.prog 86 #[.agg (opA o1 x1),.agg (opA o2 x2)] w λe w'=>e= .returned (.bool (jv o1 o2))∧Below w.heap.size w w':=by
 obtain⟨kind1,⟨⟨nt1,nr1⟩,ni1⟩,⟨⟨pt1,pr1⟩,pi1⟩,name1,dir1,dots1,⟨⟨at1,ar1⟩,ai1⟩,⟨⟨et1,er1⟩,ei1⟩,text1,elems1⟩:=o1;obtain⟨kind2,⟨⟨nt2,nr2⟩,ni2⟩,⟨⟨pt2,pr2⟩,pi2⟩,name2,dir2,dots2,⟨⟨at2,ar2⟩,ai2⟩,⟨⟨et2,er2⟩,ei2⟩,text2,elems2⟩:=o2;obtain⟨xd1,xdc1,xe1,xec1⟩:=x1;obtain⟨xd2,xdc2,xe2,xec2⟩:=x2;have hd1:dots1.length<=9223372036854775807:=by have:=hI1.dle;have:=hI1.dmax;unfold maxLen at this;simp only at *;omega
 have he1:elems1.length<=9223372036854775807:=by have:=hI1.ele;have:=hI1.emax;unfold maxLen at this;simp only at *;omega
 obtain⟨b0,h0⟩:∃b,decide (kind1=kind2)=b:=⟨_,rfl⟩;have q0:=beq_of h0;obtain⟨b1,h1⟩:∃b,Gid.eqb ⟨⟨nt1,nr1⟩,ni1⟩ ⟨⟨nt2,nr2⟩,ni2⟩=b:=⟨_,rfl⟩;have q1:=eJ nt1 nr1 ni1 nt2 nr2 ni2 b1 h1;obtain⟨b2,h2⟩:∃b,Gid.eqb ⟨⟨pt1,pr1⟩,pi1⟩ ⟨⟨pt2,pr2⟩,pi2⟩=b:=⟨_,rfl⟩;have q2:=eJ pt1 pr1 pi1 pt2 pr2 pi2 b2 h2;obtain⟨b3,h3⟩:∃b,decide (name1=name2)=b:=⟨_,rfl⟩;have q3:=beq_str h3;obtain⟨b4,h4⟩:∃b,decide (dir1=dir2)=b:=⟨_,rfl⟩;have q4:=beq_of h4;obtain⟨b5,h5⟩:∃b,Gid.eqb ⟨⟨at1,ar1⟩,ai1⟩ ⟨⟨at2,ar2⟩,ai2⟩=b:=⟨_,rfl⟩;have q5:=eJ at1 ar1 ai1 at2 ar2 ai2 b5 h5;obtain⟨b6,h6⟩:∃b,Gid.eqb ⟨⟨et1,er1⟩,ei1⟩ ⟨⟨et2,er2⟩,ei2⟩=b:=⟨_,rfl⟩;have q6:=eJ et1 er1 ei1 et2 er2 ei2 b6 h6;obtain⟨b7,h7⟩:∃b,decide (text1=text2)=b:=⟨_,rfl⟩;have q7:=beq_str h7;obtain⟨b8,h8⟩:∃b,b=kw dots1 dots2:=⟨_,rfl⟩;obtain⟨b9,h9⟩:∃b,b=kx elems1 elems2:=⟨_,rfl⟩;obtain⟨ans,hans⟩:∃a,a=jv ⟨kind1,⟨⟨nt1,nr1⟩,ni1⟩,⟨⟨pt1,pr1⟩,pi1⟩,name1,dir1,dots1,⟨⟨at1,ar1⟩,ai1⟩,⟨⟨et1,er1⟩,ei1⟩,text1,elems1⟩ ⟨kind2,⟨⟨nt2,nr2⟩,ni2⟩,⟨⟨pt2,pr2⟩,pi2⟩,name2,dir2,dots2,⟨⟨at2,ar2⟩,ai2⟩,⟨⟨et2,er2⟩,ei2⟩,text2,elems2⟩:=⟨_,rfl⟩;rw[<-hans];have HANS:=hid (show ans=(b0 && b1 && b2 && b3 && b4 && b5 && b6 && b7 && b8 && b9) by rw[hans,<-h0,<-h1,<-h2,<-h3,<-h4,<-h5,<-h6,<-h7,h8,h9];rfl);have hD:∀W,Below w.heap.size w W->Calls Tryz.prog 140 #[.slice xd1 dots1.length xdc1,.slice xd2 dots2.length xdc2] W λe w'=>e= .returned (.bool b8)∧Below W.heap.size W w':=λW hB=>by
  rw[h8];exact sames_any xd1 xd2 xdc1 xdc2 dots1 dots2 S1 S2 W hd1 (RowG.agr hI1.dots (Agr.below hB)) (RowG.agr hI2.dots (Agr.below hB))
 have hE:∀W,Below w.heap.size w W->Calls Tryz.prog 141 #[.slice xe1 elems1.length xec1,.slice xe2 elems2.length xec2] W λe w'=>e= .returned (.bool b9)∧Below W.heap.size W w':=λW hB=>by
  rw[h9];exact sameids_any xe1 xe2 xec1 xec2 elems1 elems2 S1 S2 W he1 (RowG.agr hI1.elems (Agr.below hB)) (RowG.agr hI2.elems (Agr.below hB))
 have HD:=hid hD;have HE:=hid hE;clear hD hE hans h0 h1 h2 h3 h4 h5 h6 h7 h8 h9 hI1 hI2;have HB2:=hid (show Below w.heap.size w ((w.alloc (.cells #[kind1,nt1,nr1,ni1,pt1,pr1,pi1,name1,dir1,.slice xd1 dots1.length xdc1,at1,ar1,ai1,et1,er1,ei1,text1,.slice xe1 elems1.length xec1] 125)).alloc (.cells #[kind2,nt2,nr2,ni2,pt2,pr2,pi2,name2,dir2,.slice xd2 dots2.length xdc2,at2,ar2,ai2,et2,er2,ei2,text2,.slice xe2 elems2.length xec2] 125)) from((ag _ _).alloc (aa _) _).alloc (by simp) _);show Calls _ _ #[.agg #[kind1,nt1,nr1,ni1,pt1,pr1,pi1,name1,dir1,.slice xd1 dots1.length xdc1,at1,ar1,ai1,et1,er1,ei1,text1,.slice xe1 elems1.length xec1],.agg #[kind2,nt2,nr2,ni2,pt2,pr2,pi2,name2,dir2,.slice xd2 dots2.length xdc2,at2,ar2,ai2,et2,er2,ei2,text2,.slice xe2 elems2.length xec2]] _ _;go_enter Tryz.func86,Tryz.ntmps86
 go_wp2_with (first
  |(go_at_call 140;refine(HD.out _ HB2.out).mono ?_;rintro e w3 ⟨rfl,hB3⟩;have HB3:=bT HB2 hB3;have a17:w3.cell? ⟨w.heap.size,17,none⟩=some (.slice xe1 elems1.length xec1):=(hB3.cell (by simp;omega)).trans (by go_simp);have b17:w3.cell? ⟨w.heap.size+1,17,none⟩=some (.slice xe2 elems2.length xec2):=(hB3.cell (by simp)).trans (by go_simp);clear hB3)
  |(go_at_call 141;refine(HE.out _ HB3.out).mono ?_;rintro e w4 ⟨rfl,hB4⟩;have HB4:=bT HB3 hB4;clear hB4))
 all_goals
  go_ret;refine⟨dk (by rw[HANS.out];simp[*]),?_⟩
  first|exact HB4.out|exact HB3.out|exact HB2.out
end
section
open Go.RowKit Go.Lib Go.Sort
attribute [local go_sem ↓] Go.wp_at_zero Go.wp_at_succ
def sameOps (a b:List Gop):Bool:=decide (a.length=b.length) && i8 a.length (λi=>jv (a.getD i (opO 0 .zero)) (b.getD i (opO 0 .zero)))
theorem sameOps_iff {u v:List Gop}:sameOps u v=true↔u=v:=by
 unfold sameOps;rw[ap,ak];refine⟨λ⟨h1,h2⟩=>List.ext_getElem h1 λi hi hj=> ?_,λh=>⟨by rw[h],ed λi _=>by rw[h,sameOp_iff]⟩⟩;have:=jz h2 i hi;rw[sameOp_iff,ae,ae,an hi,an hj] at this;exact this
def sameG (a b:Grp):Bool:=a.s.eqb b.s && decide (a.n=b.n) && decide (a.deps=b.deps) && a.u.eqb b.u && sameOps a.ops b.ops
theorem sameG_iff {a b:Grp}:sameG a b=true↔a=b:=by
 obtain⟨a1,a2,a3,a4,a5⟩:=a;obtain⟨b1,b2,b3,b4,b5⟩:=b;simp only[sameG,ap,ak,Gst.eqb_iff,sameOps_iff,Grp.mk.injEq];constructor
 ·rintro⟨⟨⟨⟨h1,h2⟩,h3⟩,h4⟩,h5⟩;exact⟨h1,h2,h3,h4,h5⟩
 ·rintro⟨h1,h2,h3,h4,h5⟩;exact⟨⟨⟨⟨h1,h2⟩,h3⟩,h4⟩,h5⟩
theorem sameg_loop (t1 r1 n1:Int) (v1:List Int) (ut1 ur1:Int) (ops1:List Gop) (t2 r2 n2:Int) (v2:List Int) (ut2 ur2:Int) (ops2:List Gop) (dA1 dA2 oA1 oA2:Option Addr) (dc1 dc2 oc1 oc2:Nat) (S1 S2:Nat->Prop) (w:World) (ans:Bool)
  (q0:∀w,(binOp .neq 42 (.agg #[t1,r1]) (.agg #[t2,r2])).run Tryz.prog w= .ok (.bool !true) w) (e1:(n1 != n2)=false)
  (q3:∀w,(binOp .neq 42 (.agg #[ut1,ur1]) (.agg #[ut2,ur2])).run Tryz.prog w= .ok (.bool !true) w) (hv1:v1.length<=9223372036854775807) (ho1:ops1.length<=9223372036854775807) (hl0:ops1.length=ops2.length)
  (hans:ans=i8 ops1.length (λi=>jv (ops1.getD i (opO 0 .zero)) (ops2.getD i (opO 0 .zero))))
  (hD:∀W,Below w.heap.size w W->Calls Tryz.prog 29 #[.slice dA1 v1.length dc1,.slice dA2 v2.length dc2] W λe w'=>e= .returned (.bool true)∧Below W.heap.size W w') (hI1:OpsS w S1 oA1 ops1) (hI2:OpsS w S2 oA2 ops2):
  Calls Tryz.prog 46 #[.agg #[t1,r1,n1,.slice dA1 v1.length dc1,ut1,ur1,.slice oA1 ops1.length oc1],.agg #[t2,r2,n2,.slice dA2 v2.length dc2,ut2,ur2,.slice oA2 ops2.length oc2]] w λe w'=>e= .returned (.bool ans)∧Below w.heap.size w w':=by
 have HB2:=hid (show Below w.heap.size w ((w.alloc (.cells #[t1,r1,n1,.slice dA1 v1.length dc1,ut1,ur1,.slice oA1 ops1.length oc1] 45)).alloc (.cells #[t2,r2,n2,.slice dA2 v2.length dc2,ut2,ur2,.slice oA2 ops2.length oc2] 45)) from((ag _ _).alloc (aa _) _).alloc (by simp) _);have HC1:=hid ((ax (w.alloc (.cells #[t1,r1,n1,.slice dA1 v1.length dc1,ut1,ur1,.slice oA1 ops1.length oc1] 45)) (.cells #[t2,r2,n2,.slice dA2 v2.length dc2,ut2,ur2,.slice oA2 ops2.length oc2] 45) w.heap.size (by simp)).trans (am w _));have HC2:=hid (bn (n:=w.heap.size+1) (w.alloc (.cells #[t1,r1,n1,.slice dA1 v1.length dc1,ut1,ur1,.slice oA1 ops1.length oc1] 45)) (.cells #[t2,r2,n2,.slice dA2 v2.length dc2,ut2,ur2,.slice oA2 ops2.length oc2] 45) (by simp));have hl:ops1.length=ops2.length:=hl0;have e4:((ops1.length:Int) != (ops2.length:Int))=false:=by rw[bne_eq_false_iff_eq,hl]
 have HL:=hid hl;have HANS:=hid hans;have HD:=hid hD;have HI1:=hid hI1;have HI2:=hid hI2;clear hl hans hD hI1 hI2 hl0;go_enter Tryz.func46,Tryz.ntmps46;go_upto_region 3 with(go_at_call 29;refine(HD.out _ HB2.out).mono ?_;rintro e w3 ⟨rfl,hB3⟩;have HE1:=hid ((hB3.block w.heap.size (by simp;omega)).trans HC1.out);have HE2:=hid ((hB3.block (w.heap.size+1) (by simp)).trans HC2.out);have HB3:=bT HB2 hB3;clear hB3;have f14:w3.cell? ⟨w.heap.size,4,none⟩=some (.int .i64 ut1):=by { rw[crw HE1.out];rfl };have f15:w3.cell? ⟨w.heap.size,5,none⟩=some (.int .i64 ur1):=by { rw[crw HE1.out];rfl };have f16:w3.cell? ⟨w.heap.size,6,none⟩=some (.slice oA1 ops1.length oc1):=by { rw[crw HE1.out];rfl };have f24:w3.cell? ⟨w.heap.size+1,4,none⟩=some (.int .i64 ut2):=by { rw[crw HE2.out];rfl };have f25:w3.cell? ⟨w.heap.size+1,5,none⟩=some (.int .i64 ur2):=by { rw[crw HE2.out];rfl };have f26:w3.cell? ⟨w.heap.size+1,6,none⟩=some (.slice oA2 ops2.length oc2):=by { rw[crw HE2.out];rfl });have hlt3:w.heap.size+1<w3.heap.size:=lt_of_block HE2.out;obtain⟨X1,hX1,hX1i⟩:=HI1.out;obtain⟨X2,hX2,hX2i⟩:=HI2.out;have HX1:=hid hX1;have HX1i:=hid hX1i;have HX2:=hid hX2;have HX2i:=hid hX2i;clear hX1 hX1i hX2 hX2i q0 q3 e1 e4 f14 f15 f24 f25 f16 f26;obtain⟨m,hm⟩:∃m,m=ops1.length:=⟨_,rfl⟩;have HM:=hid hm;go_upto_region 4 with(fail);go_loopw [5] (λi wr=>∃j:Nat,j<=m∧i= .int .i64 j∧Below w3.heap.size w3 wr∧Hid (∀i,i<j->jv (ops1.getD i (opO 0 .zero)) (ops2.getD i (opO 0 .zero))=true)) (λi _=>m-(RowKit.intOf i).toNat)
 case atStart=>exact⟨0,by omega,rfl,ag _ _,hid (λi hi=>absurd hi (by omega))⟩
 case round=>
  obtain⟨j,hj,rfl,hBr,HK⟩:=hrel;have f16:wr.cell? ⟨w.heap.size,6,none⟩=some (.slice oA1 ops1.length oc1):=by rw[crw ((hBr.block w.heap.size (by omega)).trans HE1.out)];rfl
  have f26:wr.cell? ⟨w.heap.size+1,6,none⟩=some (.slice oA2 ops2.length oc2):=by rw[crw ((hBr.block (w.heap.size+1) hlt3).trans HE2.out)];rfl
  have HBw:=bT HB3 hBr;by_cases hlt:j<m
  ·have hj1:j<ops1.length:=by omega
   have hj2:j<ops2.length:=by have:=HL.out;omega
   obtain⟨ab,ao,rfl,-,hab,hc⟩:=(RowG.agr HX1.out (Agr.below HBw.out)) j hj1;obtain⟨bb,bo,rfl,-,hbb,hd⟩:=(RowG.agr HX2.out (Agr.below HBw.out)) j hj2;have hi1:=(HX1i.out j hj1).agr (Agr.below HBw.out);have hi2:=(HX2i.out j hj2).agr (Agr.below HBw.out);obtain⟨o1,ho1⟩:∃o,o=ops1.getD j (opO 0 .zero):=⟨_,rfl⟩;obtain⟨o2,ho2⟩:∃o,o=ops2.getD j (opO 0 .zero):=⟨_,rfl⟩;obtain⟨x1,hx1⟩:∃x,x=X1 j:=⟨_,rfl⟩;obtain⟨x2,hx2⟩:∃x,x=X2 j:=⟨_,rfl⟩;simp only[<-ho1,<-hx1] at hc hi1;simp only[<-ho2,<-hx2] at hd hi2;obtain⟨bs,hbs⟩:∃b,b=jv o1 o2:=⟨_,rfl⟩;have HS:=hid (show jv (ops1.getD j (opO 0 .zero)) (ops2.getD j (opO 0 .zero))=bs by rw[<-ho1,<-ho2,hbs]);have hr1:=eT (jw hc);have hr2:=eT (jw hd);have hl1:(opL o1 x1).length=18:=rfl;have hl2:(opL o2 x2).length=18:=rfl;have hsm:∀d os,Calls Tryz.prog 86 #[.agg (opL o1 x1).toArray,.agg (opL o2 x2).toArray] (grow (redrawn wr d) os) λe w''=>e= .returned (.bool bs)∧Below (grow (redrawn wr d) os).heap.size (grow (redrawn wr d) os) w'':=λd os=>by
    rw[hbs];exact sameop_any o1 o2 x1 x2 S1 S2 (grow (redrawn wr d) os) (hi1.agr (Agr.below (bE wr d os))) (hi2.agr (Agr.below (bE wr d os)))
   have cS:=λd os=>ay (hsm d os);clear hsm;generalize opL o1 x1=k1 at *;generalize opL o2 x2=k2 at *;have hn1:(Tryz.prog.info? 125).map (·.size)=some k1.length:=by rw[hl1];kernel_rfl
   have hn2:(Tryz.prog.info? 125).map (·.size)=some k2.length:=by rw[hl2];kernel_rfl
   have HR1:=hid hr1;have HR2:=hid hr2;have HN1:=hid hn1;have HN2:=hid hn2;clear hr1 hr2 hn1 hn2 hl1 hl2;have g16:=aj f16;have g26:=aj f26;clear hc hd hi1 hi2 ho1 ho2 hx1 hx2 hbs;have i1:(0:Int)<=(j:Int):=by omega
   have i2:(j:Int)<(ops1.length:Int):=by omega
   have i3:(j:Int)<(ops2.length:Int):=by omega
   have i4:j<ops1.length:=hj1;have i5:j<ops2.length:=hj2;go_wp2;refine rqb ?_
   repeat(any_goals(first|(refine eI rfl _ _ rfl ab (ao+j*18) rfl k1 _ HR1.out az rfl HN1.out ?_)|(refine eI rfl _ _ rfl bb (bo+j*18) rfl k2 _ HR2.out az rfl HN2.out ?_)|go_big_quiet_step (with_reducible exact cS _ _)|quiet_step (with_reducible exact cS _ _)))
   refine qz λwq hBq=> ?_;cases bs with
   |false=>
    obtain rfl:ans=false:=by rw[HANS.out,fl hj1 HS.out]
    go_wp2;go_ret;exact⟨rfl,HBw.out.trans (hBq.mono HBw.out.size)⟩
   |true=>
    have HK2:=hid (show ∀i,i<j+1->jv (ops1.getD i (opO 0 .zero)) (ops2.getD i (opO 0 .zero))=true from λi hi=>if h:i<j then HK.out i h else (by(obtain rfl:i=j:=(by omega));exact HS.out));go_wp2;go_roundw
    case rel=>exact⟨j+1,by omega,by go_num,hBr.trans (hBq.mono hBr.size),HK2⟩
    case measure=>simp[RowKit.intOf];omega
  ·obtain rfl:j=m:=by omega
   obtain rfl:ans=true:=by rw[HANS.out,<-HM.out,ed HK.out]
   have i6:¬j<ops1.length:=by omega
   have i7:decide (j<ops1.length)=false:=aE i6;go_wp2;go_ret;exact⟨rfl,HBw.out⟩
theorem sameg_any (a b:Grp) (dA1 dA2 oA1 oA2:Option Addr) (dc1 dc2 oc1 oc2:Nat) (S1 S2:Nat->Prop) (w:World) (hI1:GrIn w S1 a dA1 dc1 oA1 oc1) (hI2:GrIn w S2 b dA2 dc2 oA2 oc2):
  Calls Tryz.prog 46 #[.agg (grA a dA1 dc1 oA1 oc1),.agg (grA b dA2 dc2 oA2 oc2)] w λe w'=>e= .returned (.bool (sameG a b))∧Below w.heap.size w w':=by
 obtain⟨ans,hans⟩:∃r,r=sameG a b:=⟨_,rfl⟩;rw[<-hans];obtain⟨⟨t1,r1⟩,n1,v1,⟨ut1,ur1⟩,ops1⟩:=a;obtain⟨⟨t2,r2⟩,n2,v2,⟨ut2,ur2⟩,ops2⟩:=b;obtain⟨b0,h0⟩:∃b,Gst.eqb ⟨t1,r1⟩ ⟨t2,r2⟩=b:=⟨_,rfl⟩;obtain⟨b1,h1⟩:∃b,decide (n1=n2)=b:=⟨_,rfl⟩;obtain⟨b2,h2⟩:∃b,decide (v1=v2)=b:=⟨_,rfl⟩;obtain⟨b3,h3⟩:∃b,Gst.eqb ⟨ut1,ur1⟩ ⟨ut2,ur2⟩=b:=⟨_,rfl⟩;obtain⟨b4,h4⟩:∃b,decide (ops1.length=ops2.length)=b:=⟨_,rfl⟩;have HANS:=hid (show ans=(b0 && b1 && b2 && b3 && (b4 && i8 ops1.length (λi=>jv (ops1.getD i (opO 0 .zero)) (ops2.getD i (opO 0 .zero))))) by rw[hans,<-h0,<-h1,<-h2,<-h3,<-h4];rfl);have q0:=ne_st t1 r1 t2 r2 b0 h0;have q3:=ne_st ut1 ur1 ut2 ur2 b3 h3;have hv1:v1.length<=9223372036854775807:=by have:=hI1.dle;have:=hI1.dmax;unfold maxLen at this;simp only at *;omega
 have ho1:ops1.length<=9223372036854775807:=by have:=hI1.ole;have:=hI1.omax;unfold maxLen at this;simp only at *;omega
 have HD:=hid (show ∀W,Below w.heap.size w W->Calls Tryz.prog 29 #[.slice dA1 v1.length dc1,.slice dA2 v2.length dc2] W λe w'=>e= .returned (.bool b2)∧Below W.heap.size W w' from λW hB=>by
  rw[<-h2];exact same_any dA1 dA2 dc1 dc2 v1 v2 W hv1 (hI1.deps.vec.below hB) (hI2.deps.vec.below hB))
 have HI1:=hid hI1.ops;have HI2:=hid hI2.ops;have H4:=hid h4;clear h0 h2 h3 hI1 hI2 hans;show Calls _ _ #[.agg #[t1,r1,n1,.slice dA1 v1.length dc1,ut1,ur1,.slice oA1 ops1.length oc1],.agg #[t2,r2,n2,.slice dA2 v2.length dc2,ut2,ur2,.slice oA2 ops2.length oc2]] _ _;have HB2:=hid (show Below w.heap.size w ((w.alloc (.cells #[t1,r1,n1,.slice dA1 v1.length dc1,ut1,ur1,.slice oA1 ops1.length oc1] 45)).alloc (.cells #[t2,r2,n2,.slice dA2 v2.length dc2,ut2,ur2,.slice oA2 ops2.length oc2] 45)) from((ag _ _).alloc (aa _) _).alloc (by simp) _);have HC1:=hid ((ax (w.alloc (.cells #[t1,r1,n1,.slice dA1 v1.length dc1,ut1,ur1,.slice oA1 ops1.length oc1] 45)) (.cells #[t2,r2,n2,.slice dA2 v2.length dc2,ut2,ur2,.slice oA2 ops2.length oc2] 45) w.heap.size (by simp)).trans (am w _));have HC2:=hid (bn (n:=w.heap.size+1) (w.alloc (.cells #[t1,r1,n1,.slice dA1 v1.length dc1,ut1,ur1,.slice oA1 ops1.length oc1] 45)) (.cells #[t2,r2,n2,.slice dA2 v2.length dc2,ut2,ur2,.slice oA2 ops2.length oc2] 45) (by simp));cases b0 with
 |false=>
  obtain rfl:ans=false:=by rw[HANS.out];simp
  go_enter Tryz.func46,Tryz.ntmps46;go_wp2_with (go_at_call 29;refine(HD.out _ HB2.out).mono ?_;rintro e w3 ⟨rfl,hB3⟩;have HE1:=hid ((hB3.block w.heap.size (by simp;omega)).trans HC1.out);have HE2:=hid ((hB3.block (w.heap.size+1) (by simp)).trans HC2.out);have HB3:=bT HB2 hB3;clear hB3;have f14:w3.cell? ⟨w.heap.size,4,none⟩=some (.int .i64 ut1):=by { rw[crw HE1.out];rfl };have f15:w3.cell? ⟨w.heap.size,5,none⟩=some (.int .i64 ur1):=by { rw[crw HE1.out];rfl };have f16:w3.cell? ⟨w.heap.size,6,none⟩=some (.slice oA1 ops1.length oc1):=by { rw[crw HE1.out];rfl };have f24:w3.cell? ⟨w.heap.size+1,4,none⟩=some (.int .i64 ut2):=by { rw[crw HE2.out];rfl };have f25:w3.cell? ⟨w.heap.size+1,5,none⟩=some (.int .i64 ur2):=by { rw[crw HE2.out];rfl };have f26:w3.cell? ⟨w.heap.size+1,6,none⟩=some (.slice oA2 ops2.length oc2):=by { rw[crw HE2.out];rfl });go_ret;exact⟨rfl,HB2.out⟩
 |true=>
 cases b1 with
 |false=>
  have e1:(n1 != n2)=true:=by rw[eM];exact of_decide_eq_false h1
  clear h1;obtain rfl:ans=false:=by rw[HANS.out];simp
  go_enter Tryz.func46,Tryz.ntmps46;go_wp2_with (go_at_call 29;refine(HD.out _ HB2.out).mono ?_;rintro e w3 ⟨rfl,hB3⟩;have HE1:=hid ((hB3.block w.heap.size (by simp;omega)).trans HC1.out);have HE2:=hid ((hB3.block (w.heap.size+1) (by simp)).trans HC2.out);have HB3:=bT HB2 hB3;clear hB3;have f14:w3.cell? ⟨w.heap.size,4,none⟩=some (.int .i64 ut1):=by { rw[crw HE1.out];rfl };have f15:w3.cell? ⟨w.heap.size,5,none⟩=some (.int .i64 ur1):=by { rw[crw HE1.out];rfl };have f16:w3.cell? ⟨w.heap.size,6,none⟩=some (.slice oA1 ops1.length oc1):=by { rw[crw HE1.out];rfl };have f24:w3.cell? ⟨w.heap.size+1,4,none⟩=some (.int .i64 ut2):=by { rw[crw HE2.out];rfl };have f25:w3.cell? ⟨w.heap.size+1,5,none⟩=some (.int .i64 ur2):=by { rw[crw HE2.out];rfl };have f26:w3.cell? ⟨w.heap.size+1,6,none⟩=some (.slice oA2 ops2.length oc2):=by { rw[crw HE2.out];rfl });go_ret;exact⟨rfl,HB2.out⟩
 |true=>
 have e1:(n1 != n2)=false:=by rw[bne_eq_false_iff_eq];exact of_decide_eq_true h1
 clear h1;cases b2 with
 |false=>
  obtain rfl:ans=false:=by rw[HANS.out];simp
  go_enter Tryz.func46,Tryz.ntmps46;go_wp2_with (go_at_call 29;refine(HD.out _ HB2.out).mono ?_;rintro e w3 ⟨rfl,hB3⟩;have HE1:=hid ((hB3.block w.heap.size (by simp;omega)).trans HC1.out);have HE2:=hid ((hB3.block (w.heap.size+1) (by simp)).trans HC2.out);have HB3:=bT HB2 hB3;clear hB3;have f14:w3.cell? ⟨w.heap.size,4,none⟩=some (.int .i64 ut1):=by { rw[crw HE1.out];rfl };have f15:w3.cell? ⟨w.heap.size,5,none⟩=some (.int .i64 ur1):=by { rw[crw HE1.out];rfl };have f16:w3.cell? ⟨w.heap.size,6,none⟩=some (.slice oA1 ops1.length oc1):=by { rw[crw HE1.out];rfl };have f24:w3.cell? ⟨w.heap.size+1,4,none⟩=some (.int .i64 ut2):=by { rw[crw HE2.out];rfl };have f25:w3.cell? ⟨w.heap.size+1,5,none⟩=some (.int .i64 ur2):=by { rw[crw HE2.out];rfl };have f26:w3.cell? ⟨w.heap.size+1,6,none⟩=some (.slice oA2 ops2.length oc2):=by { rw[crw HE2.out];rfl });go_ret;exact⟨rfl,HB3.out⟩
 |true=>
 cases b3 with
 |false=>
  obtain rfl:ans=false:=by rw[HANS.out];simp
  go_enter Tryz.func46,Tryz.ntmps46;go_wp2_with (go_at_call 29;refine(HD.out _ HB2.out).mono ?_;rintro e w3 ⟨rfl,hB3⟩;have HE1:=hid ((hB3.block w.heap.size (by simp;omega)).trans HC1.out);have HE2:=hid ((hB3.block (w.heap.size+1) (by simp)).trans HC2.out);have HB3:=bT HB2 hB3;clear hB3;have f14:w3.cell? ⟨w.heap.size,4,none⟩=some (.int .i64 ut1):=by { rw[crw HE1.out];rfl };have f15:w3.cell? ⟨w.heap.size,5,none⟩=some (.int .i64 ur1):=by { rw[crw HE1.out];rfl };have f16:w3.cell? ⟨w.heap.size,6,none⟩=some (.slice oA1 ops1.length oc1):=by { rw[crw HE1.out];rfl };have f24:w3.cell? ⟨w.heap.size+1,4,none⟩=some (.int .i64 ut2):=by { rw[crw HE2.out];rfl };have f25:w3.cell? ⟨w.heap.size+1,5,none⟩=some (.int .i64 ur2):=by { rw[crw HE2.out];rfl };have f26:w3.cell? ⟨w.heap.size+1,6,none⟩=some (.slice oA2 ops2.length oc2):=by { rw[crw HE2.out];rfl });go_ret;exact⟨rfl,HB3.out⟩
 |true=>
 cases b4 with
 |false=>
  have e4:((ops1.length:Int) != (ops2.length:Int))=true:=by rw[eM];have:=of_decide_eq_false h4;omega
  clear h4;obtain rfl:ans=false:=by rw[HANS.out];simp
  go_enter Tryz.func46,Tryz.ntmps46;go_wp2_with (go_at_call 29;refine(HD.out _ HB2.out).mono ?_;rintro e w3 ⟨rfl,hB3⟩;have HE1:=hid ((hB3.block w.heap.size (by simp;omega)).trans HC1.out);have HE2:=hid ((hB3.block (w.heap.size+1) (by simp)).trans HC2.out);have HB3:=bT HB2 hB3;clear hB3;have f14:w3.cell? ⟨w.heap.size,4,none⟩=some (.int .i64 ut1):=by { rw[crw HE1.out];rfl };have f15:w3.cell? ⟨w.heap.size,5,none⟩=some (.int .i64 ur1):=by { rw[crw HE1.out];rfl };have f16:w3.cell? ⟨w.heap.size,6,none⟩=some (.slice oA1 ops1.length oc1):=by { rw[crw HE1.out];rfl };have f24:w3.cell? ⟨w.heap.size+1,4,none⟩=some (.int .i64 ut2):=by { rw[crw HE2.out];rfl };have f25:w3.cell? ⟨w.heap.size+1,5,none⟩=some (.int .i64 ur2):=by { rw[crw HE2.out];rfl };have f26:w3.cell? ⟨w.heap.size+1,6,none⟩=some (.slice oA2 ops2.length oc2):=by { rw[crw HE2.out];rfl });go_ret;exact⟨rfl,HB3.out⟩
 |true=>
  exact sameg_loop t1 r1 n1 v1 ut1 ur1 ops1 t2 r2 n2 v2 ut2 ur2 ops2 dA1 dA2 oA1 oA2 dc1 dc2 oc1 oc2 S1 S2 w ans q0 e1 q3 hv1 ho1 (of_decide_eq_true h4) (by rw[HANS.out];rfl) HD.out HI1.out HI2.out
end
section
open Go.RowKit Go.Lib Go.Sort
attribute [local go_sem ↓] Go.wp_at_zero Go.wp_at_succ
def firstO:Gop:={ opO 0 ⟨⟨1,1⟩,0⟩ with name:=⟨#[97]⟩,dir:=true }
def firstG:Grp:=⟨⟨1,1⟩,1,[],⟨0,0⟩,[firstO]⟩
theorem first_in (w:World) (g:Nat) (B:Nat) (hB:B<=g) (h:w.heap[g]? =some (.cells #[(0:Int),(1:Int),(1:Int),(0:Int),(0:Int),(0:Int),(0:Int),.string ⟨#[97]⟩,true,.slice none 0 0,(0:Int),(0:Int),(0:Int),(0:Int),(0:Int),(0:Int),.string ⟨#[]⟩,.slice none 0 0] 125 (0,0))):
  GrIn w (λk=>B<=k) firstG none 0 (some ⟨g,0,none⟩) 1:=by
 refine⟨RowG.zero,⟨λ_=>⟨none,0,none,0⟩,?_,?_⟩,aa _,aa _,aq _,by decide,⟨by decide,by decide⟩,λx hx=>(by cases hx)⟩
 ·intro k hk;obtain rfl:k=0:=by have:k<1:=hk;omega
  have hl:g<w.heap.size:=by
   rcases cj g w.heap.size with hlt|hge
   ·exact hlt
   ·rw[Array.getElem?_eq_none hge] at h;cases h
  refine⟨g,0,rfl,hB,hl,λj hj=> ?_⟩;have e:(0+0*18+j:Nat)=j:=by omega
  rw[e,aD _ _ _ _ _ _ h]
  match j,hj with
  |0,_=>rfl
  |1,_=>rfl
  |2,_=>rfl
  |3,_=>rfl
  |4,_=>rfl
  |5,_=>rfl
  |6,_=>rfl
  |7,_=>rfl
  |8,_=>rfl
  |9,_=>rfl
  |10,_=>rfl
  |11,_=>rfl
  |12,_=>rfl
  |13,_=>rfl
  |14,_=>rfl
  |15,_=>rfl
  |16,_=>rfl
  |17,_=>rfl
  |n+18,h=>exact absurd h (by omega)
 ·intro k hk;obtain rfl:k=0:=by have:k<1:=hk;omega
  exact⟨RowG.zero,RowG.zero,aa _,aa _,aq _,aq _,by decide,aq _⟩
def FirstQ (w:World) (e:Ending) (w':World):Prop:=∃a,e= .returned (.agg #[(1:Int),(1:Int),(1:Int),.slice none 0 0,(0:Int),(0:Int),.slice (some ⟨a,0,none⟩) 1 1])∧GrIn w' (λk=>w.heap.size<=k) firstG none 0 (some ⟨a,0,none⟩) 1∧Below w.heap.size w w'
theorem firstg_any (w:World):Calls Tryz.prog 42 #[] w (FirstQ w):=by
 go_enter Tryz.func42,Tryz.ntmps42;go_wp2;refine bB (v:= .agg #[(1:Int),(1:Int),(1:Int),.slice none 0 0,(0:Int),(0:Int),.slice (some ⟨w.heap.size+1+1,0,none⟩) 1 1]) (by simp[results,Tryz.results42,go_sem]) rfl ?_;exact⟨w.heap.size+1+1,rfl,first_in _ _ _ (by omega) (bn _ _ (by simp)),(((ag _ _).alloc (aa _) _).alloc (by simp) _).alloc (by simp;omega) _⟩
end
end
section
open Go.RowKit Go.Lib Go.Sort
attribute [local go_sem ↓] Go.wp_at_zero Go.wp_at_succ
theorem first_chk:chkB firstG=true:=by decide
theorem first_fit:fitG firstG:=⟨by decide,λx hx=>(by cases hx),λo ho=>by
 have:o=firstO:=by simpa[firstG] using ho
 subst this
 exact⟨by unfold okB;decide,by unfold okB;decide,by decide,by decide⟩⟩
theorem uv0:uvarint 0=[0]:=uvarint_small (by decide)
theorem uv1:uvarint 1=[1]:=uvarint_small (by decide)
theorem first_bytes:grpZ firstG=[1,1,1,0,0,0,1,0,1,1,0,0,0,0,1,97,1]:=by
 simp[grpZ,jZ,natZ,opZ,idZ,gl,firstG,firstO,opO,Gid.zero,uv0,uv1,ByteArray.size]
theorem DecQ.some {l:List UInt8} {g:Grp} (h:decZ l=some g) {w w':World} {e:Ending} (hq:DecQ (decZ l) w e w'):Below w.heap.size w w'∧∃dA dc oA oc,e= .returned (.tuple #[.agg (grA g dA dc oA oc),(0:Int)])∧GrIn w' (λk=>w.heap.size<=k) g dA dc oA oc∧∀o∈g.ops,o.text.size<=1000000∧o.name.size<=1000000:=by
 rw[h] at hq;exact hq
theorem DecQ.none {l:List UInt8} (h:decZ l=Option.none) {w w':World} {e:Ending} (hq:DecQ (decZ l) w e w'):Below w.heap.size w w'∧e= .returned (.tuple #[.agg #[(0:Int),(0:Int),(0:Int),.slice Option.none 0 0,(0:Int),(0:Int),.slice Option.none 0 0],(80:Int)]):=by
 rw[h] at hq;exact hq
theorem same_first (dA oA:Option Addr) (dc oc a:Nat) (S T:Nat->Prop) (w:World) (h1:GrIn w S firstG dA dc oA oc) (h2:GrIn w T firstG none 0 (some ⟨a,0,none⟩) 1):
  Calls Tryz.prog 46 #[.agg #[(1:Int),(1:Int),(1:Int),.slice dA 0 dc,(0:Int),(0:Int),.slice oA 1 oc],.agg #[(1:Int),(1:Int),(1:Int),.slice none 0 0,(0:Int),(0:Int),.slice (some ⟨a,0,none⟩) 1 1]] w λe w'=>e= .returned (.bool true)∧Below w.heap.size w w':=by
 have:=sameg_any firstG firstG dA none oA (some ⟨a,0,none⟩) dc 0 oc 1 S T w h1 h2;rw[sameG_iff.2 rfl] at this;exact this
end
section
open Go.ChangeShapes Go.WideShapes Go.RowKit Go.Lib Go.Deep
def Here (w:World):Nat->Prop:=λb=>b<w.heap.size
theorem range_getD {α:Type} (f:Nat->α) (z:α) {n k:Nat} (h:k<n):((List.range n).map f).getD k z=f k:=by
 rw[ae,cT,iU h];rfl
theorem jf {α:Type} (f:Nat->α) (n:Nat):((List.range n).map f).length=n:=by simp
section
variable {H : Type} {enc : TypeId × Value → H} {w : World} {spare : Nat → Bool} {held : Bool} {fuel : Nat} {cs : List Value} {x : DataW H × List MemPlace}
theorem weightsAll_mem {P:Program} {e:TypeId}:∀{l:List (DataW H)} {d:DataW H} {n:Nat},d∈l->n∈d.weights P e->n∈DataW.weightsAll P e l
 |y::l,d,n,h,hn=>by
  show _∈y.weights P e++DataW.weightsAll P e l
  rcases bY.1 h with rfl|h
  ·exact List.mem_append_left _ hn
  ·exact List.mem_append_right _ (weightsAll_mem h hn)
theorem opn_rows {P:Program} {α:Type} [Inhabited α] {t e:TypeId} {s:Nat} (hs:0<s) (ht:P.underlying t=some (.slice e)) (hc:P.cellsOf e=s) (V:α->Nat->Value) (P1:α->DataW H->Prop)
  (elem:∀(n:Nat) (cs':List Value) (d:DataW H) (p:List MemPlace),DataW.trod enc P w 0 spare held n e cs'=some (d,p)->∃x:α,(∀j,j<s->cs'[j]? =some (V x j))∧P1 x d)
  (h:DataW.trod enc P w 0 spare held fuel t cs=some x):
  ∃(A:Option Addr) (len c:Nat) (f:Nat->α),cs=[.slice A len c]∧len<=c∧c<=maxLen∧RowG w (Here w) A len s (λk j=>V (f k) j)∧∀k,k<len->∃d,P1 (f k) d∧∀n∈d.weights P e,n∈x.1.weights P t:=by
 rcases open_slice ht h with⟨h1,h2⟩|⟨a,len,cap,m,n,D,Pl,hcs,hb,hl,hm,hmm,hx,hi⟩
 ·exact⟨none,0,0,λ_=>default,h1,aa _,aq _,RowG.zero,λk hk=>absurd hk (by omega)⟩
 ·have hlm:len<=m:=by rw[hmm];split<;>omega
  have hall:∀i,i<len->∃x:α,(∀j,j<s->w.cell? ((a.add (i*s)).add j)=some (V x j))∧P1 x (D i):=λi hi'=>by
   obtain⟨cs',h3,h4⟩:=hi i (by omega);rw[hc] at h3;obtain⟨_,hcl,hat⟩:=World.cells?_some h3;obtain⟨x,h5,h6⟩:=elem n cs' _ _ h4;exact⟨x,λj hj=>by rw[hat j hj,h5 j hj],h6⟩
  obtain⟨f,hf⟩:=choose_lt hall;refine⟨some a,len,cap,f,hcs,hl,hm,λk hk=> ?_,λk hk=>⟨D k,(hf k hk).2,λn hn=> ?_⟩⟩
  ·obtain⟨b,o,sp⟩:=a;have h0:=(hf 0 (by omega)).1 0 hs;have hsp:sp=none:=by
    cases sp with
    |none=>rfl
    |some q=>
     exfalso;rw[Nat.zero_mul] at h0;simp only[Addr.add,fy,World.cell?,Option.isSome_some] at h0;split at h0<;>cases h0
   subst hsp;have hbl:b<w.heap.size:=by
    have:=eK h0;simpa[Addr.add] using this
   refine⟨b,o,rfl,hbl,hbl,λj hj=> ?_⟩;have:=(hf k hk).1 j hj;rw[add_add,Addr.add_mid] at this;rw[show o+k*s+j=o+(k*s+j) from by omega];exact this
  ·rw[hx];simp only[DataW.weights,ht];exact List.mem_cons_of_mem _ (List.mem_append_left _ (weightsAll_mem (bj.2 ⟨k,gF.2 hk,rfl⟩) hn))
theorem fld {P:Program} {ty:TypeId} {n off c:Nat} {l:List Value} {ys:List (DataW H×List MemPlace)} {i:Nat} {y:DataW H×List MemPlace}
  (hf:DataW.trod enc P w 0 spare held n ty ((cs.drop off).take (P.cellsOf ty))=ys[i]?) (hc:P.cellsOf ty=c) (hl:(cs.drop off).take c=l) (hy:ys[i]? =some y):DataW.trod enc P w 0 spare held n ty l=some y:=by
 rw[hc,hl,hy] at hf;exact hf
theorem cells_bool:Tryz.prog.cellsOf 4=1:=by kernel_rfl
instance:Inhabited Gst:=⟨.zero⟩
instance:Inhabited Gid:=⟨.zero⟩
instance:Inhabited OpX:=⟨⟨none,0,none,0⟩⟩
instance:Inhabited Gop:=⟨opO 0 .zero⟩
structure GrX where
 dA:Option Addr
 dc:Nat
 oA:Option Addr
 oc:Nat
instance:Inhabited GrX:=⟨⟨none,0,none,0⟩⟩
instance:Inhabited Grp:=⟨⟨.zero,0,[],.zero,[]⟩⟩
end
end
section
section
open Go.RowKit Go.Lib Go.Sort
theorem gw (t r:Int) (w:World):
  Calls Tryz.prog 101 #[.agg #[t,r]] w λe w'=>e= .returned (.bool (Gst.right ⟨t,r⟩))∧Below w.heap.size w w':=by
 obtain⟨v,hv⟩:∃v,v=Gst.right ⟨t,r⟩:=⟨_,rfl⟩;have HV:=hid hv;rw[<-hv];clear hv;go_enter Tryz.func101,Tryz.ntmps101;go_wp2
 all_goals
  go_ret;refine⟨dk ?_,(ag _ _).alloc (aa _) _⟩;rw[HV.out];simp[Gst.right]
  try omega
theorem eN (t r t' r':Int) (w:World):
  Calls Tryz.prog 103 #[.agg #[t,r],.agg #[t',r']] w λe w'=>e= .returned (.bool (Gst.lt ⟨t,r⟩ ⟨t',r'⟩))∧Below w.heap.size w w':=by
 obtain⟨v,hv⟩:∃v,v=Gst.lt ⟨t,r⟩ ⟨t',r'⟩:=⟨_,rfl⟩;have HV:=hid hv;rw[<-hv];clear hv;by_cases h1:t<t'
 ·obtain rfl:v=true:=by rw[HV.out];simp[Gst.lt,h1]
  have t1:decide (t<t')=true:=aN h1;go_enter Tryz.func103,Tryz.ntmps103;go_wp2;go_ret;exact⟨rfl,((ag _ _).alloc (aa _) _).alloc (by simp) _⟩
 have t1:decide (t<t')=false:=aE h1;by_cases h2:t=t'
 ·subst h2;obtain rfl:v=decide (r<r'):=by rw[HV.out];simp[Gst.lt]
  clear h1;go_enter Tryz.func103,Tryz.ntmps103;go_wp2;go_ret;exact⟨rfl,((ag _ _).alloc (aa _) _).alloc (by simp) _⟩
 ·obtain rfl:v=false:=by rw[HV.out];simp[Gst.lt,h1,h2]
  have t2:(t == t')=false:=by rw[aV];exact h2
  clear h1 h2;go_enter Tryz.func103,Tryz.ntmps103;go_wp2;go_ret;exact⟨rfl,((ag _ _).alloc (aa _) _).alloc (by simp) _⟩
theorem fY (t r i:Int) (w:World):
  Calls Tryz.prog 192 #[.agg #[t,r,i]] w λe w'=>e= .returned (.bool (Gid.right ⟨⟨t,r⟩,i⟩))∧Below w.heap.size w w':=by
 obtain⟨v,hv⟩:∃v,v=Gid.right ⟨⟨t,r⟩,i⟩:=⟨_,rfl⟩;have HV:=hid hv;rw[<-hv];clear hv;cases hs:Gst.right ⟨t,r⟩ with
 |false=>
  have HS:=hid hs;clear hs;go_enter Tryz.func192,Tryz.ntmps192;go_wp2_with fail;refine(gw _ _ _).mono ?_;rw[HS.out];rintro e w1 ⟨rfl,hB⟩;go_wp2;go_ret;refine⟨dk ?_,((ag _ _).alloc (aa _) _).trans (hB.mono (by simp))⟩;rw[HV.out];simp[Gid.right,HS.out]
 | true=>
  have HS:=hid hs;clear hs;go_enter Tryz.func192,Tryz.ntmps192;go_wp2_with fail;refine(gw _ _ _).mono ?_;rw[HS.out];rintro e w1 ⟨rfl,hB⟩;have hc:w1.cell? ⟨w.heap.size,2,none⟩=some (.int .i64 i):=by
   rw[hB.cell (by simp)];go_simp
  go_wp2
  all_goals
   go_ret;refine⟨dk ?_,((ag _ _).alloc (aa _) _).trans (hB.mono (by simp))⟩;rw[HV.out];simp[Gid.right,HS.out]
   try omega
def jJ (a b:Gst):Int:=if a.lt b=true then -1 else if b.lt a=true then 1 else 0
def rcmpD (a b:Gid):Int:=if jJ a.s b.s≠0 then jJ a.s b.s else if a.i<b.i then -1 else if b.i<a.i then 1 else 0
theorem rcmpS_zero (a b:Gst):jJ a b=0↔a.eqb b=true:=by
 have h1:a.lt b=true↔(a.t<b.t∨(a.t=b.t∧a.r<b.r)):=by simp[Gst.lt]
 have h2:b.lt a=true↔(b.t<a.t∨(b.t=a.t∧b.r<a.r)):=by simp[Gst.lt]
 have h3:a.eqb b=true↔(a.t=b.t∧a.r=b.r):=by simp[Gst.eqb]
 unfold jJ;rw[h3];split
 ·rename_i c;rw[h1] at c;omega
 ·rename_i c;rw[h1] at c;split
  ·rename_i d;rw[h2] at d;omega
  ·rename_i d;rw[h2] at d;omega
theorem jW (a b:Gid):decide (0<=rcmpD a b)= !a.lt b:=by
 have h0:=rcmpS_zero a.s b.s;have h1:a.s.lt b.s=true->jJ a.s b.s= -1:=λh=>by unfold jJ;rw[aJ h]
 have h2:¬a.s.lt b.s=true->jJ a.s b.s=1∨jJ a.s b.s=0:=λh=>by
  unfold jJ;rw[aC h];split<;>simp
 rw[bw];unfold rcmpD;simp only[Gid.lt,ak,ij,Bool.or_eq_false_iff,Bool.and_eq_false_iff,aU];by_cases c1:a.s.lt b.s=true
 ·have:=h1 c1;rw[this];simp[c1]
 ·have c1':a.s.lt b.s=false:=by simpa using c1
  rcases h2 c1 with c2|c2
  ·rw[c2];have:a.s.eqb b.s=false:=by
    rw[<-Bool.not_eq_true,<-h0,c2];decide
   simp[c1',this]
  ·rw[c2];have:a.s.eqb b.s=true:=h0.1 c2;simp only[c1',this];simp;split
   ·omega
   ·split<;>omega
theorem refcmp_any (t r t' r':Int) (w:World):
  Calls Tryz.prog 194 #[.agg #[t,r],.agg #[t',r']] w λe w'=>e= .returned (.int .i64 (jJ ⟨t,r⟩ ⟨t',r'⟩))∧Below w.heap.size w w':=by
 obtain⟨v,hv⟩:∃v,v=jJ ⟨t,r⟩ ⟨t',r'⟩:=⟨_,rfl⟩;have HV:=hid hv;rw[<-hv];clear hv;cases h1:Gst.lt ⟨t,r⟩ ⟨t',r'⟩ with
 |true=>
  obtain rfl:v= -1:=by rw[HV.out];unfold jJ;rw[aJ h1]
  have H1:=hid h1;clear h1;go_enter Tryz.func194,Tryz.ntmps194;go_wp2_with fail;refine(eN _ _ _ _ _).mono ?_;rw[H1.out];rintro e w1 ⟨rfl,hB⟩;go_wp2;go_ret;exact⟨rfl,(((ag _ _).alloc (aa _) _).alloc (by simp) _).trans (hB.mono (by simp;omega))⟩
 |false=>
 have H1:=hid h1;have key:∀b:Bool,Gst.lt ⟨t',r'⟩ ⟨t,r⟩=b->v=(if b=true then 1 else 0):=λb hb=>by
  rw[HV.out];unfold jJ;rw[h1,hb];rfl
 clear h1;cases h2:Gst.lt ⟨t',r'⟩ ⟨t,r⟩ with
 |true=>
  obtain rfl:v=1:=key true h2;have H2:=hid h2;clear h2 key;go_enter Tryz.func194,Tryz.ntmps194;go_wp2_with fail;refine(eN _ _ _ _ _).mono ?_;rw[H1.out];rintro e w1 ⟨rfl,hB⟩;have c0:w1.cell? ⟨w.heap.size,0,none⟩=some (.int .i64 t):=by rw[hB.cell (by simp;omega)];go_simp
  have c1:w1.cell? ⟨w.heap.size,1,none⟩=some (.int .i64 r):=by rw[hB.cell (by simp;omega)];go_simp
  have d0:w1.cell? ⟨w.heap.size+1,0,none⟩=some (.int .i64 t'):=by rw[hB.cell (by simp)];go_simp
  have d1:w1.cell? ⟨w.heap.size+1,1,none⟩=some (.int .i64 r'):=by rw[hB.cell (by simp)];go_simp
  go_wp2_with fail;refine(eN _ _ _ _ _).mono ?_;rw[H2.out];rintro e w2 ⟨rfl,hB2⟩;go_wp2;go_ret;exact⟨rfl,((((ag _ _).alloc (aa _) _).alloc (by simp) _).trans (hB.mono (by simp;omega))).trans (hB2.mono (by have:=hB.size;simp at this;omega))⟩
 |false=>
  obtain rfl:v=0:=key false h2;have H2:=hid h2;clear h2 key;go_enter Tryz.func194,Tryz.ntmps194;go_wp2_with fail;refine(eN _ _ _ _ _).mono ?_;rw[H1.out];rintro e w1 ⟨rfl,hB⟩;have c0:w1.cell? ⟨w.heap.size,0,none⟩=some (.int .i64 t):=by rw[hB.cell (by simp;omega)];go_simp
  have c1:w1.cell? ⟨w.heap.size,1,none⟩=some (.int .i64 r):=by rw[hB.cell (by simp;omega)];go_simp
  have d0:w1.cell? ⟨w.heap.size+1,0,none⟩=some (.int .i64 t'):=by rw[hB.cell (by simp)];go_simp
  have d1:w1.cell? ⟨w.heap.size+1,1,none⟩=some (.int .i64 r'):=by rw[hB.cell (by simp)];go_simp
  go_wp2_with fail;refine(eN _ _ _ _ _).mono ?_;rw[H2.out];rintro e w2 ⟨rfl,hB2⟩;go_wp2;go_ret;exact⟨rfl,((((ag _ _).alloc (aa _) _).alloc (by simp) _).trans (hB.mono (by simp;omega))).trans (hB2.mono (by have:=hB.size;simp at this;omega))⟩
theorem gx (t r i t' r' i':Int) (w:World):
  Calls Tryz.prog 170 #[.agg #[t,r,i],.agg #[t',r',i']] w λe w'=>e= .returned (.int .i64 (rcmpD ⟨⟨t,r⟩,i⟩ ⟨⟨t',r'⟩,i'⟩))∧Below w.heap.size w w':=by
 obtain⟨v,hv⟩:∃v,v=rcmpD ⟨⟨t,r⟩,i⟩ ⟨⟨t',r'⟩,i'⟩:=⟨_,rfl⟩;have HV:=hid hv;rw[<-hv];clear hv;obtain⟨q,hq⟩:∃q,q=jJ ⟨t,r⟩ ⟨t',r'⟩:=⟨_,rfl⟩;have hvq:v=(if q≠0 then q else if i<i' then -1 else if i'<i then 1 else 0):=by rw[HV.out,hq];rfl
 have HQ:=hid hq;have HVQ:=hid hvq;clear hq hvq HV;go_enter Tryz.func170,Tryz.ntmps170;go_wp2_with fail;refine(refcmp_any _ _ _ _ _).mono ?_;rw[<-HQ.out];rintro e w1 ⟨rfl,hB⟩;have c2:w1.cell? ⟨w.heap.size,2,none⟩=some (.int .i64 i):=by rw[hB.cell (by simp;omega)];go_simp
 have d2:w1.cell? ⟨w.heap.size+1,2,none⟩=some (.int .i64 i'):=by rw[hB.cell (by simp)];go_simp
 have hBB:=(((ag w.heap.size w).alloc (aa _) (.cells #[t,r,i] 108)).alloc (by simp) (.cells #[t',r',i'] 108)).trans (hB.mono (by simp;omega));clear hB;by_cases h0:q=0
 ·subst h0;by_cases h1:i<i'
  ·obtain rfl:v= -1:=by rw[HVQ.out];simp[h1]
   go_wp2;go_ret;exact⟨rfl,hBB⟩
  ·by_cases h2:i'<i
   ·obtain rfl:v=1:=by rw[HVQ.out];simp[h1,h2]
    have t1:decide (i<i')=false:=aE h1;clear h1;go_wp2;go_ret;exact⟨rfl,hBB⟩
   ·obtain rfl:v=0:=by rw[HVQ.out];simp[h1,h2]
    have t1:decide (i<i')=false:=aE h1;have t2:decide (i'<i)=false:=aE h2;clear h1 h2;go_wp2;go_ret;exact⟨rfl,hBB⟩
 ·obtain rfl:v=q:=by rw[HVQ.out];simp[h0]
  have t1:(v != 0)=true:=by rw[eM];exact h0
  clear h0;go_wp2;go_ret;exact⟨rfl,hBB⟩
end
section
open Go.RowKit Go.Lib Go.Sort
section
variable {P : Program} {ops : Array Oper} {C : World → Prop} {Q : Exit → Act → World → Prop} {Q' : Act → Prop}
theorem iN (hQ:∀a w,C w->Q' a->Q .normal a w):∀(l:List Oper) (a:Act) (w:World),C w->wpQuiet P ops C Q' l a->wpList P ops Q l a w
 | [],a,w,hc,h=>hQ a w hc h
 | o::rest,a,w,hc,h=>by
  unfold wpList
  unfold wpQuiet at h
  by_cases hw:Region.wanted o (yielded ops a.tmps)=true
  ·rw[aJ hw] at h ⊢
   exact .inl (Oper.wp_of_quiet hc (λa' w' hc' hk=>iN hQ rest a' w' hc' hk) h)
  ·rw[aC hw] at h ⊢
   exact iN hQ rest _ w hc h
theorem bF {id:Nat} {a:Act} {w:World} {l:List Oper}
  (h:wpQuiet P l.toArray (λw'=>∃p:Regrown,w'=grow (redrawn w p.d) p.os) (λa'=>∀w',(∃p:Regrown,w'=grow (redrawn w p.d) p.os)->Q .normal a' w') l a):(Code.region id l.toArray false).wp P Q a w:=by
 refine wp_region ?_;have e:=wpOps_eq_wpList (P:=P) (ops:=l.toArray) (Q:=Q) l 0 (by simp);rw[List.range_eq_range',List.size_toArray,e];exact iN (λa w hc h=>h w hc) l a w ⟨⟨w.drawn,#[]⟩,by rw[grow_empty];rfl⟩ h
end
end
end
section
open Go.RowKit Go.Lib Go.Sort
attribute [local go_sem ↓] Go.wp_at_zero Go.wp_at_succ
theorem encV_ok {g:Grp} (h:chkB g=true):encV g= .tuple #[.string ⟨(grpZ g).toArray⟩,(0:Int)]:=by unfold encV;rw[aJ h]
theorem encV_no {g:Grp} (h:chkB g=false):encV g= .tuple #[.string ⟨#[]⟩,(80:Int)]:=by unfold encV;rw[aC (by rw[h];decide)]
end
end Go.Proofs.YtkhmicndehlneaaGreatDoor
