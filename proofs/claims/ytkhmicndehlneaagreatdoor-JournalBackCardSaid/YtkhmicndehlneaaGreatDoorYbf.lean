/- Part 6 of the walks and plain laws that this claim uses, joined. Conditions: as each theorem states. -/
import Derived.Test.YtkhmicndehlneaaGreatDoorYbe
namespace Go.Proofs.YtkhmicndehlneaaGreatDoor
set_option maxRecDepth 100000
set_option maxHeartbeats 16000000
set_option linter.unusedVariables false
section
section
open Go.RowKit Go.Lib Go.Sort
def kw (u v:List Gst):Bool:=decide (u.length=v.length) && i8 u.length (λi=>(u.getD i .zero).eqb (v.getD i .zero))
theorem sameSt_iff {u v:List Gst}:kw u v=true↔u=v:=by
 unfold kw;rw[ap,ak];refine⟨λ⟨b,c⟩=>List.ext_getElem b λi a d=> ?_,λh=>⟨by rw[h],ed λi _=>by rw[h,Gst.eqb_iff]⟩⟩;have:=jz c i a;rw[Gst.eqb_iff,ae,ae,an a,an d] at this;exact this
theorem sames_any (A B:Option Addr) (c d:Nat) (u v:List Gst) (S T:Nat->Prop) (w:World) (hl:u.length<=9223372036854775807) (hA:StsS w S A u) (hB:StsS w T B v):
  Calls Tryz.prog 140 #[.slice A u.length c,.slice B v.length d] w λe w'=>e= .returned (.bool (kw u v))∧Below w.heap.size w w':=by
 have O:=hid hA;have P:=hid hB;obtain⟨n,p⟩:∃n,n=u.length:=⟨_,rfl⟩;obtain⟨m,q⟩:∃m,m=v.length:=⟨_,rfl⟩;obtain⟨r,b⟩:∃r,r=kw u v:=⟨_,rfl⟩;rw[<-b];rw[<-p] at hl ⊢;rw[<-q];have j:=hid p;have s:=hid q;have t:=hid b;clear p q b hA hB;by_cases o:n=m
 ·subst o;go_enter Tryz.func140,Tryz.ntmps140;go_wp2;go_loopw [5] (λi wr=>∃k:Nat,k<=n∧i= .int .i64 k∧Below w.heap.size w wr∧Hid (∀i,i<k->(u.getD i .zero).eqb (v.getD i .zero)=true)) (λi _=>n-(RowKit.intOf i).toNat)
  case atStart=>exact⟨0,by omega,rfl,ag _ _,λi J=>absurd J (by omega)⟩
  case round=>
   obtain⟨k,U,rfl,f,K⟩:=hrel;by_cases L:k<n
   ·obtain⟨V,W,rfl,-,Q,z,C⟩:=StsS.at_ (RowG.agr O.out (Agr.below f)) (k:=k) (by have:=j.out;omega);obtain⟨X,Y,rfl,-,R,D,E⟩:=StsS.at_ (RowG.agr P.out (Agr.below f)) (k:=k) (by have:=s.out;omega);have g:∃x,x=u.getD k .zero:=⟨_,rfl⟩;obtain⟨x,g⟩:=g;obtain⟨y,l⟩:∃y,y=v.getD k .zero:=⟨_,rfl⟩;rw[<-g] at z C;rw[<-l] at D E;cases a:x.eqb y with
    | true=>
     have M:Hid (∀i,i<k+1->(u.getD i .zero).eqb (v.getD i .zero)=true):=λi J=>by
      rcases cj i k with h|h
      ·exact K.out i h
      ·obtain rfl:i=k:=by omega
       rw[<-g,<-l,a]
     clear g l;obtain⟨F,G⟩:=x;obtain⟨H,I⟩:=y;simp only at z C D E;have N:=ne_st F G H I true a;clear a;go_wp2;go_quiet (fail);go_wp2;go_roundw
     case rel=>exact⟨k+1,by omega,by go_num,jy f _,M⟩
     case measure=>simp[RowKit.intOf];omega
    | false=>
     have b:r=false:=by
      rw[t.out];unfold kw;rw[fl (by rw[<-j.out];exact L) (by rw[<-g,<-l];exact a),bc]
     subst b;clear g l;obtain⟨F,G⟩:=x;obtain⟨H,I⟩:=y;simp only at z C D E;have N:=ne_st F G H I false a;clear a;go_wp2;go_quiet (fail);go_wp2;go_ret;exact⟨rfl,jy f _⟩
   ·obtain rfl:k=n:=by omega
    have b:r=true:=by
     rw[t.out];unfold kw;rw[ed (by rw[<-j.out];exact K.out),aN (by rw[<-j.out,<-s.out]),Bool.and_self]
    subst b;go_wp2;go_ret;exact⟨rfl,f⟩
 ·have Z:((n:Int) != (m:Int))=true:=by rw[eM];omega
  have b:r=false:=by
   rw[t.out];unfold kw;rw[aE (by rw[<-j.out,<-s.out];exact o),ba]
  subst b;go_enter Tryz.func140,Tryz.ntmps140;go_wp2;go_ret;exact⟨rfl,ag _ _⟩
def kx (u v:List Gid):Bool:=decide (u.length=v.length) && i8 u.length (λi=>(u.getD i .zero).eqb (v.getD i .zero))
theorem sameId_iff {u v:List Gid}:kx u v=true↔u=v:=by
 unfold kx;rw[ap,ak];refine⟨λ⟨b,c⟩=>List.ext_getElem b λi a d=> ?_,λh=>⟨by rw[h],ed λi _=>by rw[h,Gid.eqb_iff]⟩⟩;have:=jz c i a;rw[Gid.eqb_iff,ae,ae,an a,an d] at this;exact this
theorem sameids_any (A B:Option Addr) (c d:Nat) (u v:List Gid) (S T:Nat->Prop) (w:World) (hl:u.length<=9223372036854775807) (hA:IdsS w S A u) (hB:IdsS w T B v):
  Calls Tryz.prog 141 #[.slice A u.length c,.slice B v.length d] w λe w'=>e= .returned (.bool (kx u v))∧Below w.heap.size w w':=by
 have U:=hid hA;have V:=hid hB;obtain⟨n,p⟩:∃n,n=u.length:=⟨_,rfl⟩;obtain⟨m,q⟩:∃m,m=v.length:=⟨_,rfl⟩;obtain⟨r,b⟩:∃r,r=kx u v:=⟨_,rfl⟩;rw[<-b];rw[<-p] at hl ⊢;rw[<-q];have j:=hid p;have s:=hid q;have t:=hid b;clear p q b hA hB;by_cases o:n=m
 ·subst o;go_enter Tryz.func141,Tryz.ntmps141;go_wp2;go_loopw [5] (λi wr=>∃k:Nat,k<=n∧i= .int .i64 k∧Below w.heap.size w wr∧Hid (∀i,i<k->(u.getD i .zero).eqb (v.getD i .zero)=true)) (λi _=>n-(RowKit.intOf i).toNat)
  case atStart=>exact⟨0,by omega,rfl,ag _ _,λi N=>absurd N (by omega)⟩
  case round=>
   obtain⟨k,Y,rfl,f,O⟩:=hrel;by_cases P:k<n
   ·obtain⟨Z,ao,rfl,-,W,z,C,D⟩:=IdsS.at_ (RowG.agr U.out (Agr.below f)) (k:=k) (by have:=j.out;omega);obtain⟨bb,bo,rfl,-,X,E,F,G⟩:=IdsS.at_ (RowG.agr V.out (Agr.below f)) (k:=k) (by have:=s.out;omega);have g:∃x,x=u.getD k .zero:=⟨_,rfl⟩;obtain⟨x,g⟩:=g;obtain⟨y,l⟩:∃y,y=v.getD k .zero:=⟨_,rfl⟩;rw[<-g] at z C D;rw[<-l] at E F G;cases a:x.eqb y with
    | true=>
     have Q:Hid (∀i,i<k+1->(u.getD i .zero).eqb (v.getD i .zero)=true):=λi N=>by
      rcases cj i k with h|h
      ·exact O.out i h
      ·obtain rfl:i=k:=by omega
       rw[<-g,<-l,a]
     clear g l;obtain⟨⟨H,I⟩,J⟩:=x;obtain⟨⟨K,L⟩,M⟩:=y;simp only at z C D E F G;have R:=ne_id H I J K L M true a;clear a;go_wp2;go_quiet (fail);go_wp2;go_roundw
     case rel=>exact⟨k+1,by omega,by go_num,jy f _,Q⟩
     case measure=>simp[RowKit.intOf];omega
    | false=>
     have b:r=false:=by
      rw[t.out];unfold kx;rw[fl (by rw[<-j.out];exact P) (by rw[<-g,<-l];exact a),bc]
     subst b;clear g l;obtain⟨⟨H,I⟩,J⟩:=x;obtain⟨⟨K,L⟩,M⟩:=y;simp only at z C D E F G;have R:=ne_id H I J K L M false a;clear a;go_wp2;go_quiet (fail);go_wp2;go_ret;exact⟨rfl,jy f _⟩
   ·obtain rfl:k=n:=by omega
    have b:r=true:=by
     rw[t.out];unfold kx;rw[ed (by rw[<-j.out];exact O.out),aN (by rw[<-j.out,<-s.out]),Bool.and_self]
    subst b;go_wp2;go_ret;exact⟨rfl,f⟩
 ·have t1:((n:Int) != (m:Int))=true:=by rw[eM];omega
  have b:r=false:=by
   rw[t.out];unfold kx;rw[aE (by rw[<-j.out,<-s.out];exact o),ba]
  subst b;go_enter Tryz.func141,Tryz.ntmps141;go_wp2;go_ret;exact⟨rfl,ag _ _⟩
end
section
open Go.RowKit Go.Lib Go.Sort
section
variable {P : Program} {ops : Array Oper} {rest : List Oper} {o : Oper} {a : Act} {C : World → Prop}
theorem eI {Q:Act->Prop} (hw:Region.wanted o (yielded ops a.tmps)=true) (ty:TypeId) (x:Operand) (ho:o.op= .load ty x) (b q:Nat) (hx:a.eval x= .pointer (some ⟨b,q,none⟩)) (cs:List Value) (d:TypeDesc) (hC:∀w,C w->w.rangeAt b q cs)
  (hu:P.underlying ty=some d) (hd:d.isRow=true) (hi:(P.info? ty).map (·.size)=some cs.length) (h:wpQuiet P ops C Q rest (a.put o.dst (.agg cs.toArray))):wpQuiet P ops C Q (o::rest) a:=by
 unfold wpQuiet;rw[aJ hw];refine⟨.agg cs.toArray,λw c=> ?_,h⟩;unfold Oper.quietAt execOp;simp only[ho,hx,Instr.loadAt,Instr.sureAddr,Sem.run_bind,Sem.run_pure,Result.andThen_ok,run_loadVar_mid w b q ty cs d (hC w c) hu hd hi];exact⟨rfl,rfl⟩
end
def opL (o:Gop) (x:OpX):List Value:=
 [.int .i64 o.kind,.int .i64 o.node.s.t,.int .i64 o.node.s.r,.int .i64 o.node.i,.int .i64 o.parent.s.t,.int .i64 o.parent.s.r,.int .i64 o.parent.i,.string o.name,.bool o.dir,.slice x.dA o.dots.length x.dc,
  .int .i64 o.after.s.t,.int .i64 o.after.s.r,.int .i64 o.after.i,.int .i64 o.elem.s.t,.int .i64 o.elem.s.r,.int .i64 o.elem.i,.string o.text,.slice x.eA o.elems.length x.ec]
theorem jw {w:World} {b q:Nat} {o:Gop} {x:OpX} (hc:∀j,j<18->w.cell? ⟨b,q+j,none⟩=some ((opA o x).getD j undef)):w.rangeAt b q (opL o x):=λj v hv=>by
 have hj:j<18:=by
  have:=(ep.1 hv).1;exact this
 rw[hc j hj];congr 1;have e:(opA o x).getD j undef=(opL o x).getD j undef:=by
  rw[Array.getD_eq_getD_getElem?,ae];show((opL o x).toArray)[j]?.getD undef=_;rw[List.getElem?_toArray]
 rw[e,ae,hv];rfl
theorem eT {W:World} {b q:Nat} {cs:List Value} (h:W.rangeAt b q cs):∀w,(∃p:Regrown,w=grow (redrawn W p.d) p.os)->w.rangeAt b q cs:=by
 rintro w ⟨p,rfl⟩ j v a;exact aj (h j v a) _ _
end
section
open Go.RowKit Go.Lib Go.Sort
attribute [local go_sem ↓] Go.wp_at_zero Go.wp_at_succ
def jv (a b:Gop):Bool:=decide (a.kind=b.kind) && a.node.eqb b.node && a.parent.eqb b.parent && decide (a.name=b.name) && decide (a.dir=b.dir) && a.after.eqb b.after && a.elem.eqb b.elem && decide (a.text=b.text) && kw a.dots b.dots && kx a.elems b.elems
theorem sameOp_iff {a b:Gop}:jv a b=true↔a=b:=by
 obtain⟨o,p,q,r,s,t,u,v,w,m⟩:=a;obtain⟨x,y,z,A,B,C,D,E,F,n⟩:=b;simp only[jv,ap,ak,Gid.eqb_iff,sameSt_iff,sameId_iff,Gop.mk.injEq];constructor
 ·rintro⟨⟨⟨⟨⟨⟨⟨⟨⟨d,e⟩,f⟩,g⟩,h⟩,i⟩,j⟩,k⟩,l⟩,c⟩;exact⟨d,e,f,g,h,l,i,j,k,c⟩
 ·rintro⟨d,e,f,g,h,l,i,j,k,c⟩;exact⟨⟨⟨⟨⟨⟨⟨⟨⟨d,e⟩,f⟩,g⟩,h⟩,i⟩,j⟩,k⟩,l⟩,c⟩
theorem beq_of {α:Type} [DecidableEq α] {a b:α} {v:Bool} (h:decide (a=b)=v):(a == b)=v:=h
theorem beq_str {a b:ByteArray} {v:Bool} (h:decide (a=b)=v):(a.toList == b.toList)=v:=by
 rw[<-h,bw,ce,ak,eS,eS];exact⟨λe=>fD (eH.1 e),λe=>by rw[e]⟩
theorem sameop_any (o1 o2:Gop) (x1 x2:OpX) (S1 S2:Nat->Prop) (w:World) (hI1:OpIn w S1 o1 x1) (hI2:OpIn w S2 o2 x2):
  Calls Tryz.prog 86 #[.agg (opA o1 x1),.agg (opA o2 x2)] w λe w'=>e= .returned (.bool (jv o1 o2))∧Below w.heap.size w w':=by
 obtain⟨h,⟨⟨t,u⟩,v⟩,⟨⟨x,y⟩,z⟩,i,p,f,⟨⟨A,B⟩,C⟩,⟨⟨D,E⟩,F⟩,j,c⟩:=o1;obtain⟨k,⟨⟨G,H⟩,I⟩,⟨⟨J,K⟩,L⟩,l,q,g,⟨⟨M,N⟩,O⟩,⟨⟨P,Q⟩,R⟩,m,d⟩:=o2;obtain⟨V,r,S,n⟩:=x1;obtain⟨X,s,T,o⟩:=x2;have af:f.length<=9223372036854775807:=by have:=hI1.dle;have:=hI1.dmax;unfold maxLen at this;simp only at *;omega
 have ah:c.length<=9223372036854775807:=by have:=hI1.ele;have:=hI1.emax;unfold maxLen at this;simp only at *;omega
 obtain⟨b0,h0⟩:∃b,decide (h=k)=b:=⟨_,rfl⟩;have q0:=beq_of h0;obtain⟨b1,h1⟩:∃b,Gid.eqb ⟨⟨t,u⟩,v⟩ ⟨⟨G,H⟩,I⟩=b:=⟨_,rfl⟩;have q1:=eJ t u v G H I b1 h1;obtain⟨b2,h2⟩:∃b,Gid.eqb ⟨⟨x,y⟩,z⟩ ⟨⟨J,K⟩,L⟩=b:=⟨_,rfl⟩;have q2:=eJ x y z J K L b2 h2;obtain⟨b3,h3⟩:∃b,decide (i=l)=b:=⟨_,rfl⟩;have q3:=beq_str h3;obtain⟨b4,h4⟩:∃b,decide (p=q)=b:=⟨_,rfl⟩;have q4:=beq_of h4;obtain⟨b5,h5⟩:∃b,Gid.eqb ⟨⟨A,B⟩,C⟩ ⟨⟨M,N⟩,O⟩=b:=⟨_,rfl⟩;have q5:=eJ A B C M N O b5 h5;obtain⟨b6,h6⟩:∃b,Gid.eqb ⟨⟨D,E⟩,F⟩ ⟨⟨P,Q⟩,R⟩=b:=⟨_,rfl⟩;have q6:=eJ D E F P Q R b6 h6;obtain⟨b7,h7⟩:∃b,decide (j=m)=b:=⟨_,rfl⟩;have q7:=beq_str h7;obtain⟨b8,h8⟩:∃b,b=kw f g:=⟨_,rfl⟩;obtain⟨b9,h9⟩:∃b,b=kx c d:=⟨_,rfl⟩;obtain⟨ai,U⟩:∃a,a=jv ⟨h,⟨⟨t,u⟩,v⟩,⟨⟨x,y⟩,z⟩,i,p,f,⟨⟨A,B⟩,C⟩,⟨⟨D,E⟩,F⟩,j,c⟩ ⟨k,⟨⟨G,H⟩,I⟩,⟨⟨J,K⟩,L⟩,l,q,g,⟨⟨M,N⟩,O⟩,⟨⟨P,Q⟩,R⟩,m,d⟩:=⟨_,rfl⟩;rw[<-U];have ae:=hid (show ai=(b0 && b1 && b2 && b3 && b4 && b5 && b6 && b7 && b8 && b9) by rw[U,<-h0,<-h1,<-h2,<-h3,<-h4,<-h5,<-h6,<-h7,h8,h9];rfl);have hD:∀W,Below w.heap.size w W->Calls Tryz.prog 140 #[.slice V f.length r,.slice X g.length s] W λe w'=>e= .returned (.bool b8)∧Below W.heap.size W w':=λW Z=>by
  rw[h8];exact sames_any V X r s f g S1 S2 W af (RowG.agr hI1.dots (Agr.below Z)) (RowG.agr hI2.dots (Agr.below Z))
 have hE:∀W,Below w.heap.size w W->Calls Tryz.prog 141 #[.slice S c.length n,.slice T d.length o] W λe w'=>e= .returned (.bool b9)∧Below W.heap.size W w':=λW Z=>by
  rw[h9];exact sameids_any S T n o c d S1 S2 W ah (RowG.agr hI1.elems (Agr.below Z)) (RowG.agr hI2.elems (Agr.below Z))
 have HD:=hid hD;have HE:=hid hE;clear hD hE U h0 h1 h2 h3 h4 h5 h6 h7 h8 h9 hI1 hI2;have ab:=hid (show Below w.heap.size w ((w.alloc (.cells #[h,t,u,v,x,y,z,i,p,.slice V f.length r,A,B,C,D,E,F,j,.slice S c.length n] 125)).alloc (.cells #[k,G,H,I,J,K,L,l,q,.slice X g.length s,M,N,O,P,Q,R,m,.slice T d.length o] 125)) from((ag _ _).alloc (aa _) _).alloc (by simp) _);show Calls _ _ #[.agg #[h,t,u,v,x,y,z,i,p,.slice V f.length r,A,B,C,D,E,F,j,.slice S c.length n],.agg #[k,G,H,I,J,K,L,l,q,.slice X g.length s,M,N,O,P,Q,R,m,.slice T d.length o]] _ _;go_enter Tryz.func86,Tryz.ntmps86
 go_wp2_with (first
  |(go_at_call 140;refine(HD.out _ ab.out).mono ?_;rintro e w3 ⟨rfl,Y⟩;have ac:=bT ab Y;have ak:w3.cell? ⟨w.heap.size,17,none⟩=some (.slice S c.length n):=(Y.cell (by simp;omega)).trans (by go_simp);have al:w3.cell? ⟨w.heap.size+1,17,none⟩=some (.slice T d.length o):=(Y.cell (by simp)).trans (by go_simp);clear Y)
  |(go_at_call 141;refine(HE.out _ ac.out).mono ?_;rintro e w4 ⟨rfl,ad⟩;have aj:=bT ac ad;clear ad))
 all_goals
  go_ret;refine⟨dk (by rw[ae.out];simp[*]),?_⟩
  first|exact aj.out|exact ac.out|exact ab.out
end
section
open Go.RowKit Go.Lib Go.Sort
attribute [local go_sem ↓] Go.wp_at_zero Go.wp_at_succ
def sameOps (a b:List Gop):Bool:=decide (a.length=b.length) && i8 a.length (λi=>jv (a.getD i (opO 0 .zero)) (b.getD i (opO 0 .zero)))
theorem sameOps_iff {u v:List Gop}:sameOps u v=true↔u=v:=by
 unfold sameOps;rw[ap,ak];refine⟨λ⟨b,c⟩=>List.ext_getElem b λi a d=> ?_,λh=>⟨by rw[h],ed λi _=>by rw[h,sameOp_iff]⟩⟩;have:=jz c i a;rw[sameOp_iff,ae,ae,an a,an d] at this;exact this
def sameG (a b:Grp):Bool:=a.s.eqb b.s && decide (a.n=b.n) && decide (a.deps=b.deps) && a.u.eqb b.u && sameOps a.ops b.ops
theorem sameG_iff {a b:Grp}:sameG a b=true↔a=b:=by
 obtain⟨h,i,j,k,l⟩:=a;obtain⟨m,n,o,p,q⟩:=b;simp only[sameG,ap,ak,Gst.eqb_iff,sameOps_iff,Grp.mk.injEq];constructor
 ·rintro⟨⟨⟨⟨c,d⟩,e⟩,f⟩,g⟩;exact⟨c,d,e,f,g⟩
 ·rintro⟨c,d,e,f,g⟩;exact⟨⟨⟨⟨c,d⟩,e⟩,f⟩,g⟩
theorem sameg_loop (t1 r1 n1:Int) (v1:List Int) (ut1 ur1:Int) (ops1:List Gop) (t2 r2 n2:Int) (v2:List Int) (ut2 ur2:Int) (ops2:List Gop) (dA1 dA2 oA1 oA2:Option Addr) (dc1 dc2 oc1 oc2:Nat) (S1 S2:Nat->Prop) (w:World) (ans:Bool)
  (q0:∀w,(binOp .neq 42 (.agg #[t1,r1]) (.agg #[t2,r2])).run Tryz.prog w= .ok (.bool !true) w) (e1:(n1 != n2)=false)
  (q3:∀w,(binOp .neq 42 (.agg #[ut1,ur1]) (.agg #[ut2,ur2])).run Tryz.prog w= .ok (.bool !true) w) (hv1:v1.length<=9223372036854775807) (ho1:ops1.length<=9223372036854775807) (hl0:ops1.length=ops2.length)
  (hans:ans=i8 ops1.length (λi=>jv (ops1.getD i (opO 0 .zero)) (ops2.getD i (opO 0 .zero))))
  (hD:∀W,Below w.heap.size w W->Calls Tryz.prog 29 #[.slice dA1 v1.length dc1,.slice dA2 v2.length dc2] W λe w'=>e= .returned (.bool true)∧Below W.heap.size W w') (hI1:OpsS w S1 oA1 ops1) (hI2:OpsS w S2 oA2 ops2):
  Calls Tryz.prog 46 #[.agg #[t1,r1,n1,.slice dA1 v1.length dc1,ut1,ur1,.slice oA1 ops1.length oc1],.agg #[t2,r2,n2,.slice dA2 v2.length dc2,ut2,ur2,.slice oA2 ops2.length oc2]] w λe w'=>e= .returned (.bool ans)∧Below w.heap.size w w':=by
 have H:=hid (show Below w.heap.size w ((w.alloc (.cells #[t1,r1,n1,.slice dA1 v1.length dc1,ut1,ur1,.slice oA1 ops1.length oc1] 45)).alloc (.cells #[t2,r2,n2,.slice dA2 v2.length dc2,ut2,ur2,.slice oA2 ops2.length oc2] 45)) from((ag _ _).alloc (aa _) _).alloc (by simp) _);have ac:=hid ((ax (w.alloc (.cells #[t1,r1,n1,.slice dA1 v1.length dc1,ut1,ur1,.slice oA1 ops1.length oc1] 45)) (.cells #[t2,r2,n2,.slice dA2 v2.length dc2,ut2,ur2,.slice oA2 ops2.length oc2] 45) w.heap.size (by simp)).trans (am w _));have ad:=hid (bn (n:=w.heap.size+1) (w.alloc (.cells #[t1,r1,n1,.slice dA1 v1.length dc1,ut1,ur1,.slice oA1 ops1.length oc1] 45)) (.cells #[t2,r2,n2,.slice dA2 v2.length dc2,ut2,ur2,.slice oA2 ops2.length oc2] 45) (by simp));have U:ops1.length=ops2.length:=hl0;have e4:((ops1.length:Int) != (ops2.length:Int))=false:=by rw[bne_eq_false_iff_eq,U]
 have HL:=hid U;have r:=hid hans;have HD:=hid hD;have ae:=hid hI1;have af:=hid hI2;clear U hans hD hI1 hI2 hl0;go_enter Tryz.func46,Tryz.ntmps46;go_upto_region 3 with(go_at_call 29;refine(HD.out _ H.out).mono ?_;rintro e c ⟨rfl,l⟩;have p:=hid ((l.block w.heap.size (by simp;omega)).trans ac.out);have g:=hid ((l.block (w.heap.size+1) (by simp)).trans ad.out);have ah:=bT H l;clear l;have ai:c.cell? ⟨w.heap.size,4,none⟩=some (.int .i64 ut1):=by { rw[crw p.out];rfl };have ak:c.cell? ⟨w.heap.size,5,none⟩=some (.int .i64 ur1):=by { rw[crw p.out];rfl };have s:c.cell? ⟨w.heap.size,6,none⟩=some (.slice oA1 ops1.length oc1):=by { rw[crw p.out];rfl };have al:c.cell? ⟨w.heap.size+1,4,none⟩=some (.int .i64 ut2):=by { rw[crw g.out];rfl };have an:c.cell? ⟨w.heap.size+1,5,none⟩=some (.int .i64 ur2):=by { rw[crw g.out];rfl };have t:c.cell? ⟨w.heap.size+1,6,none⟩=some (.slice oA2 ops2.length oc2):=by { rw[crw g.out];rfl });have V:w.heap.size+1<c.heap.size:=lt_of_block g.out;obtain⟨X1,I,u⟩:=ae.out;obtain⟨X2,J,v⟩:=af.out;have ap:=hid I;have X:=hid u;have aq:=hid J;have Y:=hid v;clear I u J v q0 q3 e1 e4 ai ak al an s t;obtain⟨m,hm⟩:∃m,m=ops1.length:=⟨_,rfl⟩;have HM:=hid hm;go_upto_region 4 with(fail);go_loopw [5] (λi wr=>∃j:Nat,j<=m∧i= .int .i64 j∧Below c.heap.size c wr∧Hid (∀i,i<j->jv (ops1.getD i (opO 0 .zero)) (ops2.getD i (opO 0 .zero))=true)) (λi _=>m-(RowKit.intOf i).toNat)
 case atStart=>exact⟨0,by omega,rfl,ag _ _,hid (λi hi=>absurd hi (by omega))⟩
 case round=>
  obtain⟨j,hj,rfl,k,HK⟩:=hrel;have s:wr.cell? ⟨w.heap.size,6,none⟩=some (.slice oA1 ops1.length oc1):=by rw[crw ((k.block w.heap.size (by omega)).trans p.out)];rfl
  have t:wr.cell? ⟨w.heap.size+1,6,none⟩=some (.slice oA2 ops2.length oc2):=by rw[crw ((k.block (w.heap.size+1) V).trans g.out)];rfl
  have a:=bT ah k;by_cases aC:j<m
  ·have q:j<ops1.length:=by omega
   have y:j<ops2.length:=by have:=HL.out;omega
   obtain⟨ab,ao,rfl,-,aD,Z⟩:=(RowG.agr ap.out (Agr.below a.out)) j q;obtain⟨bb,bo,rfl,-,aF,hd⟩:=(RowG.agr aq.out (Agr.below a.out)) j y;have z:=(X.out j q).agr (Agr.below a.out);have A:=(Y.out j y).agr (Agr.below a.out);obtain⟨B,ho1⟩:∃o,o=ops1.getD j (opO 0 .zero):=⟨_,rfl⟩;obtain⟨C,D⟩:∃o,o=ops2.getD j (opO 0 .zero):=⟨_,rfl⟩;obtain⟨F,K⟩:∃x,x=X1 j:=⟨_,rfl⟩;obtain⟨G,L⟩:∃x,x=X2 j:=⟨_,rfl⟩;simp only[<-ho1,<-K] at Z z;simp only[<-D,<-L] at hd A;obtain⟨bs,E⟩:∃b,b=jv B C:=⟨_,rfl⟩;have HS:=hid (show jv (ops1.getD j (opO 0 .zero)) (ops2.getD j (opO 0 .zero))=bs by rw[<-ho1,<-D,E]);have M:=eT (jw Z);have N:=eT (jw hd);have O:(opL B F).length=18:=rfl;have P:(opL C G).length=18:=rfl;have Q:∀d f,Calls Tryz.prog 86 #[.agg (opL B F).toArray,.agg (opL C G).toArray] (grow (redrawn wr d) f) λe ar=>e= .returned (.bool bs)∧Below (grow (redrawn wr d) f).heap.size (grow (redrawn wr d) f) ar:=λd f=>by
    rw[E];exact sameop_any B C F G S1 S2 (grow (redrawn wr d) f) (z.agr (Agr.below (bE wr d f))) (A.agr (Agr.below (bE wr d f)))
   have cS:=λd f=>ay (Q d f);clear Q;generalize opL B F=k1 at *;generalize opL C G=k2 at *;have R:(Tryz.prog.info? 125).map (·.size)=some k1.length:=by rw[O];kernel_rfl
   have S:(Tryz.prog.info? 125).map (·.size)=some k2.length:=by rw[P];kernel_rfl
   have au:=hid M;have av:=hid N;have aw:=hid R;have aA:=hid S;clear M N R S O P;have aG:=aj s;have aH:=aj t;clear Z hd z A ho1 D K L E;have i1:(0:Int)<=(j:Int):=by omega
   have i2:(j:Int)<(ops1.length:Int):=by omega
   have i3:(j:Int)<(ops2.length:Int):=by omega
   have i4:j<ops1.length:=q;have i5:j<ops2.length:=y;go_wp2;refine rqb ?_
   repeat(any_goals(first|(refine eI rfl _ _ rfl ab (ao+j*18) rfl k1 _ au.out az rfl aw.out ?_)|(refine eI rfl _ _ rfl bb (bo+j*18) rfl k2 _ av.out az rfl aA.out ?_)|go_big_quiet_step (with_reducible exact cS _ _)|quiet_step (with_reducible exact cS _ _)))
   refine qz λwq T=> ?_;cases bs with
   |false=>
    obtain rfl:ans=false:=by rw[r.out,fl q HS.out]
    go_wp2;go_ret;exact⟨rfl,a.out.trans (T.mono a.out.size)⟩
   |true=>
    have aB:=hid (show ∀i,i<j+1->jv (ops1.getD i (opO 0 .zero)) (ops2.getD i (opO 0 .zero))=true from λi hi=>if h:i<j then HK.out i h else (by(obtain rfl:i=j:=(by omega));exact HS.out));go_wp2;go_roundw
    case rel=>exact⟨j+1,by omega,by go_num,k.trans (T.mono k.size),aB⟩
    case measure=>simp[RowKit.intOf];omega
  ·obtain rfl:j=m:=by omega
   obtain rfl:ans=true:=by rw[r.out,<-HM.out,ed HK.out]
   have i6:¬j<ops1.length:=by omega
   have i7:decide (j<ops1.length)=false:=aE i6;go_wp2;go_ret;exact⟨rfl,a.out⟩
theorem sameg_any (a b:Grp) (dA1 dA2 oA1 oA2:Option Addr) (dc1 dc2 oc1 oc2:Nat) (S1 S2:Nat->Prop) (w:World) (hI1:GrIn w S1 a dA1 dc1 oA1 oc1) (hI2:GrIn w S2 b dA2 dc2 oA2 oc2):
  Calls Tryz.prog 46 #[.agg (grA a dA1 dc1 oA1 oc1),.agg (grA b dA2 dc2 oA2 oc2)] w λe w'=>e= .returned (.bool (sameG a b))∧Below w.heap.size w w':=by
 obtain⟨s,B⟩:∃r,r=sameG a b:=⟨_,rfl⟩;rw[<-B];obtain⟨⟨C,D⟩,v,u,⟨k,l⟩,f⟩:=a;obtain⟨⟨E,F⟩,x,y,⟨m,o⟩,j⟩:=b;obtain⟨Q,R⟩:∃b,Gst.eqb ⟨C,D⟩ ⟨E,F⟩=b:=⟨_,rfl⟩;obtain⟨X,N⟩:∃b,decide (v=x)=b:=⟨_,rfl⟩;obtain⟨S,T⟩:∃b,decide (u=y)=b:=⟨_,rfl⟩;obtain⟨U,V⟩:∃b,Gst.eqb ⟨k,l⟩ ⟨m,o⟩=b:=⟨_,rfl⟩;obtain⟨Y,O⟩:∃b,decide (f.length=j.length)=b:=⟨_,rfl⟩;have q:=hid (show s=(Q && X && S && U && (Y && i8 f.length (λi=>jv (f.getD i (opO 0 .zero)) (j.getD i (opO 0 .zero))))) by rw[B,<-R,<-N,<-T,<-V,<-O];rfl);have q0:=ne_st C D E F Q R;have q3:=ne_st k l m o U V;have P:u.length<=9223372036854775807:=by have:=hI1.dle;have:=hI1.dmax;unfold maxLen at this;simp only at *;omega
 have Z:f.length<=9223372036854775807:=by have:=hI1.ole;have:=hI1.omax;unfold maxLen at this;simp only at *;omega
 have M:=hid (show ∀W,Below w.heap.size w W->Calls Tryz.prog 29 #[.slice dA1 u.length dc1,.slice dA2 y.length dc2] W λe w'=>e= .returned (.bool S)∧Below W.heap.size W w' from λW hB=>by
  rw[<-T];exact same_any dA1 dA2 dc1 dc2 u y W P (hI1.deps.vec.below hB) (hI2.deps.vec.below hB))
 have ab:=hid hI1.ops;have ac:=hid hI2.ops;have H4:=hid O;clear R T V hI1 hI2 B;show Calls _ _ #[.agg #[C,D,v,.slice dA1 u.length dc1,k,l,.slice oA1 f.length oc1],.agg #[E,F,x,.slice dA2 y.length dc2,m,o,.slice oA2 j.length oc2]] _ _;have p:=hid (show Below w.heap.size w ((w.alloc (.cells #[C,D,v,.slice dA1 u.length dc1,k,l,.slice oA1 f.length oc1] 45)).alloc (.cells #[E,F,x,.slice dA2 y.length dc2,m,o,.slice oA2 j.length oc2] 45)) from((ag _ _).alloc (aa _) _).alloc (by simp) _);have z:=hid ((ax (w.alloc (.cells #[C,D,v,.slice dA1 u.length dc1,k,l,.slice oA1 f.length oc1] 45)) (.cells #[E,F,x,.slice dA2 y.length dc2,m,o,.slice oA2 j.length oc2] 45) w.heap.size (by simp)).trans (am w _));have A:=hid (bn (n:=w.heap.size+1) (w.alloc (.cells #[C,D,v,.slice dA1 u.length dc1,k,l,.slice oA1 f.length oc1] 45)) (.cells #[E,F,x,.slice dA2 y.length dc2,m,o,.slice oA2 j.length oc2] 45) (by simp));cases Q with
 |false=>
  obtain rfl:s=false:=by rw[q.out];simp
  go_enter Tryz.func46,Tryz.ntmps46;go_wp2_with (go_at_call 29;refine(M.out _ p.out).mono ?_;rintro e d ⟨rfl,c⟩;have g:=hid ((c.block w.heap.size (by simp;omega)).trans z.out);have h:=hid ((c.block (w.heap.size+1) (by simp)).trans A.out);have t:=bT p c;clear c;have G:d.cell? ⟨w.heap.size,4,none⟩=some (.int .i64 k):=by { rw[crw g.out];rfl };have H:d.cell? ⟨w.heap.size,5,none⟩=some (.int .i64 l):=by { rw[crw g.out];rfl };have I:d.cell? ⟨w.heap.size,6,none⟩=some (.slice oA1 f.length oc1):=by { rw[crw g.out];rfl };have J:d.cell? ⟨w.heap.size+1,4,none⟩=some (.int .i64 m):=by { rw[crw h.out];rfl };have K:d.cell? ⟨w.heap.size+1,5,none⟩=some (.int .i64 o):=by { rw[crw h.out];rfl };have L:d.cell? ⟨w.heap.size+1,6,none⟩=some (.slice oA2 j.length oc2):=by { rw[crw h.out];rfl });go_ret;exact⟨rfl,p.out⟩
 |true=>
 cases X with
 |false=>
  have e1:(v != x)=true:=by rw[eM];exact of_decide_eq_false N
  clear N;obtain rfl:s=false:=by rw[q.out];simp
  go_enter Tryz.func46,Tryz.ntmps46;go_wp2_with (go_at_call 29;refine(M.out _ p.out).mono ?_;rintro e d ⟨rfl,c⟩;have g:=hid ((c.block w.heap.size (by simp;omega)).trans z.out);have h:=hid ((c.block (w.heap.size+1) (by simp)).trans A.out);have t:=bT p c;clear c;have G:d.cell? ⟨w.heap.size,4,none⟩=some (.int .i64 k):=by { rw[crw g.out];rfl };have H:d.cell? ⟨w.heap.size,5,none⟩=some (.int .i64 l):=by { rw[crw g.out];rfl };have I:d.cell? ⟨w.heap.size,6,none⟩=some (.slice oA1 f.length oc1):=by { rw[crw g.out];rfl };have J:d.cell? ⟨w.heap.size+1,4,none⟩=some (.int .i64 m):=by { rw[crw h.out];rfl };have K:d.cell? ⟨w.heap.size+1,5,none⟩=some (.int .i64 o):=by { rw[crw h.out];rfl };have L:d.cell? ⟨w.heap.size+1,6,none⟩=some (.slice oA2 j.length oc2):=by { rw[crw h.out];rfl });go_ret;exact⟨rfl,p.out⟩
 |true=>
 have e1:(v != x)=false:=by rw[bne_eq_false_iff_eq];exact of_decide_eq_true N
 clear N;cases S with
 |false=>
  obtain rfl:s=false:=by rw[q.out];simp
  go_enter Tryz.func46,Tryz.ntmps46;go_wp2_with (go_at_call 29;refine(M.out _ p.out).mono ?_;rintro e d ⟨rfl,c⟩;have g:=hid ((c.block w.heap.size (by simp;omega)).trans z.out);have h:=hid ((c.block (w.heap.size+1) (by simp)).trans A.out);have t:=bT p c;clear c;have G:d.cell? ⟨w.heap.size,4,none⟩=some (.int .i64 k):=by { rw[crw g.out];rfl };have H:d.cell? ⟨w.heap.size,5,none⟩=some (.int .i64 l):=by { rw[crw g.out];rfl };have I:d.cell? ⟨w.heap.size,6,none⟩=some (.slice oA1 f.length oc1):=by { rw[crw g.out];rfl };have J:d.cell? ⟨w.heap.size+1,4,none⟩=some (.int .i64 m):=by { rw[crw h.out];rfl };have K:d.cell? ⟨w.heap.size+1,5,none⟩=some (.int .i64 o):=by { rw[crw h.out];rfl };have L:d.cell? ⟨w.heap.size+1,6,none⟩=some (.slice oA2 j.length oc2):=by { rw[crw h.out];rfl });go_ret;exact⟨rfl,t.out⟩
 |true=>
 cases U with
 |false=>
  obtain rfl:s=false:=by rw[q.out];simp
  go_enter Tryz.func46,Tryz.ntmps46;go_wp2_with (go_at_call 29;refine(M.out _ p.out).mono ?_;rintro e d ⟨rfl,c⟩;have g:=hid ((c.block w.heap.size (by simp;omega)).trans z.out);have h:=hid ((c.block (w.heap.size+1) (by simp)).trans A.out);have t:=bT p c;clear c;have G:d.cell? ⟨w.heap.size,4,none⟩=some (.int .i64 k):=by { rw[crw g.out];rfl };have H:d.cell? ⟨w.heap.size,5,none⟩=some (.int .i64 l):=by { rw[crw g.out];rfl };have I:d.cell? ⟨w.heap.size,6,none⟩=some (.slice oA1 f.length oc1):=by { rw[crw g.out];rfl };have J:d.cell? ⟨w.heap.size+1,4,none⟩=some (.int .i64 m):=by { rw[crw h.out];rfl };have K:d.cell? ⟨w.heap.size+1,5,none⟩=some (.int .i64 o):=by { rw[crw h.out];rfl };have L:d.cell? ⟨w.heap.size+1,6,none⟩=some (.slice oA2 j.length oc2):=by { rw[crw h.out];rfl });go_ret;exact⟨rfl,t.out⟩
 |true=>
 cases Y with
 |false=>
  have e4:((f.length:Int) != (j.length:Int))=true:=by rw[eM];have:=of_decide_eq_false O;omega
  clear O;obtain rfl:s=false:=by rw[q.out];simp
  go_enter Tryz.func46,Tryz.ntmps46;go_wp2_with (go_at_call 29;refine(M.out _ p.out).mono ?_;rintro e d ⟨rfl,c⟩;have g:=hid ((c.block w.heap.size (by simp;omega)).trans z.out);have h:=hid ((c.block (w.heap.size+1) (by simp)).trans A.out);have t:=bT p c;clear c;have G:d.cell? ⟨w.heap.size,4,none⟩=some (.int .i64 k):=by { rw[crw g.out];rfl };have H:d.cell? ⟨w.heap.size,5,none⟩=some (.int .i64 l):=by { rw[crw g.out];rfl };have I:d.cell? ⟨w.heap.size,6,none⟩=some (.slice oA1 f.length oc1):=by { rw[crw g.out];rfl };have J:d.cell? ⟨w.heap.size+1,4,none⟩=some (.int .i64 m):=by { rw[crw h.out];rfl };have K:d.cell? ⟨w.heap.size+1,5,none⟩=some (.int .i64 o):=by { rw[crw h.out];rfl };have L:d.cell? ⟨w.heap.size+1,6,none⟩=some (.slice oA2 j.length oc2):=by { rw[crw h.out];rfl });go_ret;exact⟨rfl,t.out⟩
 |true=>
  exact sameg_loop C D v u k l f E F x y m o j dA1 dA2 oA1 oA2 dc1 dc2 oc1 oc2 S1 S2 w s q0 e1 q3 P Z (of_decide_eq_true O) (by rw[q.out];rfl) M.out ab.out ac.out
end
end
end Go.Proofs.YtkhmicndehlneaaGreatDoor
