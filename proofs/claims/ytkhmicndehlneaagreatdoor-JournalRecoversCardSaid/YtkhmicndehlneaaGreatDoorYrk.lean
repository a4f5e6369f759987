/- Part 11 of the walks and plain laws that this claim uses, joined. Conditions: as each theorem states. -/
import Derived.Deep.LoopGhost
import Derived.WalkMore
import Derived.Test.YtkhmicndehlneaaGreatDoorYrj
namespace Go.Proofs.YtkhmicndehlneaaGreatDoor
set_option maxRecDepth 100000
set_option maxHeartbeats 16000000
set_option linter.unusedVariables false
section
section
open Go.RowKit Go.Lib Go.Sort
def kF (u v:List Gst):Bool:=decide (u.length=v.length) && jd u.length (λi=>(u.getD i .zero).eqb (v.getD i .zero))
theorem sameSt_iff {u v:List Gst}:kF u v=true↔u=v:=by
 unfold kF;rw[ay,au];refine⟨λ⟨b,c⟩=>List.ext_getElem b λi a d=> ?_,λh=>⟨by rw[h],es λi _=>by rw[h,Gst.eqb_iff]⟩⟩;have:=jF c i a;rw[Gst.eqb_iff,ae,ae,aw a,aw d] at this;exact this
theorem sames_any (A B:Option Addr) (c d:Nat) (u v:List Gst) (S T:Nat->Prop) (w:World) (Q:u.length<=9223372036854775807) (J:StsS w S A u) (K:StsS w T B v):
  Calls Tryz.prog 140 #[.slice A u.length c,.slice B v.length d] w λe w'=>e= .returned (.bool (kF u v))∧Below w.heap.size w w':=by
 have R:=hid J;have U:=hid K;obtain⟨n,p⟩:∃n,n=u.length:=⟨_,rfl⟩;obtain⟨m,q⟩:∃m,m=v.length:=⟨_,rfl⟩;obtain⟨r,b⟩:∃r,r=kF u v:=⟨_,rfl⟩;rw[<-b];rw[<-p] at Q ⊢;rw[<-q];have j:=hid p;have s:=hid q;have t:=hid b;clear p q b J K;by_cases o:n=m
 ·subst o;go_enter Tryz.func140,Tryz.ntmps140;go_wp2;go_loopw [5] (λi wr=>∃k:Nat,k<=n∧i= .int .i64 k∧Below w.heap.size w wr∧Hid (∀i,i<k->(u.getD i .zero).eqb (v.getD i .zero)=true)) (λi _=>n-(RowKit.intOf i).toNat)
  case atStart=>exact⟨0,by omega,rfl,ag _ _,λi L=>absurd L (by omega)⟩
  case round=>
   obtain⟨k,X,rfl,f,M⟩:=hrel;by_cases N:k<n
   ·obtain⟨Y,Z,rfl,-,V,z,C⟩:=StsS.at_ (RowG.agr R.o (Agr.below f)) (k:=k) (by have:=j.o;omega);obtain⟨bb,bo,rfl,-,W,D,E⟩:=StsS.at_ (RowG.agr U.o (Agr.below f)) (k:=k) (by have:=s.o;omega);have g:∃x,x=u.getD k .zero:=⟨_,rfl⟩;obtain⟨x,g⟩:=g;obtain⟨y,l⟩:∃y,y=v.getD k .zero:=⟨_,rfl⟩;rw[<-g] at z C;rw[<-l] at D E;cases a:x.eqb y with
    | true=>
     have O:Hid (∀i,i<k+1->(u.getD i .zero).eqb (v.getD i .zero)=true):=λi L=>by
      rcases cJ i k with h|h
      ·exact M.o i h
      ·obtain rfl:i=k:=by omega
       rw[<-g,<-l,a]
     clear g l;obtain⟨F,G⟩:=x;obtain⟨H,I⟩:=y;simp only at z C D E;have P:=ne_st F G H I true a;clear a;go_wp2;go_quiet (fail);go_wp2;go_roundw
     case rel=>exact⟨k+1,by omega,by go_num,jE f _,O⟩
     case measure=>simp[RowKit.intOf];omega
    | false=>
     have b:r=false:=by
      rw[t.o];unfold kF;rw[fB (by rw[<-j.o];exact N) (by rw[<-g,<-l];exact a),bj]
     subst b;clear g l;obtain⟨F,G⟩:=x;obtain⟨H,I⟩:=y;simp only at z C D E;have P:=ne_st F G H I false a;clear a;go_wp2;go_quiet (fail);go_wp2;go_ret;exact⟨rfl,jE f _⟩
   ·obtain rfl:k=n:=by omega
    have b:r=true:=by
     rw[t.o];unfold kF;rw[es (by rw[<-j.o];exact M.o),aI (by rw[<-j.o,<-s.o]),Bool.and_self]
    subst b;go_wp2;go_ret;exact⟨rfl,f⟩
 ·have t1:((n:Int) != (m:Int))=true:=by rw[cM];omega
  have b:r=false:=by
   rw[t.o];unfold kF;rw[aC (by rw[<-j.o,<-s.o];exact o),bi]
  subst b;go_enter Tryz.func140,Tryz.ntmps140;go_wp2;go_ret;exact⟨rfl,ag _ _⟩
def kG (u v:List Gid):Bool:=decide (u.length=v.length) && jd u.length (λi=>(u.getD i .zero).eqb (v.getD i .zero))
theorem sameId_iff {u v:List Gid}:kG u v=true↔u=v:=by
 unfold kG;rw[ay,au];refine⟨λ⟨b,c⟩=>List.ext_getElem b λi a d=> ?_,λh=>⟨by rw[h],es λi _=>by rw[h,Gid.eqb_iff]⟩⟩;have:=jF c i a;rw[Gid.eqb_iff,ae,ae,aw a,aw d] at this;exact this
theorem sameids_any (A B:Option Addr) (c d:Nat) (u v:List Gid) (S T:Nat->Prop) (w:World) (W:u.length<=9223372036854775807) (N:IdsS w S A u) (O:IdsS w T B v):
  Calls Tryz.prog 141 #[.slice A u.length c,.slice B v.length d] w λe w'=>e= .returned (.bool (kG u v))∧Below w.heap.size w w':=by
 have X:=hid N;have Y:=hid O;obtain⟨n,p⟩:∃n,n=u.length:=⟨_,rfl⟩;obtain⟨m,q⟩:∃m,m=v.length:=⟨_,rfl⟩;obtain⟨r,b⟩:∃r,r=kG u v:=⟨_,rfl⟩;rw[<-b];rw[<-p] at W ⊢;rw[<-q];have j:=hid p;have s:=hid q;have t:=hid b;clear p q b N O;by_cases o:n=m
 ·subst o;go_enter Tryz.func141,Tryz.ntmps141;go_wp2;go_loopw [5] (λi wr=>∃k:Nat,k<=n∧i= .int .i64 k∧Below w.heap.size w wr∧Hid (∀i,i<k->(u.getD i .zero).eqb (v.getD i .zero)=true)) (λi _=>n-(RowKit.intOf i).toNat)
  case atStart=>exact⟨0,by omega,rfl,ag _ _,λi P=>absurd P (by omega)⟩
  case round=>
   obtain⟨k,hk,rfl,f,Q⟩:=hrel;by_cases R:k<n
   ·obtain⟨ab,ao,rfl,-,Z,z,C,D⟩:=IdsS.at_ (RowG.agr X.o (Agr.below f)) (k:=k) (by have:=j.o;omega);obtain⟨bb,bo,rfl,-,aa,E,F,G⟩:=IdsS.at_ (RowG.agr Y.o (Agr.below f)) (k:=k) (by have:=s.o;omega);have g:∃x,x=u.getD k .zero:=⟨_,rfl⟩;obtain⟨x,g⟩:=g;obtain⟨y,l⟩:∃y,y=v.getD k .zero:=⟨_,rfl⟩;rw[<-g] at z C D;rw[<-l] at E F G;cases a:x.eqb y with
    | true=>
     have U:Hid (∀i,i<k+1->(u.getD i .zero).eqb (v.getD i .zero)=true):=λi P=>by
      rcases cJ i k with h|h
      ·exact Q.o i h
      ·obtain rfl:i=k:=by omega
       rw[<-g,<-l,a]
     clear g l;obtain⟨⟨H,I⟩,J⟩:=x;obtain⟨⟨K,L⟩,M⟩:=y;simp only at z C D E F G;have V:=ne_id H I J K L M true a;clear a;go_wp2;go_quiet (fail);go_wp2;go_roundw
     case rel=>exact⟨k+1,by omega,by go_num,jE f _,U⟩
     case measure=>simp[RowKit.intOf];omega
    | false=>
     have b:r=false:=by
      rw[t.o];unfold kG;rw[fB (by rw[<-j.o];exact R) (by rw[<-g,<-l];exact a),bj]
     subst b;clear g l;obtain⟨⟨H,I⟩,J⟩:=x;obtain⟨⟨K,L⟩,M⟩:=y;simp only at z C D E F G;have V:=ne_id H I J K L M false a;clear a;go_wp2;go_quiet (fail);go_wp2;go_ret;exact⟨rfl,jE f _⟩
   ·obtain rfl:k=n:=by omega
    have b:r=true:=by
     rw[t.o];unfold kG;rw[es (by rw[<-j.o];exact Q.o),aI (by rw[<-j.o,<-s.o]),Bool.and_self]
    subst b;go_wp2;go_ret;exact⟨rfl,f⟩
 ·have t1:((n:Int) != (m:Int))=true:=by rw[cM];omega
  have b:r=false:=by
   rw[t.o];unfold kG;rw[aC (by rw[<-j.o,<-s.o];exact o),bi]
  subst b;go_enter Tryz.func141,Tryz.ntmps141;go_wp2;go_ret;exact⟨rfl,ag _ _⟩
end
section
open Go.RowKit Go.Lib Go.Sort
section
variable {P : Program} {ops : Array Oper} {rest : List Oper} {o : Oper} {a : Act} {C : World → Prop}
theorem bn {Q:Act->Prop} (g:Region.wanted o (yielded ops a.tmps)=true) (e:TypeId) (x:Operand) (i:o.op= .load e x) (b q:Nat) (j:a.eval x= .pointer (some ⟨b,q,none⟩)) (c:List Value) (d:TypeDesc) (k:∀w,C w->w.rangeAt b q c)
  (l:P.underlying e=some d) (m:d.isRow=true) (n:(P.info? e).map (·.size)=some c.length) (h:wpQuiet P ops C Q rest (a.put o.dst (.agg c.toArray))):wpQuiet P ops C Q (o::rest) a:=by
 unfold wpQuiet;rw[aN g];refine⟨.agg c.toArray,λw f=> ?_,h⟩;unfold Oper.quietAt execOp;simp only[i,j,Instr.loadAt,Instr.sureAddr,Sem.run_bind,Sem.run_pure,Result.andThen_ok,run_loadVar_mid w b q e c d (k w f) l m n];exact⟨rfl,rfl⟩
end
def opL (o:Gop) (x:OpX):List Value:=
 [.int .i64 o.kind,.int .i64 o.node.s.t,.int .i64 o.node.s.r,.int .i64 o.node.i,.int .i64 o.parent.s.t,.int .i64 o.parent.s.r,.int .i64 o.parent.i,.string o.name,.bool o.dir,.slice x.dA o.dots.length x.dc,
  .int .i64 o.after.s.t,.int .i64 o.after.s.r,.int .i64 o.after.i,.int .i64 o.elem.s.t,.int .i64 o.elem.s.r,.int .i64 o.elem.i,.string o.text,.slice x.eA o.elems.length x.ec]
theorem jD {w:World} {b q:Nat} {o:Gop} {x:OpX} (a:∀j,j<18->w.cell? ⟨b,q+j,none⟩=some ((opA o x).getD j undef)):w.rangeAt b q (opL o x):=λj v hv=>by
 have hj:j<18:=by
  have:=(eD.1 hv).1;exact this
 rw[a j hj];congr 1;have e:(opA o x).getD j undef=(opL o x).getD j undef:=by
  rw[Array.getD_eq_getD_getElem?,ae];show((opL o x).toArray)[j]?.getD undef=_;rw[List.getElem?_toArray]
 rw[e,ae,hv];rfl
theorem eO {W:World} {b q:Nat} {a:List Value} (h:W.rangeAt b q a):∀w,(∃p:Regrown,w=grow (redrawn W p.d) p.os)->w.rangeAt b q a:=by
 rintro w ⟨p,rfl⟩ j v c;exact aj (h j v c) _ _
end
section
open Go.RowKit Go.Lib Go.Sort
attribute [local go_sem ↓] Go.wp_at_zero Go.wp_at_succ
def jC (a b:Gop):Bool:=decide (a.kind=b.kind) && a.node.eqb b.node && a.parent.eqb b.parent && decide (a.name=b.name) && decide (a.dir=b.dir) && a.after.eqb b.after && a.elem.eqb b.elem && decide (a.text=b.text) && kF a.dots b.dots && kG a.elems b.elems
theorem sameOp_iff {a b:Gop}:jC a b=true↔a=b:=by
 obtain⟨o,p,q,r,s,t,u,v,w,m⟩:=a;obtain⟨x,y,z,A,B,C,D,E,F,n⟩:=b;simp only[jC,ay,au,Gid.eqb_iff,sameSt_iff,sameId_iff,Gop.mk.injEq];constructor
 ·rintro⟨⟨⟨⟨⟨⟨⟨⟨⟨d,e⟩,f⟩,g⟩,h⟩,i⟩,j⟩,k⟩,l⟩,c⟩;exact⟨d,e,f,g,h,l,i,j,k,c⟩
 ·rintro⟨d,e,f,g,h,l,i,j,k,c⟩;exact⟨⟨⟨⟨⟨⟨⟨⟨⟨d,e⟩,f⟩,g⟩,h⟩,i⟩,j⟩,k⟩,l⟩,c⟩
theorem beq_of {α:Type} [DecidableEq α] {a b:α} {v:Bool} (h:decide (a=b)=v):(a == b)=v:=h
theorem beq_str {a b:ByteArray} {v:Bool} (h:decide (a=b)=v):(a.toList == b.toList)=v:=by
 rw[<-h,bE,cf,au,cw,cw];exact⟨λe=>fH (eR.1 e),λe=>by rw[e]⟩
theorem sameop_any (o1 o2:Gop) (x1 x2:OpX) (S1 S2:Nat->Prop) (w:World) (n:OpIn w S1 o1 x1) (ab:OpIn w S2 o2 x2):
  Calls Tryz.prog 86 #[.agg (opA o1 x1),.agg (opA o2 x2)] w λe w'=>e= .returned (.bool (jC o1 o2))∧Below w.heap.size w w':=by
 obtain⟨h,⟨⟨u,v⟩,x⟩,⟨⟨y,z⟩,A⟩,i,q,f,⟨⟨B,C⟩,D⟩,⟨⟨E,F⟩,G⟩,j,c⟩:=o1;obtain⟨k,⟨⟨H,I⟩,J⟩,⟨⟨K,L⟩,M⟩,l,r,g,⟨⟨N,O⟩,P⟩,⟨⟨Q,R⟩,S⟩,m,d⟩:=o2;obtain⟨X,s,T,o⟩:=x1;obtain⟨Y,t,U,p⟩:=x2;have ah:f.length<=9223372036854775807:=by have:=n.dle;have:=n.dmax;unfold maxLen at this;simp only at *;omega
 have ai:c.length<=9223372036854775807:=by have:=n.ele;have:=n.emax;unfold maxLen at this;simp only at *;omega
 obtain⟨b0,h0⟩:∃b,decide (h=k)=b:=⟨_,rfl⟩;have q0:=beq_of h0;obtain⟨b1,h1⟩:∃b,Gid.eqb ⟨⟨u,v⟩,x⟩ ⟨⟨H,I⟩,J⟩=b:=⟨_,rfl⟩;have q1:=eN u v x H I J b1 h1;obtain⟨b2,h2⟩:∃b,Gid.eqb ⟨⟨y,z⟩,A⟩ ⟨⟨K,L⟩,M⟩=b:=⟨_,rfl⟩;have q2:=eN y z A K L M b2 h2;obtain⟨b3,h3⟩:∃b,decide (i=l)=b:=⟨_,rfl⟩;have q3:=beq_str h3;obtain⟨b4,h4⟩:∃b,decide (q=r)=b:=⟨_,rfl⟩;have q4:=beq_of h4;obtain⟨b5,h5⟩:∃b,Gid.eqb ⟨⟨B,C⟩,D⟩ ⟨⟨N,O⟩,P⟩=b:=⟨_,rfl⟩;have q5:=eN B C D N O P b5 h5;obtain⟨b6,h6⟩:∃b,Gid.eqb ⟨⟨E,F⟩,G⟩ ⟨⟨Q,R⟩,S⟩=b:=⟨_,rfl⟩;have q6:=eN E F G Q R S b6 h6;obtain⟨b7,h7⟩:∃b,decide (j=m)=b:=⟨_,rfl⟩;have q7:=beq_str h7;obtain⟨b8,h8⟩:∃b,b=kF f g:=⟨_,rfl⟩;obtain⟨b9,h9⟩:∃b,b=kG c d:=⟨_,rfl⟩;obtain⟨aj,V⟩:∃a,a=jC ⟨h,⟨⟨u,v⟩,x⟩,⟨⟨y,z⟩,A⟩,i,q,f,⟨⟨B,C⟩,D⟩,⟨⟨E,F⟩,G⟩,j,c⟩ ⟨k,⟨⟨H,I⟩,J⟩,⟨⟨K,L⟩,M⟩,l,r,g,⟨⟨N,O⟩,P⟩,⟨⟨Q,R⟩,S⟩,m,d⟩:=⟨_,rfl⟩;rw[<-V];have af:=hid (show aj=(b0 && b1 && b2 && b3 && b4 && b5 && b6 && b7 && b8 && b9) by rw[V,<-h0,<-h1,<-h2,<-h3,<-h4,<-h5,<-h6,<-h7,h8,h9];rfl);have hD:∀W,Below w.heap.size w W->Calls Tryz.prog 140 #[.slice X f.length s,.slice Y g.length t] W λe w'=>e= .returned (.bool b8)∧Below W.heap.size W w':=λW hB=>by
  rw[h8];exact sames_any X Y s t f g S1 S2 W ah (RowG.agr n.dots (Agr.below hB)) (RowG.agr ab.dots (Agr.below hB))
 have hE:∀W,Below w.heap.size w W->Calls Tryz.prog 141 #[.slice T c.length o,.slice U d.length p] W λe w'=>e= .returned (.bool b9)∧Below W.heap.size W w':=λW hB=>by
  rw[h9];exact sameids_any T U o p c d S1 S2 W ai (RowG.agr n.elems (Agr.below hB)) (RowG.agr ab.elems (Agr.below hB))
 have HD:=hid hD;have HE:=hid hE;clear hD hE V h0 h1 h2 h3 h4 h5 h6 h7 h8 h9 n ab;have ac:=hid (show Below w.heap.size w ((w.alloc (.cells #[h,u,v,x,y,z,A,i,q,.slice X f.length s,B,C,D,E,F,G,j,.slice T c.length o] 125)).alloc (.cells #[k,H,I,J,K,L,M,l,r,.slice Y g.length t,N,O,P,Q,R,S,m,.slice U d.length p] 125)) from((ag _ _).alloc (aa _) _).alloc (by simp) _);show Calls _ _ #[.agg #[h,u,v,x,y,z,A,i,q,.slice X f.length s,B,C,D,E,F,G,j,.slice T c.length o],.agg #[k,H,I,J,K,L,M,l,r,.slice Y g.length t,N,O,P,Q,R,S,m,.slice U d.length p]] _ _;go_enter Tryz.func86,Tryz.ntmps86
 go_wp2_with (first
  |(go_at_call 140;refine(HD.o _ ac.o).mono ?_;rintro e w3 ⟨rfl,Z⟩;have ad:=bT ac Z;have al:w3.cell? ⟨w.heap.size,17,none⟩=some (.slice T c.length o):=(Z.cell (by simp;omega)).trans (by go_simp);have am:w3.cell? ⟨w.heap.size+1,17,none⟩=some (.slice U d.length p):=(Z.cell (by simp)).trans (by go_simp);clear Z)
  |(go_at_call 141;refine(HE.o _ ad.o).mono ?_;rintro e w4 ⟨rfl,ae⟩;have ak:=bT ad ae;clear ae))
 all_goals
  go_ret;refine⟨dI (by rw[af.o];simp[*]),?_⟩
  first|exact ak.o|exact ad.o|exact ac.o
end
section
open Go.RowKit Go.Lib Go.Sort
attribute [local go_sem ↓] Go.wp_at_zero Go.wp_at_succ
def sameOps (a b:List Gop):Bool:=decide (a.length=b.length) && jd a.length (λi=>jC (a.getD i (opO 0 .zero)) (b.getD i (opO 0 .zero)))
theorem sameOps_iff {u v:List Gop}:sameOps u v=true↔u=v:=by
 unfold sameOps;rw[ay,au];refine⟨λ⟨b,c⟩=>List.ext_getElem b λi a d=> ?_,λh=>⟨by rw[h],es λi _=>by rw[h,sameOp_iff]⟩⟩;have:=jF c i a;rw[sameOp_iff,ae,ae,aw a,aw d] at this;exact this
def sameG (a b:Grp):Bool:=a.s.eqb b.s && decide (a.n=b.n) && decide (a.deps=b.deps) && a.u.eqb b.u && sameOps a.ops b.ops
theorem sameG_iff {a b:Grp}:sameG a b=true↔a=b:=by
 obtain⟨h,i,j,k,l⟩:=a;obtain⟨m,n,o,p,q⟩:=b;simp only[sameG,ay,au,Gst.eqb_iff,sameOps_iff,Grp.mk.injEq];constructor
 ·rintro⟨⟨⟨⟨c,d⟩,e⟩,f⟩,g⟩;exact⟨c,d,e,f,g⟩
 ·rintro⟨c,d,e,f,g⟩;exact⟨⟨⟨⟨c,d⟩,e⟩,f⟩,g⟩
theorem sameg_loop (t1 r1 n1:Int) (v1:List Int) (ut1 ur1:Int) (ops1:List Gop) (t2 r2 n2:Int) (v2:List Int) (ut2 ur2:Int) (ops2:List Gop) (dA1 dA2 oA1 oA2:Option Addr) (dc1 dc2 oc1 oc2:Nat) (S1 S2:Nat->Prop) (w:World) (ans:Bool)
  (q0:∀w,(binOp .neq 42 (.agg #[t1,r1]) (.agg #[t2,r2])).run Tryz.prog w= .ok (.bool !true) w) (e1:(n1 != n2)=false)
  (q3:∀w,(binOp .neq 42 (.agg #[ut1,ur1]) (.agg #[ut2,ur2])).run Tryz.prog w= .ok (.bool !true) w) (hv1:v1.length<=9223372036854775807) (ho1:ops1.length<=9223372036854775807) (hl0:ops1.length=ops2.length)
  (hans:ans=jd ops1.length (λi=>jC (ops1.getD i (opO 0 .zero)) (ops2.getD i (opO 0 .zero))))
  (hD:∀W,Below w.heap.size w W->Calls Tryz.prog 29 #[.slice dA1 v1.length dc1,.slice dA2 v2.length dc2] W λe w'=>e= .returned (.bool true)∧Below W.heap.size W w') (hI1:OpsS w S1 oA1 ops1) (hI2:OpsS w S2 oA2 ops2):
  Calls Tryz.prog 46 #[.agg #[t1,r1,n1,.slice dA1 v1.length dc1,ut1,ur1,.slice oA1 ops1.length oc1],.agg #[t2,r2,n2,.slice dA2 v2.length dc2,ut2,ur2,.slice oA2 ops2.length oc2]] w λe w'=>e= .returned (.bool ans)∧Below w.heap.size w w':=by
 have H:=hid (show Below w.heap.size w ((w.alloc (.cells #[t1,r1,n1,.slice dA1 v1.length dc1,ut1,ur1,.slice oA1 ops1.length oc1] 45)).alloc (.cells #[t2,r2,n2,.slice dA2 v2.length dc2,ut2,ur2,.slice oA2 ops2.length oc2] 45)) from((ag _ _).alloc (aa _) _).alloc (by simp) _);have ac:=hid ((ax (w.alloc (.cells #[t1,r1,n1,.slice dA1 v1.length dc1,ut1,ur1,.slice oA1 ops1.length oc1] 45)) (.cells #[t2,r2,n2,.slice dA2 v2.length dc2,ut2,ur2,.slice oA2 ops2.length oc2] 45) w.heap.size (by simp)).trans (an w _));have ad:=hid (bu (n:=w.heap.size+1) (w.alloc (.cells #[t1,r1,n1,.slice dA1 v1.length dc1,ut1,ur1,.slice oA1 ops1.length oc1] 45)) (.cells #[t2,r2,n2,.slice dA2 v2.length dc2,ut2,ur2,.slice oA2 ops2.length oc2] 45) (by simp));have U:ops1.length=ops2.length:=hl0;have e4:((ops1.length:Int) != (ops2.length:Int))=false:=by rw[iY,U]
 have HL:=hid U;have r:=hid hans;have HD:=hid hD;have ae:=hid hI1;have af:=hid hI2;clear U hans hD hI1 hI2 hl0;go_enter Tryz.func46,Tryz.ntmps46;go_upto_region 3 with(go_at_call 29;refine(HD.o _ H.o).mono ?_;rintro e c ⟨rfl,l⟩;have p:=hid ((l.block w.heap.size (by simp;omega)).trans ac.o);have g:=hid ((l.block (w.heap.size+1) (by simp)).trans ad.o);have ah:=bT H l;clear l;have ai:c.cell? ⟨w.heap.size,4,none⟩=some (.int .i64 ut1):=by { rw[crw p.o];rfl };have al:c.cell? ⟨w.heap.size,5,none⟩=some (.int .i64 ur1):=by { rw[crw p.o];rfl };have s:c.cell? ⟨w.heap.size,6,none⟩=some (.slice oA1 ops1.length oc1):=by { rw[crw p.o];rfl };have ap:c.cell? ⟨w.heap.size+1,4,none⟩=some (.int .i64 ut2):=by { rw[crw g.o];rfl };have aq:c.cell? ⟨w.heap.size+1,5,none⟩=some (.int .i64 ur2):=by { rw[crw g.o];rfl };have t:c.cell? ⟨w.heap.size+1,6,none⟩=some (.slice oA2 ops2.length oc2):=by { rw[crw g.o];rfl });have V:w.heap.size+1<c.heap.size:=lt_of_block g.o;obtain⟨X1,I,u⟩:=ae.o;obtain⟨X2,J,v⟩:=af.o;have ar:=hid I;have X:=hid u;have au:=hid J;have Y:=hid v;clear I u J v q0 q3 e1 e4 ai al ap aq s t;obtain⟨m,hm⟩:∃m,m=ops1.length:=⟨_,rfl⟩;have HM:=hid hm;go_upto_region 4 with(fail);go_loopw [5] (λi wr=>∃j:Nat,j<=m∧i= .int .i64 j∧Below c.heap.size c wr∧Hid (∀i,i<j->jC (ops1.getD i (opO 0 .zero)) (ops2.getD i (opO 0 .zero))=true)) (λi _=>m-(RowKit.intOf i).toNat)
 case atStart=>exact⟨0,by omega,rfl,ag _ _,hid (λi hi=>absurd hi (by omega))⟩
 case round=>
  obtain⟨j,hj,rfl,k,HK⟩:=hrel;have s:wr.cell? ⟨w.heap.size,6,none⟩=some (.slice oA1 ops1.length oc1):=by rw[crw ((k.block w.heap.size (by omega)).trans p.o)];rfl
  have t:wr.cell? ⟨w.heap.size+1,6,none⟩=some (.slice oA2 ops2.length oc2):=by rw[crw ((k.block (w.heap.size+1) V).trans g.o)];rfl
  have a:=bT ah k;by_cases aD:j<m
  ·have q:j<ops1.length:=by omega
   have y:j<ops2.length:=by have:=HL.o;omega
   obtain⟨ab,ao,rfl,-,aE,Z⟩:=(RowG.agr ar.o (Agr.below a.o)) j q;obtain⟨bb,bo,rfl,-,aF,hd⟩:=(RowG.agr au.o (Agr.below a.o)) j y;have z:=(X.o j q).agr (Agr.below a.o);have A:=(Y.o j y).agr (Agr.below a.o);obtain⟨B,ho1⟩:∃o,o=ops1.getD j (opO 0 .zero):=⟨_,rfl⟩;obtain⟨C,D⟩:∃o,o=ops2.getD j (opO 0 .zero):=⟨_,rfl⟩;obtain⟨F,K⟩:∃x,x=X1 j:=⟨_,rfl⟩;obtain⟨G,L⟩:∃x,x=X2 j:=⟨_,rfl⟩;simp only[<-ho1,<-K] at Z z;simp only[<-D,<-L] at hd A;obtain⟨bs,E⟩:∃b,b=jC B C:=⟨_,rfl⟩;have HS:=hid (show jC (ops1.getD j (opO 0 .zero)) (ops2.getD j (opO 0 .zero))=bs by rw[<-ho1,<-D,E]);have M:=eO (jD Z);have N:=eO (jD hd);have O:(opL B F).length=18:=rfl;have P:(opL C G).length=18:=rfl;have Q:∀d f,Calls Tryz.prog 86 #[.agg (opL B F).toArray,.agg (opL C G).toArray] (grow (redrawn wr d) f) λe av=>e= .returned (.bool bs)∧Below (grow (redrawn wr d) f).heap.size (grow (redrawn wr d) f) av:=λd f=>by
    rw[E];exact sameop_any B C F G S1 S2 (grow (redrawn wr d) f) (z.agr (Agr.below (bL wr d f))) (A.agr (Agr.below (bL wr d f)))
   have cS:=λd f=>ak (Q d f);clear Q;generalize opL B F=k1 at *;generalize opL C G=k2 at *;have R:(Tryz.prog.info? 125).map (·.size)=some k1.length:=by rw[O];kernel_rfl
   have S:(Tryz.prog.info? 125).map (·.size)=some k2.length:=by rw[P];kernel_rfl
   have aw:=hid M;have ay:=hid N;have az:=hid R;have aA:=hid S;clear M N R S O P;have aG:=aj s;have aH:=aj t;clear Z hd z A ho1 D K L E;have i1:(0:Int)<=(j:Int):=by omega
   have i2:(j:Int)<(ops1.length:Int):=by omega
   have i3:(j:Int)<(ops2.length:Int):=by omega
   have i4:j<ops1.length:=q;have i5:j<ops2.length:=y;go_wp2;refine rqb ?_
   repeat(any_goals(first|(refine bn rfl _ _ rfl ab (ao+j*18) rfl k1 _ aw.o am rfl az.o ?_)|(refine bn rfl _ _ rfl bb (bo+j*18) rfl k2 _ ay.o am rfl aA.o ?_)|go_big_quiet_step (with_reducible exact cS _ _)|quiet_step (with_reducible exact cS _ _)))
   refine qz λwq T=> ?_;cases bs with
   |false=>
    obtain rfl:ans=false:=by rw[r.o,fB q HS.o]
    go_wp2;go_ret;exact⟨rfl,a.o.trans (T.mono a.o.size)⟩
   |true=>
    have aB:=hid (show ∀i,i<j+1->jC (ops1.getD i (opO 0 .zero)) (ops2.getD i (opO 0 .zero))=true from λi hi=>if h:i<j then HK.o i h else (by(obtain rfl:i=j:=(by omega));exact HS.o));go_wp2;go_roundw
    case rel=>exact⟨j+1,by omega,by go_num,k.trans (T.mono k.size),aB⟩
    case measure=>simp[RowKit.intOf];omega
  ·obtain rfl:j=m:=by omega
   obtain rfl:ans=true:=by rw[r.o,<-HM.o,es HK.o]
   have i6:¬j<ops1.length:=by omega
   have i7:decide (j<ops1.length)=false:=aC i6;go_wp2;go_ret;exact⟨rfl,a.o⟩
theorem sameg_any (a b:Grp) (v x k l:Option Addr) (y z m o:Nat) (S1 S2:Nat->Prop) (w:World) (B:GrIn w S1 a v y k m) (X:GrIn w S2 b x z l o):
  Calls Tryz.prog 46 #[.agg (grA a v y k m),.agg (grA b x z l o)] w λe w'=>e= .returned (.bool (sameG a b))∧Below w.heap.size w w':=by
 obtain⟨C,K⟩:∃r,r=sameG a b:=⟨_,rfl⟩;rw[<-K];obtain⟨⟨L,M⟩,F,E,⟨p,q⟩,f⟩:=a;obtain⟨⟨N,O⟩,G,H,⟨s,t⟩,j⟩:=b;obtain⟨b0,h0⟩:∃b,Gst.eqb ⟨L,M⟩ ⟨N,O⟩=b:=⟨_,rfl⟩;obtain⟨b1,Y⟩:∃b,decide (F=G)=b:=⟨_,rfl⟩;obtain⟨b2,h2⟩:∃b,decide (E=H)=b:=⟨_,rfl⟩;obtain⟨b3,h3⟩:∃b,Gst.eqb ⟨p,q⟩ ⟨s,t⟩=b:=⟨_,rfl⟩;obtain⟨b4,Z⟩:∃b,decide (f.length=j.length)=b:=⟨_,rfl⟩;have A:=hid (show C=(b0 && b1 && b2 && b3 && (b4 && jd f.length (λi=>jC (f.getD i (opO 0 .zero)) (j.getD i (opO 0 .zero))))) by rw[K,<-h0,<-Y,<-h2,<-h3,<-Z];rfl);have q0:=ne_st L M N O b0 h0;have q3:=ne_st p q s t b3 h3;have ab:E.length<=9223372036854775807:=by have:=B.dle;have:=B.dmax;unfold maxLen at this;simp only at *;omega
 have ac:f.length<=9223372036854775807:=by have:=B.ole;have:=B.omax;unfold maxLen at this;simp only at *;omega
 have V:=hid (show ∀W,Below w.heap.size w W->Calls Tryz.prog 29 #[.slice v E.length y,.slice x H.length z] W λe w'=>e= .returned (.bool b2)∧Below W.heap.size W w' from λW hB=>by
  rw[<-h2];exact same_any v x y z E H W ab (B.deps.vec.below hB) (X.deps.vec.below hB))
 have ad:=hid B.ops;have ae:=hid X.ops;have H4:=hid Z;clear h0 h2 h3 B X K;show Calls _ _ #[.agg #[L,M,F,.slice v E.length y,p,q,.slice k f.length m],.agg #[N,O,G,.slice x H.length z,s,t,.slice l j.length o]] _ _;have u:=hid (show Below w.heap.size w ((w.alloc (.cells #[L,M,F,.slice v E.length y,p,q,.slice k f.length m] 45)).alloc (.cells #[N,O,G,.slice x H.length z,s,t,.slice l j.length o] 45)) from((ag _ _).alloc (aa _) _).alloc (by simp) _);have I:=hid ((ax (w.alloc (.cells #[L,M,F,.slice v E.length y,p,q,.slice k f.length m] 45)) (.cells #[N,O,G,.slice x H.length z,s,t,.slice l j.length o] 45) w.heap.size (by simp)).trans (an w _));have J:=hid (bu (n:=w.heap.size+1) (w.alloc (.cells #[L,M,F,.slice v E.length y,p,q,.slice k f.length m] 45)) (.cells #[N,O,G,.slice x H.length z,s,t,.slice l j.length o] 45) (by simp));cases b0 with
 |false=>
  obtain rfl:C=false:=by rw[A.o];simp
  go_enter Tryz.func46,Tryz.ntmps46;go_wp2_with (go_at_call 29;refine(V.o _ u.o).mono ?_;rintro e d ⟨rfl,c⟩;have g:=hid ((c.block w.heap.size (by simp;omega)).trans I.o);have h:=hid ((c.block (w.heap.size+1) (by simp)).trans J.o);have D:=bT u c;clear c;have P:d.cell? ⟨w.heap.size,4,none⟩=some (.int .i64 p):=by { rw[crw g.o];rfl };have Q:d.cell? ⟨w.heap.size,5,none⟩=some (.int .i64 q):=by { rw[crw g.o];rfl };have R:d.cell? ⟨w.heap.size,6,none⟩=some (.slice k f.length m):=by { rw[crw g.o];rfl };have S:d.cell? ⟨w.heap.size+1,4,none⟩=some (.int .i64 s):=by { rw[crw h.o];rfl };have T:d.cell? ⟨w.heap.size+1,5,none⟩=some (.int .i64 t):=by { rw[crw h.o];rfl };have U:d.cell? ⟨w.heap.size+1,6,none⟩=some (.slice l j.length o):=by { rw[crw h.o];rfl });go_ret;exact⟨rfl,u.o⟩
 |true=>
 cases b1 with
 |false=>
  have e1:(F != G)=true:=by rw[cM];exact of_decide_eq_false Y
  clear Y;obtain rfl:C=false:=by rw[A.o];simp
  go_enter Tryz.func46,Tryz.ntmps46;go_wp2_with (go_at_call 29;refine(V.o _ u.o).mono ?_;rintro e d ⟨rfl,c⟩;have g:=hid ((c.block w.heap.size (by simp;omega)).trans I.o);have h:=hid ((c.block (w.heap.size+1) (by simp)).trans J.o);have D:=bT u c;clear c;have P:d.cell? ⟨w.heap.size,4,none⟩=some (.int .i64 p):=by { rw[crw g.o];rfl };have Q:d.cell? ⟨w.heap.size,5,none⟩=some (.int .i64 q):=by { rw[crw g.o];rfl };have R:d.cell? ⟨w.heap.size,6,none⟩=some (.slice k f.length m):=by { rw[crw g.o];rfl };have S:d.cell? ⟨w.heap.size+1,4,none⟩=some (.int .i64 s):=by { rw[crw h.o];rfl };have T:d.cell? ⟨w.heap.size+1,5,none⟩=some (.int .i64 t):=by { rw[crw h.o];rfl };have U:d.cell? ⟨w.heap.size+1,6,none⟩=some (.slice l j.length o):=by { rw[crw h.o];rfl });go_ret;exact⟨rfl,u.o⟩
 |true=>
 have e1:(F != G)=false:=by rw[iY];exact of_decide_eq_true Y
 clear Y;cases b2 with
 |false=>
  obtain rfl:C=false:=by rw[A.o];simp
  go_enter Tryz.func46,Tryz.ntmps46;go_wp2_with (go_at_call 29;refine(V.o _ u.o).mono ?_;rintro e d ⟨rfl,c⟩;have g:=hid ((c.block w.heap.size (by simp;omega)).trans I.o);have h:=hid ((c.block (w.heap.size+1) (by simp)).trans J.o);have D:=bT u c;clear c;have P:d.cell? ⟨w.heap.size,4,none⟩=some (.int .i64 p):=by { rw[crw g.o];rfl };have Q:d.cell? ⟨w.heap.size,5,none⟩=some (.int .i64 q):=by { rw[crw g.o];rfl };have R:d.cell? ⟨w.heap.size,6,none⟩=some (.slice k f.length m):=by { rw[crw g.o];rfl };have S:d.cell? ⟨w.heap.size+1,4,none⟩=some (.int .i64 s):=by { rw[crw h.o];rfl };have T:d.cell? ⟨w.heap.size+1,5,none⟩=some (.int .i64 t):=by { rw[crw h.o];rfl };have U:d.cell? ⟨w.heap.size+1,6,none⟩=some (.slice l j.length o):=by { rw[crw h.o];rfl });go_ret;exact⟨rfl,D.o⟩
 |true=>
 cases b3 with
 |false=>
  obtain rfl:C=false:=by rw[A.o];simp
  go_enter Tryz.func46,Tryz.ntmps46;go_wp2_with (go_at_call 29;refine(V.o _ u.o).mono ?_;rintro e d ⟨rfl,c⟩;have g:=hid ((c.block w.heap.size (by simp;omega)).trans I.o);have h:=hid ((c.block (w.heap.size+1) (by simp)).trans J.o);have D:=bT u c;clear c;have P:d.cell? ⟨w.heap.size,4,none⟩=some (.int .i64 p):=by { rw[crw g.o];rfl };have Q:d.cell? ⟨w.heap.size,5,none⟩=some (.int .i64 q):=by { rw[crw g.o];rfl };have R:d.cell? ⟨w.heap.size,6,none⟩=some (.slice k f.length m):=by { rw[crw g.o];rfl };have S:d.cell? ⟨w.heap.size+1,4,none⟩=some (.int .i64 s):=by { rw[crw h.o];rfl };have T:d.cell? ⟨w.heap.size+1,5,none⟩=some (.int .i64 t):=by { rw[crw h.o];rfl };have U:d.cell? ⟨w.heap.size+1,6,none⟩=some (.slice l j.length o):=by { rw[crw h.o];rfl });go_ret;exact⟨rfl,D.o⟩
 |true=>
 cases b4 with
 |false=>
  have e4:((f.length:Int) != (j.length:Int))=true:=by rw[cM];have:=of_decide_eq_false Z;omega
  clear Z;obtain rfl:C=false:=by rw[A.o];simp
  go_enter Tryz.func46,Tryz.ntmps46;go_wp2_with (go_at_call 29;refine(V.o _ u.o).mono ?_;rintro e d ⟨rfl,c⟩;have g:=hid ((c.block w.heap.size (by simp;omega)).trans I.o);have h:=hid ((c.block (w.heap.size+1) (by simp)).trans J.o);have D:=bT u c;clear c;have P:d.cell? ⟨w.heap.size,4,none⟩=some (.int .i64 p):=by { rw[crw g.o];rfl };have Q:d.cell? ⟨w.heap.size,5,none⟩=some (.int .i64 q):=by { rw[crw g.o];rfl };have R:d.cell? ⟨w.heap.size,6,none⟩=some (.slice k f.length m):=by { rw[crw g.o];rfl };have S:d.cell? ⟨w.heap.size+1,4,none⟩=some (.int .i64 s):=by { rw[crw h.o];rfl };have T:d.cell? ⟨w.heap.size+1,5,none⟩=some (.int .i64 t):=by { rw[crw h.o];rfl };have U:d.cell? ⟨w.heap.size+1,6,none⟩=some (.slice l j.length o):=by { rw[crw h.o];rfl });go_ret;exact⟨rfl,D.o⟩
 |true=>
  exact sameg_loop L M F E p q f N O G H s t j v x k l y z m o S1 S2 w C q0 e1 q3 ab ac (of_decide_eq_true Z) (by rw[A.o];rfl) V.o ad.o ae.o
end
end
section
open Go.RowKit Go.Lib Go.Sort
attribute [local go_sem ↓] Go.wp_at_zero Go.wp_at_succ
def bestI:Option Nat->Int
 |none=> -1
 |some k=>(k:Int)
theorem BxOk.step {b:Bx} (h:BxOk b) {k:Nat} (f:fy b.v b.wait b.wait.length=some k) (g:oldB b.v (b.wait.getD k gz)=false):BxOk (Bx.put ⟨b.done,b.wait.eraseIdx k,b.v⟩ (b.wait.getD k gz)):=by
 obtain⟨c,i⟩:=ii f;refine(h.drop k).put (h.chk _ (aD.2 (.inr (gC c)))) i g λx a=> ?_;have d:=h.apart;rw[bD,fZ] at d;rcases aD.1 a with a|a
 ·exact λe=>d.2.2 _ (bN.2 ⟨x,a,rfl⟩) _ (bN.2 ⟨_,gC c,rfl⟩) e
 ·exact erase_ne c d.2.1 x a
theorem map_erase {α β:Type} (f:α->β) (l:List α) (k:Nat):(l.eraseIdx k).map f=(l.map f).eraseIdx k:=by rw[List.eraseIdx_eq_take_drop_succ,List.eraseIdx_eq_take_drop_succ,bD,List.map_take,List.map_drop]
theorem kp (M:List (Grp×GrX)) (a:List Grp) (h:M.map Prod.fst=a) (k:Nat):(M.getD k gp0).1=a.getD k gz:=by
 subst h;rw[ae,ae,dW];cases M[k]? <;>rfl
theorem getD_memP {M:List (Grp×GrX)} {k:Nat} (a:k<M.length):M.getD k gp0∈M:=by
 rw[ae,aw a];exact ch a
theorem chk_dl {g:Grp} (h:chkB g=true):g.deps.length<=1000:=by
 simp only[chkB,fJ,ay] at h;have:=(vecB_nn h.1.1.2).2;omega
theorem bxdrain_any {B P:Nat} {S:Nat->Prop} {b:Bx} {X:BoxX} {w:World} (h:BoxIn B P S b.done b.done b.wait b.v X w) (hok:BxOk b) (hwl:b.wait.length<=1000) (hlen:b.done.length+b.wait.length<=1000000):
  Calls Tryz.prog 52 #[.pointer (some ⟨P,0,none⟩)] w λe w'=>e= .returned (.int .i64 ((cy b.wait.length b).2:Nat))∧∃X' S',BoxIn B P S' (cy b.wait.length b).1.done (cy b.wait.length b).1.done (cy b.wait.length b).1.wait (cy b.wait.length b).1.v X' w'∧BTo P X S w X' S' w':=by
 obtain⟨R,hR⟩:∃R,R=cy b.wait.length b:=⟨_,rfl⟩;rw[<-hR];have bh:=hid hR;have H0:=hid h;have bi:=hid hok;obtain⟨m,hm⟩:∃m,m=b.wait.length:=⟨_,rfl⟩;have HM:=hid hm;have bd:=hid hlen;have bG:m<=1000:=by omega
 clear h hok hR hm hwl hlen;go_enter Tryz.func52,Tryz.ntmps52;go_wp2;go_step3;go_wp2;go_step3;go_wp2;go_loopg [3] m (λg c wr=>∃(o:Bx) (nk:Nat) (A:BoxX) (Sk:Nat->Prop),c= .int .i64 nk∧o.wait.length=g∧nk+g<=m∧Hid (BoxIn B P Sk o.done o.done o.wait o.v A wr)∧Hid (BTo P X S w A Sk wr)∧Hid (BxOk o)∧Hid (R=((cy o.wait.length o).1,(cy o.wait.length o).2+nk))∧Hid (o.done.length+o.wait.length<=1000000))
 case atStart=>exact⟨b,0,X,S,rfl,HM.o.symm,by omega,H0,hid BTo.refl,bi,hid (by rw[bh.o];rfl),bd⟩
 case round=>
  obtain⟨o,nk,A,Sk,rfl,aB,bL,HB,HT,HK,HE,HL⟩:=hrel;generalize gk=T at *;have bH:T<=1000:=by omega
  have G:=hid aB;obtain⟨wA,wc,ai⟩:=bU HB.o.wait;have av:A.M.length=T:=by rw[HB.o.wlen,aB]
  rw[av] at ai;have K:=hid av;have am:=hid ai;have aq:=hid (show RowGr wr wA A.M from RowGr.own (c:=wc) (by have:=HB.o.wait;rw[ai,<-av] at this;exact this));have p1:wr.cell? ⟨P,1,none⟩=some (.slice wA T wc):=by rw[HB.o.cell,ai];rfl
  clear ai aB av;generalize wr=wo at *;go_wp2;go_loopg [4,13] T (λg2 c i wx=>∃(k:Nat) (z:Int),k+g2=T∧i= .int .i64 k∧c= .int .i64 z∧Hid (z=bestI (fy o.v o.wait k))∧Hid (Below wo.heap.size wo wx))
  case atStart=>exact⟨0,-1,by omega,rfl,rfl,hid rfl,hid (ag _ _)⟩
  case round=>
   obtain⟨k,z,bM,rfl,rfl,HZ,ab⟩:=hrel;have E:=hid (HB.o.below ab.o);by_cases aE:k<T
   ·obtain⟨g3,rfl⟩:∃g3,gk=g3+1:=⟨gk-1,by omega⟩;obtain⟨U,Y,rfl,bj,s⟩:=RowGr.range (RowGr.below aq.o ab.o) (k:=k) (by rw[K.o];exact aE);have i1:(0:Int)<=(k:Int):=by omega
    have i2:(k:Int)<(T:Int):=by omega
    obtain⟨p,L⟩:∃p,p=A.M.getD k gp0:=⟨_,rfl⟩;have aF:=hid (show GrG wr Sk p by rw[L];exact E.o.good _ (aD.2 (.inr (getD_memP (by rw[K.o];exact aE)))));have N:=hid (show p.1=o.wait.getD k gz by rw[L];exact kp _ _ E.o.wl k);have a0:=hid (show p.1.deps.length<=1000 from chk_dl (HK.o.chk _ (by rw[N.o];exact aD.2 (.inr (gC (by rw[G.o];exact aE))))));rw[<-L] at s;clear L;obtain⟨D,x⟩:=p;obtain⟨aw,ar⟩:∃b,b=gM o.v D:=⟨_,rfl⟩;have aG:=hid (show ∀W,Below wr.heap.size wr W->Calls Tryz.prog 50 #[.pointer (some ⟨P,0,none⟩),.agg (grA D x.dA x.dc x.oA x.oc)] W λe w'=>e= .returned (.bool aw)∧Below W.heap.size W w' from λW hB=>by rw[ar];exact bxready_any (E.o.below hB) D x (aF.o.agr (Agr.below hB)) a0.o);have ac:=hid (show fy o.v o.wait (k+1)=if aw && behB o.wait D (fy o.v o.wait k) then some k else fy o.v o.wait k by rw[ar,show D=o.wait.getD k gz from N.o];rfl);clear ar a0;obtain⟨⟨t,r⟩,n,u,⟨ut,ur⟩,H⟩:=D;obtain⟨dA,dc,oA,oc⟩:=x;have aH:=hid (show wr.rangeAt U (Y+k*7) [.int .i64 t,.int .i64 r,.int .i64 n,.slice dA u.length dc,.int .i64 ut,.int .i64 ur,.slice oA H.length oc] from s);have be:Hid (∀W,Below wr.heap.size wr W->Calls Tryz.prog 50 #[.pointer (some ⟨P,0,none⟩),.agg #[t,r,n,.slice dA u.length dc,ut,ur,.slice oA H.length oc]] W λe w'=>e= .returned (.bool aw)∧Below W.heap.size W w'):=aG;clear s aG
    go_upto_region 6 with(first
     |(refine lM aH aJ ?_)
     |(refine bR rfl _ _ _ rfl _ _ _ _ rfl ?_ rfl ?_ ?_ ?_ ?_;(focus(simp;done));kernel_rfl;rfl;rfl))
    have I:Below wr.heap.size wr (wr.alloc (.cells #[t,r,n,.slice dA u.length dc,ut,ur,.slice oA H.length oc] 45)):=(ag _ _).alloc (aa _) _;have HC:=hid (an wr (.cells #[t,r,n,.slice dA u.length dc,ut,ur,.slice oA H.length oc] 45));generalize hW:wr.alloc (.cells #[t,r,n,.slice dA u.length dc,ut,ur,.slice oA H.length oc] 45)=W at *;clear hW;have aK:=hid I;have bl:=hid ((E.o.below I).cell 1);clear I;have x0:=rg0 HC.o;have x1:=rg1 HC.o;have x2:=rg2 HC.o;have x3:=rg3 HC.o;have x4:=rg4 HC.o;have x5:=rg5 HC.o;have x6:=rg6 HC.o;have cA:=λd os=>ak (be.o (grow (redrawn W d) os) (bx_grow aK.o aK.o.size d os));have ao:=bT ab aK.o;cases aw with
    |false=>
     refine rqb ?_
     repeat(any_goals(first|go_big_quiet_step (with_reducible exact cA _ _)|quiet_step (with_reducible exact cA _ _)))
     refine qz λwq O=> ?_;go_wp2;go_roundg g3
     case measure=>omega
     case rel=>exact⟨k+1,z,by omega,by go_num,rfl,hid (by rw[ac.o];simpa using HZ.o),bT ao O⟩
    | true=>
     cases C:fy o.v o.wait k with
     |none=>
      obtain rfl:z= -1:=by rw[HZ.o,C];rfl
      rw[C] at ac;refine rqb ?_
      repeat(any_goals(first|go_big_quiet_step (with_reducible exact cA _ _)|quiet_step (with_reducible exact cA _ _)))
      refine qz λwq O=> ?_;go_wp2;go_roundg g3
      case measure=>omega
      case rel=>exact⟨k+1,(k:Int),by omega,by go_num,rfl,hid (by rw[ac.o];simp[behB,bestI]),bT ao O⟩
     | some j=>
      obtain rfl:z=(j:Int):=by rw[HZ.o,C];rfl
      rw[C] at ac;have ad:=(ii C).1;obtain⟨bN,bO,bm,bI,F⟩:=RowGr.range (RowGr.below aq.o ao.o) (k:=j) (by rw[K.o];omega);cases bm;obtain⟨q,hq⟩:∃q,q=A.M.getD j gp0:=⟨_,rfl⟩;have bn:=hid (show q.1=o.wait.getD j gz by rw[hq];exact kp _ _ E.o.wl j);rw[<-hq] at F;clear hq C;obtain⟨gb,y⟩:=q;obtain⟨⟨t2,r2⟩,n2,u2,⟨bP,bQ⟩,bJ⟩:=gb;obtain⟨bS,bV,bW,bX⟩:=y;have y0:=aj (w:=W) (a:=⟨U,Y+j*7,none⟩) (v:= .int .i64 t2) (F 0 _ rfl);have y1:=aj (w:=W) (a:=⟨U,Y+j*7+1,none⟩) (v:= .int .i64 r2) (F 1 _ rfl);have pp:=aj (w:=W) (a:=⟨P,1,none⟩) (v:= .slice (some ⟨U,Y,none⟩) T wc) (by rw[bl.o,am.o];rfl);have i3:(0:Int)<=(j:Int):=by omega
      have i4:(j:Int)<(T:Int):=by omega
      have i5:¬(j:Int)<0:=by omega
      have i6:decide ((j:Int)<0)=false:=aC i5;obtain⟨zc,aL⟩:∃zc,zc=cmpS (⟨t,r⟩:Gst) ⟨t2,r2⟩:=⟨_,rfl⟩;have a1:=hid (show decide (zc<0)=(⟨t,r⟩:Gst).lt ⟨t2,r2⟩ by rw[aL];exact cmpS_lt _ _);have cC:=λd os=>ak (show Calls Tryz.prog 93 #[.agg #[t,r],.agg #[t2,r2]] (grow (redrawn W d) os) λe w'=>e= .returned (.int .i64 zc)∧Below (grow (redrawn W d) os).heap.size (grow (redrawn W d) os) w' by rw[aL];exact cmp_any t r t2 r2 _);have a2:=hid (show behB o.wait ⟨⟨t,r⟩,n,u,⟨ut,ur⟩,H⟩ (some j)=(⟨t,r⟩:Gst).lt ⟨t2,r2⟩ by show(⟨t,r⟩:Gst).lt (o.wait.getD j gz).s=_;rw[<-bn.o]);clear aL F;by_cases a3:zc<0
      ·have aM:decide (zc<0)=true:=aI a3;have HY:=hid (show behB o.wait ⟨⟨t,r⟩,n,u,⟨ut,ur⟩,H⟩ (some j)=true by rw[a2.o,<-a1.o,aM]);refine rqb ?_
       repeat(any_goals(first|go_big_quiet_step (with_reducible first|exact cA _ _|exact cC _ _)|quiet_step (with_reducible first|exact cA _ _|exact cC _ _)))
       refine qz λwq O=> ?_;go_wp2;go_roundg g3
       case measure=>omega
       case rel=>exact⟨k+1,(k:Int),by omega,by go_num,rfl,hid (by rw[ac.o];rw[HY.o];rfl),bT ao O⟩
      ·have aM:decide (zc<0)=false:=aC a3;have HY:=hid (show behB o.wait ⟨⟨t,r⟩,n,u,⟨ut,ur⟩,H⟩ (some j)=false by rw[a2.o,<-a1.o,aM]);refine rqb ?_
       repeat(any_goals(first|go_big_quiet_step (with_reducible first|exact cA _ _|exact cC _ _)|quiet_step (with_reducible first|exact cA _ _|exact cC _ _)))
       refine qz λwq O=> ?_;go_wp2;go_roundg g3
       case measure=>omega
       case rel=>exact⟨k+1,(j:Int),by omega,by go_num,rfl,hid (by rw[ac.o];rw[HY.o];rfl),bT ao O⟩
   ·have bo:k=T:=by omega
    subst bo;have i2:¬(k:Int)<(k:Int):=by omega
    have bY:decide ((k:Int)<(k:Int))=false:=aC i2;cases C:fy o.v o.wait k with
    |none=>
     obtain rfl:z= -1:=by rw[HZ.o,C];rfl
     have ae:=gX (f:=o.wait.length) (b:=o) (by rw[G.o];exact C);have bp:=hid (show R=(o,nk) by rw[HE.o,ae];simp);clear C ae;go_wp2
     try rw[dV]
     go_ret;rw[bp.o];exact⟨rfl,A,Sk,E.o,HT.o.trans (BTo.of_below ab.o)⟩
    | some j=>
     obtain rfl:z=(j:Int):=by rw[HZ.o,C];rfl
     obtain⟨ad,-⟩:=ii C;obtain⟨f,hf⟩:∃f,k=f+1:=⟨k-1,by omega⟩;have HF:=hid hf;clear hf;obtain⟨U,Y,rfl,bj,s⟩:=RowGr.range (RowGr.below aq.o ab.o) (k:=j) (by rw[K.o];exact ad);have i3:(0:Int)<=(j:Int):=by omega
     have i4:(j:Int)<(k:Int):=by omega
     have i5:¬(j:Int)<0:=by omega
     have i6:decide ((j:Int)<0)=false:=aC i5;obtain⟨p,L⟩:∃p,p=A.M.getD j gp0:=⟨_,rfl⟩;have aF:=hid (show GrG wr Sk p by rw[L];exact E.o.good _ (aD.2 (.inr (getD_memP (by rw[K.o];exact ad)))));have N:=hid (show p.1=o.wait.getD j gz by rw[L];exact kp _ _ E.o.wl j);have bq:=hid (show chkB p.1=true from HK.o.chk _ (by rw[N.o];exact aD.2 (.inr (gC (by rw[G.o];exact ad)))));rw[<-L] at s;clear L;obtain⟨D,x⟩:=p;obtain⟨od,a4⟩:∃b,b=oldB o.v D:=⟨_,rfl⟩;have ax:=hid (show oldB o.v (o.wait.getD j gz)=od by rw[a4,show D=o.wait.getD j gz from N.o]);have aO:=hid (show fy o.v o.wait o.wait.length=some j by rw[G.o];exact C);have a5:(o.wait.eraseIdx j).length=f:=by rw[List.length_eraseIdx,aN (by rw[G.o];exact ad),G.o,HF.o];rfl
     have af:=hid a5;have br:=hid (show(A.M.eraseIdx j).map Prod.fst=o.wait.eraseIdx j by rw[<-E.o.wl];exact map_erase _ _ _);clear C a5;obtain⟨Z,ap⟩:∃l,l=grL D x:=⟨_,rfl⟩;have aP:Z.length=7:=by rw[ap];rfl
     have bs:=hid ap;have aQ:=hid aP;have bt:=hid (show Z.toArray.toList.all (·.oneCell')=true by rw[ap];rfl);rw[<-ap] at s;have aH:=hid s;clear ap aP s a4;have Q:=hid (show(Tryz.prog.info? 45).map (·.size)=some Z.length by rw[aQ.o];kernel_rfl);have pp:wr.cell? ⟨P,1,none⟩=some (.slice (some ⟨U,Y,none⟩) k wc):=by rw[E.o.cell,am.o];rfl
     go_upto_region 12 with(first
      |(refine ik rfl _ _ rfl U (Y+j*7) rfl Z _ aH.o aJ rfl Q.o ?_)
      |(refine bR rfl _ _ _ rfl _ _ _ _ rfl ?_ rfl Q.o ?_ bt.o ?_;(focus(simp;done));(focus(simp[aQ.o];done))))
     have I:Below wr.heap.size wr (wr.alloc (.cells Z.toArray 45)):=(ag _ _).alloc (aa _) _;have a6:=hid (an wr (.cells Z.toArray 45));generalize hW:wr.alloc (.cells Z.toArray 45)=W at *;clear hW;have J:=hid (E.o.below I);have bu:=hid ((HT.o.trans (BTo.of_below ab.o)).trans (BTo.of_below I));have bv:=hid (aF.o.agr (Agr.below I));have bw:wr.heap.size<W.heap.size:=lt_of_block a6.o;have a7:=hid (λq hq=>(E.o.own_lt (k:=q) hq).2);have pw:W.cell? ⟨P,1,none⟩=some (.slice (some ⟨U,Y,none⟩) k wc):=by rw[J.o.cell,am.o];rfl
     have bf:=hid (show Calls Tryz.prog 100 #[.slice (some ⟨U,Y,none⟩) k wc,(j:Int),.int .i64 ((j:Int)+1)] W λe w'=>∃ay,e= .returned ay∧w'.ownsRow B 45 7 ay (A.M.eraseIdx j).length ((A.M.eraseIdx j).flatMap grC_)∧W.grownBy w' A.wv.ownBlock∧ay.ownBlock=A.wv.ownBlock by
      have:=bxdelete_any (B:=B) (wv:=A.wv) (M:=A.M) (w:=W) j J.o.wait (by rw[K.o];exact ad) (by rw[K.o];omega);rw[am.o] at this ⊢
      exact this)
     clear I pp;go_wp2_with fail;refine bf.o.mono ?_;rintro e w5 ⟨ay,rfl,aR,az,aT⟩;obtain⟨A5,c5,rfl⟩:=bU aR;have a8:some P≠A.wv.ownBlock:=λe=>J.o.wP e.symm;have aU:=(az.block P (lt_of_block J.o.obj) a8).trans J.o.obj;have q5:w5.cell? ⟨P,1,none⟩=some (.slice (some ⟨U,Y,none⟩) k wc):=by rw[crw aU,am.o];rfl
     have f5:w5.frozen? ⟨P,1,none⟩=false:=aS _ _ _ _ _ aU;have a9:=hid ((az.block wr.heap.size bw (λe=>by have:=a7.o _ (.inr (.inr (.inr e.symm)));omega)).trans a6.o);have bx:=hid (a7.o P (.inl rfl));have aV:=hid (J.o.wset (ag _ _) az aR (.inl aT) (λp L=>J.o.good p (aD.2 (.inr (List.eraseIdx_subset L)))));clear aR az aT a8 aU;go_upto_region 13 with fail;have aW:=hid ((bB w5 ⟨P,1,none⟩ (.slice A5 (A.M.eraseIdx j).length c5) wr.heap.size (by show wr.heap.size≠P;have:=bx.o;omega)).trans a9.o);obtain⟨aX,aY⟩:=aV.o;rw[br.o] at aX;generalize hV:w5.setCell ⟨P,1,none⟩ (.slice A5 (A.M.eraseIdx j).length c5)=V at *;clear hV q5 f5 aV a9;generalize bz:({ A with wv:= .slice A5 (A.M.eraseIdx j).length c5,M:=A.M.eraseIdx j }:BoxX)=X2 at *;clear bz;have aZ:=hid aX;have ba:=hid (bu.o.trans aY);have bA:=hid (bv.o.agr (aY.gr.agr (λi _ hs=>(J.o.sep i hs).2)));clear aX aY;have au:=hid (bxold_any (S2:=Sk) aZ.o D x);have bb:=hid (show Z.toArray=grA D x.dA x.dc x.oA x.oc by rw[bs.o];rfl);rw[<-bb.o] at au;have aA:=hid (show Calls Tryz.prog 95 #[.pointer (some ⟨P,0,none⟩),.agg Z.toArray] V λe w'=>e= .returned (.bool od)∧Below V.heap.size V w' by have h1:=au.o;rw[show oldB o.v D=od from by rw[show D=o.wait.getD j gz from N.o];exact ax.o] at h1;exact h1);clear au;cases od with
     | true=>
      have ae:=gO (f:=f) aO.o ax.o
      go_wp2_with (first
       |(refine cd rfl _ _ rfl wr.heap.size _ _ _ rfl aW.o aJ rfl Q.o ?_)
       |(go_at_call 95;refine aA.o.mono ?_;rintro e w7 ⟨rfl,ah⟩))
      go_roundg f
      case measure=>have:=HF.o;omega
      case rel=>exact⟨⟨o.done,o.wait.eraseIdx j,o.v⟩,nk,X2,Sk,rfl,af.o,by have:=HF.o;omega,hid (aZ.o.below ah),hid (ba.o.trans (BTo.of_below ah)),hid (HK.o.drop j),hid (by rw[HE.o,G.o,HF.o,ae];show _=((cy (o.wait.eraseIdx j).length _).1,_);rw[af.o]),hid (by have h1:=HL.o;show o.done.length+(o.wait.eraseIdx j).length<=1000000;rw[af.o];rw[G.o] at h1;have:=HF.o;omega)⟩
     | false=>
      have ae:=gN (f:=f) aO.o ax.o;have bC:=hid (HK.o.step aO.o ax.o)
      have bg:=hid (show ∀W7,Below V.heap.size V W7->Calls Tryz.prog 51 #[.pointer (some ⟨P,0,none⟩),.agg Z.toArray] W7 λe w'=>e= .returned (.tuple #[])∧∃X' S',BoxIn B P S' (o.done++[D]) (o.done++[D]) (o.wait.eraseIdx j) (eS o.v D.s.r D.n) X' w'∧BTo P X2 Sk W7 X' S' w' from λW7 hB=>by
       rw[bb.o]
       exact bxdeliver_any (aZ.o.below hB) D x (bA.o.agr (Agr.below hB)) (fp bq.o).1 (by have:=HL.o;omega) (by have:=HL.o;omega))
      go_wp2_with (first
       |(refine cd rfl _ _ rfl wr.heap.size _ _ _ rfl aW.o aJ rfl Q.o ?_)
       |(refine cd rfl _ _ rfl wr.heap.size _ _ _ rfl bD.o aJ rfl Q.o ?_)
       |(go_at_call 95;refine aA.o.mono ?_;rintro e w7 ⟨rfl,ah⟩;have bc:=hid ah;have bD:=bK ah aW;clear ah)
       |(go_at_call 51;refine(bg.o w7 bc.o).mono ?_;rintro e w8 ⟨rfl,X8,S8,bE,bF⟩))
      go_roundg f
      case measure=>have:=HF.o;omega
      case rel=>exact⟨Bx.put ⟨o.done,o.wait.eraseIdx j,o.v⟩ (o.wait.getD j gz),nk+1,X8,S8,by go_num,af.o,by have:=HF.o;omega,hid (by rw[<-show D=o.wait.getD j gz from N.o];exact bE),hid ((ba.o.trans (BTo.of_below bc.o)).trans bF),bC,hid (by rw[HE.o,G.o,HF.o,ae];show _=((cy (o.wait.eraseIdx j).length _).1,(cy (o.wait.eraseIdx j).length _).2+(nk+1));rw[af.o,Nat.add_comm nk 1,<-Nat.add_assoc]),hid (by have h1:=HL.o;show(o.done++[o.wait.getD j gz]).length+(o.wait.eraseIdx j).length<=1000000;rw[af.o,al,dC];rw[G.o] at h1;have:=HF.o;omega)⟩
theorem drainF_cnt:∀(f:Nat) (b:Bx),(cy f b).2<=f
 |0,b=>aa _
 | f+1,b=>by
  cases hb:fy b.v b.wait b.wait.length with
  |none=>rw[gX hb];exact aq _
  |some k=>
   cases ho:oldB b.v (b.wait.getD k gz) with
   |true=>rw[gO hb ho];exact Nat.le_succ_of_le (drainF_cnt f _)
   |false=>rw[gN hb ho];exact Nat.succ_le_succ (drainF_cnt f _)
theorem bq {W:World} {g:Nat} {l:List Value} {T:TypeId} (h:W.heap[g]? =some (.cells l.toArray T (0,0))):W.rangeAt g 0 l:=λj v hv=>by
 rw[cj,aG _ _ _ _ _ _ h,List.getElem?_toArray];exact hv
theorem bxhear_any {B P:Nat} {S:Nat->Prop} {b:Bx} {X:BoxX} {w:World} (h:BoxIn B P S b.done b.done b.wait b.v X w) (hok:BxOk b) (g:Grp) (x:GrX) (hG:GrG w S (g,x)) (hT1:∀o∈g.ops,o.text.size<9223372036854775807) (hTb:Tabs w) (hwl:b.wait.length<=100) (hlen:b.done.length+b.wait.length<=999999):
  Calls Tryz.prog 20 #[.pointer (some ⟨P,0,none⟩),.agg (grA g x.dA x.dc x.oA x.oc)] w λe w'=>e= .returned (.tuple #[.int .i64 ((du b g).2.1:Nat),.int .i64 (du b g).2.2])∧∃X' S',BoxIn B P S' (du b g).1.done (du b g).1.done (du b g).1.wait (du b g).1.v X' w'∧BTo P X S w X' S' w':=by
 obtain⟨i0,hi,a3,a4,a5⟩:=bx ib;obtain⟨R,Y⟩:∃R,R=du b g:=⟨_,rfl⟩;rw[<-Y];obtain⟨C,ai⟩:∃l,l=grL g x:=⟨_,rfl⟩;have ak:=hid (show grA g x.dA x.dc x.oA x.oc=C.toArray by rw[ai];rfl);have au:=hid (show C.length=7 by rw[ai];rfl);have a6:=hid (show ∀u∈C,u.oneCell'=true by rw[ai];exact iU (g,x));have av:=hid ai;have a:=hid (show(Tryz.prog.info? 45).map (·.size)=some C.length by rw[au.o];kernel_rfl);have aw:Below w.heap.size w (w.alloc (.cells C.toArray 45)):=(ag _ _).alloc (aa _) _;have HC:=hid (an w (.cells C.toArray 45));have Z:=hid (λW (M:Below w.heap.size w W)=>check_any g x.dA x.dc x.oA x.oc S W (GrIn.agr hG (Agr.below M)) hT1 (hTb.below M));have HX:=hid h;have aO:=hid hok;have ay:=hid hG;rw[ak.o] at Z ⊢;clear hT1 hTb ai;have G:=hid aw;have a7:=hid (h.below aw);have aQ:=hid (λq hq=>(h.own_lt (k:=q) hq).2);clear aw h hok hG;cases i:chkB g with
 | false=>
  obtain rfl:R=(b,0,80):=by rw[Y];unfold du;rw[aN i]
  rw[i] at Z;have Q:Hid (∀W,Below w.heap.size w W->Calls Tryz.prog 48 #[.agg C.toArray] W λe w'=>e= .returned (.int .i64 80)∧Below W.heap.size W w'):=Z;clear Z i Y;go_enter Tryz.func20,Tryz.ntmps20;go_upto_region 1 with fail;generalize hW:w.alloc (.cells C.toArray 45)=W at *;clear hW
  go_wp2_with (first
   |(refine cd rfl _ _ rfl w.heap.size _ _ _ rfl HC.o aJ rfl a.o ?_)
   |(go_at_call 48;refine(Q.o _ G.o).mono ?_;rintro e w1 ⟨rfl,c⟩))
  go_ret2;exact⟨rfl,X,S,a7.o.below c,(BTo.of_below G.o).trans (BTo.of_below c)⟩
 | true=>
  rw[i] at Z;have Q:Hid (∀W,Below w.heap.size w W->Calls Tryz.prog 48 #[.agg C.toArray] W λe w'=>e= .returned (.int .i64 0)∧Below W.heap.size W w'):=Z;clear Z;have ac:=(fp i).1;obtain⟨kn,H⟩:∃k,k=knownB b g:=⟨_,rfl⟩
  have am:=hid (λW (M:Below w.heap.size w W)=>(show Calls Tryz.prog 49 #[.pointer (some ⟨P,0,none⟩),.agg C.toArray] W λe w'=>e= .returned (.bool kn)∧Below W.heap.size W w' by
   rw[H,<-ak.o];exact bxknown_any (S2:=S) (HX.o.below M) g x (λd hd=>(fp (aO.o.chk d (aD.2 (.inl hd)))).1) ac (by omega)))
  cases kn with
  | true=>
   obtain rfl:R=(b,0,210):=by rw[Y];unfold du;rw[aE (by rw[i];decide),aN H.symm]
   clear i H Y ac;go_enter Tryz.func20,Tryz.ntmps20;go_upto_region 1 with fail;generalize hW:w.alloc (.cells C.toArray 45)=W at *;clear hW
   go_wp2_with (first
    |(refine cd rfl _ _ rfl w.heap.size _ _ _ rfl HC.o aJ rfl a.o ?_)
    |(refine cd rfl _ _ rfl w.heap.size _ _ _ rfl I.o aJ rfl a.o ?_)
    |(go_at_call 48;refine(Q.o _ G.o).mono ?_;rintro e w1 ⟨rfl,c⟩;have I:=bK c HC;have A:=bT G c;clear c)
    |(go_at_call 49;refine(am.o _ A.o).mono ?_;rintro e w2 ⟨rfl,m⟩))
   go_ret2;exact⟨rfl,X,S,(HX.o.below A.o).below m,(BTo.of_below A.o).trans (BTo.of_below m)⟩
  | false=>
   obtain⟨ae,af⟩:=not_known H.symm;have ao:=chk_dl i;obtain⟨rd,T⟩:∃r,r=gM b.v g:=⟨_,rfl⟩
   have az:=hid (λW (M:Below w.heap.size w W)=>(show Calls Tryz.prog 50 #[.pointer (some ⟨P,0,none⟩),.agg C.toArray] W λe w'=>e= .returned (.bool rd)∧Below W.heap.size W w' by
    rw[T,<-ak.o];exact bxready_any (HX.o.below M) g x (ay.o.agr (Agr.below M)) ao))
   cases rd with
   | true=>
    obtain⟨D,hD⟩:∃D,D=cy b.wait.length (b.put g):=⟨_,rfl⟩;obtain rfl:R=(D.1,D.2+1,0):=by rw[Y,hD];unfold du;rw[aE (by rw[i];decide),aE (by rw[<-H];decide),aN T.symm]
    have aZ:=hid (aO.o.put i T.symm ae af)
    have a8:=hid (λW (M:Below w.heap.size w W)=>(show Calls Tryz.prog 51 #[.pointer (some ⟨P,0,none⟩),.agg C.toArray] W λe w'=>e= .returned (.tuple #[])∧∃X' S',BoxIn B P S' (b.done++[g]) (b.done++[g]) b.wait (eS b.v g.s.r g.n) X' w'∧BTo P X S W X' S' w' by
     rw[<-ak.o];exact bxdeliver_any (HX.o.below M) g x (ay.o.agr (Agr.below M)) ac (by omega) (by omega)))
    have aR:=hid (λX1 S1 W (a9:BoxIn B P S1 (b.done++[g]) (b.done++[g]) b.wait (eS b.v g.s.r g.n) X1 W)=>(show Calls Tryz.prog 52 #[.pointer (some ⟨P,0,none⟩)] W λe w'=>e= .returned (.int .i64 (D.2:Nat))∧∃X' S',BoxIn B P S' D.1.done D.1.done D.1.wait D.1.v X' w'∧BTo P X1 S1 W X' S' w' by
     rw[hD];exact bxdrain_any (b:=b.put g) a9 aZ.o (by show b.wait.length<=1000;omega) (by show(b.done++[g]).length+b.wait.length<=_;rw[al,dC];omega)))
    obtain⟨nd,aA⟩:∃n,n=D.2:=⟨_,rfl⟩;have br:nd<=1000000:=by rw[aA,hD];exact aP (drainF_cnt _ _) (by omega)
    rw[<-aA] at aR ⊢;clear i H Y ac ae af T ao aA hD;go_enter Tryz.func20,Tryz.ntmps20;go_upto_region 1 with fail;generalize hW:w.alloc (.cells C.toArray 45)=W at *;clear hW
    go_wp2_with (first
     |(refine cd rfl _ _ rfl w.heap.size _ _ _ rfl HC.o aJ rfl a.o ?_)
     |(refine cd rfl _ _ rfl w.heap.size _ _ _ rfl I.o aJ rfl a.o ?_)
     |(refine cd rfl _ _ rfl w.heap.size _ _ _ rfl ab.o aJ rfl a.o ?_)
     |(refine cd rfl _ _ rfl w.heap.size _ _ _ rfl J.o aJ rfl a.o ?_)
     |(go_at_call 48;refine(Q.o _ G.o).mono ?_;rintro e w1 ⟨rfl,c⟩;have I:=bK c HC;have A:=bT G c;clear c)
     |(go_at_call 49;refine(am.o _ A.o).mono ?_;rintro e w2 ⟨rfl,m⟩;have ab:=bK m I;have U:=bT A m;clear m)
     |(go_at_call 50;refine(az.o _ U.o).mono ?_;rintro e f ⟨rfl,L⟩;have J:=bK L ab;have E:=bT U L;clear L)
     |(go_at_call 51;refine(a8.o _ E.o).mono ?_;rintro e w4 ⟨rfl,X4,S4,aT,aU⟩;have bb:=hid aT;have bd:=hid ((BTo.of_below E.o).trans aU);clear aT aU)
     |(go_at_call 52;refine(aR.o X4 S4 _ bb.o).mono ?_;rintro e w5 ⟨rfl,X5,S5,be,bf⟩))
    go_ret2;exact⟨by rw[Int.natCast_add,Int.add_comm];rfl,X5,S5,be,bd.o.trans bf⟩
   | false=>
    have hw:b.wait.length=X.M.length:=HX.o.wlen.symm;obtain⟨wA,wc,aB⟩:=bU HX.o.wait;have ad:=hid aB;by_cases V:100<=b.wait.length
    ·obtain rfl:R=(b,0,211):=by rw[Y];unfold du;rw[aE (by rw[i];decide),aE (by rw[<-H];decide),aE (by rw[<-T];decide),aN V]
     have aF:=hid (λW (M:Below w.heap.size w W)=>(show W.cell? ⟨P,1,none⟩=some (.slice wA X.M.length wc) by rw[(HX.o.below M).cell,ad.o];rfl));have i1:(100:Int)<=(X.M.length:Int):=by omega
     clear i H Y ac ae af T ao hw aB V;go_enter Tryz.func20,Tryz.ntmps20;go_upto_region 1 with fail;generalize hW:w.alloc (.cells C.toArray 45)=W at *;clear hW
     go_wp2_with (first
      |(refine cd rfl _ _ rfl w.heap.size _ _ _ rfl HC.o aJ rfl a.o ?_)
      |(refine cd rfl _ _ rfl w.heap.size _ _ _ rfl I.o aJ rfl a.o ?_)
      |(refine cd rfl _ _ rfl w.heap.size _ _ _ rfl ab.o aJ rfl a.o ?_)
      |(go_at_call 48;refine(Q.o _ G.o).mono ?_;rintro e w1 ⟨rfl,c⟩;have I:=bK c HC;have A:=bT G c;clear c)
      |(go_at_call 49;refine(am.o _ A.o).mono ?_;rintro e w2 ⟨rfl,m⟩;have ab:=bK m I;have U:=bT A m;clear m)
      |(go_at_call 50;refine(az.o _ U.o).mono ?_;rintro e f ⟨rfl,L⟩;have E:=bT U L;have p3:=aF.o _ E.o;clear L))
     go_ret2;exact⟨rfl,X,S,HX.o.below E.o,BTo.of_below E.o⟩
    ·obtain rfl:R=(⟨b.done,b.wait++[g],b.v⟩,0,0):=by rw[Y];unfold du;rw[aE (by rw[i];decide),aE (by rw[<-H];decide),aE (by rw[<-T];decide),aE V]
     have aF:=hid (λW (M:Below w.heap.size w W)=>(show W.cell? ⟨P,1,none⟩=some (.slice wA X.M.length wc) by rw[(HX.o.below M).cell,ad.o];rfl));have i1:¬(100:Int)<=(X.M.length:Int):=by omega
     have bs:decide ((100:Int)<=(X.M.length:Int))=false:=aC i1;have bt:X.M.length<=100:=by omega
     clear i H Y ac ae af T ao hw aB V;go_enter Tryz.func20,Tryz.ntmps20;go_upto_region 1 with fail;generalize hW:w.alloc (.cells C.toArray 45)=W at *;clear hW
     go_upto_region 11 with(first
      |(refine cd rfl _ _ rfl w.heap.size _ _ _ rfl HC.o aJ rfl a.o ?_)
      |(refine cd rfl _ _ rfl w.heap.size _ _ _ rfl I.o aJ rfl a.o ?_)
      |(refine cd rfl _ _ rfl w.heap.size _ _ _ rfl ab.o aJ rfl a.o ?_)
      |(go_at_call 48;refine(Q.o _ G.o).mono ?_;rintro e w1 ⟨rfl,c⟩;have I:=bK c HC;have A:=bT G c;clear c)
      |(go_at_call 49;refine(am.o _ A.o).mono ?_;rintro e w2 ⟨rfl,m⟩;have ab:=bK m I;have U:=bT A m;clear m)
      |(go_at_call 50;refine(az.o _ U.o).mono ?_;rintro e f ⟨rfl,L⟩;have J:=bK L ab;have E:=bT U L;have p3:=aF.o _ E.o;clear L))
     have N:=hid (HX.o.below E.o);have bh:=hid (ay.o.agr (Agr.below E.o));have bi:w.heap.size<f.heap.size:=lt_of_block J.o;have aV:P<f.heap.size:=lt_of_block N.o.obj;have bu:P<w.heap.size:=aQ.o P (.inl rfl);have bv:B<=P:=N.o.hP;obtain⟨⟨t,r⟩,n,u,⟨s,z⟩,ops⟩:=g;obtain⟨dA,dc,oA,oc⟩:=x;have bj:C=[.int .i64 t,.int .i64 r,.int .i64 n,.slice dA u.length dc,.int .i64 s,.int .i64 z,.slice oA ops.length oc]:=av.o;subst bj;have av:=hid (show[.int .i64 t,.int .i64 r,.int .i64 n,.slice dA u.length dc,.int .i64 s,.int .i64 z,.slice oA ops.length oc]=grC_ (⟨⟨t,r⟩,n,u,⟨s,z⟩,ops⟩,⟨dA,dc,oA,oc⟩) from rfl);refine aY (S:=λw'=>w'.heap[w.heap.size]? =some (.cells ([t,r,n,.slice dA u.length dc,s,z,.slice oA ops.length oc]:List Value).toArray 45 (0,0))) (by kernel_rfl) ?_
     try(change wpAnyH _ _ _ _ _ _ _ _ (World.drew _))
     refine tk 0 (.pointer (some ⟨P,0,none⟩)) ((show f.drew.heap[w.heap.size]? =_ from J.o)) ?_;go_simp;refine tk 1 (.pointer (some ⟨P,0,none⟩)) ((show f.drew.heap[w.heap.size]? =_ from J.o)) ?_;go_simp;refine tk 2 (.pointer (some ⟨P,0,none⟩)) ((show f.drew.heap[w.heap.size]? =_ from J.o)) ?_;go_simp;refine tk 3 (.pointer (some ⟨P,1,none⟩)) ((show f.drew.heap[w.heap.size]? =_ from J.o)) ?_;go_simp;refine tk2 5 (.agg ([t,r,n,.slice dA u.length dc,s,z,.slice oA ops.length oc]:List Value).toArray) rfl (bc (by rfl) _ _ rfl w.heap.size 0 rfl [t,r,n,.slice dA u.length dc,s,z,.slice oA ops.length oc] _ (λW' bk=>bq bk) aJ rfl a.o) ((show f.drew.heap[w.heap.size]? =_ from J.o)) ?_;go_simp;have aG:=hid (show Below f.heap.size f (f.alloc (.cells ([t,r,n,.slice dA u.length dc,s,z,.slice oA ops.length oc]:List Value).toArray 45)).drew from⟨rfl,rfl,rfl,by simp,λk hk=>ax _ _ _ hk⟩);have ap:=hid (show(f.alloc (.cells ([t,r,n,.slice dA u.length dc,s,z,.slice oA ops.length oc]:List Value).toArray 45)).drew.heap[w.heap.size]? =_ from(ax f (.cells ([t,r,n,.slice dA u.length dc,s,z,.slice oA ops.length oc]:List Value).toArray 45) _ bi).trans J.o);have aW:=hid (N.o.wait.alloc (.cells ([t,r,n,.slice dA u.length dc,s,z,.slice oA ops.length oc]:List Value).toArray 45))
     have bl:=hid (λ(j:Nat) (y:Value) (h:([t,r,n,.slice dA u.length dc,s,z,.slice oA ops.length oc]:List Value)[j]? =some y)=>dH f [t,r,n,.slice dA u.length dc,s,z,.slice oA ops.length oc] 45 j y h);have aj:(f.alloc (.cells ([t,r,n,.slice dA u.length dc,s,z,.slice oA ops.length oc]:List Value).toArray 45)).drew.heap.size=f.heap.size+1:=by show(f.alloc _).heap.size=_;simp
     have bw:(f.alloc (.cells ([t,r,n,.slice dA u.length dc,s,z,.slice oA ops.length oc]:List Value).toArray 45)).drew.cell? ⟨P,1,none⟩=some (.slice wA X.M.length wc):=by show(f.alloc _).cell? _=_;rw[crw ((ax f (.cells ([t,r,n,.slice dA u.length dc,s,z,.slice oA ops.length oc]:List Value).toArray 45) P aV).trans N.o.obj),ad.o];rfl
     have a0:([t,r,n,.slice dA u.length dc,s,z,.slice oA ops.length oc]:List Value).length=1*7:=au.o;rw[ad.o] at aW;refine dJ (rs:=[4,6]) (by kernel_rfl) (by simp) ?_;refine bg rfl (λK F=> ?_) (bg rfl (λK F=> ?_) dp)
     focus
      go_simp;refine F.out _ _ ((show f.drew.heap[w.heap.size]? =_ from J.o)) (λ_=> ?_);clear F K;refine rd1 6 λK F=> ?_;go_simp;refine F.out _ _ (ap.o) (λ_=> ?_);clear F K
     rotate_left
     focus
      go_simp;refine F.out _ _ (ap.o) (λ_=> ?_);clear F K;refine rd1 4 λK F=> ?_;go_simp;refine F.out _ _ (ap.o) (λ_=> ?_);clear F K
     all_goals
      refine rd1 7 λK F=> ?_;refine ds _ (by rfl) _ _ 25 (by rfl) B 45 i0 (.agg #[(0:Int),(0:Int),(0:Int),.slice none 0 0,(0:Int),(0:Int),.slice none 0 0]) 7 88 ci hi a3 a4 a5 rfl (by decide) (.slice wA X.M.length wc) X.M.length _ (by rfl) (by exact aW.o) ⟨f.heap.size,0,none⟩ 1 1 [t,r,n,.slice dA u.length dc,s,z,.slice oA ops.length oc] (by rfl) a0 (by exact bl.o) a6.o (by decide) (by unfold maxLen;omega) (by omega) (by rw[aj];omega) (f.heap.size+1) aj ?_;intro gq aH w5 ah O aI a1;rw[<-ad.o] at O aI;have aL:some w.heap.size≠X.wv.ownBlock:=λe=>by have:=aQ.o _ (.inr (.inr (.inr e.symm)));omega
      have aq:=hid ((O.block w.heap.size (by rw[aj];omega) aL).trans ap.o);have aX:some P≠X.wv.ownBlock:=λe=>N.o.wP e.symm;have aM:=(O.block P (by rw[aj];omega) aX).trans ((aG.o.block P aV).trans N.o.obj);have d5:w5.cell? ⟨P,1,none⟩=some (.slice wA X.M.length wc):=by rw[crw aM,ad.o];rfl
      have f5:w5.frozen? ⟨P,1,none⟩=false:=aS _ _ _ _ _ aM;have ar:w5.ownsRow B 45 7 (.slice (some ⟨gq,0,none⟩) (X.M.length+1) aH) (X.M++[((⟨⟨t,r⟩,n,u,⟨s,z⟩,ops⟩:Grp),(⟨dA,dc,oA,oc⟩:GrX))]).length ((X.M++[((⟨⟨t,r⟩,n,u,⟨s,z⟩,ops⟩:Grp),(⟨dA,dc,oA,oc⟩:GrX))]).flatMap grC_):=by rw[al,aK,bJ];rw[av.o] at ah;exact ah
      have a2:=hid (N.o.wset (wv':= .slice (some ⟨gq,0,none⟩) (X.M.length+1) aH) (M':=X.M++[((⟨⟨t,r⟩,n,u,⟨s,z⟩,ops⟩:Grp),(⟨dA,dc,oA,oc⟩:GrX))]) aG.o O ar (aI.elim (λe=> .inl (by rw[e];rfl)) (λe=> .inr (by rw[e,aj];rfl))) (λp hp=>by rcases aD.1 hp with hp|hp;exact N.o.good p (aD.2 (.inr hp));rw[ba] at hp;rw[hp];exact bh.o));clear ah ar O aI aL aX a1 aM;refine F.out _ _ (aq.o) (λ_=> ?_);clear F K;refine tk 8 (.pointer (some ⟨P,0,none⟩)) (aq.o) ?_;go_simp;refine tk 9 (.pointer (some ⟨P,1,none⟩)) (aq.o) ?_;go_simp;refine rd1 10 λK F=> ?_;go_simp;have bm:=hid ((bB w5 ⟨P,1,none⟩ (.slice (some ⟨gq,0,none⟩) (X.M.length+1) aH) w.heap.size (by show w.heap.size≠P;omega)).trans aq.o);refine F.out _ _ (bm.o) (λ_=> ?_);clear F K;refine bp (by kernel_rfl) ?_ _;go_simp;obtain⟨bn,bo⟩:=a2.o;go_wp2;go_ret2;refine⟨rfl,_,S,?_,(BTo.of_below E.o).trans bo⟩;have:=bn;rw[bD,N.o.wl] at this;exact this
end
end Go.Proofs.YtkhmicndehlneaaGreatDoor
