/- Part 8 of the walks and plain laws that this claim uses, joined. Conditions: as each theorem states. -/
import Derived.Test.YtkhmicndehlneaaGreatDoorYrg
namespace Go.Proofs.YtkhmicndehlneaaGreatDoor
set_option maxRecDepth 100000
set_option maxHeartbeats 16000000
set_option linter.unusedVariables false
section
section
open Go.RowKit Go.Lib Go.Sort
attribute [local go_sem ↓] Go.wp_at_zero Go.wp_at_succ
theorem check_few (t r n:Int) (v:List Int) (b c:Int) (ops:List Gop) (g:Option Addr) (f:Nat) (h:Option Addr) (i:Nat) (w:World) (B:v.length<=f) (C:f<=9223372036854775807) (D:i63 n) (p:VecR w g v)
  (q:fJ ⟨⟨t,r⟩,n,v,⟨b,c⟩,ops⟩=true) (s:Gst.eqb ⟨b,c⟩ ⟨0,0⟩=true) (u:¬(1<=ops.length∧ops.length<=200)):
  Calls Tryz.prog 48 #[.agg #[t,r,n,.slice g v.length f,b,c,.slice h ops.length i]] w λe w'=>e= .returned (.int .i64 80)∧Below w.heap.size w w':=by
 have E:Hid (∀W,Below w.heap.size w W->Calls Tryz.prog 91 #[.agg #[t,r,n,.slice g v.length f,b,c,.slice h ops.length i]] W λe w'=>e= .returned (.bool true)∧Below W.heap.size W w'):=
  hid (λW o=>(head_any ⟨⟨t,r⟩,n,v,⟨b,c⟩,ops⟩ g f h i W B C D (p.below o)).mono (by rintro e w' ⟨rfl,o⟩;exact⟨by rw[q],o⟩))
 have G:=ne_st b c 0 0 true s;clear q p s;have k:Below w.heap.size w (w.alloc (.cells #[t,r,n,.slice g v.length f,b,c,.slice h ops.length i] 45)):=(ag _ _).alloc (aa _) _;have l:=hid k;clear k;go_enter Tryz.func48,Tryz.ntmps48;go_upto_region 3 with(first|(go_at_call 91;refine(E.o _ l.o).mono ?_;rintro e x ⟨rfl,d⟩));have a:=hid ((d.block w.heap.size (by simp)).trans (an _ _));have m:Below w.heap.size w x:=l.o.trans (d.mono (by simp));have H:w.heap.size<x.heap.size:=by have:=d.size;simp at this;omega
 clear d;have I:=cw0 a.o;have J:=cw1 a.o;have K:=cw2 a.o;have L:=cw3 a.o;have M:=cw4 a.o;have N:=cw5 a.o;have O:=cw6 a.o;by_cases j:1<=ops.length
 ·have y:decide (ops.length<1)=false:=by rw[aW];omega
  have F:¬(ops.length:Int)<1:=by omega
  have P:decide (200<ops.length)=true:=by rw[au];omega
  have Q:200<(ops.length:Int):=by omega
  have z:decide (ops.length=0)=false:=by rw[aW];omega
  have A:decide (0<ops.length)=true:=by rw[au];omega
  have R:¬ops=[]:=by intro e;rw[e] at j;simp at j
  clear j u;go_wp2;go_ret;exact⟨rfl,m⟩
 ·have y:decide (ops.length<1)=true:=by rw[au];omega
  have F:(ops.length:Int)<1:=by omega
  have z:decide (ops.length=0)=true:=by rw[au];omega
  have A:ops=[]:=cu (by omega);clear j u y z;subst A;go_wp2;go_ret;exact⟨rfl,m⟩
theorem OpFin.size {b:Nat} {w w':World} {o:Obj} {a:Bool} {k c:Nat} (d:b<w.heap.size) (h:OpFin b (w.alloc o) a k c w'):b<w'.heap.size:=by
 rcases h with⟨h,-⟩|⟨w2,v,h,rfl,-⟩
 ·have:=h.size;simp at this;omega
 ·have:=h.size;simp[World.setCell] at this ⊢;omega
theorem OpFin.frozen {b:Nat} {w w':World} {a:Bool} {k c:Nat} (h:OpFin b w a k c w') (d:b<w.heap.size):w'.frozen? ⟨b,7,none⟩=w.frozen? ⟨b,7,none⟩:=by
 rcases h with⟨h,-⟩|⟨w2,v,h,rfl,-⟩
 ·exact h.frozen (p:=⟨b,7,none⟩) d
 ·exact(World.frozen?_setCell _ _ _ _).trans (h.frozen (p:=⟨b,7,none⟩) d)
theorem opsB_step {g:Gst} {l:List Gop} {j k:Nat} (a:j<l.length) (d:Gop):opsB g (l.drop j) k=(opB g (l.getD j d) k && opsB g (l.drop (j+1)) (k+eY (l.getD j d))):=by
 have:l.getD j d=l[j]:=by simp[List.getD,a]
 rw[this,iS a];rfl
theorem check_ops (t r n:Int) (v:List Int) (A B:Int) (ops:List Gop) (I:Option Addr) (H:Nat) (J:Option Addr) (V:Nat) (w:World) (hl:v.length<=H) (a:H<=9223372036854775807) (hn:i63 n) (hD:VecR w I v)
  (hh:fJ ⟨⟨t,r⟩,n,v,⟨A,B⟩,ops⟩=true) (hu:Gst.eqb ⟨A,B⟩ ⟨0,0⟩=true) (Y:1<=ops.length) (h2:ops.length<=200) (S:Nat->Prop) (hO:OpsS w S J ops) (ab:∀o∈ops,o.text.size<9223372036854775807) (ac:Tabs w) (z:Int) (hz:z=if opsB ⟨t,r⟩ ops 0=true then 0 else 80):
  Calls Tryz.prog 48 #[.agg #[t,r,n,.slice I v.length H,A,B,.slice J ops.length V]] w λe w'=>e= .returned (.int .i64 z)∧Below w.heap.size w w':=by
 have HO:=hid hO;have az:=hid ab;have aA:=hid ac;have HZ:=hid hz;clear hO ab ac hz;have H1:=hid Y;have H2:=hid h2
 have HH:Hid (∀W,Below w.heap.size w W->Calls Tryz.prog 91 #[.agg #[t,r,n,.slice I v.length H,A,B,.slice J ops.length V]] W λe w'=>e= .returned (.bool true)∧Below W.heap.size W w'):=
  hid (λW hB=>(head_any ⟨⟨t,r⟩,n,v,⟨A,B⟩,ops⟩ I H J V W hl a hn (hD.below hB)).mono (by rintro e w' ⟨rfl,hB⟩;exact⟨by rw[hh],hB⟩))
 have aC:=ne_st A B 0 0 true hu;clear hh hD hu;have ad:Below w.heap.size w (w.alloc (.cells #[t,r,n,.slice I v.length H,A,B,.slice J ops.length V] 45)):=(ag _ _).alloc (aa _) _;have ae:=hid ad;clear ad;go_enter Tryz.func48,Tryz.ntmps48;go_upto_region 3 with(first|(go_at_call 91;refine(HH.o _ ae.o).mono ?_;rintro e u ⟨rfl,D⟩));have s:=hid ((D.block w.heap.size (by simp)).trans (an _ _));have af:Below w.heap.size w u:=ae.o.trans (D.mono (by simp));have aD:w.heap.size<u.heap.size:=by have:=D.size;simp at this;omega
 clear D;have r0:=cw0 s.o;have r1:=cw1 s.o;have r2:=cw2 s.o;have r3:=cw3 s.o;have r4:=cw4 s.o;have r5:=cw5 s.o;have r6:=cw6 s.o;have b1:decide (ops.length<1)=false:=by rw[aW];omega
 have b2:¬(ops.length:Int)<1:=by omega
 have b3:decide (200<ops.length)=false:=by rw[aW];omega
 have b4:¬200<(ops.length:Int):=by omega
 have b5:decide (ops.length=0)=false:=by rw[aW];omega
 have b6:decide (0<ops.length)=true:=by rw[au];omega
 have b7:¬ops=[]:=by intro e;rw[e] at Y;simp at Y
 clear Y h2;go_upto_region 11 with(fail);go_loopw [50] (λi wr=>∃j q:Nat,j<=ops.length∧i= .int .i64 j∧q<=2000*j∧Hid (opsB ⟨t,r⟩ ops 0=opsB ⟨t,r⟩ (ops.drop j) q)∧Below w.heap.size w wr∧u.heap.size<wr.heap.size∧Hid (Chkr wr u.heap.size ⟨t,r⟩ q)∧Hid (wr.frozen? ⟨u.heap.size,7,none⟩=false)) (λi _=>ops.length-(RowKit.intOf i).toNat)
 case atStart=>exact⟨0,0,by omega,rfl,by omega,hid rfl,af.alloc af.size _,by simp,hid ⟨(aG _ _ _ _ _ _ (an _ _)).trans rfl,(aG _ _ _ _ _ _ (an _ _)).trans rfl,(aG _ _ _ _ _ _ (an _ _)).trans rfl⟩,hid (aS _ _ _ _ _ (an _ _))⟩
 case round=>
  clear r0 r1 r2 r3 r4 r5 r6;obtain⟨j,q,hj,rfl,aE,HK,f,K,ah,aj⟩:=hrel;by_cases E:j<ops.length
  ·obtain⟨X,ak,al⟩:=OpsS.agr HO.o (Agr.below f);obtain⟨b,d,rfl,hS,aF,a⟩:=ak j E;have F:=al j E;obtain⟨o,L⟩:∃o,o=ops.getD j (opO 0 .zero):=⟨_,rfl⟩;obtain⟨x,hx⟩:∃x,x=X j:=⟨_,rfl⟩;rw[<-L] at F;simp only[<-L,<-hx] at F a;have ao:o.text.size<9223372036854775807:=az.o o (by rw[L];simp[List.getD,E]);have M:=opsB_step (g:=⟨t,r⟩) (k:=q) E (opO 0 .zero);rw[<-L] at M;have ap:=hid M;have y:∀c,Below wr.heap.size wr (wr.alloc c):=λc=>(ag _ _).alloc (aa _) _;have N:=λc=>op_any u.heap.size ⟨t,r⟩ q (by have:=H2.o;omega) o x S (wr.alloc c) (ah.o.alloc _) (((y c).frozen (p:=⟨u.heap.size,7,none⟩) K).trans aj.o) (F.agr (Agr.below (y c))) ao ((aA.o.below f).below (y c));have O:=λh=>more_le (g:=⟨t,r⟩) (o:=o) (k:=q) h;clear M L hx F ao ak al;obtain⟨mo,C⟩:∃m,m=eY o:=⟨_,rfl⟩;obtain⟨Z,P⟩:∃m,m=opB ⟨t,r⟩ o q:=⟨_,rfl⟩;simp only[<-C,<-P] at N O;have Q:Hid (opsB ⟨t,r⟩ (ops.drop j) q=(Z && opsB ⟨t,r⟩ (ops.drop (j+1)) (q+mo))):=hid (by rw[P,C];exact ap.o);clear ap C P;have aB:=hid O;clear O;obtain⟨R,⟨⟨nt,nr⟩,ni⟩,⟨⟨pt,pr⟩,pi⟩,T,aq,U,⟨⟨av,ar⟩,ai⟩,⟨⟨et,er⟩,ei⟩,text,G⟩:=o;obtain⟨xd,aw,xe,ax⟩:=x
   have ay:Hid (∀c,Calls Tryz.prog 94 #[.pointer (some ⟨u.heap.size,0,none⟩),.agg #[R,nt,nr,ni,pt,pr,pi,T,aq,.slice xd U.length aw,av,ar,ai,et,er,ei,text,.slice xe G.length ax]] (wr.alloc c) λe w'=>e= .returned (.bool Z)∧OpFin u.heap.size (wr.alloc c) Z q mo w'):=hid N;clear N;have c0:wr.cell? ⟨b,d+j*18,none⟩=some (.int .i64 R):=a 0 (by omega);have c1:wr.cell? ⟨b,d+j*18+1,none⟩=some (.int .i64 nt):=a 1 (by omega);have c2:wr.cell? ⟨b,d+j*18+2,none⟩=some (.int .i64 nr):=a 2 (by omega);have c3:wr.cell? ⟨b,d+j*18+3,none⟩=some (.int .i64 ni):=a 3 (by omega);have c4:wr.cell? ⟨b,d+j*18+4,none⟩=some (.int .i64 pt):=a 4 (by omega);have c5:wr.cell? ⟨b,d+j*18+5,none⟩=some (.int .i64 pr):=a 5 (by omega);have c6:wr.cell? ⟨b,d+j*18+6,none⟩=some (.int .i64 pi):=a 6 (by omega);have c7:wr.cell? ⟨b,d+j*18+7,none⟩=some (.string T):=a 7 (by omega);have c8:wr.cell? ⟨b,d+j*18+8,none⟩=some (.bool aq):=a 8 (by omega);have c9:wr.cell? ⟨b,d+j*18+9,none⟩=some (.slice xd U.length aw):=a 9 (by omega);have aH:wr.cell? ⟨b,d+j*18+10,none⟩=some (.int .i64 av):=a 10 (by omega);have aI:wr.cell? ⟨b,d+j*18+11,none⟩=some (.int .i64 ar):=a 11 (by omega);have aJ:wr.cell? ⟨b,d+j*18+12,none⟩=some (.int .i64 ai):=a 12 (by omega);have aK:wr.cell? ⟨b,d+j*18+13,none⟩=some (.int .i64 et):=a 13 (by omega);have aL:wr.cell? ⟨b,d+j*18+14,none⟩=some (.int .i64 er):=a 14 (by omega)
   have aM:wr.cell? ⟨b,d+j*18+15,none⟩=some (.int .i64 ei):=a 15 (by omega);have aN:wr.cell? ⟨b,d+j*18+16,none⟩=some (.string text):=a 16 (by omega);have aO:wr.cell? ⟨b,d+j*18+17,none⟩=some (.slice xe G.length ax):=a 17 (by omega);clear a;have aP:IntKind.i64.wrap ((j:Int)+1)=(j:Int)+1:=cH _ (by have:=H2.o;omega);cases Z with
   | false=>
    obtain rfl:z=80:=by rw[HZ.o,HK.o,Q.o];rfl
    go_wp2_with (first
     |(go_at_call 94;refine(ay.o _).mono ?_;rintro e w3 ⟨rfl,l⟩)
     |(refine bR rfl _ _ _ rfl _ _ _ _ rfl ?_ rfl ?_ ?_ ?_ ?_;(focus(simp;done));kernel_rfl;rfl;rfl)
     |(refine dF rfl _ _ rfl _ _ _ _ rfl ?_ am rfl ?_ ?_;(focus(simp;done));kernel_rfl))
    go_ret;exact⟨rfl,f.trans (((y _).mono f.size).trans (l.below (by omega) (by have:=f.size;simp;omega)))⟩
   | true=>
    go_wp2_with (first
     |(go_at_call 94;refine(ay.o _).mono ?_;rintro e w3 ⟨rfl,l⟩)
     |(refine bR rfl _ _ _ rfl _ _ _ _ rfl ?_ rfl ?_ ?_ ?_ ?_;(focus(simp;done));kernel_rfl;rfl;rfl)
     |(refine dF rfl _ _ rfl _ _ _ _ rfl ?_ am rfl ?_ ?_;(focus(simp;done));kernel_rfl))
    go_roundw
    case rel=>exact⟨j+1,q+mo,by omega,by go_num,by have:=aB.o (by trivial);omega,hid (by rw[HK.o,Q.o];rfl),f.trans (((y _).mono f.size).trans (l.below (by omega) (by have:=f.size;simp;omega))),OpFin.size K l,hid (l.chkr (ah.o.alloc _)),hid ((l.frozen (by simp;omega)).trans (((y _).frozen (p:=⟨u.heap.size,7,none⟩) K).trans aj.o))⟩
    case measure=>simp[RowKit.intOf];omega
  ·obtain rfl:j=ops.length:=by omega
   obtain rfl:z=0:=by rw[HZ.o,HK.o,List.drop_length];rfl
   go_wp2;go_ret;exact⟨rfl,f⟩
end
section
open Go.RowKit Go.Lib Go.Sort
theorem check_any (g:Grp) (f:Option Addr) (d:Nat) (i:Option Addr) (j:Nat) (S:Nat->Prop) (w:World) (l:GrIn w S g f d i j) (x:∀o∈g.ops,o.text.size<9223372036854775807) (z:Tabs w):
  Calls Tryz.prog 48 #[.agg (grA g f d i j)] w λe w'=>e= .returned (.int .i64 (if chkB g=true then 0 else 80))∧Below w.heap.size w w':=by
 obtain⟨⟨t,r⟩,n,v,⟨a,b⟩,ops⟩:=g;have m:=l.dle;have u:d<=9223372036854775807:=by have:=l.dmax;simp only[maxLen] at this;omega
 have p:=l.nin;have q:=l.deps.vec;simp only at m p q x;cases c:fJ ⟨⟨t,r⟩,n,v,⟨a,b⟩,ops⟩ with
 |false=>
  have:chkB ⟨⟨t,r⟩,n,v,⟨a,b⟩,ops⟩=false:=by unfold chkB;rw[c];rfl
  rw[this];exact check_head t r n v a b ops f d i j w m u p q c
 | true=>
  cases s:Gst.eqb ⟨a,b⟩ ⟨0,0⟩ with
  |false=>
   refine check_undo t r n v a b ops f d i j w m u p q c s _ ?_;have:Gst.eqb ⟨a,b⟩ .zero=false:=s;simp only[chkB,c,this,aZ,jI,if_false]
  | true=>
   have y:Gst.eqb ⟨a,b⟩ .zero=true:=s;by_cases k:1<=ops.length∧ops.length<=200
   ·refine check_ops t r n v a b ops f d i j w m u p q c s k.1 k.2 S l.ops x z _ ?_;simp only[chkB,c,y,aZ,fl,aI k.1,aI k.2]
   ·have:chkB ⟨⟨t,r⟩,n,v,⟨a,b⟩,ops⟩=false:=by
     simp only[chkB,c,y,aZ,fl];by_cases A:1<=ops.length
     ·have:¬ops.length<=200:=λh=>k ⟨A,h⟩;simp[this]
     ·simp[A]
    rw[this];exact check_few t r n v a b ops f d i j w m u p q c s k
end
end
end Go.Proofs.YtkhmicndehlneaaGreatDoor
