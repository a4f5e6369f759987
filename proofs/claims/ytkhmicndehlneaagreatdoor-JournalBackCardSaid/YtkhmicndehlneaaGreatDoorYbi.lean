/- Part 9 of the walks and plain laws that this claim uses, joined. Conditions: as each theorem states. -/
import Derived.Test.YtkhmicndehlneaaGreatDoorYbh
namespace Go.Proofs.YtkhmicndehlneaaGreatDoor
set_option maxRecDepth 100000
set_option maxHeartbeats 16000000
set_option linter.unusedVariables false
section
section
open Go.RowKit Go.Lib Go.Sort
attribute [local go_sem ↓] Go.wp_at_zero Go.wp_at_succ
theorem check_few (t r n:Int) (v:List Int) (ut ur:Int) (ops:List Gop) (dA:Option Addr) (dc:Nat) (oA:Option Addr) (oc:Nat) (w:World) (hl:v.length<=dc) (hc:dc<=9223372036854775807) (hn:i63 n) (hD:VecR w dA v)
  (hh:gC ⟨⟨t,r⟩,n,v,⟨ut,ur⟩,ops⟩=true) (hu:Gst.eqb ⟨ut,ur⟩ ⟨0,0⟩=true) (hz:¬(1<=ops.length∧ops.length<=200)):
  Calls Tryz.prog 48 #[.agg #[t,r,n,.slice dA v.length dc,ut,ur,.slice oA ops.length oc]] w λe w'=>e= .returned (.int .i64 80)∧Below w.heap.size w w':=by
 have m:Hid (∀W,Below w.heap.size w W->Calls Tryz.prog 91 #[.agg #[t,r,n,.slice dA v.length dc,ut,ur,.slice oA ops.length oc]] W λe w'=>e= .returned (.bool true)∧Below W.heap.size W w'):=
  hid (λW h=>(head_any ⟨⟨t,r⟩,n,v,⟨ut,ur⟩,ops⟩ dA dc oA oc W hl hc hn (hD.below h)).mono (by rintro e w' ⟨rfl,h⟩;exact⟨by rw[hh],h⟩))
 have p:=ne_st ut ur 0 0 true hu;clear hh hD hu;have d:Below w.heap.size w (w.alloc (.cells #[t,r,n,.slice dA v.length dc,ut,ur,.slice oA ops.length oc] 45)):=(ag _ _).alloc (aa _) _;have f:=hid d;clear d;go_enter Tryz.func48,Tryz.ntmps48;go_upto_region 3 with(first|(go_at_call 91;refine(m.out _ f.out).mono ?_;rintro e i ⟨rfl,b⟩));have a:=hid ((b.block w.heap.size (by simp)).trans (am _ _));have g:Below w.heap.size w i:=f.out.trans (b.mono (by simp));have q:w.heap.size<i.heap.size:=by have:=b.size;simp at this;omega
 clear b;have s:=cw0 a.out;have u:=cw1 a.out;have x:=cw2 a.out;have y:=cw3 a.out;have z:=cw4 a.out;have A:=cw5 a.out;have B:=cw6 a.out;by_cases c:1<=ops.length
 ·have j:decide (ops.length<1)=false:=by rw[aU];omega
  have o:¬(ops.length:Int)<1:=by omega
  have C:decide (200<ops.length)=true:=by rw[ak];omega
  have D:200<(ops.length:Int):=by omega
  have k:decide (ops.length=0)=false:=by rw[aU];omega
  have l:decide (0<ops.length)=true:=by rw[ak];omega
  have E:¬ops=[]:=by intro e;rw[e] at c;simp at c
  clear c hz;go_wp2;go_ret;exact⟨rfl,g⟩
 ·have j:decide (ops.length<1)=true:=by rw[ak];omega
  have o:(ops.length:Int)<1:=by omega
  have k:decide (ops.length=0)=true:=by rw[ak];omega
  have l:ops=[]:=bR (by omega);clear c hz j k;subst l;go_wp2;go_ret;exact⟨rfl,g⟩
theorem OpFin.size {b:Nat} {w w':World} {o:Obj} {ans:Bool} {k c:Nat} (hb:b<w.heap.size) (h:OpFin b (w.alloc o) ans k c w'):b<w'.heap.size:=by
 rcases h with⟨h,-⟩|⟨w2,v,h,rfl,-⟩
 ·have:=h.size;simp at this;omega
 ·have:=h.size;simp[World.setCell] at this ⊢;omega
theorem OpFin.frozen {b:Nat} {w w':World} {ans:Bool} {k c:Nat} (h:OpFin b w ans k c w') (hb:b<w.heap.size):w'.frozen? ⟨b,7,none⟩=w.frozen? ⟨b,7,none⟩:=by
 rcases h with⟨h,-⟩|⟨w2,v,h,rfl,-⟩
 ·exact h.frozen (p:=⟨b,7,none⟩) hb
 ·exact(World.frozen?_setCell _ _ _ _).trans (h.frozen (p:=⟨b,7,none⟩) hb)
theorem opsB_step {g:Gst} {l:List Gop} {j k:Nat} (hj:j<l.length) (d:Gop):opsB g (l.drop j) k=(opB g (l.getD j d) k && opsB g (l.drop (j+1)) (k+eR (l.getD j d))):=by
 have:l.getD j d=l[j]:=by simp[List.getD,hj]
 rw[this,iM hj];rfl
theorem check_ops (t r n:Int) (v:List Int) (ut ur:Int) (ops:List Gop) (dA:Option Addr) (dc:Nat) (oA:Option Addr) (oc:Nat) (w:World) (hl:v.length<=dc) (hc:dc<=9223372036854775807) (hn:i63 n) (hD:VecR w dA v)
  (hh:gC ⟨⟨t,r⟩,n,v,⟨ut,ur⟩,ops⟩=true) (hu:Gst.eqb ⟨ut,ur⟩ ⟨0,0⟩=true) (h1:1<=ops.length) (h2:ops.length<=200) (S:Nat->Prop) (hO:OpsS w S oA ops) (hTx:∀o∈ops,o.text.size<9223372036854775807) (hTb:Tabs w) (z:Int) (hz:z=if opsB ⟨t,r⟩ ops 0=true then 0 else 80):
  Calls Tryz.prog 48 #[.agg #[t,r,n,.slice dA v.length dc,ut,ur,.slice oA ops.length oc]] w λe w'=>e= .returned (.int .i64 z)∧Below w.heap.size w w':=by
 have HO:=hid hO;have aj:=hid hTx;have al:=hid hTb;have HZ:=hid hz;clear hO hTx hTb hz;have H1:=hid h1;have H2:=hid h2
 have HH:Hid (∀W,Below w.heap.size w W->Calls Tryz.prog 91 #[.agg #[t,r,n,.slice dA v.length dc,ut,ur,.slice oA ops.length oc]] W λe w'=>e= .returned (.bool true)∧Below W.heap.size W w'):=
  hid (λW hB=>(head_any ⟨⟨t,r⟩,n,v,⟨ut,ur⟩,ops⟩ dA dc oA oc W hl hc hn (hD.below hB)).mono (by rintro e w' ⟨rfl,hB⟩;exact⟨by rw[hh],hB⟩))
 have ao:=ne_st ut ur 0 0 true hu;clear hh hD hu;have P:Below w.heap.size w (w.alloc (.cells #[t,r,n,.slice dA v.length dc,ut,ur,.slice oA ops.length oc] 45)):=(ag _ _).alloc (aa _) _;have Q:=hid P;clear P;go_enter Tryz.func48,Tryz.ntmps48;go_upto_region 3 with(first|(go_at_call 91;refine(HH.out _ Q.out).mono ?_;rintro e s ⟨rfl,A⟩));have q:=hid ((A.block w.heap.size (by simp)).trans (am _ _));have R:Below w.heap.size w s:=Q.out.trans (A.mono (by simp));have ap:w.heap.size<s.heap.size:=by have:=A.size;simp at this;omega
 clear A;have r0:=cw0 q.out;have r1:=cw1 q.out;have r2:=cw2 q.out;have r3:=cw3 q.out;have r4:=cw4 q.out;have r5:=cw5 q.out;have r6:=cw6 q.out;have b1:decide (ops.length<1)=false:=by rw[aU];omega
 have b2:¬(ops.length:Int)<1:=by omega
 have b3:decide (200<ops.length)=false:=by rw[aU];omega
 have b4:¬200<(ops.length:Int):=by omega
 have b5:decide (ops.length=0)=false:=by rw[aU];omega
 have b6:decide (0<ops.length)=true:=by rw[ak];omega
 have b7:¬ops=[]:=by intro e;rw[e] at h1;simp at h1
 clear h1 h2;go_upto_region 11 with(fail);go_loopw [50] (λi wr=>∃j l:Nat,j<=ops.length∧i= .int .i64 j∧l<=2000*j∧Hid (opsB ⟨t,r⟩ ops 0=opsB ⟨t,r⟩ (ops.drop j) l)∧Below w.heap.size w wr∧s.heap.size<wr.heap.size∧Hid (Chkr wr s.heap.size ⟨t,r⟩ l)∧Hid (wr.frozen? ⟨s.heap.size,7,none⟩=false)) (λi _=>ops.length-(RowKit.intOf i).toNat)
 case atStart=>exact⟨0,0,by omega,rfl,by omega,hid rfl,R.alloc R.size _,by simp,hid ⟨(aD _ _ _ _ _ _ (am _ _)).trans rfl,(aD _ _ _ _ _ _ (am _ _)).trans rfl,(aD _ _ _ _ _ _ (am _ _)).trans rfl⟩,hid (aW _ _ _ _ _ (am _ _))⟩
 case round=>
  clear r0 r1 r2 r3 r4 r5 r6;obtain⟨j,l,hj,rfl,aq,HK,d,E,T,U⟩:=hrel;by_cases B:j<ops.length
  ·obtain⟨X,V,Y⟩:=OpsS.agr HO.out (Agr.below d);obtain⟨a,b,rfl,hS,au,hc⟩:=V j B;have C:=Y j B;obtain⟨o,F⟩:∃o,o=ops.getD j (opO 0 .zero):=⟨_,rfl⟩;obtain⟨x,hx⟩:∃x,x=X j:=⟨_,rfl⟩;rw[<-F] at C;simp only[<-F,<-hx] at C hc;have Z:o.text.size<9223372036854775807:=aj.out o (by rw[F];simp[List.getD,B]);have G:=opsB_step (g:=⟨t,r⟩) (k:=l) B (opO 0 .zero);rw[<-F] at G;have ab:=hid G;have u:∀c,Below wr.heap.size wr (wr.alloc c):=λc=>(ag _ _).alloc (aa _) _;have H:=λc=>op_any s.heap.size ⟨t,r⟩ l (by have:=H2.out;omega) o x S (wr.alloc c) (T.out.alloc _) (((u c).frozen (p:=⟨s.heap.size,7,none⟩) E).trans U.out) (C.agr (Agr.below (u c))) Z ((al.out.below d).below (u c));have I:=λh=>more_le (g:=⟨t,r⟩) (o:=o) (k:=l) h;clear G F hx C Z V Y;obtain⟨mo,y⟩:∃m,m=eR o:=⟨_,rfl⟩;obtain⟨O,J⟩:∃m,m=opB ⟨t,r⟩ o l:=⟨_,rfl⟩;simp only[<-y,<-J] at H I;have K:Hid (opsB ⟨t,r⟩ (ops.drop j) l=(O && opsB ⟨t,r⟩ (ops.drop (j+1)) (l+mo))):=hid (by rw[J,y];exact ab.out);clear ab y J;have an:=hid I;clear I;obtain⟨L,⟨⟨nt,nr⟩,ni⟩,⟨⟨pt,pr⟩,pi⟩,M,ac,N,⟨⟨ad,ar⟩,ai⟩,⟨⟨et,er⟩,ei⟩,text,D⟩:=o;obtain⟨xd,ae,xe,af⟩:=x
   have ah:Hid (∀c,Calls Tryz.prog 94 #[.pointer (some ⟨s.heap.size,0,none⟩),.agg #[L,nt,nr,ni,pt,pr,pi,M,ac,.slice xd N.length ae,ad,ar,ai,et,er,ei,text,.slice xe D.length af]] (wr.alloc c) λe w'=>e= .returned (.bool O)∧OpFin s.heap.size (wr.alloc c) O l mo w'):=hid H;clear H;have c0:wr.cell? ⟨a,b+j*18,none⟩=some (.int .i64 L):=hc 0 (by omega);have c1:wr.cell? ⟨a,b+j*18+1,none⟩=some (.int .i64 nt):=hc 1 (by omega);have c2:wr.cell? ⟨a,b+j*18+2,none⟩=some (.int .i64 nr):=hc 2 (by omega);have c3:wr.cell? ⟨a,b+j*18+3,none⟩=some (.int .i64 ni):=hc 3 (by omega);have c4:wr.cell? ⟨a,b+j*18+4,none⟩=some (.int .i64 pt):=hc 4 (by omega);have c5:wr.cell? ⟨a,b+j*18+5,none⟩=some (.int .i64 pr):=hc 5 (by omega);have c6:wr.cell? ⟨a,b+j*18+6,none⟩=some (.int .i64 pi):=hc 6 (by omega);have c7:wr.cell? ⟨a,b+j*18+7,none⟩=some (.string M):=hc 7 (by omega);have c8:wr.cell? ⟨a,b+j*18+8,none⟩=some (.bool ac):=hc 8 (by omega);have c9:wr.cell? ⟨a,b+j*18+9,none⟩=some (.slice xd N.length ae):=hc 9 (by omega);have av:wr.cell? ⟨a,b+j*18+10,none⟩=some (.int .i64 ad):=hc 10 (by omega);have aw:wr.cell? ⟨a,b+j*18+11,none⟩=some (.int .i64 ar):=hc 11 (by omega);have ax:wr.cell? ⟨a,b+j*18+12,none⟩=some (.int .i64 ai):=hc 12 (by omega);have ay:wr.cell? ⟨a,b+j*18+13,none⟩=some (.int .i64 et):=hc 13 (by omega);have aA:wr.cell? ⟨a,b+j*18+14,none⟩=some (.int .i64 er):=hc 14 (by omega)
   have aB:wr.cell? ⟨a,b+j*18+15,none⟩=some (.int .i64 ei):=hc 15 (by omega);have aC:wr.cell? ⟨a,b+j*18+16,none⟩=some (.string text):=hc 16 (by omega);have aE:wr.cell? ⟨a,b+j*18+17,none⟩=some (.slice xe D.length af):=hc 17 (by omega);clear hc;have aF:IntKind.i64.wrap ((j:Int)+1)=(j:Int)+1:=ds _ (by have:=H2.out;omega);cases O with
   | false=>
    obtain rfl:z=80:=by rw[HZ.out,HK.out,K.out];rfl
    go_wp2_with (first
     |(go_at_call 94;refine(ah.out _).mono ?_;rintro e w3 ⟨rfl,f⟩)
     |(refine bM rfl _ _ _ rfl _ _ _ _ rfl ?_ rfl ?_ ?_ ?_ ?_;(focus(simp;done));kernel_rfl;rfl;rfl)
     |(refine df rfl _ _ rfl _ _ _ _ rfl ?_ az rfl ?_ ?_;(focus(simp;done));kernel_rfl))
    go_ret;exact⟨rfl,d.trans (((u _).mono d.size).trans (f.below (by omega) (by have:=d.size;simp;omega)))⟩
   | true=>
    go_wp2_with (first
     |(go_at_call 94;refine(ah.out _).mono ?_;rintro e w3 ⟨rfl,f⟩)
     |(refine bM rfl _ _ _ rfl _ _ _ _ rfl ?_ rfl ?_ ?_ ?_ ?_;(focus(simp;done));kernel_rfl;rfl;rfl)
     |(refine df rfl _ _ rfl _ _ _ _ rfl ?_ az rfl ?_ ?_;(focus(simp;done));kernel_rfl))
    go_roundw
    case rel=>exact⟨j+1,l+mo,by omega,by go_num,by have:=an.out (by trivial);omega,hid (by rw[HK.out,K.out];rfl),d.trans (((u _).mono d.size).trans (f.below (by omega) (by have:=d.size;simp;omega))),OpFin.size E f,hid (f.chkr (T.out.alloc _)),hid ((f.frozen (by simp;omega)).trans (((u _).frozen (p:=⟨s.heap.size,7,none⟩) E).trans U.out))⟩
    case measure=>simp[RowKit.intOf];omega
  ·obtain rfl:j=ops.length:=by omega
   obtain rfl:z=0:=by rw[HZ.out,HK.out,List.drop_length];rfl
   go_wp2;go_ret;exact⟨rfl,d⟩
end
section
open Go.RowKit Go.Lib Go.Sort
theorem check_any (g:Grp) (dA:Option Addr) (dc:Nat) (oA:Option Addr) (oc:Nat) (S:Nat->Prop) (w:World) (hI:GrIn w S g dA dc oA oc) (hTx:∀o∈g.ops,o.text.size<9223372036854775807) (hTb:Tabs w):
  Calls Tryz.prog 48 #[.agg (grA g dA dc oA oc)] w λe w'=>e= .returned (.int .i64 (if chkB g=true then 0 else 80))∧Below w.heap.size w w':=by
 obtain⟨⟨t,r⟩,n,v,⟨a,b⟩,ops⟩:=g;have f:=hI.dle;have l:dc<=9223372036854775807:=by have:=hI.dmax;simp only[maxLen] at this;omega
 have i:=hI.nin;have j:=hI.deps.vec;simp only at f i j hTx;cases c:gC ⟨⟨t,r⟩,n,v,⟨a,b⟩,ops⟩ with
 |false=>
  have:chkB ⟨⟨t,r⟩,n,v,⟨a,b⟩,ops⟩=false:=by unfold chkB;rw[c];rfl
  rw[this];exact check_head t r n v a b ops dA dc oA oc w f l i j c
 | true=>
  cases k:Gst.eqb ⟨a,b⟩ ⟨0,0⟩ with
  |false=>
   refine check_undo t r n v a b ops dA dc oA oc w f l i j c k _ ?_;have:Gst.eqb ⟨a,b⟩ .zero=false:=k;simp only[chkB,c,this,aY,Bool.false_eq_true,if_false]
  | true=>
   have m:Gst.eqb ⟨a,b⟩ .zero=true:=k;by_cases d:1<=ops.length∧ops.length<=200
   ·refine check_ops t r n v a b ops dA dc oA oc w f l i j c k d.1 d.2 S hI.ops hTx hTb _ ?_;simp only[chkB,c,m,aY,fy,aN d.1,aN d.2]
   ·have:chkB ⟨⟨t,r⟩,n,v,⟨a,b⟩,ops⟩=false:=by
     simp only[chkB,c,m,aY,fy];by_cases p:1<=ops.length
     ·have:¬ops.length<=200:=λh=>d ⟨p,h⟩;simp[this]
     ·simp[p]
    rw[this];exact check_few t r n v a b ops dA dc oA oc w f l i j c k d
end
end
end Go.Proofs.YtkhmicndehlneaaGreatDoor
