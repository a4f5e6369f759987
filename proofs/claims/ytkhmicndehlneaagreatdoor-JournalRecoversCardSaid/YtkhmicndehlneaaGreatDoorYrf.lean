/- Part 6 of the walks and plain laws that this claim uses, joined. Conditions: as each theorem states. -/
import Derived.Lib.DecodeNEq
import Derived.Lib.MapLaws
import Derived.Lib.ValidLaws
import Derived.Outline
import Derived.Test.YtkhmicndehlneaaGreatDoorShelf
import Derived.Test.YtkhmicndehlneaaGreatDoorYrc
namespace Go.Proofs.YtkhmicndehlneaaGreatDoor
set_option maxRecDepth 100000
set_option maxHeartbeats 16000000
set_option linter.unusedVariables false
section
section
open Go.RowKit Go.Lib Go.Sort
attribute [local go_sem ↓] Go.wp_at_zero Go.wp_at_succ
structure Chkr (w:World) (b:Nat) (g:Gst) (k:Nat):Prop where
 t:w.cell? ⟨b,0,none⟩=some (.int .i64 g.t)
 r:w.cell? ⟨b,1,none⟩=some (.int .i64 g.r)
 k:w.cell? ⟨b,7,none⟩=some (.int .i64 k)
theorem Chkr.lt {w:World} {b:Nat} {g:Gst} {k:Nat} (h:Chkr w b g k):b<w.heap.size:=eL h.t
theorem Chkr.below {w w':World} {b:Nat} {g:Gst} {k:Nat} (h:Chkr w b g k) (hb:Below w.heap.size w w'):Chkr w' b g k:=
 ⟨(hb.cell (p:=⟨b,0,none⟩) h.lt).trans h.t,(hb.cell (p:=⟨b,1,none⟩) h.lt).trans h.r,(hb.cell (p:=⟨b,7,none⟩) h.lt).trans h.k⟩
theorem Chkr.alloc {w:World} {b:Nat} {g:Gst} {k:Nat} (h:Chkr w b g k) (o:Obj):Chkr (w.alloc o) b g k:=h.below ((ag _ _).alloc (aa _) _)
theorem kJ (b:Nat) (g:Gst) (k:Nat) (x:Gid) (w:World) (f:Chkr w b g k):
  Calls Tryz.prog 151 #[.pointer (some ⟨b,0,none⟩),idV x] w λe w'=>e= .returned (.bool (dK g x k))∧Below w.heap.size w w':=by
 obtain⟨⟨t,r⟩,i⟩:=x;have c:=hid f;clear f;show Calls _ _ #[_,.agg #[t,r,i]] _ _;cases a:Gid.eqb ⟨⟨t,r⟩,i⟩ ⟨⟨0,0⟩,0⟩ with
 |true=>
  have h:=eN t r i 0 0 0 true a;have d:=hid a;clear a;go_enter Tryz.func151,Tryz.ntmps151;go_wp2;go_ret;refine⟨dI ?_,(ag _ _).alloc (aa _) _⟩;have:Gid.none ⟨⟨t,r⟩,i⟩=true:=d.o;simp[dK,this]
 |false=>
  have h:=eN t r i 0 0 0 false a;have d:=hid a;clear a;go_enter Tryz.func151,Tryz.ntmps151;go_wp2_with fail;refine(iy b g k ⟨⟨t,r⟩,i⟩ _ (c.o.alloc _).t (c.o.alloc _).r (c.o.alloc _).k).mono ?_;rintro e l ⟨rfl,j⟩;go_wp2;go_ret;refine⟨dI ?_,((ag _ _).alloc (aa _) _).trans (j.mono (by simp))⟩;have:Gid.none ⟨⟨t,r⟩,i⟩=false:=d.o;simp[dK,this]
theorem own_any (b:Nat) (g:Gst) (k:Nat) (w:World) (c:Chkr w b g k):
  Calls Tryz.prog 150 #[.pointer (some ⟨b,0,none⟩)] w λe w'=>e= .returned (idV ⟨g,k⟩)∧Below w.heap.size w w':=by
 obtain⟨t,r⟩:=g;obtain⟨a,d,f⟩:=c;simp only at a d;show Calls _ _ _ _ λe w'=>e= .returned (.agg #[t,r,.int .i64 k])∧_;have h:=eL a;go_enter Tryz.func150,Tryz.ntmps150;have i:w.frozen? ⟨b,0,none⟩=w.frozen? ⟨b,0,none⟩:=rfl;go_wp2;go_region_held3 (λw'=>w'.cell? ⟨b,0,none⟩=some (.int .i64 t)∧w'.cell? ⟨b,1,none⟩=some (.int .i64 r)∧w'.cell? ⟨b,7,none⟩=some (.int .i64 k)) (go_keep) (fail)
 all_goals
  go_wp2;refine aU (v:= .agg #[t,r,.int .i64 k]) (by simp[results,Tryz.results150,go_sem]) rfl ⟨rfl,?_⟩;exact((ag _ _).alloc (aa _) _).drew
theorem cdots_any (b:Nat) (g:Gst) (k:Nat) (A:Option Addr) (c:Nat) (l:List Gst) (S:Nat->Prop) (w:World) (hC:Chkr w b g k) (hl:l.length<=9223372036854775807) (hA:StsS w S A l):
  Calls Tryz.prog 154 #[.pointer (some ⟨b,0,none⟩),.slice A l.length c] w λe w'=>e= .returned (.bool (iq g l))∧Below w.heap.size w w':=by
 have HC:=hid hC;have HA:=hid hA;obtain⟨n,W⟩:∃n,n=l.length:=⟨_,rfl⟩;obtain⟨s,t⟩:∃r,r=iq g l:=⟨_,rfl⟩;rw[<-W] at hl ⊢;rw[<-t];have G:=hid W;have HV:=hid t;clear hC hA W t;go_enter Tryz.func154,Tryz.ntmps154;go_wp2;go_loopw [9] (λi wr=>∃k:Nat,k<=n∧i= .int .i64 k∧Hid (∀i,i<k->dotB g l i=true)∧Below w.heap.size w wr) (λi _=>n-(RowKit.intOf i).toNat)
 case atStart=>exact⟨0,by omega,rfl,λi N=>absurd N (by omega),ag _ _⟩
 case round=>
  obtain⟨j,hj,rfl,HK,f⟩:=hrel;by_cases aa:j<n
  ·obtain⟨ab,ao,rfl,-,U,c0,c1⟩:=StsS.at_ (RowG.agr HA.o (Agr.below f)) (k:=j) (by have:=G.o;omega);obtain⟨x,X⟩:∃x,x=l.getD j .zero:=⟨_,rfl⟩;rw[<-X] at c0 c1;have H:=hid X;clear X;obtain⟨o,p⟩:=x;obtain⟨B,C⟩:=g;simp only at c0 c1;have I:=HC.o.below f;have kt:=aj (((I).alloc (.cells #[o,p] 42))).t;have kr:=aj (((I).alloc (.cells #[o,p] 42))).r;clear I;simp only at kt kr;have x0:=aj (w:=wr.alloc (.cells #[o,p] 42)) (a:=⟨wr.heap.size,0,none⟩) (v:= .int .i64 o) (by go_simp);have x1:=aj (w:=wr.alloc (.cells #[o,p] 42)) (a:=⟨wr.heap.size,1,none⟩) (v:= .int .i64 p) (by go_simp);have u:=λd J=>ak (jZ o p (grow (redrawn (wr.alloc (.cells #[o,p] 42)) d) J));have K:=λd J=>ak (cmp_any o p B C (grow (redrawn (wr.alloc (.cells #[o,p] 42)) d) J));have Y:=cmpS_gt ⟨o,p⟩ ⟨B,C⟩;have V:dotB ⟨B,C⟩ l j=false->s=false:=λh=>by
    rw[HV.o];unfold iq;rw[fB (by rw[<-G.o];exact aa) h];rfl
   have z:=hid V;clear V;cases D:Gst.right ⟨o,p⟩ with
   |false=>
    rw[D] at u;obtain rfl:s=false:=z.o (by unfold dotB;rw[<-H.o,D];rfl);clear D K Y;go_wp2;refine rqb ?_
    repeat(any_goals(go_big_quiet_step (with_reducible exact u _ _)))
    refine qz λO q=> ?_;go_wp2;go_ret;exact⟨rfl,(f.alloc f.size _).trans (q.mono (by have:=f.size;simp;omega))⟩
   | true=>
    rw[D] at u;have P:=hid D;clear D;cases E:Gst.lt ⟨B,C⟩ ⟨o,p⟩ with
    |true=>
     rw[E] at Y;obtain rfl:s=false:=z.o (by unfold dotB;rw[<-H.o,E,P.o];rfl);clear E;go_wp2;refine rqb ?_
     repeat(any_goals(go_big_quiet_step (with_reducible first|exact u _ _|exact K _ _)))
     refine qz λO q=> ?_;go_wp2;go_ret;exact⟨rfl,(f.alloc f.size _).trans (q.mono (by have:=f.size;simp;omega))⟩
    | false=>
     rw[E] at Y;have Z:=hid E;clear E;by_cases L:j=0
     ·have b1:decide (0<j)=false:=by rw[aW];omega
      have M:Hid (∀i,i<j+1->dotB ⟨B,C⟩ l i=true):=λi N=>by
       obtain rfl:i=j:=by omega
       unfold dotB;rw[<-H.o,Z.o,P.o];simp[L]
      clear L;go_wp2;refine rqb ?_
      repeat(any_goals(go_big_quiet_step (with_reducible first|exact u _ _|exact K _ _)))
      refine qz λO q=> ?_;go_wp2;go_roundw
      case rel=>exact⟨j+1,by omega,by go_num,M,(f.alloc f.size _).trans (q.mono (by have:=f.size;simp;omega))⟩
      case measure=>simp[RowKit.intOf];omega
     ·obtain⟨m,hm⟩:∃m,m+1=j:=⟨j-1,by omega⟩;obtain⟨ac,ad,e2,-,-,d0,d1⟩:=StsS.at_ (RowG.agr HA.o (Agr.below f)) (k:=m) (by have:=G.o;omega);injection e2 with e2;injection e2 with e3 e4;subst e3 e4;obtain⟨y,hy⟩:∃y,y=l.getD m .zero:=⟨_,rfl⟩;rw[<-hy] at d0 d1;have HY:=hid hy;clear hy;obtain⟨Q,R⟩:=y;simp only at d0 d1;have y0:=aj (w:=(wr.alloc (.cells #[o,p] 42))) (a:=⟨ab,ao+m*2,none⟩) (v:= .int .i64 Q) (by rw[ey _ _ _ U];exact d0);have y1:=aj (w:=(wr.alloc (.cells #[o,p] 42))) (a:=⟨ab,ao+m*2+1,none⟩) (v:= .int .i64 R) (by rw[ey _ _ _ U];exact d1);have cD:=λd J=>ak (cmp_any Q R o p (grow (redrawn (wr.alloc (.cells #[o,p] 42)) d) J));have hd:=cmpS_ge ⟨Q,R⟩ ⟨o,p⟩;have b1:decide (0<j)=true:=by rw[au];omega
      have b2:(j:Int)-1=(m:Int):=by omega
      have b3:(0:Int)<=(m:Int):=by omega
      have b4:(m:Int)<(n:Int):=by omega
      have b5:IntKind.i64.wrap ((j:Int)-1)=(m:Int):=by rw[b2];exact cH _ (by omega)
      have b6:m=j-1:=by omega
      have HM:=hid b6;clear b6 hm L;cases F:Gst.lt ⟨Q,R⟩ ⟨o,p⟩ with
      | false=>
       rw[F] at hd
       obtain rfl:s=false:=z.o (by
        unfold dotB;rw[<-H.o,Z.o,P.o,<-HM.o,<-HY.o,F]
        simp;have:=HM.o;omega)
       clear F;go_wp2;refine rqb ?_
       repeat(any_goals(go_big_quiet_step (with_reducible first|exact u _ _|exact K _ _|exact cD _ _)))
       refine qz λO q=> ?_;go_wp2;go_ret;exact⟨rfl,(f.alloc f.size _).trans (q.mono (by have:=f.size;simp;omega))⟩
      | true=>
       rw[F] at hd;have M:Hid (∀i,i<j+1->dotB ⟨B,C⟩ l i=true):=λi N=>by
        rcases cJ i j with h|h
        ·exact HK.o i h
        ·obtain rfl:i=j:=by omega
         unfold dotB;rw[<-H.o,Z.o,P.o,<-HM.o,<-HY.o,F];simp
       clear F;go_wp2;refine rqb ?_
       repeat(any_goals(go_big_quiet_step (with_reducible first|exact u _ _|exact K _ _|exact cD _ _)))
       refine qz λO q=> ?_;clear b5;go_wp2;go_roundw
       case rel=>exact⟨j+1,by omega,by go_num,M,(f.alloc f.size _).trans (q.mono (by have:=f.size;simp;omega))⟩
       case measure=>simp[RowKit.intOf];omega
  ·obtain rfl:j=n:=by omega
   have T:s=decide (j<=200):=by
    rw[HV.o];unfold iq;rw[es (λi N=>HK.o i (by have:=G.o;omega)),<-G.o];rfl
   by_cases h2:j<=200
   ·obtain rfl:s=true:=by rw[T];exact aI h2
    have t1:(j:Int)<=200:=by omega
    clear T;go_wp2;go_ret;exact⟨rfl,f⟩
   ·obtain rfl:s=false:=by rw[T];exact aC h2
    have t1:¬(j:Int)<=200:=by omega
    clear T;go_wp2;go_ret;exact⟨rfl,f⟩
end
section
open Go.RowKit Go.Lib Go.Sort
attribute [local go_sem ↓] Go.wp_at_zero Go.wp_at_succ
def cmpD (a b:Gid):Int:=orI (cmpS a.s b.s) (cmpI a.i b.i)
theorem cmpS_zero (a b:Gst):cmpS a b=0↔a.eqb b=true:=by
 simp only[cmpS,orI,cmpI,Gst.eqb,ay,au]
 repeat' split
 all_goals omega
theorem cmpI_lt (a b:Int):cmpI a b<0↔a<b:=by
 unfold cmpI
 repeat' split
 all_goals omega
theorem cmpD_lt (a b:Gid):decide (cmpD a b<0)=a.lt b:=by
 rw[bE,au];have e:=cmpI_lt a.i b.i;have c:cmpS a.s b.s<0↔a.s.lt b.s=true:=by rw[<-cmpS_lt];simp
 have d:=cmpS_zero a.s b.s;unfold cmpD orI;simp only[Gid.lt,dk,ay,au,<-c,<-d];split<;>omega
theorem cmpD_ge (a b:Gid):decide (0<=cmpD a b)= !a.lt b:=by
 rw[<-cmpD_lt,bE];simp
theorem or_blk (b:Nat) (x y:Int) (T:TypeId) (W:World) (hb:W.heap[b]? =some (.cells #[x,y] T (0,0))):
  Calls Tryz.prog 147 #[.slice (some ⟨b,0,none⟩) 2 2] W λe w'=>e= .returned (.int .i64 (orI x y))∧w'=W:=
 or_any _ _ _ _ (by rw[crw hb];rfl) (by rw[crw hb];rfl)
theorem cmpid_any (t r i a r' b:Int) (w:World):
  Calls Tryz.prog 190 #[.agg #[t,r,i],.agg #[a,r',b]] w λe w'=>e= .returned (.int .i64 (cmpD ⟨⟨t,r⟩,i⟩ ⟨⟨a,r'⟩,b⟩))∧Below w.heap.size w w':=by
 go_enter Tryz.func190,Tryz.ntmps190;go_wp2;generalize hW:(w.alloc (.cells #[t,r,i] 108)).alloc (.cells #[a,r',b] 108)=W;have f:w.heap.size+2=W.heap.size:=by subst hW;simp
 have h:W.cell? ⟨w.heap.size,0,none⟩=some (.int .i64 t):=by subst hW;go_simp
 have k:W.cell? ⟨w.heap.size,1,none⟩=some (.int .i64 r):=by subst hW;go_simp
 have l:W.cell? ⟨w.heap.size,2,none⟩=some (.int .i64 i):=by subst hW;go_simp
 have j:W.cell? ⟨w.heap.size+1,0,none⟩=some (.int .i64 a):=by subst hW;go_simp
 have m:W.cell? ⟨w.heap.size+1,1,none⟩=some (.int .i64 r'):=by subst hW;go_simp
 have n:W.cell? ⟨w.heap.size+1,2,none⟩=some (.int .i64 b):=by subst hW;go_simp
 have g:Below w.heap.size w W:=by subst hW;exact((ag _ _).alloc (aa _) _).alloc (by simp) _
 have o:=hid f;have p:=eL h;have q:=eL j;clear hW f
 go_region_held3 (λw'=>w'.cell? ⟨w.heap.size,0,none⟩=some (.int .i64 t)∧w'.cell? ⟨w.heap.size,1,none⟩=some (.int .i64 r)∧w'.cell? ⟨w.heap.size,2,none⟩=some (.int .i64 i)∧w'.cell? ⟨w.heap.size+1,0,none⟩=some (.int .i64 a)∧w'.cell? ⟨w.heap.size+1,1,none⟩=some (.int .i64 r')∧w'.cell? ⟨w.heap.size+1,2,none⟩=some (.int .i64 b)) (first|go_keep|(refine⟨?_,?_,?_,?_,?_,?_⟩<;>(rw[c.cell (by simpa using(by assumption))];assumption))) (first
  |(go_at_call 93;refine(cmp_any _ _ _ _ _).mono ?_;rintro e d ⟨rfl,c⟩)
  |(go_at_call 148;refine(compare_any _ _ _).mono ?_;rintro e d ⟨rfl,rfl⟩)
  |(go_at_call 147;refine(or_blk _ _ _ _ _ (by exact an _ _)).mono ?_;rintro e d ⟨rfl,rfl⟩))
 all_goals
  go_wp2;go_ret;have s:W.heap.size<=d.heap.size:=c.size;exact⟨rfl,(g.drew.trans (c.mono (show w.heap.size<=W.heap.size by omega))).alloc (by omega) _⟩
theorem celems_any (b:Nat) (g:Gst) (k:Nat) (A:Option Addr) (c:Nat) (l:List Gid) (S:Nat->Prop) (w:World) (hC:Chkr w b g k) (hl:l.length<=9223372036854775807) (hA:IdsS w S A l):
  Calls Tryz.prog 156 #[.pointer (some ⟨b,0,none⟩),.slice A l.length c] w λe w'=>e= .returned (.bool (fT g l k))∧Below w.heap.size w w':=by
 have HC:=hid hC;have HA:=hid hA;obtain⟨n,T⟩:∃n,n=l.length:=⟨_,rfl⟩;obtain⟨t,z⟩:∃r,r=fT g l k:=⟨_,rfl⟩;rw[<-T] at hl ⊢;rw[<-z];have H:=hid T;have HV:=hid z;clear hC hA T z;go_enter Tryz.func156,Tryz.ntmps156;go_wp2;go_loopw [9] (λi wr=>∃j:Nat,j<=n∧i= .int .i64 j∧Hid (∀i,i<j->ie g l k i=true)∧Below w.heap.size w wr) (λi _=>n-(RowKit.intOf i).toNat)
 case atStart=>exact⟨0,by omega,rfl,λi M=>absurd M (by omega),ag _ _⟩
 case round=>
  obtain⟨j,hj,rfl,HK,f⟩:=hrel;by_cases aa:j<n
  ·obtain⟨U,V,rfl,-,I,c0,c1,c2⟩:=IdsS.at_ (RowG.agr HA.o (Agr.below f)) (k:=j) (by have:=H.o;omega);obtain⟨x,W⟩:∃x,x=l.getD j .zero:=⟨_,rfl⟩;rw[<-W] at c0 c1 c2;have N:=hid W;clear W;obtain⟨⟨o,q⟩,s⟩:=x;simp only at c0 c1 c2;have x0:=aj (w:=(wr.alloc (.cells #[o,q,s] 108))) (a:=⟨wr.heap.size,0,none⟩) (v:= .int .i64 o) (by go_simp);have x1:=aj (w:=(wr.alloc (.cells #[o,q,s] 108))) (a:=⟨wr.heap.size,1,none⟩) (v:= .int .i64 q) (by go_simp);have x2:=aj (w:=(wr.alloc (.cells #[o,q,s] 108))) (a:=⟨wr.heap.size,2,none⟩) (v:= .int .i64 s) (by go_simp);have C:=HC.o.below f;have D:∀d B,Calls Tryz.prog 153 #[.pointer (some ⟨b,0,none⟩),.agg #[o,q,s]] (grow (redrawn (wr.alloc (.cells #[o,q,s] 108)) d) B) λe ac=>e= .returned (.bool (de g ⟨⟨o,q⟩,s⟩ k))∧∃p:Regrown,ac=grow (redrawn (wr.alloc (.cells #[o,q,s] 108)) p.d) p.os:=λd B=>
    ak (iy b g k ⟨⟨o,q⟩,s⟩ _ (aj (C.alloc _).t d B) (aj (C.alloc _).r d B) (aj (C.alloc _).k d B))
   clear C;have R:ie g l k j=false->t=false:=λh=>by
    rw[HV.o];unfold fT;rw[fB (by rw[<-H.o];exact aa) h];rfl
   have J:=hid R;clear R;cases E:de g ⟨⟨o,q⟩,s⟩ k with
   |false=>
    rw[E] at D;obtain rfl:t=false:=J.o (by unfold ie;rw[<-N.o,E];rfl);clear E;go_wp2;refine rqb ?_
    repeat(any_goals(go_big_quiet_step (with_reducible exact D _ _)))
    refine qz λX u=> ?_;go_wp2;go_ret;exact⟨rfl,(f.alloc f.size _).trans (u.mono (by have:=f.size;simp;omega))⟩
   | true=>
    rw[E] at D;have Y:=hid E;clear E;by_cases K:j=0
    ·have Z:decide (0<j)=false:=by rw[aW];omega
     have L:Hid (∀i,i<j+1->ie g l k i=true):=λi M=>by
      obtain rfl:i=j:=by omega
      unfold ie;rw[<-N.o,Y.o];simp[K]
     clear K;go_wp2;refine rqb ?_
     repeat(any_goals(go_big_quiet_step (with_reducible exact D _ _)))
     refine qz λX u=> ?_;go_wp2;go_roundw
     case rel=>exact⟨j+1,by omega,by go_num,L,(f.alloc f.size _).trans (u.mono (by have:=f.size;simp;omega))⟩
     case measure=>simp[RowKit.intOf];omega
    ·obtain⟨m,hm⟩:∃m,m+1=j:=⟨j-1,by omega⟩;obtain⟨ad,ae,e2,-,-,d0,d1,d2⟩:=IdsS.at_ (RowG.agr HA.o (Agr.below f)) (k:=m) (by have:=H.o;omega);injection e2 with e2;injection e2 with e3 e4;subst e3 e4;obtain⟨y,hy⟩:∃y,y=l.getD m .zero:=⟨_,rfl⟩;rw[<-hy] at d0 d1 d2;have HY:=hid hy;clear hy;obtain⟨⟨O,P⟩,Q⟩:=y;simp only at d0 d1 d2;have y0:=aj (w:=(wr.alloc (.cells #[o,q,s] 108))) (a:=⟨U,V+m*3,none⟩) (v:= .int .i64 O) (by rw[ey _ _ _ I];exact d0);have y1:=aj (w:=(wr.alloc (.cells #[o,q,s] 108))) (a:=⟨U,V+m*3+1,none⟩) (v:= .int .i64 P) (by rw[ey _ _ _ I];exact d1);have y2:=aj (w:=(wr.alloc (.cells #[o,q,s] 108))) (a:=⟨U,V+m*3+2,none⟩) (v:= .int .i64 Q) (by rw[ey _ _ _ I];exact d2);have cD:=λd B=>ak (cmpid_any O P Q o q s (grow (redrawn (wr.alloc (.cells #[o,q,s] 108)) d) B));have hd:=cmpD_ge ⟨⟨O,P⟩,Q⟩ ⟨⟨o,q⟩,s⟩;have Z:decide (0<j)=true:=by rw[au];omega
     have b2:(j:Int)-1=(m:Int):=by omega
     have b3:(0:Int)<=(m:Int):=by omega
     have b4:(m:Int)<(n:Int):=by omega
     have b5:IntKind.i64.wrap ((j:Int)-1)=(m:Int):=by rw[b2];exact cH _ (by omega)
     have b6:m=j-1:=by omega
     have HM:=hid b6;clear b6 hm K;cases F:Gid.lt ⟨⟨O,P⟩,Q⟩ ⟨⟨o,q⟩,s⟩ with
     | false=>
      rw[F] at hd
      obtain rfl:t=false:=J.o (by
       unfold ie;rw[<-N.o,Y.o,<-HM.o,<-HY.o,F];have:¬j=0:=λe=>by rw[e] at Z;simp at Z
       simp[this])
      clear F;go_wp2;refine rqb ?_
      repeat(any_goals(go_big_quiet_step (with_reducible first|exact D _ _|exact cD _ _)))
      refine qz λX u=> ?_;go_wp2;go_ret;exact⟨rfl,(f.alloc f.size _).trans (u.mono (by have:=f.size;simp;omega))⟩
     | true=>
      rw[F] at hd;have L:Hid (∀i,i<j+1->ie g l k i=true):=λi M=>by
       rcases cJ i j with h|h
       ·exact HK.o i h
       ·obtain rfl:i=j:=by omega
        unfold ie;rw[<-N.o,Y.o,<-HM.o,<-HY.o,F];simp
      clear F;go_wp2;refine rqb ?_
      repeat(any_goals(go_big_quiet_step (with_reducible first|exact D _ _|exact cD _ _)))
      refine qz λX u=> ?_;clear b5;go_wp2;go_roundw
      case rel=>exact⟨j+1,by omega,by go_num,L,(f.alloc f.size _).trans (u.mono (by have:=f.size;simp;omega))⟩
      case measure=>simp[RowKit.intOf];omega
  ·obtain rfl:j=n:=by omega
   have G:t=(decide (1<=j) && decide (j<=2000)):=by
    rw[HV.o];unfold fT;rw[es (λi M=>HK.o i (by have:=H.o;omega)),<-H.o];rfl
   by_cases h1:1<=j
   ·have t0:(1:Int)<=(j:Int):=by omega
    by_cases h2:j<=2000
    ·obtain rfl:t=true:=by rw[G];simp[h1,h2]
     have t1:(j:Int)<=2000:=by omega
     clear G;go_wp2;go_ret;exact⟨rfl,f⟩
    ·obtain rfl:t=false:=by rw[G];simp;omega
     have t1:¬(j:Int)<=2000:=by omega
     clear G;go_wp2;go_ret;exact⟨rfl,f⟩
   ·obtain rfl:t=false:=by rw[G];simp;omega
    have t1:¬(1:Int)<=(j:Int):=by omega
    clear G;go_wp2;go_ret;exact⟨rfl,f⟩
end
section
open Go.RowKit Go.Lib Go.Sort
theorem Calls.regrown_same {P:Program} {f:FuncId} {args:Array Value} {w:World} {d:Nat} {os:Array Obj} {v:Value}
  (h:Calls P f args (grow (redrawn w d) os) λe w'=>e= .returned v∧w'=grow (redrawn w d) os):Calls P f args (grow (redrawn w d) os) λe w''=>e= .returned v∧∃p:Regrown,w''=grow (redrawn w p.d) p.os:=
 h.mono λ_ _ ⟨he,hb⟩=>⟨he,⟨d,os⟩,hb⟩
theorem VecR.regrown {w:World} {A:Option Addr} {v:List Int} (h:VecR w A v) (d:Nat) (os:Array Obj):VecR (grow (redrawn w d) os) A v:=h.below (bL w d os)
theorem head_any (g:Grp) (l:Option Addr) (h:Nat) (C:Option Addr) (D:Nat) (w:World) (M:g.deps.length<=h) (S:h<=9223372036854775807) (N:i63 g.n) (H:VecR w l g.deps):
  Calls Tryz.prog 91 #[.agg (grA g l h C D)] w λe w'=>e= .returned (.bool (fJ g))∧Below w.heap.size w w':=by
 obtain⟨⟨t,r⟩,n,v,⟨E,F⟩,x⟩:=g;obtain⟨f,I⟩:∃a,a=fJ ⟨⟨t,r⟩,n,v,⟨E,F⟩,x⟩:=⟨_,rfl⟩;rw[<-I];have y:=hid I;clear I;unfold i63 at N;simp only at M N H;show Calls _ _ #[.agg #[t,r,n,.slice l v.length h,E,F,.slice C x.length D]] _ _;generalize x.length=on;obtain⟨W,i⟩:∃W,W=w.alloc (.cells #[t,r,n,.slice l v.length h,E,F,.slice C on D] 45):=⟨_,rfl⟩;have b:Below w.heap.size w W:=by subst i;exact(ag _ _).alloc (aa _) _
 have z:=H.below b;have A:W.heap[w.heap.size]? =some (.cells #[t,r,n,.slice l v.length h,E,F,.slice C on D] 45 (0,0)):=by subst i;exact an _ _
 have T:=rg0 A;have U:=rg1 A;have V:=rg2 A;have X:=rg3 A;have j:=λd m=>ak (jZ t r (grow (redrawn W d) m));have k:=λd m=>Calls.regrown_same (vector_any l h v (grow (redrawn W d) m) M (by omega) (z.regrown d m));have o:=λd m=>Calls.regrown_same (at_any l h v r (grow (redrawn W d) m) (by omega) (z.regrown d m));have R:v.length<=9223372036854775807:=by omega
 have p:=hid i;clear A H z;cases q:Gst.right ⟨t,r⟩ with
 |false=>
  rw[q] at j;obtain rfl:f=false:=by rw[y.o];simp[fJ,q]
  clear q k o i;go_enter Tryz.func91,Tryz.ntmps91;go_wp2;rw[<-p.o];refine rqb ?_
  repeat(any_goals(go_big_quiet_step (with_reducible exact j _ _)))
  refine qz λB c=> ?_;go_wp2;go_ret;exact⟨rfl,b.trans (c.mono b.size)⟩
 |true=>
 rw[q] at j;have P:=hid q;clear q;by_cases J:1<=n
 ·by_cases K:n<=1099511627776
  ·have L:IntKind.i64.wrap (n-1)=n-1:=cH _ (by omega);cases s:vecB v with
   |false=>
    rw[s] at k;obtain rfl:f=false:=by rw[y.o];simp[fJ,s]
    clear s o i L;go_enter Tryz.func91,Tryz.ntmps91;go_wp2;rw[<-p.o];refine rqb ?_
    repeat(any_goals(go_big_quiet_step (with_reducible first|exact j _ _|exact k _ _)))
    refine qz λB c=> ?_;go_wp2;go_ret;exact⟨rfl,b.trans (c.mono b.size)⟩
   | true=>
    rw[s] at k;have O:=hid s;have G:f=decide (atV v r=n-1):=by rw[y.o];simp[fJ,P.o,O.o,J,K]
    generalize atV v r=a at *;clear s i;by_cases u:a=n-1
    ·obtain rfl:f=true:=by rw[G];exact aI u
     have Q:(a == n-1)=true:=by rw[cf];exact u
     clear G u;go_enter Tryz.func91,Tryz.ntmps91;go_wp2;rw[<-p.o];refine rqb ?_
     repeat(any_goals(go_big_quiet_step (with_reducible first|exact j _ _|exact k _ _|exact o _ _)))
     refine qz λB c=> ?_;clear L;go_wp2;go_ret;exact⟨rfl,b.trans (c.mono b.size)⟩
    ·obtain rfl:f=false:=by rw[G];exact aC u
     have Q:(a == n-1)=false:=by rw[aL];exact u
     clear G u;go_enter Tryz.func91,Tryz.ntmps91;go_wp2;rw[<-p.o];refine rqb ?_
     repeat(any_goals(go_big_quiet_step (with_reducible first|exact j _ _|exact k _ _|exact o _ _)))
     refine qz λB c=> ?_;clear L;go_wp2;go_ret;exact⟨rfl,b.trans (c.mono b.size)⟩
  ·obtain rfl:f=false:=by rw[y.o];simp[fJ,K]
   have Y:decide (n<=1099511627776)=false:=aC K;clear k o i;go_enter Tryz.func91,Tryz.ntmps91;go_wp2;rw[<-p.o];refine rqb ?_
   repeat(any_goals(go_big_quiet_step (with_reducible exact j _ _)))
   refine qz λB c=> ?_;go_wp2;go_ret;exact⟨rfl,b.trans (c.mono b.size)⟩
 ·obtain rfl:f=false:=by rw[y.o];simp[fJ,J]
  have Z:decide (1<=n)=false:=aC J;clear k o i;go_enter Tryz.func91,Tryz.ntmps91;go_wp2;rw[<-p.o];refine rqb ?_
  repeat(any_goals(go_big_quiet_step (with_reducible exact j _ _)))
  refine qz λB c=> ?_;go_wp2;go_ret;exact⟨rfl,b.trans (c.mono b.size)⟩
end
end
section
open Go.Lib
def cN (b:Nat):Prop:=128<=b∧b<192
instance (b:Nat):Decidable (cN b):=by unfold cN;exact inferInstance
def rfN (n b0 b1 b2 b3:Nat):Option (Nat×Nat):=
 if b0<128 then some (b0,1)
 else if 194<=b0∧b0<224 then (if 2<=n∧cN b1 then some ((b0-192)*64+(b1-128),2) else none)
 else if 224<=b0∧b0<240 then
  (if 3<=n∧cN b1∧cN b2∧2048<=((b0-224)*64+(b1-128))*64+(b2-128)∧(((b0-224)*64+(b1-128))*64+(b2-128)<55296∨57344<=((b0-224)*64+(b1-128))*64+(b2-128)) then some (((b0-224)*64+(b1-128))*64+(b2-128),3) else none)
 else if 240<=b0∧b0<245 then
  (if 4<=n∧cN b1∧cN b2∧cN b3∧65536<=(((b0-240)*64+(b1-128))*64+(b2-128))*64+(b3-128)∧(((b0-240)*64+(b1-128))*64+(b2-128))*64+(b3-128)<=1114111 then some ((((b0-240)*64+(b1-128))*64+(b2-128))*64+(b3-128),4) else none)
 else none
theorem rfN_eq (n a b c d:Nat) (j:a<256) (l:b<256) (m:c<256) (o:d<256):
  (rfN n a b c d=none∧decodeN n a b c d=(65533,1))∨(rfN n a b c d=some (decodeN n a b c d)∧decodeN n a b c d≠(65533,1)):=by
 have g:∀(x y:Nat×Nat),x=y->y.2≠1∨y.1<128->((some x:Option (Nat×Nat))=none∧y=(65533,1))∨(some x=some y∧y≠(65533,1)):=by
  intro x y e i;subst e;refine .inr ⟨rfl,λh=> ?_⟩;rw[h] at i;simp at i
 by_cases f:a<128
 ·unfold rfN decodeN;rw[aN f,aN f];exact g _ _ rfl (.inr f)
 by_cases k:a<194
 ·left;refine⟨?_,decodeN_bad n a b c d (.inl ⟨by omega,k⟩)⟩;unfold rfN;rw[aE f,aE (by omega),aE (by omega),aE (by omega)]
 by_cases p:245<=a
 ·left;refine⟨?_,decodeN_bad n a b c d (.inr ⟨by omega,j⟩)⟩;unfold rfN;rw[aE f,aE (by omega),aE (by omega),aE (by omega)]
 unfold rfN decodeN cN;rw[aE f,aE f]
 repeat' split
 all_goals first
  |(exfalso;omega)
  |exact .inl ⟨rfl,rfl⟩
  |exact g _ _ (by apply Prod.ext<;>simp only<;>omega) (.inl (by simp))
def rfL (l:List UInt8):Option (Nat×Nat):=rfN l.length (l.getD 0 0).toNat (l.getD 1 0).toNat (l.getD 2 0).toNat (l.getD 3 0).toNat
theorem rfL_eq (l:List UInt8):(rfL l=none∧decodeL l=(65533,1))∨(rfL l=some (decodeL l)∧decodeL l≠(65533,1)):=by
 rw[decodeL_N];exact rfN_eq _ _ _ _ _ (fm _) (fm _) (fm _) (fm _)
def cntF:Nat->List UInt8->Option Nat
 |0,_=>some 0
 | f+1,l=>if l=[] then some 0 else match rfL l with
  |none=>none
  |some (_,k)=>match cntF f (l.drop k) with
   |none=>none
   |some m=>some (m+1)
theorem jl {l:List UInt8} {c k:Nat} (b:l≠[]) (h:rfL l=some (c,k)):1<=k∧k<=l.length:=by
 rcases rfL_eq l with⟨h1,_⟩|⟨h1,_⟩
 ·rw[h1] at h;cases h
 ·rw[h1] at h;injection h with h;have:=decodeL_width l;have a:=decodeL_le l b;rw[h] at this a;exact⟨this,a⟩
theorem cntF_fuel:∀(n m:Nat) (l:List UInt8),l.length<=n->l.length<=m->cntF n l=cntF m l
 |0,m,l,hn,_=>by
  obtain rfl:=cu (Nat.le_zero.1 hn)
  cases m<;>simp[cntF]
 |n+1,0,l,_,hm=>by
  obtain rfl:=cu (Nat.le_zero.1 hm)
  simp[cntF]
 | n+1,m+1,l,hn,hm=>by
  simp only[cntF]
  by_cases hl:l=[]
  ·rw[aN hl,aN hl]
  ·rw[aE hl,aE hl]
   cases h:rfL l with
   |none=>rfl
   |some p=>
    obtain⟨c,k⟩:=p
    have:=jl hl h
    simp only
    rw[cntF_fuel n m (l.drop k) (by rw[cb];omega) (by rw[cb];omega)]
def cnt (l:List UInt8):Option Nat:=cntF l.length l
theorem cnt_nil:cnt []=some 0:=rfl
theorem cnt_step {l:List UInt8} (a:l≠[]):cnt l=match rfL l with
  |none=>none
  |some (_,k)=>match cnt (l.drop k) with
   |none=>none
   |some m=>some (m+1):=by
 have d:0<l.length:=List.length_pos_iff.2 a;obtain⟨n,b⟩:∃n,l.length=n+1:=⟨l.length-1,by omega⟩;unfold cnt;rw[b];simp only[cntF,aE a];cases h:rfL l with
 |none=>rfl
 |some p=>
  obtain⟨c,k⟩:=p;have:=jl a h;simp only;rw[cntF_fuel n (l.drop k).length (l.drop k) (by rw[cb];omega) (by omega)]
theorem decode_drop (s:ByteArray) (a:Nat):Utf8.decode s a=decodeL (s.data.toList.drop a):=by
 rw[decode_at,decodeL_N];have b:s.data.toList.length=s.size:=by simp
 have g:∀i,(s.get! (a+i))=(s.data.toList.drop a).getD i 0:=λi=>by
  rw[ae,jG];cases s with
  |mk d=>
   show d[a+i]! =_;rw[getElem!_def,<-ee];cases d.toList[a+i]? <;>rfl
 rw[<-g 0,<-g 1,<-g 2,<-g 3,cb,b];rfl
theorem cnt_lib (s:ByteArray):∀(f pos:Nat),pos<=s.size->s.size-pos<=f->
  (validD (s.data.toList.drop pos)=(cnt (s.data.toList.drop pos)).isSome)∧∀m,cnt (s.data.toList.drop pos)=some m->runeCountFrom s f pos=m
 | f, pos,hp,hf=>by
  have hl:s.data.toList.length=s.size:=by simp
  by_cases he:pos=s.size
  ·have e:s.data.toList.drop pos=[]:=List.drop_of_length_le (by omega)
   rw[e,cnt_nil]
   refine⟨validD_nil,λm hm=> ?_⟩
   injection hm with hm
   subst hm
   exact runeCountFrom_end s f pos (by omega)
  ·have hne:s.data.toList.drop pos≠[]:=λe=>by
    have:=congrArg List.length e
    rw[cb,hl] at this
    simp at this;omega
   cases f with
   |zero=>omega
   |succ f=>
   rw[validD_step _ hne,cnt_step hne]
   have hd:=decode_drop s pos
   rcases rfL_eq (s.data.toList.drop pos) with⟨h1,h2⟩|⟨h1,h2⟩
   ·rw[h1,h2]
    exact⟨rfl,λm hm=>by cases hm⟩
   ·rw[h1]
    have hk:1<=(decodeL (s.data.toList.drop pos)).2∧(decodeL (s.data.toList.drop pos)).2<=s.size-pos:=by
     have a:=jl hne h1;rwa[cb,hl] at a
    have ih:=cnt_lib s f (pos+(decodeL (s.data.toList.drop pos)).2) (by omega) (by omega);rw[<-List.drop_drop] at ih;have c:¬((decodeL (s.data.toList.drop pos)).1=65533∧(decodeL (s.data.toList.drop pos)).2=1):=λh=>h2 (Prod.ext h.1 h.2);rw[aE c,ih.1];simp only;refine⟨?_,λm hm=> ?_⟩
    ·cases cnt (List.drop (decodeL (s.data.toList.drop pos)).2 (s.data.toList.drop pos))<;>rfl
    ·cases b:cnt (List.drop (decodeL (s.data.toList.drop pos)).2 (s.data.toList.drop pos)) with
     |none=>rw[b] at hm;cases hm
     |some q=>
      rw[b] at hm;injection hm with hm;have a:=ih.2 q b;unfold runeCountFrom;rw[aN (by omega),hd,a];omega
theorem jq (s:ByteArray):validD s.data.toList=(cnt s.data.toList).isSome:=by
 have:=(cnt_lib s s.size 0 (by omega) (by omega)).1;simpa using this
theorem js {s:ByteArray} {m:Nat} (h:cnt s.data.toList=some m):runeCount s=m:=by
 have:=(cnt_lib s s.size 0 (by omega) (by omega)).2 m;simp only[List.drop_zero] at this;exact this h
end
section
open Go.RowKit Go.Lib Go.Sort Go.Shelf
def signsL:List UInt8:=[48,49,50,51,52,53,54,55,56,57,65,66,67,68,69,70,71,72,73,74,75,76,77,78,79,80,81,82,83,84,85,86,87,88,89,90,97,98,99,100,101,102,103,104,105,106,107,108,109,110,111,112,113,114,115,116,117,118,119,120,121,122,46,45,95]
theorem signs_all:∀n:Fin 256,signsL.contains (UInt8.ofNat n.val)=signB (UInt8.ofNat n.val):=by decide +kernel
theorem signs_sign (b:UInt8):signsL.contains b=signB b:=by
 have h:=signs_all ⟨b.toNat,b.toNat_lt⟩;have e:UInt8.ofNat b.toNat=b:=by simp
 simp only[e] at h;exact h
theorem jV {α:Type} (p:α->Bool):∀l:List α,l.dropWhile p=[]↔∀b∈l,p b=true
 | []=>by simp
 | a::l=>by
  rw[List.dropWhile_cons]
  by_cases h:p a=true
  ·rw[aN h,jV p l]
   simp[h]
  ·rw[aE h]
   simp[h]
theorem trimS_nil (l:List UInt8):trimS l signsL=[]↔l.all signB=true:=by
 unfold trimS trimLeftS trimRightS;rw[jV,dT];constructor
 ·intro h b c;by_cases a:l.reverse.dropWhile (signsL.contains ·)=[]
  ·have:=(jV _ _).1 a b (List.mem_reverse.2 c);rw[signs_sign] at this;exact this
  ·exfalso;have d:=List.head_dropWhile_not (signsL.contains ·) (l:=l.reverse) a;have e:=h ((l.reverse.dropWhile (signsL.contains ·)).head a) (List.mem_reverse.2 (List.head_mem a));rw[e] at d;cases d
 ·intro h b c;rw[signs_sign];refine h b ?_;have:=List.mem_reverse.1 c;exact List.mem_reverse.1 ((List.dropWhile_sublist _).subset this)
theorem trim_any (s c:ByteArray) (w:World) (b:s.size<=9223372036854775807) (a:c.data.toList=signsL):
  Calls Tryz.prog 186 #[s,c] w λe w'=>e= .returned (.string ⟨(trimS s.data.toList signsL).toArray⟩)∧Below w.heap.size w w':=by
 rw[<-a];refine Any.strings_Trim_laid Tryz.lays160 (by kernel_rfl) s c w b ?_ ?_
 ·have d:c.data.toList.length=c.size:=by simp
  rw[<-d,a];decide
 ·rw[a];exact ascii_of_all (by decide)
theorem kD {s:ByteArray}:s.toList=s.data.toList:=cw s
theorem name_any (s:ByteArray) (w:World) (r:s.size<=9223372036854775807):
  Calls Tryz.prog 152 #[s] w λe w'=>e= .returned (.bool (eC s))∧Below w.heap.size w w':=by
 obtain⟨b,m⟩:∃v,v=eC s:=⟨_,rfl⟩;have t:b=eC s:=m;rw[<-m];have h:=hid m;clear m t;by_cases i:s.data.toList=[]
 ·obtain rfl:b=false:=by rw[h.o];simp[eC,i]
  obtain rfl:=eb.1 i;go_enter Tryz.func152,Tryz.ntmps152;go_wp2;go_ret;exact⟨rfl,ag _ _⟩
 have y:s.toList.isEmpty=false:=by
  rw[kD];cases e:s.data.toList with
  |nil=>exact absurd e i
  |cons a l=>rfl
 by_cases n:s.size<=32
 ·have u:(s.size:Int)<=32:=by omega
  by_cases j:s.data.toList=[46]
  ·obtain rfl:b=false:=by rw[h.o];simp[eC,j]
   obtain rfl:s=⟨#[46]⟩:=fH (eR.1 j);go_enter Tryz.func152,Tryz.ntmps152;go_wp2;go_ret;exact⟨rfl,ag _ _⟩
  have z:(s.toList == [46])=false:=by rw[kD];simp[j]
  by_cases k:s.data.toList=[46,46]
  ·obtain rfl:b=false:=by rw[h.o];simp[eC,k]
   obtain rfl:s=⟨#[46,46]⟩:=fH (eR.1 k);go_enter Tryz.func152,Tryz.ntmps152;go_wp2;go_ret;exact⟨rfl,ag _ _⟩
  have A:(s.toList == [46,46])=false:=by rw[kD];simp[k]
  by_cases d:s.data.toList.all signB=true
  ·obtain rfl:b=true:=by rw[h.o];simp only[eC,d];simp[i,n,j,k]
   have f:=λc w o=>trim_any s c w r o;rw[(trimS_nil _).2 d] at f;have p:=hid f;clear i n j k d f;go_enter Tryz.func152,Tryz.ntmps152;go_wp2_with fail;refine(p.o _ _ (by rfl)).mono ?_;rintro e x ⟨rfl,q⟩;go_wp2;go_ret;exact⟨rfl,q⟩
  ·obtain rfl:b=false:=by rw[h.o];simp only[eC,d];simp
   have f:=λc w o=>trim_any s c w r o;obtain⟨T,g⟩:∃T:ByteArray,T=⟨(trimS s.data.toList signsL).toArray⟩:=⟨_,rfl⟩;have B:T.toList.isEmpty=false:=by
    rw[kD,g];have:=mt (trimS_nil s.data.toList).1 d;simp[this]
   have C:(T.toList == [])=false:=by
    rw[kD,g];have:=mt (trimS_nil s.data.toList).1 d;simp[this]
   rw[<-g] at f;have p:=hid f;clear i n j k d f g;go_enter Tryz.func152,Tryz.ntmps152;go_wp2_with fail;refine(p.o _ _ (by rfl)).mono ?_;rintro e x ⟨rfl,q⟩;go_wp2;go_ret;exact⟨rfl,q⟩
 ·have u:¬(s.size:Int)<=32:=by omega
  obtain rfl:b=false:=by rw[h.o];simp[eC,n]
  go_enter Tryz.func152,Tryz.ntmps152;go_wp2;go_ret;exact⟨rfl,ag _ _⟩
def Tabs (w:World):Prop:=Lib.Utf8Tabs (Tryz.lays196_ren.g 3) (Tryz.lays196_ren.g 4) w
theorem Tabs.below {w w':World} (h:Tabs w) (hb:Below w.heap.size w w'):Tabs w':=Utf8Tabs_below h hb
theorem valid_any (s:ByteArray) (w:World) (hs:s.size<=9223372036854775807) (hT:Tabs w):
  Calls Tryz.prog 188 #[s] w λe w'=>e= .returned (.bool (validD s.data.toList))∧Below w.heap.size w w':=
 Any.utf8_ValidString Tryz.lays196 s w hs hT
theorem count_any (s:ByteArray) (w:World) (hs:s.size<9223372036854775807):
  Calls Tryz.prog 189 #[s] w λe w'=>e= .returned (.int .i64 (runeCount s))∧Below w.heap.size w w':=
 (Any.utf8_RuneCountInString Tryz.lays195 s w hs).mono λe w' ⟨he,pos,hw⟩=>⟨he,by rw[hw];exact(ag _ _).alloc (aa _) _⟩
theorem len_bad (s:ByteArray) (w:World) (f:s.size<9223372036854775807) (b:Tabs w) (h:cnt s.data.toList=none):
  Calls Tryz.prog 155 #[s] w λe w'=>e= .returned (.tuple #[(0:Int),(60:Int)])∧Below w.heap.size w w':=by
 have a:=valid_any s w (by omega) b;rw[jq,h] at a;have c:=hid a;clear a h b;go_enter Tryz.func155,Tryz.ntmps155;go_wp2_with fail;refine c.o.mono ?_;rintro e g ⟨rfl,d⟩;go_wp2;go_ret2;exact⟨rfl,d⟩
theorem len_ok (s:ByteArray) (m:Nat) (w:World) (f:s.size<9223372036854775807) (c:Tabs w) (h:cnt s.data.toList=some m):
  Calls Tryz.prog 155 #[s] w λe w'=>e= .returned (.tuple #[.int .i64 m,(0:Int)])∧Below w.heap.size w w':=by
 have a:=valid_any s w (by omega) c;rw[jq,h] at a;have b:=λw=>count_any s w f;rw[js h] at b;have g:=hid a;have i:=hid b;clear a b h c;go_enter Tryz.func155,Tryz.ntmps155;go_wp2_with fail;refine g.o.mono ?_;rintro e k ⟨rfl,j⟩;go_wp2_with fail;refine(i.o _).mono ?_;rintro e l ⟨rfl,d⟩;go_wp2;go_ret2;exact⟨rfl,bt j d⟩
end
end Go.Proofs.YtkhmicndehlneaaGreatDoor
