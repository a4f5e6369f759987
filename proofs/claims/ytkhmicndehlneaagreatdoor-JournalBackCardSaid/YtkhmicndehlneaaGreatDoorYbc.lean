/- Part 3 of the walks and plain laws that this claim uses, joined. Conditions: as each theorem states. -/
import Derived.Deep.CutBlock
import Derived.Deep.CutRange
import Derived.Lib.DecodeNEq
import Derived.Lib.MapLaws
import Derived.Lib.ValidLaws
import Derived.Test.YtkhmicndehlneaaGreatDoorYbb
namespace Go.Proofs.YtkhmicndehlneaaGreatDoor
set_option maxRecDepth 100000
set_option maxHeartbeats 16000000
set_option linter.unusedVariables false
section
section
open Go.RowKit Go.Lib Go.Sort
theorem gw (t r:Int) (w:World):
  Calls Tryz.prog 101 #[.agg #[t,r]] w λe w'=>e= .returned (.bool (Gst.right ⟨t,r⟩))∧Below w.heap.size w w':=by
 obtain⟨v,a⟩:∃v,v=Gst.right ⟨t,r⟩:=⟨_,rfl⟩;have b:=hid a;rw[<-a];clear a;go_enter Tryz.func101,Tryz.ntmps101;go_wp2
 all_goals
  go_ret;refine⟨dk ?_,(ag _ _).alloc (aa _) _⟩;rw[b.out];simp[Gst.right]
  try omega
theorem eN (t r t' r':Int) (w:World):
  Calls Tryz.prog 103 #[.agg #[t,r],.agg #[t',r']] w λe w'=>e= .returned (.bool (Gst.lt ⟨t,r⟩ ⟨t',r'⟩))∧Below w.heap.size w w':=by
 obtain⟨v,c⟩:∃v,v=Gst.lt ⟨t,r⟩ ⟨t',r'⟩:=⟨_,rfl⟩;have d:=hid c;rw[<-c];clear c;by_cases a:t<t'
 ·obtain rfl:v=true:=by rw[d.out];simp[Gst.lt,a]
  have f:decide (t<t')=true:=aN a;go_enter Tryz.func103,Tryz.ntmps103;go_wp2;go_ret;exact⟨rfl,((ag _ _).alloc (aa _) _).alloc (by simp) _⟩
 have f:decide (t<t')=false:=aE a;by_cases b:t=t'
 ·subst b;obtain rfl:v=decide (r<r'):=by rw[d.out];simp[Gst.lt]
  clear a;go_enter Tryz.func103,Tryz.ntmps103;go_wp2;go_ret;exact⟨rfl,((ag _ _).alloc (aa _) _).alloc (by simp) _⟩
 ·obtain rfl:v=false:=by rw[d.out];simp[Gst.lt,a,b]
  have g:(t == t')=false:=by rw[aV];exact b
  clear a b;go_enter Tryz.func103,Tryz.ntmps103;go_wp2;go_ret;exact⟨rfl,((ag _ _).alloc (aa _) _).alloc (by simp) _⟩
theorem fY (t r i:Int) (w:World):
  Calls Tryz.prog 192 #[.agg #[t,r,i]] w λe w'=>e= .returned (.bool (Gid.right ⟨⟨t,r⟩,i⟩))∧Below w.heap.size w w':=by
 obtain⟨v,d⟩:∃v,v=Gid.right ⟨⟨t,r⟩,i⟩:=⟨_,rfl⟩;have f:=hid d;rw[<-d];clear d;cases b:Gst.right ⟨t,r⟩ with
 |false=>
  have a:=hid b;clear b;go_enter Tryz.func192,Tryz.ntmps192;go_wp2_with fail;refine(gw _ _ _).mono ?_;rw[a.out];rintro e g ⟨rfl,c⟩;go_wp2;go_ret;refine⟨dk ?_,((ag _ _).alloc (aa _) _).trans (c.mono (by simp))⟩;rw[f.out];simp[Gid.right,a.out]
 | true=>
  have a:=hid b;clear b;go_enter Tryz.func192,Tryz.ntmps192;go_wp2_with fail;refine(gw _ _ _).mono ?_;rw[a.out];rintro e g ⟨rfl,c⟩;have h:g.cell? ⟨w.heap.size,2,none⟩=some (.int .i64 i):=by
   rw[c.cell (by simp)];go_simp
  go_wp2
  all_goals
   go_ret;refine⟨dk ?_,((ag _ _).alloc (aa _) _).trans (c.mono (by simp))⟩;rw[f.out];simp[Gid.right,a.out]
   try omega
def jJ (a b:Gst):Int:=if a.lt b=true then -1 else if b.lt a=true then 1 else 0
def rcmpD (a b:Gid):Int:=if jJ a.s b.s≠0 then jJ a.s b.s else if a.i<b.i then -1 else if b.i<a.i then 1 else 0
theorem rcmpS_zero (a b:Gst):jJ a b=0↔a.eqb b=true:=by
 have e:a.lt b=true↔(a.t<b.t∨(a.t=b.t∧a.r<b.r)):=by simp[Gst.lt]
 have f:b.lt a=true↔(b.t<a.t∨(b.t=a.t∧b.r<a.r)):=by simp[Gst.lt]
 have g:a.eqb b=true↔(a.t=b.t∧a.r=b.r):=by simp[Gst.eqb]
 unfold jJ;rw[g];split
 ·rename_i c;rw[e] at c;omega
 ·rename_i c;rw[e] at c;split
  ·rename_i d;rw[f] at d;omega
  ·rename_i d;rw[f] at d;omega
theorem jW (a b:Gid):decide (0<=rcmpD a b)= !a.lt b:=by
 have f:=rcmpS_zero a.s b.s;have g:a.s.lt b.s=true->jJ a.s b.s= -1:=λh=>by unfold jJ;rw[aJ h]
 have i:¬a.s.lt b.s=true->jJ a.s b.s=1∨jJ a.s b.s=0:=λh=>by
  unfold jJ;rw[aC h];split<;>simp
 rw[bw];unfold rcmpD;simp only[Gid.lt,ak,ij,Bool.or_eq_false_iff,Bool.and_eq_false_iff,aU];by_cases d:a.s.lt b.s=true
 ·have:=g d;rw[this];simp[d]
 ·have e:a.s.lt b.s=false:=by simpa using d
  rcases i d with c|c
  ·rw[c];have:a.s.eqb b.s=false:=by
    rw[<-Bool.not_eq_true,<-f,c];decide
   simp[e,this]
  ·rw[c];have:a.s.eqb b.s=true:=f.1 c;simp only[e,this];simp;split
   ·omega
   ·split<;>omega
theorem refcmp_any (t r t' r':Int) (w:World):
  Calls Tryz.prog 194 #[.agg #[t,r],.agg #[t',r']] w λe w'=>e= .returned (.int .i64 (jJ ⟨t,r⟩ ⟨t',r'⟩))∧Below w.heap.size w w':=by
 obtain⟨v,j⟩:∃v,v=jJ ⟨t,r⟩ ⟨t',r'⟩:=⟨_,rfl⟩;have l:=hid j;rw[<-j];clear j;cases f:Gst.lt ⟨t,r⟩ ⟨t',r'⟩ with
 |true=>
  obtain rfl:v= -1:=by rw[l.out];unfold jJ;rw[aJ f]
  have i:=hid f;clear f;go_enter Tryz.func194,Tryz.ntmps194;go_wp2_with fail;refine(eN _ _ _ _ _).mono ?_;rw[i.out];rintro e c ⟨rfl,a⟩;go_wp2;go_ret;exact⟨rfl,(((ag _ _).alloc (aa _) _).alloc (by simp) _).trans (a.mono (by simp;omega))⟩
 |false=>
 have i:=hid f;have d:∀b:Bool,Gst.lt ⟨t',r'⟩ ⟨t,r⟩=b->v=(if b=true then 1 else 0):=λb m=>by
  rw[l.out];unfold jJ;rw[f,m];rfl
 clear f;cases g:Gst.lt ⟨t',r'⟩ ⟨t,r⟩ with
 |true=>
  obtain rfl:v=1:=d true g;have k:=hid g;clear g d;go_enter Tryz.func194,Tryz.ntmps194;go_wp2_with fail;refine(eN _ _ _ _ _).mono ?_;rw[i.out];rintro e c ⟨rfl,a⟩;have n:c.cell? ⟨w.heap.size,0,none⟩=some (.int .i64 t):=by rw[a.cell (by simp;omega)];go_simp
  have o:c.cell? ⟨w.heap.size,1,none⟩=some (.int .i64 r):=by rw[a.cell (by simp;omega)];go_simp
  have p:c.cell? ⟨w.heap.size+1,0,none⟩=some (.int .i64 t'):=by rw[a.cell (by simp)];go_simp
  have q:c.cell? ⟨w.heap.size+1,1,none⟩=some (.int .i64 r'):=by rw[a.cell (by simp)];go_simp
  go_wp2_with fail;refine(eN _ _ _ _ _).mono ?_;rw[k.out];rintro e s ⟨rfl,h⟩;go_wp2;go_ret;exact⟨rfl,((((ag _ _).alloc (aa _) _).alloc (by simp) _).trans (a.mono (by simp;omega))).trans (h.mono (by have:=a.size;simp at this;omega))⟩
 |false=>
  obtain rfl:v=0:=d false g;have k:=hid g;clear g d;go_enter Tryz.func194,Tryz.ntmps194;go_wp2_with fail;refine(eN _ _ _ _ _).mono ?_;rw[i.out];rintro e c ⟨rfl,a⟩;have n:c.cell? ⟨w.heap.size,0,none⟩=some (.int .i64 t):=by rw[a.cell (by simp;omega)];go_simp
  have o:c.cell? ⟨w.heap.size,1,none⟩=some (.int .i64 r):=by rw[a.cell (by simp;omega)];go_simp
  have p:c.cell? ⟨w.heap.size+1,0,none⟩=some (.int .i64 t'):=by rw[a.cell (by simp)];go_simp
  have q:c.cell? ⟨w.heap.size+1,1,none⟩=some (.int .i64 r'):=by rw[a.cell (by simp)];go_simp
  go_wp2_with fail;refine(eN _ _ _ _ _).mono ?_;rw[k.out];rintro e s ⟨rfl,h⟩;go_wp2;go_ret;exact⟨rfl,((((ag _ _).alloc (aa _) _).alloc (by simp) _).trans (a.mono (by simp;omega))).trans (h.mono (by have:=a.size;simp at this;omega))⟩
theorem gx (t r i t' r' i':Int) (w:World):
  Calls Tryz.prog 170 #[.agg #[t,r,i],.agg #[t',r',i']] w λe w'=>e= .returned (.int .i64 (rcmpD ⟨⟨t,r⟩,i⟩ ⟨⟨t',r'⟩,i'⟩))∧Below w.heap.size w w':=by
 obtain⟨v,j⟩:∃v,v=rcmpD ⟨⟨t,r⟩,i⟩ ⟨⟨t',r'⟩,i'⟩:=⟨_,rfl⟩;have l:=hid j;rw[<-j];clear j;obtain⟨q,k⟩:∃q,q=jJ ⟨t,r⟩ ⟨t',r'⟩:=⟨_,rfl⟩;have h:v=(if q≠0 then q else if i<i' then -1 else if i'<i then 1 else 0):=by rw[l.out,k];rfl
 have o:=hid k;have b:=hid h;clear k h l;go_enter Tryz.func170,Tryz.ntmps170;go_wp2_with fail;refine(refcmp_any _ _ _ _ _).mono ?_;rw[<-o.out];rintro e m ⟨rfl,d⟩;have p:m.cell? ⟨w.heap.size,2,none⟩=some (.int .i64 i):=by rw[d.cell (by simp;omega)];go_simp
 have s:m.cell? ⟨w.heap.size+1,2,none⟩=some (.int .i64 i'):=by rw[d.cell (by simp)];go_simp
 have c:=(((ag w.heap.size w).alloc (aa _) (.cells #[t,r,i] 108)).alloc (by simp) (.cells #[t',r',i'] 108)).trans (d.mono (by simp;omega));clear d;by_cases f:q=0
 ·subst f;by_cases a:i<i'
  ·obtain rfl:v= -1:=by rw[b.out];simp[a]
   go_wp2;go_ret;exact⟨rfl,c⟩
  ·by_cases g:i'<i
   ·obtain rfl:v=1:=by rw[b.out];simp[a,g]
    have n:decide (i<i')=false:=aE a;clear a;go_wp2;go_ret;exact⟨rfl,c⟩
   ·obtain rfl:v=0:=by rw[b.out];simp[a,g]
    have n:decide (i<i')=false:=aE a;have u:decide (i'<i)=false:=aE g;clear a g;go_wp2;go_ret;exact⟨rfl,c⟩
 ·obtain rfl:v=q:=by rw[b.out];simp[f]
  have n:(v != 0)=true:=by rw[eM];exact f
  clear f;go_wp2;go_ret;exact⟨rfl,c⟩
end
section
open Go.RowKit Go.Lib Go.Sort
section
variable {P : Program} {ops : Array Oper} {C : World → Prop} {Q : Exit → Act → World → Prop} {Q' : Act → Prop}
theorem iN (hQ:∀a w,C w->Q' a->Q .normal a w):∀(l:List Oper) (a:Act) (w:World),C w->wpQuiet P ops C Q' l a->wpList P ops Q l a w
 | [],a,w,hc,h=>hQ a w hc h
 | o::rest,a,w,hc,h=>by
  unfold wpList
  unfold wpQuiet at h
  by_cases hw:Region.wanted o (yielded ops a.tmps)=true
  ·rw[aJ hw] at h ⊢
   exact .inl (Oper.wp_of_quiet hc (λa' w' hc' hk=>iN hQ rest a' w' hc' hk) h)
  ·rw[aC hw] at h ⊢
   exact iN hQ rest _ w hc h
theorem bF {id:Nat} {a:Act} {w:World} {l:List Oper}
  (h:wpQuiet P l.toArray (λw'=>∃p:Regrown,w'=grow (redrawn w p.d) p.os) (λa'=>∀w',(∃p:Regrown,w'=grow (redrawn w p.d) p.os)->Q .normal a' w') l a):(Code.region id l.toArray false).wp P Q a w:=by
 refine wp_region ?_;have e:=wpOps_eq_wpList (P:=P) (ops:=l.toArray) (Q:=Q) l 0 (by simp);rw[List.range_eq_range',List.size_toArray,e];exact iN (λa w b h=>h w b) l a w ⟨⟨w.drawn,#[]⟩,by rw[grow_empty];rfl⟩ h
end
end
section
open Go.RowKit Go.Lib Go.Sort
structure GX where
 n:Int
 dA:Option Addr
 dn:Nat
 dc:Nat
 ut:Int
 ur:Int
 oA:Option Addr
 on:Nat
 oc:Nat
def gxV (g:Gst) (x:GX):Value:= .agg #[.int .i64 g.t,.int .i64 g.r,.int .i64 x.n,.slice x.dA x.dn x.dc,.int .i64 x.ut,.int .i64 x.ur,.slice x.oA x.on x.oc]
theorem ez (t r i:Int) (w:World):
  Calls Tryz.prog 191 #[.agg #[t,r,i]] w λe w'=>e= .returned (.bool (Gid.none ⟨⟨t,r⟩,i⟩))∧Below w.heap.size w w':=by
 have a:=eJ t r i 0 0 0 (Gid.none ⟨⟨t,r⟩,i⟩) rfl;generalize Gid.none ⟨⟨t,r⟩,i⟩=v at *;go_enter Tryz.func191,Tryz.ntmps191;go_wp2;go_ret;exact⟨rfl,(ag _ _).alloc (aa _) _⟩
theorem gy (g:Gst) (y:GX) (x:Gid) (k:Nat) (w:World):
  Calls Tryz.prog 161 #[gxV g y,idV x,.int .i64 k] w λe w'=>e= .returned (.bool (cL g x k))∧Below w.heap.size w w':=by
 obtain⟨⟨t,r⟩,i⟩:=x;obtain⟨c,d⟩:=g;obtain⟨n,G,H,I,J,K,L,M,N⟩:=y;show Calls _ _ #[.agg #[c,d,n,.slice G H I,J,K,.slice L M N],.agg #[t,r,i],_] _ _;obtain⟨h,C⟩:∃a,a=cL ⟨c,d⟩ ⟨⟨t,r⟩,i⟩ k:=⟨_,rfl⟩;rw[<-C];have z:=hid C;clear C;cases q:Gid.right ⟨⟨t,r⟩,i⟩ with
 |false=>
  obtain rfl:h=false:=by rw[z.out];simp[cL,q]
  have j:=hid q;clear q;go_enter Tryz.func161,Tryz.ntmps161;go_wp2_with fail;refine(fY _ _ _ _).mono ?_;rw[j.out];rintro e m ⟨rfl,f⟩;go_wp2;go_ret;exact⟨rfl,(((ag _ _).alloc (aa _) _).alloc (by simp) _).trans (f.mono (by simp;omega))⟩
 |true=>
 have j:=hid q;clear q;obtain⟨l,O⟩:∃l,l=Gst.lt ⟨t,r⟩ ⟨c,d⟩:=⟨_,rfl⟩;have A:=hid O;clear O;go_enter Tryz.func161,Tryz.ntmps161;go_wp2_with fail;refine(fY _ _ _ _).mono ?_;rw[j.out];rintro e m ⟨rfl,f⟩;have D:m.cell? ⟨w.heap.size,0,none⟩=some (.int .i64 c):=by rw[f.cell (by simp;omega)];go_simp
 have P:m.cell? ⟨w.heap.size,1,none⟩=some (.int .i64 d):=by rw[f.cell (by simp;omega)];go_simp
 have E:m.cell? ⟨w.heap.size+1,0,none⟩=some (.int .i64 t):=by rw[f.cell (by simp)];go_simp
 have Q:m.cell? ⟨w.heap.size+1,1,none⟩=some (.int .i64 r):=by rw[f.cell (by simp)];go_simp
 have R:m.cell? ⟨w.heap.size+1,2,none⟩=some (.int .i64 i):=by rw[f.cell (by simp)];go_simp
 have s:=(((ag w.heap.size w).alloc (aa _) (.cells #[c,d,n,.slice G H I,J,K,.slice L M N] 45)).alloc (by simp) (.cells #[t,r,i] 108)).trans (f.mono (by simp;omega));clear f;go_wp2_with fail;refine(eN _ _ _ _ _).mono ?_;rw[<-A.out];rintro e u ⟨rfl,b⟩;have S:=s.size;have F:=eK D;have B:=eK E;have U:u.cell? ⟨w.heap.size,0,none⟩=some (.int .i64 c):=(b.cell (p:=⟨w.heap.size,0,none⟩) F).trans D;have V:u.cell? ⟨w.heap.size,1,none⟩=some (.int .i64 d):=(b.cell (p:=⟨w.heap.size,1,none⟩) F).trans P;have W:u.cell? ⟨w.heap.size+1,0,none⟩=some (.int .i64 t):=(b.cell (p:=⟨w.heap.size+1,0,none⟩) B).trans E;have X:u.cell? ⟨w.heap.size+1,1,none⟩=some (.int .i64 r):=(b.cell (p:=⟨w.heap.size+1,1,none⟩) B).trans Q;have Y:u.cell? ⟨w.heap.size+1,2,none⟩=some (.int .i64 i):=(b.cell (p:=⟨w.heap.size+1,2,none⟩) B).trans R;have v:=s.trans (b.mono S);clear s b D P E Q R F B S;cases l with
 |true=>
  obtain rfl:h=true:=by rw[z.out];simp[cL,j.out,<-A.out]
  go_wp2;go_ret;exact⟨rfl,v⟩
 | false=>
  cases o:Gst.eqb ⟨t,r⟩ ⟨c,d⟩ with
  |false=>
   have T:=eq_st t r c d false o;obtain rfl:h=false:=by rw[z.out];simp[cL,j.out,<-A.out,o]
   clear o;go_wp2;go_ret;exact⟨rfl,v⟩
  |true=>
   have T:=eq_st t r c d true o;obtain rfl:h=decide (i<k):=by rw[z.out];simp[cL,j.out,<-A.out,o]
   clear o;go_wp2;go_ret;exact⟨rfl,v⟩
theorem jP (g:Gst) (y:GX) (x:Gid) (k:Nat) (w:World):
  Calls Tryz.prog 158 #[gxV g y,idV x,.int .i64 k] w λe w'=>e= .returned (.bool (du g x k))∧Below w.heap.size w w':=by
 obtain⟨⟨t,r⟩,i⟩:=x;obtain⟨f,h⟩:=g;obtain⟨n,l,m,o,p,q,s,u,v⟩:=y;show Calls _ _ #[.agg #[f,h,n,.slice l m o,p,q,.slice s u v],.agg #[t,r,i],_] _ _;obtain⟨z,B⟩:∃a,a=du ⟨f,h⟩ ⟨⟨t,r⟩,i⟩ k:=⟨_,rfl⟩;rw[<-B];have D:=hid B;clear B;have A:=λw=>gy ⟨f,h⟩ ⟨n,l,m,o,p,q,s,u,v⟩ ⟨⟨t,r⟩,i⟩ k w;have E:=hid A;clear A;obtain⟨b,F⟩:∃b,b=Gid.none ⟨⟨t,r⟩,i⟩:=⟨_,rfl⟩;have C:=hid F;clear F;go_enter Tryz.func158,Tryz.ntmps158;go_wp2_with fail;refine(ez _ _ _ _).mono ?_;rw[<-C.out];rintro e d ⟨rfl,c⟩;have j:=(((ag w.heap.size w).alloc (aa _) (.cells #[f,h,n,.slice l m o,p,q,.slice s u v] 45)).alloc (by simp) (.cells #[t,r,i] 108)).trans (c.mono (by simp;omega));cases b with
 |true=>
  obtain rfl:z=true:=by rw[D.out];simp[du,<-C.out]
  go_wp2;go_ret;exact⟨rfl,j⟩
 |false=>
  obtain rfl:z=cL ⟨f,h⟩ ⟨⟨t,r⟩,i⟩ k:=by rw[D.out];simp[du,<-C.out]
  have H:d.cell? ⟨w.heap.size,0,none⟩=some (.int .i64 f):=by rw[c.cell (by simp;omega)];go_simp
  have I:d.cell? ⟨w.heap.size,1,none⟩=some (.int .i64 h):=by rw[c.cell (by simp;omega)];go_simp
  have J:d.cell? ⟨w.heap.size,2,none⟩=some (.int .i64 n):=by rw[c.cell (by simp;omega)];go_simp
  have K:d.cell? ⟨w.heap.size,3,none⟩=some (.slice l m o):=by rw[c.cell (by simp;omega)];go_simp
  have L:d.cell? ⟨w.heap.size,4,none⟩=some (.int .i64 p):=by rw[c.cell (by simp;omega)];go_simp
  have M:d.cell? ⟨w.heap.size,5,none⟩=some (.int .i64 q):=by rw[c.cell (by simp;omega)];go_simp
  have N:d.cell? ⟨w.heap.size,6,none⟩=some (.slice s u v):=by rw[c.cell (by simp;omega)];go_simp
  have O:d.cell? ⟨w.heap.size+1,0,none⟩=some (.int .i64 t):=by rw[c.cell (by simp)];go_simp
  have P:d.cell? ⟨w.heap.size+1,1,none⟩=some (.int .i64 r):=by rw[c.cell (by simp)];go_simp
  have Q:d.cell? ⟨w.heap.size+1,2,none⟩=some (.int .i64 i):=by rw[c.cell (by simp)];go_simp
  clear c;go_wp2_with fail;refine(E.out _).mono ?_;rintro e R ⟨rfl,G⟩;go_wp2;go_ret;exact⟨rfl,j.trans (G.mono j.size)⟩
end
section
open Go.RowKit Go.Lib Go.Sort
theorem refdots_any (g:Gst) (y:GX) (A:Option Addr) (c:Nat) (l:List Gst) (S:Nat->Prop) (w:World) (hl:l.length<=9223372036854775807) (hA:StsS w S A l):
  Calls Tryz.prog 162 #[gxV g y,.slice A l.length c] w λe w'=>e= .returned (.bool (il g l))∧Below w.heap.size w w':=by
 obtain⟨t,u⟩:=g;obtain⟨n',dA,dn,dc,ut,ur,oA,on,oc⟩:=y;show Calls _ _ #[.agg #[t,u,n',.slice dA dn dc,ut,ur,.slice oA on oc],_] _ _;have HA:=hid hA;obtain⟨n,hn⟩:∃n,n=l.length:=⟨_,rfl⟩;obtain⟨o,z⟩:∃r,r=il ⟨t,u⟩ l:=⟨_,rfl⟩;rw[<-hn] at hl ⊢;rw[<-z];have J:=hid hn;have HV:=hid z;clear hA hn z;obtain⟨D,C⟩:∃D,D=w.alloc (.cells #[t,u,n',.slice dA dn dc,ut,ur,.slice oA on oc] 45):=⟨_,rfl⟩;have X:Below w.heap.size w D:=by subst C;exact(ag _ _).alloc (aa _) _
 have v:D.heap[w.heap.size]? =some (.cells #[t,u,n',.slice dA dn dc,ut,ur,.slice oA on oc] 45 (0,0)):=by subst C;exact am _ _
 have g0:=cw0 v;have g1:=cw1 v;have HW:=hid C;have ac:=hid g0;have ad:=hid g1;have Y:=eK g0;clear C v g0 g1;go_enter Tryz.func162,Tryz.ntmps162;go_wp2;rw[<-HW.out];go_loopw [5] (λi wr=>∃k:Nat,k<=n∧i= .int .i64 k∧Hid (∀i,i<k->dotB ⟨t,u⟩ l i=true)∧Below D.heap.size D wr) (λi _=>n-(RowKit.intOf i).toNat)
 case atStart=>exact⟨0,by omega,rfl,λi O=>absurd O (by omega),ag _ _⟩
 case round=>
  obtain⟨j,hj,rfl,HK,q⟩:=hrel;have a:Below w.heap.size w wr:=X.trans (q.mono X.size);by_cases ae:j<n
  ·obtain⟨ab,ao,rfl,-,af,P,Q⟩:=StsS.at_ (RowG.agr HA.out (Agr.below a)) (k:=j) (by have:=J.out;omega);obtain⟨x,hx⟩:∃x,x=l.getD j .zero:=⟨_,rfl⟩;rw[<-hx] at P Q;have K:=hid hx;clear hx;obtain⟨E,F⟩:=x;simp only at P Q;have kt:=aj ((q.cell (p:=⟨w.heap.size,0,none⟩) Y).trans ac.out);have kr:=aj ((q.cell (p:=⟨w.heap.size,1,none⟩) Y).trans ad.out);have x0:=aj P;have x1:=aj Q;have f:=λd L=>ay (gw E F (grow (redrawn wr d) L));have s:=λd L=>ay (eN t u E F (grow (redrawn wr d) L));have Z:dotB ⟨t,u⟩ l j=false->o=false:=λh=>by
    rw[HV.out];unfold il;rw[fl (by rw[<-J.out];exact ae) h];rfl
   have B:=hid Z;clear Z P Q;cases G:Gst.right ⟨E,F⟩ with
   |false=>
    rw[G] at f;obtain rfl:o=false:=B.out (by unfold dotB;rw[<-K.out,G];rfl);clear G s;go_wp2;refine rqb ?_
    repeat(any_goals(first|go_big_quiet_step (with_reducible exact f _ _)|quiet_step (with_reducible exact f _ _)))
    refine qz λR b=> ?_;go_wp2;go_ret;exact⟨rfl,a.trans (b.mono a.size)⟩
   | true=>
    rw[G] at f;have T:=hid G;clear G;cases v:Gst.lt ⟨t,u⟩ ⟨E,F⟩ with
    |true=>
     rw[v] at s;obtain rfl:o=false:=B.out (by unfold dotB;rw[<-K.out,v,T.out];rfl);clear v;go_wp2;refine rqb ?_
     repeat(any_goals(first|go_big_quiet_step (with_reducible first|exact f _ _|exact s _ _)|quiet_step (with_reducible first|exact f _ _|exact s _ _)))
     refine qz λR b=> ?_;go_wp2;go_ret;exact⟨rfl,a.trans (b.mono a.size)⟩
    | false=>
     rw[v] at s;have HG:=hid v;clear v;by_cases M:j=0
     ·have b1:decide (0<j)=false:=by rw[aU];omega
      have N:Hid (∀i,i<j+1->dotB ⟨t,u⟩ l i=true):=λi O=>by
       obtain rfl:i=j:=by omega
       unfold dotB;rw[<-K.out,HG.out,T.out];simp[M]
      clear M;go_wp2;refine rqb ?_
      repeat(any_goals(first|go_big_quiet_step (with_reducible first|exact f _ _|exact s _ _)|quiet_step (with_reducible first|exact f _ _|exact s _ _)))
      refine qz λR b=> ?_;go_wp2;go_roundw
      case rel=>exact⟨j+1,by omega,by go_num,N,q.trans (b.mono q.size)⟩
      case measure=>simp[RowKit.intOf];omega
     ·obtain⟨m,hm⟩:∃m,m+1=j:=⟨j-1,by omega⟩;obtain⟨ah,ai,e2,-,-,U,V⟩:=StsS.at_ (RowG.agr HA.out (Agr.below a)) (k:=m) (by have:=J.out;omega);injection e2 with e2;injection e2 with e3 e4;subst e3 e4;obtain⟨y,hy⟩:∃y,y=l.getD m .zero:=⟨_,rfl⟩;rw[<-hy] at U V;have HY:=hid hy;clear hy;obtain⟨yt,yr⟩:=y;simp only at U V;have y0:=aj U;have y1:=aj V;have H:=λd L=>ay (eN yt yr E F (grow (redrawn wr d) L));have b1:decide (0<j)=true:=by rw[ak];omega
      have b2:(j:Int)-1=(m:Int):=by omega
      have b3:(0:Int)<=(m:Int):=by omega
      have b4:(m:Int)<(n:Int):=by omega
      have b5:IntKind.i64.wrap ((j:Int)-1)=(m:Int):=by rw[b2];exact ds _ (by omega)
      have b6:m=j-1:=by omega
      have HM:=hid b6;clear b6 hm M U V;cases I:Gst.lt ⟨yt,yr⟩ ⟨E,F⟩ with
      | false=>
       rw[I] at H
       obtain rfl:o=false:=B.out (by
        unfold dotB;rw[<-K.out,HG.out,T.out,<-HM.out,<-HY.out,I];have:¬j=0:=λe=>by rw[e] at b1;simp at b1
        simp[this])
       clear I;go_wp2;refine rqb ?_
       repeat(any_goals(first|go_big_quiet_step (with_reducible first|exact f _ _|exact s _ _|exact H _ _)|quiet_step (with_reducible first|exact f _ _|exact s _ _|exact H _ _)))
       refine qz λR b=> ?_;go_wp2;go_ret;exact⟨rfl,a.trans (b.mono a.size)⟩
      | true=>
       rw[I] at H;have N:Hid (∀i,i<j+1->dotB ⟨t,u⟩ l i=true):=λi O=>by
        rcases cj i j with h|h
        ·exact HK.out i h
        ·obtain rfl:i=j:=by omega
         unfold dotB;rw[<-K.out,HG.out,T.out,<-HM.out,<-HY.out,I];simp
       clear I;go_wp2;refine rqb ?_
       repeat(any_goals(first|go_big_quiet_step (with_reducible first|exact f _ _|exact s _ _|exact H _ _)|quiet_step (with_reducible first|exact f _ _|exact s _ _|exact H _ _)))
       refine qz λR b=> ?_;clear b5;go_wp2;go_roundw
       case rel=>exact⟨j+1,by omega,by go_num,N,q.trans (b.mono q.size)⟩
       case measure=>simp[RowKit.intOf];omega
  ·obtain rfl:j=n:=by omega
   have W:o=decide (j<=200):=by
    rw[HV.out];unfold il;rw[ed (λi O=>HK.out i (by have:=J.out;omega)),<-J.out];rfl
   by_cases h2:j<=200
   ·obtain rfl:o=true:=by rw[W];exact aN h2
    have t1:(j:Int)<=200:=by omega
    clear W;go_wp2;go_ret;exact⟨rfl,a⟩
   ·obtain rfl:o=false:=by rw[W];exact aE h2
    have t1:¬(j:Int)<=200:=by omega
    clear W;go_wp2;go_ret;exact⟨rfl,a⟩
theorem refelems_any (g:Gst) (y:GX) (k:Nat) (A:Option Addr) (c:Nat) (l:List Gid) (S:Nat->Prop) (w:World) (hl:l.length<=9223372036854775807) (hA:IdsS w S A l):
  Calls Tryz.prog 164 #[gxV g y,.slice A l.length c,.int .i64 k] w λe w'=>e= .returned (.bool (fQ g l k))∧Below w.heap.size w w':=by
 obtain⟨f,o⟩:=g;obtain⟨I,J,K,L,M,N,O,P,Q⟩:=y;have ac:=λx w=>gy ⟨f,o⟩ ⟨I,J,K,L,M,N,O,P,Q⟩ x k w;have af:=hid ac;clear ac;show Calls _ _ #[.agg #[f,o,I,.slice J K L,M,N,.slice O P Q],_,_] _ _;have HA:=hid hA;obtain⟨n,hn⟩:∃n,n=l.length:=⟨_,rfl⟩;obtain⟨q,z⟩:∃r,r=fQ ⟨f,o⟩ l k:=⟨_,rfl⟩;rw[<-hn] at hl ⊢;rw[<-z];have R:=hid hn;have HV:=hid z;clear hA hn z;obtain⟨B,v⟩:∃B,B=w.alloc (.cells #[f,o,I,.slice J K L,M,N,.slice O P Q] 45):=⟨_,rfl⟩;have ad:Below w.heap.size w B:=by subst v;exact(ag _ _).alloc (aa _) _
 have hG:B.heap[w.heap.size]? =some (.cells #[f,o,I,.slice J K L,M,N,.slice O P Q] 45 (0,0)):=by subst v;exact am _ _
 have HW:=hid v;have HG:=hid hG;have ah:w.heap.size<B.heap.size:=by subst v;simp
 clear v hG;go_enter Tryz.func164,Tryz.ntmps164;go_wp2;rw[<-HW.out];go_loopw [7] (λi wr=>∃j:Nat,j<=n∧i= .int .i64 j∧Hid (∀i,i<j->ib ⟨f,o⟩ l k i=true)∧Below B.heap.size B wr) (λi _=>n-(RowKit.intOf i).toNat)
 case atStart=>exact⟨0,by omega,rfl,λi W=>absurd W (by omega),ag _ _⟩
 case round=>
  obtain⟨j,hj,rfl,HK,u⟩:=hrel;have a:Below w.heap.size w wr:=ad.trans (u.mono ad.size);by_cases ai:j<n
  ·obtain⟨ab,ao,rfl,-,an,X,Y,Z⟩:=IdsS.at_ (RowG.agr HA.out (Agr.below a)) (k:=j) (by have:=R.out;omega);obtain⟨x,hx⟩:∃x,x=l.getD j .zero:=⟨_,rfl⟩;rw[<-hx] at X Y Z;have HX:=hid hx;clear hx;obtain⟨⟨C,D⟩,E⟩:=x;simp only at X Y Z;have b:=(u.block _ ah).trans HG.out;have k0:=rg0 b;have k1:=rg1 b;have k2:=rg2 b;have k3:=rg3 b;have k4:=rg4 b;have k5:=rg5 b;have k6:=rg6 b;have x0:=aj X;have x1:=aj Y;have x2:=aj Z;have t:∀d os,Calls Tryz.prog 161 #[.agg #[f,o,I,.slice J K L,M,N,.slice O P Q],.agg #[C,D,E],.int .i64 k] (grow (redrawn wr d) os) λe al=>e= .returned (.bool (cL ⟨f,o⟩ ⟨⟨C,D⟩,E⟩ k))∧∃p:Regrown,al=grow (redrawn wr p.d) p.os:=λd os=>
    ay (af.out ⟨⟨C,D⟩,E⟩ _)
   have ae:ib ⟨f,o⟩ l k j=false->q=false:=λh=>by
    rw[HV.out];unfold fQ;rw[fl (by rw[<-R.out];exact ai) h];rfl
   have T:=hid ae;clear ae b X Y Z;cases F:cL ⟨f,o⟩ ⟨⟨C,D⟩,E⟩ k with
   |false=>
    rw[F] at t;obtain rfl:q=false:=T.out (by unfold ib;rw[<-HX.out,F];rfl);clear F;go_wp2;refine rqb ?_
    repeat(any_goals(first|go_big_quiet_step (with_reducible exact t _ _)|quiet_step (with_reducible exact t _ _)))
    refine qz λwq s=> ?_;go_wp2;go_ret;exact⟨rfl,a.trans (s.mono a.size)⟩
   | true=>
    rw[F] at t;have HR:=hid F;clear F;by_cases U:j=0
    ·have b1:decide (0<j)=false:=by rw[aU];omega
     have V:Hid (∀i,i<j+1->ib ⟨f,o⟩ l k i=true):=λi W=>by
      obtain rfl:i=j:=by omega
      unfold ib;rw[<-HX.out,HR.out];simp[U]
     clear U;go_wp2;refine rqb ?_
     repeat(any_goals(first|go_big_quiet_step (with_reducible exact t _ _)|quiet_step (with_reducible exact t _ _)))
     refine qz λwq s=> ?_;go_wp2;go_roundw
     case rel=>exact⟨j+1,by omega,by go_num,V,u.trans (s.mono u.size)⟩
     case measure=>simp[RowKit.intOf];omega
    ·obtain⟨m,hm⟩:∃m,m+1=j:=⟨j-1,by omega⟩;obtain⟨ap,aq,e2,-,-,d0,d1,d2⟩:=IdsS.at_ (RowG.agr HA.out (Agr.below a)) (k:=m) (by have:=R.out;omega);injection e2 with e2;injection e2 with e3 e4;subst e3 e4;obtain⟨y,hy⟩:∃y,y=l.getD m .zero:=⟨_,rfl⟩;rw[<-hy] at d0 d1 d2;have HY:=hid hy;clear hy;obtain⟨⟨yt,yr⟩,yi⟩:=y;simp only at d0 d1 d2;have y0:=aj d0;have y1:=aj d1;have y2:=aj d2;have cD:=λd os=>ay (gx yt yr yi C D E (grow (redrawn wr d) os));have hd:=jW ⟨⟨yt,yr⟩,yi⟩ ⟨⟨C,D⟩,E⟩;have b1:decide (0<j)=true:=by rw[ak];omega
     have b2:(j:Int)-1=(m:Int):=by omega
     have b3:(0:Int)<=(m:Int):=by omega
     have b4:(m:Int)<(n:Int):=by omega
     have b5:IntKind.i64.wrap ((j:Int)-1)=(m:Int):=by rw[b2];exact ds _ (by omega)
     have b6:m=j-1:=by omega
     have HM:=hid b6;clear b6 hm U d0 d1 d2;cases G:Gid.lt ⟨⟨yt,yr⟩,yi⟩ ⟨⟨C,D⟩,E⟩ with
     | false=>
      rw[G] at hd
      obtain rfl:q=false:=T.out (by
       unfold ib;rw[<-HX.out,HR.out,<-HM.out,<-HY.out,G];have:¬j=0:=λe=>by rw[e] at b1;simp at b1
       simp[this])
      clear G;go_wp2;refine rqb ?_
      repeat(any_goals(first|go_big_quiet_step (with_reducible first|exact t _ _|exact cD _ _)|quiet_step (with_reducible first|exact t _ _|exact cD _ _)))
      refine qz λwq s=> ?_;go_wp2;go_ret;exact⟨rfl,a.trans (s.mono a.size)⟩
     | true=>
      rw[G] at hd;have V:Hid (∀i,i<j+1->ib ⟨f,o⟩ l k i=true):=λi W=>by
       rcases cj i j with h|h
       ·exact HK.out i h
       ·obtain rfl:i=j:=by omega
        unfold ib;rw[<-HX.out,HR.out,<-HM.out,<-HY.out,G];simp
      clear G;go_wp2;refine rqb ?_
      repeat(any_goals(first|go_big_quiet_step (with_reducible first|exact t _ _|exact cD _ _)|quiet_step (with_reducible first|exact t _ _|exact cD _ _)))
      refine qz λwq s=> ?_;clear b5;go_wp2;go_roundw
      case rel=>exact⟨j+1,by omega,by go_num,V,u.trans (s.mono u.size)⟩
      case measure=>simp[RowKit.intOf];omega
  ·obtain rfl:j=n:=by omega
   have H:q=(decide (1<=j) && decide (j<=2000)):=by
    rw[HV.out];unfold fQ;rw[ed (λi W=>HK.out i (by have:=R.out;omega)),<-R.out];rfl
   by_cases h1:1<=j
   ·have t0:(1:Int)<=(j:Int):=by omega
    by_cases h2:j<=2000
    ·obtain rfl:q=true:=by rw[H];simp[h1,h2]
     have t1:(j:Int)<=2000:=by omega
     clear H;go_wp2;go_ret;exact⟨rfl,a⟩
    ·obtain rfl:q=false:=by rw[H];simp;omega
     have t1:¬(j:Int)<=2000:=by omega
     clear H;go_wp2;go_ret;exact⟨rfl,a⟩
   ·obtain rfl:q=false:=by rw[H];simp;omega
    have t1:¬(1:Int)<=(j:Int):=by omega
    clear H;go_wp2;go_ret;exact⟨rfl,a⟩
end
section
open Go.RowKit Go.Lib Go.Sort
set_option linter.unusedSimpArgs false
theorem vbare_0 (k nt nr ni pt pr pi:Int) (name:ByteArray) (dir:Bool) (dA:Option Addr) (dn dc:Nat) (at_ ar ai et er ei:Int) (text:ByteArray) (eA:Option Addr) (en ec:Nat) (w:World) (hvt:((decide (dn=0)) && (Gid.none ⟨⟨at_,ar⟩,ai⟩) && (Gid.none ⟨⟨et,er⟩,ei⟩) && (decide (text.data.toList=[])) && (decide (en=0)))=true):
  Calls Tryz.prog 160 #[.agg #[k,nt,nr,ni,pt,pr,pi,name,dir,.slice dA dn dc,at_,ar,ai,et,er,ei,text,.slice eA en ec],true,true,false,false,false] w λe w'=>e= .returned (.bool ((decide (dn=0)) && (Gid.none ⟨⟨at_,ar⟩,ai⟩) && (Gid.none ⟨⟨et,er⟩,ei⟩) && (decide (text.data.toList=[])) && (decide (en=0))))∧Below w.heap.size w w':=by
 obtain⟨l,y⟩:∃a,a=((decide (dn=0)) && (Gid.none ⟨⟨at_,ar⟩,ai⟩) && (Gid.none ⟨⟨et,er⟩,ei⟩) && (decide (text.data.toList=[])) && (decide (en=0))):=⟨_,rfl⟩;rw[<-y];have t:=hid y;have q:=hid (show l=true by rw[y];exact hvt);clear hvt;clear y;obtain⟨W,u⟩:∃W,W=w.alloc (.cells #[k,nt,nr,ni,pt,pr,pi,name,dir,.slice dA dn dc,at_,ar,ai,et,er,ei,text,.slice eA en ec] 125):=⟨_,rfl⟩;have A:Below w.heap.size w W:=by subst u;exact(ag _ _).alloc (aa _) _
 have O:W.heap[w.heap.size]? =some (.cells #[k,nt,nr,ni,pt,pr,pi,name,dir,.slice dA dn dc,at_,ar,ai,et,er,ei,text,.slice eA en ec] 125 (0,0)):=by subst u;exact am _ _
 have HW:=hid u;have P:=hid O;have Q:w.heap.size<W.heap.size:=by subst u;simp
 clear u O;by_cases n:dn=0
 rotate_left
 ·have h:decide (dn=0)=false:=aE n;obtain rfl:l=false:=by rw[t.out];simp only[h,bc,ba,bg,aY]
  exact absurd q.out (by decide)
 have h:decide (dn=0)=true:=aN n;cases g:Gid.none ⟨⟨at_,ar⟩,ai⟩ with
 |false=>
  obtain rfl:l=false:=by rw[t.out];simp only[h,g,bc,ba,bg,aY]
  exact absurd q.out (by decide)
 |true=>
 cases f:Gid.none ⟨⟨et,er⟩,ei⟩ with
 |false=>
  obtain rfl:l=false:=by rw[t.out];simp only[h,g,f,bc,ba,bg,aY]
  exact absurd q.out (by decide)
 |true=>
 by_cases i:text.data.toList=[]
 rotate_left
 ·have m:decide (text.data.toList=[])=false:=aE i;obtain rfl:l=false:=by rw[t.out];simp only[h,g,f,m,bc,ba,bg,aY]
  exact absurd q.out (by decide)
 have m:decide (text.data.toList=[])=true:=aN i;by_cases j:en=0
 rotate_left
 ·have o:decide (en=0)=false:=aE j;obtain rfl:l=false:=by rw[t.out];simp only[h,g,f,m,o,bc,ba,bg,aY]
  exact absurd q.out (by decide)
 have o:decide (en=0)=true:=aN j;obtain rfl:l=true:=by rw[t.out];simp only[h,g,f,m,o,bc,ba,bg,aY]
 have ab:decide (0<dn)=false:=aE (by omega);obtain rfl:=gm.1 i;have ac:((en:Int) == 0)=true:=by rw[ce];omega
 have Z:decide (en=0)=true:=aN j;have c:W.heap[w.heap.size]? =some (.cells #[k,nt,nr,ni,pt,pr,pi,name,dir,.slice dA dn dc,at_,ar,ai,et,er,ei,.string ⟨#[]⟩,.slice eA en ec] 125 (0,0)):=P.out;have R:=rg4 c;have S:=rg5 c;have T:=rg6 c;have U:=rg7 c;have V:=rg8 c;have X:=rg9 c;have B:=rg10 c;have C:=rg11 c;have D:=rg12 c;have E:=rg13 c;have F:=rg14 c;have G:=rg15 c;have H:=rg16 c;have I:=rg17 c;clear c;have M:=hid g;have z:=hid f;clear g f m i n j h o;go_enter Tryz.func160,Tryz.ntmps160;go_upto_region 1 with(fail);rw[<-HW.out];refine bF ?_
 repeat(any_goals(first|go_big_quiet_step (fail)|quiet_step (fail)))
 refine qz λY r=> ?_;have v:=A.trans (r.mono A.size);have J:=(r.block _ Q).trans P.out;have K:=hid J;clear J r R S T U V X B C D E F G H I;obtain⟨x,L⟩:∃x,x=Y:=⟨_,rfl⟩;rw[<-L] at v K ⊢;clear L;go_upto_region 3 with(fail);have b:x.heap[w.heap.size]? =some (.cells #[k,nt,nr,ni,pt,pr,pi,name,dir,.slice dA dn dc,at_,ar,ai,et,er,ei,.string ⟨#[]⟩,.slice eA en ec] 125 (0,0)):=K.out;have R:=rg4 b;have S:=rg5 b;have T:=rg6 b;have U:=rg7 b;have V:=rg8 b;have X:=rg9 b;have B:=rg10 b;have C:=rg11 b;have D:=rg12 b;have E:=rg13 b;have F:=rg14 b;have G:=rg15 b;have H:=rg16 b;have I:=rg17 b;clear b;have g:=M.out;have f:=z.out;have s:=λd N=>ay (ez at_ ar ai (grow (redrawn x d) N));rw[g] at s;have p:=λd N=>ay (ez et er ei (grow (redrawn x d) N));rw[f] at p;clear g f;refine bF ?_
 repeat(any_goals(first|go_big_quiet_step (with_reducible first|exact s _ _|exact p _ _)|quiet_step (with_reducible first|exact s _ _|exact p _ _)))
 refine qz λY r=> ?_;go_wp2;go_ret;exact⟨rfl,v.trans (r.mono v.size)⟩
theorem vbare_1 (k nt nr ni pt pr pi:Int) (name:ByteArray) (dir:Bool) (dA:Option Addr) (dn dc:Nat) (at_ ar ai et er ei:Int) (text:ByteArray) (eA:Option Addr) (en ec:Nat) (w:World) (hvt:((!dir) && (decide (dn=0)) && (Gid.none ⟨⟨at_,ar⟩,ai⟩) && (Gid.none ⟨⟨et,er⟩,ei⟩) && (decide (text.data.toList=[])) && (decide (en=0)))=true):
  Calls Tryz.prog 160 #[.agg #[k,nt,nr,ni,pt,pr,pi,name,dir,.slice dA dn dc,at_,ar,ai,et,er,ei,text,.slice eA en ec],true,false,false,false,false] w λe w'=>e= .returned (.bool ((!dir) && (decide (dn=0)) && (Gid.none ⟨⟨at_,ar⟩,ai⟩) && (Gid.none ⟨⟨et,er⟩,ei⟩) && (decide (text.data.toList=[])) && (decide (en=0))))∧Below w.heap.size w w':=by
 obtain⟨j,z⟩:∃a,a=((!dir) && (decide (dn=0)) && (Gid.none ⟨⟨at_,ar⟩,ai⟩) && (Gid.none ⟨⟨et,er⟩,ei⟩) && (decide (text.data.toList=[])) && (decide (en=0))):=⟨_,rfl⟩;rw[<-z];have t:=hid z;have o:=hid (show j=true by rw[z];exact hvt);clear hvt;clear z;obtain⟨W,v⟩:∃W,W=w.alloc (.cells #[k,nt,nr,ni,pt,pr,pi,name,dir,.slice dA dn dc,at_,ar,ai,et,er,ei,text,.slice eA en ec] 125):=⟨_,rfl⟩;have B:Below w.heap.size w W:=by subst v;exact(ag _ _).alloc (aa _) _
 have P:W.heap[w.heap.size]? =some (.cells #[k,nt,nr,ni,pt,pr,pi,name,dir,.slice dA dn dc,at_,ar,ai,et,er,ei,text,.slice eA en ec] 125 (0,0)):=by subst v;exact am _ _
 have HW:=hid v;have Q:=hid P;have R:w.heap.size<W.heap.size:=by subst v;simp
 clear v P;cases i:(!dir) with
 |false=>
  obtain rfl:j=false:=by rw[t.out];simp only[i,bc,ba,bg,aY]
  exact absurd o.out (by decide)
 |true=>
 by_cases p:dn=0
 rotate_left
 ·have h:decide (dn=0)=false:=aE p;obtain rfl:j=false:=by rw[t.out];simp only[i,h,bc,ba,bg,aY]
  exact absurd o.out (by decide)
 have h:decide (dn=0)=true:=aN p;cases g:Gid.none ⟨⟨at_,ar⟩,ai⟩ with
 |false=>
  obtain rfl:j=false:=by rw[t.out];simp only[i,h,g,bc,ba,bg,aY]
  exact absurd o.out (by decide)
 |true=>
 cases f:Gid.none ⟨⟨et,er⟩,ei⟩ with
 |false=>
  obtain rfl:j=false:=by rw[t.out];simp only[i,h,g,f,bc,ba,bg,aY]
  exact absurd o.out (by decide)
 |true=>
 by_cases l:text.data.toList=[]
 rotate_left
 ·have n:decide (text.data.toList=[])=false:=aE l;obtain rfl:j=false:=by rw[t.out];simp only[i,h,g,f,n,bc,ba,bg,aY]
  exact absurd o.out (by decide)
 have n:decide (text.data.toList=[])=true:=aN l;by_cases m:en=0
 rotate_left
 ·have q:decide (en=0)=false:=aE m;obtain rfl:j=false:=by rw[t.out];simp only[i,h,g,f,n,q,bc,ba,bg,aY]
  exact absurd o.out (by decide)
 have q:decide (en=0)=true:=aN m;obtain rfl:j=true:=by rw[t.out];simp only[i,h,g,f,n,q,bc,ba,bg,aY]
 obtain rfl:dir=false:=by simpa using i
 have ac:decide (0<dn)=false:=aE (by omega);obtain rfl:=gm.1 l;have ad:((en:Int) == 0)=true:=by rw[ce];omega
 have ab:decide (en=0)=true:=aN m;have c:W.heap[w.heap.size]? =some (.cells #[k,nt,nr,ni,pt,pr,pi,name,false,.slice dA dn dc,at_,ar,ai,et,er,ei,.string ⟨#[]⟩,.slice eA en ec] 125 (0,0)):=Q.out;have S:=rg4 c;have T:=rg5 c;have U:=rg6 c;have V:=rg7 c;have X:=rg8 c;have Y:=rg9 c;have C:=rg10 c;have D:=rg11 c;have E:=rg12 c;have F:=rg13 c;have G:=rg14 c;have H:=rg15 c;have I:=rg16 c;have J:=rg17 c;clear c;have N:=hid g;have A:=hid f;clear i g f n l p m h q;go_enter Tryz.func160,Tryz.ntmps160;go_upto_region 1 with(fail);rw[<-HW.out];refine bF ?_
 repeat(any_goals(first|go_big_quiet_step (fail)|quiet_step (fail)))
 refine qz λZ s=> ?_;have x:=B.trans (s.mono B.size);have K:=(s.block _ R).trans Q.out;have L:=hid K;clear K s S T U V X Y C D E F G H I J;obtain⟨y,M⟩:∃y,y=Z:=⟨_,rfl⟩;rw[<-M] at x L ⊢;clear M;go_upto_region 3 with(fail);have b:y.heap[w.heap.size]? =some (.cells #[k,nt,nr,ni,pt,pr,pi,name,false,.slice dA dn dc,at_,ar,ai,et,er,ei,.string ⟨#[]⟩,.slice eA en ec] 125 (0,0)):=L.out;have S:=rg4 b;have T:=rg5 b;have U:=rg6 b;have V:=rg7 b;have X:=rg8 b;have Y:=rg9 b;have C:=rg10 b;have D:=rg11 b;have E:=rg12 b;have F:=rg13 b;have G:=rg14 b;have H:=rg15 b;have I:=rg16 b;have J:=rg17 b;clear b;have g:=N.out;have f:=A.out;have u:=λd O=>ay (ez at_ ar ai (grow (redrawn y d) O));rw[g] at u;have r:=λd O=>ay (ez et er ei (grow (redrawn y d) O));rw[f] at r;clear g f;refine bF ?_
 repeat(any_goals(first|go_big_quiet_step (with_reducible first|exact u _ _|exact r _ _)|quiet_step (with_reducible first|exact u _ _|exact r _ _)))
 refine qz λZ s=> ?_;go_wp2;go_ret;exact⟨rfl,x.trans (s.mono x.size)⟩
theorem vbare_2 (k nt nr ni pt pr pi:Int) (name:ByteArray) (dir:Bool) (dA:Option Addr) (dn dc:Nat) (at_ ar ai et er ei:Int) (text:ByteArray) (eA:Option Addr) (en ec:Nat) (w:World) (hvt:((Gid.none ⟨⟨pt,pr⟩,pi⟩) && (decide (name.data.toList=[])) && (!dir) && (Gid.none ⟨⟨at_,ar⟩,ai⟩) && (Gid.none ⟨⟨et,er⟩,ei⟩) && (decide (text.data.toList=[])) && (decide (en=0)))=true):
  Calls Tryz.prog 160 #[.agg #[k,nt,nr,ni,pt,pr,pi,name,dir,.slice dA dn dc,at_,ar,ai,et,er,ei,text,.slice eA en ec],false,false,true,false,false] w λe w'=>e= .returned (.bool ((Gid.none ⟨⟨pt,pr⟩,pi⟩) && (decide (name.data.toList=[])) && (!dir) && (Gid.none ⟨⟨at_,ar⟩,ai⟩) && (Gid.none ⟨⟨et,er⟩,ei⟩) && (decide (text.data.toList=[])) && (decide (en=0))))∧Below w.heap.size w w':=by
 obtain⟨j,C⟩:∃a,a=((Gid.none ⟨⟨pt,pr⟩,pi⟩) && (decide (name.data.toList=[])) && (!dir) && (Gid.none ⟨⟨at_,ar⟩,ai⟩) && (Gid.none ⟨⟨et,er⟩,ei⟩) && (decide (text.data.toList=[])) && (decide (en=0))):=⟨_,rfl⟩;rw[<-C];have u:=hid C;have p:=hid (show j=true by rw[C];exact hvt);clear hvt;clear C;obtain⟨W,y⟩:∃W,W=w.alloc (.cells #[k,nt,nr,ni,pt,pr,pi,name,dir,.slice dA dn dc,at_,ar,ai,et,er,ei,text,.slice eA en ec] 125):=⟨_,rfl⟩;have E:Below w.heap.size w W:=by subst y;exact(ag _ _).alloc (aa _) _
 have R:W.heap[w.heap.size]? =some (.cells #[k,nt,nr,ni,pt,pr,pi,name,dir,.slice dA dn dc,at_,ar,ai,et,er,ei,text,.slice eA en ec] 125 (0,0)):=by subst y;exact am _ _
 have HW:=hid y;have S:=hid R;have T:w.heap.size<W.heap.size:=by subst y;simp
 clear y R;cases g:Gid.none ⟨⟨pt,pr⟩,pi⟩ with
 |false=>
  obtain rfl:j=false:=by rw[u.out];simp only[g,bc,ba,bg,aY]
  exact absurd p.out (by decide)
 |true=>
 by_cases m:name.data.toList=[]
 rotate_left
 ·have i:decide (name.data.toList=[])=false:=aE m;obtain rfl:j=false:=by rw[u.out];simp only[g,i,bc,ba,bg,aY]
  exact absurd p.out (by decide)
 have i:decide (name.data.toList=[])=true:=aN m;cases l:(!dir) with
 |false=>
  obtain rfl:j=false:=by rw[u.out];simp only[g,i,l,bc,ba,bg,aY]
  exact absurd p.out (by decide)
 |true=>
 cases h:Gid.none ⟨⟨at_,ar⟩,ai⟩ with
 |false=>
  obtain rfl:j=false:=by rw[u.out];simp only[g,i,l,h,bc,ba,bg,aY]
  exact absurd p.out (by decide)
 |true=>
 cases f:Gid.none ⟨⟨et,er⟩,ei⟩ with
 |false=>
  obtain rfl:j=false:=by rw[u.out];simp only[g,i,l,h,f,bc,ba,bg,aY]
  exact absurd p.out (by decide)
 |true=>
 by_cases n:text.data.toList=[]
 rotate_left
 ·have q:decide (text.data.toList=[])=false:=aE n;obtain rfl:j=false:=by rw[u.out];simp only[g,i,l,h,f,q,bc,ba,bg,aY]
  exact absurd p.out (by decide)
 have q:decide (text.data.toList=[])=true:=aN n;by_cases o:en=0
 rotate_left
 ·have r:decide (en=0)=false:=aE o;obtain rfl:j=false:=by rw[u.out];simp only[g,i,l,h,f,q,r,bc,ba,bg,aY]
  exact absurd p.out (by decide)
 have r:decide (en=0)=true:=aN o;obtain rfl:j=true:=by rw[u.out];simp only[g,i,l,h,f,q,r,bc,ba,bg,aY]
 obtain rfl:=gm.1 m;obtain rfl:dir=false:=by simpa using l
 obtain rfl:=gm.1 n;have ac:((en:Int) == 0)=true:=by rw[ce];omega
 have ab:decide (en=0)=true:=aN o;have c:W.heap[w.heap.size]? =some (.cells #[k,nt,nr,ni,pt,pr,pi,.string ⟨#[]⟩,false,.slice dA dn dc,at_,ar,ai,et,er,ei,.string ⟨#[]⟩,.slice eA en ec] 125 (0,0)):=S.out;have U:=rg4 c;have V:=rg5 c;have X:=rg6 c;have Y:=rg7 c;have Z:=rg8 c;have x9:=rg9 c;have F:=rg10 c;have G:=rg11 c;have H:=rg12 c;have I:=rg13 c;have J:=rg14 c;have K:=rg15 c;have L:=rg16 c;have M:=rg17 c;clear c;have s:=λd z=>ay (ez pt pr pi (grow (redrawn W d) z));rw[g] at s;have Q:=hid h;have D:=hid f;clear g i l h f q m n o r;go_enter Tryz.func160,Tryz.ntmps160;go_upto_region 1 with(fail);rw[<-HW.out];refine bF ?_
 repeat(any_goals(first|go_big_quiet_step (with_reducible first|exact s _ _)|quiet_step (with_reducible first|exact s _ _)))
 refine qz λwq v=> ?_;have A:=E.trans (v.mono E.size);have N:=(v.block _ T).trans S.out;have O:=hid N;clear N v U V X Y Z x9 F G H I J K L M s;obtain⟨B,P⟩:∃B,B=wq:=⟨_,rfl⟩;rw[<-P] at A O ⊢;clear P;go_upto_region 3 with(fail);have b:B.heap[w.heap.size]? =some (.cells #[k,nt,nr,ni,pt,pr,pi,.string ⟨#[]⟩,false,.slice dA dn dc,at_,ar,ai,et,er,ei,.string ⟨#[]⟩,.slice eA en ec] 125 (0,0)):=O.out;have U:=rg4 b;have V:=rg5 b;have X:=rg6 b;have Y:=rg7 b;have Z:=rg8 b;have x9:=rg9 b;have F:=rg10 b;have G:=rg11 b;have H:=rg12 b;have I:=rg13 b;have J:=rg14 b;have K:=rg15 b;have L:=rg16 b;have M:=rg17 b;clear b;have h:=Q.out;have f:=D.out;have x:=λd z=>ay (ez at_ ar ai (grow (redrawn B d) z));rw[h] at x;have t:=λd z=>ay (ez et er ei (grow (redrawn B d) z));rw[f] at t;clear h f;refine bF ?_
 repeat(any_goals(first|go_big_quiet_step (with_reducible first|exact x _ _|exact t _ _)|quiet_step (with_reducible first|exact x _ _|exact t _ _)))
 refine qz λwq v=> ?_;go_wp2;go_ret;exact⟨rfl,A.trans (v.mono A.size)⟩
end
section
open Go.RowKit Go.Lib Go.Sort
set_option linter.unusedSimpArgs false
theorem vbare_3 (k nt nr ni pt pr pi:Int) (name:ByteArray) (dir:Bool) (dA:Option Addr) (dn dc:Nat) (at_ ar ai et er ei:Int) (text:ByteArray) (eA:Option Addr) (en ec:Nat) (w:World) (hvt:((Gid.none ⟨⟨pt,pr⟩,pi⟩) && (decide (name.data.toList=[])) && (!dir) && (decide (dn=0)) && (decide (en=0)))=true):
  Calls Tryz.prog 160 #[.agg #[k,nt,nr,ni,pt,pr,pi,name,dir,.slice dA dn dc,at_,ar,ai,et,er,ei,text,.slice eA en ec],false,false,false,true,false] w λe w'=>e= .returned (.bool ((Gid.none ⟨⟨pt,pr⟩,pi⟩) && (decide (name.data.toList=[])) && (!dir) && (decide (dn=0)) && (decide (en=0))))∧Below w.heap.size w w':=by
 obtain⟨j,v⟩:∃a,a=((Gid.none ⟨⟨pt,pr⟩,pi⟩) && (decide (name.data.toList=[])) && (!dir) && (decide (dn=0)) && (decide (en=0))):=⟨_,rfl⟩;rw[<-v];have s:=hid v;have q:=hid (show j=true by rw[v];exact hvt);clear hvt;clear v;obtain⟨W,t⟩:∃W,W=w.alloc (.cells #[k,nt,nr,ni,pt,pr,pi,name,dir,.slice dA dn dc,at_,ar,ai,et,er,ei,text,.slice eA en ec] 125):=⟨_,rfl⟩;have x:Below w.heap.size w W:=by subst t;exact(ag _ _).alloc (aa _) _
 have K:W.heap[w.heap.size]? =some (.cells #[k,nt,nr,ni,pt,pr,pi,name,dir,.slice dA dn dc,at_,ar,ai,et,er,ei,text,.slice eA en ec] 125 (0,0)):=by subst t;exact am _ _
 have V:=hid t;have L:=hid K;have M:w.heap.size<W.heap.size:=by subst t;simp
 clear t K;cases f:Gid.none ⟨⟨pt,pr⟩,pi⟩ with
 |false=>
  obtain rfl:j=false:=by rw[s.out];simp only[f,bc,ba,bg,aY]
  exact absurd q.out (by decide)
 |true=>
 by_cases h:name.data.toList=[]
 rotate_left
 ·have g:decide (name.data.toList=[])=false:=aE h;obtain rfl:j=false:=by rw[s.out];simp only[f,g,bc,ba,bg,aY]
  exact absurd q.out (by decide)
 have g:decide (name.data.toList=[])=true:=aN h;cases m:(!dir) with
 |false=>
  obtain rfl:j=false:=by rw[s.out];simp only[f,g,m,bc,ba,bg,aY]
  exact absurd q.out (by decide)
 |true=>
 by_cases n:dn=0
 rotate_left
 ·have l:decide (dn=0)=false:=aE n;obtain rfl:j=false:=by rw[s.out];simp only[f,g,m,l,bc,ba,bg,aY]
  exact absurd q.out (by decide)
 have l:decide (dn=0)=true:=aN n;by_cases i:en=0
 rotate_left
 ·have o:decide (en=0)=false:=aE i;obtain rfl:j=false:=by rw[s.out];simp only[f,g,m,l,o,bc,ba,bg,aY]
  exact absurd q.out (by decide)
 have o:decide (en=0)=true:=aN i;obtain rfl:j=true:=by rw[s.out];simp only[f,g,m,l,o,bc,ba,bg,aY]
 obtain rfl:=gm.1 h;obtain rfl:dir=false:=by simpa using m
 have X:decide (0<dn)=false:=aE (by omega);have Y:((en:Int) == 0)=true:=by rw[ce];omega
 have U:decide (en=0)=true:=aN i;have c:W.heap[w.heap.size]? =some (.cells #[k,nt,nr,ni,pt,pr,pi,.string ⟨#[]⟩,false,.slice dA dn dc,at_,ar,ai,et,er,ei,text,.slice eA en ec] 125 (0,0)):=L.out;have N:=rg4 c;have O:=rg5 c;have P:=rg6 c;have Q:=rg7 c;have R:=rg8 c;have S:=rg9 c;have y:=rg10 c;have z:=rg11 c;have A:=rg12 c;have B:=rg13 c;have C:=rg14 c;have D:=rg15 c;have E:=rg16 c;have F:=rg17 c;clear c;have p:=λd Z=>ay (ez pt pr pi (grow (redrawn W d) Z));rw[f] at p;clear f g m h n i l o;go_enter Tryz.func160,Tryz.ntmps160;go_upto_region 1 with(fail);rw[<-V.out];refine bF ?_
 repeat(any_goals(first|go_big_quiet_step (with_reducible first|exact p _ _)|quiet_step (with_reducible first|exact p _ _)))
 refine qz λT r=> ?_;have u:=x.trans (r.mono x.size);have G:=(r.block _ M).trans L.out;have H:=hid G;clear G r N O P Q R S y z A B C D E F p;obtain⟨J,I⟩:∃J,J=T:=⟨_,rfl⟩;rw[<-I] at u H ⊢;clear I;go_upto_region 3 with(fail);have b:J.heap[w.heap.size]? =some (.cells #[k,nt,nr,ni,pt,pr,pi,.string ⟨#[]⟩,false,.slice dA dn dc,at_,ar,ai,et,er,ei,text,.slice eA en ec] 125 (0,0)):=H.out;have N:=rg4 b;have O:=rg5 b;have P:=rg6 b;have Q:=rg7 b;have R:=rg8 b;have S:=rg9 b;have y:=rg10 b;have z:=rg11 b;have A:=rg12 b;have B:=rg13 b;have C:=rg14 b;have D:=rg15 b;have E:=rg16 b;have F:=rg17 b;clear b;refine bF ?_
 repeat(any_goals(first|go_big_quiet_step (fail)|quiet_step (fail)))
 refine qz λT r=> ?_;go_wp2;go_ret;exact⟨rfl,u.trans (r.mono u.size)⟩
theorem vbare_4 (k nt nr ni pt pr pi:Int) (name:ByteArray) (dir:Bool) (dA:Option Addr) (dn dc:Nat) (at_ ar ai et er ei:Int) (text:ByteArray) (eA:Option Addr) (en ec:Nat) (w:World) (hvt:((Gid.none ⟨⟨pt,pr⟩,pi⟩) && (decide (name.data.toList=[])) && (!dir) && (decide (dn=0)) && (Gid.none ⟨⟨at_,ar⟩,ai⟩) && (Gid.none ⟨⟨et,er⟩,ei⟩) && (decide (text.data.toList=[])))=true):
  Calls Tryz.prog 160 #[.agg #[k,nt,nr,ni,pt,pr,pi,name,dir,.slice dA dn dc,at_,ar,ai,et,er,ei,text,.slice eA en ec],false,false,false,false,true] w λe w'=>e= .returned (.bool ((Gid.none ⟨⟨pt,pr⟩,pi⟩) && (decide (name.data.toList=[])) && (!dir) && (decide (dn=0)) && (Gid.none ⟨⟨at_,ar⟩,ai⟩) && (Gid.none ⟨⟨et,er⟩,ei⟩) && (decide (text.data.toList=[]))))∧Below w.heap.size w w':=by
 obtain⟨l,C⟩:∃a,a=((Gid.none ⟨⟨pt,pr⟩,pi⟩) && (decide (name.data.toList=[])) && (!dir) && (decide (dn=0)) && (Gid.none ⟨⟨at_,ar⟩,ai⟩) && (Gid.none ⟨⟨et,er⟩,ei⟩) && (decide (text.data.toList=[]))):=⟨_,rfl⟩;rw[<-C];have u:=hid C;have p:=hid (show l=true by rw[C];exact hvt);clear hvt;clear C;obtain⟨W,y⟩:∃W,W=w.alloc (.cells #[k,nt,nr,ni,pt,pr,pi,name,dir,.slice dA dn dc,at_,ar,ai,et,er,ei,text,.slice eA en ec] 125):=⟨_,rfl⟩;have E:Below w.heap.size w W:=by subst y;exact(ag _ _).alloc (aa _) _
 have R:W.heap[w.heap.size]? =some (.cells #[k,nt,nr,ni,pt,pr,pi,name,dir,.slice dA dn dc,at_,ar,ai,et,er,ei,text,.slice eA en ec] 125 (0,0)):=by subst y;exact am _ _
 have HW:=hid y;have S:=hid R;have T:w.heap.size<W.heap.size:=by subst y;simp
 clear y R;cases g:Gid.none ⟨⟨pt,pr⟩,pi⟩ with
 |false=>
  obtain rfl:l=false:=by rw[u.out];simp only[g,bc,ba,bg,aY]
  exact absurd p.out (by decide)
 |true=>
 by_cases n:name.data.toList=[]
 rotate_left
 ·have h:decide (name.data.toList=[])=false:=aE n;obtain rfl:l=false:=by rw[u.out];simp only[g,h,bc,ba,bg,aY]
  exact absurd p.out (by decide)
 have h:decide (name.data.toList=[])=true:=aN n;cases m:(!dir) with
 |false=>
  obtain rfl:l=false:=by rw[u.out];simp only[g,h,m,bc,ba,bg,aY]
  exact absurd p.out (by decide)
 |true=>
 by_cases q:dn=0
 rotate_left
 ·have j:decide (dn=0)=false:=aE q;obtain rfl:l=false:=by rw[u.out];simp only[g,h,m,j,bc,ba,bg,aY]
  exact absurd p.out (by decide)
 have j:decide (dn=0)=true:=aN q;cases i:Gid.none ⟨⟨at_,ar⟩,ai⟩ with
 |false=>
  obtain rfl:l=false:=by rw[u.out];simp only[g,h,m,j,i,bc,ba,bg,aY]
  exact absurd p.out (by decide)
 |true=>
 cases f:Gid.none ⟨⟨et,er⟩,ei⟩ with
 |false=>
  obtain rfl:l=false:=by rw[u.out];simp only[g,h,m,j,i,f,bc,ba,bg,aY]
  exact absurd p.out (by decide)
 |true=>
 by_cases o:text.data.toList=[]
 rotate_left
 ·have r:decide (text.data.toList=[])=false:=aE o;obtain rfl:l=false:=by rw[u.out];simp only[g,h,m,j,i,f,r,bc,ba,bg,aY]
  exact absurd p.out (by decide)
 have r:decide (text.data.toList=[])=true:=aN o;obtain rfl:l=true:=by rw[u.out];simp only[g,h,m,j,i,f,r,bc,ba,bg,aY]
 obtain rfl:=gm.1 n;obtain rfl:dir=false:=by simpa using m
 have ab:decide (0<dn)=false:=aE (by omega);obtain rfl:=gm.1 o;have c:W.heap[w.heap.size]? =some (.cells #[k,nt,nr,ni,pt,pr,pi,.string ⟨#[]⟩,false,.slice dA dn dc,at_,ar,ai,et,er,ei,.string ⟨#[]⟩,.slice eA en ec] 125 (0,0)):=S.out;have U:=rg4 c;have V:=rg5 c;have X:=rg6 c;have Y:=rg7 c;have Z:=rg8 c;have x9:=rg9 c;have F:=rg10 c;have G:=rg11 c;have H:=rg12 c;have I:=rg13 c;have J:=rg14 c;have K:=rg15 c;have L:=rg16 c;have M:=rg17 c;clear c;have s:=λd z=>ay (ez pt pr pi (grow (redrawn W d) z));rw[g] at s;have Q:=hid i;have D:=hid f;clear g h m i f r n o q j;go_enter Tryz.func160,Tryz.ntmps160;go_upto_region 1 with(fail);rw[<-HW.out];refine bF ?_
 repeat(any_goals(first|go_big_quiet_step (with_reducible first|exact s _ _)|quiet_step (with_reducible first|exact s _ _)))
 refine qz λwq v=> ?_;have A:=E.trans (v.mono E.size);have N:=(v.block _ T).trans S.out;have O:=hid N;clear N v U V X Y Z x9 F G H I J K L M s;obtain⟨B,P⟩:∃B,B=wq:=⟨_,rfl⟩;rw[<-P] at A O ⊢;clear P;go_upto_region 3 with(fail);have b:B.heap[w.heap.size]? =some (.cells #[k,nt,nr,ni,pt,pr,pi,.string ⟨#[]⟩,false,.slice dA dn dc,at_,ar,ai,et,er,ei,.string ⟨#[]⟩,.slice eA en ec] 125 (0,0)):=O.out;have U:=rg4 b;have V:=rg5 b;have X:=rg6 b;have Y:=rg7 b;have Z:=rg8 b;have x9:=rg9 b;have F:=rg10 b;have G:=rg11 b;have H:=rg12 b;have I:=rg13 b;have J:=rg14 b;have K:=rg15 b;have L:=rg16 b;have M:=rg17 b;clear b;have i:=Q.out;have f:=D.out;have x:=λd z=>ay (ez at_ ar ai (grow (redrawn B d) z));rw[i] at x;have t:=λd z=>ay (ez et er ei (grow (redrawn B d) z));rw[f] at t;clear i f;refine bF ?_
 repeat(any_goals(first|go_big_quiet_step (with_reducible first|exact x _ _|exact t _ _)|quiet_step (with_reducible first|exact x _ _|exact t _ _)))
 refine qz λwq v=> ?_;go_wp2;go_ret;exact⟨rfl,A.trans (v.mono A.size)⟩
end
end
section
open Go.Lib
def cN (b:Nat):Prop:=128<=b∧b<192
instance (b:Nat):Decidable (cN b):=by unfold cN;exact inferInstance
def rfN (n b0 b1 b2 b3:Nat):Option (Nat×Nat):=
 if b0<128 then some (b0,1)
 else if 194<=b0∧b0<224 then (if 2<=n∧cN b1 then some ((b0-192)*64+(b1-128),2) else none)
 else if 224<=b0∧b0<240 then
  (if 3<=n∧cN b1∧cN b2∧2048<=((b0-224)*64+(b1-128))*64+(b2-128)∧(((b0-224)*64+(b1-128))*64+(b2-128)<55296∨57344<=((b0-224)*64+(b1-128))*64+(b2-128)) then some (((b0-224)*64+(b1-128))*64+(b2-128),3) else none)
 else if 240<=b0∧b0<245 then
  (if 4<=n∧cN b1∧cN b2∧cN b3∧65536<=(((b0-240)*64+(b1-128))*64+(b2-128))*64+(b3-128)∧(((b0-240)*64+(b1-128))*64+(b2-128))*64+(b3-128)<=1114111 then some ((((b0-240)*64+(b1-128))*64+(b2-128))*64+(b3-128),4) else none)
 else none
theorem rfN_eq (n b0 b1 b2 b3:Nat) (h0:b0<256) (h1:b1<256) (h2:b2<256) (h3:b3<256):
  (rfN n b0 b1 b2 b3=none∧decodeN n b0 b1 b2 b3=(65533,1))∨(rfN n b0 b1 b2 b3=some (decodeN n b0 b1 b2 b3)∧decodeN n b0 b1 b2 b3≠(65533,1)):=by
 have b:∀(x y:Nat×Nat),x=y->y.2≠1∨y.1<128->((some x:Option (Nat×Nat))=none∧y=(65533,1))∨(some x=some y∧y≠(65533,1)):=by
  intro x y e c;subst e;refine .inr ⟨rfl,λh=> ?_⟩;rw[h] at c;simp at c
 by_cases a:b0<128
 ·unfold rfN decodeN;rw[aJ a,aJ a];exact b _ _ rfl (.inr a)
 by_cases d:b0<194
 ·left;refine⟨?_,decodeN_bad n b0 b1 b2 b3 (.inl ⟨by omega,d⟩)⟩;unfold rfN;rw[aC a,aC (by omega),aC (by omega),aC (by omega)]
 by_cases f:245<=b0
 ·left;refine⟨?_,decodeN_bad n b0 b1 b2 b3 (.inr ⟨by omega,h0⟩)⟩;unfold rfN;rw[aC a,aC (by omega),aC (by omega),aC (by omega)]
 unfold rfN decodeN cN;rw[aC a,aC a]
 repeat' split
 all_goals first
  |(exfalso;omega)
  |exact .inl ⟨rfl,rfl⟩
  |exact b _ _ (by apply Prod.ext<;>simp only<;>omega) (.inl (by simp))
def rfL (l:List UInt8):Option (Nat×Nat):=rfN l.length (l.getD 0 0).toNat (l.getD 1 0).toNat (l.getD 2 0).toNat (l.getD 3 0).toNat
theorem rfL_eq (l:List UInt8):(rfL l=none∧decodeL l=(65533,1))∨(rfL l=some (decodeL l)∧decodeL l≠(65533,1)):=by
 rw[decodeL_N];exact rfN_eq _ _ _ _ _ (fJ _) (fJ _) (fJ _) (fJ _)
def cntF:Nat->List UInt8->Option Nat
 |0,_=>some 0
 | f+1,l=>if l=[] then some 0 else match rfL l with
  |none=>none
  |some (_,k)=>match cntF f (l.drop k) with
   |none=>none
   |some m=>some (m+1)
theorem je {l:List UInt8} {c k:Nat} (hl:l≠[]) (h:rfL l=some (c,k)):1<=k∧k<=l.length:=by
 rcases rfL_eq l with⟨h1,_⟩|⟨h1,_⟩
 ·rw[h1] at h;cases h
 ·rw[h1] at h;injection h with h;have:=decodeL_width l;have a:=decodeL_le l hl;rw[h] at this a;exact⟨this,a⟩
theorem cntF_fuel:∀(n m:Nat) (l:List UInt8),l.length<=n->l.length<=m->cntF n l=cntF m l
 |0,m,l,hn,_=>by
  obtain rfl:=bR (Nat.le_zero.1 hn)
  cases m<;>simp[cntF]
 |n+1,0,l,_,hm=>by
  obtain rfl:=bR (Nat.le_zero.1 hm)
  simp[cntF]
 | n+1,m+1,l,hn,hm=>by
  simp only[cntF]
  by_cases hl:l=[]
  ·rw[aJ hl,aJ hl]
  ·rw[aC hl,aC hl]
   cases h:rfL l with
   |none=>rfl
   |some p=>
    obtain⟨c,k⟩:=p
    have:=je hl h
    simp only
    rw[cntF_fuel n m (l.drop k) (by rw[bI];omega) (by rw[bI];omega)]
def cnt (l:List UInt8):Option Nat:=cntF l.length l
theorem cnt_nil:cnt []=some 0:=rfl
theorem cnt_step {l:List UInt8} (hl:l≠[]):cnt l=match rfL l with
  |none=>none
  |some (_,k)=>match cnt (l.drop k) with
   |none=>none
   |some m=>some (m+1):=by
 have b:0<l.length:=List.length_pos_iff.2 hl;obtain⟨n,a⟩:∃n,l.length=n+1:=⟨l.length-1,by omega⟩;unfold cnt;rw[a];simp only[cntF,aC hl];cases h:rfL l with
 |none=>rfl
 |some p=>
  obtain⟨c,k⟩:=p;have:=je hl h;simp only;rw[cntF_fuel n (l.drop k).length (l.drop k) (by rw[bI];omega) (by omega)]
theorem decode_drop (s:ByteArray) (pos:Nat):Utf8.decode s pos=decodeL (s.data.toList.drop pos):=by
 rw[decode_at,decodeL_N];have a:s.data.toList.length=s.size:=by simp
 have g:∀i,(s.get! (pos+i))=(s.data.toList.drop pos).getD i 0:=λi=>by
  rw[ae,jC];cases s with
  |mk d=>
   show d[pos+i]! =_;rw[getElem!_def,<-dz];cases d.toList[pos+i]? <;>rfl
 rw[<-g 0,<-g 1,<-g 2,<-g 3,bI,a];rfl
theorem cnt_lib (s:ByteArray):∀(f pos:Nat),pos<=s.size->s.size-pos<=f->
  (validD (s.data.toList.drop pos)=(cnt (s.data.toList.drop pos)).isSome)∧∀m,cnt (s.data.toList.drop pos)=some m->runeCountFrom s f pos=m
 | f, pos,hp,hf=>by
  have hl:s.data.toList.length=s.size:=by simp
  by_cases he:pos=s.size
  ·have e:s.data.toList.drop pos=[]:=List.drop_of_length_le (by omega)
   rw[e,cnt_nil]
   refine⟨validD_nil,λm hm=> ?_⟩
   injection hm with hm
   subst hm
   exact runeCountFrom_end s f pos (by omega)
  ·have hne:s.data.toList.drop pos≠[]:=λe=>by
    have:=congrArg List.length e
    rw[bI,hl] at this
    simp at this;omega
   cases f with
   |zero=>omega
   |succ f=>
   rw[validD_step _ hne,cnt_step hne]
   have hd:=decode_drop s pos
   rcases rfL_eq (s.data.toList.drop pos) with⟨h1,h2⟩|⟨h1,h2⟩
   ·rw[h1,h2]
    exact⟨rfl,λm hm=>by cases hm⟩
   ·rw[h1]
    have hk:1<=(decodeL (s.data.toList.drop pos)).2∧(decodeL (s.data.toList.drop pos)).2<=s.size-pos:=by
     have a:=je hne h1;rwa[bI,hl] at a
    have ih:=cnt_lib s f (pos+(decodeL (s.data.toList.drop pos)).2) (by omega) (by omega);rw[<-List.drop_drop] at ih;have c:¬((decodeL (s.data.toList.drop pos)).1=65533∧(decodeL (s.data.toList.drop pos)).2=1):=λh=>h2 (Prod.ext h.1 h.2);rw[aC c,ih.1];simp only;refine⟨?_,λm hm=> ?_⟩
    ·cases cnt (List.drop (decodeL (s.data.toList.drop pos)).2 (s.data.toList.drop pos))<;>rfl
    ·cases b:cnt (List.drop (decodeL (s.data.toList.drop pos)).2 (s.data.toList.drop pos)) with
     |none=>rw[b] at hm;cases hm
     |some q=>
      rw[b] at hm;injection hm with hm;have a:=ih.2 q b;unfold runeCountFrom;rw[aJ (by omega),hd,a];omega
theorem jj (s:ByteArray):validD s.data.toList=(cnt s.data.toList).isSome:=by
 have:=(cnt_lib s s.size 0 (by omega) (by omega)).1;simpa using this
theorem jk {s:ByteArray} {m:Nat} (h:cnt s.data.toList=some m):runeCount s=m:=by
 have:=(cnt_lib s s.size 0 (by omega) (by omega)).2 m;simp only[List.drop_zero] at this;exact this h
end
end Go.Proofs.YtkhmicndehlneaaGreatDoor
