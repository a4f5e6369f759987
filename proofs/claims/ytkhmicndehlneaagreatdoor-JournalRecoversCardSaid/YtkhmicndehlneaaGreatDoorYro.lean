/- Part 15 of the walks and plain laws that this claim uses, joined. Conditions: as each theorem states. -/
import Derived.Test.YtkhmicndehlneaaGreatDoorYrn
namespace Go.Proofs.YtkhmicndehlneaaGreatDoor
set_option maxRecDepth 100000
set_option maxHeartbeats 16000000
set_option linter.unusedVariables false
section
section
open Go.RowKit Go.Lib Go.Sort
attribute [local go_sem ↓] Go.wp_at_zero Go.wp_at_succ
def firstO:Gop:={ opO 0 ⟨⟨1,1⟩,0⟩ with name:=⟨#[97]⟩,dir:=true }
def firstG:Grp:=⟨⟨1,1⟩,1,[],⟨0,0⟩,[firstO]⟩
theorem first_in (w:World) (g:Nat) (B:Nat) (d:B<=g) (h:w.heap[g]? =some (.cells #[(0:Int),(1:Int),(1:Int),(0:Int),(0:Int),(0:Int),(0:Int),.string ⟨#[97]⟩,true,.slice none 0 0,(0:Int),(0:Int),(0:Int),(0:Int),(0:Int),(0:Int),.string ⟨#[]⟩,.slice none 0 0] 125 (0,0))):
  GrIn w (λk=>B<=k) firstG none 0 (some ⟨g,0,none⟩) 1:=by
 refine⟨RowG.zero,⟨λ_=>⟨none,0,none,0⟩,?_,?_⟩,aa _,aa _,aq _,by decide,⟨by decide,by decide⟩,λx f=>(by cases f)⟩
 ·intro k a;obtain rfl:k=0:=by have:k<1:=a;omega
  have i:g<w.heap.size:=by
   rcases cJ g w.heap.size with b|c
   ·exact b
   ·rw[Array.getElem?_eq_none c] at h;cases h
  refine⟨g,0,rfl,d,i,λj l=> ?_⟩;have e:(0+0*18+j:Nat)=j:=by omega
  rw[e,aG _ _ _ _ _ _ h]
  match j,l with
  |0,_=>rfl
  |1,_=>rfl
  |2,_=>rfl
  |3,_=>rfl
  |4,_=>rfl
  |5,_=>rfl
  |6,_=>rfl
  |7,_=>rfl
  |8,_=>rfl
  |9,_=>rfl
  |10,_=>rfl
  |11,_=>rfl
  |12,_=>rfl
  |13,_=>rfl
  |14,_=>rfl
  |15,_=>rfl
  |16,_=>rfl
  |17,_=>rfl
  |n+18,h=>exact absurd h (by omega)
 ·intro k a;obtain rfl:k=0:=by have:k<1:=a;omega
  exact⟨RowG.zero,RowG.zero,aa _,aa _,aq _,aq _,by decide,aq _⟩
def FirstQ (w:World) (e:Ending) (w':World):Prop:=∃a,e= .returned (.agg #[(1:Int),(1:Int),(1:Int),.slice none 0 0,(0:Int),(0:Int),.slice (some ⟨a,0,none⟩) 1 1])∧GrIn w' (λk=>w.heap.size<=k) firstG none 0 (some ⟨a,0,none⟩) 1∧Below w.heap.size w w'
theorem firstg_any (w:World):Calls Tryz.prog 42 #[] w (FirstQ w):=by
 go_enter Tryz.func42,Tryz.ntmps42;go_wp2;refine aU (v:= .agg #[(1:Int),(1:Int),(1:Int),.slice none 0 0,(0:Int),(0:Int),.slice (some ⟨w.heap.size+1+1,0,none⟩) 1 1]) (by simp[results,Tryz.results42,go_sem]) rfl ?_;exact⟨w.heap.size+1+1,rfl,first_in _ _ _ (by omega) (bu _ _ (by simp)),(((ag _ _).alloc (aa _) _).alloc (by simp) _).alloc (by simp;omega) _⟩
end
end
section
open Go.RowKit Go.Lib Go.Sort
attribute [local go_sem ↓] Go.wp_at_zero Go.wp_at_succ
theorem getD_fst' (L:List (Grp×GrX)) (k:Nat):(L.getD k gp0).1=(L.map Prod.fst).getD k gz:=by
 rw[ae,ae,dW];cases L[k]? <;>rfl
theorem aheadV_take:∀(l:List Grp) (v u:List Int),eu v l=some u->∀j,j<l.length->∃x,eu v (l.take j)=some x∧chkB (l.getD j gz)=true∧covB x (l.getD j gz).deps=true∧atV x (l.getD j gz).s.r=(l.getD j gz).n-1∧eu v (l.take (j+1))=some (eS x (l.getD j gz).s.r (l.getD j gz).n)
 | [],v,u,h,j,hj=>absurd hj (da _)
 | g::l,v,u,h,0,hj=>by
  rw[eu] at h
  split at h
  ·rename_i c
   simp only[ay,au] at c
   refine⟨v,rfl,c.1.1,c.1.2,c.2,?_⟩
   show eu v (g::l.take 0)=_
   rw[eu,aN (by simp[c.1.1,c.1.2,c.2])]
   rw[iz];rfl
  ·cases h
 | g::l,v,u,h,j+1,hj=>by
  rw[eu] at h
  split at h
  ·rename_i c
   obtain⟨x,h1,h2,h3,h4,h5⟩:=aheadV_take l _ u h j (by simpa using hj)
   refine⟨x,?_,h2,h3,h4,?_⟩
   ·show eu v (g::l.take j)=_
    rw[eu,aN c];exact h1
   ·show eu v (g::l.take (j+1))=_
    rw[eu,aN c];exact h5
  ·cases h
theorem reffind_none (L:List (Grp×GrX)) (A:Option Addr) (c:Nat) (x:Gst) (w:World) (P:L.length<=1000000) (u:RowGr w A L) (y:∀p∈L,p.1.s.eqb x=false):
  Calls Tryz.prog 165 #[.slice A L.length c,.agg #[.int .i64 x.t,.int .i64 x.r]] w λe w'=>e= .returned (.int .i64 (-1))∧Below w.heap.size w w':=by
 obtain⟨d,f⟩:=x;have j:Below w.heap.size w (w.alloc (.cells #[d,f] 42)):=(ag _ _).alloc (aa _) _;have G:=hid (an w (.cells #[d,f] 42));have l:(w.alloc (.cells #[d,f] 42)).heap.size=w.heap.size+1:=by simp
 have H:=hid l;have I:=hid j;have J:=hid u;have K:=hid y;clear j u y l;show Calls _ _ #[.slice A L.length c,.agg #[d,f]] _ _;go_enter Tryz.func165,Tryz.ntmps165;go_upto_region 2 with(fail);generalize z:w.alloc (.cells #[d,f] 42)=B at *;clear z;go_loopw [5] (λi wr=>∃k:Nat,i= .int .i64 k∧k<=L.length∧Hid (Below B.heap.size B wr)) (λi _=>L.length-(RowKit.intOf i).toNat)
 case atStart=>exact⟨0,rfl,aq _,hid (ag _ _)⟩
 case round=>
  obtain⟨k,rfl,Q,g⟩:=hrel;have m:=bT I g.o;by_cases h:k<L.length
  ·obtain⟨C,D,rfl,N,b⟩:=RowGr.range (RowGr.below J.o m.o) h;have R:(0:Int)<=(k:Int):=by omega
   have M:(k:Int)<(L.length:Int):=by omega
   have E:L.getD k gp0∈L:=by rw[ae,aw h];exact ch h
   have o:=K.o _ E;generalize L.getD k gp0=p at *;obtain⟨⟨⟨t,r⟩,n,S,⟨T,U⟩,O⟩,⟨V,W,X,Y⟩⟩:=p;have Z:=eq_st t r d f false o;have q:=hid ((g.o.block w.heap.size (by rw[H.o];omega)).trans G.o);have x0:=rg0 q.o;have x1:=rg1 q.o;have y0:=aj (w:=wr) (a:=⟨C,D+k*7,none⟩) (v:= .int .i64 t) (b 0 _ rfl);have y1:=aj (w:=wr) (a:=⟨C,D+k*7+1,none⟩) (v:= .int .i64 r) (b 1 _ rfl);clear o E b;go_upto_region 4 with(fail);refine rqb ?_
   repeat(any_goals(first|go_big_quiet_step (fail)|quiet_step (fail)))
   refine qz λwq F=> ?_;go_wp2;go_roundw
   case rel=>exact⟨k+1,by go_num,by omega,bT g F⟩
   case measure=>(simp[RowKit.intOf];omega)
  ·obtain rfl:k=L.length:=by omega
   have M:¬(L.length:Int)<(L.length:Int):=by omega
   go_wp2;go_ret;exact⟨rfl,m.o⟩
theorem flat_take_succ {L:List (Grp×GrX)} {k:Nat} (h:k<L.length):(L.take (k+1)).flatMap grC_=(L.take k).flatMap grC_++grC_ (L.getD k gp0):=by
 rw[List.take_add_one,aK,aw h,ae,aw h];simp
theorem refrights_any (L:List (Grp×GrX)) (A:Option Addr) (c:Nat) (S:Nat->Prop) (w:World) (hl:L.length<=100000) (hR:RowGr w A L) (hG:∀p∈L,GrG w S p) (hT:∀p∈L,∀o∈p.1.ops,o.text.size<=1000000) (X:∀p∈L,chkB p.1=true) (Y:(L.map (·.1.s)).Nodup):
  Calls Tryz.prog 106 #[.slice A L.length c] w λe w'=>∃A' c',e= .returned (.slice A' L.length c')∧w'.ownsRow w.heap.size 45 7 (.slice A' L.length c') L.length (L.flatMap grC_)∧Below w.heap.size w w':=by
 obtain⟨i0,hi,af,ah,ai⟩:=bx ib;have HR:=hid hR;have HG:=hid hG;have HT:=hid hT;have aj:=hid X;have ak:=hid Y;clear hR hG hT X Y;go_enter Tryz.func106,Tryz.ntmps106;go_upto_region 3 with(fail);go_loopw [3,4] (λo i wr=>∃(k:Nat) (A':Option Addr) (c':Nat),k<=L.length∧i= .int .i64 k∧o= .slice A' k c'∧Hid (wr.ownsRow w.heap.size 45 7 (.slice A' k c') k ((L.take k).flatMap grC_))∧Hid (Below w.heap.size w wr)) (λo i _=>L.length-(RowKit.intOf i).toNat)
 case atStart=>exact⟨0,none,0,aq _,rfl,rfl,hid (aH _ _ _ _),hid (ag _ _)⟩
 case round=>
  obtain⟨k,A',c',hk,rfl,rfl,U,z⟩:=hrel;by_cases v:k<L.length
  ·obtain⟨d,g,rfl,ax,f⟩:=RowGr.range (RowGr.below HR.o z.o) v;have ay:d<w.heap.size:=by obtain⟨b',o',e',-,al,-⟩:=HR.o k v;cases e';exact al
   have az:(0:Int)<=(k:Int):=by omega
   have i1:(k:Int)<(L.length:Int):=by omega
   have am:=z.o.size;have V:L.getD k gp0∈L:=by rw[ae,aw v];exact ch v
   have G:GrG wr S (L.getD k gp0):=(HG.o _ V).agr (Agr.below z.o);have Z:=HT.o _ V;have C:=aj.o _ V;have an:=hid (flat_take_succ v);have aa:∀q∈L.take k,q.1.s.eqb (L.getD k gp0).1.s=false:=λq hq=>by
    cases e:q.1.s.eqb (L.getD k gp0).1.s with
    |false=>rfl
    |true=>
     exfalso;rw[Gst.eqb_iff] at e;obtain⟨j,hj,rfl⟩:=List.getElem_of_mem hq;have ao:j<k:=by rw[bf] at hj;omega
     rw[List.getElem_take] at e;rw[ae,aw v] at e;have hp:=(iR.1 ak.o) j k (by rw[aV];omega) (by rw[aV];exact v) ao;rw[List.getElem_map,List.getElem_map] at hp;exact hp e
   have ab:RowGr wr A' (L.take k):=by
    have H:(L.take k).length=k:=by rw[bf];omega
    have:=U.o;refine RowGr.own (c:=c') (B:=w.heap.size) (E:=45) ?_;rw[H];exact this
   have H:(L.take k).length=k:=by rw[bf];omega
   generalize L.getD k gp0=p at *;obtain⟨⟨⟨t,r⟩,n,J,⟨K,M⟩,ops⟩,⟨N,O,P,Q⟩⟩:=p;have C:chkB ⟨⟨t,r⟩,n,J,⟨K,M⟩,ops⟩=true:=C;have ac:=hid (vchk_any ⟨⟨t,r⟩,n,J,⟨K,M⟩,ops⟩ N O P Q S wr G (λ_=>Z) C);rw[C,aN rfl] at ac
   have ap:=hid (λW (hB:Below wr.heap.size wr W)=>show Calls Tryz.prog 165 #[.slice A' k c',.agg #[t,r]] W λe w'=>e= .returned (.int .i64 (-1))∧Below W.heap.size W w' from by
    have:=reffind_none (L.take k) A' c' ⟨t,r⟩ W (by omega) (RowGr.below ab hB) aa;rw[H] at this
    exact this)
   have y0:wr.cell? ⟨d,g+k*7,none⟩=some (.int .i64 t):=f 0 _ rfl;have y1:wr.cell? ⟨d,g+k*7+1,none⟩=some (.int .i64 r):=f 1 _ rfl;have y2:wr.cell? ⟨d,g+k*7+2,none⟩=some (.int .i64 n):=f 2 _ rfl;have y3:wr.cell? ⟨d,g+k*7+3,none⟩=some (.slice N J.length O):=f 3 _ rfl;have y4:wr.cell? ⟨d,g+k*7+4,none⟩=some (.int .i64 K):=f 4 _ rfl;have y5:wr.cell? ⟨d,g+k*7+5,none⟩=some (.int .i64 M):=f 5 _ rfl;have y6:wr.cell? ⟨d,g+k*7+6,none⟩=some (.slice P ops.length Q):=f 6 _ rfl;clear f G Z C V aa ab H
   go_upto_region 6 with(first
    |(go_at_call 54;refine ac.o.mono ?_;rintro e l ⟨rfl,m⟩;have R:=hid m;have z0:=(be (w:=wr) (w':=l) (a:=⟨d,g+k*7,none⟩) (m.block d (by omega))).trans y0;have z1:=(be (w:=wr) (w':=l) (a:=⟨d,g+k*7+1,none⟩) (m.block d (by omega))).trans y1;have z2:=(be (w:=wr) (w':=l) (a:=⟨d,g+k*7+2,none⟩) (m.block d (by omega))).trans y2;have z3:=(be (w:=wr) (w':=l) (a:=⟨d,g+k*7+3,none⟩) (m.block d (by omega))).trans y3;have z4:=(be (w:=wr) (w':=l) (a:=⟨d,g+k*7+4,none⟩) (m.block d (by omega))).trans y4;have z5:=(be (w:=wr) (w':=l) (a:=⟨d,g+k*7+5,none⟩) (m.block d (by omega))).trans y5;have z6:=(be (w:=wr) (w':=l) (a:=⟨d,g+k*7+6,none⟩) (m.block d (by omega))).trans y6;clear m)
    |(go_at_call 165;refine(ap.o l R.o).mono ?_;rintro e x ⟨rfl,u⟩;have T:=bT R u;have aA:=R.o.size;have v0:=(be (w:=l) (w':=x) (a:=⟨d,g+k*7,none⟩) (u.block d (by omega))).trans z0;have v1:=(be (w:=l) (w':=x) (a:=⟨d,g+k*7+1,none⟩) (u.block d (by omega))).trans z1;have v2:=(be (w:=l) (w':=x) (a:=⟨d,g+k*7+2,none⟩) (u.block d (by omega))).trans z2;have v3:=(be (w:=l) (w':=x) (a:=⟨d,g+k*7+3,none⟩) (u.block d (by omega))).trans z3;have v4:=(be (w:=l) (w':=x) (a:=⟨d,g+k*7+4,none⟩) (u.block d (by omega))).trans z4;have v5:=(be (w:=l) (w':=x) (a:=⟨d,g+k*7+5,none⟩) (u.block d (by omega))).trans z5;have v6:=(be (w:=l) (w':=x) (a:=⟨d,g+k*7+6,none⟩) (u.block d (by omega))).trans z6;clear u))
   have aB:=T.o.size;have ar:=kO U T.o;have D:=hid (z.o.trans (T.o.mono am));clear y0 y1 y2 y3 y4 y5 y6 z0 z1 z2 z3 z4 z5 z6;go_wp2_with (at_builtin;refine bv _ rfl _ _ 25 rfl w.heap.size 45 i0 (.agg #[(0:Int),(0:Int),(0:Int),.slice none 0 0,(0:Int),(0:Int),.slice none 0 0]) 7 88 ci hi af ah ai rfl (by decide) _ _ _ rfl (by exact ar.o.alloc _) ⟨x.heap.size,0,none⟩ 1 1 [t,r,n,.slice N J.length O,K,M,.slice P ops.length Q] rfl rfl (λj y h=>dH x [t,r,n,.slice N J.length O,K,M,.slice P ops.length Q] 45 j y h) (iU (⟨⟨t,r⟩,n,J,⟨K,M⟩,ops⟩,⟨N,O,P,Q⟩)) (by unfold maxLen;omega) (by omega) (by simp;omega) ?_;intro v' w3 F I ad);obtain⟨A3,c3,rfl⟩:=bU F;have au:=hid (show w3.ownsRow w.heap.size 45 7 (.slice A3 (k+1) c3) (k+1) ((L.take (k+1)).flatMap grC_) by rw[an.o];exact F);have av:=hid ((D.o.alloc D.o.size _).grown I (by simp;have:=D.o.size;omega) (λb hb=>U.o.lt b hb |>.1));clear F I ad;go_roundw
   case rel=>exact⟨k+1,A3,c3,by omega,by go_num,rfl,au,av⟩
   case measure=>(simp[RowKit.intOf];omega)
  ·obtain rfl:k=L.length:=by omega
   have i1:¬(L.length:Int)<(L.length:Int):=by omega
   go_wp2;go_ret;refine⟨A',c',rfl,?_,z.o⟩;have:=U.o;rw[aO] at this;exact this
theorem rvector_any (L:List (Grp×GrX)) (A:Option Addr) (c:Nat) (S:Nat->Prop) (w:World) (hl:L.length<=100000) (U:RowGr w A L) (V:∀p∈L,GrG w S p) (X:∀p∈L,∀o∈p.1.ops,o.text.size<=1000000) (m:∀p∈L,chkB p.1=true) (C:(L.map (·.1.s)).Nodup) (u:List Int) (Y:eu [] (L.map Prod.fst)=some u):
  Calls Tryz.prog 70 #[.slice A L.length c] w λe w'=>∃A' c',e= .returned (.slice A' u.length c')∧VecS w' (λ_=>True) A' u∧u.length<=16∧Below w.heap.size w w':=by
 have Z:=hid (refrights_any L A c S w hl U V X m C);have HU:=hid Y;have ab:=hid m;clear U V X m C Y;go_enter Tryz.func70,Tryz.ntmps70;go_upto_region 4 with(go_at_call 106;refine Z.o.mono ?_;rintro e w1 ⟨A1,c1,rfl,q,D⟩;have ac:=hid (RowGr.own q);have E:=hid D;clear q D);go_loopw [3,4] (λs i wr=>∃(k:Nat) (v:List Int) (g:Option Addr) (l:Nat),k<=L.length∧s= .slice g v.length l∧v.length<=16∧VecS wr (λ_=>True) g v∧Hid (eu [] ((L.map Prod.fst).take k)=some v)∧i= .int .i64 k∧Hid (Below w1.heap.size w1 wr)) (λs i _=>L.length-(RowKit.intOf i).toNat)
 case atStart=>exact⟨0,[],none,0,by omega,rfl,by decide,RowG.zero,hid rfl,rfl,hid (ag _ _)⟩
 case round=>
  obtain⟨k,v,g,l,hk,rfl,J,K,HV,rfl,h⟩:=hrel;by_cases j:k<L.length
  ·have i0:(0:Int)<=(k:Int):=by omega
   have i1:(k:Int)<(L.length:Int):=by omega
   obtain⟨M,ro,rfl,ad,b⟩:=RowGr.range (RowGr.below ac.o h.o) j;have af:=h.o.size;have hm:L.getD k gp0∈L:=by rw[ae,aw j];exact ch j
   have ah:=ab.o _ hm;have F:=getD_fst' L k;obtain⟨f,N,O,k3,x,P⟩:=aheadV_take _ _ _ HU.o k (by rw[aV];exact j);obtain rfl:f=v:=by rw[HV.o] at N;exact(Option.some.inj N).symm
   rw[<-F] at O k3 x P;generalize L.getD k gp0=p at *;obtain⟨⟨⟨t,r⟩,n,dv,⟨ut,ur⟩,ops⟩,⟨dA,dc,oA,oc⟩⟩:=p;clear F hm N k3;obtain⟨G,c2,c3,-⟩:=fp O;have Q:=right_r G;have ai:1<=r:=Q.1;have H:r<=16:=Q.2;have au:1<=n:=c2;have av:n<=1099511627776:=c3;have x:atV f r=n-1:=x;have K5:=hid (show eu [] ((L.map Prod.fst).take (k+1))=some (eS f r n) from P);have I:=hid (λW (R:Below wr.heap.size wr W)=>eT g l f r W (by omega) (VecS.vec (RowG.agr K (Agr.below R))));have al:=hid (λW (R:Below wr.heap.size wr W)=>refwith_any g l f r n W (by omega) ai H (VecS.vec (RowG.agr K (Agr.below R))));rw[x] at I;have q1:max n (n-1)=n:=by omega
   have y1:=aj (b 1 _ rfl);have y2:=aj (b 2 _ rfl);have am:=hid (show wr.cell? ⟨M,ro+k*7+1,none⟩=some (.int .i64 r) from b 1 _ rfl);clear O x P G c2 c3 Q ah b;have T:∀d B,Calls Tryz.prog 55 #[.slice g f.length l,r] (grow (redrawn wr d) B) λe an=>e= .returned (.int .i64 (n-1))∧∃p:Regrown,an=grow (redrawn wr p.d) p.os:=λd B=>ak ((I.o (grow (redrawn wr d) B) (bL wr d B)).mono (by rintro e w' ⟨rfl,rfl⟩;exact⟨rfl,ag _ _⟩));go_upto_region 6 with(fail);refine rqb ?_
   repeat(any_goals(first|go_big_quiet_step (with_reducible exact T _ _)|quiet_step (with_reducible exact T _ _)))
   refine qz λwq y=> ?_;have z1:=(be (w:=wr) (w':=wq) (a:=⟨M,ro+k*7+1,none⟩) (y.block M ad)).trans am.o;have z:=hid y;clear y1 y2 T y;go_wp2_with (go_at_call 56;refine(al.o wq z.o).mono ?_;rintro e w9 ⟨ao,A9,c9,rfl,ap,ax,ay⟩);have aq:=withV_len f r n J H;go_roundw
   case rel=>exact⟨k+1,eS f r n,A9,c9,by omega,rfl,aq,RowG.sub ap (λ_ _ _=>trivial),K5,by go_num,hid (h.o.trans ((z.o.trans (ao.mono z.o.size)).mono af))⟩
   case measure=>(simp[RowKit.intOf];omega)
  ·obtain rfl:k=L.length:=by omega
   have i1:¬(L.length:Int)<(L.length:Int):=by omega
   have ar:v=u:=by
    have:=HV.o;rw[eB (by rw[aV];exact aa _),HU.o] at this;exact(Option.some.inj this).symm
   subst ar;go_wp2;go_ret;exact⟨g,⟨l,rfl⟩,K,E.o.trans (h.o.mono E.o.size)⟩
end
section
open Go.RowKit Go.Lib Go.Sort
structure RbX where
 dv:Value
 wv:Value
 L:List (Grp×GrX)
 M:List (Grp×GrX)
def OwnR (P:Nat) (X:RbX) (k:Nat):Prop:=k=P∨X.dv.ownBlock=some k∨X.wv.ownBlock=some k
structure RbIn (B P:Nat) (S:Nat->Prop) (dn wt:List Grp) (X:RbX) (w:World):Prop where
 obj:w.heap[P]? =some (.cells #[X.dv,X.wv] 65 (0,0))
 done:w.ownsRow B 45 7 X.dv X.L.length (X.L.flatMap grC_)
 wait:w.ownsRow B 45 7 X.wv X.M.length (X.M.flatMap grC_)
 dl:X.L.map Prod.fst=dn
 wl:X.M.map Prod.fst=wt
 good:∀p∈X.L++X.M,GrG w S p
 hP:B<=P
 dP:X.dv.ownBlock≠some P
 wP:X.wv.ownBlock≠some P
 dw:∀g,X.dv.ownBlock=some g->X.wv.ownBlock≠some g
 sep:∀k,S k->k<w.heap.size∧¬OwnR P X k
structure RbTo (P:Nat) (X:RbX) (w:World) (X':RbX) (w':World):Prop where
 gr:GrB (OwnR P X) w w'
 own:∀k,OwnR P X' k->OwnR P X k∨w.heap.size<=k
section
variable {B P : Nat} {S : Nat → Prop} {dn wt : List Grp} {X X' X'' : RbX} {w w' w'' : World}
theorem RbTo.trans (h:RbTo P X w X' w') (k:RbTo P X' w' X'' w''):RbTo P X w X'' w'':=
 ⟨h.gr.trans k.gr λi hi e=>(h.own i e).resolve_right (by omega),λi hi=>by
  rcases k.own i hi with h1|h1
  ·exact h.own i h1
  ·exact .inr (aP h.gr.size h1)⟩
theorem RbTo.of_below (h:Below w.heap.size w w'):RbTo P X w X w':=⟨GrB.of_below h,λ_ h=> .inl h⟩
theorem RbIn.own_lt (h:RbIn B P S dn wt X w) {k:Nat} (a:OwnR P X k):B<=k∧k<w.heap.size:=by
 rcases a with rfl|a|a
 ·exact⟨h.hP,lt_of_block h.obj⟩
 ·exact h.done.lt k a
 ·exact h.wait.lt k a
theorem RbIn.below (h:RbIn B P S dn wt X w) (a:Below w.heap.size w w'):RbIn B P S dn wt X w':=by
 have b:=dB (r:=none) a;exact⟨(a.block P (lt_of_block h.obj)).trans h.obj,h.done.kept b (cX _),h.wait.kept b (cX _),h.dl,h.wl,λp d=>(h.good p d).agr (Agr.below a),h.hP,h.dP,h.wP,h.dw,λk c=>⟨bS (h.sep k c).1 a.size,(h.sep k c).2⟩⟩
theorem RbIn.cell (h:RbIn B P S dn wt X w) (i:Nat):w.cell? ⟨P,i,none⟩=#[X.dv,X.wv][i]? :=aG _ _ _ _ _ _ h.obj
theorem RbIn.dlen (h:RbIn B P S dn wt X w):X.L.length=dn.length:=by rw[<-h.dl,aV]
theorem RbIn.wlen (h:RbIn B P S dn wt X w):X.M.length=wt.length:=by rw[<-h.wl,aV]
def NewAt (u u':Value) (n:Nat):Prop:=u'.ownBlock=u.ownBlock∨∀k,u'.ownBlock=some k->n<=k
theorem NewAt.ne {u a:Value} {n P:Nat} (b:NewAt u a n) (h:u.ownBlock≠some P) (d:P<n):a.ownBlock≠some P:=by
 rcases b with e|e
 ·rw[e];exact h
 ·intro c;have:=e P c;omega
theorem RbIn.dset (h:RbIn B P S dn wt X w) {w1 a:World} {dv':Value} {L':List (Grp×GrX)} (j:Below w.heap.size w w1) (l:w1.grownBy a X.dv.ownBlock) (r:a.ownsRow B 45 7 dv' L'.length (L'.flatMap grC_))
  (d:NewAt X.dv dv' w.heap.size) (m:∀p∈L',GrG w S p):
  RbIn B P S (L'.map Prod.fst) wt { X with dv:=dv',L:=L' } (a.setCell ⟨P,0,none⟩ dv')∧RbTo P X w { X with dv:=dv',L:=L' } (a.setCell ⟨P,0,none⟩ dv'):=by
 have n:=lt_of_block h.obj;have u:=h.below j;have D:=j.size;have s:∀g,X.dv.ownBlock=some g->¬S g:=λg e s=>(h.sep g s).2 (.inr (.inl e));have v:¬S P:=λA=>(h.sep P A).2 (.inl rfl);have x:Agr S w (a.setCell ⟨P,0,none⟩ dv'):=((Agr.below j).trans (Agr.grown l s)).trans (gY a P 0 dv' v);have o:GrB (OwnR P X) w (a.setCell ⟨P,0,none⟩ dv'):=((GrB.of_below j).grown l (λg e _=> .inr (.inl e))).set P 0 dv' (λ_=> .inl rfl);have f:∀k,OwnR P { X with dv:=dv',L:=L' } k->OwnR P X k∨w.heap.size<=k:=λk t=>by
  rcases t with e|e|e
  ·exact .inl (.inl e)
  ·have e:dv'.ownBlock=some k:=e;rcases d with b|b
   ·exact .inl (.inr (.inl (b.symm.trans e)))
   ·exact .inr (b k e)
  ·exact .inl (.inr (.inr e))
 refine⟨⟨gF (c:=#[X.dv,X.wv]) ((l.block P (by omega) (λe=>h.dP e.symm)).trans u.obj) 0 dv' rfl,gG r (d.ne h.dP n) 0 dv',gG (u.wait.kept l (kept_or h.dw)) h.wP 0 dv',rfl,h.wl,?_,h.hP,d.ne h.dP n,h.wP,?_,?_⟩,⟨o,f⟩⟩
 ·intro q i;rcases aD.1 i with i|i
  ·exact(m q i).agr x
  ·exact(h.good q (aD.2 (.inr i))).agr x
 ·intro g e y;have e:dv'.ownBlock=some g:=e;rcases d with b|b
  ·rw[b] at e;exact h.dw g e y
  ·have:=b g e;have:=(h.wait.lt g y).2;omega
 ·intro k t;have z:=h.sep k t;exact⟨bS z.1 o.size,λC=>(f k C).elim z.2 (by omega)⟩
theorem RbIn.wset (h:RbIn B P S dn wt X w) {w1 a:World} {wv':Value} {M':List (Grp×GrX)} (l:Below w.heap.size w w1) (m:w1.grownBy a X.wv.ownBlock) (s:a.ownsRow B 45 7 wv' M'.length (M'.flatMap grC_))
  (f:NewAt X.wv wv' w.heap.size) (n:∀p∈M',GrG w S p):
  RbIn B P S dn (M'.map Prod.fst) { X with wv:=wv',M:=M' } (a.setCell ⟨P,1,none⟩ wv')∧RbTo P X w { X with wv:=wv',M:=M' } (a.setCell ⟨P,1,none⟩ wv'):=by
 have o:=lt_of_block h.obj;have v:=h.below l;have D:=l.size;have t:∀g,X.wv.ownBlock=some g->¬S g:=λg e t=>(h.sep g t).2 (.inr (.inr e));have x:¬S P:=λA=>(h.sep P A).2 (.inl rfl);have y:Agr S w (a.setCell ⟨P,1,none⟩ wv'):=((Agr.below l).trans (Agr.grown m t)).trans (gY a P 1 wv' x);have r:GrB (OwnR P X) w (a.setCell ⟨P,1,none⟩ wv'):=((GrB.of_below l).grown m (λg e _=> .inr (.inr e))).set P 1 wv' (λ_=> .inl rfl);have i:∀k,OwnR P { X with wv:=wv',M:=M' } k->OwnR P X k∨w.heap.size<=k:=λk u=>by
  rcases u with e|e|e
  ·exact .inl (.inl e)
  ·exact .inl (.inr (.inl e))
  ·have e:wv'.ownBlock=some k:=e;rcases f with b|b
   ·exact .inl (.inr (.inr (b.symm.trans e)))
   ·exact .inr (b k e)
 refine⟨⟨gF (c:=#[X.dv,X.wv]) ((m.block P (by omega) (λe=>h.wP e.symm)).trans v.obj) 1 wv' rfl,gG (v.done.kept m (kept_or (λg e d=>h.dw g d e))) h.dP 1 wv',gG s (f.ne h.wP o) 1 wv',h.dl,rfl,?_,h.hP,h.dP,f.ne h.wP o,?_,?_⟩,⟨r,i⟩⟩
 ·intro q j;rcases aD.1 j with j|j
  ·exact(h.good q (aD.2 (.inl j))).agr y
  ·exact(n q j).agr y
 ·intro g e d;have d:wv'.ownBlock=some g:=d;rcases f with b|b
  ·rw[b] at d;exact h.dw g e d
  ·have:=b g d;have:=(h.done.lt g e).2;omega
 ·intro k u;have z:=h.sep k u;exact⟨bS z.1 r.size,λC=>(i k C).elim z.2 (by omega)⟩
structure RbOk (b:Bx):Prop where
 ok:BxOk b
 txt:∀g∈b.done++b.wait,∀o∈g.ops,o.text.size<=1000000
 len:b.done.length+b.wait.length<=100000
end
theorem rbvec_any {B P:Nat} {S:Nat->Prop} {b:Bx} {X:RbX} {w:World} (h:RbIn B P S b.done b.wait X w) (c:RbOk b):
  Calls Tryz.prog 35 #[.pointer (some ⟨P,0,none⟩)] w λe w'=>∃A' c',e= .returned (.slice A' b.v.length c')∧VecS w' (λ_=>True) A' b.v∧b.v.length<=16∧Below w.heap.size w w':=by
 obtain⟨i,j,d⟩:=bU h.done;have f:=h.done;rw[d] at f;have k:=c.len;have g:∀p∈X.L,p.1∈b.done:=λp a=>by rw[<-h.dl];exact bN.2 ⟨p,a,rfl⟩
 have l:=hid (rvector_any X.L i j S w (by rw[h.dlen];omega) (RowGr.own f) (λp a=>h.good p (aD.2 (.inl a))) (λp a=>c.txt p.1 (aD.2 (.inl (g p a)))) (λp a=>c.ok.chk p.1 (aD.2 (.inl (g p a)))) (by
  have:=c.ok.apart;rw[bD,fZ] at this;have m:=this.1;rw[<-h.dl,List.map_map] at m
  exact m) b.v (by rw[h.dl];exact c.ok.ahead))
 have t:w.cell? ⟨P,0,none⟩=some (.slice i X.L.length j):=by rw[h.cell,<-d];rfl
 obtain⟨n,o⟩:∃n,n=X.L.length:=⟨_,rfl⟩;rw[<-o] at l t;clear h f d c g k o;go_enter Tryz.func35,Tryz.ntmps35;go_wp2_with (go_at_call 70;refine l.o.mono ?_;rintro e y ⟨u,x,rfl,q,r,s⟩);go_ret;exact⟨u,x,rfl,q,r,s⟩
end
section
open Go.RowKit Go.Lib Go.Sort
attribute [local go_sem ↓] Go.wp_at_zero Go.wp_at_succ
theorem rbready_any {B P:Nat} {S S2:Nat->Prop} {b:Bx} {X:RbX} {w:World} (h:RbIn B P S b.done b.wait X w) (G:RbOk b) (g:Grp) (x:GrX) (H:GrG w S2 (g,x)) (q:g.deps.length<=1000):
  Calls Tryz.prog 68 #[.pointer (some ⟨P,0,none⟩),.agg (grA g x.dA x.dc x.oA x.oc)] w λe w'=>e= .returned (.bool (gM b.v g))∧Below w.heap.size w w':=by
 obtain⟨⟨t,r⟩,n,u,⟨f,i⟩,a⟩:=g;obtain⟨dA,dc,oA,oc⟩:=x;obtain⟨s,c⟩:∃z,z=gM b.v ⟨⟨t,r⟩,n,u,⟨f,i⟩,a⟩:=⟨_,rfl⟩;rw[<-c];have y:Below w.heap.size w (w.alloc (.cells #[t,r,n,.slice dA u.length dc,f,i,.slice oA a.length oc] 45)):=(ag _ _).alloc (aa _) _;have I:u.length<=9223372036854775800:=by have h1:u.length<=1000:=q;omega
 have A:∀W,Below w.heap.size w W->Calls Tryz.prog 35 #[.pointer (some ⟨P,0,none⟩)] W λe w'=>∃d j,e= .returned (.slice d b.v.length j)∧VecS w' (λ_=>True) d b.v∧b.v.length<=16∧Below W.heap.size W w':=λW F=>rbvec_any (h.below F) G;have C:∀W d j,Below w.heap.size w W->VecS W (λ_=>True) d b.v->b.v.length<=16->Calls Tryz.prog 38 #[.slice d b.v.length j,.slice dA u.length dc] W λe w'=>e= .returned (.bool s)∧w'=W:=λW d j F T hl=>by
  rw[c];exact refcovers_any d dA j dc b.v u W (by omega) I T.vec (VecS.vec (show VecS W S2 dA u from RowG.agr H.deps (Agr.below F)))
 have J:=hid A;have L:=hid C;have k:=hid (an w (.cells #[t,r,n,.slice dA u.length dc,f,i,.slice oA a.length oc] 45));have M:=hid y;show Calls _ _ #[.pointer (some ⟨P,0,none⟩),.agg #[t,r,n,.slice dA u.length dc,f,i,.slice oA a.length oc]] _ _;clear A C H h G c q y;go_enter Tryz.func68,Tryz.ntmps68;go_upto_region 1 with fail;generalize U:w.alloc (.cells #[t,r,n,.slice dA u.length dc,f,i,.slice oA a.length oc] 45)=W at *;clear U;have N:w.heap.size<W.heap.size:=lt_of_block k.o;refine aY (S:=λw'=>w'.heap[w.heap.size]? =some (.cells #[t,r,n,.slice dA u.length dc,f,i,.slice oA a.length oc] 45 (0,0))) (by kernel_rfl) ?_
 try(change wpAnyH _ _ _ _ _ _ _ _ (World.drew _))
 refine tk 0 (.pointer (some ⟨P,0,none⟩)) ((show W.drew.heap[w.heap.size]? =_ from k.o)) ?_;go_simp;refine tk 2 (.pointer (some ⟨w.heap.size,3,none⟩)) ((show W.drew.heap[w.heap.size]? =_ from k.o)) ?_;go_simp;refine tk2 3 (.slice dA u.length dc) rfl (Or.inl ⟨by rfl,λV O=>by(have c_:V.cell? ⟨w.heap.size,3,none⟩=some (.slice dA u.length dc):=(by rw[crw O];rfl);go_simp)⟩) ((show W.drew.heap[w.heap.size]? =_ from k.o)) ?_;go_simp;refine rd1 1 λK l=> ?_;go_simp;have m:Below w.heap.size w W.drew:=M.o.trans ((show Below W.heap.size W W.drew from⟨rfl,rfl,rfl,aa _,λ_ _=>rfl⟩).mono M.o.size);refine(J.o W.drew m).mono ?_;rintro e Y ⟨Z,c1,rfl,D,Q,o⟩;have p:=hid ((o.block w.heap.size N).trans (show W.drew.heap[w.heap.size]? =_ from k.o));have E:=hid (m.trans (o.mono m.size));have R:=hid D;clear o D;go_simp;refine l.out _ _ (p.o) (λ_=> ?_);clear l K;refine rd1 4 λK l=> ?_;go_simp;refine(L.o Y Z c1 E.o R.o Q).mono ?_;rintro e w2 ⟨rfl,rfl⟩;go_simp;refine l.out _ _ (p.o) (λ_=> ?_);clear l K;refine tk 5 (.bool s) p.o ?_;go_simp;refine bp (by kernel_rfl) ?_ _;go_simp;go_wp2;go_ret;exact⟨rfl,E.o⟩
theorem any_at {l:List (Grp×GrX)} {f:Grp->Bool} {k:Nat} (a:k<l.length) (h:f (l.getD k gp0).1=true):(l.map Prod.fst).any f=true:=by
 rw[eQ];refine⟨_,bN.2 ⟨l.getD k gp0,?_,rfl⟩,h⟩;rw[ae,aw a];exact ch a
theorem any_none {l:List (Grp×GrX)} {f:Grp->Bool} (h:∀k,k<l.length->f (l.getD k gp0).1=false):(l.map Prod.fst).any f=false:=by
 rw[List.any_eq_false];intro x b e;obtain⟨p,c,rfl⟩:=bN.1 b;obtain⟨k,a,rfl⟩:=List.getElem_of_mem c;have:=h k a;rw[ae,aw a] at this;exact absurd e (by simp only[Option.getD_some] at this;rw[this];decide)
theorem rbstale_any {B P:Nat} {S:Nat->Prop} {b:Bx} {X:RbX} {w:World} (h:RbIn B P S b.done b.wait X w) (ho:RbOk b) (g:Grp) (x:GrX):
    Calls Tryz.prog 67 #[.pointer (some ⟨P,0,none⟩),.agg (grA g x.dA x.dc x.oA x.oc)] w λe w'=>e= .returned (.bool (knownB b g))∧Below w.heap.size w w':=by
  obtain⟨⟨t,r⟩,n,u,⟨A,C⟩,l⟩:=g;obtain⟨dA,dc,oA,oc⟩:=x;obtain⟨O,Y⟩:∃z,z=knownB b ⟨⟨t,r⟩,n,u,⟨A,C⟩,l⟩:=⟨_,rfl⟩;rw[<-Y];obtain⟨ac,Z⟩:∃z,z=oldB b.v ⟨⟨t,r⟩,n,u,⟨A,C⟩,l⟩:=⟨_,rfl⟩;obtain⟨z,hz⟩:∃z,z=atV b.v r:=⟨_,rfl⟩;have q1:decide (n<=z)=ac:=by rw[Z,hz];rfl
  have N:=hid (show O=((X.L.map Prod.fst).any (λd=>d.s.eqb ⟨t,r⟩) || ac || (X.M.map Prod.fst).any (λa=>fU a ⟨⟨t,r⟩,n,u,⟨A,C⟩,l⟩)) by rw[Y,Z,h.dl,h.wl];rfl);have ad:Below w.heap.size w (w.alloc (.cells #[t,r,n,.slice dA u.length dc,A,C,.slice oA l.length oc] 45)):=(ag _ _).alloc (aa _) _;have ak:∀W,Below w.heap.size w W->Calls Tryz.prog 35 #[.pointer (some ⟨P,0,none⟩)] W λe w'=>∃A' c',e= .returned (.slice A' b.v.length c')∧VecS w' (λ_=>True) A' b.v∧b.v.length<=16∧Below W.heap.size W w':=λW hB=>rbvec_any (h.below hB) ho;have al:∀W A' c',VecS W (λ_=>True) A' b.v->b.v.length<=16->Calls Tryz.prog 55 #[.slice A' b.v.length c',r] W λe w'=>e= .returned (.int .i64 z)∧w'=W:=λW A' c' hv hl=>by
    rw[hz];exact eT A' c' b.v r W (by omega) hv.vec
  have am:=hid ak;have ao:=hid al;have m:=hid (an w (.cells #[t,r,n,.slice dA u.length dc,A,C,.slice oA l.length oc] 45));have HX:=hid (h.below ad);have HB:=hid ad;obtain⟨aC,aD,ap⟩:=bU h.done;obtain⟨aE,aF,ar⟩:=bU h.wait;have au:=hid ap;have av:=hid ar;have aO:X.L.length<=100000:=by have:=ho.len;have:=h.dlen;omega
  have aP:X.M.length<=100000:=by have:=ho.len;have:=h.wlen;omega
  show Calls _ _ #[.pointer (some ⟨P,0,none⟩),.agg #[t,r,n,.slice dA u.length dc,A,C,.slice oA l.length oc]] _ _;clear ak al h ho Y Z ad hz ap ar;cases ac with
  | true=>
    obtain rfl:O=true:=by rw[N.o];simp
    go_enter Tryz.func67,Tryz.ntmps67;go_upto_region 1 with fail;generalize hW:w.alloc (.cells #[t,r,n,.slice dA u.length dc,A,C,.slice oA l.length oc] 45)=W at *;clear hW;have ae:w.heap.size<W.heap.size:=lt_of_block m.o;refine aY (S:=λw'=>w'.heap[w.heap.size]? =some (.cells #[t,r,n,.slice dA u.length dc,A,C,.slice oA l.length oc] 45 (0,0))) (by kernel_rfl) ?_
    try(change wpAnyH _ _ _ _ _ _ _ _ (World.drew _))
    refine tk 0 (.pointer (some ⟨w.heap.size,2,none⟩)) ((show W.drew.heap[w.heap.size]? =_ from m.o)) ?_;go_simp;refine tk2 1 (.int .i64 n) rfl (Or.inl ⟨by rfl,λW' D=>by(have c_:W'.cell? ⟨w.heap.size,2,none⟩=some (.int .i64 n):=(by rw[crw D];rfl);go_simp)⟩) ((show W.drew.heap[w.heap.size]? =_ from m.o)) ?_;go_simp;refine tk 2 (.pointer (some ⟨P,0,none⟩)) ((show W.drew.heap[w.heap.size]? =_ from m.o)) ?_;go_simp;refine tk 4 (.pointer (some ⟨w.heap.size,0,none⟩)) ((show W.drew.heap[w.heap.size]? =_ from m.o)) ?_;go_simp;refine tk 5 (.pointer (some ⟨w.heap.size,1,none⟩)) ((show W.drew.heap[w.heap.size]? =_ from m.o)) ?_;go_simp;refine tk2 6 (.int .i64 r) rfl (Or.inl ⟨by rfl,λW' D=>by(have c_:W'.cell? ⟨w.heap.size,1,none⟩=some (.int .i64 r):=(by rw[crw D];rfl);go_simp)⟩) ((show W.drew.heap[w.heap.size]? =_ from m.o)) ?_;go_simp;refine rd1 3 λK E=> ?_;go_simp;have F:Below W.heap.size W W.drew:=⟨rfl,rfl,rfl,aa _,λ_ _=>rfl⟩;refine(am.o W.drew (HB.o.trans (F.mono HB.o.size))).mono ?_;rintro e w1 ⟨A1,c1,rfl,Q,af,R⟩;have J:=hid (F.trans R);have s:=hid ((J.o.block w.heap.size ae).trans m.o);have ab:=bT HB J.o;have ah:=hid Q;clear R Q F;go_simp;refine E.out _ _ (s.o) (λ_=> ?_);clear E K;refine rd1 7 λK E=> ?_;go_simp;refine(ao.o w1 A1 c1 ah.o af).mono ?_;rintro e w2 ⟨rfl,G⟩;replace G:=G.symm;subst G;go_simp;refine E.out _ _ (s.o) (λ_=> ?_);clear E K
    refine tk 8 (.bool true) (s.o) ?_;go_simp;refine bp (by kernel_rfl) ?_ _;go_simp;go_wp2;go_ret;exact⟨rfl,ab.o⟩
  | false =>
    go_enter Tryz.func67,Tryz.ntmps67;go_upto_region 1 with fail;generalize hW:w.alloc (.cells #[t,r,n,.slice dA u.length dc,A,C,.slice oA l.length oc] 45)=W at *;clear hW;have ae:w.heap.size<W.heap.size:=lt_of_block m.o;refine aY (S:=λw'=>w'.heap[w.heap.size]? =some (.cells #[t,r,n,.slice dA u.length dc,A,C,.slice oA l.length oc] 45 (0,0))) (by kernel_rfl) ?_
    try(change wpAnyH _ _ _ _ _ _ _ _ (World.drew _))
    refine tk 0 (.pointer (some ⟨w.heap.size,2,none⟩)) ((show W.drew.heap[w.heap.size]? =_ from m.o)) ?_;go_simp;refine tk2 1 (.int .i64 n) rfl (Or.inl ⟨by rfl,λW' D=>by(have c_:W'.cell? ⟨w.heap.size,2,none⟩=some (.int .i64 n):=(by rw[crw D];rfl);go_simp)⟩) ((show W.drew.heap[w.heap.size]? =_ from m.o)) ?_;go_simp;refine tk 2 (.pointer (some ⟨P,0,none⟩)) ((show W.drew.heap[w.heap.size]? =_ from m.o)) ?_;go_simp;refine tk 4 (.pointer (some ⟨w.heap.size,0,none⟩)) ((show W.drew.heap[w.heap.size]? =_ from m.o)) ?_;go_simp;refine tk 5 (.pointer (some ⟨w.heap.size,1,none⟩)) ((show W.drew.heap[w.heap.size]? =_ from m.o)) ?_;go_simp;refine tk2 6 (.int .i64 r) rfl (Or.inl ⟨by rfl,λW' D=>by(have c_:W'.cell? ⟨w.heap.size,1,none⟩=some (.int .i64 r):=(by rw[crw D];rfl);go_simp)⟩) ((show W.drew.heap[w.heap.size]? =_ from m.o)) ?_;go_simp;refine rd1 3 λK E=> ?_;go_simp;have F:Below W.heap.size W W.drew:=⟨rfl,rfl,rfl,aa _,λ_ _=>rfl⟩;refine(am.o W.drew (HB.o.trans (F.mono HB.o.size))).mono ?_;rintro e w1 ⟨A1,c1,rfl,Q,af,R⟩;have J:=hid (F.trans R);have s:=hid ((J.o.block w.heap.size ae).trans m.o);have ab:=bT HB J.o;have ah:=hid Q;clear R Q F;go_simp;refine E.out _ _ (s.o) (λ_=> ?_);clear E K;refine rd1 7 λK E=> ?_;go_simp;refine(ao.o w1 A1 c1 ah.o af).mono ?_;rintro e w2 ⟨rfl,G⟩;replace G:=G.symm;subst G;go_simp;refine E.out _ _ (s.o) (λ_=> ?_);clear E K
    refine tk 8 (.bool false) (s.o) ?_;go_simp;refine bp (by kernel_rfl) ?_ _;go_simp;go_upto_region 4 with(fail);have aw:=hid ((HX.o.below J.o));go_loopw [5] (λi wr=>∃k:Nat,i= .int .i64 k∧k<=X.M.length∧Hid (Below w1.heap.size w1 wr)∧Hid (∀j,j<k->fU (X.M.getD j gp0).1 ⟨⟨t,r⟩,n,u,⟨A,C⟩,l⟩=false)) (λi _=>X.M.length-(RowKit.intOf i).toNat)
    case atStart=>exact⟨0,rfl,aq _,hid (ag _ _),hid (λj hj=>absurd hj (da j))⟩
    case round=>
      obtain⟨k,rfl,hk,o,HK⟩:=hrel;have L:=hid (aw.o.below o.o);have H:=bT ab o.o;have I:=bK o.o s;have p1:wr.cell? ⟨P,1,none⟩=some (.slice aE X.M.length aF):=by rw[L.o.cell,av.o];rfl
      by_cases T:k<X.M.length
      · have i0 : (0:Int)<=(k:Int):=by omega
        have i1:(k:Int)<(X.M.length:Int):=by omega
        have q:=L.o.wait;rw[av.o] at q;obtain⟨rb,ro,ai,aG,c⟩:=RowGr.range (RowGr.own q) T;subst ai;obtain⟨cl,y⟩:∃z,z=fU (X.M.getD k gp0).1 ⟨⟨t,r⟩,n,u,⟨A,C⟩,l⟩:=⟨_,rfl⟩;have U:=hid y;generalize X.M.getD k gp0=p at y c;obtain⟨⟨⟨t2,V⟩,n2,dv,⟨aH,aI⟩,ay⟩,⟨aJ,aK,aL,aM⟩⟩:=p;obtain⟨b1,h1⟩:∃b,b=decide (V=r):=⟨_,rfl⟩;obtain⟨b2,h2⟩:∃b,b=decide (n2=n):=⟨_,rfl⟩;obtain⟨b3,h3⟩:∃b,Gst.eqb ⟨t2,V⟩ ⟨t,r⟩=b:=⟨_,rfl⟩;have k1:(V == r)=b1:=by rw[h1];rfl
        have k2:(n2 == n)=b2:=by rw[h2];rfl
        have k3:=eq_st t2 V t r b3 h3;have ax:=hid (show cl=((b1 && b2) || b3) by rw[y,h1,h2,<-h3];rfl);have x0:=rg0 I.o;have x1:=rg1 I.o;have x2:=rg2 I.o;have y0:=aj (w:=wr) (a:=⟨rb,ro+k*7,none⟩) (v:= .int .i64 t2) (c 0 _ rfl);have y1:=aj (w:=wr) (a:=⟨rb,ro+k*7+1,none⟩) (v:= .int .i64 V) (c 1 _ rfl);have y2:=aj (w:=wr) (a:=⟨rb,ro+k*7+2,none⟩) (v:= .int .i64 n2) (c 2 _ rfl);have yp:=aj p1;have aQ:X.M.length<=9223372036854775807:=by omega
        clear h1 h2 h3 y c q;cases b1
        all_goals
          cases b2
          all_goals
            cases b3
            all_goals
              go_upto_region 6 with(fail);refine rqb ?_
              repeat(any_goals(first|go_big_quiet_step (fail)|quiet_step (fail)))
              refine qz λwq M=> ?_
              first
                | (obtain rfl:cl=true:=ax.o
                   obtain rfl:O=true:=by rw[N.o,any_at T U.o.symm];simp
                   go_wp2;go_ret
                   exact⟨rfl,H.o.trans (M.mono H.o.size)⟩)
                | (obtain rfl:cl=false:=ax.o
                   go_wp2;go_roundw;(case rel=>exact⟨k+1,by go_num,by omega,bT o M,hid (λj hj=>by by_cases e:j=k;(rw[e];exact U.o.symm);exact HK.o j (by omega))⟩)
                   (case measure=>(simp[RowKit.intOf];omega)))
      · obtain rfl:k=X.M.length:=by omega
        have i1:¬(X.M.length:Int)<(X.M.length:Int):=by omega
        have aN:=hid (any_none (f:=λa=>fU a ⟨⟨t,r⟩,n,u,⟨A,C⟩,l⟩) HK.o);have az:=L;have aA:=I;have aB:=H;clear aw s ab HK o;go_upto_region 9 with(fail);generalize wr=w2 at *;go_loopw [6] (λi wr=>∃k:Nat,i= .int .i64 k∧k<=X.L.length∧Hid (Below w2.heap.size w2 wr)∧Hid (∀j,j<k->(X.L.getD j gp0).1.s.eqb ⟨t,r⟩=false)) (λi _=>X.L.length-(RowKit.intOf i).toNat)
        case atStart=>exact⟨0,rfl,aq _,hid (ag _ _),hid (λj hj=>absurd hj (da j))⟩
        case round=>
          obtain⟨k,rfl,hk,o,HK⟩:=hrel;have L:=hid (az.o.below o.o);have H:=bT aB o.o;have I:=bK o.o aA;have p1:wr.cell? ⟨P,0,none⟩=some (.slice aC X.L.length aD):=by rw[L.o.cell,au.o];rfl
          by_cases T:k<X.L.length
          · have i0:(0:Int)<=(k:Int):=by omega
            have i1:(k:Int)<(X.L.length:Int):=by omega
            have q:=L.o.done;rw[au.o] at q;obtain⟨rb,ro,ai,aG,c⟩:=RowGr.range (RowGr.own q) T;subst ai;obtain⟨cl,y⟩:∃z,z=(X.L.getD k gp0).1.s.eqb ⟨t,r⟩:=⟨_,rfl⟩;have U:=hid y;generalize X.L.getD k gp0=p at y c;obtain⟨⟨⟨t2,V⟩,n2,dv,⟨aH,aI⟩,ay⟩,⟨aJ,aK,aL,aM⟩⟩:=p;have k3:=eq_st t2 V t r cl y.symm;have x0:=rg0 I.o;have x1:=rg1 I.o;have y0:=aj (w:=wr) (a:=⟨rb,ro+k*7,none⟩) (v:= .int .i64 t2) (c 0 _ rfl);have y1:=aj (w:=wr) (a:=⟨rb,ro+k*7+1,none⟩) (v:= .int .i64 V) (c 1 _ rfl);have yp:=aj p1;clear y c q;cases cl with
            | true=>
              obtain rfl:O=true:=by rw[N.o,any_at (f:=λd=>d.s.eqb ⟨t,r⟩) T U.o.symm];simp
              go_upto_region 11 with(fail);refine rqb ?_
              repeat(any_goals(first|go_big_quiet_step (fail)|quiet_step (fail)))
              refine qz λwq M=> ?_;go_wp2;go_ret;exact⟨rfl,H.o.trans (M.mono H.o.size)⟩
            | false=>
              go_upto_region 11 with(fail);refine rqb ?_
              repeat(any_goals(first|go_big_quiet_step (fail)|quiet_step (fail)))
              refine qz λwq M=> ?_;go_wp2;go_roundw
              case rel=>exact⟨k+1,by go_num,by omega,bT o M,hid (λj hj=>by by_cases e:j=k;(rw[e];exact U.o.symm);exact HK.o j (by omega))⟩
              case measure=>(simp[RowKit.intOf];omega)
          · obtain rfl:k=X.L.length:=by omega
            have i1:¬(X.L.length:Int)<(X.L.length:Int):=by omega
            obtain rfl:O=false:=by rw[N.o,aN.o,any_none (f:=λd=>d.s.eqb ⟨t,r⟩) HK.o];rfl
            go_wp2;go_ret;exact⟨rfl,H.o⟩
theorem rbnext_any {B P:Nat} {S:Nat->Prop} {b:Bx} {X:RbX} {w:World} (h:RbIn B P S b.done b.wait X w) (ho:RbOk b):
  Calls Tryz.prog 69 #[.pointer (some ⟨P,0,none⟩)] w λe w'=>e= .returned (.int .i64 (bestI (fy b.v b.wait b.wait.length)))∧Below w.heap.size w w':=by
 obtain⟨C,J⟩:∃m,m=b.wait.length:=⟨_,rfl⟩;rw[<-J];have am:C<=100000:=by have:=ho.len;omega
 obtain⟨wA,wc,K⟩:=bU h.wait;have L:X.M.length=C:=by rw[h.wlen,J]
 rw[L] at K;have ad:=hid J;have Q:=hid L;have ae:=hid K;have R:=hid (show RowGr w wA X.M from RowGr.own (c:=wc) (by have:=h.wait;rw[K,<-L] at this;exact this));have HX:=hid h;have HO:=hid ho;clear h ho J L K;go_enter Tryz.func69,Tryz.ntmps69;go_upto_region 3 with fail;go_loopw [3,4] (λc i wr=>∃(k:Nat) (z:Int),k<=C∧i= .int .i64 k∧c= .int .i64 z∧Hid (z=bestI (fy b.v b.wait k))∧Hid (Below w.heap.size w wr)) (λc i _=>C-(RowKit.intOf i).toNat)
 case atStart=>exact⟨0,-1,by omega,rfl,rfl,hid rfl,hid (ag _ _)⟩
 case round=>
  obtain⟨k,z,hk,rfl,rfl,Y,l⟩:=hrel;have F:=hid (HX.o.below l.o);have p1:wr.cell? ⟨P,1,none⟩=some (.slice wA C wc):=by rw[F.o.cell,ae.o];rfl
  by_cases T:k<C
  ·obtain⟨D,E,rfl,ap,f⟩:=RowGr.range (RowGr.below R.o l.o) (k:=k) (by rw[Q.o];exact T);have i1:(0:Int)<=(k:Int):=by omega
   have i2:(k:Int)<(C:Int):=by omega
   obtain⟨p,Z⟩:∃p,p=X.M.getD k gp0:=⟨_,rfl⟩;have af:=hid (show GrG wr S p by rw[Z];exact F.o.good _ (aD.2 (.inr (getD_memP (by rw[Q.o];exact T)))));have aa:=hid (show p.1=b.wait.getD k gz by rw[Z];exact kp _ _ F.o.wl k);have ab:=hid (show p.1.deps.length<=1000 from chk_dl (HO.o.ok.chk _ (by rw[aa.o];exact aD.2 (.inr (gC (by rw[<-ad.o];exact T))))));rw[<-Z] at f;clear Z;obtain⟨N,x⟩:=p;obtain⟨M,H⟩:∃z,z=gM b.v N:=⟨_,rfl⟩;have U:=hid (show ∀W,Below wr.heap.size wr W->Calls Tryz.prog 68 #[.pointer (some ⟨P,0,none⟩),.agg (grA N x.dA x.dc x.oA x.oc)] W λe w'=>e= .returned (.bool M)∧Below W.heap.size W w' from λW hB=>by rw[H];exact rbready_any (F.o.below hB) HO.o N x (af.o.agr (Agr.below hB)) ab.o);have s:=hid (show fy b.v b.wait (k+1)=if M && behB b.wait N (fy b.v b.wait k) then some k else fy b.v b.wait k by rw[H,show N=b.wait.getD k gz from aa.o];rfl);clear H ab;obtain⟨⟨t,r⟩,n,u,⟨ut,ur⟩,V⟩:=N;obtain⟨dA,dc,oA,oc⟩:=x;have ac:Hid (∀W,Below wr.heap.size wr W->Calls Tryz.prog 68 #[.pointer (some ⟨P,0,none⟩),.agg #[t,r,n,.slice dA u.length dc,ut,ur,.slice oA V.length oc]] W λe w'=>e= .returned (.bool M)∧Below W.heap.size W w'):=U;have x0:=aj (w:=wr) (a:=⟨D,E+k*7,none⟩) (v:= .int .i64 t) (f 0 _ rfl);have x1:=aj (w:=wr) (a:=⟨D,E+k*7+1,none⟩) (v:= .int .i64 r) (f 1 _ rfl)
   have x2:=aj (w:=wr) (a:=⟨D,E+k*7+2,none⟩) (v:= .int .i64 n) (f 2 _ rfl);have x3:=aj (w:=wr) (a:=⟨D,E+k*7+3,none⟩) (v:= .slice dA u.length dc) (f 3 _ rfl);have x4:=aj (w:=wr) (a:=⟨D,E+k*7+4,none⟩) (v:= .int .i64 ut) (f 4 _ rfl);have x5:=aj (w:=wr) (a:=⟨D,E+k*7+5,none⟩) (v:= .int .i64 ur) (f 5 _ rfl);have x6:=aj (w:=wr) (a:=⟨D,E+k*7+6,none⟩) (v:= .slice oA V.length oc) (f 6 _ rfl);have pp:=aj p1;have G:=λd O=>ak (ac.o (grow (redrawn wr d) O) (bL wr d O));clear f U;cases M with
   |false=>
    go_upto_region 5 with fail;refine rqb ?_
    repeat(any_goals(first|go_big_quiet_step (with_reducible exact G _ _)|quiet_step (with_reducible exact G _ _)))
    refine qz λwq o=> ?_;go_wp2;go_roundw
    case rel=>exact⟨k+1,z,by omega,by go_num,rfl,hid (by rw[s.o];simpa using Y.o),bT l o⟩
    case measure=>(simp[RowKit.intOf];omega)
   | true=>
    cases A:fy b.v b.wait k with
    |none=>
     obtain rfl:z= -1:=by rw[Y.o,A];rfl
     rw[A] at s;go_upto_region 5 with fail;refine rqb ?_
     repeat(any_goals(first|go_big_quiet_step (with_reducible exact G _ _)|quiet_step (with_reducible exact G _ _)))
     refine qz λwq o=> ?_;go_wp2;go_roundw
     case rel=>exact⟨k+1,(k:Int),by omega,by go_num,rfl,hid (by rw[s.o];simp[behB,bestI]),bT l o⟩
     case measure=>(simp[RowKit.intOf];omega)
    | some j=>
     obtain rfl:z=(j:Int):=by rw[Y.o,A];rfl
     rw[A] at s;have aq:=(ii A).1;obtain⟨ar,au,ah,an,g⟩:=RowGr.range (RowGr.below R.o l.o) (k:=j) (by rw[Q.o];omega);cases ah;obtain⟨q,hq⟩:∃q,q=X.M.getD j gp0:=⟨_,rfl⟩;have ai:=hid (show q.1=b.wait.getD j gz by rw[hq];exact kp _ _ F.o.wl j);rw[<-hq] at g;clear hq A;obtain⟨gb,y⟩:=q;obtain⟨⟨t2,r2⟩,n2,u2,⟨av,aw⟩,ao⟩:=gb;obtain⟨ax,ay,az,aA⟩:=y;have y0:=aj (w:=wr) (a:=⟨D,E+j*7,none⟩) (v:= .int .i64 t2) (g 0 _ rfl);have y1:=aj (w:=wr) (a:=⟨D,E+j*7+1,none⟩) (v:= .int .i64 r2) (g 1 _ rfl);have i3:(0:Int)<=(j:Int):=by omega
     have i4:(j:Int)<(C:Int):=by omega
     have i5:¬(j:Int)<0:=by omega
     have i6:decide ((j:Int)<0)=false:=aC i5;obtain⟨lt,I⟩:∃z,z=(⟨t,r⟩:Gst).lt ⟨t2,r2⟩:=⟨_,rfl⟩;have cC:=λd O=>ak (show Calls Tryz.prog 103 #[.agg #[t,r],.agg #[t2,r2]] (grow (redrawn wr d) O) λe w'=>e= .returned (.bool lt)∧Below (grow (redrawn wr d) O).heap.size (grow (redrawn wr d) O) w' by rw[I];exact eV t r t2 r2 _);have HY:=hid (show behB b.wait ⟨⟨t,r⟩,n,u,⟨ut,ur⟩,V⟩ (some j)=lt by rw[I];show(⟨t,r⟩:Gst).lt (b.wait.getD j gz).s=_;rw[<-ai.o]);clear I g;cases lt with
     |true=>
      go_upto_region 5 with fail;refine rqb ?_
      repeat(any_goals(first|go_big_quiet_step (with_reducible first|exact G _ _|exact cC _ _)|quiet_step (with_reducible first|exact G _ _|exact cC _ _)))
      refine qz λwq o=> ?_;go_wp2;go_roundw
      case rel=>exact⟨k+1,(k:Int),by omega,by go_num,rfl,hid (by rw[s.o];rw[HY.o];rfl),bT l o⟩
      case measure=>(simp[RowKit.intOf];omega)
     |false=>
      go_upto_region 5 with fail;refine rqb ?_
      repeat(any_goals(first|go_big_quiet_step (with_reducible first|exact G _ _|exact cC _ _)|quiet_step (with_reducible first|exact G _ _|exact cC _ _)))
      refine qz λwq o=> ?_;go_wp2;go_roundw
      case rel=>exact⟨k+1,(j:Int),by omega,by go_num,rfl,hid (by rw[s.o];rw[HY.o];rfl),bT l o⟩
      case measure=>(simp[RowKit.intOf];omega)
  ·obtain rfl:k=C:=by omega
   have i2:¬(k:Int)<(k:Int):=by omega
   have aB:decide ((k:Int)<(k:Int))=false:=aC i2;have al:=hid (show Value.int .i64 z= .int .i64 (bestI (fy b.v b.wait k)) by rw[Y.o]);go_wp2;go_ret;exact⟨congrArg Ending.returned al.o,l.o⟩
end
end Go.Proofs.YtkhmicndehlneaaGreatDoor
