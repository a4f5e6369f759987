/- Part 14 of the walks and plain laws that this claim uses, joined. Conditions: as each theorem states. -/
import Derived.Test.YtkhmicndehlneaaGreatDoorYbm
namespace Go.Proofs.YtkhmicndehlneaaGreatDoor
set_option maxRecDepth 100000
set_option maxHeartbeats 16000000
set_option linter.unusedVariables false
section
open Go.RowKit Go.Lib Go.Sort
attribute [local go_sem ↓] Go.wp_at_zero Go.wp_at_succ
theorem reffind_none (L:List (Grp×GrX)) (A:Option Addr) (c:Nat) (x:Gst) (w:World) (hl:L.length<=1000000) (hR:RowGr w A L) (hn:∀p∈L,p.1.s.eqb x=false):
  Calls Tryz.prog 165 #[.slice A L.length c,.agg #[.int .i64 x.t,.int .i64 x.r]] w λe w'=>e= .returned (.int .i64 (-1))∧Below w.heap.size w w':=by
 obtain⟨d,f⟩:=x;have j:Below w.heap.size w (w.alloc (.cells #[d,f] 42)):=(ag _ _).alloc (aa _) _;have E:=hid (am w (.cells #[d,f] 42));have l:(w.alloc (.cells #[d,f] 42)).heap.size=w.heap.size+1:=by simp
 have F:=hid l;have G:=hid j;have H:=hid hR;have I:=hid hn;clear j hR hn l;show Calls _ _ #[.slice A L.length c,.agg #[d,f]] _ _;go_enter Tryz.func165,Tryz.ntmps165;go_upto_region 2 with(fail);generalize u:w.alloc (.cells #[d,f] 42)=y at *;clear u;go_loopw [5] (λi wr=>∃k:Nat,i= .int .i64 k∧k<=L.length∧Hid (Below y.heap.size y wr)) (λi _=>L.length-(RowKit.intOf i).toNat)
 case atStart=>exact⟨0,rfl,aq _,hid (ag _ _)⟩
 case round=>
  obtain⟨k,rfl,N,g⟩:=hrel;have m:=bT G g.out;by_cases h:k<L.length
  ·obtain⟨z,B,rfl,K,b⟩:=RowGr.range (RowGr.below H.out m.out) h;have O:(0:Int)<=(k:Int):=by omega
   have J:(k:Int)<(L.length:Int):=by omega
   have C:L.getD k gp0∈L:=by rw[ae,an h];exact bU h
   have o:=I.out _ C;generalize L.getD k gp0=p at *;obtain⟨⟨⟨t,r⟩,n,P,⟨Q,R⟩,M⟩,⟨S,T,U,V⟩⟩:=p;have W:=eq_st t r d f false o;have q:=hid ((g.out.block w.heap.size (by rw[F.out];omega)).trans E.out);have X:=rg0 q.out;have Y:=rg1 q.out;have Z:=aj (w:=wr) (a:=⟨z,B+k*7,none⟩) (v:= .int .i64 t) (b 0 _ rfl);have y1:=aj (w:=wr) (a:=⟨z,B+k*7+1,none⟩) (v:= .int .i64 r) (b 1 _ rfl);clear o C b;go_upto_region 4 with(fail);refine rqb ?_
   repeat(any_goals(first|go_big_quiet_step (fail)|quiet_step (fail)))
   refine qz λwq D=> ?_;go_wp2;go_roundw
   case rel=>exact⟨k+1,by go_num,by omega,bT g D⟩
   case measure=>(simp[RowKit.intOf];omega)
  ·obtain rfl:k=L.length:=by omega
   have J:¬(L.length:Int)<(L.length:Int):=by omega
   go_wp2;go_ret;exact⟨rfl,m.out⟩
theorem flat_take_succ {L:List (Grp×GrX)} {k:Nat} (h:k<L.length):(L.take (k+1)).flatMap grC_=(L.take k).flatMap grC_++grC_ (L.getD k gp0):=by
 rw[List.take_add_one,aI,an h,ae,an h];simp
theorem refrights_any (L:List (Grp×GrX)) (A:Option Addr) (c:Nat) (S:Nat->Prop) (w:World) (hl:L.length<=100000) (hR:RowGr w A L) (hG:∀p∈L,GrG w S p) (hT:∀p∈L,∀o∈p.1.ops,o.text.size<=1000000) (hck:∀p∈L,chkB p.1=true) (hnd:(L.map (·.1.s)).Nodup):
  Calls Tryz.prog 106 #[.slice A L.length c] w λe w'=>∃A' c',e= .returned (.slice A' L.length c')∧w'.ownsRow w.heap.size 45 7 (.slice A' L.length c') L.length (L.flatMap grC_)∧Below w.heap.size w w':=by
 obtain⟨i0,hi,ac,ad,af⟩:=bD ia;have HR:=hid hR;have HG:=hid hG;have HT:=hid hT;have ah:=hid hck;have ai:=hid hnd;clear hR hG hT hck hnd;go_enter Tryz.func106,Tryz.ntmps106;go_upto_region 3 with(fail);go_loopw [3,4] (λo i wr=>∃(k:Nat) (A':Option Addr) (c':Nat),k<=L.length∧i= .int .i64 k∧o= .slice A' k c'∧Hid (wr.ownsRow w.heap.size 45 7 (.slice A' k c') k ((L.take k).flatMap grC_))∧Hid (Below w.heap.size w wr)) (λo i _=>L.length-(RowKit.intOf i).toNat)
 case atStart=>exact⟨0,none,0,aq _,rfl,rfl,hid (aF _ _ _ _),hid (ag _ _)⟩
 case round=>
  obtain⟨k,A',c',hk,rfl,rfl,U,z⟩:=hrel;by_cases v:k<L.length
  ·obtain⟨d,g,rfl,av,f⟩:=RowGr.range (RowGr.below HR.out z.out) v;have aw:d<w.heap.size:=by obtain⟨b',o',e',-,aj,-⟩:=HR.out k v;cases e';exact aj
   have ax:(0:Int)<=(k:Int):=by omega
   have i1:(k:Int)<(L.length:Int):=by omega
   have ak:=z.out.size;have V:L.getD k gp0∈L:=by rw[ae,an v];exact bU v
   have G:GrG wr S (L.getD k gp0):=(HG.out _ V).agr (Agr.below z.out);have X:=HT.out _ V;have C:=ah.out _ V;have al:=hid (flat_take_succ v);have Y:∀q∈L.take k,q.1.s.eqb (L.getD k gp0).1.s=false:=λq hq=>by
    cases e:q.1.s.eqb (L.getD k gp0).1.s with
    |false=>rfl
    |true=>
     exfalso;rw[Gst.eqb_iff] at e;obtain⟨j,hj,rfl⟩:=List.getElem_of_mem hq;have am:j<k:=by rw[aP] at hj;omega
     rw[List.getElem_take] at e;rw[ae,an v] at e;have hp:=(iL.1 ai.out) j k (by rw[aQ];omega) (by rw[aQ];exact v) am;rw[List.getElem_map,List.getElem_map] at hp;exact hp e
   have Z:RowGr wr A' (L.take k):=by
    have H:(L.take k).length=k:=by rw[aP];omega
    have:=U.out;refine RowGr.own (c:=c') (B:=w.heap.size) (E:=45) ?_;rw[H];exact this
   have H:(L.take k).length=k:=by rw[aP];omega
   generalize L.getD k gp0=p at *;obtain⟨⟨⟨t,r⟩,n,J,⟨K,M⟩,ops⟩,⟨N,O,P,Q⟩⟩:=p;have C:chkB ⟨⟨t,r⟩,n,J,⟨K,M⟩,ops⟩=true:=C;have aa:=hid (vchk_any ⟨⟨t,r⟩,n,J,⟨K,M⟩,ops⟩ N O P Q S wr G (λ_=>X) C);rw[C,aJ rfl] at aa
   have ao:=hid (λW (hB:Below wr.heap.size wr W)=>show Calls Tryz.prog 165 #[.slice A' k c',.agg #[t,r]] W λe w'=>e= .returned (.int .i64 (-1))∧Below W.heap.size W w' from by
    have:=reffind_none (L.take k) A' c' ⟨t,r⟩ W (by omega) (RowGr.below Z hB) Y;rw[H] at this
    exact this)
   have y0:wr.cell? ⟨d,g+k*7,none⟩=some (.int .i64 t):=f 0 _ rfl;have y1:wr.cell? ⟨d,g+k*7+1,none⟩=some (.int .i64 r):=f 1 _ rfl;have y2:wr.cell? ⟨d,g+k*7+2,none⟩=some (.int .i64 n):=f 2 _ rfl;have y3:wr.cell? ⟨d,g+k*7+3,none⟩=some (.slice N J.length O):=f 3 _ rfl;have y4:wr.cell? ⟨d,g+k*7+4,none⟩=some (.int .i64 K):=f 4 _ rfl;have y5:wr.cell? ⟨d,g+k*7+5,none⟩=some (.int .i64 M):=f 5 _ rfl;have y6:wr.cell? ⟨d,g+k*7+6,none⟩=some (.slice P ops.length Q):=f 6 _ rfl;clear f G X C V Y Z H
   go_upto_region 6 with(first
    |(go_at_call 54;refine aa.out.mono ?_;rintro e l ⟨rfl,m⟩;have R:=hid m;have z0:=(aS (w:=wr) (w':=l) (a:=⟨d,g+k*7,none⟩) (m.block d (by omega))).trans y0;have z1:=(aS (w:=wr) (w':=l) (a:=⟨d,g+k*7+1,none⟩) (m.block d (by omega))).trans y1;have z2:=(aS (w:=wr) (w':=l) (a:=⟨d,g+k*7+2,none⟩) (m.block d (by omega))).trans y2;have z3:=(aS (w:=wr) (w':=l) (a:=⟨d,g+k*7+3,none⟩) (m.block d (by omega))).trans y3;have z4:=(aS (w:=wr) (w':=l) (a:=⟨d,g+k*7+4,none⟩) (m.block d (by omega))).trans y4;have z5:=(aS (w:=wr) (w':=l) (a:=⟨d,g+k*7+5,none⟩) (m.block d (by omega))).trans y5;have z6:=(aS (w:=wr) (w':=l) (a:=⟨d,g+k*7+6,none⟩) (m.block d (by omega))).trans y6;clear m)
    |(go_at_call 165;refine(ao.out l R.out).mono ?_;rintro e x ⟨rfl,u⟩;have T:=bT R u;have ay:=R.out.size;have v0:=(aS (w:=l) (w':=x) (a:=⟨d,g+k*7,none⟩) (u.block d (by omega))).trans z0;have v1:=(aS (w:=l) (w':=x) (a:=⟨d,g+k*7+1,none⟩) (u.block d (by omega))).trans z1;have v2:=(aS (w:=l) (w':=x) (a:=⟨d,g+k*7+2,none⟩) (u.block d (by omega))).trans z2;have v3:=(aS (w:=l) (w':=x) (a:=⟨d,g+k*7+3,none⟩) (u.block d (by omega))).trans z3;have v4:=(aS (w:=l) (w':=x) (a:=⟨d,g+k*7+4,none⟩) (u.block d (by omega))).trans z4;have v5:=(aS (w:=l) (w':=x) (a:=⟨d,g+k*7+5,none⟩) (u.block d (by omega))).trans z5;have v6:=(aS (w:=l) (w':=x) (a:=⟨d,g+k*7+6,none⟩) (u.block d (by omega))).trans z6;clear u))
   have az:=T.out.size;have ap:=kO U T.out;have D:=hid (z.out.trans (T.out.mono ak));clear y0 y1 y2 y3 y4 y5 y6 z0 z1 z2 z3 z4 z5 z6;go_wp2_with (at_builtin;refine bu _ rfl _ _ 25 rfl w.heap.size 45 i0 (.agg #[(0:Int),(0:Int),(0:Int),.slice none 0 0,(0:Int),(0:Int),.slice none 0 0]) 7 88 bV hi ac ad af rfl (by decide) _ _ _ rfl (by exact ap.out.alloc _) ⟨x.heap.size,0,none⟩ 1 1 [t,r,n,.slice N J.length O,K,M,.slice P ops.length Q] rfl rfl (λj y h=>dH x [t,r,n,.slice N J.length O,K,M,.slice P ops.length Q] 45 j y h) (iO (⟨⟨t,r⟩,n,J,⟨K,M⟩,ops⟩,⟨N,O,P,Q⟩)) (by unfold maxLen;omega) (by omega) (by simp;omega) ?_;intro v' w3 F I ab);obtain⟨A3,c3,rfl⟩:=bZ F;have ar:=hid (show w3.ownsRow w.heap.size 45 7 (.slice A3 (k+1) c3) (k+1) ((L.take (k+1)).flatMap grC_) by rw[al.out];exact F);have au:=hid ((D.out.alloc D.out.size _).grown I (by simp;have:=D.out.size;omega) (λb hb=>U.out.lt b hb |>.1));clear F I ab;go_roundw
   case rel=>exact⟨k+1,A3,c3,by omega,by go_num,rfl,ar,au⟩
   case measure=>(simp[RowKit.intOf];omega)
  ·obtain rfl:k=L.length:=by omega
   have i1:¬(L.length:Int)<(L.length:Int):=by omega
   go_wp2;go_ret;refine⟨A',c',rfl,?_,z.out⟩;have:=U.out;rw[aK] at this;exact this
theorem rvector_any (L:List (Grp×GrX)) (A:Option Addr) (c:Nat) (S:Nat->Prop) (w:World) (hl:L.length<=100000) (hR:RowGr w A L) (hG:∀p∈L,GrG w S p) (hT:∀p∈L,∀o∈p.1.ops,o.text.size<=1000000) (hck:∀p∈L,chkB p.1=true) (hnd:(L.map (·.1.s)).Nodup) (u:List Int) (hu:dM [] (L.map Prod.fst)=some u):
  Calls Tryz.prog 70 #[.slice A L.length c] w λe w'=>∃A' c',e= .returned (.slice A' u.length c')∧VecS w' (λ_=>True) A' u∧u.length<=16∧Below w.heap.size w w':=by
 have R:=hid (refrights_any L A c S w hl hR hG hT hck hnd);have T:=hid hu;have U:=hid hck;clear hR hG hT hck hnd hu;go_enter Tryz.func70,Tryz.ntmps70;go_upto_region 4 with(go_at_call 106;refine R.out.mono ?_;rintro e V ⟨A1,c1,rfl,m,B⟩;have X:=hid (RowGr.own m);have C:=hid B;clear m B);go_loopw [3,4] (λs i wr=>∃(k:Nat) (v:List Int) (g:Option Addr) (l:Nat),k<=L.length∧s= .slice g v.length l∧v.length<=16∧VecS wr (λ_=>True) g v∧Hid (dM [] ((L.map Prod.fst).take k)=some v)∧i= .int .i64 k∧Hid (Below V.heap.size V wr)) (λs i _=>L.length-(RowKit.intOf i).toNat)
 case atStart=>exact⟨0,[],none,0,by omega,rfl,by decide,RowG.zero,hid rfl,rfl,hid (ag _ _)⟩
 case round=>
  obtain⟨k,v,g,l,hk,rfl,H,I,Y,rfl,h⟩:=hrel;by_cases j:k<L.length
  ·have i0:(0:Int)<=(k:Int):=by omega
   have i1:(k:Int)<(L.length:Int):=by omega
   obtain⟨J,Z,rfl,ab,b⟩:=RowGr.range (RowGr.below X.out h.out) j;have ac:=h.out.size;have hm:L.getD k gp0∈L:=by rw[ae,an j];exact bU j
   have ad:=U.out _ hm;have D:=getD_fst' L k;obtain⟨f,K,M,k3,q,N⟩:=aheadV_take _ _ _ T.out k (by rw[aQ];exact j);obtain rfl:f=v:=by rw[Y.out] at K;exact(Option.some.inj K).symm
   rw[<-D] at M k3 q N;generalize L.getD k gp0=p at *;obtain⟨⟨⟨t,r⟩,n,dv,⟨ut,ur⟩,ops⟩,⟨dA,dc,oA,oc⟩⟩:=p;clear D hm K k3;obtain⟨E,c2,c3,-⟩:=eC M;have O:=right_r E;have af:1<=r:=O.1;have F:r<=16:=O.2;have aq:1<=n:=c2;have ar:n<=1099511627776:=c3;have q:atV f r=n-1:=q;have K5:=hid (show dM [] ((L.map Prod.fst).take (k+1))=some (eE f r n) from N);have G:=hid (λW (P:Below wr.heap.size wr W)=>fh g l f r W (by omega) (VecS.vec (RowG.agr I (Agr.below P))));have ah:=hid (λW (P:Below wr.heap.size wr W)=>refwith_any g l f r n W (by omega) af F (VecS.vec (RowG.agr I (Agr.below P))));rw[q] at G;have q1:max n (n-1)=n:=by omega
   have y1:=aj (b 1 _ rfl);have y2:=aj (b 2 _ rfl);have ai:=hid (show wr.cell? ⟨J,Z+k*7+1,none⟩=some (.int .i64 r) from b 1 _ rfl);clear M q N E c2 c3 O ad b;have Q:∀d z,Calls Tryz.prog 55 #[.slice g f.length l,r] (grow (redrawn wr d) z) λe ak=>e= .returned (.int .i64 (n-1))∧∃p:Regrown,ak=grow (redrawn wr p.d) p.os:=λd z=>ay ((G.out (grow (redrawn wr d) z) (bE wr d z)).mono (by rintro e w' ⟨rfl,rfl⟩;exact⟨rfl,ag _ _⟩));go_upto_region 6 with(fail);refine rqb ?_
   repeat(any_goals(first|go_big_quiet_step (with_reducible exact Q _ _)|quiet_step (with_reducible exact Q _ _)))
   refine qz λwq x=> ?_;have z1:=(aS (w:=wr) (w':=wq) (a:=⟨J,Z+k*7+1,none⟩) (x.block J ab)).trans ai.out;have y:=hid x;clear y1 y2 Q x;go_wp2_with (go_at_call 56;refine(ah.out wq y.out).mono ?_;rintro e w9 ⟨al,A9,c9,rfl,am,au,av⟩);have ao:=withV_len f r n H F;go_roundw
   case rel=>exact⟨k+1,eE f r n,A9,c9,by omega,rfl,ao,RowG.sub am (λ_ _ _=>trivial),K5,by go_num,hid (h.out.trans ((y.out.trans (al.mono y.out.size)).mono ac))⟩
   case measure=>(simp[RowKit.intOf];omega)
  ·obtain rfl:k=L.length:=by omega
   have i1:¬(L.length:Int)<(L.length:Int):=by omega
   have ap:v=u:=by
    have:=Y.out;rw[di (by rw[aQ];exact aa _),T.out] at this;exact(Option.some.inj this).symm
   subst ap;go_wp2;go_ret;exact⟨g,⟨l,rfl⟩,I,C.out.trans (h.out.mono C.out.size)⟩
end
section
open Go.RowKit Go.Lib Go.Sort
structure RbX where
 dv:Value
 wv:Value
 L:List (Grp×GrX)
 M:List (Grp×GrX)
def OwnR (P:Nat) (X:RbX) (k:Nat):Prop:=k=P∨X.dv.ownBlock=some k∨X.wv.ownBlock=some k
structure RbIn (B P:Nat) (S:Nat->Prop) (dn wt:List Grp) (X:RbX) (w:World):Prop where
 obj:w.heap[P]? =some (.cells #[X.dv,X.wv] 65 (0,0))
 done:w.ownsRow B 45 7 X.dv X.L.length (X.L.flatMap grC_)
 wait:w.ownsRow B 45 7 X.wv X.M.length (X.M.flatMap grC_)
 dl:X.L.map Prod.fst=dn
 wl:X.M.map Prod.fst=wt
 good:∀p∈X.L++X.M,GrG w S p
 hP:B<=P
 dP:X.dv.ownBlock≠some P
 wP:X.wv.ownBlock≠some P
 dw:∀g,X.dv.ownBlock=some g->X.wv.ownBlock≠some g
 sep:∀k,S k->k<w.heap.size∧¬OwnR P X k
structure RbTo (P:Nat) (X:RbX) (w:World) (X':RbX) (w':World):Prop where
 gr:GrB (OwnR P X) w w'
 own:∀k,OwnR P X' k->OwnR P X k∨w.heap.size<=k
section
variable {B P : Nat} {S : Nat → Prop} {dn wt : List Grp} {X X' X'' : RbX} {w w' w'' : World}
theorem RbTo.trans (h:RbTo P X w X' w') (k:RbTo P X' w' X'' w''):RbTo P X w X'' w'':=
 ⟨h.gr.trans k.gr λi hi e=>(h.own i e).resolve_right (by omega),λi hi=>by
  rcases k.own i hi with h1|h1
  ·exact h.own i h1
  ·exact .inr (aL h.gr.size h1)⟩
theorem RbTo.of_below (h:Below w.heap.size w w'):RbTo P X w X w':=⟨GrB.of_below h,λ_ h=> .inl h⟩
theorem RbIn.own_lt (h:RbIn B P S dn wt X w) {k:Nat} (hk:OwnR P X k):B<=k∧k<w.heap.size:=by
 rcases hk with rfl|hk|hk
 ·exact⟨h.hP,lt_of_block h.obj⟩
 ·exact h.done.lt k hk
 ·exact h.wait.lt k hk
theorem RbIn.below (h:RbIn B P S dn wt X w) (hb:Below w.heap.size w w'):RbIn B P S dn wt X w':=by
 have a:=dg (r:=none) hb;exact⟨(hb.block P (lt_of_block h.obj)).trans h.obj,h.done.kept a (cw _),h.wait.kept a (cw _),h.dl,h.wl,λp c=>(h.good p c).agr (Agr.below hb),h.hP,h.dP,h.wP,h.dw,λk b=>⟨bC (h.sep k b).1 hb.size,(h.sep k b).2⟩⟩
theorem RbIn.cell (h:RbIn B P S dn wt X w) (i:Nat):w.cell? ⟨P,i,none⟩=#[X.dv,X.wv][i]? :=aD _ _ _ _ _ _ h.obj
theorem RbIn.dlen (h:RbIn B P S dn wt X w):X.L.length=dn.length:=by rw[<-h.dl,aQ]
theorem RbIn.wlen (h:RbIn B P S dn wt X w):X.M.length=wt.length:=by rw[<-h.wl,aQ]
def NewAt (u u':Value) (n:Nat):Prop:=u'.ownBlock=u.ownBlock∨∀k,u'.ownBlock=some k->n<=k
theorem NewAt.ne {u u':Value} {n P:Nat} (hat:NewAt u u' n) (h:u.ownBlock≠some P) (hP:P<n):u'.ownBlock≠some P:=by
 rcases hat with e|e
 ·rw[e];exact h
 ·intro a;have:=e P a;omega
theorem RbIn.dset (h:RbIn B P S dn wt X w) {w1 w3:World} {dv':Value} {L':List (Grp×GrX)} (hb:Below w.heap.size w w1) (hg:w1.grownBy w3 X.dv.ownBlock) (hown:w3.ownsRow B 45 7 dv' L'.length (L'.flatMap grC_))
  (hat:NewAt X.dv dv' w.heap.size) (hgood:∀p∈L',GrG w S p):
  RbIn B P S (L'.map Prod.fst) wt { X with dv:=dv',L:=L' } (w3.setCell ⟨P,0,none⟩ dv')∧RbTo P X w { X with dv:=dv',L:=L' } (w3.setCell ⟨P,0,none⟩ dv'):=by
 have f:=lt_of_block h.obj;have m:=h.below hb;have v:=hb.size;have j:∀g,X.dv.ownBlock=some g->¬S g:=λg e j=>(h.sep g j).2 (.inr (.inl e));have n:¬S P:=λt=>(h.sep P t).2 (.inl rfl);have o:Agr S w (w3.setCell ⟨P,0,none⟩ dv'):=((Agr.below hb).trans (Agr.grown hg j)).trans (gY w3 P 0 dv' n);have i:GrB (OwnR P X) w (w3.setCell ⟨P,0,none⟩ dv'):=((GrB.of_below hb).grown hg (λg e _=> .inr (.inl e))).set P 0 dv' (λ_=> .inl rfl);have b:∀k,OwnR P { X with dv:=dv',L:=L' } k->OwnR P X k∨w.heap.size<=k:=λk l=>by
  rcases l with e|e|e
  ·exact .inl (.inl e)
  ·have e:dv'.ownBlock=some k:=e;rcases hat with a|a
   ·exact .inl (.inr (.inl (a.symm.trans e)))
   ·exact .inr (a k e)
  ·exact .inl (.inr (.inr e))
 refine⟨⟨gI (c:=#[X.dv,X.wv]) ((hg.block P (by omega) (λe=>h.dP e.symm)).trans m.obj) 0 dv' rfl,gJ hown (hat.ne h.dP f) 0 dv',gJ (m.wait.kept hg (kept_or h.dw)) h.wP 0 dv',rfl,h.wl,?_,h.hP,hat.ne h.dP f,h.wP,?_,?_⟩,⟨i,b⟩⟩
 ·intro q d;rcases au.1 d with d|d
  ·exact(hgood q d).agr o
  ·exact(h.good q (au.2 (.inr d))).agr o
 ·intro g e r;have e:dv'.ownBlock=some g:=e;rcases hat with a|a
  ·rw[a] at e;exact h.dw g e r
  ·have:=a g e;have:=(h.wait.lt g r).2;omega
 ·intro k l;have s:=h.sep k l;exact⟨bC s.1 i.size,λu=>(b k u).elim s.2 (by omega)⟩
theorem RbIn.wset (h:RbIn B P S dn wt X w) {w1 w3:World} {wv':Value} {M':List (Grp×GrX)} (hb:Below w.heap.size w w1) (hg:w1.grownBy w3 X.wv.ownBlock) (hown:w3.ownsRow B 45 7 wv' M'.length (M'.flatMap grC_))
  (hat:NewAt X.wv wv' w.heap.size) (hgood:∀p∈M',GrG w S p):
  RbIn B P S dn (M'.map Prod.fst) { X with wv:=wv',M:=M' } (w3.setCell ⟨P,1,none⟩ wv')∧RbTo P X w { X with wv:=wv',M:=M' } (w3.setCell ⟨P,1,none⟩ wv'):=by
 have i:=lt_of_block h.obj;have n:=h.below hb;have v:=hb.size;have l:∀g,X.wv.ownBlock=some g->¬S g:=λg e l=>(h.sep g l).2 (.inr (.inr e));have o:¬S P:=λt=>(h.sep P t).2 (.inl rfl);have r:Agr S w (w3.setCell ⟨P,1,none⟩ wv'):=((Agr.below hb).trans (Agr.grown hg l)).trans (gY w3 P 1 wv' o);have j:GrB (OwnR P X) w (w3.setCell ⟨P,1,none⟩ wv'):=((GrB.of_below hb).grown hg (λg e _=> .inr (.inr e))).set P 1 wv' (λ_=> .inl rfl);have d:∀k,OwnR P { X with wv:=wv',M:=M' } k->OwnR P X k∨w.heap.size<=k:=λk m=>by
  rcases m with e|e|e
  ·exact .inl (.inl e)
  ·exact .inl (.inr (.inl e))
  ·have e:wv'.ownBlock=some k:=e;rcases hat with a|a
   ·exact .inl (.inr (.inr (a.symm.trans e)))
   ·exact .inr (a k e)
 refine⟨⟨gI (c:=#[X.dv,X.wv]) ((hg.block P (by omega) (λe=>h.wP e.symm)).trans n.obj) 1 wv' rfl,gJ (n.done.kept hg (kept_or (λg e b=>h.dw g b e))) h.dP 1 wv',gJ hown (hat.ne h.wP i) 1 wv',h.dl,rfl,?_,h.hP,h.dP,hat.ne h.wP i,?_,?_⟩,⟨j,d⟩⟩
 ·intro q f;rcases au.1 f with f|f
  ·exact(h.good q (au.2 (.inl f))).agr r
  ·exact(hgood q f).agr r
 ·intro g e b;have b:wv'.ownBlock=some g:=b;rcases hat with a|a
  ·rw[a] at b;exact h.dw g e b
  ·have:=a g b;have:=(h.done.lt g e).2;omega
 ·intro k m;have s:=h.sep k m;exact⟨bC s.1 j.size,λu=>(d k u).elim s.2 (by omega)⟩
structure RbOk (b:Bx):Prop where
 ok:BxOk b
 txt:∀g∈b.done++b.wait,∀o∈g.ops,o.text.size<=1000000
 len:b.done.length+b.wait.length<=100000
end
theorem rbvec_any {B P:Nat} {S:Nat->Prop} {b:Bx} {X:RbX} {w:World} (h:RbIn B P S b.done b.wait X w) (ho:RbOk b):
  Calls Tryz.prog 35 #[.pointer (some ⟨P,0,none⟩)] w λe w'=>∃A' c',e= .returned (.slice A' b.v.length c')∧VecS w' (λ_=>True) A' b.v∧b.v.length<=16∧Below w.heap.size w w':=by
 obtain⟨g,i,c⟩:=bZ h.done;have d:=h.done;rw[c] at d;have j:=ho.len;have f:∀p∈X.L,p.1∈b.done:=λp a=>by rw[<-h.dl];exact bj.2 ⟨p,a,rfl⟩
 have k:=hid (rvector_any X.L g i S w (by rw[h.dlen];omega) (RowGr.own d) (λp a=>h.good p (au.2 (.inl a))) (λp a=>ho.txt p.1 (au.2 (.inl (f p a)))) (λp a=>ho.ok.chk p.1 (au.2 (.inl (f p a)))) (by
  have:=ho.ok.apart;rw[bq,dK] at this;have l:=this.1;rw[<-h.dl,List.map_map] at l
  exact l) b.v (by rw[h.dl];exact ho.ok.ahead))
 have s:w.cell? ⟨P,0,none⟩=some (.slice g X.L.length i):=by rw[h.cell,<-c];rfl
 obtain⟨n,m⟩:∃n,n=X.L.length:=⟨_,rfl⟩;rw[<-m] at k s;clear h d c ho f j m;go_enter Tryz.func35,Tryz.ntmps35;go_wp2_with (go_at_call 70;refine k.out.mono ?_;rintro e x ⟨t,u,rfl,o,q,r⟩);go_ret;exact⟨t,u,rfl,o,q,r⟩
end
section
open Go.RowKit Go.Lib Go.Sort
attribute [local go_sem ↓] Go.wp_at_zero Go.wp_at_succ
theorem rbready_any {B P:Nat} {S S2:Nat->Prop} {b:Bx} {X:RbX} {w:World} (h:RbIn B P S b.done b.wait X w) (ho:RbOk b) (g:Grp) (x:GrX) (hG:GrG w S2 (g,x)) (hdl:g.deps.length<=1000):
  Calls Tryz.prog 68 #[.pointer (some ⟨P,0,none⟩),.agg (grA g x.dA x.dc x.oA x.oc)] w λe w'=>e= .returned (.bool (fp b.v g))∧Below w.heap.size w w':=by
 obtain⟨⟨t,r⟩,n,u,⟨f,i⟩,a⟩:=g;obtain⟨dA,dc,oA,oc⟩:=x;obtain⟨q,c⟩:∃z,z=fp b.v ⟨⟨t,r⟩,n,u,⟨f,i⟩,a⟩:=⟨_,rfl⟩;rw[<-c];have s:Below w.heap.size w (w.alloc (.cells #[t,r,n,.slice dA u.length dc,f,i,.slice oA a.length oc] 45)):=(ag _ _).alloc (aa _) _;have F:u.length<=9223372036854775800:=by have Y:u.length<=1000:=hdl;omega
 have y:∀W,Below w.heap.size w W->Calls Tryz.prog 35 #[.pointer (some ⟨P,0,none⟩)] W λe w'=>∃d j,e= .returned (.slice d b.v.length j)∧VecS w' (λ_=>True) d b.v∧b.v.length<=16∧Below W.heap.size W w':=λW E=>rbvec_any (h.below E) ho;have A:∀W d j,Below w.heap.size w W->VecS W (λ_=>True) d b.v->b.v.length<=16->Calls Tryz.prog 38 #[.slice d b.v.length j,.slice dA u.length dc] W λe w'=>e= .returned (.bool q)∧w'=W:=λW d j E O Z=>by
  rw[c];exact refcovers_any d dA j dc b.v u W (by omega) F O.vec (VecS.vec (show VecS W S2 dA u from RowG.agr hG.deps (Agr.below E)))
 have G:=hid y;have H:=hid A;have k:=hid (am w (.cells #[t,r,n,.slice dA u.length dc,f,i,.slice oA a.length oc] 45));have I:=hid s;show Calls _ _ #[.pointer (some ⟨P,0,none⟩),.agg #[t,r,n,.slice dA u.length dc,f,i,.slice oA a.length oc]] _ _;clear y A hG h ho c hdl s;go_enter Tryz.func68,Tryz.ntmps68;go_upto_region 1 with fail;generalize Q:w.alloc (.cells #[t,r,n,.slice dA u.length dc,f,i,.slice oA a.length oc] 45)=W at *;clear Q;have J:w.heap.size<W.heap.size:=lt_of_block k.out;refine aR (S:=λw'=>w'.heap[w.heap.size]? =some (.cells #[t,r,n,.slice dA u.length dc,f,i,.slice oA a.length oc] 45 (0,0))) (by kernel_rfl) ?_
 try(change wpAnyH _ _ _ _ _ _ _ _ (World.drew _))
 refine tk 0 (.pointer (some ⟨P,0,none⟩)) ((show W.drew.heap[w.heap.size]? =_ from k.out)) ?_;go_simp;refine tk 2 (.pointer (some ⟨w.heap.size,3,none⟩)) ((show W.drew.heap[w.heap.size]? =_ from k.out)) ?_;go_simp;refine tk2 3 (.slice dA u.length dc) rfl (Or.inl ⟨by rfl,λR L=>by(have c_:R.cell? ⟨w.heap.size,3,none⟩=some (.slice dA u.length dc):=(by rw[crw L];rfl);go_simp)⟩) ((show W.drew.heap[w.heap.size]? =_ from k.out)) ?_;go_simp;refine rd1 1 λK l=> ?_;go_simp;have m:Below w.heap.size w W.drew:=I.out.trans ((show Below W.heap.size W W.drew from⟨rfl,rfl,rfl,aa _,λ_ _=>rfl⟩).mono I.out.size);refine(G.out W.drew m).mono ?_;rintro e T ⟨U,V,rfl,C,M,o⟩;have p:=hid ((o.block w.heap.size J).trans (show W.drew.heap[w.heap.size]? =_ from k.out));have D:=hid (m.trans (o.mono m.size));have N:=hid C;clear o C;go_simp;refine l.out _ _ (p.out) (λ_=> ?_);clear l K;refine rd1 4 λK l=> ?_;go_simp;refine(H.out T U V D.out N.out M).mono ?_;rintro e w2 ⟨rfl,rfl⟩;go_simp;refine l.out _ _ (p.out) (λ_=> ?_);clear l K;refine tk 5 (.bool q) p.out ?_;go_simp;refine be (by kernel_rfl) ?_ _;go_simp;go_wp2;go_ret;exact⟨rfl,D.out⟩
theorem any_at {l:List (Grp×GrX)} {f:Grp->Bool} {k:Nat} (hk:k<l.length) (h:f (l.getD k gp0).1=true):(l.map Prod.fst).any f=true:=by
 rw[dV];refine⟨_,bj.2 ⟨l.getD k gp0,?_,rfl⟩,h⟩;rw[ae,an hk];exact bU hk
theorem any_none {l:List (Grp×GrX)} {f:Grp->Bool} (h:∀k,k<l.length->f (l.getD k gp0).1=false):(l.map Prod.fst).any f=false:=by
 rw[List.any_eq_false];intro x b e;obtain⟨p,c,rfl⟩:=bj.1 b;obtain⟨k,a,rfl⟩:=List.getElem_of_mem c;have:=h k a;rw[ae,an a] at this;exact absurd e (by simp only[Option.getD_some] at this;rw[this];decide)
theorem rbstale_any {B P:Nat} {S:Nat->Prop} {b:Bx} {X:RbX} {w:World} (h:RbIn B P S b.done b.wait X w) (ho:RbOk b) (g:Grp) (x:GrX):
    Calls Tryz.prog 67 #[.pointer (some ⟨P,0,none⟩),.agg (grA g x.dA x.dc x.oA x.oc)] w λe w'=>e= .returned (.bool (iQ b g))∧Below w.heap.size w w':=by
  obtain⟨⟨t,r⟩,n,u,⟨A,C⟩,l⟩:=g;obtain⟨dA,dc,oA,oc⟩:=x;obtain⟨O,Y⟩:∃z,z=iQ b ⟨⟨t,r⟩,n,u,⟨A,C⟩,l⟩:=⟨_,rfl⟩;rw[<-Y];obtain⟨ac,Z⟩:∃z,z=oldB b.v ⟨⟨t,r⟩,n,u,⟨A,C⟩,l⟩:=⟨_,rfl⟩;obtain⟨z,hz⟩:∃z,z=atV b.v r:=⟨_,rfl⟩;have q1:decide (n<=z)=ac:=by rw[Z,hz];rfl
  have N:=hid (show O=((X.L.map Prod.fst).any (λd=>d.s.eqb ⟨t,r⟩) || ac || (X.M.map Prod.fst).any (λa=>fB a ⟨⟨t,r⟩,n,u,⟨A,C⟩,l⟩)) by rw[Y,Z,h.dl,h.wl];rfl);have ad:Below w.heap.size w (w.alloc (.cells #[t,r,n,.slice dA u.length dc,A,C,.slice oA l.length oc] 45)):=(ag _ _).alloc (aa _) _;have ak:∀W,Below w.heap.size w W->Calls Tryz.prog 35 #[.pointer (some ⟨P,0,none⟩)] W λe w'=>∃A' c',e= .returned (.slice A' b.v.length c')∧VecS w' (λ_=>True) A' b.v∧b.v.length<=16∧Below W.heap.size W w':=λW hB=>rbvec_any (h.below hB) ho;have al:∀W A' c',VecS W (λ_=>True) A' b.v->b.v.length<=16->Calls Tryz.prog 55 #[.slice A' b.v.length c',r] W λe w'=>e= .returned (.int .i64 z)∧w'=W:=λW A' c' hv hl=>by
    rw[hz];exact fh A' c' b.v r W (by omega) hv.vec
  have an:=hid ak;have ao:=hid al;have m:=hid (am w (.cells #[t,r,n,.slice dA u.length dc,A,C,.slice oA l.length oc] 45));have HX:=hid (h.below ad);have HB:=hid ad;obtain⟨aC,aD,ap⟩:=bZ h.done;obtain⟨aE,aF,ar⟩:=bZ h.wait;have au:=hid ap;have av:=hid ar;have aO:X.L.length<=100000:=by have:=ho.len;have:=h.dlen;omega
  have aP:X.M.length<=100000:=by have:=ho.len;have:=h.wlen;omega
  show Calls _ _ #[.pointer (some ⟨P,0,none⟩),.agg #[t,r,n,.slice dA u.length dc,A,C,.slice oA l.length oc]] _ _;clear ak al h ho Y Z ad hz ap ar;cases ac with
  | true=>
    obtain rfl:O=true:=by rw[N.out];simp
    go_enter Tryz.func67,Tryz.ntmps67;go_upto_region 1 with fail;generalize hW:w.alloc (.cells #[t,r,n,.slice dA u.length dc,A,C,.slice oA l.length oc] 45)=W at *;clear hW;have ae:w.heap.size<W.heap.size:=lt_of_block m.out;refine aR (S:=λw'=>w'.heap[w.heap.size]? =some (.cells #[t,r,n,.slice dA u.length dc,A,C,.slice oA l.length oc] 45 (0,0))) (by kernel_rfl) ?_
    try(change wpAnyH _ _ _ _ _ _ _ _ (World.drew _))
    refine tk 0 (.pointer (some ⟨w.heap.size,2,none⟩)) ((show W.drew.heap[w.heap.size]? =_ from m.out)) ?_;go_simp;refine tk2 1 (.int .i64 n) rfl (Or.inl ⟨by rfl,λW' D=>by(have c_:W'.cell? ⟨w.heap.size,2,none⟩=some (.int .i64 n):=(by rw[crw D];rfl);go_simp)⟩) ((show W.drew.heap[w.heap.size]? =_ from m.out)) ?_;go_simp;refine tk 2 (.pointer (some ⟨P,0,none⟩)) ((show W.drew.heap[w.heap.size]? =_ from m.out)) ?_;go_simp;refine tk 4 (.pointer (some ⟨w.heap.size,0,none⟩)) ((show W.drew.heap[w.heap.size]? =_ from m.out)) ?_;go_simp;refine tk 5 (.pointer (some ⟨w.heap.size,1,none⟩)) ((show W.drew.heap[w.heap.size]? =_ from m.out)) ?_;go_simp;refine tk2 6 (.int .i64 r) rfl (Or.inl ⟨by rfl,λW' D=>by(have c_:W'.cell? ⟨w.heap.size,1,none⟩=some (.int .i64 r):=(by rw[crw D];rfl);go_simp)⟩) ((show W.drew.heap[w.heap.size]? =_ from m.out)) ?_;go_simp;refine rd1 3 λK E=> ?_;go_simp;have F:Below W.heap.size W W.drew:=⟨rfl,rfl,rfl,aa _,λ_ _=>rfl⟩;refine(an.out W.drew (HB.out.trans (F.mono HB.out.size))).mono ?_;rintro e w1 ⟨A1,c1,rfl,Q,af,R⟩;have J:=hid (F.trans R);have s:=hid ((J.out.block w.heap.size ae).trans m.out);have ab:=bT HB J.out;have ah:=hid Q;clear R Q F;go_simp;refine E.out _ _ (s.out) (λ_=> ?_);clear E K;refine rd1 7 λK E=> ?_;go_simp;refine(ao.out w1 A1 c1 ah.out af).mono ?_;rintro e w2 ⟨rfl,G⟩;replace G:=G.symm;subst G;go_simp;refine E.out _ _ (s.out) (λ_=> ?_);clear E K
    refine tk 8 (.bool true) (s.out) ?_;go_simp;refine be (by kernel_rfl) ?_ _;go_simp;go_wp2;go_ret;exact⟨rfl,ab.out⟩
  | false =>
    go_enter Tryz.func67,Tryz.ntmps67;go_upto_region 1 with fail;generalize hW:w.alloc (.cells #[t,r,n,.slice dA u.length dc,A,C,.slice oA l.length oc] 45)=W at *;clear hW;have ae:w.heap.size<W.heap.size:=lt_of_block m.out;refine aR (S:=λw'=>w'.heap[w.heap.size]? =some (.cells #[t,r,n,.slice dA u.length dc,A,C,.slice oA l.length oc] 45 (0,0))) (by kernel_rfl) ?_
    try(change wpAnyH _ _ _ _ _ _ _ _ (World.drew _))
    refine tk 0 (.pointer (some ⟨w.heap.size,2,none⟩)) ((show W.drew.heap[w.heap.size]? =_ from m.out)) ?_;go_simp;refine tk2 1 (.int .i64 n) rfl (Or.inl ⟨by rfl,λW' D=>by(have c_:W'.cell? ⟨w.heap.size,2,none⟩=some (.int .i64 n):=(by rw[crw D];rfl);go_simp)⟩) ((show W.drew.heap[w.heap.size]? =_ from m.out)) ?_;go_simp;refine tk 2 (.pointer (some ⟨P,0,none⟩)) ((show W.drew.heap[w.heap.size]? =_ from m.out)) ?_;go_simp;refine tk 4 (.pointer (some ⟨w.heap.size,0,none⟩)) ((show W.drew.heap[w.heap.size]? =_ from m.out)) ?_;go_simp;refine tk 5 (.pointer (some ⟨w.heap.size,1,none⟩)) ((show W.drew.heap[w.heap.size]? =_ from m.out)) ?_;go_simp;refine tk2 6 (.int .i64 r) rfl (Or.inl ⟨by rfl,λW' D=>by(have c_:W'.cell? ⟨w.heap.size,1,none⟩=some (.int .i64 r):=(by rw[crw D];rfl);go_simp)⟩) ((show W.drew.heap[w.heap.size]? =_ from m.out)) ?_;go_simp;refine rd1 3 λK E=> ?_;go_simp;have F:Below W.heap.size W W.drew:=⟨rfl,rfl,rfl,aa _,λ_ _=>rfl⟩;refine(an.out W.drew (HB.out.trans (F.mono HB.out.size))).mono ?_;rintro e w1 ⟨A1,c1,rfl,Q,af,R⟩;have J:=hid (F.trans R);have s:=hid ((J.out.block w.heap.size ae).trans m.out);have ab:=bT HB J.out;have ah:=hid Q;clear R Q F;go_simp;refine E.out _ _ (s.out) (λ_=> ?_);clear E K;refine rd1 7 λK E=> ?_;go_simp;refine(ao.out w1 A1 c1 ah.out af).mono ?_;rintro e w2 ⟨rfl,G⟩;replace G:=G.symm;subst G;go_simp;refine E.out _ _ (s.out) (λ_=> ?_);clear E K
    refine tk 8 (.bool false) (s.out) ?_;go_simp;refine be (by kernel_rfl) ?_ _;go_simp;go_upto_region 4 with(fail);have aw:=hid ((HX.out.below J.out));go_loopw [5] (λi wr=>∃k:Nat,i= .int .i64 k∧k<=X.M.length∧Hid (Below w1.heap.size w1 wr)∧Hid (∀j,j<k->fB (X.M.getD j gp0).1 ⟨⟨t,r⟩,n,u,⟨A,C⟩,l⟩=false)) (λi _=>X.M.length-(RowKit.intOf i).toNat)
    case atStart=>exact⟨0,rfl,aq _,hid (ag _ _),hid (λj hj=>absurd hj (cG j))⟩
    case round=>
      obtain⟨k,rfl,hk,o,HK⟩:=hrel;have L:=hid (aw.out.below o.out);have H:=bT ab o.out;have I:=bK o.out s;have p1:wr.cell? ⟨P,1,none⟩=some (.slice aE X.M.length aF):=by rw[L.out.cell,av.out];rfl
      by_cases T:k<X.M.length
      · have i0 : (0:Int)<=(k:Int):=by omega
        have i1:(k:Int)<(X.M.length:Int):=by omega
        have q:=L.out.wait;rw[av.out] at q;obtain⟨rb,ro,ai,aG,c⟩:=RowGr.range (RowGr.own q) T;subst ai;obtain⟨cl,y⟩:∃z,z=fB (X.M.getD k gp0).1 ⟨⟨t,r⟩,n,u,⟨A,C⟩,l⟩:=⟨_,rfl⟩;have U:=hid y;generalize X.M.getD k gp0=p at y c;obtain⟨⟨⟨t2,V⟩,n2,dv,⟨aH,aI⟩,ay⟩,⟨aJ,aK,aL,aM⟩⟩:=p;obtain⟨b1,h1⟩:∃b,b=decide (V=r):=⟨_,rfl⟩;obtain⟨b2,h2⟩:∃b,b=decide (n2=n):=⟨_,rfl⟩;obtain⟨b3,h3⟩:∃b,Gst.eqb ⟨t2,V⟩ ⟨t,r⟩=b:=⟨_,rfl⟩;have k1:(V == r)=b1:=by rw[h1];rfl
        have k2:(n2 == n)=b2:=by rw[h2];rfl
        have k3:=eq_st t2 V t r b3 h3;have ax:=hid (show cl=((b1 && b2) || b3) by rw[y,h1,h2,<-h3];rfl);have x0:=rg0 I.out;have x1:=rg1 I.out;have x2:=rg2 I.out;have y0:=aj (w:=wr) (a:=⟨rb,ro+k*7,none⟩) (v:= .int .i64 t2) (c 0 _ rfl);have y1:=aj (w:=wr) (a:=⟨rb,ro+k*7+1,none⟩) (v:= .int .i64 V) (c 1 _ rfl);have y2:=aj (w:=wr) (a:=⟨rb,ro+k*7+2,none⟩) (v:= .int .i64 n2) (c 2 _ rfl);have yp:=aj p1;have aQ:X.M.length<=9223372036854775807:=by omega
        clear h1 h2 h3 y c q;cases b1
        all_goals
          cases b2
          all_goals
            cases b3
            all_goals
              go_upto_region 6 with(fail);refine rqb ?_
              repeat(any_goals(first|go_big_quiet_step (fail)|quiet_step (fail)))
              refine qz λwq M=> ?_
              first
                | (obtain rfl:cl=true:=ax.out
                   obtain rfl:O=true:=by rw[N.out,any_at T U.out.symm];simp
                   go_wp2;go_ret
                   exact⟨rfl,H.out.trans (M.mono H.out.size)⟩)
                | (obtain rfl:cl=false:=ax.out
                   go_wp2;go_roundw;(case rel=>exact⟨k+1,by go_num,by omega,bT o M,hid (λj hj=>by by_cases e:j=k;(rw[e];exact U.out.symm);exact HK.out j (by omega))⟩)
                   (case measure=>(simp[RowKit.intOf];omega)))
      · obtain rfl:k=X.M.length:=by omega
        have i1:¬(X.M.length:Int)<(X.M.length:Int):=by omega
        have aN:=hid (any_none (f:=λa=>fB a ⟨⟨t,r⟩,n,u,⟨A,C⟩,l⟩) HK.out);have az:=L;have aA:=I;have aB:=H;clear aw s ab HK o;go_upto_region 9 with(fail);generalize wr=w2 at *;go_loopw [6] (λi wr=>∃k:Nat,i= .int .i64 k∧k<=X.L.length∧Hid (Below w2.heap.size w2 wr)∧Hid (∀j,j<k->(X.L.getD j gp0).1.s.eqb ⟨t,r⟩=false)) (λi _=>X.L.length-(RowKit.intOf i).toNat)
        case atStart=>exact⟨0,rfl,aq _,hid (ag _ _),hid (λj hj=>absurd hj (cG j))⟩
        case round=>
          obtain⟨k,rfl,hk,o,HK⟩:=hrel;have L:=hid (az.out.below o.out);have H:=bT aB o.out;have I:=bK o.out aA;have p1:wr.cell? ⟨P,0,none⟩=some (.slice aC X.L.length aD):=by rw[L.out.cell,au.out];rfl
          by_cases T:k<X.L.length
          · have i0:(0:Int)<=(k:Int):=by omega
            have i1:(k:Int)<(X.L.length:Int):=by omega
            have q:=L.out.done;rw[au.out] at q;obtain⟨rb,ro,ai,aG,c⟩:=RowGr.range (RowGr.own q) T;subst ai;obtain⟨cl,y⟩:∃z,z=(X.L.getD k gp0).1.s.eqb ⟨t,r⟩:=⟨_,rfl⟩;have U:=hid y;generalize X.L.getD k gp0=p at y c;obtain⟨⟨⟨t2,V⟩,n2,dv,⟨aH,aI⟩,ay⟩,⟨aJ,aK,aL,aM⟩⟩:=p;have k3:=eq_st t2 V t r cl y.symm;have x0:=rg0 I.out;have x1:=rg1 I.out;have y0:=aj (w:=wr) (a:=⟨rb,ro+k*7,none⟩) (v:= .int .i64 t2) (c 0 _ rfl);have y1:=aj (w:=wr) (a:=⟨rb,ro+k*7+1,none⟩) (v:= .int .i64 V) (c 1 _ rfl);have yp:=aj p1;clear y c q;cases cl with
            | true=>
              obtain rfl:O=true:=by rw[N.out,any_at (f:=λd=>d.s.eqb ⟨t,r⟩) T U.out.symm];simp
              go_upto_region 11 with(fail);refine rqb ?_
              repeat(any_goals(first|go_big_quiet_step (fail)|quiet_step (fail)))
              refine qz λwq M=> ?_;go_wp2;go_ret;exact⟨rfl,H.out.trans (M.mono H.out.size)⟩
            | false=>
              go_upto_region 11 with(fail);refine rqb ?_
              repeat(any_goals(first|go_big_quiet_step (fail)|quiet_step (fail)))
              refine qz λwq M=> ?_;go_wp2;go_roundw
              case rel=>exact⟨k+1,by go_num,by omega,bT o M,hid (λj hj=>by by_cases e:j=k;(rw[e];exact U.out.symm);exact HK.out j (by omega))⟩
              case measure=>(simp[RowKit.intOf];omega)
          · obtain rfl:k=X.L.length:=by omega
            have i1:¬(X.L.length:Int)<(X.L.length:Int):=by omega
            obtain rfl:O=false:=by rw[N.out,aN.out,any_none (f:=λd=>d.s.eqb ⟨t,r⟩) HK.out];rfl
            go_wp2;go_ret;exact⟨rfl,H.out⟩
theorem rbnext_any {B P:Nat} {S:Nat->Prop} {b:Bx} {X:RbX} {w:World} (h:RbIn B P S b.done b.wait X w) (ho:RbOk b):
  Calls Tryz.prog 69 #[.pointer (some ⟨P,0,none⟩)] w λe w'=>e= .returned (.int .i64 (bestI (eU b.v b.wait b.wait.length)))∧Below w.heap.size w w':=by
 obtain⟨C,J⟩:∃m,m=b.wait.length:=⟨_,rfl⟩;rw[<-J];have al:C<=100000:=by have:=ho.len;omega
 obtain⟨wA,wc,K⟩:=bZ h.wait;have L:X.M.length=C:=by rw[h.wlen,J]
 rw[L] at K;have ad:=hid J;have Q:=hid L;have ae:=hid K;have R:=hid (show RowGr w wA X.M from RowGr.own (c:=wc) (by have:=h.wait;rw[K,<-L] at this;exact this));have HX:=hid h;have HO:=hid ho;clear h ho J L K;go_enter Tryz.func69,Tryz.ntmps69;go_upto_region 3 with fail;go_loopw [3,4] (λc i wr=>∃(k:Nat) (z:Int),k<=C∧i= .int .i64 k∧c= .int .i64 z∧Hid (z=bestI (eU b.v b.wait k))∧Hid (Below w.heap.size w wr)) (λc i _=>C-(RowKit.intOf i).toNat)
 case atStart=>exact⟨0,-1,by omega,rfl,rfl,hid rfl,hid (ag _ _)⟩
 case round=>
  obtain⟨k,z,hk,rfl,rfl,Y,l⟩:=hrel;have F:=hid (HX.out.below l.out);have p1:wr.cell? ⟨P,1,none⟩=some (.slice wA C wc):=by rw[F.out.cell,ae.out];rfl
  by_cases T:k<C
  ·obtain⟨D,E,rfl,ao,f⟩:=RowGr.range (RowGr.below R.out l.out) (k:=k) (by rw[Q.out];exact T);have i1:(0:Int)<=(k:Int):=by omega
   have i2:(k:Int)<(C:Int):=by omega
   obtain⟨p,Z⟩:∃p,p=X.M.getD k gp0:=⟨_,rfl⟩;have af:=hid (show GrG wr S p by rw[Z];exact F.out.good _ (au.2 (.inr (getD_memP (by rw[Q.out];exact T)))));have aa:=hid (show p.1=b.wait.getD k gz by rw[Z];exact kg _ _ F.out.wl k);have ab:=hid (show p.1.deps.length<=1000 from chk_dl (HO.out.ok.chk _ (by rw[aa.out];exact au.2 (.inr (gf (by rw[<-ad.out];exact T))))));rw[<-Z] at f;clear Z;obtain⟨N,x⟩:=p;obtain⟨M,H⟩:∃z,z=fp b.v N:=⟨_,rfl⟩;have U:=hid (show ∀W,Below wr.heap.size wr W->Calls Tryz.prog 68 #[.pointer (some ⟨P,0,none⟩),.agg (grA N x.dA x.dc x.oA x.oc)] W λe w'=>e= .returned (.bool M)∧Below W.heap.size W w' from λW hB=>by rw[H];exact rbready_any (F.out.below hB) HO.out N x (af.out.agr (Agr.below hB)) ab.out);have s:=hid (show eU b.v b.wait (k+1)=if M && behB b.wait N (eU b.v b.wait k) then some k else eU b.v b.wait k by rw[H,show N=b.wait.getD k gz from aa.out];rfl);clear H ab;obtain⟨⟨t,r⟩,n,u,⟨ut,ur⟩,V⟩:=N;obtain⟨dA,dc,oA,oc⟩:=x;have ac:Hid (∀W,Below wr.heap.size wr W->Calls Tryz.prog 68 #[.pointer (some ⟨P,0,none⟩),.agg #[t,r,n,.slice dA u.length dc,ut,ur,.slice oA V.length oc]] W λe w'=>e= .returned (.bool M)∧Below W.heap.size W w'):=U;have x0:=aj (w:=wr) (a:=⟨D,E+k*7,none⟩) (v:= .int .i64 t) (f 0 _ rfl);have x1:=aj (w:=wr) (a:=⟨D,E+k*7+1,none⟩) (v:= .int .i64 r) (f 1 _ rfl)
   have x2:=aj (w:=wr) (a:=⟨D,E+k*7+2,none⟩) (v:= .int .i64 n) (f 2 _ rfl);have x3:=aj (w:=wr) (a:=⟨D,E+k*7+3,none⟩) (v:= .slice dA u.length dc) (f 3 _ rfl);have x4:=aj (w:=wr) (a:=⟨D,E+k*7+4,none⟩) (v:= .int .i64 ut) (f 4 _ rfl);have x5:=aj (w:=wr) (a:=⟨D,E+k*7+5,none⟩) (v:= .int .i64 ur) (f 5 _ rfl);have x6:=aj (w:=wr) (a:=⟨D,E+k*7+6,none⟩) (v:= .slice oA V.length oc) (f 6 _ rfl);have pp:=aj p1;have G:=λd O=>ay (ac.out (grow (redrawn wr d) O) (bE wr d O));clear f U;cases M with
   |false=>
    go_upto_region 5 with fail;refine rqb ?_
    repeat(any_goals(first|go_big_quiet_step (with_reducible exact G _ _)|quiet_step (with_reducible exact G _ _)))
    refine qz λwq o=> ?_;go_wp2;go_roundw
    case rel=>exact⟨k+1,z,by omega,by go_num,rfl,hid (by rw[s.out];simpa using Y.out),bT l o⟩
    case measure=>(simp[RowKit.intOf];omega)
   | true=>
    cases A:eU b.v b.wait k with
    |none=>
     obtain rfl:z= -1:=by rw[Y.out,A];rfl
     rw[A] at s;go_upto_region 5 with fail;refine rqb ?_
     repeat(any_goals(first|go_big_quiet_step (with_reducible exact G _ _)|quiet_step (with_reducible exact G _ _)))
     refine qz λwq o=> ?_;go_wp2;go_roundw
     case rel=>exact⟨k+1,(k:Int),by omega,by go_num,rfl,hid (by rw[s.out];simp[behB,bestI]),bT l o⟩
     case measure=>(simp[RowKit.intOf];omega)
    | some j=>
     obtain rfl:z=(j:Int):=by rw[Y.out,A];rfl
     rw[A] at s;have ap:=(gH A).1;obtain⟨aq,ar,ah,am,g⟩:=RowGr.range (RowGr.below R.out l.out) (k:=j) (by rw[Q.out];omega);cases ah;obtain⟨q,hq⟩:∃q,q=X.M.getD j gp0:=⟨_,rfl⟩;have ai:=hid (show q.1=b.wait.getD j gz by rw[hq];exact kg _ _ F.out.wl j);rw[<-hq] at g;clear hq A;obtain⟨gb,y⟩:=q;obtain⟨⟨t2,r2⟩,n2,u2,⟨av,aw⟩,an⟩:=gb;obtain⟨ax,az,aA,aB⟩:=y;have y0:=aj (w:=wr) (a:=⟨D,E+j*7,none⟩) (v:= .int .i64 t2) (g 0 _ rfl);have y1:=aj (w:=wr) (a:=⟨D,E+j*7+1,none⟩) (v:= .int .i64 r2) (g 1 _ rfl);have i3:(0:Int)<=(j:Int):=by omega
     have i4:(j:Int)<(C:Int):=by omega
     have i5:¬(j:Int)<0:=by omega
     have i6:decide ((j:Int)<0)=false:=aE i5;obtain⟨lt,I⟩:∃z,z=(⟨t,r⟩:Gst).lt ⟨t2,r2⟩:=⟨_,rfl⟩;have cC:=λd O=>ay (show Calls Tryz.prog 103 #[.agg #[t,r],.agg #[t2,r2]] (grow (redrawn wr d) O) λe w'=>e= .returned (.bool lt)∧Below (grow (redrawn wr d) O).heap.size (grow (redrawn wr d) O) w' by rw[I];exact eN t r t2 r2 _);have HY:=hid (show behB b.wait ⟨⟨t,r⟩,n,u,⟨ut,ur⟩,V⟩ (some j)=lt by rw[I];show(⟨t,r⟩:Gst).lt (b.wait.getD j gz).s=_;rw[<-ai.out]);clear I g;cases lt with
     |true=>
      go_upto_region 5 with fail;refine rqb ?_
      repeat(any_goals(first|go_big_quiet_step (with_reducible first|exact G _ _|exact cC _ _)|quiet_step (with_reducible first|exact G _ _|exact cC _ _)))
      refine qz λwq o=> ?_;go_wp2;go_roundw
      case rel=>exact⟨k+1,(k:Int),by omega,by go_num,rfl,hid (by rw[s.out];rw[HY.out];rfl),bT l o⟩
      case measure=>(simp[RowKit.intOf];omega)
     |false=>
      go_upto_region 5 with fail;refine rqb ?_
      repeat(any_goals(first|go_big_quiet_step (with_reducible first|exact G _ _|exact cC _ _)|quiet_step (with_reducible first|exact G _ _|exact cC _ _)))
      refine qz λwq o=> ?_;go_wp2;go_roundw
      case rel=>exact⟨k+1,(j:Int),by omega,by go_num,rfl,hid (by rw[s.out];rw[HY.out];rfl),bT l o⟩
      case measure=>(simp[RowKit.intOf];omega)
  ·obtain rfl:k=C:=by omega
   have i2:¬(k:Int)<(k:Int):=by omega
   have aC:decide ((k:Int)<(k:Int))=false:=aE i2;have ak:=hid (show Value.int .i64 z= .int .i64 (bestI (eU b.v b.wait k)) by rw[Y.out]);go_wp2;go_ret;exact⟨congrArg Ending.returned ak.out,l.out⟩
end
section
theorem drainF_mem:∀(f:Nat) (b:Bx),∀x∈(bQ f b).1.done++(bQ f b).1.wait,x∈b.done++b.wait
 |0,b,x,h=>h
 | f+1,b,x,h=>by
  cases hb:eU b.v b.wait b.wait.length with
  |none=>rw[gj hb] at h;exact h
  | some k=>
   have hk:=(gH hb).1
   cases ho:oldB b.v (b.wait.getD k gz) with
   |true=>
    rw[gR hb ho] at h
    have:=drainF_mem f _ x h
    rcases au.1 this with h1|h1
    ·exact au.2 (.inl h1)
    ·exact au.2 (.inr (gp h1))
   |false=>
    rw[gi hb ho] at h
    have:=drainF_mem f _ x h
    simp only[Bx.put,au,aO] at this
    rcases this with(h1|rfl)|h1
    ·exact au.2 (.inl h1)
    ·exact au.2 (.inr (gf hk))
    ·exact au.2 (.inr (gp h1))
theorem hearB_mem (b:Bx) (g:Grp):∀x∈(bS b g).1.done++(bS b g).1.wait,x∈b.done++b.wait∨x=g:=by
 intro x;unfold bS;split
 ·exact .inl
 ·split
  ·exact .inl
  ·split
   ·intro h;have:=drainF_mem _ _ x h;simp only[Bx.put,au,aO] at this;rcases this with(a|a)|a
    ·exact .inl (au.2 (.inl a))
    ·exact .inr a
    ·exact .inl (au.2 (.inr a))
   ·split
    ·exact .inl
    ·intro h;simp only[au,aO] at h;rcases h with a|a|a
     ·exact .inl (au.2 (.inl a))
     ·exact .inl (au.2 (.inr a))
     ·exact .inr a
end
end Go.Proofs.YtkhmicndehlneaaGreatDoor
