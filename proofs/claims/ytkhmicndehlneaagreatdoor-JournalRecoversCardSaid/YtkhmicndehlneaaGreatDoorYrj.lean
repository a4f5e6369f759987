/- Part 10 of the walks and plain laws that this claim uses, joined. Conditions: as each theorem states. -/
import Derived.Deep.RegionLaw
import Derived.Lib.SliceRun
import Derived.Test.YtkhmicndehlneaaGreatDoorYri
namespace Go.Proofs.YtkhmicndehlneaaGreatDoor
set_option maxRecDepth 100000
set_option maxHeartbeats 16000000
set_option linter.unusedVariables false
section
open Go.RowKit Go.Lib Go.Sort
attribute [local go_sem ↓] Go.wp_at_zero Go.wp_at_succ
theorem bx_grow {w W:World} {B:Nat} (h:Below B w W) (hB:B<=W.heap.size) (d:Nat) (os:Array Obj):Below B w (grow (redrawn W d) os):=h.trans ((bL W d os).mono hB)
theorem bxready_any {B P:Nat} {S S2:Nat->Prop} {E F G:List Grp} {v:List Int} {X:BoxX} {w:World} (h:BoxIn B P S E F G v X w) (g:Grp) (x:GrX) (p:GrG w S2 (g,x)) (k:g.deps.length<=1000):
  Calls Tryz.prog 50 #[.pointer (some ⟨P,0,none⟩),.agg (grA g x.dA x.dc x.oA x.oc)] w λe w'=>e= .returned (.bool (gM v g))∧Below w.heap.size w w':=by
 obtain⟨⟨t,r⟩,n,u,⟨f,i⟩,a⟩:=g;obtain⟨dA,dc,oA,oc⟩:=x;obtain⟨q,c⟩:∃b,b=gM v ⟨⟨t,r⟩,n,u,⟨f,i⟩,a⟩:=⟨_,rfl⟩;rw[<-c];have l:Below w.heap.size w (w.alloc (.cells #[t,r,n,.slice dA u.length dc,f,i,.slice oA a.length oc] 45)):=(ag _ _).alloc (aa _) _;have s:u.length<=9223372036854775806:=by have K:u.length<=1000:=k;omega
 have m:∀W,Below w.heap.size w W->Calls Tryz.prog 98 #[.slice X.vA v.length X.vc,.slice dA u.length dc] W λe w'=>e= .returned (.bool q)∧Below W.heap.size W w':=λW y=>
  (covers_any X.vA dA X.vc dc v u W (by have:=h.vlen;omega) s (VecS.vec (show VecS W S X.vA v from RowG.agr h.vec (Agr.below y))) (VecS.vec (show VecS W S2 dA u from RowG.agr p.deps (Agr.below y)))).mono (by rintro e w' ⟨rfl,rfl⟩;exact⟨by rw[c];rfl,ag _ _⟩)
 have z:=hid m;have A:=hid (an w (.cells #[t,r,n,.slice dA u.length dc,f,i,.slice oA a.length oc] 45));have o:=h.below l;have H:=hid o.obj;have j:=hid l;show Calls _ _ #[.pointer (some ⟨P,0,none⟩),.agg #[t,r,n,.slice dA u.length dc,f,i,.slice oA a.length oc]] _ _;clear m p h c o k;go_enter Tryz.func50,Tryz.ntmps50;go_upto_region 1 with fail;generalize I:w.alloc (.cells #[t,r,n,.slice dA u.length dc,f,i,.slice oA a.length oc] 45)=W at *;clear I;have L:=rg3 H.o;have M:=rg2 A.o;have N:=rg3 A.o;have J:=λd C=>ak (z.o (grow (redrawn W d) C) (bx_grow j.o j.o.size d C));refine rqb ?_
 repeat(any_goals(go_big_quiet_step (with_reducible exact J _ _)))
 refine qz λO D=> ?_;go_wp2;go_ret;exact⟨rfl,j.o.trans (D.mono j.o.size)⟩
theorem bxold_any {B P:Nat} {S S2:Nat->Prop} {C D E:List Grp} {v:List Int} {X:BoxX} {w:World} (h:BoxIn B P S C D E v X w) (g:Grp) (x:GrX):
  Calls Tryz.prog 95 #[.pointer (some ⟨P,0,none⟩),.agg (grA g x.dA x.dc x.oA x.oc)] w λe w'=>e= .returned (.bool (oldB v g))∧Below w.heap.size w w':=by
 obtain⟨⟨t,r⟩,n,u,⟨f,i⟩,a⟩:=g;obtain⟨dA,dc,oA,oc⟩:=x;obtain⟨z,o⟩:∃z,z=atV v r:=⟨_,rfl⟩;obtain⟨p,c⟩:∃b,b=oldB v ⟨⟨t,r⟩,n,u,⟨f,i⟩,a⟩:=⟨_,rfl⟩;have J:decide (n<=z)=p:=by rw[c,o];rfl
 rw[<-c];have k:Below w.heap.size w (w.alloc (.cells #[t,r,n,.slice dA u.length dc,f,i,.slice oA a.length oc] 45)):=(ag _ _).alloc (aa _) _;have l:∀W,Below w.heap.size w W->Calls Tryz.prog 63 #[.slice X.vA v.length X.vc,r] W λe w'=>e= .returned (.int .i64 z)∧Below W.heap.size W w':=λW F=>
  (at_any X.vA X.vc v r W (by have:=h.vlen;omega) (VecS.vec (show VecS W S X.vA v from RowG.agr h.vec (Agr.below F)))).mono (by rintro e w' ⟨rfl,rfl⟩;exact⟨by rw[o],ag _ _⟩)
 have q:=hid l;have s:=hid (an w (.cells #[t,r,n,.slice dA u.length dc,f,i,.slice oA a.length oc] 45));have m:=h.below k;have G:=hid m.obj;have j:=hid k;show Calls _ _ #[.pointer (some ⟨P,0,none⟩),.agg #[t,r,n,.slice dA u.length dc,f,i,.slice oA a.length oc]] _ _;clear l h c m o;go_enter Tryz.func95,Tryz.ntmps95;go_upto_region 1 with fail;generalize H:w.alloc (.cells #[t,r,n,.slice dA u.length dc,f,i,.slice oA a.length oc] 45)=W at *;clear H;have K:=rg3 G.o;have L:=rg1 s.o;have M:=rg2 s.o;have I:=λd y=>ak (q.o (grow (redrawn W d) y) (bx_grow j.o j.o.size d y));refine rqb ?_
 repeat(any_goals(go_big_quiet_step (with_reducible exact I _ _)))
 refine qz λN A=> ?_;go_wp2;go_ret;exact⟨rfl,j.o.trans (A.mono j.o.size)⟩
theorem bxclash_any (a g:Grp) (x y:GrX) (l:Nat) (w:World) (m:w.heap[l]? =some (.cells (grA g y.dA y.dc y.oA y.oc) 45 (0,0))):
  Calls Tryz.prog 97 #[.agg (grA a x.dA x.dc x.oA x.oc),.pointer (some ⟨l,0,none⟩)] w λe w'=>e= .returned (.bool (fU a g))∧Below w.heap.size w w':=by
 obtain⟨⟨t,r⟩,n,u,⟨f,h⟩,c⟩:=a;obtain⟨⟨o,i⟩,p,H,⟨E,F⟩,q⟩:=g;obtain⟨dA,dc,oA,oc⟩:=x;obtain⟨K,L,M,N⟩:=y;obtain⟨s,v⟩:∃b,b=decide (r=i):=⟨_,rfl⟩;obtain⟨z,A⟩:∃b,b=decide (n=p):=⟨_,rfl⟩;obtain⟨B,C⟩:∃b,Gst.eqb ⟨t,r⟩ ⟨o,i⟩=b:=⟨_,rfl⟩;have O:(r == i)=s:=by rw[v];rfl
 have P:(n == p)=z:=by rw[A];rfl
 have Q:=eq_st t r o i B C;obtain⟨G,d⟩:∃b,b=fU ⟨⟨t,r⟩,n,u,⟨f,h⟩,c⟩ ⟨⟨o,i⟩,p,H,⟨E,F⟩,q⟩:=⟨_,rfl⟩;have D:=hid (show G=((s && z) || B) by rw[d,v,A,<-C];rfl);rw[<-d];have I:=hid (show Below w.heap.size w (w.alloc (.cells #[t,r,n,.slice dA u.length dc,f,h,.slice oA c.length oc] 45)) from(ag _ _).alloc (aa _) _);have j:=hid (an w (.cells #[t,r,n,.slice dA u.length dc,f,h,.slice oA c.length oc] 45));have k:=hid ((ax w (.cells #[t,r,n,.slice dA u.length dc,f,h,.slice oA c.length oc] 45) _ (lt_of_block m)).trans m);show Calls _ _ #[.agg #[t,r,n,.slice dA u.length dc,f,h,.slice oA c.length oc],.pointer (some ⟨l,0,none⟩)] _ _;clear d v A C m;cases s
 all_goals
  cases z
  all_goals
   cases B
   all_goals
    go_enter Tryz.func97,Tryz.ntmps97;go_upto_region 1 with fail;generalize J:w.alloc (.cells #[t,r,n,.slice dA u.length dc,f,h,.slice oA c.length oc] 45)=W at *;clear J;have R:=cw0 j.o;have S:=cw1 j.o;have T:=cw2 j.o;have U:=cw0 k.o;have V:=cw1 k.o;have X:=cw2 k.o;go_wp2;go_ret;exact⟨dI (by rw[D.o];rfl),I.o⟩
theorem bxindex_any (A:Option Addr) (c:Nat) (M:List (Grp×GrX)) (g:Grp) (y:GrX) (o:Nat) (w:World) (V:M.length<=1000000) (O:RowGr w A M) (P:w.heap[o]? =some (.cells (grA g y.dA y.dc y.oA y.oc) 45 (0,0))):
  Calls Tryz.prog 118 #[.slice A M.length c,.func (Fn.func 97) #[] #[.pointer (some ⟨o,0,none⟩)]] w λe w'=>(∃z:Int,e= .returned (.int .i64 z)∧decide (0<=z)=(M.map Prod.fst).any (λa=>fU a g))∧Below w.heap.size w w':=by
 obtain⟨m,K⟩:∃m,m=M.length:=⟨_,rfl⟩;rw[<-K];obtain⟨aa,l⟩:∃b,b=(M.map Prod.fst).any (λa=>fU a g):=⟨_,rfl⟩;rw[<-l];have s:=hid l;clear l;have W:=hid O;have Q:=hid P;have L:=hid K;have X:m<=1000000:=by omega
 clear O P K V;go_enter Tryz.func118,Tryz.ntmps118;go_wp2;go_loopw [8] (λi wr=>∃k:Nat,i= .int .i64 k∧k<=m∧Hid (Below w.heap.size w wr)∧Hid (∀j,j<k->fU (M.getD j gp0).1 g=false)) (λi _=>m-(RowKit.intOf i).toNat)
 case atStart=>exact⟨0,rfl,aq _,hid (ag _ _),hid (λj v=>absurd v (da j))⟩
 case round=>
  obtain⟨k,rfl,hk,B,R⟩:=hrel;by_cases G:k<m
  ·obtain⟨Y,Z,rfl,ab,d⟩:=RowGr.range (RowGr.below W.o B.o) (k:=k) (by rw[<-L.o];exact G);have i1:(0:Int)<=(k:Int):=by omega
   have i2:(k:Int)<(m:Int):=by omega
   obtain⟨p,F⟩:∃p,p=M.getD k gp0:=⟨_,rfl⟩;rw[<-F] at d;have HP:=hid F;obtain⟨a,x⟩:=p;obtain⟨b,N⟩:∃b,b=fU a g:=⟨_,rfl⟩;have C:=hid (bxclash_any a g x y o wr ((B.o.block o (lt_of_block Q.o)).trans Q.o));rw[<-N] at C;have H:=hid (show fU (M.getD k gp0).1 g=b by rw[<-F,N]);clear N F;obtain⟨⟨t,r⟩,n,u,⟨S,T⟩,I⟩:=a;obtain⟨dA,dc,oA,oc⟩:=x;have J:=hid (show wr.rangeAt Y (Z+k*7) [t,r,n,.slice dA u.length dc,S,T,.slice oA I.length oc] from d);have D:Hid (Calls Tryz.prog 97 #[.agg #[t,r,n,.slice dA u.length dc,S,T,.slice oA I.length oc],.pointer (some ⟨o,0,none⟩)] wr λe w'=>e= .returned (.bool b)∧Below wr.heap.size wr w'):=C;clear d C;cases b with
   | true=>
    go_wp2_with (first
     |(refine lM J aJ ?_)
     |(go_at_call 97;refine D.o.mono ?_;rintro e w2 ⟨rfl,f⟩))
    have E:=bT B f;clear f;go_ret;refine⟨⟨(k:Int),rfl,?_⟩,E.o⟩;rw[aI i1,s.o];symm;rw[eQ];refine⟨(M.getD k gp0).1,bN.2 ⟨M.getD k gp0,?_,rfl⟩,H.o⟩;rw[ae,aw (by rw[<-L.o];exact G)];exact ch _
   | false=>
    have U:=hid (show ∀j,j<k+1->fU (M.getD j gp0).1 g=false from λj v=>if h:j<k then R.o j h else (by(obtain rfl:j=k:=(by omega));exact H.o))
    go_wp2_with (first
     |(refine lM J aJ ?_)
     |(go_at_call 97;refine D.o.mono ?_;rintro e w2 ⟨rfl,f⟩))
    have E:=bT B f;clear f;exact⟨⟨k+1,by go_num,by omega,E,U⟩,by simp[RowKit.intOf];omega⟩
  ·obtain rfl:k=m:=by omega
   have i2:¬(k:Int)<(k:Int):=by omega
   go_wp2;go_ret;refine⟨⟨-1,by rfl,?_⟩,B.o⟩;rw[show decide ((0:Int)<= -1)=false from rfl,s.o];symm;rw[List.any_eq_false];intro a ha;obtain⟨q,hq,rfl⟩:=bN.1 ha;obtain⟨j,v,rfl⟩:=dX.1 hq;have:=R.o j (by rw[L.o];exact v);rw[ae,aw v] at this;rw[show(M[j]).1=((some M[j]).getD gp0).1 from rfl,this];decide
theorem bxcontains_any (A:Option Addr) (c:Nat) (M:List (Grp×GrX)) (g:Grp) (y:GrX) (b:Nat) (w:World) (d:M.length<=1000000) (f:RowGr w A M) (h:w.heap[b]? =some (.cells (grA g y.dA y.dc y.oA y.oc) 45 (0,0))):
  Calls Tryz.prog 96 #[.slice A M.length c,.func (Fn.func 97) #[] #[.pointer (some ⟨b,0,none⟩)]] w λe w'=>e= .returned (.bool ((M.map Prod.fst).any (λa=>fU a g)))∧Below w.heap.size w w':=by
 have i:=hid (bxindex_any A c M g y b w d f h);generalize (M.map Prod.fst).any (λa=>fU a g)=k at *;clear d f h;go_enter Tryz.func96,Tryz.ntmps96;go_wp2_with fail;refine i.o.mono ?_;rintro e l ⟨⟨z,rfl,m⟩,j⟩;go_wp2;go_ret;exact⟨rfl,j⟩
theorem zeroU (w:World):(zeroValue 150).run Tryz.prog w= .ok (.agg #[]) w:=by kernel_rfl
def knB (mp wt:List Grp) (v:List Int) (g:Grp):Bool:=mp.any (λd=>d.s.eqb g.s) || oldB v g || wt.any (λa=>fU a g)
theorem bxknown_any {B P:Nat} {S S2:Nat->Prop} {dn mp wt:List Grp} {v:List Int} {X:BoxX} {w:World} (h:BoxIn B P S dn mp wt v X w) (g:Grp) (x:GrX) (hmp:∀d∈mp,d.s.right=true) (hg:g.s.right=true) (hwl:wt.length<=1000000):
  Calls Tryz.prog 49 #[.pointer (some ⟨P,0,none⟩),.agg (grA g x.dA x.dc x.oA x.oc)] w λe w'=>e= .returned (.bool (knB mp wt v g))∧Below w.heap.size w w':=by
 obtain⟨ans,hans⟩:∃b,b=knB mp wt v g:=⟨_,rfl⟩;rw[<-hans];obtain⟨b1,h1⟩:∃b,b=mp.any (λd=>d.s.eqb g.s):=⟨_,rfl⟩;obtain⟨b2,h2⟩:∃b,b=oldB v g:=⟨_,rfl⟩;obtain⟨b3,h3⟩:∃b,b=wt.any (λa=>fU a g):=⟨_,rfl⟩;have HANS:=hid (show ans=(b1 || b2 || b3) by rw[hans,h1,h2,h3];rfl);have hb0:Below w.heap.size w (w.alloc (.cells (grA g x.dA x.dc x.oA x.oc) 45)):=(ag _ _).alloc (aa _) _;have HOLD:=hid (show ∀W,Below w.heap.size w W->Calls Tryz.prog 95 #[.pointer (some ⟨P,0,none⟩),.agg (grA g x.dA x.dc x.oA x.oc)] W λe w'=>e= .returned (.bool b2)∧Below W.heap.size W w' from λW hB=>by rw[h2];exact bxold_any (S2:=S) (h.below hB) g x);obtain⟨wA,wc,hwv⟩:=bU h.wait;have HRW:=hid (show ∀W,Below w.heap.size w W->RowGr W wA X.M from λW hB=>RowGr.own (by have:=(h.below hB).wait;rw[hwv] at this;exact this))
 have HCON:=hid (show ∀W,Below w.heap.size w W->W.heap[w.heap.size]? =some (.cells (grA g x.dA x.dc x.oA x.oc) 45 (0,0))->Calls Tryz.prog 96 #[.slice wA X.M.length wc,.func (Fn.func 97) #[] #[.pointer (some ⟨w.heap.size,0,none⟩)]] W λe w'=>e= .returned (.bool b3)∧Below W.heap.size W w' from λW hB hC=>by
  rw[h3,<-h.wl];exact bxcontains_any wA wc X.M g x w.heap.size W (by rw[h.wlen];exact hwl) (HRW.out W hB) hC)
 have HLK:=hid (show ∀W,Below w.heap.size w W->(Instr.lookup 87 (.map (some X.bm)) (.agg #[.int .i64 g.s.t,.int .i64 g.s.r]) true).run Tryz.prog W= .ok (.tuple #[.agg #[],b1]) W from λW hB=>by
  obtain⟨u,ps,hrun,hu⟩:=(h.below hB).map.look_ok law_st Tryz.underlying87 (zeroU W) (zd:= .agg []) (zp:=[]) unitElem_mk (key_st g.s (jk hg).1 (jk hg).2);obtain⟨rfl,-⟩:=unitElem_inv hu;rw[has_setG mp g.s hmp hg,<-h1] at hrun
  exact hrun)
 have HO:=hid (show ∀W,Below w.heap.size w W->W.heap[P]? =some (.cells #[X.dv,.slice wA X.M.length wc,.map (some X.bm),.slice X.vA v.length X.vc] 89 (0,0)) from λW hB=>by have:=(h.below hB).obj;rw[hwv] at this;exact this);have hPl:=lt_of_block h.obj;clear hans h1 h2 h3 hwv hmp hg hwl;clear h;obtain⟨⟨t,r⟩,n,u,⟨ut,ur⟩,ops⟩:=g;obtain⟨dA,dc,oA,oc⟩:=x;show Calls _ _ #[.pointer (some ⟨P,0,none⟩),.agg #[t,r,n,.slice dA u.length dc,ut,ur,.slice oA ops.length oc]] _ _;have HB:=hid hb0;have HC:=hid (an w (.cells #[t,r,n,.slice dA u.length dc,ut,ur,.slice oA ops.length oc] 45));clear hb0;go_enter Tryz.func49,Tryz.ntmps49;go_upto_region 1 with fail;generalize hW:w.alloc (.cells #[t,r,n,.slice dA u.length dc,ut,ur,.slice oA ops.length oc] 45)=W;have HB1:Hid (Below w.heap.size w W):=hid (by rw[<-hW];exact HB.out);have HC1:Hid (W.heap[w.heap.size]? =some (.cells #[t,r,n,.slice dA u.length dc,ut,ur,.slice oA ops.length oc] 45 (0,0))):=hid (by rw[<-hW];exact HC.out);clear hW HB HC;refine aY (S:=λw'=>Below W.heap.size W w') (by kernel_rfl) ?_
 try(change wpAnyH _ _ _ _ _ _ _ _ (World.drew _))
 have HDR:=hid (show Below W.heap.size W W.drew from⟨rfl,rfl,rfl,aa _,λ_ _=>rfl⟩);refine tk 0 (.pointer (some ⟨P,0,none⟩)) HDR.out ?_;go_simp;refine tk 1 (.pointer (some ⟨P,0,none⟩)) HDR.out ?_;go_simp;refine tk 2 (.pointer (some ⟨P,2,none⟩)) HDR.out ?_;go_simp;refine tk2 3 (.map (some X.bm)) rfl (Or.inl ⟨by rfl,λW' hW'=>by(have c_:W'.cell? ⟨P,2,none⟩=some (.map (some X.bm)):=(by rw[crw (HO.out W' (HB1.out.trans (hW'.mono HB1.out.size)))];rfl);go_simp)⟩) HDR.out ?_;go_simp;refine tk 4 (.pointer (some ⟨w.heap.size,0,none⟩)) HDR.out ?_;go_simp;refine tk2 5 (.agg #[t,r]) rfl (Or.inl ⟨by rfl,λW' hW'=>by(have c0:W'.cell? ⟨w.heap.size,0,none⟩=some (.int .i64 t):=(by rw[crw ((hW'.block w.heap.size (lt_of_block HC1.out)).trans HC1.out)];rfl);have c1:W'.cell? ⟨w.heap.size,1,none⟩=some (.int .i64 r):=(by rw[crw ((hW'.block w.heap.size (lt_of_block HC1.out)).trans HC1.out)];rfl);go_simp)⟩) HDR.out ?_;go_simp;refine tk2 6 (.tuple #[.agg #[],b1]) rfl (Or.inl ⟨by rfl,λW' hW'=>by(have hl:=HLK.out W' (HB1.out.trans (hW'.mono HB1.out.size));go_simp)⟩) HDR.out ?_;go_simp;refine tk 7 (.tuple #[.agg #[],b1]) HDR.out ?_;go_simp;refine tk 8 (.agg #[]) HDR.out ?_;go_simp;refine tk 9 (.bool b1) HDR.out ?_;go_simp;refine rd1 10 λK hK=> ?_;go_simp;have HDA:=hid (HDR.out.alloc HDR.out.size (.cells #[] 150));refine hK.out _ _ HDA.out (λ_=> ?_);clear hK K;refine rd1 11 λK hK=> ?_;go_simp;refine hK.out _ _ (show Below W.heap.size W _ from HDA.out) (λ_=> ?_);clear hK K
 refine tk 12 (.bool b1) (show Below W.heap.size W _ from HDA.out) ?_;go_simp;refine bp (by kernel_rfl) ?_ _;go_simp;generalize hV:(W.alloc (.cells #[] 150)).drew=V;have HBV:=hid (show Below w.heap.size w V by rw[<-hV];exact HB1.out.trans ((show Below W.heap.size W _ from HDA.out).mono HB1.out.size));have HCV:=hid (show V.heap[w.heap.size]? =some (.cells #[t,r,n,.slice dA u.length dc,ut,ur,.slice oA ops.length oc] 45 (0,0)) by rw[<-hV];exact((show Below W.heap.size W _ from HDA.out).block w.heap.size (lt_of_block HC1.out)).trans HC1.out);clear hV HDA HDR;have e0:=cw0 HCV.out;have e1:=cw1 HCV.out;have e2:=cw2 HCV.out;have e3:=cw3 HCV.out;have e4:=cw4 HCV.out;have e5:=cw5 HCV.out;have e6:=cw6 HCV.out;cases b1 with
 |true=>
  obtain rfl:ans=true:=by rw[HANS.out];rfl
  go_wp2;go_ret;exact⟨rfl,HBV.out⟩
 | false=>
  cases b2 with
  | true=>
   obtain rfl:ans=true:=by rw[HANS.out];rfl
   go_wp2_with (first
    |(refine lA HCV aJ ?_)
    |(go_at_call 95;refine(HOLD.out V HBV.out).mono ?_;rintro e w2 ⟨rfl,hB2⟩))
   go_ret;exact⟨rfl,HBV.out.trans (hB2.mono HBV.out.size)⟩
  | false=>
   obtain rfl:ans=b3:=by rw[HANS.out];cases b3<;>rfl
   go_wp2_with (first
    |(refine lA HCV aJ ?_)
    |(go_at_call 95;refine(HOLD.out V HBV.out).mono ?_;rintro e w2 ⟨rfl,hB2⟩;have HB2:=bT HBV hB2;have HC2:=bK hB2 HCV;have p1:w2.cell? ⟨P,1,none⟩=some (.slice wA X.M.length wc):=(by rw[crw (HO.out w2 HB2.out)];rfl);clear hB2)
    |(go_at_call 96;refine(HCON.out w2 HB2.out HC2.out).mono ?_;rintro e w3 ⟨rfl,hB3⟩))
   go_ret;exact⟨rfl,HB2.out.trans (hB3.mono HB2.out.size)⟩
theorem withV_len (v:List Int) (r n:Int) (h:v.length<=16) (a:r<=16):(eS v r n).length<=16:=by
 have:=pv_len (setV v r n);have b:=setV_len v r n;unfold eS;omega
theorem bxdeliver_any {B P:Nat} {S:Nat->Prop} {dn mp wt:List Grp} {v:List Int} {X:BoxX} {w:World} (h:BoxIn B P S dn mp wt v X w) (g:Grp) (x:GrX) (hG:GrG w S (g,x)) (hg:g.s.right=true) (hlen:dn.length<=1000000) (hmlen:mp.length<=1000000):
  Calls Tryz.prog 51 #[.pointer (some ⟨P,0,none⟩),.agg (grA g x.dA x.dc x.oA x.oc)] w λe w'=>e= .returned (.tuple #[])∧∃X' S',BoxIn B P S' (dn++[g]) (mp++[g]) wt (eS v g.s.r g.n) X' w'∧BTo P X S w X' S' w':=by
 obtain⟨i0,hi,hz0,hz1,hz2⟩:=bx ib;have hb0:Below w.heap.size w (w.alloc (.cells (grA g x.dA x.dc x.oA x.oc) 45)):=(ag _ _).alloc (aa _) _;have hpp:(g,x).1=g:=rfl;have HX0:=hid (h.below hb0);have HG0:=hid (hG.agr (Agr.below hb0));have HTO:=hid (BTo.of_below (P:=P) (X:=X) (S:=S) hb0);have HGI:=hid (jk hg);have hdl:X.L.length<=1000000:=by rw[h.dlen];exact hlen
 have hml:mp.length<maxLen:=by unfold maxLen;omega
 obtain⟨⟨t,r⟩,n,u,⟨ut,ur⟩,ops⟩:=g;obtain⟨dA,dc,oA,oc⟩:=x;have hr1:1<=r∧r<=16:=right_r hg;obtain⟨q,hq⟩:∃q:Nat,r=(q:Int)+1:=⟨(r-1).toNat,by omega⟩;have hq16:q<16:=by omega
 have HQ:=hid hq;clear hq hr1;show Calls _ _ #[.pointer (some ⟨P,0,none⟩),.agg #[t,r,n,.slice dA u.length dc,ut,ur,.slice oA ops.length oc]] _ _;have HC:=hid (an w (.cells #[t,r,n,.slice dA u.length dc,ut,ur,.slice oA ops.length oc] 45));have hgb:=h.own_lt (k:=P) (.inl rfl);have hgm:=h.own_lt (k:=X.bm) (.inr (.inl rfl));have HOL:=hid (λk hk=>(h.own_lt (k:=k) hk).2);clear h hb0 hG hg hlen;go_enter Tryz.func51,Tryz.ntmps51;go_upto_region 1 with fail;generalize hW:w.alloc (.cells (grA ⟨⟨t,r⟩,n,u,⟨ut,ur⟩,ops⟩ (GrX.dA ⟨dA,dc,oA,oc⟩) (GrX.dc ⟨dA,dc,oA,oc⟩) (GrX.oA ⟨dA,dc,oA,oc⟩) (GrX.oc ⟨dA,dc,oA,oc⟩)) 45)=W at HX0 HG0 HTO;have hW2:w.alloc (.cells #[t,r,n,.slice dA u.length dc,ut,ur,.slice oA ops.length oc] 45)=W:=hW
 try rw[hW2]
 have HC1:=hid (show W.heap[w.heap.size]? =some (.cells #[t,r,n,.slice dA u.length dc,ut,ur,.slice oA ops.length oc] 45 (0,0)) by rw[<-hW2];exact HC.out);clear hW hW2 HC;have hwW:w.heap.size<W.heap.size:=lt_of_block HC1.out;have d0:W.drew.cell? ⟨P,0,none⟩=some X.dv:=by show W.cell? _=_;rw[HX0.out.cell];rfl
 refine aY (S:=λw'=>w'.heap[w.heap.size]? =some (.cells #[t,r,n,.slice dA u.length dc,ut,ur,.slice oA ops.length oc] 45 (0,0))) (by kernel_rfl) ?_
 try(change wpAnyH _ _ _ _ _ _ _ _ (World.drew _))
 refine tk 0 (.pointer (some ⟨P,0,none⟩)) ((show W.drew.heap[w.heap.size]? =_ from HC1.out)) ?_;go_simp;refine tk 1 (.pointer (some ⟨P,0,none⟩)) ((show W.drew.heap[w.heap.size]? =_ from HC1.out)) ?_;go_simp;refine tk 2 (.pointer (some ⟨P,0,none⟩)) ((show W.drew.heap[w.heap.size]? =_ from HC1.out)) ?_;go_simp;refine tk 3 (.pointer (some ⟨P,0,none⟩)) ((show W.drew.heap[w.heap.size]? =_ from HC1.out)) ?_;go_simp;refine tk2 5 (.agg #[t,r,n,.slice dA u.length dc,ut,ur,.slice oA ops.length oc]) rfl (Or.inl ⟨by rfl,λW' hW'=>by(have c0:W'.cell? ⟨w.heap.size,0,none⟩=some (.int .i64 t):=(by rw[crw hW'];rfl);have c1:W'.cell? ⟨w.heap.size,1,none⟩=some (.int .i64 r):=(by rw[crw hW'];rfl);have c2:W'.cell? ⟨w.heap.size,2,none⟩=some (.int .i64 n):=(by rw[crw hW'];rfl);have c3:W'.cell? ⟨w.heap.size,3,none⟩=some (.slice dA u.length dc):=(by rw[crw hW'];rfl);have c4:W'.cell? ⟨w.heap.size,4,none⟩=some (.int .i64 ut):=(by rw[crw hW'];rfl);have c5:W'.cell? ⟨w.heap.size,5,none⟩=some (.int .i64 ur):=(by rw[crw hW'];rfl);have c6:W'.cell? ⟨w.heap.size,6,none⟩=some (.slice oA ops.length oc):=(by rw[crw hW'];rfl);go_simp)⟩) ((show W.drew.heap[w.heap.size]? =_ from HC1.out)) ?_;go_simp;have HBA:=hid (show Below W.heap.size W (W.alloc (.cells #[t,r,n,.slice dA u.length dc,ut,ur,.slice oA ops.length oc] 45)).drew from⟨rfl,rfl,rfl,by simp,λk hk=>ax _ _ _ hk⟩)
 have HCA:=hid (show(W.alloc (.cells #[t,r,n,.slice dA u.length dc,ut,ur,.slice oA ops.length oc] 45)).drew.heap[w.heap.size]? =_ from(ax W (.cells #[t,r,n,.slice dA u.length dc,ut,ur,.slice oA ops.length oc] 45) _ hwW).trans HC1.out);have HDN:=hid (HX0.out.done.alloc (.cells #[t,r,n,.slice dA u.length dc,ut,ur,.slice oA ops.length oc] 45));have HNC:=hid (λ(j:Nat) (y:Value) (h:[.int .i64 t,.int .i64 r,.int .i64 n,.slice dA u.length dc,.int .i64 ut,.int .i64 ur,.slice oA ops.length oc][j]? =some y)=>dH W [t,r,n,.slice dA u.length dc,ut,ur,.slice oA ops.length oc] 45 j y h);have hsA:(W.alloc (.cells #[t,r,n,.slice dA u.length dc,ut,ur,.slice oA ops.length oc] 45)).drew.heap.size=W.heap.size+1:=by show(W.alloc _).heap.size=_;simp
 have dA0:(W.alloc (.cells #[t,r,n,.slice dA u.length dc,ut,ur,.slice oA ops.length oc] 45)).drew.cell? ⟨P,0,none⟩=some X.dv:=by show(W.alloc _).cell? _=_;rw[crw ((ax W (.cells #[t,r,n,.slice dA u.length dc,ut,ur,.slice oA ops.length oc] 45) P (by omega)).trans HX0.out.obj)];rfl
 refine dJ (rs:=[4,6]) (by kernel_rfl) (by simp) ?_;refine bg rfl (λK hK=> ?_) (bg rfl (λK hK=> ?_) dp)
 focus
  go_simp;refine hK.out _ _ ((show W.drew.heap[w.heap.size]? =_ from HC1.out)) (λ_=> ?_);clear hK K;refine rd1 6 λK hK=> ?_;go_simp;refine hK.out _ _ (HCA.out) (λ_=> ?_);clear hK K
 rotate_left
 focus
  go_simp;refine hK.out _ _ (HCA.out) (λ_=> ?_);clear hK K;refine rd1 4 λK hK=> ?_;go_simp;refine hK.out _ _ (HCA.out) (λ_=> ?_);clear hK K
 all_goals
  refine rd1 7 λK hK=> ?_;refine ds _ (by rfl) _ _ 25 (by rfl) B 45 i0 (.agg #[(0:Int),(0:Int),(0:Int),.slice none 0 0,(0:Int),(0:Int),.slice none 0 0]) 7 88 ci hi hz0 hz1 hz2 rfl (by decide) X.dv X.L.length _ (by rfl) (by exact HDN.out) ⟨W.heap.size,0,none⟩ 1 1 [t,r,n,.slice dA u.length dc,ut,ur,.slice oA ops.length oc] (by rfl) rfl (by exact HNC.out) (by exact iU (⟨⟨t,r⟩,n,u,⟨ut,ur⟩,ops⟩,⟨dA,dc,oA,oc⟩)) (by decide) (by unfold maxLen;omega) (by omega) (by rw[hsA];omega) (W.heap.size+1) hsA ?_;intro gq cap w3 hown1 hgrow hat hlt3;have hgne:some w.heap.size≠X.dv.ownBlock:=λe=>by have:=HOL.out _ (.inr (.inr (.inl e.symm)));omega
  have HC3:=hid ((hgrow.block w.heap.size (by rw[hsA];omega) hgne).trans HCA.out);have hPd:some P≠X.dv.ownBlock:=λe=>HX0.out.dP e.symm;have d3:w3.cell? ⟨P,0,none⟩=some X.dv:=by rw[crw ((hgrow.block P (by rw[hsA];omega) hPd).trans ((HBA.out.block P (by omega)).trans HX0.out.obj))];rfl
  have f3:w3.frozen? ⟨P,0,none⟩=false:=aS _ _ _ _ _ ((hgrow.block P (by rw[hsA];omega) hPd).trans ((HBA.out.block P (by omega)).trans HX0.out.obj));have HPUT:=hid (HX0.out.dput (dv':= .slice (some ⟨gq,0,none⟩) (X.L.length+1) cap) (p:=(⟨⟨t,r⟩,n,u,⟨ut,ur⟩,ops⟩,⟨dA,dc,oA,oc⟩)) HBA.out hgrow hown1 (hat.elim (λe=> .inl (by rw[e];rfl)) (λe=> .inr (by rw[e,hsA];rfl))) HG0.out);clear hown1 hgrow hat hgne hPd hlt3 HDN HNC;refine hK.out _ _ (HC3.out) (λ_=> ?_);clear hK K;refine tk 8 (.pointer (some ⟨P,0,none⟩)) (HC3.out) ?_;go_simp;refine tk 9 (.pointer (some ⟨P,0,none⟩)) (HC3.out) ?_;go_simp;refine rd1 10 λK hK=> ?_;go_simp;have HC4:=hid ((bB w3 ⟨P,0,none⟩ (.slice (some ⟨gq,0,none⟩) (X.L.length+1) cap) w.heap.size (by show w.heap.size≠P;omega)).trans HC3.out);refine hK.out _ _ (HC4.out) (λ_=> ?_);clear hK K;refine bp (by kernel_rfl) ?_ _;go_simp;obtain⟨hX4,hT4⟩:=HPUT.out;generalize hV:w3.setCell ⟨P,0,none⟩ (.slice (some ⟨gq,0,none⟩) (X.L.length+1) cap)=V at *;clear hV d3 f3 HPUT HC3 HBA HCA d0;generalize hXe:({ X with dv:= .slice (some ⟨gq,0,none⟩) (X.L.length+1) cap,L:=X.L++[(⟨⟨t,r⟩,n,u,⟨ut,ur⟩,ops⟩,⟨dA,dc,oA,oc⟩)] }:BoxX)=X1 at *;have HBM:=hid (show X1.bm=X.bm by rw[<-hXe]);clear hXe;have HX1:=hid hX4;have HT1:=hid (HTO.out.trans hT4);clear hX4 hT4;have hP1:P<V.heap.size:=lt_of_block HX1.out.obj;go_upto_region 2 with fail;have hbd:Below V.heap.size V V.drew:=⟨rfl,rfl,rfl,aa _,λ_ _=>rfl⟩;have HXd:=hid (HX1.out.below hbd)
  obtain⟨w5,hrun,hown5,hturn5⟩:=HXd.out.map.store law_st Tryz.underlying87 hml (key_st (⟨t,r⟩:Gst) HGI.out.1 HGI.out.2) (val:= .agg #[]) unitElem_mk;have hg5:=hturn5.grown;have HM5:=hid (HXd.out.mput (g:=⟨⟨t,r⟩,n,u,⟨ut,ur⟩,ops⟩) hg5 hown5);have HS2:=hid (show V.drew.heap[w.heap.size]? =some (.cells #[t,r,n,.slice dA u.length dc,ut,ur,.slice oA ops.length oc] 45 (0,0))∧V.drew.heap[P]? =some (.cells #[X1.dv,X1.wv,.map (some X1.bm),.slice X1.vA v.length X1.vc] 89 (0,0)) from⟨HC4.out,HX1.out.obj⟩);have HC5:=hid ((hg5.block w.heap.size (lt_of_block HS2.out.1) (λe=>by injection e with e;rw[HBM.out] at e;omega)).trans HS2.out.1);have HO5:=hid ((hg5.block P (lt_of_block HS2.out.2) (λe=>by injection e with e;exact HX1.out.pm e)).trans HS2.out.2);clear hown5 hturn5 hg5;refine aY (S:=λw'=>w'.heap[w.heap.size]? =some (.cells #[t,r,n,.slice dA u.length dc,ut,ur,.slice oA ops.length oc] 45 (0,0))∧w'.heap[P]? =some (.cells #[X1.dv,X1.wv,.map (some X1.bm),.slice X1.vA v.length X1.vc] 89 (0,0))) (by kernel_rfl) ?_
  try(change wpAnyH _ _ _ _ _ _ _ _ (World.drew _))
  refine tk 0 (.pointer (some ⟨P,0,none⟩)) (HS2.out) ?_;go_simp;refine tk 1 (.pointer (some ⟨P,0,none⟩)) (HS2.out) ?_;go_simp;refine tk 2 (.pointer (some ⟨P,2,none⟩)) (HS2.out) ?_;go_simp;refine tk2 3 (.map (some X1.bm)) rfl (Or.inl ⟨by rfl,λW' hW'=>by(have c_:W'.cell? ⟨P,2,none⟩=some (.map (some X1.bm)):=(by rw[crw hW'.2];rfl);go_simp)⟩) (HS2.out) ?_;go_simp;refine tk 4 (.pointer (some ⟨w.heap.size,0,none⟩)) (HS2.out) ?_;go_simp;refine tk2 5 (.agg #[t,r]) rfl (Or.inl ⟨by rfl,λW' hW'=>by(have c0:W'.cell? ⟨w.heap.size,0,none⟩=some (.int .i64 t):=(by rw[crw hW'.1];rfl);have c1:W'.cell? ⟨w.heap.size,1,none⟩=some (.int .i64 r):=(by rw[crw hW'.1];rfl);go_simp)⟩) (HS2.out) ?_;go_simp;refine tk 6 (.agg #[]) (HS2.out) ?_;go_simp;refine rd1 7 λK hK=> ?_;go_simp;refine hK.out _ _ (⟨HC5.out,HO5.out⟩) (λ_=> ?_);clear hK K;refine bp (by kernel_rfl) ?_ _;go_simp;obtain⟨hX6,hT6⟩:=HM5.out;have HX6:=hid hX6;have HT6:=hid (HT1.out.trans ((BTo.of_below hbd).trans hT6));clear hX6 hT6 HM5 hrun HXd HS2 hbd;go_upto_region 3 with fail;have hbd:Below w5.heap.size w5 w5.drew:=⟨rfl,rfl,rfl,aa _,λ_ _=>rfl⟩;have HX7:=hid (HX6.out.below hbd);have HT7:=hid (HT6.out.trans (BTo.of_below hbd));have HWI:=hid (with_any X1.vA X1.vc v q n w5.drew (by have:=HX6.out.vlen;omega) hq16 (VecS.vec HX7.out.vec));rw[<-HQ.out] at HWI;have d7:w5.drew.cell? ⟨P,3,none⟩=some (.slice X1.vA v.length X1.vc):=by rw[HX7.out.cell];rfl
  refine aY (S:=λw'=>w'.heap[w.heap.size]? =some (.cells #[t,r,n,.slice dA u.length dc,ut,ur,.slice oA ops.length oc] 45 (0,0))) (by kernel_rfl) ?_
  try(change wpAnyH _ _ _ _ _ _ _ _ (World.drew _))
  refine tk 0 (.pointer (some ⟨P,0,none⟩)) ((show w5.drew.heap[w.heap.size]? =_ from HC5.out)) ?_;go_simp;refine tk 1 (.pointer (some ⟨P,0,none⟩)) ((show w5.drew.heap[w.heap.size]? =_ from HC5.out)) ?_;go_simp;refine tk 2 (.pointer (some ⟨P,0,none⟩)) ((show w5.drew.heap[w.heap.size]? =_ from HC5.out)) ?_;go_simp;refine tk 3 (.pointer (some ⟨P,3,none⟩)) ((show w5.drew.heap[w.heap.size]? =_ from HC5.out)) ?_;go_simp;refine tk 5 (.pointer (some ⟨w.heap.size,0,none⟩)) ((show w5.drew.heap[w.heap.size]? =_ from HC5.out)) ?_;go_simp;refine tk 6 (.pointer (some ⟨w.heap.size,1,none⟩)) ((show w5.drew.heap[w.heap.size]? =_ from HC5.out)) ?_;go_simp;refine tk2 7 (.int .i64 r) rfl (Or.inl ⟨by rfl,λW' hW'=>by(have c_:W'.cell? ⟨w.heap.size,1,none⟩=some (.int .i64 r):=(by rw[crw hW'];rfl);go_simp)⟩) ((show w5.drew.heap[w.heap.size]? =_ from HC5.out)) ?_;go_simp;refine tk 8 (.pointer (some ⟨w.heap.size,2,none⟩)) ((show w5.drew.heap[w.heap.size]? =_ from HC5.out)) ?_;go_simp;refine tk2 9 (.int .i64 n) rfl (Or.inl ⟨by rfl,λW' hW'=>by(have c_:W'.cell? ⟨w.heap.size,2,none⟩=some (.int .i64 n):=(by rw[crw hW'];rfl);go_simp)⟩) ((show w5.drew.heap[w.heap.size]? =_ from HC5.out)) ?_;go_simp;refine rd1 4 λK hK=> ?_;go_simp;refine hK.out _ _ ((show w5.drew.heap[w.heap.size]? =_ from HC5.out)) (λ_=> ?_);clear hK K;refine rd1 10 λK hK=> ?_;go_simp;refine HWI.out.mono ?_;rintro e w8 ⟨hB8,A8,c8,rfl,hv8,hc8,hm8⟩
  have HC8:=hid ((hB8.block w.heap.size (lt_of_block HC5.out)).trans (show w5.drew.heap[w.heap.size]? =_ from HC5.out));have HVP:=hid (HX7.out.vput (u:=eS v r n) hB8 hv8 hc8 hm8 (withV_len _ _ _ HX6.out.vlen (by rw[HQ.out];omega)));have d8:w8.cell? ⟨P,3,none⟩=some (.slice X1.vA v.length X1.vc):=by rw[crw ((hB8.block P (lt_of_block HX7.out.obj)).trans HX7.out.obj)];rfl
  have f8:w8.frozen? ⟨P,3,none⟩=false:=aS _ _ _ _ _ ((hB8.block P (lt_of_block HX7.out.obj)).trans HX7.out.obj);clear hB8 hv8 hc8 hm8;go_simp;refine hK.out _ _ (HC8.out) (λ_=> ?_);clear hK K;refine tk 11 (.tuple #[.slice A8 (eS v r n).length c8,(0:Int)]) (HC8.out) ?_;go_simp;refine tk 12 (.slice A8 (eS v r n).length c8) (HC8.out) ?_;go_simp;refine tk 13 (.int .i64 0) (HC8.out) ?_;go_simp;refine tk 14 (.pointer (some ⟨P,0,none⟩)) (HC8.out) ?_;go_simp;refine tk 15 (.pointer (some ⟨P,3,none⟩)) (HC8.out) ?_;go_simp;refine rd1 16 λK hK=> ?_;go_simp;have HC9:=hid ((bB w8 ⟨P,3,none⟩ (.slice A8 (eS v r n).length c8) w.heap.size (by show w.heap.size≠P;omega)).trans HC8.out);refine hK.out _ _ (HC9.out) (λ_=> ?_);clear hK K;refine bp (by kernel_rfl) ?_ _;go_simp;obtain⟨hX9,hT9⟩:=HVP.out;go_wp2;go_end0;exact⟨rfl,_,_,hX9,HT7.out.trans hT9⟩
end
section
open Go.RowKit Go.Lib Go.Sort
theorem putL_size:∀(vs:List Value) (o:Nat) (c:Array Value),(putL c o vs).size=c.size
 | [],_,_=>rfl
 |v::vs,o,c=>by rw[putL,putL_size vs];simp
theorem putL_get:∀(vs:List Value) (o:Nat) (c:Array Value) (i:Nat),o+vs.length<=c.size->(putL c o vs)[i]? =if o<=i∧i<o+vs.length then vs[i-o]? else c[i]?
 | [],o,c,i,h=>by rw[putL,aE (by simp)]
 | v::vs,o,c,i,h=>by
  have hl:(v::vs).length=vs.length+1:=rfl
  rw[putL,putL_get vs (o+1) _ i (by simp;omega)]
  by_cases h1:o+1<=i∧i<o+1+vs.length
  ·rw[aN h1,aN (by omega)]
   obtain⟨k,rfl⟩:∃k,i=o+1+k:=⟨i-(o+1),by omega⟩
   rw[show o+1+k-(o+1)=k by omega,show o+1+k-o=k+1 by omega]
   rfl
  ·rw[aE h1]
   by_cases h2:i=o
   ·subst h2
    rw[aN (by omega),iQ,Array.getElem?_setIfInBounds_self_of_lt (by omega)]
    rfl
   ·rw[aE (by omega),Array.getElem?_setIfInBounds_ne (λe=>h2 e.symm)]
theorem run_clear_elem {P:Program} (w:World) (t e h:TypeId) (z:Value) (k:P.underlying t=some (.slice e)) (l:∀w,(zeroValue e).run P w= .ok z w) (d:∀v∈z.cells.toList,v.oneCell'=true) (b o c:Nat)
  (m:∀j,j<z.cells.size->(w.cell? ⟨b,o+j,none⟩).isSome=true) (n:∀j,j<z.cells.size->w.frozen? ⟨b,o+j,none⟩=false):
  (Builtin.clear_ #[t] h #[.slice (some ⟨b,o,none⟩) 1 c]).run P w= .ok (.tuple #[]) (w.setCells b o z.cells.toList):=by
 have g:(Builtin.zeroCells z.cells 1).toList=z.cells.toList:=by
  simp[Builtin.zeroCells];apply List.ext_getElem
  ·simp
  ·intro i d f;simp at d f;simp[gx f];exact getElem!_pos z.cells i f
 have a:=run_storeCells_cells (P:=P) b o z.cells.toList 0 w (by simpa using m) (by simpa using n) d;simp only[Nat.add_zero] at a;simp[Builtin.clear_,run_underlying k,l,g,a]
theorem kw (M:List (Grp×GrX)) (k:Nat):(M.drop k).flatMap grC_=(M.flatMap grC_).drop (k*7):=by
 induction M generalizing k with
 |nil=>simp
 | cons x a ih=>
  cases k with
  |zero=>simp
  |succ k=>
   rw[List.drop_succ_cons,ih,cG,show(k+1)*7=(grC_ x).length+k*7 from by show _=7+k*7;omega,List.drop_append];simp
theorem flat_take (M:List (Grp×GrX)) (k:Nat):(M.take k).flatMap grC_=(M.flatMap grC_).take (k*7):=by
 induction M generalizing k with
 |nil=>simp
 | cons x a ih=>
  cases k with
  |zero=>simp
  |succ k=>
   rw[List.take_succ_cons,cG,ih,cG,show(k+1)*7=(grC_ x).length+k*7 from by show _=7+k*7;omega,List.take_append];simp;exact(eB (Nat.le_add_right _ _)).symm
theorem flat_erase (M:List (Grp×GrX)) (k:Nat):(M.eraseIdx k).flatMap grC_=(M.flatMap grC_).take (k*7)++(M.flatMap grC_).drop ((k+1)*7):=by
 rw[List.eraseIdx_eq_take_drop_succ,aK,flat_take,kw]
end
section
open Go.RowKit Go.Lib Go.Sort
attribute [local go_sem ↓] Go.wp_at_zero Go.wp_at_succ
theorem zeroGr (w:World):(zeroValue 45).run Tryz.prog w= .ok (.agg #[(0:Int),(0:Int),(0:Int),.slice none 0 0,(0:Int),(0:Int),.slice none 0 0]) w:=by kernel_rfl
theorem bxdelete_any {B:Nat} {wv:Value} {M:List (Grp×GrX)} {w:World} (k:Nat) (hO:w.ownsRow B 45 7 wv M.length (M.flatMap grC_)) (hk:k<M.length) (hl:M.length<=1000000):
  Calls Tryz.prog 100 #[wv,(k:Int),.int .i64 ((k:Int)+1)] w λe w'=>∃wv',e= .returned wv'∧w'.ownsRow B 45 7 wv' (M.eraseIdx k).length ((M.eraseIdx k).flatMap grC_)∧w.grownBy w' wv.ownBlock∧wv'.ownBlock=wv.ownBlock:=by
 obtain⟨i0,hi,hz0,hz1,hz2⟩:=bx ib;obtain⟨p,hn⟩:∃p,M.length=p+1:=⟨M.length-1,by omega⟩;have hlx:(M.flatMap grC_).length=(p+1)*7:=by rw[kL,hn]
 have hle:(M.eraseIdx k).length=p:=by rw[List.length_eraseIdx,aN hk,hn];rfl
 rw[hn] at hO hk hl;rcases hO.2 with⟨-,h0⟩|⟨g,cap,cur,rfl,hBg,hg,hnc,hcm,hsz,htk⟩
 ·omega
 have hcap:cap<=9223372036854775807:=by unfold maxLen at hcm;omega
 have glt:=lt_of_block hg;obtain⟨q,hq⟩:∃q,k+q=p:=⟨p-k,by omega⟩;obtain⟨news,hnews⟩:∃l:List Value,l=(M.drop (k+1)).flatMap grC_:=⟨_,rfl⟩;have hnl:news.length=q*7:=by rw[hnews,kL,cb,hn];congr 1;omega
 have hnd:∀j,news[j]? =if j<q*7 then cur[(k+1)*7+j]? else none:=λj=>by
  rw[hnews,kw,jG,<-htk,dx,ee];by_cases h:j<q*7
  ·rw[aN h,aN (by omega)]
  ·rw[aE h,aE (by omega)]
 obtain⟨ad,ha1,ha2⟩:∃ad:Addr,(cap=k+1->ad=⟨g,0,none⟩)∧(¬cap=k+1->ad=⟨g,(k+1)*7,none⟩):=by
  by_cases hc:cap=k+1
  ·exact⟨_,λ_=>rfl,λh=>absurd hc h⟩
  ·exact⟨_,λh=>absurd h hc,λ_=>rfl⟩
 have hsrc:∀j u,news[j]? =some u->w.drew.cell? (ad.add j)=some u:=λj u hu=>by
  have hj:j<q*7:=by have:=(eD.1 hu).1;omega
  rw[ha2 (by omega),Addr.add_mid];show w.cell? _=_;rw[crw hg];rw[hnd,aN hj] at hu;exact hu
 have h1n:∀u∈news,u.oneCell'=true:=λu hu=>by
  rw[hnews] at hu;obtain⟨x,-,hx⟩:=dS.1 hu;exact iU x u hx
 obtain⟨c1,hc1⟩:∃c,c=putL cur (0+k*7) news:=⟨_,rfl⟩;have hc1s:c1.size=cap*7:=by rw[hc1,putL_size,hsz]
 have hset1:w.drew.setCells g (0+k*7) news=w.drew.setRow g c1:=by rw[fu g 45 news _ cur w.drew hg,hc1]
 obtain⟨c2,hc2⟩:∃c,c=putL c1 (p*7) [(0:Int),(0:Int),(0:Int),.slice none 0 0,(0:Int),(0:Int),.slice none 0 0]:=⟨_,rfl⟩;have hg1:(w.drew.setRow g c1).heap[g]? =some (.cells c1 45 (0,0)):=aF c1 (show w.drew.heap[g]? =_ from hg);have hset2:(w.drew.setRow g c1).setCells g (p*7) [(0:Int),(0:Int),(0:Int),.slice none 0 0,(0:Int),(0:Int),.slice none 0 0]=(w.drew.setRow g c1).setRow g c2:=by rw[fu g 45 _ _ c1 _ hg1,hc2]
 have hz:∀W,(zeroValue 45).run Tryz.prog W= .ok (.agg #[(0:Int),(0:Int),(0:Int),.slice none 0 0,(0:Int),(0:Int),.slice none 0 0]) W:=zeroGr;have hclr:∀ty,(Builtin.clear_ #[25] ty #[.slice (some ⟨g,p*7,none⟩) 1 (cap-p)]).run Tryz.prog (w.drew.setRow g c1)= .ok (.tuple #[]) ((w.drew.setRow g c1).setRow g c2):=λty=>by
  rw[<-hset2];refine run_clear_elem _ _ 45 ty _ ci hz (λv hv=>fx (c:=#[(0:Int),(0:Int),(0:Int),.slice none 0 0,(0:Int),(0:Int),.slice none 0 0]) rfl v hv) g (p*7) (cap-p) (λj hj=> ?_) (λj hj=>aS _ _ _ _ _ hg1);have hj:j<7:=hj;rw[crw hg1,dG (by omega)];rfl
 have hfin:((w.drew.setRow g c1).setRow g c2).ownsRow B 45 7 (.slice (some ⟨g,0,none⟩) p cap) (M.eraseIdx k).length ((M.eraseIdx k).flatMap grC_)∧w.grownBy ((w.drew.setRow g c1).setRow g c2) (some g):=by
  refine⟨⟨kL _,.inr ⟨g,cap,c2,by rw[hle],hBg,aF c2 hg1,by omega,hcm,by rw[hc2,putL_size,hc1s],?_⟩⟩,rfl,rfl,rfl,by simp[World.setRow],λi _ hi=> ?_⟩
  ·rw[hle];apply List.ext_getElem?;intro i;rw[dx,ee,flat_erase];by_cases h:i<p*7
   ·rw[aN h,hc2,putL_get _ _ _ _ (by rw[hc1s];show p*7+7<=_;omega),aE (by omega),hc1,putL_get _ _ _ _ (by rw[hsz,hnl];omega)];by_cases h2:i<k*7
    ·rw[aE (by omega),eE (by rw[bf,hlx];omega),dx,aN h2,<-htk,dx,aN (by omega),ee]
    ·rw[aN (by rw[hnl];omega),dy (by rw[bf,hlx];omega),bf,hlx,<-kw,<-hnews];congr 1;omega
   ·rw[aE h,cz (by rw[al,bf,cb,hlx];omega)]
  ·have hi:i≠g:=λe=>hi (by rw[e]);rw[setRow_other _ _ _ _ hi,setRow_other _ _ _ _ hi];rfl
 have hsp:∀j,j<news.length->(w.drew.cell? ⟨g,0+k*7+j,none⟩).isSome=true∧w.drew.frozen? ⟨g,0+k*7+j,none⟩=false:=λj hj=>by
  rw[hnl] at hj;refine⟨?_,aS _ _ _ _ _ (show w.drew.heap[g]? =_ from hg)⟩;show(w.cell? _).isSome=true;rw[crw hg,dG (by omega)];rfl
 have HA1:=hid ha1;have HA2:=hid ha2;have HQ:=hid hq;have HQ2:=hid (show p+1-(k+1)=q by omega);have HSRC:=hid hsrc;have HNL:=hid hnl;have H1N:=hid h1n;have HSP:=hid hsp;have HSET:=hid hset1;have HCLR:=hid hclr;have HFIN:=hid hfin;have HLE:=hid hle;have j1:(0:Int)<=(k:Int):=by omega
 have j2:(k:Int)<=(k:Int)+1:=by omega
 have j3:(k:Int)<=(p:Int):=by omega
 have j4:(p:Int)+1<=(cap:Int):=by omega
 have j5:(0:Int)<=(k:Int)+1:=by omega
 have j6:((k:Int) == (k:Int)+1)=false:=by rw[aL];omega
 have j7:(k:Int)<=(cap:Int):=by omega
 have j8:((k:Int)+1).toNat=k+1:=by omega
 have j9:(k:Int)<=(p:Int)+1:=by omega
 have j10:(k:Int)+1<=(cap:Int):=by omega
 have j11:(k:Int)+1<=(p:Int)+1:=by omega
 have j12:(0:Int)<=(p:Int):=by omega
 have j13:(p:Int)<=(p:Int)+1:=by omega
 have j14:¬cap=p:=by omega
 have j15:((p:Int)+1).toNat=p+1:=by omega
 have j16:(p:Int)<=(cap:Int):=by omega
 have hkq:k+q<=cap:=by omega
 clear hO ha1 ha2 hq hsrc hnl h1n hsp hset1 hclr hfin hle hlx htk hg hsz hn hnews hnd hc1 hc1s hset2 hc2 hg1 hz glt hBg hnc hk;go_enter Tryz.func100,Tryz.ntmps100;go_upto_region 5 with fail;refine aY (S:=λ_=>True) (by kernel_rfl) ?_
 try(change wpAnyH _ _ _ _ _ _ _ _ (World.drew _))
 refine tk 0 (.slice (some ⟨g,0,none⟩) (p+1) cap) (trivial) ?_;go_simp;refine tk 1 (.int .i64 (k:Int)) (trivial) ?_;go_simp;refine tk 2 (.slice (some ⟨g,0,none⟩) k cap) (trivial) ?_;go_simp;refine tk 3 (.slice (some ⟨g,0,none⟩) (p+1) cap) (trivial) ?_;go_simp;refine tk 4 (.int .i64 ((k:Int)+1)) (trivial) ?_;go_simp;refine tk2 5 (.slice (some ad) q (cap-(k+1))) rfl (Or.inl ⟨by rfl,λW' hW'=>by(rw[<-HQ2.out];rcases cX (cap=k+1) with hc|hc;(focus(rw[HA1.out hc];go_simp;(try omega);(try simp)));(rw[HA2.out hc];go_simp;(try simp[hc])))⟩) (trivial) ?_;go_simp;refine rd1 6 λK hK=> ?_;refine step_append_room (by rfl) _ _ 25 (by rfl) 45 i0 7 ci hi hz1 g 0 k cap (by rfl) ad q (cap-(k+1)) news (by rfl) HNL.out HSRC.out H1N.out hkq HSP.out ?_;rw[HSET.out,HQ.out];refine hK.out _ _ (trivial) (λ_=> ?_);clear hK K;refine tk 7 (.slice (some ⟨g,0,none⟩) p cap) (trivial) ?_;go_simp;refine bp (by kernel_rfl) ?_ _;go_simp;generalize hV:w.drew.setRow g c1=V at *;clear hV;go_wp2;rw[HCLR.out];simp only[Result.andThen];rw[Oper.upon_value];go_wp2;go_ret;exact⟨_,rfl,HFIN.out.1,HFIN.out.2,rfl⟩
end
end Go.Proofs.YtkhmicndehlneaaGreatDoor
