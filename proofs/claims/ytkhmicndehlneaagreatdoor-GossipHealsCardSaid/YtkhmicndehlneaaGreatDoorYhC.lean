/- Part 29 of the walks and plain laws that this claim uses, joined. Conditions: as each theorem states. -/
import Derived.Test.YtkhmicndehlneaaGreatDoorYhB
namespace Go.Proofs.YtkhmicndehlneaaGreatDoor
set_option maxRecDepth 100000
set_option maxHeartbeats 16000000
set_option linter.unusedVariables false
section
open Go.RowKit Go.Lib Go.Sort
structure Vok (V v:List Int):Prop where
 pl:bW v=v
 len:v.length<=3
 le:∀r,0<=atV v r∧atV v r<=atV V r
structure HOk (n:Nat) (gs:List (Grp×GrX)) (kn:List (List Int)) (V:List Int):Prop where
 chk:∀p∈gs,chkB p.1=true
 nd:(gs.map (·.1.s)).Nodup
 ah:dM [] (gs.map Prod.fst)=some V
 len:gs.length<=n
 one:∀p∈gs,p.1.ops.length<=1
 sml:∀p∈gs,∀o∈p.1.ops,o.dots.length<=16∧o.elems.length<=3∧o.text.size<=2∧o.name.size<=1
 r3:∀p∈gs,p.1.s.r<=3∧p.1.deps.length<=3∧p.1.s.t<=n∧p.1.n<=n
 vn:∀r,atV V r<=n
 kl:kn.length=3
 kv:∀i,i<3->Vok V (kn.getD i [])
 ko:∀i:Nat,i<3->atV (kn.getD i []) ((i:Int)+1)=atV V ((i:Int)+1)
theorem atV_getD {v:List Int} {k:Nat}:atV v ((k:Int)+1)=v.getD k 0:=by rw[atV_nat (by omega)];congr 1;omega
theorem HOk.new:HOk 0 [] [[],[],[]] []:=by
 refine⟨λp h=>(by cases h),List.nodup_nil,rfl,aa _,λp h=>(by cases h),λp h=>(by cases h),λp h=>(by cases h),λr=>by rw[atV_nil];exact gO _,rfl,λi hi=> ?_,λi hi=> ?_⟩
 ·have e:([[],[],[]]:List (List Int)).getD i []=[]:=by rcases(show i=0∨i=1∨i=2 by omega) with rfl|rfl|rfl<;>rfl
  rw[e];exact⟨rfl,aq _,λr=>by rw[atV_nil];exact⟨gO _,gO _⟩⟩
 ·have e:([[],[],[]]:List (List Int)).getD i []=[]:=by rcases(show i=0∨i=1∨i=2 by omega) with rfl|rfl|rfl<;>rfl
  rw[e]
theorem Vok.merge {V v u:List Int} (hv:Vok V v) (hu:Vok V u):Vok V (iq v u):=by
 refine⟨pv_pv _,by have:=mergeV_len v u;have:=hv.len;have:=hu.len;omega,λr=> ?_⟩;have e:atV (iq v u) r=max (atV v r) (atV u r):=by
  unfold atV;split
  ·rfl
  ·exact mergeV_getD _ _ _
 have h1:=hv.le r;have h2:=hu.le r;rw[e];omega
theorem Vok.merge_at {V v u:List Int} (hv:Vok V v) (hu:Vok V u) {r:Int} (h:atV v r=atV V r):atV (iq v u) r=atV V r:=by
 have e:atV (iq v u) r=max (atV v r) (atV u r):=by
  unfold atV;split
  ·rfl
  ·exact mergeV_getD _ _ _
 have h2:=hu.le r;rw[e];omega
theorem latT_ge (L:List (Grp×GrX)):0<=latT L∧∀p∈L,p.1.s.t<=latT L:=by
 have:∀(L:List (Grp×GrX)) (t:Int),t<=L.foldl (λt p=>max t p.1.s.t) t∧∀p∈L,p.1.s.t<=L.foldl (λt p=>max t p.1.s.t) t:=by
  intro L;induction L with
  |nil=>exact λt=>⟨gO _,λp h=>(by cases h)⟩
  |cons q L ih=>
   intro t;obtain⟨h1,h2⟩:=ih (max t q.1.s.t);rw[dU];refine⟨by omega,λp hp=> ?_⟩;rcases bY.1 hp with rfl|hp
   ·omega
   ·exact h2 p hp
 exact this L 0
theorem latT_le {L:List (Grp×GrX)} {m:Int} (h0:0<=m) (h:∀p∈L,p.1.s.t<=m):latT L<=m:=by
 have:∀(L:List (Grp×GrX)) (t:Int),t<=m->(∀p∈L,p.1.s.t<=m)->L.foldl (λt p=>max t p.1.s.t) t<=m:=by
  intro L;induction L with
  |nil=>exact λt ht _=>ht
  |cons q L ih=>
   intro t ht h;rw[dU];exact ih _ (by have:=h q (by simp);omega) λp hp=>h p (by simp[hp])
 exact this L 0 h0 h
def gB (L:List (Grp×GrX)) (i:Nat):Gst:=⟨latT L+1,(i:Int)+1⟩
theorem HOk.known {n:Nat} {gs:List (Grp×GrX)} {kn:List (List Int)} {V v:List Int} (h:HOk n gs kn V) (hn:n<16) {i:Nat} (hi:i<3):KnG (dG v gs) (gB (dG v gs) i):=by
 have hm:∀p∈dG v gs,p∈gs:=λp hp=>kE hp;obtain⟨l0,l1⟩:=latT_ge (dG v gs);have l2:=latT_le (L:=dG v gs) (m:=(n:Int)) (by omega) λp hp=>(h.r3 p (hm p hp)).2.2.1;refine⟨λp hp=>h.chk p (hm p hp),?_,λp hp=> ?_,?_,?_,λp hp=>h.one p (hm p hp),λp hp o ho=> ?_⟩
 ·exact((List.filter_sublist (l:=gs)).map _).nodup h.nd
 ·have:=l1 p hp;unfold gB Gst.lt;simp only[ch,ak];left;omega
 ·unfold gB Gst.right;simp only[ap,ak];omega
 ·have:=knownL_len v gs;have:=h.len;omega
 ·have:=h.sml p (hm p hp) o ho;exact⟨this.1,this.2.2.1⟩
structure NextG (L:List (Grp×GrX)) (s:Gst) (u:Gst) (ops:List Gop):Prop where
 how:(u= .zero∧∃o,ops=[o]∧OpOk s o)∨(ops=[]∧∃p∈L,u=p.1.s)
theorem next_chk {n:Nat} {gs:List (Grp×GrX)} {kn:List (List Int)} {V v:List Int} (h:HOk n gs kn V) (hn:n<16) {i:Nat} (hi:i<3) (hv:Vok V v) {u:Gst} {ops:List Gop} (hN:NextG (dG v gs) (gB (dG v gs) i) u ops):
  chkB ⟨gB (dG v gs) i,atV v ((i:Int)+1)+1,v,u,ops⟩=true:=by
 have hk:=h.known (v:=v) hn hi;have h1:=hv.le ((i:Int)+1);have h2:=h.vn ((i:Int)+1);unfold chkB;rw[ap];constructor
 ·unfold gC vecB;simp only[ap,ak,dJ];refine⟨⟨⟨⟨hk.sr,by omega⟩,by omega⟩,⟨⟨λx hx=> ?_,by have:=hv.len;omega⟩,by rw[hv.pl]⟩⟩,?_⟩
  ·obtain⟨k,hk,rfl⟩:=dj.1 hx;have:=(hv.le ((k:Int)+1)).1;rw[atV_getD,ae,an hk] at this;exact this
  ·show atV v ((i:Int)+1)=_;omega
 ·rcases hN.how with⟨rfl,o,rfl,ho⟩|⟨rfl,p,hp,rfl⟩
  ·rw[aJ (by rfl)];simp[opsB,ho.ok]
  ·have hr:=(eC (hk.chk p hp)).1
   rw[aC (by
    intro e;rw[Gst.eqb_iff] at e;have e:p.1.s= .zero:=e;rw[e] at hr
    cases hr)]
   simp only[ap,ak];exact⟨⟨hr,hk.lt p hp⟩,rfl⟩
theorem HOk.next {n:Nat} {gs:List (Grp×GrX)} {kn:List (List Int)} {V v:List Int} (h:HOk n gs kn V) (hn:n<16) {i:Nat} (hi:i<3) (hv:Vok V v) (hvo:atV v ((i:Int)+1)=atV V ((i:Int)+1)) {u:Gst} {ops:List Gop} (hN:NextG (dG v gs) (gB (dG v gs) i) u ops) (x:GrX):
  HOk (n+1) (gs++[(⟨gB (dG v gs) i,atV v ((i:Int)+1)+1,v,u,ops⟩,x)]) (kn.set i (eE v ((i:Int)+1) (atV v ((i:Int)+1)+1))) (eE V ((i:Int)+1) (atV v ((i:Int)+1)+1)):=by
 have hck:=next_chk h hn hi hv hN;have hk:=h.known (v:=v) hn hi;obtain⟨l0,l1⟩:=latT_ge (dG v gs);have l2:=latT_le (L:=dG v gs) (m:=(n:Int)) (by omega) λp hp=>(h.r3 p (kE hp)).2.2.1;have h1:=hv.le ((i:Int)+1);have h2:=h.vn ((i:Int)+1);have hr1:(1:Int)<=(i:Int)+1:=by omega
 have hsub:∀{P:Grp×GrX->Prop},(∀p∈gs,P p)->P (⟨gB (dG v gs) i,atV v ((i:Int)+1)+1,v,u,ops⟩,x)->∀p∈gs++[(⟨gB (dG v gs) i,atV v ((i:Int)+1)+1,v,u,ops⟩,x)],P p:=by
  intro P a b p hp;rcases au.1 hp with hp|hp
  ·exact a p hp
  ·rw[aO] at hp;subst hp;exact b
 refine⟨hsub h.chk hck,?_,?_,by rw[al];have:=h.len;simp;omega,hsub h.one ?_,hsub h.sml ?_,hsub (λp hp=> ?_) ?_,λr=> ?_,by rw[cM];exact h.kl,λj hj=> ?_,λj hj=> ?_⟩
 ·rw[bq,dK];refine⟨h.nd,by simp,λa ha b hb e=> ?_⟩;simp only[List.map_cons,List.map_nil,aO] at hb;subst hb;obtain⟨p,hp,rfl⟩:=bj.1 ha;have h3:=(ahead_in _ h.ah p.1 (bj.2 ⟨p,hp,rfl⟩)).2;have e1:p.1.s.r=(i:Int)+1:=by have e:p.1.s=gB (dG v gs) i:=e;rw[e];rfl
  have e2:p.1.s.t=latT (dG v gs)+1:=by have e:p.1.s=gB (dG v gs) i:=e;rw[e];rfl
  have hin:p∈dG v gs:=by
   unfold dG;rw[g7];refine⟨hp,?_⟩;unfold oldB;rw[ak,e1,hvo,<-e1];exact h3
  have:=l1 p hin;omega
 ·rw[bq];have:=aheadV_snoc h.ah hck (covB_iff.2 λk=>by have:=(hv.le ((k:Int)+1)).2;rwa[atV_getD,atV_getD] at this) (by show atV V ((i:Int)+1)=_;rw[<-hvo];show _=atV v ((i:Int)+1)+1-1;omega);exact this
 ·rcases hN.how with⟨rfl,o,rfl,ho⟩|⟨rfl,p,hp,rfl⟩
  ·exact aa _
  ·exact aq _
 ·rcases hN.how with⟨rfl,o,rfl,ho⟩|⟨rfl,p,hp,rfl⟩
  ·intro o' ho';have ho':o'∈[o]:=ho';rw[aO] at ho';subst ho';exact⟨ho.dl,ho.el,ho.tl,ho.nl⟩
  ·intro o' ho';cases ho'
 ·have:=h.r3 p hp;refine⟨this.1,this.2.1,by have:=this.2.2.1;omega,by have:=this.2.2.2;omega⟩
 ·refine⟨?_,hv.len,?_,?_⟩
  ·show(i:Int)+1<=3;omega
  ·show latT (dG v gs)+1<=((n+1:Nat):Int);omega
  ·show atV v ((i:Int)+1)+1<=((n+1:Nat):Int);omega
 ·rw[fM _ _ _ _ hr1];split
  ·omega
  ·have:=h.vn r;omega
 ·have hle:∀r,atV V r<=atV (eE V ((i:Int)+1) (atV v ((i:Int)+1)+1)) r:=λr=>by
   rw[fM _ _ _ _ hr1];split
   ·rename_i e;subst e;omega
   ·exact gO _
  by_cases hji:j=i
  ·subst hji;rw[ae,gS (by rw[h.kl];exact hj)];refine⟨withV_plain _ _ _,?_,λr=> ?_⟩
   ·show(eE v _ _).length<=3;have h5:=pv_len (setV v ((j:Int)+1) (atV v ((j:Int)+1)+1));have h6:(setV v ((j:Int)+1) (atV v ((j:Int)+1)+1)).length=max v.length ((j:Int)+1).toNat:=by unfold setV;simp
    have h7:=hv.len;unfold eE;omega
   ·show 0<=atV (eE v _ _) r∧atV (eE v _ _) r<=_;rw[fM _ _ _ _ hr1,fM _ _ _ _ hr1];have:=hv.le r;split<;>omega
  ·rw[ae,iv (λe=>hji e.symm),<-ae];have:=h.kv j hj;exact⟨this.pl,this.len,λr=>⟨(this.le r).1,Int.le_trans (this.le r).2 (hle r)⟩⟩
 ·by_cases hji:j=i
  ·subst hji;rw[ae,gS (by rw[h.kl];exact hj)];show atV (eE v _ _) _=_;rw[fM _ _ _ _ hr1,fM _ _ _ _ hr1,aJ rfl,aJ rfl]
  ·rw[ae,iv (λe=>hji e.symm),<-ae,fM _ _ _ _ hr1,aC (by omega)];exact h.ko j hj
theorem HOk.his {n:Nat} {gs:List (Grp×GrX)} {kn:List (List Int)} {V:List Int} (h:HOk n gs kn V):HisG (gs.map Prod.fst):=by
 refine⟨λg hg=> ?_,?_,V,h.ah⟩
 ·obtain⟨p,hp,rfl⟩:=bj.1 hg;exact h.chk p hp
 ·rw[List.map_map];exact h.nd
end
section
open Go.RowKit Go.Lib Go.Sort
attribute [local go_sem ↓] Go.wp_at_zero Go.wp_at_succ
structure KnX where
 A:Option Addr
 c:Nat
 v:List Int
def kn0:KnX:=⟨none,0,[]⟩
def knC (p:KnX):List Value:=[.slice p.A p.v.length p.c]
theorem info_vec:(Tryz.prog.info? 27).map (λi=>(i.zero,i.size,i.bytes))=some (some (.slice none 0 0),1,24):=by kernel_rfl
structure WIn (S:Nat->Prop) (n:Nat) (L:List (Grp×GrX)) (K:List KnX) (V:List Int) (gA:Option Addr) (gc:Nat) (kA:Option Addr) (kc:Nat) (w:World):Prop where
 ok:HOk n L (K.map (·.v)) V
 gr:w.ownsRow 0 45 7 (.slice gA L.length gc) L.length (L.flatMap grC_)
 gs:∀g,(Value.slice gA L.length gc).ownBlock=some g->S g
 gd:∀p∈L,GrG w S p
 kr:w.ownsRow 0 27 1 (.slice kA 3 kc) 3 (K.flatMap knC)
 ks:∀g,(Value.slice kA 3 kc).ownBlock=some g->S g
 kd:∀p∈K,VecS w S p.A p.v∧p.v.length<=p.c∧p.c<=maxLen
def DoneQ (S:Nat->Prop) (n:Nat) (w00:World) (e:Ending) (w':World):Prop:=∃L K V gA gc kA kc,e= .returned (.agg #[.slice gA (List.length L) gc,.slice kA 3 kc])∧WIn S n L K V gA gc kA kc w'∧Below w00.heap.size w00 w'
theorem WIn.below {S:Nat->Prop} {n:Nat} {L:List (Grp×GrX)} {K:List KnX} {V:List Int} {gA kA:Option Addr} {gc kc:Nat} {w w':World} (h:WIn S n L K V gA gc kA kc w) (hB:Below w.heap.size w w'):WIn S n L K V gA gc kA kc w':=
 ⟨h.ok,h.gr.kept (dg (r:=none) hB) (cw _),h.gs,λp hp=>(h.gd p hp).agr (Agr.below hB),h.kr.kept (dg (r:=none) hB) (cw _),h.ks,λp hp=>⟨RowG.agr (h.kd p hp).1 (Agr.below hB),(h.kd p hp).2⟩⟩
theorem HOk.mono {n:Nat} {gs:List (Grp×GrX)} {kn:List (List Int)} {V:List Int} (h:HOk n gs kn V):HOk (n+1) gs kn V:=
 ⟨h.chk,h.nd,h.ah,by have:=h.len;omega,h.one,h.sml,λp hp=>by have:=h.r3 p hp;exact⟨this.1,this.2.1,by have:=this.2.2.1;omega,by have:=this.2.2.2;omega⟩,λr=>by have:=h.vn r;omega,h.kl,h.kv,h.ko⟩
theorem gby_none {w w':World} (h:Below w.heap.size w w'):w.grownBy w' none:=dg h
theorem there_sub {w:World} {g off n:Nat} {T:TypeId} {c:Array Value} (h:w.heap[g]? =some (.cells c T (0,0))) (hs:off+n<=c.size):w.there g off n:=λj hj=>by
 rw[crw h]
 exact⟨by rw[dh (by omega)];rfl,aW _ _ _ _ _ h⟩
theorem ops_one {w:World} {S:Nat->Prop} {ob:Nat} {o:Gop} {x:OpX} {T:TypeId} (h:w.heap[ob]? =some (.cells (opA o x) T (0,0))) (hI:OpIn w S o x) (hS:S ob):OpsS w S (some ⟨ob,0,none⟩) [o]:=by
 refine⟨λ_=>x,λk hk=> ?_,λk hk=> ?_⟩
 ·have hk:k<1:=hk;obtain rfl:k=0:=by omega
  refine⟨ob,0,rfl,hS,lt_of_block h,λj hj=> ?_⟩;rw[Nat.zero_mul,Nat.add_zero,bN,aD _ _ _ _ _ _ h];show(opA o x)[j]? =some ((opA o x).getD j undef);have hs:(opA o x).size=18:=rfl;rw[dh (by omega)];simp[Array.getD,hs,hj]
 ·have hk:k<1:=hk;obtain rfl:k=0:=by omega
  exact hI
theorem knlen {n:Nat} {L:List (Grp×GrX)} {K:List KnX} {V:List Int} (h:HOk n L (K.map (·.v)) V):K.length=3:=by have:=h.kl;simpa using this
theorem kngetD (K:List KnX) (i:Nat):(K.map (·.v)).getD i []=(K.getD i kn0).v:=by
 rw[ae,cT,ae];cases K[i]? <;>rfl
theorem done_any (n:Nat) (L:List (Grp×GrX)) (K:List KnX) (V:List Int) (gA:Option Addr) (gc:Nat) (kA:Option Addr) (kc:Nat) (q0 q1 q2 q3 q4:Nat) (see:Bool) (S:Nat→Prop) (w00:World) (hS:∀b,w00.heap.size≤b→S b) (hn:n<16) (h0:q0≤255) (h1:q1≤255) (h2:q2≤255) (h3:q3≤255) (h4:q4≤255) (hW:WIn S n L K V gA gc kA kc w00):
  Calls Tryz.prog 47 #[.agg #[.slice gA L.length gc,.slice kA 3 kc],.agg #[.int .u8 (q0:Int),.int .u8 (q1:Int),.int .u8 (q2:Int),.int .u8 (q3:Int),.int .u8 (q4:Int),.bool see]] w00 fun e w'=>DoneQ S (n+1) w00 e w':=by
 obtain⟨iV,hV,hy0,hy1,hy2⟩:=bD info_vec
 obtain⟨iG,hG,hz0,hz1,hz2⟩:=bD ia
 have hk3:=knlen hW.ok
 have hl16:=hW.ok.len
 have HW:=hid hW
 clear hW
 go_enter Tryz.func47,Tryz.ntmps47
 go_upto_region 1 with fail
 have sz:=fun (W:World) (o:Obj)=>show(W.alloc o).heap.size=W.heap.size+1 by simp
 have hB3:Below w00.heap.size w00 (((w00.alloc (.cells #[.slice gA L.length gc,.slice kA 3 kc] 83)).alloc (.cells #[.int .u8 (q0:Int),.int .u8 (q1:Int),.int .u8 (q2:Int),.int .u8 (q3:Int),.int .u8 (q4:Int),.bool see] 86)).alloc (.cells #[.slice none 0 0,.slice none 0 0] 83)):=(((ag _ _).alloc (aa _) _).alloc (by rw[sz];omega) _).alloc (by rw[sz,sz];omega) _
 have HBX:=hid (show(((w00.alloc (.cells #[.slice gA L.length gc,.slice kA 3 kc] 83)).alloc (.cells #[.int .u8 (q0:Int),.int .u8 (q1:Int),.int .u8 (q2:Int),.int .u8 (q3:Int),.int .u8 (q4:Int),.bool see] 86)).alloc (.cells #[.slice none 0 0,.slice none 0 0] 83)).heap[w00.heap.size]? =some (.cells #[.slice gA L.length gc,.slice kA 3 kc] 83 (0,0)) from(ax _ _ _ (by rw[sz,sz];omega)).trans ((ax _ _ _ (by rw[sz];omega)).trans (am _ _)))
 have HDO:=hid (show(((w00.alloc (.cells #[.slice gA L.length gc,.slice kA 3 kc] 83)).alloc (.cells #[.int .u8 (q0:Int),.int .u8 (q1:Int),.int .u8 (q2:Int),.int .u8 (q3:Int),.int .u8 (q4:Int),.bool see] 86)).alloc (.cells #[.slice none 0 0,.slice none 0 0] 83)).heap[(w00.heap.size+1)]? =some (.cells #[.int .u8 (q0:Int),.int .u8 (q1:Int),.int .u8 (q2:Int),.int .u8 (q3:Int),.int .u8 (q4:Int),.bool see] 86 (0,0)) from(ax _ _ _ (by rw[sz,sz];omega)).trans (bn _ _ (by rw[sz])))
 have HRZ:=hid (show(((w00.alloc (.cells #[.slice gA L.length gc,.slice kA 3 kc] 83)).alloc (.cells #[.int .u8 (q0:Int),.int .u8 (q1:Int),.int .u8 (q2:Int),.int .u8 (q3:Int),.int .u8 (q4:Int),.bool see] 86)).alloc (.cells #[.slice none 0 0,.slice none 0 0] 83)).heap[(w00.heap.size+1+1)]? =some (.cells #[.slice none 0 0,.slice none 0 0] 83 (0,0)) from bn _ _ (by rw[sz,sz]))
 have HB:=hid hB3
 have HW3:=hid (HW.out.below hB3)
 generalize hw:(((w00.alloc (.cells #[.slice gA L.length gc,.slice kA 3 kc] 83)).alloc (.cells #[.int .u8 (q0:Int),.int .u8 (q1:Int),.int .u8 (q2:Int),.int .u8 (q3:Int),.int .u8 (q4:Int),.bool see] 86)).alloc (.cells #[.slice none 0 0,.slice none 0 0] 83))=w at *
 have HW0:=hid HW.out
 clear hw hB3 HW sz
 have d1:w.cell? ⟨w00.heap.size+1,1,none⟩=some (.int .u8 (q1:Int)):=aD _ _ _ _ _ _ HDO.out
 obtain⟨i,hi⟩:∃i,i=q1 % 3:=⟨_,rfl⟩
 have hi3:i<3:=by omega
 have hit:(q1:Int).tmod 3=(i:Int):=by rw[ee (by omega),hi];rfl
 clear hi
 go_upto_region 2 with fail
 clear d1
 rw[show(1+(i:Int))=(i:Int)+1 by omega]
 obtain⟨kb,ekA,-,hkl,hkr⟩:=cz (f:=knC) (fun _=>rfl) hk3.symm HW3.out.kr hi3 kn0
 cases ekA
 have HKV:=hid (show VecS w (fun b=>b≠w00.heap.size+1+1∧S b) (K.getD i kn0).A (K.getD i kn0).v∧(K.getD i kn0).v.length≤(K.getD i kn0).c∧(K.getD i kn0).c≤maxLen from by
  have h9:=HW0.out.kd _ (bL (show i<K.length by omega) kn0)
  exact⟨RowG.agr (RowG.sub (T:=fun b=>b≠w00.heap.size+1+1∧S b) h9.1 (fun b hb hs=>⟨by omega,hs⟩)) (Agr.grown (row:=none) (gby_none HB.out) (fun g e=>by cases e)),h9.2⟩)
 have HVO:=hid (show Vok V (K.getD i kn0).v∧atV (K.getD i kn0).v ((i:Int)+1)=atV V ((i:Int)+1) by rw[←kngetD];exact⟨HW3.out.ok.kv i hi3,HW3.out.ok.ko i hi3⟩)
 generalize K.getD i kn0=p0 at *
 obtain⟨vA0,vc0,v0⟩:=p0
 have x1:w.cell? ⟨w00.heap.size,1,none⟩=some (.slice (some ⟨kb,0,none⟩) 3 kc):=aD _ _ _ _ _ _ HBX.out
 have x2:w.cell? ⟨kb,i,none⟩=some (.slice vA0 v0.length vc0):=by have h9:=hkr 0 _ rfl;rwa[jE,Nat.add_zero] at h9
 have x3:(0:Int)≤(i:Int):=by omega
 have x4:(i:Int)<3:=by omega
 have d5:w.cell? ⟨w00.heap.size+1,5,none⟩=some (.bool see):=aD _ _ _ _ _ _ HDO.out
 clear hkr
 go_upto_if 29 with fail
 clear x1 x2 d5
 go_cut [6] (fun s wx=>∃(vA:Option Addr) (vc:Nat) (v:List Int),s= .slice vA v.length vc∧Hid (Vok V v∧atV v ((i:Int)+1)=atV V ((i:Int)+1))∧Hid (VecS wx (fun b=>b≠w00.heap.size+1+1∧S b) vA v∧v.length≤vc∧vc≤maxLen)∧Hid (Below w.heap.size w wx))
 case first=>
  cases see with
  |false=>
   go_wp2
   go_meet
   exact⟨vA0,vc0,v0,rfl,HVO,HKV,hid (ag _ _)⟩
  | true=>
   go_upto_region 5 with fail
   go_loopg [6,7] 3 (fun g0 s ix wr=>∃(j:Nat) (vA:Option Addr) (vc:Nat) (v:List Int),j+g0=3∧ix= .int .i64 j∧s= .slice vA v.length vc∧Hid (Vok V v∧atV v ((i:Int)+1)=atV V ((i:Int)+1))∧Hid (VecS wr (fun b=>b≠w00.heap.size+1+1∧S b) vA v∧v.length≤vc∧vc≤maxLen)∧Hid (Below w.heap.size w wr))
   case atStart=>exact⟨0,vA0,vc0,v0,rfl,rfl,rfl,HVO,HKV,hid (ag _ _)⟩
   case round=>
    obtain⟨j,vA,vc,v,hj,rfl,rfl,HVj,HSj,HBj⟩:=hrel
    have HX:=hid ((HBj.out.block _ (lt_of_block HBX.out)).trans HBX.out)
    have y1:wr.cell? ⟨w00.heap.size,1,none⟩=some (.slice (some ⟨kb,0,none⟩) 3 kc):=aD _ _ _ _ _ _ HX.out
    by_cases hj3:j<3
    ·have j1:(0:Int)≤(j:Int):=by omega
     have j2:(j:Int)<3:=by omega
     obtain⟨kb2,e2,-,hkl2,hkr2⟩:=cz (f:=knC) (fun _=>rfl) hk3.symm (HW3.out.below HBj.out).kr hj3 kn0
     cases e2
     have HKJ:=hid ((HW3.out.below HBj.out).kd _ (bL (show j<K.length by omega) kn0))
     have HVJ:=hid (show Vok V (K.getD j kn0).v by rw[←kngetD];exact HW3.out.ok.kv j hj3)
     generalize K.getD j kn0=p9 at *
     obtain⟨uA,uc,u⟩:=p9
     have y2:wr.cell? ⟨kb,j,none⟩=some (.slice uA u.length uc):=by have h9:=hkr2 0 _ rfl;rwa[jE,Nat.add_zero] at h9
     have HMG:=hid (refmerge_any vA uA vc uc v u wr (by have:=HVj.out.1.len;omega) (by have h9:Vok V u:=HVJ.out;have:=h9.len;omega) HSj.out.1.vec (VecS.vec HKJ.out.1))
     clear hkr2
     go_wp2_with (go_at_call 87;refine HMG.out.mono ?_;rintro e w2 ⟨mA,mc,rfl,hv2,hlc,hcm,hB2⟩;have HV2:=hid hv2;have HB2:=hid hB2;clear hv2 hB2)
     go_roundg (3-(j+1))
     case measure=>omega
     case rel=>exact⟨j+1,mA,mc,iq v u,by omega,by go_num,rfl,hid ⟨HVj.out.1.merge HVJ.out,HVj.out.1.merge_at HVJ.out HVj.out.2⟩,hid ⟨RowG.sub HV2.out (fun b _ (hb:wr.heap.size≤b)=>by have:=HBj.out.size;have:=lt_of_block HRZ.out;exact⟨by omega,hS b (by omega)⟩),hlc,hcm⟩,hid (HBj.out.trans (HB2.out.mono HBj.out.size))⟩
    ·have j2:¬(j:Int)<3:=by omega
     go_wp2
     go_meet
     exact⟨vA,vc,v,rfl,HVj,HSj,HBj⟩
 case rest=>
  obtain⟨vA,vc,v,rfl,HVV,HSV,HBC⟩:=hcut
  generalize wc=w1 at *
  have HX:=hid ((HBC.out.block _ (lt_of_block HBX.out)).trans HBX.out)
  have HD:=hid ((HBC.out.block _ (lt_of_block HDO.out)).trans HDO.out)
  have HZ:=hid ((HBC.out.block _ (lt_of_block HRZ.out)).trans HRZ.out)
  have HW1:=hid (HW3.out.below HBC.out)
  have hw0:=HB.out.size
  have HB1:=hid (HB.out.trans (HBC.out.mono HB.out.size))
  clear HKV HVO HBX HDO HRZ HW3 HBC HB
  have hvl:v.length≤3:=HVV.out.1.len
  obtain⟨KL,hKL⟩:∃X,X=dG v L:=⟨_,rfl⟩
  have hkll:KL.length≤L.length:=by rw[hKL];exact knownL_len v L
  have HKN:=hid (show Calls Tryz.prog 88 #[.slice gA L.length gc,.slice vA v.length vc] w1 fun e w'=>∃A' c',e= .returned (.slice A' KL.length c')∧w'.ownsRow w1.heap.size 45 7 (.slice A' KL.length c') KL.length (KL.flatMap grC_)∧Below w1.heap.size w1 w' by rw[hKL];exact known_any L gA gc vA vc v w1 (by omega) (by omega) (RowGr.own HW1.out.gr) HSV.out.1.vec)
  have HG1:=hid (show ∀p∈KL,GrG w1 S p from fun p hp=>HW1.out.gd p (by rw[hKL] at hp;exact kE hp))
  have HKK:=hid (show KnG KL ⟨latT KL+1,(i:Int)+1⟩ by rw[hKL];exact HW1.out.ok.known hn hi3)
  have HKE:=hid hKL
  clear hKL
  have z1:w1.cell? ⟨w00.heap.size,0,none⟩=some (.slice gA L.length gc):=aD _ _ _ _ _ _ HX.out
  go_upto_region 9 with(go_at_call 88;refine HKN.out.mono ?_;rintro e w2 ⟨lA,lc,rfl,hown2,hB2⟩;have HO2:=hid hown2;have HB2:=hid hB2;clear hown2 hB2)
  clear z1
  have HAT:=hid (fh vA vc v ((i:Int)+1) w2 (by omega) (VecS.vec (RowG.agr HSV.out.1 (Agr.below HB2.out))))
  obtain⟨av,hav⟩:∃x,x=atV v ((i:Int)+1):=⟨_,rfl⟩
  rw[←hav] at HAT
  have hav2:0≤av∧av≤16:=by have h9:=HVV.out.1.le ((i:Int)+1);have h8:=HW1.out.ok.vn ((i:Int)+1);rw[hav];omega
  have HAV:=hid hav
  clear hav
  have HLT:=hid (fun W (hB:Below w2.heap.size w2 W)=>latest_any KL lA lc W (by omega) ((RowGr.own HO2.out).below hB))
  obtain⟨tt,htt⟩:∃x,x=latT KL:=⟨_,rfl⟩
  rw[←htt] at HLT HKK
  have htt2:0≤tt∧tt≤16:=by
   have h9:=(latT_ge KL).1
   have h8:=latT_le (L:=KL) (m:=(n:Int)) (by omega) fun p hp=>(HW1.out.ok.r3 p (by rw[HKE.out] at hp;exact kE hp)).2.2.1
   rw[htt];omega
  have HTT:=hid htt
  clear htt
  go_upto_region 11 with(first
   |(go_at_call 89;refine(HLT.out _ (by first|exact HB3.out|exact ag _ _)).mono ?_;rintro e w3 ⟨rfl,hB3⟩;have HB3:=hid hB3;clear hB3)
   |(go_at_call 55;refine HAT.out.mono ?_;rintro e w3 ⟨rfl,rfl⟩))
  obtain⟨w4,hw4⟩:∃W,W=w3.alloc (.cells #[.int .i64 (tt+1),.int .i64 ((i:Int)+1),.int .i64 (av+1),.slice vA v.length vc,.int .i64 0,.int .i64 0,.slice none 0 0] 45):=⟨_,rfl⟩
  rw[←hw4]
  have HB13:=hid (HB2.out.trans (HB3.out.mono HB2.out.size))
  have HGB:=hid (show w4.heap[w3.heap.size]? =some (.cells #[.int .i64 (tt+1),.int .i64 ((i:Int)+1),.int .i64 (av+1),.slice vA v.length vc,.int .i64 0,.int .i64 0,.slice none 0 0] 45 (0,0)) by rw[hw4];exact am _ _)
  have hB4:Below w3.heap.size w3 w4:=by rw[hw4];exact(ag _ _).alloc (aa _) _
  have HB4:=hid hB4
  have hs4:w4.heap.size=w3.heap.size+1:=by rw[hw4];simp
  have h13:=HB13.out.size
  have hz:=lt_of_block HZ.out
  have HX3:=hid ((HB13.out.block _ (lt_of_block HX.out)).trans HX.out)
  have HD3:=hid ((HB13.out.block _ (lt_of_block HD.out)).trans HD.out)
  have HZ3:=hid ((HB13.out.block _ (lt_of_block HZ.out)).trans HZ.out)
  have HS3:=hid (And.intro (RowG.agr HSV.out.1 (Agr.below HB13.out)) HSV.out.2)
  have HO3:=hid (HO2.out.kept (dg (r:=none) HB3.out) (cw _))
  have HG3:=hid (fun p hp=>(HG1.out p hp).agr (Agr.below HB13.out))
  have HBA:=hid (HB1.out.trans (HB13.out.mono HB1.out.size))
  clear hw4 HX HD HZ HSV HO2 HG1 HB13 HB3 HB2 HLT HAT HKN
  have d0:w4.cell? ⟨w00.heap.size+1,0,none⟩=some (.int .u8 (q0:Int)):=aD _ _ _ _ _ _ ((hB4.block _ (lt_of_block HD3.out)).trans HD3.out)
  obtain⟨b7,hb7⟩:∃b,b=((q0:Int) % 8 == 7):=⟨_,rfl⟩
  have q7:((q0:Int) % 8 == 7)=b7:=hb7.symm
  clear hb7
  go_upto_if 63 with fail
  clear d0
  go_cut [] (fun wx=>∃(u:Gst) (ops:List Gop) (oA:Option Addr) (oc:Nat),Hid (wx.heap[w3.heap.size]? =some (.cells #[.int .i64 (tt+1),.int .i64 ((i:Int)+1),.int .i64 (av+1),.slice vA v.length vc,.int .i64 u.t,.int .i64 u.r,.slice oA ops.length oc] 45 (0,0)))∧Hid (NextG KL ⟨tt+1,(i:Int)+1⟩ u ops)∧Hid (OpsS wx (fun b=>w3.heap.size<b) oA ops∧ops.length≤oc∧oc≤maxLen)∧Hid (Below w3.heap.size w3 wx))
  case first=>
   cases b7 with
   | true=>
    by_cases hk0:KL.length=0
    ·have e0:((KL.length:Int) == 0)=true:=by simp[hk0]
     have HX4:=hid ((HB4.out.block _ (lt_of_block HX3.out)).trans HX3.out)
     have HZ4:=hid ((HB4.out.block _ (lt_of_block HZ3.out)).trans HZ3.out)
     have HBA4:=hid (HBA.out.trans (HB4.out.mono HBA.out.size))
     go_upto_region 13 with fail
     obtain⟨V9,hV9⟩:∃X,X=w4.setRow (w00.heap.size+1+1) #[.slice gA L.length gc,.slice (some ⟨kb,0,none⟩) 3 kc]:=⟨_,rfl⟩
     have HV9:=hid hV9
     have HZ9:=hid (show V9.heap[(w00.heap.size+1+1)]? =some (.cells #[.slice gA L.length gc,.slice (some ⟨kb,0,none⟩) 3 kc] 83 (0,0)) by rw[hV9];exact aM _ HZ4.out)
     have hg9:w4.grownBy V9 (some (w00.heap.size+1+1)):=by rw[hV9];exact dR _ _ _
     have HB9:=hid (HBA4.out.grown hg9 HBA4.out.size (fun b e=>by cases e;omega))
     have HAL9:=hid (show(#[.slice gA L.length gc,.slice (some ⟨kb,0,none⟩) 3 kc]:Array Value).toList.all (·.oneCell')=true by rfl)
     clear hV9 hg9
     go_wp2_with (first
      |(refine cu rfl _ _ rfl w00.heap.size _ _ _ rfl HX4.out jo rfl ?_ ?_;kernel_rfl)
      |(refine da rfl _ _ _ rfl (w00.heap.size+1+1) 83 #[.slice none 0 0,.slice none 0 0] #[.slice gA L.length gc,.slice (some ⟨kb,0,none⟩) 3 kc] rfl rfl HZ4.out (by kernel_rfl) rfl HAL9.out ?_;rw[←HV9.out]))
     try simp only[Exit.inBlock,Exit.then]
     refine bB (co rfl _ _ (w00.heap.size+1+1) _ _ (0,0) _ rfl HZ9.out jo rfl (by kernel_rfl)) rfl ?_
     exact⟨L,K,V,gA,gc,(some ⟨kb,0,none⟩),kc,rfl,⟨(HW0.out.below HB9.out).ok.mono,(HW0.out.below HB9.out).gr,(HW0.out.below HB9.out).gs,(HW0.out.below HB9.out).gd,(HW0.out.below HB9.out).kr,(HW0.out.below HB9.out).ks,(HW0.out.below HB9.out).kd⟩,HB9.out⟩
    ·have e0:((KL.length:Int) == 0)=false:=by simp[hk0]
     have e1:¬(KL.length:Int)=0:=by omega
     obtain⟨k,hk⟩:∃k,k=q2 % KL.length:=⟨_,rfl⟩
     have hkl:k<KL.length:=by rw[hk];exact fv _ (by omega)
     have hkt:(q2:Int).tmod (KL.length:Int)=(k:Int):=by rw[ee (by omega),hk];rfl
     have k1:(0:Int)≤(k:Int):=by omega
     have k2:(k:Int)<(KL.length:Int):=by omega
     obtain⟨rb,ro,e9,hrb,hrr⟩:=(RowGr.own (HO3.out.kept (dg (r:=none) HB4.out) (cw _))).range hkl
     cases e9
     have HPM:=hid (bL hkl gp0)
     generalize KL.getD k gp0=p at *
     obtain⟨⟨⟨ut,ur⟩,un,uv,⟨uut,uur⟩,uops⟩,⟨udA,udc,uoA,uoc⟩⟩:=p
     have HST:=hid (show w4.rangeAt rb (ro+k*7) [.int .i64 ut,.int .i64 ur] from bv (pre:=[]) (mid:=[.int .i64 ut,.int .i64 ur]) (post:=[.int .i64 un,.slice udA uv.length udc,.int .i64 uut,.int .i64 uur,.slice uoA uops.length uoc]) hrr)
     have d2:w4.cell? ⟨w00.heap.size+1,2,none⟩=some (.int .u8 (q2:Int)):=aD _ _ _ _ _ _ ((HB4.out.block _ (lt_of_block HD3.out)).trans HD3.out)
     obtain⟨V9,hV9⟩:∃X,X=w4.setCells w3.heap.size 4 [.int .i64 ut,.int .i64 ur]:=⟨_,rfl⟩
     have hV9r:V9=w4.setRow w3.heap.size #[.int .i64 (tt+1),.int .i64 ((i:Int)+1),.int .i64 (av+1),.slice vA v.length vc,.int .i64 ut,.int .i64 ur,.slice none 0 0]:=by rw[hV9,fk _ _ _ _ _ _ HGB.out];rfl
     have HG9:=hid (show V9.heap[w3.heap.size]? =some (.cells #[.int .i64 (tt+1),.int .i64 ((i:Int)+1),.int .i64 (av+1),.slice vA v.length vc,.int .i64 ut,.int .i64 ur,.slice none 0 0] 45 (0,0)) by rw[hV9r];exact aM _ HGB.out)
     have HB9:=hid (show Below w3.heap.size w3 V9 by rw[hV9r];exact Below.setRow' HB4.out (aa _) _)
     have HTH:=hid (there_sub HGB.out (off:=4) (n:=2) (by show 4+2≤7;omega))
     have HV9:=hid hV9
     clear hk hrr hV9 hV9r
     go_wp2_with (first
      |(refine ii rfl _ _ rfl rb (ro+k*7) rfl [.int .i64 ut,.int .i64 ur] _ HST.out cb rfl (by kernel_rfl) ?_)
      |(refine wpList_store_mid rfl _ _ _ rfl w3.heap.size 4 #[.int .i64 ut,.int .i64 ur] rfl rfl HTH.out (by kernel_rfl) (by rw[←cg];rfl) ?_;rw[←HV9.out]))
     go_meet
     exact⟨⟨ut,ur⟩,[],none,0,HG9,hid ⟨.inr ⟨rfl,_,HPM.out,rfl⟩⟩,hid ⟨⟨fun _=>⟨none,0,none,0⟩,RowG.zero,fun k hk=>absurd hk (cG k)⟩,aa _,aq _⟩,HB9⟩
   | false=>
    have HD4:=hid ((HB4.out.block _ (lt_of_block HD3.out)).trans HD3.out)
    have HST:=hid (show w4.rangeAt w3.heap.size 0 [.int .i64 (tt+1),.int .i64 ((i:Int)+1)] from bv (pre:=[]) (mid:=[.int .i64 (tt+1),.int .i64 ((i:Int)+1)]) (post:=[.int .i64 (av+1),.slice vA v.length vc,.int .i64 0,.int .i64 0,.slice none 0 0]) (bf (l:=[.int .i64 (tt+1),.int .i64 ((i:Int)+1),.int .i64 (av+1),.slice vA v.length vc,.int .i64 0,.int .i64 0,.slice none 0 0]) HGB.out))
    have HOP:=hid (opw_any KL lA lc (tt+1) ((i:Int)+1) q0 q1 q2 q3 q4 see S w4 h0 h2 h3 h4 HKK.out ((RowGr.own HO3.out).below HB4.out) (fun p hp=>(HG3.out p hp).agr (Agr.below HB4.out)))
    go_upto_region 16 with(first
     |(refine ii rfl _ _ rfl w3.heap.size 0 rfl [.int .i64 (tt+1),.int .i64 ((i:Int)+1)] _ HST.out cb rfl (by kernel_rfl) ?_)
     |(refine cu rfl _ _ rfl (w00.heap.size+1) _ _ _ rfl HD4.out Tryz.underlying86 rfl ?_ ?_;kernel_rfl)
     |(go_at_call 90;refine HOP.out.mono ?_;rintro e w5 ⟨⟨kd,⟨⟨jt,jr⟩,ji⟩,⟨⟨pt,pr⟩,pi⟩,nm,dd,dots,⟨⟨at_,ar⟩,ai⟩,⟨⟨et,er⟩,ei⟩,tx,elems⟩,⟨sA,sc,eA,ec⟩,ok,rfl,hok,hB5⟩;have HOK:=hid hok;have HB5:=hid hB5;clear hok hB5;dsimp only[opA])
     |(refine bM rfl _ _ _ rfl _ _ _ _ rfl ?_ rfl ?_ ?_ ?_ ?_;(focus(simp;done));kernel_rfl;rfl;rfl))
    obtain⟨w6,hw6⟩:∃W,W=w5.alloc (.cells #[.int .i64 kd,.int .i64 jt,.int .i64 jr,.int .i64 ji,.int .i64 pt,.int .i64 pr,.int .i64 pi,.string nm,.bool dd,.slice sA dots.length sc,.int .i64 at_,.int .i64 ar,.int .i64 ai,.int .i64 et,.int .i64 er,.int .i64 ei,.string tx,.slice eA elems.length ec] 125):=⟨_,rfl⟩
    rw[←hw6]
    have hB6:Below w5.heap.size w5 w6:=by rw[hw6];exact(ag _ _).alloc (aa _) _
    have HOB:=hid (show w6.heap[w5.heap.size]? =some (.cells #[.int .i64 kd,.int .i64 jt,.int .i64 jr,.int .i64 ji,.int .i64 pt,.int .i64 pr,.int .i64 pi,.string nm,.bool dd,.slice sA dots.length sc,.int .i64 at_,.int .i64 ar,.int .i64 ai,.int .i64 et,.int .i64 er,.int .i64 ei,.string tx,.slice eA elems.length ec] 125 (0,0)) by rw[hw6];exact am _ _)
    have HB46:=hid (HB5.out.trans (hB6.mono HB5.out.size))
    have h45:=HB5.out.size
    have HG6:=hid ((HB46.out.block _ (lt_of_block HGB.out)).trans HGB.out)
    have hs6:w5.heap.size<w6.heap.size:=by rw[hw6];simp
    cases ok with
    | false=>
     have HX6:=hid ((HB46.out.block _ (by have:=lt_of_block HX3.out;omega)).trans ((HB4.out.block _ (lt_of_block HX3.out)).trans HX3.out))
     have HZ6:=hid ((HB46.out.block _ (by have:=lt_of_block HZ3.out;omega)).trans ((HB4.out.block _ (lt_of_block HZ3.out)).trans HZ3.out))
     have HB36:=hid (HB4.out.trans (HB46.out.mono HB4.out.size))
     have HBA6:=hid (HBA.out.trans (HB36.out.mono HBA.out.size))
     clear hw6
     go_upto_region 17 with fail
     obtain⟨V9,hV9⟩:∃X,X=w6.setRow (w00.heap.size+1+1) #[.slice gA L.length gc,.slice (some ⟨kb,0,none⟩) 3 kc]:=⟨_,rfl⟩
     have HV9:=hid hV9
     have HZ9:=hid (show V9.heap[(w00.heap.size+1+1)]? =some (.cells #[.slice gA L.length gc,.slice (some ⟨kb,0,none⟩) 3 kc] 83 (0,0)) by rw[hV9];exact aM _ HZ6.out)
     have hg9:w6.grownBy V9 (some (w00.heap.size+1+1)):=by rw[hV9];exact dR _ _ _
     have HB9:=hid (HBA6.out.grown hg9 HBA6.out.size (fun b e=>by cases e;omega))
     have HAL9:=hid (show(#[.slice gA L.length gc,.slice (some ⟨kb,0,none⟩) 3 kc]:Array Value).toList.all (·.oneCell')=true by rfl)
     clear hV9 hg9
     go_wp2_with (first
      |(refine cu rfl _ _ rfl w00.heap.size _ _ _ rfl HX6.out jo rfl ?_ ?_;kernel_rfl)
      |(refine da rfl _ _ _ rfl (w00.heap.size+1+1) 83 #[.slice none 0 0,.slice none 0 0] #[.slice gA L.length gc,.slice (some ⟨kb,0,none⟩) 3 kc] rfl rfl HZ6.out (by kernel_rfl) rfl HAL9.out ?_;rw[←HV9.out]))
     try simp only[Exit.inBlock,Exit.then]
     refine bB (co rfl _ _ (w00.heap.size+1+1) _ _ (0,0) _ rfl HZ9.out jo rfl (by kernel_rfl)) rfl ?_
     exact⟨L,K,V,gA,gc,(some ⟨kb,0,none⟩),kc,rfl,⟨(HW0.out.below HB9.out).ok.mono,(HW0.out.below HB9.out).gr,(HW0.out.below HB9.out).gs,(HW0.out.below HB9.out).gd,(HW0.out.below HB9.out).kr,(HW0.out.below HB9.out).ks,(HW0.out.below HB9.out).kd⟩,HB9.out⟩
    |true=>
     have HOI:=hid (show OpOk ⟨tt+1,(i:Int)+1⟩ ⟨kd,⟨⟨jt,jr⟩,ji⟩,⟨⟨pt,pr⟩,pi⟩,nm,dd,dots,⟨⟨at_,ar⟩,ai⟩,⟨⟨et,er⟩,ei⟩,tx,elems⟩∧OpIn w6 (fun b=>w3.heap.size<b) ⟨kd,⟨⟨jt,jr⟩,ji⟩,⟨⟨pt,pr⟩,pi⟩,nm,dd,dots,⟨⟨at_,ar⟩,ai⟩,⟨⟨et,er⟩,ei⟩,tx,elems⟩ ⟨sA,sc,eA,ec⟩ from⟨(HOK.out rfl).1,((HOK.out rfl).2.agr (Agr.below hB6)).sub (fun b _ (hb:w4.heap.size≤b)=>by omega)⟩)
     obtain⟨V9,hV9⟩:∃X,X=(w6.alloc (.cells #[.int .i64 kd,.int .i64 jt,.int .i64 jr,.int .i64 ji,.int .i64 pt,.int .i64 pr,.int .i64 pi,.string nm,.bool dd,.slice sA dots.length sc,.int .i64 at_,.int .i64 ar,.int .i64 ai,.int .i64 et,.int .i64 er,.int .i64 ei,.string tx,.slice eA elems.length ec] 125)).setCell ⟨w3.heap.size,6,none⟩ (.slice (some ⟨w6.heap.size,0,none⟩) 1 1):=⟨_,rfl⟩
     have HV9:=hid hV9
     have hBa:Below w6.heap.size w6 (w6.alloc (.cells #[.int .i64 kd,.int .i64 jt,.int .i64 jr,.int .i64 ji,.int .i64 pt,.int .i64 pr,.int .i64 pi,.string nm,.bool dd,.slice sA dots.length sc,.int .i64 at_,.int .i64 ar,.int .i64 ai,.int .i64 et,.int .i64 er,.int .i64 ei,.string tx,.slice eA elems.length ec] 125)):=(ag _ _).alloc (aa _) _
     have HGa:=hid ((hBa.block _ (lt_of_block HG6.out)).trans HG6.out)
     have HOa:=hid (show(w6.alloc (.cells #[.int .i64 kd,.int .i64 jt,.int .i64 jr,.int .i64 ji,.int .i64 pt,.int .i64 pr,.int .i64 pi,.string nm,.bool dd,.slice sA dots.length sc,.int .i64 at_,.int .i64 ar,.int .i64 ai,.int .i64 et,.int .i64 er,.int .i64 ei,.string tx,.slice eA elems.length ec] 125)).heap[w6.heap.size]? =some (.cells #[.int .i64 kd,.int .i64 jt,.int .i64 jr,.int .i64 ji,.int .i64 pt,.int .i64 pr,.int .i64 pi,.string nm,.bool dd,.slice sA dots.length sc,.int .i64 at_,.int .i64 ar,.int .i64 ai,.int .i64 et,.int .i64 er,.int .i64 ei,.string tx,.slice eA elems.length ec] 125 (0,0)) from am _ _)
     have hg9:(w6.alloc (.cells #[.int .i64 kd,.int .i64 jt,.int .i64 jr,.int .i64 ji,.int .i64 pt,.int .i64 pr,.int .i64 pi,.string nm,.bool dd,.slice sA dots.length sc,.int .i64 at_,.int .i64 ar,.int .i64 ai,.int .i64 et,.int .i64 er,.int .i64 ei,.string tx,.slice eA elems.length ec] 125)).grownBy V9 (some w3.heap.size):=by rw[hV9];exact eF _ _ _
     have HG9:=hid (show V9.heap[w3.heap.size]? =some (.cells #[.int .i64 (tt+1),.int .i64 ((i:Int)+1),.int .i64 (av+1),.slice vA v.length vc,.int .i64 0,.int .i64 0,.slice (some ⟨w6.heap.size,0,none⟩) 1 1] 45 (0,0)) by rw[hV9];exact gI (c:=#[.int .i64 (tt+1),.int .i64 ((i:Int)+1),.int .i64 (av+1),.slice vA v.length vc,.int .i64 0,.int .i64 0,.slice none 0 0]) HGa.out 6 _ rfl)
     have HO9:=hid ((hg9.block _ (lt_of_block HOa.out) (fun e=>by injection e with e;omega)).trans HOa.out)
     have HI9:=hid ((HOI.out.2.agr (Agr.below hBa)).agr (Agr.grown hg9 fun g e1 e2=>by cases e1;exact absurd e2 (Nat.lt_irrefl _)))
     have HB9:=hid (show Below w3.heap.size w3 V9 from((HB4.out.trans (HB46.out.mono HB4.out.size)).trans (hBa.mono (by omega))).grown hg9 (by simp;omega) (fun b e=>by cases e;exact aa _))
     have y6:(w6.alloc (.cells #[.int .i64 kd,.int .i64 jt,.int .i64 jr,.int .i64 ji,.int .i64 pt,.int .i64 pr,.int .i64 pi,.string nm,.bool dd,.slice sA dots.length sc,.int .i64 at_,.int .i64 ar,.int .i64 ai,.int .i64 et,.int .i64 er,.int .i64 ei,.string tx,.slice eA elems.length ec] 125)).cell? ⟨w3.heap.size,6,none⟩=some (.slice none 0 0):=aD _ _ _ _ _ _ HGa.out
     have f6:(w6.alloc (.cells #[.int .i64 kd,.int .i64 jt,.int .i64 jr,.int .i64 ji,.int .i64 pt,.int .i64 pr,.int .i64 pi,.string nm,.bool dd,.slice sA dots.length sc,.int .i64 at_,.int .i64 ar,.int .i64 ai,.int .i64 et,.int .i64 er,.int .i64 ei,.string tx,.slice eA elems.length ec] 125)).frozen? ⟨w3.heap.size,6,none⟩=false:=aW _ _ _ _ _ HGa.out
     clear hV9 hBa hg9 hw6
     go_wp2_with (refine cu rfl _ _ rfl w5.heap.size _ _ _ rfl HOB.out az rfl ?_ ?_;kernel_rfl)
     go_meet
     rw[←HV9.out]
     exact⟨.zero,[⟨kd,⟨⟨jt,jr⟩,ji⟩,⟨⟨pt,pr⟩,pi⟩,nm,dd,dots,⟨⟨at_,ar⟩,ai⟩,⟨⟨et,er⟩,ei⟩,tx,elems⟩],some ⟨w6.heap.size,0,none⟩,1,HG9,hid ⟨.inl ⟨rfl,_,rfl,HOI.out.1⟩⟩,hid ⟨ops_one (x:=⟨sA,sc,eA,ec⟩) HO9.out HI9.out (by omega),aa _,by unfold maxLen;omega⟩,HB9⟩
  case rest=>
   obtain⟨u,ops,oA,oc,HG8,HNX,HOP8,HB8⟩:=hcut
   generalize wc=w8 at *
   have h38:=HB8.out.size
   have HS8:=hid (RowG.agr HS3.out.1 (Agr.below HB8.out))
   obtain⟨U,hU⟩:∃X,X=eE v ((i:Int)+1) (av+1):=⟨_,rfl⟩
   have HWT:=hid (show Calls Tryz.prog 56 #[.slice vA v.length vc,.int .i64 ((i:Int)+1),.int .i64 (av+1)] w8 fun e w'=>WithQ U w8 e w' by rw[hU];exact refwith_any vA vc v ((i:Int)+1) (av+1) w8 (by omega) (by omega) (by omega) (VecS.vec HS8.out))
   have HUE:=hid hU
   clear hU HB4 HGB hs4 q7
   go_upto_region 21 with(go_at_call 56;refine HWT.out.mono ?_;rintro e w9 ⟨hB9,uA,uc,rfl,hu9,hul,hum⟩;have HU9:=hid (And.intro hu9 (And.intro hul hum));have HB9:=hid hB9;clear hB9 hu9 hul hum)
   have h89:=HB9.out.size
   have HBA9:=hid (show Below w00.heap.size w00 w9 from(HBA.out.trans (HB8.out.mono HBA.out.size)).trans (HB9.out.mono (by have:=HBA.out.size;omega)))
   have HB39:=hid (HB8.out.trans (HB9.out.mono HB8.out.size))
   have HX9:=hid ((HB39.out.block _ (lt_of_block HX3.out)).trans HX3.out)
   have HZ9:=hid ((HB39.out.block _ (lt_of_block HZ3.out)).trans HZ3.out)
   have HG9:=hid ((HB9.out.block _ (lt_of_block HG8.out)).trans HG8.out)
   have hgb:=lt_of_block HG9.out
   have hz9:=lt_of_block HZ3.out
   have hra:=row_at (HW0.out.below HBA9.out).kr
   have HKC:=hid (hra.2 ⟨kb,0,none⟩ rfl)
   have HKF:=hid (show(K.flatMap knC).length=3*1 by rw[flat_len (f:=knC) (s:=1) (fun _=>rfl) K,hk3])
   have HKU:=hid (show ∀u∈K.flatMap knC,u.oneCell'=true from fun u hu=>by obtain⟨x,-,hx⟩:=dI.1 hu;exact fw (c:=(knC x).toArray) rfl u hx)
   have x1:w9.cell? ⟨w00.heap.size,1,none⟩=some (.slice (some ⟨kb,0,none⟩) 3 kc):=aD _ _ _ _ _ _ HX9.out
   clear hra
   go_upto_region 22 with(at_builtin;refine bu _ rfl _ _ 81 rfl w9.heap.size 27 iV (.slice none 0 0) 1 24 Tryz.underlying81 hV hy0 hy1 hy2 rfl (by decide) (.slice none 0 0) 0 _ rfl (by exact(aF w9 w9.heap.size 27 1)) ⟨kb,0,none⟩ 3 kc (K.flatMap knC) rfl HKF.out HKC.out HKU.out (by unfold maxLen;omega) (by omega) (by simp) ?_;intro v' w10 hown hgrow _;have HO10:=hid hown;have HB10:=hid (Below.grown (ag w9.heap.size w9) hgrow (by simp) (fun b hb=>(i9 (aF w9 w9.heap.size 27 1) b hb).1));clear hown hgrow)
   clear x1
   obtain⟨A9,c9,rfl⟩:=bZ HO10.out
   rw[bN] at HO10 ⊢
   obtain⟨g9,hA9,hgl9⟩:∃g9,A9=some ⟨g9,0,none⟩∧w9.heap.size≤g9:=by
    obtain⟨g,cur,e,h9,-⟩:=own_block HO10.out (by omega)
    exact⟨g,e,h9⟩
   cases hA9
   have h910:=HB10.out.size
   have HO10:Hid (w10.ownsRow w9.heap.size 27 1 (.slice (some ⟨g9,0,none⟩) 3 c9) 3 (K.flatMap knC)):=HO10
   obtain⟨V1,hV1⟩:∃X,X=w10.setCell ⟨g9,i,none⟩ (.slice uA U.length uc):=⟨_,rfl⟩
   have hput:=eP (f:=knC) (fun _=>rfl) (by decide) hk3.symm HO10.out hi3 ⟨uA,uc,U⟩
   have hVe:w10.setCells g9 (i*1) (knC ⟨uA,uc,U⟩)=V1:=by rw[hV1,jE];rfl
   rw[hVe] at hput
   have HO11:=hid hput.1
   have HB11:=hid (HB10.out.grown hput.2 HB10.out.size (fun b e=>by cases e;exact hgl9))
   have HV1:=hid hV1
   obtain⟨gg,egg,hth⟩:=ey HO10.out hi3
   cases egg
   have t1:=hth 0 (by omega)
   rw[jE,Nat.add_zero] at t1
   obtain⟨oc9,hoc9⟩:=Option.isSome_iff_exists.1 t1.1
   have f9:=t1.2
   clear hV1 hput hVe hth t1
   go_upto_region 24 with fail
   rw[←HV1.out]
   clear hoc9 f9
   have h911:=HB11.out.size
   have HX11:=hid ((HB11.out.block _ (lt_of_block HX9.out)).trans HX9.out)
   have HBA11:=hid (HBA9.out.trans (HB11.out.mono HBA9.out.size))
   have x2:V1.cell? ⟨w00.heap.size,0,none⟩=some (.slice gA L.length gc):=aD _ _ _ _ _ _ HX11.out
   go_cut [16] (fun s wx=>∃(A':Option Addr) (c':Nat),s= .slice A' L.length c'∧Hid (wx.ownsRow V1.heap.size 45 7 (.slice A' L.length c') L.length (L.flatMap grC_))∧Hid (Below V1.heap.size V1 wx))
   case first=>
    have hra:=row_at (HW0.out.below HBA11.out).gr
    have HLF:=hid (kD L)
    have HLU:=hid (show ∀u∈L.flatMap grC_,u.oneCell'=true from fun u hu=>by obtain⟨x,-,hx⟩:=dI.1 hu;exact iO x u hx)
    cases gA with
    |none=>
     have h0:=hra.1 rfl
     obtain rfl:L=[]:=ci.1 h0
     go_wp2
     go_meet
     exact⟨none,0,rfl,hid (aF _ _ _ _),hid (ag _ _)⟩
    |some ad=>
     have HC:=hid (hra.2 ad rfl)
     clear hra
     go_wp2_with (at_builtin;refine bu _ rfl _ _ 25 rfl V1.heap.size 45 iG (.agg #[.int .i64 0,.int .i64 0,.int .i64 0,.slice none 0 0,.int .i64 0,.int .i64 0,.slice none 0 0]) 7 88 bV hG hz0 hz1 hz2 rfl (by decide) (.slice none 0 0) 0 _ rfl (by exact(aF V1 V1.heap.size 45 7)) ad L.length gc (L.flatMap grC_) rfl HLF.out HC.out HLU.out (by unfold maxLen;omega) (by omega) (by simp) ?_;intro v' w12 hown hgrow _;have HO12:=hid hown;have HB12:=hid (Below.grown (ag V1.heap.size V1) hgrow (by simp) (fun b hb=>(i9 (aF V1 V1.heap.size 45 7) b hb).1));clear hown hgrow)
     obtain⟨A',c',rfl⟩:=bZ HO12.out
     rw[bN] at HO12
     go_meet
     exact⟨A',c',by rw[bN],HO12,HB12⟩
   case rest=>
    obtain⟨A',c',rfl,HO12,HB12⟩:=hcut
    generalize wc=w12 at *
    clear x2
    have h12:=HB12.out.size
    have HG11:=hid ((HB11.out.block _ hgb).trans HG9.out)
    have HG12:=hid ((HB12.out.block _ (lt_of_block HG11.out)).trans HG11.out)
    have hgq:w3.heap.size<w12.heap.size:=lt_of_block HG12.out
    obtain⟨V2,hV2⟩:∃X,X=w12.alloc (.cells #[.int .i64 (tt+1),.int .i64 ((i:Int)+1),.int .i64 (av+1),.slice vA v.length vc,.int .i64 u.t,.int .i64 u.r,.slice oA ops.length oc] 45):=⟨_,rfl⟩
    have hBa:Below w12.heap.size w12 (w12.alloc (.cells #[.int .i64 (tt+1),.int .i64 ((i:Int)+1),.int .i64 (av+1),.slice vA v.length vc,.int .i64 u.t,.int .i64 u.r,.slice oA ops.length oc] 45)):=(ag _ _).alloc (aa _) _
    have HOa:=hid (HO12.out.kept (dg (r:=none) hBa) (cw _))
    have HBa:=hid (HB12.out.trans (hBa.mono HB12.out.size))
    clear hV2 hBa
    go_upto_region 26 with(first
     |(refine cu rfl _ _ rfl w3.heap.size _ _ _ rfl HG12.out aH rfl ?_ ?_;kernel_rfl)
     |(at_builtin;refine bX _ rfl _ _ 25 rfl V1.heap.size 45 iG (.agg #[.int .i64 0,.int .i64 0,.int .i64 0,.slice none 0 0,.int .i64 0,.int .i64 0,.slice none 0 0]) 7 88 bV hG hz0 hz1 hz2 rfl (by decide) (.slice A' L.length c') L.length _ rfl (by exact HOa.out) ⟨w12.heap.size,0,none⟩ 1 1 [.int .i64 (tt+1),.int .i64 ((i:Int)+1),.int .i64 (av+1),.slice vA v.length vc,.int .i64 u.t,.int .i64 u.r,.slice oA ops.length oc] rfl rfl (fun j9 y9 h9=>dH w12 [.int .i64 (tt+1),.int .i64 ((i:Int)+1),.int .i64 (av+1),.slice vA v.length vc,.int .i64 u.t,.int .i64 u.r,.slice oA ops.length oc] 45 j9 y9 h9) (fw (c:=#[.int .i64 (tt+1),.int .i64 ((i:Int)+1),.int .i64 (av+1),.slice vA v.length vc,.int .i64 u.t,.int .i64 u.r,.slice oA ops.length oc]) rfl) (by decide) (by unfold maxLen;omega) (by omega) (by exact HBa.out.size) (w12.heap.size+1) (by simp) ?_;intro gq capq w13 hown hgrow hat hlt5;have HO13:=hid hown;have HB13:=hid (HBa.out.grown hgrow HBa.out.size (fun b hb=>(HOa.out.lt b hb).1));clear hown hgrow hat hlt5))
    have h13s:=HB13.out.size
    have HBA13:=hid (HBA11.out.trans (HB13.out.mono HBA11.out.size))
    have HZ11:=hid ((HB11.out.block _ (by omega)).trans HZ9.out)
    have HZ13:=hid ((HB13.out.block _ (lt_of_block HZ11.out)).trans HZ11.out)
    obtain⟨W,hW⟩:∃X,X=w13.setRow (w00.heap.size+1+1) #[.slice (some ⟨gq,0,none⟩) (L.length+1) capq,.slice (some ⟨g9,0,none⟩) 3 c9]:=⟨_,rfl⟩
    have HWV:=hid hW
    have hgW:w13.grownBy W (some (w00.heap.size+1+1)):=by rw[hW];exact dR _ _ _
    have HZW:=hid (show W.heap[(w00.heap.size+1+1)]? =some (.cells #[.slice (some ⟨gq,0,none⟩) (L.length+1) capq,.slice (some ⟨g9,0,none⟩) 3 c9] 83 (0,0)) by rw[hW];exact aM _ HZ13.out)
    have HBW:=hid (HBA13.out.grown hgW HBA13.out.size (fun b e=>by cases e;omega))
    have HAL9:=hid (show(#[.slice (some ⟨gq,0,none⟩) (L.length+1) capq,.slice (some ⟨g9,0,none⟩) 3 c9]:Array Value).toList.all (·.oneCell')=true by rfl)
    clear hW
    go_wp2_with (refine da rfl _ _ _ rfl (w00.heap.size+1+1) 83 #[.slice none 0 0,.slice none 0 0] #[.slice (some ⟨gq,0,none⟩) (L.length+1) capq,.slice (some ⟨g9,0,none⟩) 3 c9] rfl rfl HZ13.out (by kernel_rfl) rfl HAL9.out ?_;rw[←HWV.out])
    try simp only[Exit.inBlock,Exit.then]
    refine bB (co rfl _ _ (w00.heap.size+1+1) _ _ (0,0) _ rfl HZW.out jo rfl (by kernel_rfl)) rfl ?_
    have hnx:=HW0.out.ok.next hn hi3 HVV.out.1 HVV.out.2 (u:=u) (ops:=ops) (by rw[←HKE.out];unfold gB;rw[←HTT.out];exact HNX.out) ⟨vA,vc,oA,oc⟩
    rw[←HKE.out,←HAV.out,←HUE.out] at hnx
    unfold gB at hnx
    rw[←HTT.out] at hnx
    have hneS:∀(S:Nat→Prop),(∀b,S b→b≠w00.heap.size+1+1)→Agr S w13 W:=fun S hS=>Agr.grown hgW fun g e1 e2=>by cases e1;exact hS _ e2 rfl
    have hB89:Below w8.heap.size w8 w13:=(HB9.out.trans ((HB11.out.trans (HB13.out.mono HB11.out.size)).mono HB9.out.size))
    have hob:=(HW0.out.below HBW.out)
    have hK3:(K.set i ⟨uA,uc,U⟩).map (·.v)=(K.map (·.v)).set i U:=by rw[List.map_set]
    have hlen:(L++[((⟨⟨tt+1,(i:Int)+1⟩,av+1,v,u,ops⟩:Grp),(⟨vA,vc,oA,oc⟩:GrX))]).length=L.length+1:=by simp
    refine⟨L++[((⟨⟨tt+1,(i:Int)+1⟩,av+1,v,u,ops⟩:Grp),(⟨vA,vc,oA,oc⟩:GrX))],K.set i ⟨uA,uc,U⟩,_,some ⟨gq,0,none⟩,capq,some ⟨g9,0,none⟩,c9,by rw[hlen],⟨by rw[hK3];exact hnx,?_,(fun g e=>by have e:some gq=some g:=e;injection e with e;have h9:=(HO13.out.lt gq rfl).1;exact hS g (by omega)),?_,?_,(fun g e=>by have e:some g9=some g:=e;injection e with e;exact hS g (by omega)),?_⟩,HBW.out⟩
    ·rw[hlen,aI]
     exact iC ((HO13.out.kept hgW (.inr (fun e=>by have:=(HO13.out.lt _ e).1;omega)))) (aq _)
    ·intro p hp
     rcases au.1 hp with hp|hp
     ·exact hob.gd p hp
     ·rw[aO] at hp
      subst hp
      refine⟨RowG.sub (RowG.agr (RowG.agr HS8.out (Agr.below hB89)) (hneS _ fun b hb=>hb.1)) (fun _ _ hb=>hb.2),(HOP8.out.1.agr (Agr.below hB89)).agr (hneS _ fun b hb=>by omega) |>.sub (fun b _ hb=>hS b (by omega)),HS3.out.2.1,HOP8.out.2.1,HS3.out.2.2,HOP8.out.2.2,?_,fun x hx=> ?_⟩
      ·show i63 (av+1)
       unfold i63;omega
      ·show i63 x
       obtain⟨q,hq,rfl⟩:=dj.1 hx
       have h9:=HVV.out.1.le ((q:Int)+1)
       have h8:=HW0.out.ok.vn ((q:Int)+1)
       rw[atV_getD,ae,an hq] at h9
       have h9:0≤v[q]∧v[q]≤atV V ((q:Int)+1):=h9
       exact⟨Int.le_trans (by decide) h9.1,Int.lt_of_le_of_lt (Int.le_trans h9.2 h8) (by omega)⟩
    ·exact iC ((HO11.out.kept (dg (r:=none) HB13.out) (cw _)).kept hgW (.inr (fun e=>by have e:some g9=some (w00.heap.size+1+1):=e;injection e with e;omega))) (aq _)
    ·intro p hp
     rcases List.mem_or_eq_of_mem_set hp with hp|rfl
     ·exact hob.kd p hp
     ·exact⟨RowG.sub (RowG.agr (RowG.agr HU9.out.1 (Agr.below (HB11.out.trans (HB13.out.mono HB11.out.size)))) (hneS _ fun b (hb:w8.heap.size≤b)=>by omega)) (fun b _ (hb:w8.heap.size≤b)=>hS b (by omega)),HU9.out.2.1,HU9.out.2.2⟩
structure Doo where
 q0:Nat
 q1:Nat
 q2:Nat
 q3:Nat
 q4:Nat
 see:Bool
def do0:Doo:=⟨0,0,0,0,0,false⟩
def doC (x:Doo):List Value:=[.int .u8 (x.q0:Int),.int .u8 (x.q1:Int),.int .u8 (x.q2:Int),.int .u8 (x.q3:Int),.int .u8 (x.q4:Int),.bool x.see]
def doOk (x:Doo):Prop:=x.q0<=255∧x.q1<=255∧x.q2<=255∧x.q3<=255∧x.q4<=255
def HisQ (w00:World) (e:Ending) (w':World):Prop:=∃(L:List (Grp×GrX)) (kn:List (List Int)) (V:List Int) (gA:Option Addr) (gc:Nat),e= .returned (.slice gA L.length gc)∧HOk 16 L kn V∧w'.ownsRow 0 45 7 (.slice gA L.length gc) L.length (L.flatMap grC_)∧(∀p∈L,GrG w' (λ_=>True) p)∧Below w00.heap.size w00 w'
theorem HOk.up {gs:List (Grp×GrX)} {kn:List (List Int)} {V:List Int}:∀{n m:Nat},n<=m->HOk n gs kn V->HOk m gs kn V
  | n, 0, hm, h => by obtain rfl:n=0:=by omega
                      exact h
  | n,m+1,hm,h=>by
    by_cases e:n=m+1
    · subst e;exact h
    · exact(HOk.up (m:=m) (by omega) h).mono
theorem WIn.put {b n:Nat} {L:List (Grp×GrX)} {K:List KnX} {V:List Int} {gA kA:Option Addr} {gc kc:Nat} {w w':World} (h:WIn (λk=>k≠b) n L K V gA gc kA kc w) (hg:w.grownBy w' (some b)):WIn (λk=>k≠b) n L K V gA gc kA kc w':=by
 have ha:Agr (λk=>k≠b) w w':=Agr.grown hg λg e1 e2=>by cases e1;exact e2 rfl
 have hn:∀{v:Value},(∀g,v.ownBlock=some g->g≠b)->v.ownBlock=none∨v.ownBlock≠some b:=λhv=> .inr λe=>hv _ e rfl;exact⟨h.ok,h.gr.kept hg (hn h.gs),h.gs,λp hp=>(h.gd p hp).agr ha,h.kr.kept hg (hn h.ks),h.ks,λp hp=>⟨RowG.agr (h.kd p hp).1 ha,(h.kd p hp).2⟩⟩
theorem history_any (D:List Doo) (dA:Option Addr) (dc:Nat) (S0:Nat->Prop) (w00:World) (hD:∀x∈D,doOk x) (hl:D.length<=9223372036854775807) (hR:RowF w00 S0 dA 6 doC do0 D):
  Calls Tryz.prog 17 #[.slice dA D.length dc] w00 λe w'=>HisQ w00 e w':=by
 have HR:=hid hR;have HD:=hid hD;clear hR hD;go_enter Tryz.func17,Tryz.ntmps17;go_upto_region 2 with fail;have sz:=λ(W:World) (o:Obj)=>show(W.alloc o).heap.size=W.heap.size+1 by simp
 have hB2:Below w00.heap.size w00 ((w00.alloc (.cells #[.slice none 0 0,.slice none 0 0,.slice none 0 0] 27)).alloc (.cells #[.slice none 0 0,.slice (some ⟨w00.heap.size,0,none⟩) 3 3] 83)):=((ag _ _).alloc (aa _) _).alloc (by rw[sz];omega) _;have HK0:=hid (show((w00.alloc (.cells #[.slice none 0 0,.slice none 0 0,.slice none 0 0] 27)).alloc (.cells #[.slice none 0 0,.slice (some ⟨w00.heap.size,0,none⟩) 3 3] 83)).heap[w00.heap.size]? =some (.cells #[.slice none 0 0,.slice none 0 0,.slice none 0 0] 27 (0,0)) from(ax _ _ _ (by rw[sz];omega)).trans (am _ _));have HWB0:=hid (show((w00.alloc (.cells #[.slice none 0 0,.slice none 0 0,.slice none 0 0] 27)).alloc (.cells #[.slice none 0 0,.slice (some ⟨w00.heap.size,0,none⟩) 3 3] 83)).heap[(w00.heap.size+1)]? =some (.cells #[.slice none 0 0,.slice (some ⟨w00.heap.size,0,none⟩) 3 3] 83 (0,0)) from bn _ _ (by rw[sz]));have HB0:=hid hB2;generalize hw:((w00.alloc (.cells #[.slice none 0 0,.slice none 0 0,.slice none 0 0] 27)).alloc (.cells #[.slice none 0 0,.slice (some ⟨w00.heap.size,0,none⟩) 3 3] 83))=w at *;clear hw hB2 sz
 have HW0:=hid (show WIn (λb=>b≠w00.heap.size+1) 0 [] [kn0,kn0,kn0] [] none 0 (some ⟨w00.heap.size,0,none⟩) 3 w from by
  refine⟨HOk.new,aF _ _ _ _,(λg e=>by cases e),(λp hp=>by cases hp),⟨rfl,.inr ⟨w00.heap.size,3,#[.slice none 0 0,.slice none 0 0,.slice none 0 0],rfl,aq _,HK0.out,aa _,by decide,rfl,rfl⟩⟩,(λg e=>by have e:some w00.heap.size=some g:=e;injection e with e;omega),λp hp=> ?_⟩;have e:p=kn0:=by simpa using hp
  subst e
  exact⟨RowG.zero,aa _,aq _⟩)
 have HRW:=hid (λW (hB:Below w00.heap.size w00 W)=>HR.out.below hB);clear HK0;go_upto_region 3 with fail;go_loopg [4] 16 (λg0 ix wr=>∃(k:Nat) (L:List (Grp×GrX)) (KL:List KnX) (V:List Int) (gA:Option Addr) (gc:Nat) (kA:Option Addr) (kc:Nat),k+g0=16∧k<=D.length∧ix= .int .i64 k∧Hid (wr.heap[(w00.heap.size+1)]? =some (.cells #[.slice gA L.length gc,.slice kA 3 kc] 83 (0,0)))∧Hid (WIn (λb=>b≠w00.heap.size+1) k L KL V gA gc kA kc wr)∧Hid (Below w00.heap.size w00 wr))
 case atStart=>exact⟨0,[],[kn0,kn0,kn0],[],none,0,some ⟨w00.heap.size,0,none⟩,3,rfl,aq _,rfl,HWB0,HW0,HB0⟩
 case round=>
  obtain⟨k,L,KL,V,gA,gc,kA,kc,hk,hkD,rfl,HWB,HWI,HB⟩:=hrel;have hn2:=lt_of_block HWB.out;by_cases hkl:k<D.length
  ·have i1:(0:Int)<=(k:Int):=by omega
   have i2:(k:Int)<(D.length:Int):=by omega
   by_cases hk16:k<16
   ·have i3:(k:Int)<16:=by omega
    obtain⟨rb,ro,e9,-,hrb,hrr⟩:=HR.out.range (λ_=>rfl) hkl;have hq:=HD.out _ (bL hkl do0);generalize D.getD k do0=x at *;obtain⟨q0,q1,q2,q3,q4,see⟩:=x;have hq:q0<=255∧q1<=255∧q2<=255∧q3<=255∧q4<=255:=hq;cases e9;have HRW:=hid (λW (hB:Below w00.heap.size w00 W)=>show W.rangeAt rb (ro+k*6) [.int .u8 (q0:Int),.int .u8 (q1:Int),.int .u8 (q2:Int),.int .u8 (q3:Int),.int .u8 (q4:Int),.bool see] from cd hrr hrb hB);clear hrr hrb;go_upto_region 5 with fail;refine aR (S:=λW'=>W'.rangeAt rb (ro+k*6) [.int .u8 (q0:Int),.int .u8 (q1:Int),.int .u8 (q2:Int),.int .u8 (q3:Int),.int .u8 (q4:Int),.bool see]) (by kernel_rfl) ?_
    try(change wpAnyH _ _ _ _ _ _ _ _ (World.drew _))
    refine tk 1 (.slice (some ⟨rb,ro,none⟩) D.length dc) ((show wr.drew.rangeAt _ _ _ from HRW.out wr HB.out)) ?_;go_simp;refine tk 2 (.int .i64 (k:Int)) ((show wr.drew.rangeAt _ _ _ from HRW.out wr HB.out)) ?_;go_simp;refine tk 3 (.pointer (some ⟨rb,ro+k*6,none⟩)) ((show wr.drew.rangeAt _ _ _ from HRW.out wr HB.out)) ?_;go_simp;refine tk2 4 (.agg #[.int .u8 (q0:Int),.int .u8 (q1:Int),.int .u8 (q2:Int),.int .u8 (q3:Int),.int .u8 (q4:Int),see]) rfl (aT (by rfl) _ _ rfl rb (ro+k*6) rfl [.int .u8 (q0:Int),.int .u8 (q1:Int),.int .u8 (q2:Int),.int .u8 (q3:Int),.int .u8 (q4:Int),.bool see] _ (λW' hW'=>bv (pre:=[]) (mid:=[.int .u8 (q0:Int),.int .u8 (q1:Int),.int .u8 (q2:Int),.int .u8 (q3:Int),.int .u8 (q4:Int),.bool see]) (post:=[]) (hW')) Tryz.underlying86 rfl (by kernel_rfl)) ((show wr.drew.rangeAt _ _ _ from HRW.out wr HB.out)) ?_;go_simp;refine rd1 0 λK hK=> ?_;refine bA rfl _ _ rfl (w00.heap.size+1) 0 rfl [.slice gA L.length gc,.slice kA 3 kc] _ (show wr.drew.rangeAt _ _ _ from bf (l:=[.slice gA L.length gc,.slice kA 3 kc]) HWB.out) jo rfl (by kernel_rfl) ?_;refine hK.out _ _ ((show wr.drew.rangeAt _ _ _ from HRW.out wr HB.out)) (λ_=> ?_);clear hK K;refine rd1 5 λK hK=> ?_;go_simp;go_at_call 47
    refine(done_any k L KL V gA gc kA kc q0 q1 q2 q3 q4 see (λb=>b≠w00.heap.size+1) wr.drew (λb (hb:wr.heap.size<=b)=>by have:=lt_of_block HWB.out;omega) hk16 hq.1 hq.2.1 hq.2.2.1 hq.2.2.2.1 hq.2.2.2.2 (HWI.out.below ((ag _ _).drew))).mono ?_;rintro e w2 ⟨L2,K2,V2,gA2,gc2,kA2,kc2,rfl,hW2,hB2⟩;have hB2:=show Below wr.heap.size wr w2 from((ag wr.heap.size wr).drew).trans hB2;have HW2:=hid hW2;have HB2:=bT HB hB2;have HWB2:=bK hB2 HWB;clear hW2 hB2;refine hK.out _ _ (HRW.out w2 HB2.out) (λ_=> ?_);clear hK K;obtain⟨X9,hX9⟩:∃X,X=w2.setRow (w00.heap.size+1) #[.slice gA2 L2.length gc2,.slice kA2 3 kc2]:=⟨_,rfl⟩;have HX9:=hid hX9;have hg9:w2.grownBy X9 (some (w00.heap.size+1)):=by rw[hX9];exact dR _ _ _
    have HWB9:=hid (show X9.heap[(w00.heap.size+1)]? =some (.cells #[.slice gA2 L2.length gc2,.slice kA2 3 kc2] 83 (0,0)) by rw[hX9];exact aM _ HWB2.out);have HB9:=hid (HB2.out.grown hg9 HB2.out.size (λb e=>by cases e;omega));have HW9:=hid (HW2.out.put hg9);have HAL:=hid (show(#[.slice gA2 L2.length gc2,.slice kA2 3 kc2]:Array Value).toList.all (·.oneCell')=true by rfl);clear hX9 hg9;refine rd1 6 λK hK=> ?_;refine dB rfl _ _ _ rfl (w00.heap.size+1) 83 #[.slice gA L.length gc,.slice kA 3 kc] #[.slice gA2 L2.length gc2,.slice kA2 3 kc2] rfl rfl HWB2.out (by kernel_rfl) rfl HAL.out ?_;rw[<-HX9.out];refine hK.out _ _ (HRW.out X9 HB9.out) (λ_=> ?_);clear hK K;refine be (by kernel_rfl) ?_ _;go_simp;go_wp2;go_roundg (16-(k+1))
    case measure=>omega
    case rel=>exact⟨k+1,L2,K2,V2,gA2,gc2,kA2,kc2,by omega,by omega,by go_num,HWB9,HW9,HB9⟩
   ·have i3:¬(k:Int)<16:=by omega
    have z1:=cw0 HWB.out;go_wp2;go_ret;exact⟨L,_,V,gA,gc,rfl,HWI.out.ok.up (by omega),HWI.out.gr,λp hp=>(HWI.out.gd p hp).sub (λ_ _ _=>trivial),HB.out⟩
  ·have i2:¬(k:Int)<(D.length:Int):=by omega
   have z1:=cw0 HWB.out;go_wp2;go_ret;exact⟨L,_,V,gA,gc,rfl,HWI.out.ok.up (by omega),HWI.out.gr,λp hp=>(HWI.out.gd p hp).sub (λ_ _ _=>trivial),HB.out⟩
end
section
open Go.ChangeShapes Go.WideShapes Go.RowKit Go.Lib Go.Deep
section
variable {H : Type} {enc : TypeId × Value → H} {w : World} {spare : Nat → Bool} {held : Bool} {fuel : Nat} {cs : List Value} {x : DataW H × List MemPlace}
theorem kj:Tryz.prog.cellsOf 5=1:=by kernel_rfl
theorem cells_do:Tryz.prog.cellsOf 86=6:=by kernel_rfl
theorem wf_u8 {n:Int} (h:(Lit.int .u8 n).wf=true):0<=n∧n<=255:=by
 simpa[Lit.wf,IntKind.min,IntKind.max,IntKind.bits,IntKind.signed] using h
instance:Inhabited Doo:=⟨do0⟩
theorem opn_do (h:DataW.trod enc Tryz.prog w 0 spare held fuel 86 cs=some x):∃d:Doo,cs=doC d∧doOk d:=by
 obtain⟨ys,n,_,_,hlen,hyl,hf⟩:=DataW.trod_struct Tryz.underlying86 h;rw[cells_do] at hlen
 match cs,hlen,ys,hyl with
 | [c0,c1,c2,c3,c4,c5],_,[y0,y1,y2,y3,y4,y5],_=>
  obtain⟨a0,e0,_,w0⟩:=DataW.trod_int dS (fld (hf 0 _ rfl) kj rfl rfl);obtain⟨a1,e1,_,w1⟩:=DataW.trod_int dS (fld (hf 1 _ rfl) kj rfl rfl);obtain⟨a2,e2,_,w2⟩:=DataW.trod_int dS (fld (hf 2 _ rfl) kj rfl rfl);obtain⟨a3,e3,_,w3⟩:=DataW.trod_int dS (fld (hf 3 _ rfl) kj rfl rfl);obtain⟨a4,e4,_,w4⟩:=DataW.trod_int dS (fld (hf 4 _ rfl) kj rfl rfl);obtain⟨a5,e5,_⟩:=DataW.trod_bool Tryz.underlying4 (fld (hf 5 _ rfl) cells_bool rfl rfl);have k0:=wf_u8 w0;have k1:=wf_u8 w1;have k2:=wf_u8 w2;have k3:=wf_u8 w3;have k4:=wf_u8 w4;cases e0;cases e1;cases e2;cases e3;cases e4;cases e5;refine⟨⟨a0.toNat,a1.toNat,a2.toNat,a3.toNat,a4.toNat,a5⟩,?_,?_⟩
  ·show _=[Value.int .u8 (a0.toNat:Int),.int .u8 (a1.toNat:Int),.int .u8 (a2.toNat:Int),.int .u8 (a3.toNat:Int),.int .u8 (a4.toNat:Int),.bool a5];rw[iW k0.1,iW k1.1,iW k2.1,iW k3.1,iW k4.1]
  ·refine⟨?_,?_,?_,?_,?_⟩<;>(simp only[];omega)
theorem opn_dos (h:DataW.trod enc Tryz.prog w 0 spare held fuel 22 cs=some x):∃(A:Option Addr) (D:List Doo) (c:Nat),cs=[.slice A D.length c]∧D.length<=c∧c<=maxLen∧RowF w (Here w) A 6 doC do0 D∧∀d∈D,doOk d:=by
 obtain⟨A,len,c,f,hcs,h1,h2,h3,h4⟩:=opn_rows (α:=Doo) (s:=6) (by decide) Tryz.underlying22 cells_do (λp j=>(doC p).getD j undef) (λp _=>doOk p) (λn cs' d p h=>by
  obtain⟨v,rfl,h1⟩:=opn_do h;refine⟨v,λj hj=> ?_,h1⟩;have:j<(doC v).length:=hj;rw[an this,ae,an this]
  rfl) h
 refine⟨A,(List.range len).map f,c,by rw[jf];exact hcs,by rw[jf];exact h1,h2,?_,λy hy=> ?_⟩
 ·unfold RowF;rw[jf];exact RowG.congr h3 λk j hk hj=>by rw[range_getD f do0 hk]
 ·obtain⟨k,hk,rfl⟩:=bj.1 hy;obtain⟨d,hd,_⟩:=h4 k (gF.1 hk);exact hd
theorem opn_u8s (h:DataW.trod enc Tryz.prog w 0 spare held fuel 23 cs=some x):∃(A:Option Addr) (P:List Int) (c:Nat),cs=[.slice A P.length c]∧P.length<=c∧c<=maxLen∧RowF w (Here w) A 1 u8L 0 P∧∀q∈P,0<=q∧q<=255:=by
 obtain⟨A,len,c,f,hcs,h1,h2,h3,h4⟩:=opn_rows (α:=Int) (s:=1) (by decide) dD kj (λv j=>(u8L v).getD j undef) (λv _=>0<=v∧v<=255) (λn cs' d p h=>by
  obtain⟨v,rfl,_,hw⟩:=DataW.trod_int dS h
  exact⟨v,λj hj=>by obtain rfl:j=0:=(by omega);rfl,wf_u8 hw⟩) h
 refine⟨A,(List.range len).map f,c,by rw[jf];exact hcs,by rw[jf];exact h1,h2,?_,λy hy=> ?_⟩
 ·unfold RowF;rw[jf];exact RowG.congr h3 λk j hk hj=>by rw[range_getD f 0 hk]
 ·obtain⟨k,hk,rfl⟩:=bj.1 hy;obtain⟨d,hd,_⟩:=h4 k (gF.1 hk);exact hd
end
end
end Go.Proofs.YtkhmicndehlneaaGreatDoor
