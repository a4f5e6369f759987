/- Part 27 of the walks and plain laws that this claim uses, joined. Conditions: as each theorem states. -/
import Derived.Test.YtkhmicndehlneaaGreatDoorYbz
namespace Go.Proofs.YtkhmicndehlneaaGreatDoor
set_option maxRecDepth 100000
set_option maxHeartbeats 16000000
set_option linter.unusedVariables false
section
open Go.RowKit Go.Lib Go.Sort
structure Vok (V v:List Int):Prop where
 pl:bW v=v
 len:v.length<=3
 le:∀r,0<=atV v r∧atV v r<=atV V r
structure HOk (n:Nat) (gs:List (Grp×GrX)) (kn:List (List Int)) (V:List Int):Prop where
 chk:∀p∈gs,chkB p.1=true
 nd:(gs.map (·.1.s)).Nodup
 ah:dM [] (gs.map Prod.fst)=some V
 len:gs.length<=n
 one:∀p∈gs,p.1.ops.length<=1
 sml:∀p∈gs,∀o∈p.1.ops,o.dots.length<=16∧o.elems.length<=3∧o.text.size<=2∧o.name.size<=1
 r3:∀p∈gs,p.1.s.r<=3∧p.1.deps.length<=3∧p.1.s.t<=n∧p.1.n<=n
 vn:∀r,atV V r<=n
 kl:kn.length=3
 kv:∀i,i<3->Vok V (kn.getD i [])
 ko:∀i:Nat,i<3->atV (kn.getD i []) ((i:Int)+1)=atV V ((i:Int)+1)
theorem atV_getD {v:List Int} {k:Nat}:atV v ((k:Int)+1)=v.getD k 0:=by rw[atV_nat (by omega)];congr 1;omega
theorem HOk.new:HOk 0 [] [[],[],[]] []:=by
 refine⟨λp h=>(by cases h),List.nodup_nil,rfl,aa _,λp h=>(by cases h),λp h=>(by cases h),λp h=>(by cases h),λr=>by rw[atV_nil];exact gO _,rfl,λi a=> ?_,λi a=> ?_⟩
 ·have e:([[],[],[]]:List (List Int)).getD i []=[]:=by rcases(show i=0∨i=1∨i=2 by omega) with rfl|rfl|rfl<;>rfl
  rw[e];exact⟨rfl,aq _,λr=>by rw[atV_nil];exact⟨gO _,gO _⟩⟩
 ·have e:([[],[],[]]:List (List Int)).getD i []=[]:=by rcases(show i=0∨i=1∨i=2 by omega) with rfl|rfl|rfl<;>rfl
  rw[e]
theorem Vok.merge {V v u:List Int} (hv:Vok V v) (hu:Vok V u):Vok V (iq v u):=by
 refine⟨pv_pv _,by have:=mergeV_len v u;have:=hv.len;have:=hu.len;omega,λr=> ?_⟩;have e:atV (iq v u) r=max (atV v r) (atV u r):=by
  unfold atV;split
  ·rfl
  ·exact mergeV_getD _ _ _
 have a:=hv.le r;have b:=hu.le r;rw[e];omega
theorem Vok.merge_at {V v u:List Int} (hv:Vok V v) (hu:Vok V u) {r:Int} (h:atV v r=atV V r):atV (iq v u) r=atV V r:=by
 have e:atV (iq v u) r=max (atV v r) (atV u r):=by
  unfold atV;split
  ·rfl
  ·exact mergeV_getD _ _ _
 have a:=hu.le r;rw[e];omega
theorem latT_ge (L:List (Grp×GrX)):0<=latT L∧∀p∈L,p.1.s.t<=latT L:=by
 have:∀(L:List (Grp×GrX)) (t:Int),t<=L.foldl (λt p=>max t p.1.s.t) t∧∀p∈L,p.1.s.t<=L.foldl (λt p=>max t p.1.s.t) t:=by
  intro L;induction L with
  |nil=>exact λt=>⟨gO _,λp h=>(by cases h)⟩
  |cons q L ih=>
   intro t;obtain⟨c,b⟩:=ih (max t q.1.s.t);rw[dU];refine⟨by omega,λp a=> ?_⟩;rcases bY.1 a with rfl|a
   ·omega
   ·exact b p a
 exact this L 0
theorem latT_le {L:List (Grp×GrX)} {m:Int} (h0:0<=m) (h:∀p∈L,p.1.s.t<=m):latT L<=m:=by
 have:∀(L:List (Grp×GrX)) (t:Int),t<=m->(∀p∈L,p.1.s.t<=m)->L.foldl (λt p=>max t p.1.s.t) t<=m:=by
  intro L;induction L with
  |nil=>exact λt a _=>a
  |cons q L ih=>
   intro t a h;rw[dU];exact ih _ (by have:=h q (by simp);omega) λp b=>h p (by simp[b])
 exact this L 0 h0 h
def gB (L:List (Grp×GrX)) (i:Nat):Gst:=⟨latT L+1,(i:Int)+1⟩
theorem HOk.known {n:Nat} {gs:List (Grp×GrX)} {kn:List (List Int)} {V v:List Int} (h:HOk n gs kn V) (hn:n<16) {i:Nat} (hi:i<3):KnG (dG v gs) (gB (dG v gs) i):=by
 have b:∀p∈dG v gs,p∈gs:=λp a=>kE a;obtain⟨e,c⟩:=latT_ge (dG v gs);have f:=latT_le (L:=dG v gs) (m:=(n:Int)) (by omega) λp a=>(h.r3 p (b p a)).2.2.1;refine⟨λp a=>h.chk p (b p a),?_,λp a=> ?_,?_,?_,λp a=>h.one p (b p a),λp a o d=> ?_⟩
 ·exact((List.filter_sublist (l:=gs)).map _).nodup h.nd
 ·have:=c p a;unfold gB Gst.lt;simp only[ch,ak];left;omega
 ·unfold gB Gst.right;simp only[ap,ak];omega
 ·have:=knownL_len v gs;have:=h.len;omega
 ·have:=h.sml p (b p a) o d;exact⟨this.1,this.2.2.1⟩
structure NextG (L:List (Grp×GrX)) (s:Gst) (u:Gst) (ops:List Gop):Prop where
 how:(u= .zero∧∃o,ops=[o]∧OpOk s o)∨(ops=[]∧∃p∈L,u=p.1.s)
theorem next_chk {n:Nat} {gs:List (Grp×GrX)} {kn:List (List Int)} {V v:List Int} (h:HOk n gs kn V) (hn:n<16) {i:Nat} (hi:i<3) (hv:Vok V v) {u:Gst} {ops:List Gop} (hN:NextG (dG v gs) (gB (dG v gs) i) u ops):
  chkB ⟨gB (dG v gs) i,atV v ((i:Int)+1)+1,v,u,ops⟩=true:=by
 have a:=h.known (v:=v) hn hi;have d:=hv.le ((i:Int)+1);have f:=h.vn ((i:Int)+1);unfold chkB;rw[ap];constructor
 ·unfold gC vecB;simp only[ap,ak,dJ];refine⟨⟨⟨⟨a.sr,by omega⟩,by omega⟩,⟨⟨λx c=> ?_,by have:=hv.len;omega⟩,by rw[hv.pl]⟩⟩,?_⟩
  ·obtain⟨k,a,rfl⟩:=dj.1 c;have:=(hv.le ((k:Int)+1)).1;rw[atV_getD,ae,an a] at this;exact this
  ·show atV v ((i:Int)+1)=_;omega
 ·rcases hN.how with⟨rfl,o,rfl,ho⟩|⟨rfl,p,hp,rfl⟩
  ·rw[aJ (by rfl)];simp[opsB,ho.ok]
  ·have b:=(eC (a.chk p hp)).1
   rw[aC (by
    intro e;rw[Gst.eqb_iff] at e;have e:p.1.s= .zero:=e;rw[e] at b
    cases b)]
   simp only[ap,ak];exact⟨⟨b,a.lt p hp⟩,rfl⟩
theorem HOk.next {n:Nat} {gs:List (Grp×GrX)} {kn:List (List Int)} {V v:List Int} (h:HOk n gs kn V) (hn:n<16) {i:Nat} (hi:i<3) (hv:Vok V v) (hvo:atV v ((i:Int)+1)=atV V ((i:Int)+1)) {u:Gst} {ops:List Gop} (hN:NextG (dG v gs) (gB (dG v gs) i) u ops) (x:GrX):
  HOk (n+1) (gs++[(⟨gB (dG v gs) i,atV v ((i:Int)+1)+1,v,u,ops⟩,x)]) (kn.set i (eE v ((i:Int)+1) (atV v ((i:Int)+1)+1))) (eE V ((i:Int)+1) (atV v ((i:Int)+1)+1)):=by
 have s:=next_chk h hn hi hv hN;have E:=h.known (v:=v) hn hi;obtain⟨F,B⟩:=latT_ge (dG v gs);have G:=latT_le (L:=dG v gs) (m:=(n:Int)) (by omega) λp c=>(h.r3 p (kE c)).2.2.1;have H:=hv.le ((i:Int)+1);have I:=h.vn ((i:Int)+1);have d:(1:Int)<=(i:Int)+1:=by omega
 have g:∀{P:Grp×GrX->Prop},(∀p∈gs,P p)->P (⟨gB (dG v gs) i,atV v ((i:Int)+1)+1,v,u,ops⟩,x)->∀p∈gs++[(⟨gB (dG v gs) i,atV v ((i:Int)+1)+1,v,u,ops⟩,x)],P p:=by
  intro P a b p c;rcases au.1 c with c|c
  ·exact a p c
  ·rw[aO] at c;subst c;exact b
 refine⟨g h.chk s,?_,?_,by rw[al];have:=h.len;simp;omega,g h.one ?_,g h.sml ?_,g (λp c=> ?_) ?_,λr=> ?_,by rw[cM];exact h.kl,λj q=> ?_,λj q=> ?_⟩
 ·rw[bq,dK];refine⟨h.nd,by simp,λa C b t e=> ?_⟩;simp only[List.map_cons,List.map_nil,aO] at t;subst t;obtain⟨p,c,rfl⟩:=bj.1 C;have D:=(ahead_in _ h.ah p.1 (bj.2 ⟨p,c,rfl⟩)).2;have w:p.1.s.r=(i:Int)+1:=by have e:p.1.s=gB (dG v gs) i:=e;rw[e];rfl
  have J:p.1.s.t=latT (dG v gs)+1:=by have e:p.1.s=gB (dG v gs) i:=e;rw[e];rfl
  have y:p∈dG v gs:=by
   unfold dG;rw[g7];refine⟨c,?_⟩;unfold oldB;rw[ak,w,hvo,<-w];exact D
  have:=B p y;omega
 ·rw[bq];have:=aheadV_snoc h.ah s (covB_iff.2 λk=>by have:=(hv.le ((k:Int)+1)).2;rwa[atV_getD,atV_getD] at this) (by show atV V ((i:Int)+1)=_;rw[<-hvo];show _=atV v ((i:Int)+1)+1-1;omega);exact this
 ·rcases hN.how with⟨rfl,o,rfl,ho⟩|⟨rfl,p,c,rfl⟩
  ·exact aa _
  ·exact aq _
 ·rcases hN.how with⟨rfl,o,rfl,ho⟩|⟨rfl,p,c,rfl⟩
  ·intro z f;have f:z∈[o]:=f;rw[aO] at f;subst f;exact⟨ho.dl,ho.el,ho.tl,ho.nl⟩
  ·intro z f;cases f
 ·have:=h.r3 p c;refine⟨this.1,this.2.1,by have:=this.2.2.1;omega,by have:=this.2.2.2;omega⟩
 ·refine⟨?_,hv.len,?_,?_⟩
  ·show(i:Int)+1<=3;omega
  ·show latT (dG v gs)+1<=((n+1:Nat):Int);omega
  ·show atV v ((i:Int)+1)+1<=((n+1:Nat):Int);omega
 ·rw[fM _ _ _ _ d];split
  ·omega
  ·have:=h.vn r;omega
 ·have A:∀r,atV V r<=atV (eE V ((i:Int)+1) (atV v ((i:Int)+1)+1)) r:=λr=>by
   rw[fM _ _ _ _ d];split
   ·rename_i e;subst e;omega
   ·exact gO _
  by_cases l:j=i
  ·subst l;rw[ae,gS (by rw[h.kl];exact q)];refine⟨withV_plain _ _ _,?_,λr=> ?_⟩
   ·show(eE v _ _).length<=3;have K:=pv_len (setV v ((j:Int)+1) (atV v ((j:Int)+1)+1));have M:(setV v ((j:Int)+1) (atV v ((j:Int)+1)+1)).length=max v.length ((j:Int)+1).toNat:=by unfold setV;simp
    have N:=hv.len;unfold eE;omega
   ·show 0<=atV (eE v _ _) r∧atV (eE v _ _) r<=_;rw[fM _ _ _ _ d,fM _ _ _ _ d];have:=hv.le r;split<;>omega
  ·rw[ae,iv (λe=>l e.symm),<-ae];have:=h.kv j q;exact⟨this.pl,this.len,λr=>⟨(this.le r).1,Int.le_trans (this.le r).2 (A r)⟩⟩
 ·by_cases l:j=i
  ·subst l;rw[ae,gS (by rw[h.kl];exact q)];show atV (eE v _ _) _=_;rw[fM _ _ _ _ d,fM _ _ _ _ d,aJ rfl,aJ rfl]
  ·rw[ae,iv (λe=>l e.symm),<-ae,fM _ _ _ _ d,aC (by omega)];exact h.ko j q
theorem HOk.his {n:Nat} {gs:List (Grp×GrX)} {kn:List (List Int)} {V:List Int} (h:HOk n gs kn V):HisG (gs.map Prod.fst):=by
 refine⟨λg a=> ?_,?_,V,h.ah⟩
 ·obtain⟨p,b,rfl⟩:=bj.1 a;exact h.chk p b
 ·rw[List.map_map];exact h.nd
end
section
open Go.RowKit Go.Lib Go.Sort
attribute [local go_sem ↓] Go.wp_at_zero Go.wp_at_succ
structure KnX where
 A:Option Addr
 c:Nat
 v:List Int
def kn0:KnX:=⟨none,0,[]⟩
def knC (p:KnX):List Value:=[.slice p.A p.v.length p.c]
theorem info_vec:(Tryz.prog.info? 27).map (λi=>(i.zero,i.size,i.bytes))=some (some (.slice none 0 0),1,24):=by kernel_rfl
structure WIn (S:Nat->Prop) (n:Nat) (L:List (Grp×GrX)) (K:List KnX) (V:List Int) (gA:Option Addr) (gc:Nat) (kA:Option Addr) (kc:Nat) (w:World):Prop where
 ok:HOk n L (K.map (·.v)) V
 gr:w.ownsRow 0 45 7 (.slice gA L.length gc) L.length (L.flatMap grC_)
 gs:∀g,(Value.slice gA L.length gc).ownBlock=some g->S g
 gd:∀p∈L,GrG w S p
 kr:w.ownsRow 0 27 1 (.slice kA 3 kc) 3 (K.flatMap knC)
 ks:∀g,(Value.slice kA 3 kc).ownBlock=some g->S g
 kd:∀p∈K,VecS w S p.A p.v∧p.v.length<=p.c∧p.c<=maxLen
def DoneQ (S:Nat->Prop) (n:Nat) (w00:World) (e:Ending) (w':World):Prop:=∃L K V gA gc kA kc,e= .returned (.agg #[.slice gA (List.length L) gc,.slice kA 3 kc])∧WIn S n L K V gA gc kA kc w'∧Below w00.heap.size w00 w'
theorem WIn.below {S:Nat->Prop} {n:Nat} {L:List (Grp×GrX)} {K:List KnX} {V:List Int} {gA kA:Option Addr} {gc kc:Nat} {w w':World} (h:WIn S n L K V gA gc kA kc w) (hB:Below w.heap.size w w'):WIn S n L K V gA gc kA kc w':=
 ⟨h.ok,h.gr.kept (dg (r:=none) hB) (cw _),h.gs,λp hp=>(h.gd p hp).agr (Agr.below hB),h.kr.kept (dg (r:=none) hB) (cw _),h.ks,λp hp=>⟨RowG.agr (h.kd p hp).1 (Agr.below hB),(h.kd p hp).2⟩⟩
theorem HOk.mono {n:Nat} {gs:List (Grp×GrX)} {kn:List (List Int)} {V:List Int} (h:HOk n gs kn V):HOk (n+1) gs kn V:=
 ⟨h.chk,h.nd,h.ah,by have:=h.len;omega,h.one,h.sml,λp hp=>by have:=h.r3 p hp;exact⟨this.1,this.2.1,by have:=this.2.2.1;omega,by have:=this.2.2.2;omega⟩,λr=>by have:=h.vn r;omega,h.kl,h.kv,h.ko⟩
theorem gby_none {w w':World} (h:Below w.heap.size w w'):w.grownBy w' none:=dg h
theorem there_sub {w:World} {g off n:Nat} {T:TypeId} {c:Array Value} (h:w.heap[g]? =some (.cells c T (0,0))) (hs:off+n<=c.size):w.there g off n:=λj hj=>by
 rw[crw h]
 exact⟨by rw[dh (by omega)];rfl,aW _ _ _ _ _ h⟩
theorem ops_one {w:World} {S:Nat->Prop} {ob:Nat} {o:Gop} {x:OpX} {T:TypeId} (h:w.heap[ob]? =some (.cells (opA o x) T (0,0))) (hI:OpIn w S o x) (hS:S ob):OpsS w S (some ⟨ob,0,none⟩) [o]:=by
 refine⟨λ_=>x,λk a=> ?_,λk a=> ?_⟩
 ·have a:k<1:=a;obtain rfl:k=0:=by omega
  refine⟨ob,0,rfl,hS,lt_of_block h,λj b=> ?_⟩;rw[Nat.zero_mul,Nat.add_zero,bN,aD _ _ _ _ _ _ h];show(opA o x)[j]? =some ((opA o x).getD j undef);have c:(opA o x).size=18:=rfl;rw[dh (by omega)];simp[Array.getD,c,b]
 ·have a:k<1:=a;obtain rfl:k=0:=by omega
  exact hI
theorem knlen {n:Nat} {L:List (Grp×GrX)} {K:List KnX} {V:List Int} (h:HOk n L (K.map (·.v)) V):K.length=3:=by have:=h.kl;simpa using this
theorem kngetD (K:List KnX) (i:Nat):(K.map (·.v)).getD i []=(K.getD i kn0).v:=by
 rw[ae,cT,ae];cases K[i]? <;>rfl
theorem done_any (n:Nat) (L:List (Grp×GrX)) (K:List KnX) (V:List Int) (gA:Option Addr) (gc:Nat) (kA:Option Addr) (kc:Nat) (q0 q1 q2 q3 q4:Nat) (see:Bool) (S:Nat→Prop) (w00:World) (hS:∀b,w00.heap.size≤b→S b) (hn:n<16) (h0:q0≤255) (h1:q1≤255) (h2:q2≤255) (h3:q3≤255) (h4:q4≤255) (hW:WIn S n L K V gA gc kA kc w00):
  Calls Tryz.prog 47 #[.agg #[.slice gA L.length gc,.slice kA 3 kc],.agg #[.int .u8 (q0:Int),.int .u8 (q1:Int),.int .u8 (q2:Int),.int .u8 (q3:Int),.int .u8 (q4:Int),.bool see]] w00 fun e w'=>DoneQ S (n+1) w00 e w':=by
 obtain⟨iV,hV,cS,cT,cU⟩:=bD info_vec
 obtain⟨iG,hG,b3,b4,b5⟩:=bD ia
 have bd:=knlen hW.ok
 have dJ:=hW.ok.len
 have HW:=hid hW
 clear hW
 go_enter Tryz.func47,Tryz.ntmps47
 go_upto_region 1 with fail
 have sz:=fun (W:World) (o:Obj)=>show(W.alloc o).heap.size=W.heap.size+1 by simp
 have aJ:Below w00.heap.size w00 (((w00.alloc (.cells #[.slice gA L.length gc,.slice kA 3 kc] 83)).alloc (.cells #[.int .u8 (q0:Int),.int .u8 (q1:Int),.int .u8 (q2:Int),.int .u8 (q3:Int),.int .u8 (q4:Int),.bool see] 86)).alloc (.cells #[.slice none 0 0,.slice none 0 0] 83)):=(((ag _ _).alloc (aa _) _).alloc (by rw[sz];omega) _).alloc (by rw[sz,sz];omega) _
 have aK:=hid (show(((w00.alloc (.cells #[.slice gA L.length gc,.slice kA 3 kc] 83)).alloc (.cells #[.int .u8 (q0:Int),.int .u8 (q1:Int),.int .u8 (q2:Int),.int .u8 (q3:Int),.int .u8 (q4:Int),.bool see] 86)).alloc (.cells #[.slice none 0 0,.slice none 0 0] 83)).heap[w00.heap.size]? =some (.cells #[.slice gA L.length gc,.slice kA 3 kc] 83 (0,0)) from(ax _ _ _ (by rw[sz,sz];omega)).trans ((ax _ _ _ (by rw[sz];omega)).trans (am _ _)))
 have aX:=hid (show(((w00.alloc (.cells #[.slice gA L.length gc,.slice kA 3 kc] 83)).alloc (.cells #[.int .u8 (q0:Int),.int .u8 (q1:Int),.int .u8 (q2:Int),.int .u8 (q3:Int),.int .u8 (q4:Int),.bool see] 86)).alloc (.cells #[.slice none 0 0,.slice none 0 0] 83)).heap[(w00.heap.size+1)]? =some (.cells #[.int .u8 (q0:Int),.int .u8 (q1:Int),.int .u8 (q2:Int),.int .u8 (q3:Int),.int .u8 (q4:Int),.bool see] 86 (0,0)) from(ax _ _ _ (by rw[sz,sz];omega)).trans (bn _ _ (by rw[sz])))
 have be:=hid (show(((w00.alloc (.cells #[.slice gA L.length gc,.slice kA 3 kc] 83)).alloc (.cells #[.int .u8 (q0:Int),.int .u8 (q1:Int),.int .u8 (q2:Int),.int .u8 (q3:Int),.int .u8 (q4:Int),.bool see] 86)).alloc (.cells #[.slice none 0 0,.slice none 0 0] 83)).heap[(w00.heap.size+1+1)]? =some (.cells #[.slice none 0 0,.slice none 0 0] 83 (0,0)) from bn _ _ (by rw[sz,sz]))
 have HB:=hid aJ
 have ah:=hid (HW.out.below aJ)
 generalize hw:(((w00.alloc (.cells #[.slice gA L.length gc,.slice kA 3 kc] 83)).alloc (.cells #[.int .u8 (q0:Int),.int .u8 (q1:Int),.int .u8 (q2:Int),.int .u8 (q3:Int),.int .u8 (q4:Int),.bool see] 86)).alloc (.cells #[.slice none 0 0,.slice none 0 0] 83))=w at *
 have z:=hid HW.out
 clear hw aJ HW sz
 have d1:w.cell? ⟨w00.heap.size+1,1,none⟩=some (.int .u8 (q1:Int)):=aD _ _ _ _ _ _ aX.out
 obtain⟨i,hi⟩:∃i,i=q1 % 3:=⟨_,rfl⟩
 have al:i<3:=by omega
 have dS:(q1:Int).tmod 3=(i:Int):=by rw[ee (by omega),hi];rfl
 clear hi
 go_upto_region 2 with fail
 clear d1
 rw[show(1+(i:Int))=(i:Int)+1 by omega]
 obtain⟨Q,cV,-,bp,b6⟩:=cz (f:=knC) (fun _=>rfl) bd.symm ah.out.kr al kn0
 cases cV
 have bq:=hid (show VecS w (fun b=>b≠w00.heap.size+1+1∧S b) (K.getD i kn0).A (K.getD i kn0).v∧(K.getD i kn0).v.length≤(K.getD i kn0).c∧(K.getD i kn0).c≤maxLen from by
  have I:=z.out.kd _ (bL (show i<K.length by omega) kn0)
  exact⟨RowG.agr (RowG.sub (T:=fun b=>b≠w00.heap.size+1+1∧S b) I.1 (fun b Y hs=>⟨by omega,hs⟩)) (Agr.grown (row:=none) (gby_none HB.out) (fun g e=>by cases e)),I.2⟩)
 have br:=hid (show Vok V (K.getD i kn0).v∧atV (K.getD i kn0).v ((i:Int)+1)=atV V ((i:Int)+1) by rw[←kngetD];exact⟨ah.out.ok.kv i al,ah.out.ok.ko i al⟩)
 generalize K.getD i kn0=p0 at *
 obtain⟨bs,bt,v0⟩:=p0
 have x1:w.cell? ⟨w00.heap.size,1,none⟩=some (.slice (some ⟨Q,0,none⟩) 3 kc):=aD _ _ _ _ _ _ aK.out
 have x2:w.cell? ⟨Q,i,none⟩=some (.slice bs v0.length bt):=by have I:=b6 0 _ rfl;rwa[jE,Nat.add_zero] at I
 have x3:(0:Int)≤(i:Int):=by omega
 have x4:(i:Int)<3:=by omega
 have d5:w.cell? ⟨w00.heap.size+1,5,none⟩=some (.bool see):=aD _ _ _ _ _ _ aX.out
 clear b6
 go_upto_if 29 with fail
 clear x1 x2 d5
 go_cut [6] (fun s wx=>∃(t:Option Addr) (d:Nat) (v:List Int),s= .slice t v.length d∧Hid (Vok V v∧atV v ((i:Int)+1)=atV V ((i:Int)+1))∧Hid (VecS wx (fun b=>b≠w00.heap.size+1+1∧S b) t v∧v.length≤d∧d≤maxLen)∧Hid (Below w.heap.size w wx))
 case first=>
  cases see with
  |false=>
   go_wp2
   go_meet
   exact⟨bs,bt,v0,rfl,br,bq,hid (ag _ _)⟩
  | true=>
   go_upto_region 5 with fail
   go_loopg [6,7] 3 (fun g0 s ix wr=>∃(j:Nat) (t:Option Addr) (d:Nat) (v:List Int),j+g0=3∧ix= .int .i64 j∧s= .slice t v.length d∧Hid (Vok V v∧atV v ((i:Int)+1)=atV V ((i:Int)+1))∧Hid (VecS wr (fun b=>b≠w00.heap.size+1+1∧S b) t v∧v.length≤d∧d≤maxLen)∧Hid (Below w.heap.size w wr))
   case atStart=>exact⟨0,bs,bt,v0,rfl,rfl,rfl,br,bq,hid (ag _ _)⟩
   case round=>
    obtain⟨j,t,d,v,hj,rfl,rfl,aY,b8,ao⟩:=hrel
    have HX:=hid ((ao.out.block _ (lt_of_block aK.out)).trans aK.out)
    have y1:wr.cell? ⟨w00.heap.size,1,none⟩=some (.slice (some ⟨Q,0,none⟩) 3 kc):=aD _ _ _ _ _ _ HX.out
    by_cases b9:j<3
    ·have j1:(0:Int)≤(j:Int):=by omega
     have j2:(j:Int)<3:=by omega
     obtain⟨dT,e2,-,dK,bw⟩:=cz (f:=knC) (fun _=>rfl) bd.symm (ah.out.below ao.out).kr b9 kn0
     cases e2
     have cW:=hid ((ah.out.below ao.out).kd _ (bL (show j<K.length by omega) kn0))
     have bx:=hid (show Vok V (K.getD j kn0).v by rw[←kngetD];exact ah.out.ok.kv j b9)
     generalize K.getD j kn0=p9 at *
     obtain⟨uA,uc,u⟩:=p9
     have y2:wr.cell? ⟨Q,j,none⟩=some (.slice uA u.length uc):=by have I:=bw 0 _ rfl;rwa[jE,Nat.add_zero] at I
     have cX:=hid (refmerge_any t uA d uc v u wr (by have:=aY.out.1.len;omega) (by have I:Vok V u:=bx.out;have:=I.len;omega) b8.out.1.vec (VecS.vec cW.out.1))
     clear bw
     go_wp2_with (go_at_call 87;refine cX.out.mono ?_;rintro e w2 ⟨mA,mc,rfl,ca,cY,cZ,aZ⟩;have c0:=hid ca;have aL:=hid aZ;clear ca aZ)
     go_roundg (3-(j+1))
     case measure=>omega
     case rel=>exact⟨j+1,mA,mc,iq v u,by omega,by go_num,rfl,hid ⟨aY.out.1.merge bx.out,aY.out.1.merge_at bx.out aY.out.2⟩,hid ⟨RowG.sub c0.out (fun b _ (Y:wr.heap.size≤b)=>by have:=ao.out.size;have:=lt_of_block be.out;exact⟨by omega,hS b (by omega)⟩),cY,cZ⟩,hid (ao.out.trans (aL.out.mono ao.out.size))⟩
    ·have j2:¬(j:Int)<3:=by omega
     go_wp2
     go_meet
     exact⟨t,d,v,rfl,aY,b8,ao⟩
 case rest=>
  obtain⟨t,d,v,rfl,a0,a1,aN⟩:=hcut
  generalize wc=w1 at *
  have HX:=hid ((aN.out.block _ (lt_of_block aK.out)).trans aK.out)
  have HD:=hid ((aN.out.block _ (lt_of_block aX.out)).trans aX.out)
  have HZ:=hid ((aN.out.block _ (lt_of_block be.out)).trans be.out)
  have a2:=hid (ah.out.below aN.out)
  have dU:=HB.out.size
  have cc:=hid (HB.out.trans (aN.out.mono HB.out.size))
  clear bq br aK aX be ah aN HB
  have dV:v.length≤3:=a0.out.1.len
  obtain⟨E,aP⟩:∃X,X=dG v L:=⟨_,rfl⟩
  have dL:E.length≤L.length:=by rw[aP];exact knownL_len v L
  have cd:=hid (show Calls Tryz.prog 88 #[.slice gA L.length gc,.slice t v.length d] w1 fun e w'=>∃A' c',e= .returned (.slice A' E.length c')∧w'.ownsRow w1.heap.size 45 7 (.slice A' E.length c') E.length (E.flatMap grC_)∧Below w1.heap.size w1 w' by rw[aP];exact known_any L gA gc t d v w1 (by omega) (by omega) (RowGr.own a2.out.gr) a1.out.1.vec)
  have ce:=hid (show ∀p∈E,GrG w1 S p from fun p J=>a2.out.gd p (by rw[aP] at J;exact kE J))
  have cf:=hid (show KnG E ⟨latT E+1,(i:Int)+1⟩ by rw[aP];exact a2.out.ok.known hn al)
  have bz:=hid aP
  clear aP
  have z1:w1.cell? ⟨w00.heap.size,0,none⟩=some (.slice gA L.length gc):=aD _ _ _ _ _ _ HX.out
  go_upto_region 9 with(go_at_call 88;refine cd.out.mono ?_;rintro e w2 ⟨lA,lc,rfl,bg,aZ⟩;have bA:=hid bg;have aL:=hid aZ;clear bg aZ)
  clear z1
  have bC:=hid (fh t d v ((i:Int)+1) w2 (by omega) (VecS.vec (RowG.agr a1.out.1 (Agr.below aL.out))))
  obtain⟨G,bh⟩:∃x,x=atV v ((i:Int)+1):=⟨_,rfl⟩
  rw[←bh] at bC
  have dM:0≤G∧G≤16:=by have I:=a0.out.1.le ((i:Int)+1);have h8:=a2.out.ok.vn ((i:Int)+1);rw[bh];omega
  have c1:=hid bh
  clear bh
  have bE:=hid (fun W (hB:Below w2.heap.size w2 W)=>latest_any E lA lc W (by omega) ((RowGr.own bA.out).below hB))
  obtain⟨F,bi⟩:∃x,x=latT E:=⟨_,rfl⟩
  rw[←bi] at bE cf
  have dN:0≤F∧F≤16:=by
   have I:=(latT_ge E).1
   have h8:=latT_le (L:=E) (m:=(n:Int)) (by omega) fun p J=>(a2.out.ok.r3 p (by rw[bz.out] at J;exact kE J)).2.2.1
   rw[bi];omega
  have ch:=hid bi
  clear bi
  go_upto_region 11 with(first
   |(go_at_call 89;refine(bE.out _ (by first|exact bj.out|exact ag _ _)).mono ?_;rintro e A ⟨rfl,aJ⟩;have bj:=hid aJ;clear aJ)
   |(go_at_call 55;refine bC.out.mono ?_;rintro e A ⟨rfl,rfl⟩))
  obtain⟨w4,a3⟩:∃W,W=A.alloc (.cells #[.int .i64 (F+1),.int .i64 ((i:Int)+1),.int .i64 (G+1),.slice t v.length d,.int .i64 0,.int .i64 0,.slice none 0 0] 45):=⟨_,rfl⟩
  rw[←a3]
  have y:=hid (aL.out.trans (bj.out.mono aL.out.size))
  have ap:=hid (show w4.heap[A.heap.size]? =some (.cells #[.int .i64 (F+1),.int .i64 ((i:Int)+1),.int .i64 (G+1),.slice t v.length d,.int .i64 0,.int .i64 0,.slice none 0 0] 45 (0,0)) by rw[a3];exact am _ _)
  have cj:Below A.heap.size A w4:=by rw[a3];exact(ag _ _).alloc (aa _) _
  have D:=hid cj
  have c2:w4.heap.size=A.heap.size+1:=by rw[a3];simp
  have dW:=y.out.size
  have hz:=lt_of_block HZ.out
  have aw:=hid ((y.out.block _ (lt_of_block HX.out)).trans HX.out)
  have aQ:=hid ((y.out.block _ (lt_of_block HD.out)).trans HD.out)
  have aj:=hid ((y.out.block _ (lt_of_block HZ.out)).trans HZ.out)
  have bF:=hid (And.intro (RowG.agr a1.out.1 (Agr.below y.out)) a1.out.2)
  have ck:=hid (bA.out.kept (dg (r:=none) bj.out) (cw _))
  have c3:=hid (fun p J=>(ce.out p J).agr (Agr.below y.out))
  have ay:=hid (cc.out.trans (y.out.mono cc.out.size))
  clear a3 HX HD HZ a1 bA ce y bj aL bE bC cd
  have d0:w4.cell? ⟨w00.heap.size+1,0,none⟩=some (.int .u8 (q0:Int)):=aD _ _ _ _ _ _ ((cj.block _ (lt_of_block aQ.out)).trans aQ.out)
  obtain⟨b7,cl⟩:∃b,b=((q0:Int) % 8 == 7):=⟨_,rfl⟩
  have q7:((q0:Int) % 8 == 7)=b7:=cl.symm
  clear cl
  go_upto_if 63 with fail
  clear d0
  go_cut [] (fun wx=>∃(u:Gst) (M:List Gop) (oA:Option Addr) (oc:Nat),Hid (wx.heap[A.heap.size]? =some (.cells #[.int .i64 (F+1),.int .i64 ((i:Int)+1),.int .i64 (G+1),.slice t v.length d,.int .i64 u.t,.int .i64 u.r,.slice oA M.length oc] 45 (0,0)))∧Hid (NextG E ⟨F+1,(i:Int)+1⟩ u M)∧Hid (OpsS wx (fun b=>A.heap.size<b) oA M∧M.length≤oc∧oc≤maxLen)∧Hid (Below A.heap.size A wx))
  case first=>
   cases b7 with
   | true=>
    by_cases cm:E.length=0
    ·have e0:((E.length:Int) == 0)=true:=by simp[cm]
     have c4:=hid ((D.out.block _ (lt_of_block aw.out)).trans aw.out)
     have cn:=hid ((D.out.block _ (lt_of_block aj.out)).trans aj.out)
     have bG:=hid (ay.out.trans (D.out.mono ay.out.size))
     go_upto_region 13 with fail
     obtain⟨V9,B⟩:∃X,X=w4.setRow (w00.heap.size+1+1) #[.slice gA L.length gc,.slice (some ⟨Q,0,none⟩) 3 kc]:=⟨_,rfl⟩
     have aA:=hid B
     have a4:=hid (show V9.heap[(w00.heap.size+1+1)]? =some (.cells #[.slice gA L.length gc,.slice (some ⟨Q,0,none⟩) 3 kc] 83 (0,0)) by rw[B];exact aM _ cn.out)
     have Z:w4.grownBy V9 (some (w00.heap.size+1+1)):=by rw[B];exact dR _ _ _
     have a:=hid (bG.out.grown Z bG.out.size (fun b e=>by cases e;omega))
     have aB:=hid (show(#[.slice gA L.length gc,.slice (some ⟨Q,0,none⟩) 3 kc]:Array Value).toList.all (·.oneCell')=true by rfl)
     clear B Z
     go_wp2_with (first
      |(refine cu rfl _ _ rfl w00.heap.size _ _ _ rfl c4.out jo rfl ?_ ?_;kernel_rfl)
      |(refine da rfl _ _ _ rfl (w00.heap.size+1+1) 83 #[.slice none 0 0,.slice none 0 0] #[.slice gA L.length gc,.slice (some ⟨Q,0,none⟩) 3 kc] rfl rfl cn.out (by kernel_rfl) rfl aB.out ?_;rw[←aA.out]))
     try simp only[Exit.inBlock,Exit.then]
     refine bB (co rfl _ _ (w00.heap.size+1+1) _ _ (0,0) _ rfl a4.out jo rfl (by kernel_rfl)) rfl ?_
     exact⟨L,K,V,gA,gc,(some ⟨Q,0,none⟩),kc,rfl,⟨(z.out.below a.out).ok.mono,(z.out.below a.out).gr,(z.out.below a.out).gs,(z.out.below a.out).gd,(z.out.below a.out).kr,(z.out.below a.out).ks,(z.out.below a.out).kd⟩,a.out⟩
    ·have e0:((E.length:Int) == 0)=false:=by simp[cm]
     have e1:¬(E.length:Int)=0:=by omega
     obtain⟨k,hk⟩:∃k,k=q2 % E.length:=⟨_,rfl⟩
     have bp:k<E.length:=by rw[hk];exact fv _ (by omega)
     have dX:(q2:Int).tmod (E.length:Int)=(k:Int):=by rw[ee (by omega),hk];rfl
     have k1:(0:Int)≤(k:Int):=by omega
     have k2:(k:Int)<(E.length:Int):=by omega
     obtain⟨rb,ro,e9,dY,cp⟩:=(RowGr.own (ck.out.kept (dg (r:=none) D.out) (cw _))).range bp
     cases e9
     have c5:=hid (bL bp gp0)
     generalize E.getD k gp0=p at *
     obtain⟨⟨⟨ut,ur⟩,un,uv,⟨c6,c7⟩,cL⟩,⟨c8,db,dc,de⟩⟩:=p
     have bH:=hid (show w4.rangeAt rb (ro+k*7) [.int .i64 ut,.int .i64 ur] from bv (pre:=[]) (mid:=[.int .i64 ut,.int .i64 ur]) (post:=[.int .i64 un,.slice c8 uv.length db,.int .i64 c6,.int .i64 c7,.slice dc cL.length de]) cp)
     have d2:w4.cell? ⟨w00.heap.size+1,2,none⟩=some (.int .u8 (q2:Int)):=aD _ _ _ _ _ _ ((D.out.block _ (lt_of_block aQ.out)).trans aQ.out)
     obtain⟨V9,B⟩:∃X,X=w4.setCells A.heap.size 4 [.int .i64 ut,.int .i64 ur]:=⟨_,rfl⟩
     have a7:V9=w4.setRow A.heap.size #[.int .i64 (F+1),.int .i64 ((i:Int)+1),.int .i64 (G+1),.slice t v.length d,.int .i64 ut,.int .i64 ur,.slice none 0 0]:=by rw[B,fk _ _ _ _ _ _ ap.out];rfl
     have aR:=hid (show V9.heap[A.heap.size]? =some (.cells #[.int .i64 (F+1),.int .i64 ((i:Int)+1),.int .i64 (G+1),.slice t v.length d,.int .i64 ut,.int .i64 ur,.slice none 0 0] 45 (0,0)) by rw[a7];exact aM _ ap.out)
     have a:=hid (show Below A.heap.size A V9 by rw[a7];exact Below.setRow' D.out (aa _) _)
     have df:=hid (there_sub ap.out (off:=4) (n:=2) (by show 4+2≤7;omega))
     have aA:=hid B
     clear hk cp B a7
     go_wp2_with (first
      |(refine ii rfl _ _ rfl rb (ro+k*7) rfl [.int .i64 ut,.int .i64 ur] _ bH.out cb rfl (by kernel_rfl) ?_)
      |(refine wpList_store_mid rfl _ _ _ rfl A.heap.size 4 #[.int .i64 ut,.int .i64 ur] rfl rfl df.out (by kernel_rfl) (by rw[←cg];rfl) ?_;rw[←aA.out]))
     go_meet
     exact⟨⟨ut,ur⟩,[],none,0,aR,hid ⟨.inr ⟨rfl,_,c5.out,rfl⟩⟩,hid ⟨⟨fun _=>⟨none,0,none,0⟩,RowG.zero,fun k hk=>absurd hk (cG k)⟩,aa _,aq _⟩,a⟩
   | false=>
    have dh:=hid ((D.out.block _ (lt_of_block aQ.out)).trans aQ.out)
    have bH:=hid (show w4.rangeAt A.heap.size 0 [.int .i64 (F+1),.int .i64 ((i:Int)+1)] from bv (pre:=[]) (mid:=[.int .i64 (F+1),.int .i64 ((i:Int)+1)]) (post:=[.int .i64 (G+1),.slice t v.length d,.int .i64 0,.int .i64 0,.slice none 0 0]) (bf (l:=[.int .i64 (F+1),.int .i64 ((i:Int)+1),.int .i64 (G+1),.slice t v.length d,.int .i64 0,.int .i64 0,.slice none 0 0]) ap.out))
    have di:=hid (opw_any E lA lc (F+1) ((i:Int)+1) q0 q1 q2 q3 q4 see S w4 h0 h2 h3 h4 cf.out ((RowGr.own ck.out).below D.out) (fun p J=>(c3.out p J).agr (Agr.below D.out)))
    go_upto_region 16 with(first
     |(refine ii rfl _ _ rfl A.heap.size 0 rfl [.int .i64 (F+1),.int .i64 ((i:Int)+1)] _ bH.out cb rfl (by kernel_rfl) ?_)
     |(refine cu rfl _ _ rfl (w00.heap.size+1) _ _ _ rfl dh.out Tryz.underlying86 rfl ?_ ?_;kernel_rfl)
     |(go_at_call 90;refine di.out.mono ?_;rintro e w5 ⟨⟨kd,⟨⟨jt,jr⟩,ji⟩,⟨⟨pt,pr⟩,pi⟩,nm,dd,C,⟨⟨O,ar⟩,ai⟩,⟨⟨et,er⟩,ei⟩,tx,h⟩,⟨sA,sc,eA,ec⟩,ok,rfl,cq,cr⟩;have cs:=hid cq;have bI:=hid cr;clear cq cr;dsimp only[opA])
     |(refine bM rfl _ _ _ rfl _ _ _ _ rfl ?_ rfl ?_ ?_ ?_ ?_;(focus(simp;done));kernel_rfl;rfl;rfl))
    obtain⟨P,aS⟩:∃W,W=w5.alloc (.cells #[.int .i64 kd,.int .i64 jt,.int .i64 jr,.int .i64 ji,.int .i64 pt,.int .i64 pr,.int .i64 pi,.string nm,.bool dd,.slice sA C.length sc,.int .i64 O,.int .i64 ar,.int .i64 ai,.int .i64 et,.int .i64 er,.int .i64 ei,.string tx,.slice eA h.length ec] 125):=⟨_,rfl⟩
    rw[←aS]
    have ct:Below w5.heap.size w5 P:=by rw[aS];exact(ag _ _).alloc (aa _) _
    have dk:=hid (show P.heap[w5.heap.size]? =some (.cells #[.int .i64 kd,.int .i64 jt,.int .i64 jr,.int .i64 ji,.int .i64 pt,.int .i64 pr,.int .i64 pi,.string nm,.bool dd,.slice sA C.length sc,.int .i64 O,.int .i64 ar,.int .i64 ai,.int .i64 et,.int .i64 er,.int .i64 ei,.string tx,.slice eA h.length ec] 125 (0,0)) by rw[aS];exact am _ _)
    have aC:=hid (bI.out.trans (ct.mono bI.out.size))
    have dZ:=bI.out.size
    have cv:=hid ((aC.out.block _ (lt_of_block ap.out)).trans ap.out)
    have d3:w5.heap.size<P.heap.size:=by rw[aS];simp
    cases ok with
    | false=>
     have dl:=hid ((aC.out.block _ (by have:=lt_of_block aw.out;omega)).trans ((D.out.block _ (lt_of_block aw.out)).trans aw.out))
     have cx:=hid ((aC.out.block _ (by have:=lt_of_block aj.out;omega)).trans ((D.out.block _ (lt_of_block aj.out)).trans aj.out))
     have cM:=hid (D.out.trans (aC.out.mono D.out.size))
     have bJ:=hid (ay.out.trans (cM.out.mono ay.out.size))
     clear aS
     go_upto_region 17 with fail
     obtain⟨V9,B⟩:∃X,X=P.setRow (w00.heap.size+1+1) #[.slice gA L.length gc,.slice (some ⟨Q,0,none⟩) 3 kc]:=⟨_,rfl⟩
     have aA:=hid B
     have a4:=hid (show V9.heap[(w00.heap.size+1+1)]? =some (.cells #[.slice gA L.length gc,.slice (some ⟨Q,0,none⟩) 3 kc] 83 (0,0)) by rw[B];exact aM _ cx.out)
     have Z:P.grownBy V9 (some (w00.heap.size+1+1)):=by rw[B];exact dR _ _ _
     have a:=hid (bJ.out.grown Z bJ.out.size (fun b e=>by cases e;omega))
     have aB:=hid (show(#[.slice gA L.length gc,.slice (some ⟨Q,0,none⟩) 3 kc]:Array Value).toList.all (·.oneCell')=true by rfl)
     clear B Z
     go_wp2_with (first
      |(refine cu rfl _ _ rfl w00.heap.size _ _ _ rfl dl.out jo rfl ?_ ?_;kernel_rfl)
      |(refine da rfl _ _ _ rfl (w00.heap.size+1+1) 83 #[.slice none 0 0,.slice none 0 0] #[.slice gA L.length gc,.slice (some ⟨Q,0,none⟩) 3 kc] rfl rfl cx.out (by kernel_rfl) rfl aB.out ?_;rw[←aA.out]))
     try simp only[Exit.inBlock,Exit.then]
     refine bB (co rfl _ _ (w00.heap.size+1+1) _ _ (0,0) _ rfl a4.out jo rfl (by kernel_rfl)) rfl ?_
     exact⟨L,K,V,gA,gc,(some ⟨Q,0,none⟩),kc,rfl,⟨(z.out.below a.out).ok.mono,(z.out.below a.out).gr,(z.out.below a.out).gs,(z.out.below a.out).gd,(z.out.below a.out).kr,(z.out.below a.out).ks,(z.out.below a.out).kd⟩,a.out⟩
    |true=>
     have cy:=hid (show OpOk ⟨F+1,(i:Int)+1⟩ ⟨kd,⟨⟨jt,jr⟩,ji⟩,⟨⟨pt,pr⟩,pi⟩,nm,dd,C,⟨⟨O,ar⟩,ai⟩,⟨⟨et,er⟩,ei⟩,tx,h⟩∧OpIn P (fun b=>A.heap.size<b) ⟨kd,⟨⟨jt,jr⟩,ji⟩,⟨⟨pt,pr⟩,pi⟩,nm,dd,C,⟨⟨O,ar⟩,ai⟩,⟨⟨et,er⟩,ei⟩,tx,h⟩ ⟨sA,sc,eA,ec⟩ from⟨(cs.out rfl).1,((cs.out rfl).2.agr (Agr.below ct)).sub (fun b _ (Y:w4.heap.size≤b)=>by omega)⟩)
     obtain⟨V9,B⟩:∃X,X=(P.alloc (.cells #[.int .i64 kd,.int .i64 jt,.int .i64 jr,.int .i64 ji,.int .i64 pt,.int .i64 pr,.int .i64 pi,.string nm,.bool dd,.slice sA C.length sc,.int .i64 O,.int .i64 ar,.int .i64 ai,.int .i64 et,.int .i64 er,.int .i64 ei,.string tx,.slice eA h.length ec] 125)).setCell ⟨A.heap.size,6,none⟩ (.slice (some ⟨P.heap.size,0,none⟩) 1 1):=⟨_,rfl⟩
     have aA:=hid B
     have ak:Below P.heap.size P (P.alloc (.cells #[.int .i64 kd,.int .i64 jt,.int .i64 jr,.int .i64 ji,.int .i64 pt,.int .i64 pr,.int .i64 pi,.string nm,.bool dd,.slice sA C.length sc,.int .i64 O,.int .i64 ar,.int .i64 ai,.int .i64 et,.int .i64 er,.int .i64 ei,.string tx,.slice eA h.length ec] 125)):=(ag _ _).alloc (aa _) _
     have bK:=hid ((ak.block _ (lt_of_block cv.out)).trans cv.out)
     have a5:=hid (show(P.alloc (.cells #[.int .i64 kd,.int .i64 jt,.int .i64 jr,.int .i64 ji,.int .i64 pt,.int .i64 pr,.int .i64 pi,.string nm,.bool dd,.slice sA C.length sc,.int .i64 O,.int .i64 ar,.int .i64 ai,.int .i64 et,.int .i64 er,.int .i64 ei,.string tx,.slice eA h.length ec] 125)).heap[P.heap.size]? =some (.cells #[.int .i64 kd,.int .i64 jt,.int .i64 jr,.int .i64 ji,.int .i64 pt,.int .i64 pr,.int .i64 pi,.string nm,.bool dd,.slice sA C.length sc,.int .i64 O,.int .i64 ar,.int .i64 ai,.int .i64 et,.int .i64 er,.int .i64 ei,.string tx,.slice eA h.length ec] 125 (0,0)) from am _ _)
     have Z:(P.alloc (.cells #[.int .i64 kd,.int .i64 jt,.int .i64 jr,.int .i64 ji,.int .i64 pt,.int .i64 pr,.int .i64 pi,.string nm,.bool dd,.slice sA C.length sc,.int .i64 O,.int .i64 ar,.int .i64 ai,.int .i64 et,.int .i64 er,.int .i64 ei,.string tx,.slice eA h.length ec] 125)).grownBy V9 (some A.heap.size):=by rw[B];exact eF _ _ _
     have aR:=hid (show V9.heap[A.heap.size]? =some (.cells #[.int .i64 (F+1),.int .i64 ((i:Int)+1),.int .i64 (G+1),.slice t v.length d,.int .i64 0,.int .i64 0,.slice (some ⟨P.heap.size,0,none⟩) 1 1] 45 (0,0)) by rw[B];exact gI (c:=#[.int .i64 (F+1),.int .i64 ((i:Int)+1),.int .i64 (G+1),.slice t v.length d,.int .i64 0,.int .i64 0,.slice none 0 0]) bK.out 6 _ rfl)
     have dm:=hid ((Z.block _ (lt_of_block a5.out) (fun e=>by injection e with e;omega)).trans a5.out)
     have dn:=hid ((cy.out.2.agr (Agr.below ak)).agr (Agr.grown Z fun g e1 e2=>by cases e1;exact absurd e2 (Nat.lt_irrefl _)))
     have a:=hid (show Below A.heap.size A V9 from((D.out.trans (aC.out.mono D.out.size)).trans (ak.mono (by omega))).grown Z (by simp;omega) (fun b e=>by cases e;exact aa _))
     have y6:(P.alloc (.cells #[.int .i64 kd,.int .i64 jt,.int .i64 jr,.int .i64 ji,.int .i64 pt,.int .i64 pr,.int .i64 pi,.string nm,.bool dd,.slice sA C.length sc,.int .i64 O,.int .i64 ar,.int .i64 ai,.int .i64 et,.int .i64 er,.int .i64 ei,.string tx,.slice eA h.length ec] 125)).cell? ⟨A.heap.size,6,none⟩=some (.slice none 0 0):=aD _ _ _ _ _ _ bK.out
     have f6:(P.alloc (.cells #[.int .i64 kd,.int .i64 jt,.int .i64 jr,.int .i64 ji,.int .i64 pt,.int .i64 pr,.int .i64 pi,.string nm,.bool dd,.slice sA C.length sc,.int .i64 O,.int .i64 ar,.int .i64 ai,.int .i64 et,.int .i64 er,.int .i64 ei,.string tx,.slice eA h.length ec] 125)).frozen? ⟨A.heap.size,6,none⟩=false:=aW _ _ _ _ _ bK.out
     clear B ak Z aS
     go_wp2_with (refine cu rfl _ _ rfl w5.heap.size _ _ _ rfl dk.out az rfl ?_ ?_;kernel_rfl)
     go_meet
     rw[←aA.out]
     exact⟨.zero,[⟨kd,⟨⟨jt,jr⟩,ji⟩,⟨⟨pt,pr⟩,pi⟩,nm,dd,C,⟨⟨O,ar⟩,ai⟩,⟨⟨et,er⟩,ei⟩,tx,h⟩],some ⟨P.heap.size,0,none⟩,1,aR,hid ⟨.inl ⟨rfl,_,rfl,cy.out.1⟩⟩,hid ⟨ops_one (x:=⟨sA,sc,eA,ec⟩) dm.out dn.out (by omega),aa _,by unfold maxLen;omega⟩,a⟩
  case rest=>
   obtain⟨u,M,oA,oc,cA,dp,a8,a6⟩:=hcut
   generalize wc=w8 at *
   have d4:=a6.out.size
   have cB:=hid (RowG.agr bF.out.1 (Agr.below a6.out))
   obtain⟨U,hU⟩:∃X,X=eE v ((i:Int)+1) (G+1):=⟨_,rfl⟩
   have dq:=hid (show Calls Tryz.prog 56 #[.slice t v.length d,.int .i64 ((i:Int)+1),.int .i64 (G+1)] w8 fun e w'=>WithQ U w8 e w' by rw[hU];exact refwith_any t d v ((i:Int)+1) (G+1) w8 (by omega) (by omega) (by omega) (VecS.vec cB.out))
   have dr:=hid hU
   clear hU D ap c2 q7
   go_upto_region 21 with(go_at_call 56;refine dq.out.mono ?_;rintro e w9 ⟨cC,uA,uc,rfl,cD,cE,cF⟩;have bO:=hid (And.intro cD (And.intro cE cF));have a:=hid cC;clear cC cD cE cF)
   have d6:=a.out.size
   have a9:=hid (show Below w00.heap.size w00 w9 from(ay.out.trans (a6.out.mono ay.out.size)).trans (a.out.mono (by have:=ay.out.size;omega)))
   have bP:=hid (a6.out.trans (a.out.mono a6.out.size))
   have bQ:=hid ((bP.out.block _ (lt_of_block aw.out)).trans aw.out)
   have a4:=hid ((bP.out.block _ (lt_of_block aj.out)).trans aj.out)
   have aR:=hid ((a.out.block _ (lt_of_block cA.out)).trans cA.out)
   have ds:=lt_of_block aR.out
   have d7:=lt_of_block aj.out
   have aT:=row_at (z.out.below a9.out).kr
   have dt:=hid (aT.2 ⟨Q,0,none⟩ rfl)
   have du:=hid (show(K.flatMap knC).length=3*1 by rw[flat_len (f:=knC) (s:=1) (fun _=>rfl) K,bd])
   have dv:=hid (show ∀u∈K.flatMap knC,u.oneCell'=true from fun u hu=>by obtain⟨x,-,hx⟩:=dI.1 hu;exact fw (c:=(knC x).toArray) rfl u hx)
   have x1:w9.cell? ⟨w00.heap.size,1,none⟩=some (.slice (some ⟨Q,0,none⟩) 3 kc):=aD _ _ _ _ _ _ bQ.out
   clear aT
   go_upto_region 22 with(at_builtin;refine bu _ rfl _ _ 81 rfl w9.heap.size 27 iV (.slice none 0 0) 1 24 Tryz.underlying81 hV cS cT cU rfl (by decide) (.slice none 0 0) 0 _ rfl (by exact(aF w9 w9.heap.size 27 1)) ⟨Q,0,none⟩ 3 kc (K.flatMap knC) rfl du.out dt.out dv.out (by unfold maxLen;omega) (by omega) (by simp) ?_;intro v' bR R H _;have ab:=hid R;have ba:=hid (Below.grown (ag w9.heap.size w9) H (by simp) (fun b Y=>(i9 (aF w9 w9.heap.size 27 1) b Y).1));clear R H)
   clear x1
   obtain⟨A9,c9,rfl⟩:=bZ ab.out
   rw[bN] at ab ⊢
   obtain⟨g9,dw,cN⟩:∃g9,A9=some ⟨g9,0,none⟩∧w9.heap.size≤g9:=by
    obtain⟨g,d8,e,I,-⟩:=own_block ab.out (by omega)
    exact⟨g,e,I⟩
   cases dw
   have dO:=ba.out.size
   have ab:Hid (bR.ownsRow w9.heap.size 27 1 (.slice (some ⟨g9,0,none⟩) 3 c9) 3 (K.flatMap knC)):=ab
   obtain⟨V1,bS⟩:∃X,X=bR.setCell ⟨g9,i,none⟩ (.slice uA U.length uc):=⟨_,rfl⟩
   have aU:=eP (f:=knC) (fun _=>rfl) (by decide) bd.symm ab.out al ⟨uA,uc,U⟩
   have cH:bR.setCells g9 (i*1) (knC ⟨uA,uc,U⟩)=V1:=by rw[bS,jE];rfl
   rw[cH] at aU
   have cO:=hid aU.1
   have N:=hid (ba.out.grown aU.2 ba.out.size (fun b e=>by cases e;exact cN))
   have dx:=hid bS
   obtain⟨gg,dy,cI⟩:=ey ab.out al
   cases dy
   have t1:=cI 0 (by omega)
   rw[jE,Nat.add_zero] at t1
   obtain⟨d9,cP⟩:=Option.isSome_iff_exists.1 t1.1
   have f9:=t1.2
   clear bS aU cH cI t1
   go_upto_region 24 with fail
   rw[←dx.out]
   clear cP f9
   have dP:=N.out.size
   have cQ:=hid ((N.out.block _ (lt_of_block bQ.out)).trans bQ.out)
   have aV:=hid (a9.out.trans (N.out.mono a9.out.size))
   have x2:V1.cell? ⟨w00.heap.size,0,none⟩=some (.slice gA L.length gc):=aD _ _ _ _ _ _ cQ.out
   go_cut [16] (fun s wx=>∃(A':Option Addr) (c':Nat),s= .slice A' L.length c'∧Hid (wx.ownsRow V1.heap.size 45 7 (.slice A' L.length c') L.length (L.flatMap grC_))∧Hid (Below V1.heap.size V1 wx))
   case first=>
    have aT:=row_at (z.out.below aV.out).gr
    have dz:=hid (kD L)
    have dA:=hid (show ∀u∈L.flatMap grC_,u.oneCell'=true from fun u hu=>by obtain⟨x,-,hx⟩:=dI.1 hu;exact iO x u hx)
    cases gA with
    |none=>
     have h0:=aT.1 rfl
     obtain rfl:L=[]:=ci.1 h0
     go_wp2
     go_meet
     exact⟨none,0,rfl,hid (aF _ _ _ _),hid (ag _ _)⟩
    |some ad=>
     have HC:=hid (aT.2 ad rfl)
     clear aT
     go_wp2_with (at_builtin;refine bu _ rfl _ _ 25 rfl V1.heap.size 45 iG (.agg #[.int .i64 0,.int .i64 0,.int .i64 0,.slice none 0 0,.int .i64 0,.int .i64 0,.slice none 0 0]) 7 88 bV hG b3 b4 b5 rfl (by decide) (.slice none 0 0) 0 _ rfl (by exact(aF V1 V1.heap.size 45 7)) ad L.length gc (L.flatMap grC_) rfl dz.out HC.out dA.out (by unfold maxLen;omega) (by omega) (by simp) ?_;intro v' ac R H _;have aE:=hid R;have af:=hid (Below.grown (ag V1.heap.size V1) H (by simp) (fun b Y=>(i9 (aF V1 V1.heap.size 45 7) b Y).1));clear R H)
     obtain⟨A',c',rfl⟩:=bZ aE.out
     rw[bN] at aE
     go_meet
     exact⟨A',c',by rw[bN],aE,af⟩
   case rest=>
    obtain⟨A',c',rfl,aE,af⟩:=hcut
    generalize wc=ac at *
    clear x2
    have ea:=af.out.size
    have bT:=hid ((N.out.block _ ds).trans aR.out)
    have bU:=hid ((af.out.block _ (lt_of_block bT.out)).trans bT.out)
    have eb:A.heap.size<ac.heap.size:=lt_of_block bU.out
    obtain⟨V2,dB⟩:∃X,X=ac.alloc (.cells #[.int .i64 (F+1),.int .i64 ((i:Int)+1),.int .i64 (G+1),.slice t v.length d,.int .i64 u.t,.int .i64 u.r,.slice oA M.length oc] 45):=⟨_,rfl⟩
    have ak:Below ac.heap.size ac (ac.alloc (.cells #[.int .i64 (F+1),.int .i64 ((i:Int)+1),.int .i64 (G+1),.slice t v.length d,.int .i64 u.t,.int .i64 u.r,.slice oA M.length oc] 45)):=(ag _ _).alloc (aa _) _
    have a5:=hid (aE.out.kept (dg (r:=none) ak) (cw _))
    have bW:=hid (af.out.trans (ak.mono af.out.size))
    clear dB ak
    go_upto_region 26 with(first
     |(refine cu rfl _ _ rfl A.heap.size _ _ _ rfl bU.out aH rfl ?_ ?_;kernel_rfl)
     |(at_builtin;refine bX _ rfl _ _ 25 rfl V1.heap.size 45 iG (.agg #[.int .i64 0,.int .i64 0,.int .i64 0,.slice none 0 0,.int .i64 0,.int .i64 0,.slice none 0 0]) 7 88 bV hG b3 b4 b5 rfl (by decide) (.slice A' L.length c') L.length _ rfl (by exact a5.out) ⟨ac.heap.size,0,none⟩ 1 1 [.int .i64 (F+1),.int .i64 ((i:Int)+1),.int .i64 (G+1),.slice t v.length d,.int .i64 u.t,.int .i64 u.r,.slice oA M.length oc] rfl rfl (fun j9 y9 I=>dH ac [.int .i64 (F+1),.int .i64 ((i:Int)+1),.int .i64 (G+1),.slice t v.length d,.int .i64 u.t,.int .i64 u.r,.slice oA M.length oc] 45 j9 y9 I) (fw (c:=#[.int .i64 (F+1),.int .i64 ((i:Int)+1),.int .i64 (G+1),.slice t v.length d,.int .i64 u.t,.int .i64 u.r,.slice oA M.length oc]) rfl) (by decide) (by unfold maxLen;omega) (by omega) (by exact bW.out.size) (ac.heap.size+1) (by simp) ?_;intro gq aG bk R H dC cR;have bb:=hid R;have y:=hid (bW.out.grown H bW.out.size (fun b Y=>(a5.out.lt b Y).1));clear R H dC cR))
    have dQ:=y.out.size
    have bl:=hid (aV.out.trans (y.out.mono aV.out.size))
    have bY:=hid ((N.out.block _ (by omega)).trans a4.out)
    have b0:=hid ((y.out.block _ (lt_of_block bY.out)).trans bY.out)
    obtain⟨W,hW⟩:∃X,X=bk.setRow (w00.heap.size+1+1) #[.slice (some ⟨gq,0,none⟩) (L.length+1) aG,.slice (some ⟨g9,0,none⟩) 3 c9]:=⟨_,rfl⟩
    have dD:=hid hW
    have bm:bk.grownBy W (some (w00.heap.size+1+1)):=by rw[hW];exact dR _ _ _
    have dE:=hid (show W.heap[(w00.heap.size+1+1)]? =some (.cells #[.slice (some ⟨gq,0,none⟩) (L.length+1) aG,.slice (some ⟨g9,0,none⟩) 3 c9] 83 (0,0)) by rw[hW];exact aM _ b0.out)
    have cJ:=hid (bl.out.grown bm bl.out.size (fun b e=>by cases e;omega))
    have aB:=hid (show(#[.slice (some ⟨gq,0,none⟩) (L.length+1) aG,.slice (some ⟨g9,0,none⟩) 3 c9]:Array Value).toList.all (·.oneCell')=true by rfl)
    clear hW
    go_wp2_with (refine da rfl _ _ _ rfl (w00.heap.size+1+1) 83 #[.slice none 0 0,.slice none 0 0] #[.slice (some ⟨gq,0,none⟩) (L.length+1) aG,.slice (some ⟨g9,0,none⟩) 3 c9] rfl rfl b0.out (by kernel_rfl) rfl aB.out ?_;rw[←dD.out])
    try simp only[Exit.inBlock,Exit.then]
    refine bB (co rfl _ _ (w00.heap.size+1+1) _ _ (0,0) _ rfl dE.out jo rfl (by kernel_rfl)) rfl ?_
    have bo:=z.out.ok.next hn al a0.out.1 a0.out.2 (u:=u) (ops:=M) (by rw[←bz.out];unfold gB;rw[←ch.out];exact dp.out) ⟨t,d,oA,oc⟩
    rw[←bz.out,←c1.out,←dr.out] at bo
    unfold gB at bo
    rw[←ch.out] at bo
    have bc:∀(S:Nat→Prop),(∀b,S b→b≠w00.heap.size+1+1)→Agr S bk W:=fun S hS=>Agr.grown bm fun g e1 e2=>by cases e1;exact hS _ e2 rfl
    have b1:Below w8.heap.size w8 bk:=(a.out.trans ((N.out.trans (y.out.mono N.out.size)).mono a.out.size))
    have cK:=(z.out.below cJ.out)
    have dF:(K.set i ⟨uA,uc,U⟩).map (·.v)=(K.map (·.v)).set i U:=by rw[List.map_set]
    have b2:(L++[((⟨⟨F+1,(i:Int)+1⟩,G+1,v,u,M⟩:Grp),(⟨t,d,oA,oc⟩:GrX))]).length=L.length+1:=by simp
    refine⟨L++[((⟨⟨F+1,(i:Int)+1⟩,G+1,v,u,M⟩:Grp),(⟨t,d,oA,oc⟩:GrX))],K.set i ⟨uA,uc,U⟩,_,some ⟨gq,0,none⟩,aG,some ⟨g9,0,none⟩,c9,by rw[b2],⟨by rw[dF];exact bo,?_,(fun g e=>by have e:some gq=some g:=e;injection e with e;have I:=(bb.out.lt gq rfl).1;exact hS g (by omega)),?_,?_,(fun g e=>by have e:some g9=some g:=e;injection e with e;exact hS g (by omega)),?_⟩,cJ.out⟩
    ·rw[b2,aI]
     exact iC ((bb.out.kept bm (.inr (fun e=>by have:=(bb.out.lt _ e).1;omega)))) (aq _)
    ·intro p J
     rcases au.1 J with J|J
     ·exact cK.gd p J
     ·rw[aO] at J
      subst J
      refine⟨RowG.sub (RowG.agr (RowG.agr cB.out (Agr.below b1)) (bc _ fun b Y=>Y.1)) (fun _ _ Y=>Y.2),(a8.out.1.agr (Agr.below b1)).agr (bc _ fun b Y=>by omega) |>.sub (fun b _ Y=>hS b (by omega)),bF.out.2.1,a8.out.2.1,bF.out.2.2,a8.out.2.2,?_,fun x hx=> ?_⟩
      ·show i63 (G+1)
       unfold i63;omega
      ·show i63 x
       obtain⟨q,hq,rfl⟩:=dj.1 hx
       have I:=a0.out.1.le ((q:Int)+1)
       have h8:=z.out.ok.vn ((q:Int)+1)
       rw[atV_getD,ae,an hq] at I
       have I:0≤v[q]∧v[q]≤atV V ((q:Int)+1):=I
       exact⟨Int.le_trans (by decide) I.1,Int.lt_of_le_of_lt (Int.le_trans I.2 h8) (by omega)⟩
    ·exact iC ((cO.out.kept (dg (r:=none) y.out) (cw _)).kept bm (.inr (fun e=>by have e:some g9=some (w00.heap.size+1+1):=e;injection e with e;omega))) (aq _)
    ·intro p J
     rcases List.mem_or_eq_of_mem_set J with J|rfl
     ·exact cK.kd p J
     ·exact⟨RowG.sub (RowG.agr (RowG.agr bO.out.1 (Agr.below (N.out.trans (y.out.mono N.out.size)))) (bc _ fun b (Y:w8.heap.size≤b)=>by omega)) (fun b _ (Y:w8.heap.size≤b)=>hS b (by omega)),bO.out.2.1,bO.out.2.2⟩
structure Doo where
 q0:Nat
 q1:Nat
 q2:Nat
 q3:Nat
 q4:Nat
 see:Bool
def do0:Doo:=⟨0,0,0,0,0,false⟩
def doC (x:Doo):List Value:=[.int .u8 (x.q0:Int),.int .u8 (x.q1:Int),.int .u8 (x.q2:Int),.int .u8 (x.q3:Int),.int .u8 (x.q4:Int),.bool x.see]
def doOk (x:Doo):Prop:=x.q0<=255∧x.q1<=255∧x.q2<=255∧x.q3<=255∧x.q4<=255
def HisQ (w00:World) (e:Ending) (w':World):Prop:=∃(L:List (Grp×GrX)) (kn:List (List Int)) (V:List Int) (gA:Option Addr) (gc:Nat),e= .returned (.slice gA L.length gc)∧HOk 16 L kn V∧w'.ownsRow 0 45 7 (.slice gA L.length gc) L.length (L.flatMap grC_)∧(∀p∈L,GrG w' (λ_=>True) p)∧Below w00.heap.size w00 w'
theorem HOk.up {gs:List (Grp×GrX)} {kn:List (List Int)} {V:List Int}:∀{n m:Nat},n<=m->HOk n gs kn V->HOk m gs kn V
  | n, 0, hm, h => by obtain rfl:n=0:=by omega
                      exact h
  | n,m+1,hm,h=>by
    by_cases e:n=m+1
    · subst e;exact h
    · exact(HOk.up (m:=m) (by omega) h).mono
theorem WIn.put {b n:Nat} {L:List (Grp×GrX)} {K:List KnX} {V:List Int} {gA kA:Option Addr} {gc kc:Nat} {w w':World} (h:WIn (λk=>k≠b) n L K V gA gc kA kc w) (hg:w.grownBy w' (some b)):WIn (λk=>k≠b) n L K V gA gc kA kc w':=by
 have c:Agr (λk=>k≠b) w w':=Agr.grown hg λg f i=>by cases f;exact i rfl
 have d:∀{v:Value},(∀g,v.ownBlock=some g->g≠b)->v.ownBlock=none∨v.ownBlock≠some b:=λj=> .inr λe=>j _ e rfl;exact⟨h.ok,h.gr.kept hg (d h.gs),h.gs,λp a=>(h.gd p a).agr c,h.kr.kept hg (d h.ks),h.ks,λp a=>⟨RowG.agr (h.kd p a).1 c,(h.kd p a).2⟩⟩
theorem history_any (D:List Doo) (dA:Option Addr) (dc:Nat) (S0:Nat->Prop) (w00:World) (hD:∀x∈D,doOk x) (hl:D.length<=9223372036854775807) (hR:RowF w00 S0 dA 6 doC do0 D):
  Calls Tryz.prog 17 #[.slice dA D.length dc] w00 λe w'=>HisQ w00 e w':=by
 have HR:=hid hR;have HD:=hid hD;clear hR hD;go_enter Tryz.func17,Tryz.ntmps17;go_upto_region 2 with fail;have P:=λ(W:World) (o:Obj)=>show(W.alloc o).heap.size=W.heap.size+1 by simp
 have a:Below w00.heap.size w00 ((w00.alloc (.cells #[.slice none 0 0,.slice none 0 0,.slice none 0 0] 27)).alloc (.cells #[.slice none 0 0,.slice (some ⟨w00.heap.size,0,none⟩) 3 3] 83)):=((ag _ _).alloc (aa _) _).alloc (by rw[P];omega) _;have R:=hid (show((w00.alloc (.cells #[.slice none 0 0,.slice none 0 0,.slice none 0 0] 27)).alloc (.cells #[.slice none 0 0,.slice (some ⟨w00.heap.size,0,none⟩) 3 3] 83)).heap[w00.heap.size]? =some (.cells #[.slice none 0 0,.slice none 0 0,.slice none 0 0] 27 (0,0)) from(ax _ _ _ (by rw[P];omega)).trans (am _ _));have ac:=hid (show((w00.alloc (.cells #[.slice none 0 0,.slice none 0 0,.slice none 0 0] 27)).alloc (.cells #[.slice none 0 0,.slice (some ⟨w00.heap.size,0,none⟩) 3 3] 83)).heap[(w00.heap.size+1)]? =some (.cells #[.slice none 0 0,.slice (some ⟨w00.heap.size,0,none⟩) 3 3] 83 (0,0)) from bn _ _ (by rw[P]));have af:=hid a;generalize hw:((w00.alloc (.cells #[.slice none 0 0,.slice none 0 0,.slice none 0 0] 27)).alloc (.cells #[.slice none 0 0,.slice (some ⟨w00.heap.size,0,none⟩) 3 3] 83))=w at *;clear hw a P
 have ah:=hid (show WIn (λb=>b≠w00.heap.size+1) 0 [] [kn0,kn0,kn0] [] none 0 (some ⟨w00.heap.size,0,none⟩) 3 w from by
  refine⟨HOk.new,aF _ _ _ _,(λg e=>by cases e),(λp u=>by cases u),⟨rfl,.inr ⟨w00.heap.size,3,#[.slice none 0 0,.slice none 0 0,.slice none 0 0],rfl,aq _,R.out,aa _,by decide,rfl,rfl⟩⟩,(λg e=>by have e:some w00.heap.size=some g:=e;injection e with e;omega),λp u=> ?_⟩;have e:p=kn0:=by simpa using u
  subst e
  exact⟨RowG.zero,aa _,aq _⟩)
 have c:=hid (λW (hB:Below w00.heap.size w00 W)=>HR.out.below hB);clear R;go_upto_region 3 with fail;go_loopg [4] 16 (λg0 ix wr=>∃(k:Nat) (L:List (Grp×GrX)) (KL:List KnX) (V:List Int) (i:Option Addr) (j:Nat) (v:Option Addr) (y:Nat),k+g0=16∧k<=D.length∧ix= .int .i64 k∧Hid (wr.heap[(w00.heap.size+1)]? =some (.cells #[.slice i L.length j,.slice v 3 y] 83 (0,0)))∧Hid (WIn (λb=>b≠w00.heap.size+1) k L KL V i j v y wr)∧Hid (Below w00.heap.size w00 wr))
 case atStart=>exact⟨0,[],[kn0,kn0,kn0],[],none,0,some ⟨w00.heap.size,0,none⟩,3,rfl,aq _,rfl,ac,ah,af⟩
 case round=>
  obtain⟨k,L,KL,V,i,j,v,y,hk,ao,rfl,f,d,m⟩:=hrel;have ap:=lt_of_block f.out;by_cases T:k<D.length
  ·have i1:(0:Int)<=(k:Int):=by omega
   have i2:(k:Int)<(D.length:Int):=by omega
   by_cases ad:k<16
   ·have i3:(k:Int)<16:=by omega
    obtain⟨H,I,e9,-,U,Y⟩:=HR.out.range (λ_=>rfl) T;have z:=HD.out _ (bL T do0);generalize D.getD k do0=x at *;obtain⟨A,B,C,E,F,h⟩:=x;have z:A<=255∧B<=255∧C<=255∧E<=255∧F<=255:=z;cases e9;have c:=hid (λW (hB:Below w00.heap.size w00 W)=>show W.rangeAt H (I+k*6) [.int .u8 (A:Int),.int .u8 (B:Int),.int .u8 (C:Int),.int .u8 (E:Int),.int .u8 (F:Int),.bool h] from cd Y U hB);clear Y U;go_upto_region 5 with fail;refine aR (S:=λW'=>W'.rangeAt H (I+k*6) [.int .u8 (A:Int),.int .u8 (B:Int),.int .u8 (C:Int),.int .u8 (E:Int),.int .u8 (F:Int),.bool h]) (by kernel_rfl) ?_
    try(change wpAnyH _ _ _ _ _ _ _ _ (World.drew _))
    refine tk 1 (.slice (some ⟨H,I,none⟩) D.length dc) ((show wr.drew.rangeAt _ _ _ from c.out wr m.out)) ?_;go_simp;refine tk 2 (.int .i64 (k:Int)) ((show wr.drew.rangeAt _ _ _ from c.out wr m.out)) ?_;go_simp;refine tk 3 (.pointer (some ⟨H,I+k*6,none⟩)) ((show wr.drew.rangeAt _ _ _ from c.out wr m.out)) ?_;go_simp;refine tk2 4 (.agg #[.int .u8 (A:Int),.int .u8 (B:Int),.int .u8 (C:Int),.int .u8 (E:Int),.int .u8 (F:Int),h]) rfl (aT (by rfl) _ _ rfl H (I+k*6) rfl [.int .u8 (A:Int),.int .u8 (B:Int),.int .u8 (C:Int),.int .u8 (E:Int),.int .u8 (F:Int),.bool h] _ (λW' ai=>bv (pre:=[]) (mid:=[.int .u8 (A:Int),.int .u8 (B:Int),.int .u8 (C:Int),.int .u8 (E:Int),.int .u8 (F:Int),.bool h]) (post:=[]) (ai)) Tryz.underlying86 rfl (by kernel_rfl)) ((show wr.drew.rangeAt _ _ _ from c.out wr m.out)) ?_;go_simp;refine rd1 0 λK n=> ?_;refine bA rfl _ _ rfl (w00.heap.size+1) 0 rfl [.slice i L.length j,.slice v 3 y] _ (show wr.drew.rangeAt _ _ _ from bf (l:=[.slice i L.length j,.slice v 3 y]) f.out) jo rfl (by kernel_rfl) ?_;refine n.out _ _ ((show wr.drew.rangeAt _ _ _ from c.out wr m.out)) (λ_=> ?_);clear n K;refine rd1 5 λK n=> ?_;go_simp;go_at_call 47
    refine(done_any k L KL V i j v y A B C E F h (λb=>b≠w00.heap.size+1) wr.drew (λb (hb:wr.heap.size<=b)=>by have:=lt_of_block f.out;omega) ad z.1 z.2.1 z.2.2.1 z.2.2.2.1 z.2.2.2.2 (d.out.below ((ag _ _).drew))).mono ?_;rintro e Q ⟨J,K2,V2,q,r,s,t,rfl,Z,a⟩;have a:=show Below wr.heap.size wr Q from((ag wr.heap.size wr).drew).trans a;have aj:=hid Z;have M:=bT m a;have N:=bK a f;clear Z a;refine n.out _ _ (c.out Q M.out) (λ_=> ?_);clear n K;obtain⟨X9,G⟩:∃X,X=Q.setRow (w00.heap.size+1) #[.slice q J.length r,.slice s 3 t]:=⟨_,rfl⟩;have ak:=hid G;have O:Q.grownBy X9 (some (w00.heap.size+1)):=by rw[G];exact dR _ _ _
    have ae:=hid (show X9.heap[(w00.heap.size+1)]? =some (.cells #[.slice q J.length r,.slice s 3 t] 83 (0,0)) by rw[G];exact aM _ N.out);have ab:=hid (M.out.grown O M.out.size (λb e=>by cases e;omega));have al:=hid (aj.out.put O);have an:=hid (show(#[.slice q J.length r,.slice s 3 t]:Array Value).toList.all (·.oneCell')=true by rfl);clear G O;refine rd1 6 λK n=> ?_;refine dB rfl _ _ _ rfl (w00.heap.size+1) 83 #[.slice i L.length j,.slice v 3 y] #[.slice q J.length r,.slice s 3 t] rfl rfl N.out (by kernel_rfl) rfl an.out ?_;rw[<-ak.out];refine n.out _ _ (c.out X9 ab.out) (λ_=> ?_);clear n K;refine be (by kernel_rfl) ?_ _;go_simp;go_wp2;go_roundg (16-(k+1))
    case measure=>omega
    case rel=>exact⟨k+1,J,K2,V2,q,r,s,t,by omega,by omega,by go_num,ae,al,ab⟩
   ·have i3:¬(k:Int)<16:=by omega
    have z1:=cw0 f.out;go_wp2;go_ret;exact⟨L,_,V,i,j,rfl,d.out.ok.up (by omega),d.out.gr,λp u=>(d.out.gd p u).sub (λ_ _ _=>trivial),m.out⟩
  ·have i2:¬(k:Int)<(D.length:Int):=by omega
   have z1:=cw0 f.out;go_wp2;go_ret;exact⟨L,_,V,i,j,rfl,d.out.ok.up (by omega),d.out.gr,λp u=>(d.out.gd p u).sub (λ_ _ _=>trivial),m.out⟩
end
end Go.Proofs.YtkhmicndehlneaaGreatDoor
