/- Part 28 of the walks and plain laws that this claim uses, joined. Conditions: as each theorem states. -/
import Derived.Test.YtkhmicndehlneaaGreatDoorYrA
namespace Go.Proofs.YtkhmicndehlneaaGreatDoor
set_option maxRecDepth 100000
set_option maxHeartbeats 16000000
set_option linter.unusedVariables false
section
open Go.RowKit Go.Lib Go.Sort
structure Vok (V v:List Int):Prop where
 pl:ck v=v
 len:v.length<=3
 le:∀r,0<=atV v r∧atV v r<=atV V r
structure HOk (n:Nat) (gs:List (Grp×GrX)) (kn:List (List Int)) (V:List Int):Prop where
 chk:∀p∈gs,chkB p.1=true
 nd:(gs.map (·.1.s)).Nodup
 ah:eu [] (gs.map Prod.fst)=some V
 len:gs.length<=n
 one:∀p∈gs,p.1.ops.length<=1
 sml:∀p∈gs,∀o∈p.1.ops,o.dots.length<=16∧o.elems.length<=3∧o.text.size<=2∧o.name.size<=1
 r3:∀p∈gs,p.1.s.r<=3∧p.1.deps.length<=3∧p.1.s.t<=n∧p.1.n<=n
 vn:∀r,atV V r<=n
 kl:kn.length=3
 kv:∀i,i<3->Vok V (kn.getD i [])
 ko:∀i:Nat,i<3->atV (kn.getD i []) ((i:Int)+1)=atV V ((i:Int)+1)
theorem atV_getD {v:List Int} {k:Nat}:atV v ((k:Int)+1)=v.getD k 0:=by rw[atV_nat (by omega)];congr 1;omega
theorem HOk.new:HOk 0 [] [[],[],[]] []:=by
 refine⟨λp h=>(by cases h),List.nodup_nil,rfl,aa _,λp h=>(by cases h),λp h=>(by cases h),λp h=>(by cases h),λr=>by rw[atV_nil];exact iC _,rfl,λi a=> ?_,λi a=> ?_⟩
 ·have e:([[],[],[]]:List (List Int)).getD i []=[]:=by rcases(show i=0∨i=1∨i=2 by omega) with rfl|rfl|rfl<;>rfl
  rw[e];exact⟨rfl,aq _,λr=>by rw[atV_nil];exact⟨iC _,iC _⟩⟩
 ·have e:([[],[],[]]:List (List Int)).getD i []=[]:=by rcases(show i=0∨i=1∨i=2 by omega) with rfl|rfl|rfl<;>rfl
  rw[e]
theorem Vok.merge {V v u:List Int} (a:Vok V v) (b:Vok V u):Vok V (iu v u):=by
 refine⟨pv_pv _,by have:=mergeV_len v u;have:=a.len;have:=b.len;omega,λr=> ?_⟩;have e:atV (iu v u) r=max (atV v r) (atV u r):=by
  unfold atV;split
  ·rfl
  ·exact mergeV_getD _ _ _
 have c:=a.le r;have d:=b.le r;rw[e];omega
theorem Vok.merge_at {V v u:List Int} (b:Vok V v) (a:Vok V u) {r:Int} (h:atV v r=atV V r):atV (iu v u) r=atV V r:=by
 have e:atV (iu v u) r=max (atV v r) (atV u r):=by
  unfold atV;split
  ·rfl
  ·exact mergeV_getD _ _ _
 have c:=a.le r;rw[e];omega
theorem latT_ge (L:List (Grp×GrX)):0<=latT L∧∀p∈L,p.1.s.t<=latT L:=by
 have:∀(L:List (Grp×GrX)) (t:Int),t<=L.foldl (λt p=>max t p.1.s.t) t∧∀p∈L,p.1.s.t<=L.foldl (λt p=>max t p.1.s.t) t:=by
  intro L;induction L with
  |nil=>exact λt=>⟨iC _,λp h=>(by cases h)⟩
  |cons q L ih=>
   intro t;obtain⟨c,b⟩:=ih (max t q.1.s.t);rw[ed];refine⟨by omega,λp a=> ?_⟩;rcases dh.1 a with rfl|a
   ·omega
   ·exact b p a
 exact this L 0
theorem latT_le {L:List (Grp×GrX)} {m:Int} (b:0<=m) (h:∀p∈L,p.1.s.t<=m):latT L<=m:=by
 have:∀(L:List (Grp×GrX)) (t:Int),t<=m->(∀p∈L,p.1.s.t<=m)->L.foldl (λt p=>max t p.1.s.t) t<=m:=by
  intro L;induction L with
  |nil=>exact λt a _=>a
  |cons q L ih=>
   intro t a h;rw[ed];exact ih _ (by have:=h q (by simp);omega) λp c=>h p (by simp[c])
 exact this L 0 b h
def gu (L:List (Grp×GrX)) (i:Nat):Gst:=⟨latT L+1,(i:Int)+1⟩
theorem HOk.known {n:Nat} {gs:List (Grp×GrX)} {c:List (List Int)} {V v:List Int} (h:HOk n gs c V) (f:n<16) {i:Nat} (g:i<3):KnG (dR v gs) (gu (dR v gs) i):=by
 have b:∀p∈dR v gs,p∈gs:=λp a=>kM a;obtain⟨j,d⟩:=latT_ge (dR v gs);have k:=latT_le (L:=dR v gs) (m:=(n:Int)) (by omega) λp a=>(h.r3 p (b p a)).2.2.1;refine⟨λp a=>h.chk p (b p a),?_,λp a=> ?_,?_,?_,λp a=>h.one p (b p a),λp a o e=> ?_⟩
 ·exact((List.filter_sublist (l:=gs)).map _).nodup h.nd
 ·have:=d p a;unfold gu Gst.lt;simp only[dk,au];left;omega
 ·unfold gu Gst.right;simp only[ay,au];omega
 ·have:=knownL_len v gs;have:=h.len;omega
 ·have:=h.sml p (b p a) o e;exact⟨this.1,this.2.2.1⟩
structure NextG (L:List (Grp×GrX)) (s:Gst) (u:Gst) (ops:List Gop):Prop where
 how:(u= .zero∧∃o,ops=[o]∧OpOk s o)∨(ops=[]∧∃p∈L,u=p.1.s)
theorem next_chk {n:Nat} {gs:List (Grp×GrX)} {d:List (List Int)} {V v:List Int} (h:HOk n gs d V) (f:n<16) {i:Nat} (g:i<3) (b:Vok V v) {u:Gst} {ops:List Gop} (j:NextG (dR v gs) (gu (dR v gs) i) u ops):
  chkB ⟨gu (dR v gs) i,atV v ((i:Int)+1)+1,v,u,ops⟩=true:=by
 have a:=h.known (v:=v) f g;have m:=b.le ((i:Int)+1);have q:=h.vn ((i:Int)+1);unfold chkB;rw[ay];constructor
 ·unfold fJ vecB;simp only[ay,au,dT];refine⟨⟨⟨⟨a.sr,by omega⟩,by omega⟩,⟨⟨λx l=> ?_,by have:=b.len;omega⟩,by rw[b.pl]⟩⟩,?_⟩
  ·obtain⟨k,a,rfl⟩:=dX.1 l;have:=(b.le ((k:Int)+1)).1;rw[atV_getD,ae,aw a] at this;exact this
  ·show atV v ((i:Int)+1)=_;omega
 ·rcases j.how with⟨rfl,o,rfl,ho⟩|⟨rfl,p,hp,rfl⟩
  ·rw[aN (by rfl)];simp[opsB,ho.ok]
  ·have c:=(fp (a.chk p hp)).1
   rw[aE (by
    intro e;rw[Gst.eqb_iff] at e;have e:p.1.s= .zero:=e;rw[e] at c
    cases c)]
   simp only[ay,au];exact⟨⟨c,a.lt p hp⟩,rfl⟩
theorem HOk.next {n:Nat} {gs:List (Grp×GrX)} {z:List (List Int)} {V v:List Int} (h:HOk n gs z V) (A:n<16) {i:Nat} (B:i<3) (q:Vok V v) (t:atV v ((i:Int)+1)=atV V ((i:Int)+1)) {u:Gst} {ops:List Gop} (y:NextG (dR v gs) (gu (dR v gs) i) u ops) (x:GrX):
  HOk (n+1) (gs++[(⟨gu (dR v gs) i,atV v ((i:Int)+1)+1,v,u,ops⟩,x)]) (z.set i (eS v ((i:Int)+1) (atV v ((i:Int)+1)+1))) (eS V ((i:Int)+1) (atV v ((i:Int)+1)+1)):=by
 have w:=next_chk h A B q y;have K:=h.known (v:=v) A B;obtain⟨M,H⟩:=latT_ge (dR v gs);have N:=latT_le (L:=dR v gs) (m:=(n:Int)) (by omega) λp c=>(h.r3 p (kM c)).2.2.1;have O:=q.le ((i:Int)+1);have Q:=h.vn ((i:Int)+1);have d:(1:Int)<=(i:Int)+1:=by omega
 have g:∀{P:Grp×GrX->Prop},(∀p∈gs,P p)->P (⟨gu (dR v gs) i,atV v ((i:Int)+1)+1,v,u,ops⟩,x)->∀p∈gs++[(⟨gu (dR v gs) i,atV v ((i:Int)+1)+1,v,u,ops⟩,x)],P p:=by
  intro P a b p c;rcases aD.1 c with c|c
  ·exact a p c
  ·rw[ba] at c;subst c;exact b
 refine⟨g h.chk w,?_,?_,by rw[al];have:=h.len;simp;omega,g h.one ?_,g h.sml ?_,g (λp c=> ?_) ?_,λr=> ?_,by rw[dj];exact h.kl,λj s=> ?_,λj s=> ?_⟩
 ·rw[bD,fZ];refine⟨h.nd,by simp,λa I b C e=> ?_⟩;simp only[List.map_cons,List.map_nil,ba] at C;subst C;obtain⟨p,c,rfl⟩:=bN.1 I;have J:=(ahead_in _ h.ah p.1 (bN.2 ⟨p,c,rfl⟩)).2;have D:p.1.s.r=(i:Int)+1:=by have e:p.1.s=gu (dR v gs) i:=e;rw[e];rfl
  have R:p.1.s.t=latT (dR v gs)+1:=by have e:p.1.s=gu (dR v gs) i:=e;rw[e];rfl
  have E:p∈dR v gs:=by
   unfold dR;rw[g7];refine⟨c,?_⟩;unfold oldB;rw[au,D,t,<-D];exact J
  have:=H p E;omega
 ·rw[bD];have:=aheadV_snoc h.ah w (covB_iff.2 λk=>by have:=(q.le ((k:Int)+1)).2;rwa[atV_getD,atV_getD] at this) (by show atV V ((i:Int)+1)=_;rw[<-t];show _=atV v ((i:Int)+1)+1-1;omega);exact this
 ·rcases y.how with⟨rfl,o,rfl,ho⟩|⟨rfl,p,c,rfl⟩
  ·exact aa _
  ·exact aq _
 ·rcases y.how with⟨rfl,o,rfl,ho⟩|⟨rfl,p,c,rfl⟩
  ·intro F f;have f:F∈[o]:=f;rw[ba] at f;subst f;exact⟨ho.dl,ho.el,ho.tl,ho.nl⟩
  ·intro F f;cases f
 ·have:=h.r3 p c;refine⟨this.1,this.2.1,by have:=this.2.2.1;omega,by have:=this.2.2.2;omega⟩
 ·refine⟨?_,q.len,?_,?_⟩
  ·show(i:Int)+1<=3;omega
  ·show latT (dR v gs)+1<=((n+1:Nat):Int);omega
  ·show atV v ((i:Int)+1)+1<=((n+1:Nat):Int);omega
 ·rw[gE _ _ _ _ d];split
  ·omega
  ·have:=h.vn r;omega
 ·have G:∀r,atV V r<=atV (eS V ((i:Int)+1) (atV v ((i:Int)+1)+1)) r:=λr=>by
   rw[gE _ _ _ _ d];split
   ·rename_i e;subst e;omega
   ·exact iC _
  by_cases l:j=i
  ·subst l;rw[ae,gP (by rw[h.kl];exact s)];refine⟨withV_plain _ _ _,?_,λr=> ?_⟩
   ·show(eS v _ _).length<=3;have S:=pv_len (setV v ((j:Int)+1) (atV v ((j:Int)+1)+1));have T:(setV v ((j:Int)+1) (atV v ((j:Int)+1)+1)).length=max v.length ((j:Int)+1).toNat:=by unfold setV;simp
    have U:=q.len;unfold eS;omega
   ·show 0<=atV (eS v _ _) r∧atV (eS v _ _) r<=_;rw[gE _ _ _ _ d,gE _ _ _ _ d];have:=q.le r;split<;>omega
  ·rw[ae,iB (λe=>l e.symm),<-ae];have:=h.kv j s;exact⟨this.pl,this.len,λr=>⟨(this.le r).1,Int.le_trans (this.le r).2 (G r)⟩⟩
 ·by_cases l:j=i
  ·subst l;rw[ae,gP (by rw[h.kl];exact s)];show atV (eS v _ _) _=_;rw[gE _ _ _ _ d,gE _ _ _ _ d,aN rfl,aN rfl]
  ·rw[ae,iB (λe=>l e.symm),<-ae,gE _ _ _ _ d,aE (by omega)];exact h.ko j s
theorem HOk.his {n:Nat} {gs:List (Grp×GrX)} {a:List (List Int)} {V:List Int} (h:HOk n gs a V):HisG (gs.map Prod.fst):=by
 refine⟨λg b=> ?_,?_,V,h.ah⟩
 ·obtain⟨p,c,rfl⟩:=bN.1 b;exact h.chk p c
 ·rw[List.map_map];exact h.nd
end
section
open Go.RowKit Go.Lib Go.Sort
attribute [local go_sem ↓] Go.wp_at_zero Go.wp_at_succ
structure KnX where
 A:Option Addr
 c:Nat
 v:List Int
def kn0:KnX:=⟨none,0,[]⟩
def knC (p:KnX):List Value:=[.slice p.A p.v.length p.c]
theorem info_vec:(Tryz.prog.info? 27).map (λi=>(i.zero,i.size,i.bytes))=some (some (.slice none 0 0),1,24):=by kernel_rfl
structure WIn (S:Nat->Prop) (n:Nat) (L:List (Grp×GrX)) (K:List KnX) (V:List Int) (gA:Option Addr) (gc:Nat) (kA:Option Addr) (kc:Nat) (w:World):Prop where
 ok:HOk n L (K.map (·.v)) V
 gr:w.ownsRow 0 45 7 (.slice gA L.length gc) L.length (L.flatMap grC_)
 gs:∀g,(Value.slice gA L.length gc).ownBlock=some g->S g
 gd:∀p∈L,GrG w S p
 kr:w.ownsRow 0 27 1 (.slice kA 3 kc) 3 (K.flatMap knC)
 ks:∀g,(Value.slice kA 3 kc).ownBlock=some g->S g
 kd:∀p∈K,VecS w S p.A p.v∧p.v.length<=p.c∧p.c<=maxLen
def DoneQ (S:Nat->Prop) (n:Nat) (w00:World) (e:Ending) (w':World):Prop:=∃L K V gA gc kA kc,e= .returned (.agg #[.slice gA (List.length L) gc,.slice kA 3 kc])∧WIn S n L K V gA gc kA kc w'∧Below w00.heap.size w00 w'
theorem WIn.below {S:Nat->Prop} {n:Nat} {L:List (Grp×GrX)} {K:List KnX} {V:List Int} {gA kA:Option Addr} {gc kc:Nat} {w w':World} (h:WIn S n L K V gA gc kA kc w) (hB:Below w.heap.size w w'):WIn S n L K V gA gc kA kc w':=
 ⟨h.ok,h.gr.kept (dB (r:=none) hB) (cX _),h.gs,λp hp=>(h.gd p hp).agr (Agr.below hB),h.kr.kept (dB (r:=none) hB) (cX _),h.ks,λp hp=>⟨RowG.agr (h.kd p hp).1 (Agr.below hB),(h.kd p hp).2⟩⟩
theorem HOk.mono {n:Nat} {gs:List (Grp×GrX)} {kn:List (List Int)} {V:List Int} (h:HOk n gs kn V):HOk (n+1) gs kn V:=
 ⟨h.chk,h.nd,h.ah,by have:=h.len;omega,h.one,h.sml,λp hp=>by have:=h.r3 p hp;exact⟨this.1,this.2.1,by have:=this.2.2.1;omega,by have:=this.2.2.2;omega⟩,λr=>by have:=h.vn r;omega,h.kl,h.kv,h.ko⟩
theorem gby_none {w w':World} (h:Below w.heap.size w w'):w.grownBy w' none:=dB h
theorem there_sub {w:World} {g off n:Nat} {T:TypeId} {c:Array Value} (h:w.heap[g]? =some (.cells c T (0,0))) (hs:off+n<=c.size):w.there g off n:=λj hj=>by
 rw[crw h]
 exact⟨by rw[dG (by omega)];rfl,aS _ _ _ _ _ h⟩
theorem ops_one {w:World} {S:Nat->Prop} {b:Nat} {o:Gop} {x:OpX} {T:TypeId} (h:w.heap[b]? =some (.cells (opA o x) T (0,0))) (c:OpIn w S o x) (d:S b):OpsS w S (some ⟨b,0,none⟩) [o]:=by
 refine⟨λ_=>x,λk a=> ?_,λk a=> ?_⟩
 ·have a:k<1:=a;obtain rfl:k=0:=by omega
  refine⟨b,0,rfl,d,lt_of_block h,λj e=> ?_⟩;rw[Nat.zero_mul,Nat.add_zero,cj,aG _ _ _ _ _ _ h];show(opA o x)[j]? =some ((opA o x).getD j undef);have f:(opA o x).size=18:=rfl;rw[dG (by omega)];simp[Array.getD,f,e]
 ·have a:k<1:=a;obtain rfl:k=0:=by omega
  exact c
theorem knlen {n:Nat} {L:List (Grp×GrX)} {K:List KnX} {V:List Int} (h:HOk n L (K.map (·.v)) V):K.length=3:=by have:=h.kl;simpa using this
theorem kngetD (K:List KnX) (i:Nat):(K.map (·.v)).getD i []=(K.getD i kn0).v:=by
 rw[ae,dW,ae];cases K[i]? <;>rfl
theorem done_any (n:Nat) (L:List (Grp×GrX)) (K:List KnX) (V:List Int) (gA:Option Addr) (gc:Nat) (kA:Option Addr) (kc:Nat) (q0 q1 q2 q3 q4:Nat) (see:Bool) (S:Nat->Prop) (w00:World) (hS:∀b,w00.heap.size<=b->S b) (hn:n<16) (h0:q0<=255) (h1:q1<=255) (h2:q2<=255) (h3:q3<=255) (h4:q4<=255) (hW:WIn S n L K V gA gc kA kc w00):
  Calls Tryz.prog 47 #[.agg #[.slice gA L.length gc,.slice kA 3 kc],.agg #[.int .u8 (q0:Int),.int .u8 (q1:Int),.int .u8 (q2:Int),.int .u8 (q3:Int),.int .u8 (q4:Int),see]] w00 λe w'=>DoneQ S (n+1) w00 e w':=by
 obtain⟨iV,hV,cQ,cR,cS⟩:=bx info_vec;obtain⟨iG,hG,b1,b2,b3⟩:=bx ib;have be:=knlen hW.ok;have dG:=hW.ok.len;have HW:=hid hW;clear hW;go_enter Tryz.func47,Tryz.ntmps47;go_upto_region 1 with fail;have sz:=λ(W:World) (o:Obj)=>show(W.alloc o).heap.size=W.heap.size+1 by simp
 have aI:Below w00.heap.size w00 (((w00.alloc (.cells #[.slice gA L.length gc,.slice kA 3 kc] 83)).alloc (.cells #[.int .u8 (q0:Int),.int .u8 (q1:Int),.int .u8 (q2:Int),.int .u8 (q3:Int),.int .u8 (q4:Int),see] 86)).alloc (.cells #[.slice none 0 0,.slice none 0 0] 83)):=(((ag _ _).alloc (aa _) _).alloc (by rw[sz];omega) _).alloc (by rw[sz,sz];omega) _;have aL:=hid (show(((w00.alloc (.cells #[.slice gA L.length gc,.slice kA 3 kc] 83)).alloc (.cells #[.int .u8 (q0:Int),.int .u8 (q1:Int),.int .u8 (q2:Int),.int .u8 (q3:Int),.int .u8 (q4:Int),see] 86)).alloc (.cells #[.slice none 0 0,.slice none 0 0] 83)).heap[w00.heap.size]? =some (.cells #[.slice gA L.length gc,.slice kA 3 kc] 83 (0,0)) from(ax _ _ _ (by rw[sz,sz];omega)).trans ((ax _ _ _ (by rw[sz];omega)).trans (an _ _)));have aX:=hid (show(((w00.alloc (.cells #[.slice gA L.length gc,.slice kA 3 kc] 83)).alloc (.cells #[.int .u8 (q0:Int),.int .u8 (q1:Int),.int .u8 (q2:Int),.int .u8 (q3:Int),.int .u8 (q4:Int),see] 86)).alloc (.cells #[.slice none 0 0,.slice none 0 0] 83)).heap[(w00.heap.size+1)]? =some (.cells #[.int .u8 (q0:Int),.int .u8 (q1:Int),.int .u8 (q2:Int),.int .u8 (q3:Int),.int .u8 (q4:Int),see] 86 (0,0)) from(ax _ _ _ (by rw[sz,sz];omega)).trans (bu _ _ (by rw[sz])))
 have bf:=hid (show(((w00.alloc (.cells #[.slice gA L.length gc,.slice kA 3 kc] 83)).alloc (.cells #[.int .u8 (q0:Int),.int .u8 (q1:Int),.int .u8 (q2:Int),.int .u8 (q3:Int),.int .u8 (q4:Int),see] 86)).alloc (.cells #[.slice none 0 0,.slice none 0 0] 83)).heap[(w00.heap.size+1+1)]? =some (.cells #[.slice none 0 0,.slice none 0 0] 83 (0,0)) from bu _ _ (by rw[sz,sz]));have HB:=hid aI;have ah:=hid (HW.o.below aI);generalize hw:(((w00.alloc (.cells #[.slice gA L.length gc,.slice kA 3 kc] 83)).alloc (.cells #[.int .u8 (q0:Int),.int .u8 (q1:Int),.int .u8 (q2:Int),.int .u8 (q3:Int),.int .u8 (q4:Int),see] 86)).alloc (.cells #[.slice none 0 0,.slice none 0 0] 83))=w at *;have z:=hid HW.o;clear hw aI HW sz;have d1:w.cell? ⟨w00.heap.size+1,1,none⟩=some (.int .u8 (q1:Int)):=aG _ _ _ _ _ _ aX.o;obtain⟨i,hi⟩:∃i,i=q1 % 3:=⟨_,rfl⟩;have al:i<3:=by omega
 have dP:(q1:Int).tmod 3=(i:Int):=by rw[ex (by omega),hi];rfl
 clear hi;go_upto_region 2 with fail;clear d1;rw[show(1+(i:Int))=(i:Int)+1 by omega];obtain⟨Q,cT,-,bo,b4⟩:=cZ (f:=knC) (λ_=>rfl) be.symm ah.o.kr al kn0;cases cT
 have bp:=hid (show VecS w (λb=>b≠w00.heap.size+1+1∧S b) (K.getD i kn0).A (K.getD i kn0).v∧(K.getD i kn0).v.length<=(K.getD i kn0).c∧(K.getD i kn0).c<=maxLen from by
  have I:=z.o.kd _ (cg (show i<K.length by omega) kn0)
  exact⟨RowG.agr (RowG.sub (T:=λb=>b≠w00.heap.size+1+1∧S b) I.1 (λb Y hs=>⟨by omega,hs⟩)) (Agr.grown (row:=none) (gby_none HB.o) (λg e=>by cases e)),I.2⟩)
 have br:=hid (show Vok V (K.getD i kn0).v∧atV (K.getD i kn0).v ((i:Int)+1)=atV V ((i:Int)+1) by rw[<-kngetD];exact⟨ah.o.ok.kv i al,ah.o.ok.ko i al⟩);generalize K.getD i kn0=p0 at *;obtain⟨bs,bt,v0⟩:=p0;have x1:w.cell? ⟨w00.heap.size,1,none⟩=some (.slice (some ⟨Q,0,none⟩) 3 kc):=aG _ _ _ _ _ _ aL.o;have x2:w.cell? ⟨Q,i,none⟩=some (.slice bs v0.length bt):=by have I:=b4 0 _ rfl;rwa[jJ,Nat.add_zero] at I
 have x3:(0:Int)<=(i:Int):=by omega
 have x4:(i:Int)<3:=by omega
 have d5:w.cell? ⟨w00.heap.size+1,5,none⟩=some (.bool see):=aG _ _ _ _ _ _ aX.o;clear b4;go_upto_if 29 with fail;clear x1 x2 d5;go_cut [6] (λs wx=>∃(t:Option Addr) (d:Nat) (v:List Int),s= .slice t v.length d∧Hid (Vok V v∧atV v ((i:Int)+1)=atV V ((i:Int)+1))∧Hid (VecS wx (λb=>b≠w00.heap.size+1+1∧S b) t v∧v.length<=d∧d<=maxLen)∧Hid (Below w.heap.size w wx))
 case first=>
  cases see with
  |false=>
   go_wp2;go_meet;exact⟨bs,bt,v0,rfl,br,bp,hid (ag _ _)⟩
  | true=>
   go_upto_region 5 with fail;go_loopg [6,7] 3 (λg0 s ix wr=>∃(j:Nat) (t:Option Addr) (d:Nat) (v:List Int),j+g0=3∧ix= .int .i64 j∧s= .slice t v.length d∧Hid (Vok V v∧atV v ((i:Int)+1)=atV V ((i:Int)+1))∧Hid (VecS wr (λb=>b≠w00.heap.size+1+1∧S b) t v∧v.length<=d∧d<=maxLen)∧Hid (Below w.heap.size w wr))
   case atStart=>exact⟨0,bs,bt,v0,rfl,rfl,rfl,br,bp,hid (ag _ _)⟩
   case round=>
    obtain⟨j,t,d,v,hj,rfl,rfl,aY,b5,ao⟩:=hrel;have HX:=hid ((ao.o.block _ (lt_of_block aL.o)).trans aL.o);have y1:wr.cell? ⟨w00.heap.size,1,none⟩=some (.slice (some ⟨Q,0,none⟩) 3 kc):=aG _ _ _ _ _ _ HX.o;by_cases b6:j<3
    ·have j1:(0:Int)<=(j:Int):=by omega
     have j2:(j:Int)<3:=by omega
     obtain⟨dQ,e2,-,dI,bw⟩:=cZ (f:=knC) (λ_=>rfl) be.symm (ah.o.below ao.o).kr b6 kn0;cases e2;have cU:=hid ((ah.o.below ao.o).kd _ (cg (show j<K.length by omega) kn0));have bz:=hid (show Vok V (K.getD j kn0).v by rw[<-kngetD];exact ah.o.ok.kv j b6);generalize K.getD j kn0=p9 at *;obtain⟨uA,uc,u⟩:=p9;have y2:wr.cell? ⟨Q,j,none⟩=some (.slice uA u.length uc):=by have I:=bw 0 _ rfl;rwa[jJ,Nat.add_zero] at I
     have cV:=hid (refmerge_any t uA d uc v u wr (by have:=aY.o.1.len;omega) (by have I:Vok V u:=bz.o;have:=I.len;omega) b5.o.1.vec (VecS.vec cU.o.1));clear bw;go_wp2_with (go_at_call 87;refine cV.o.mono ?_;rintro e w2 ⟨mA,mc,rfl,b8,cW,cY,aZ⟩;have c0:=hid b8;have aM:=hid aZ;clear b8 aZ);go_roundg (3-(j+1))
     case measure=>omega
     case rel=>exact⟨j+1,mA,mc,iu v u,by omega,by go_num,rfl,hid ⟨aY.o.1.merge bz.o,aY.o.1.merge_at bz.o aY.o.2⟩,hid ⟨RowG.sub c0.o (λb _ (Y:wr.heap.size<=b)=>by have:=ao.o.size;have:=lt_of_block bf.o;exact⟨by omega,hS b (by omega)⟩),cW,cY⟩,hid (ao.o.trans (aM.o.mono ao.o.size))⟩
    ·have j2:¬(j:Int)<3:=by omega
     go_wp2;go_meet;exact⟨t,d,v,rfl,aY,b5,ao⟩
 case rest=>
  obtain⟨t,d,v,rfl,a0,a1,aN⟩:=hcut;generalize wc=w1 at *;have HX:=hid ((aN.o.block _ (lt_of_block aL.o)).trans aL.o);have HD:=hid ((aN.o.block _ (lt_of_block aX.o)).trans aX.o);have HZ:=hid ((aN.o.block _ (lt_of_block bf.o)).trans bf.o);have a2:=hid (ah.o.below aN.o);have dT:=HB.o.size;have b9:=hid (HB.o.trans (aN.o.mono HB.o.size));clear bp br aL aX bf ah aN HB;have dU:v.length<=3:=a0.o.1.len;obtain⟨E,aO⟩:∃X,X=dR v L:=⟨_,rfl⟩;have dJ:E.length<=L.length:=by rw[aO];exact knownL_len v L
  have ca:=hid (show Calls Tryz.prog 88 #[.slice gA L.length gc,.slice t v.length d] w1 λe w'=>∃A' c',e= .returned (.slice A' E.length c')∧w'.ownsRow w1.heap.size 45 7 (.slice A' E.length c') E.length (E.flatMap grC_)∧Below w1.heap.size w1 w' by rw[aO];exact known_any L gA gc t d v w1 (by omega) (by omega) (RowGr.own a2.o.gr) a1.o.1.vec);have cb:=hid (show ∀p∈E,GrG w1 S p from λp J=>a2.o.gd p (by rw[aO] at J;exact kM J));have cc:=hid (show KnG E ⟨latT E+1,(i:Int)+1⟩ by rw[aO];exact a2.o.ok.known hn al);have bA:=hid aO;clear aO;have z1:w1.cell? ⟨w00.heap.size,0,none⟩=some (.slice gA L.length gc):=aG _ _ _ _ _ _ HX.o;go_upto_region 9 with(go_at_call 88;refine ca.o.mono ?_;rintro e w2 ⟨lA,lc,rfl,bg,aZ⟩;have bB:=hid bg;have aM:=hid aZ;clear bg aZ);clear z1;have bD:=hid (eT t d v ((i:Int)+1) w2 (by omega) (VecS.vec (RowG.agr a1.o.1 (Agr.below aM.o))));obtain⟨G,bh⟩:∃x,x=atV v ((i:Int)+1):=⟨_,rfl⟩;rw[<-bh] at bD;have dK:0<=G∧G<=16:=by have I:=a0.o.1.le ((i:Int)+1);have h8:=a2.o.ok.vn ((i:Int)+1);rw[bh];omega
  have c1:=hid bh;clear bh;have bE:=hid (λW (hB:Below w2.heap.size w2 W)=>latest_any E lA lc W (by omega) ((RowGr.own bB.o).below hB));obtain⟨F,bi⟩:∃x,x=latT E:=⟨_,rfl⟩;rw[<-bi] at bE cc;have dL:0<=F∧F<=16:=by
   have I:=(latT_ge E).1;have h8:=latT_le (L:=E) (m:=(n:Int)) (by omega) λp J=>(a2.o.ok.r3 p (by rw[bA.o] at J;exact kM J)).2.2.1;rw[bi];omega
  have ce:=hid bi;clear bi
  go_upto_region 11 with(first
   |(go_at_call 89;refine(bE.o _ (by first|exact bj.o|exact ag _ _)).mono ?_;rintro e A ⟨rfl,aI⟩;have bj:=hid aI;clear aI)
   |(go_at_call 55;refine bD.o.mono ?_;rintro e A ⟨rfl,rfl⟩))
  obtain⟨w4,a3⟩:∃W,W=A.alloc (.cells #[.int .i64 (F+1),.int .i64 ((i:Int)+1),.int .i64 (G+1),.slice t v.length d,(0:Int),(0:Int),.slice none 0 0] 45):=⟨_,rfl⟩;rw[<-a3];have y:=hid (aM.o.trans (bj.o.mono aM.o.size));have ap:=hid (show w4.heap[A.heap.size]? =some (.cells #[.int .i64 (F+1),.int .i64 ((i:Int)+1),.int .i64 (G+1),.slice t v.length d,(0:Int),(0:Int),.slice none 0 0] 45 (0,0)) by rw[a3];exact an _ _);have cf:Below A.heap.size A w4:=by rw[a3];exact(ag _ _).alloc (aa _) _
  have D:=hid cf;have c2:w4.heap.size=A.heap.size+1:=by rw[a3];simp
  have dV:=y.o.size;have hz:=lt_of_block HZ.o;have au:=hid ((y.o.block _ (lt_of_block HX.o)).trans HX.o);have aP:=hid ((y.o.block _ (lt_of_block HD.o)).trans HD.o);have aj:=hid ((y.o.block _ (lt_of_block HZ.o)).trans HZ.o);have bF:=hid (And.intro (RowG.agr a1.o.1 (Agr.below y.o)) a1.o.2);have ch:=hid (bB.o.kept (dB (r:=none) bj.o) (cX _));have c3:=hid (λp J=>(cb.o p J).agr (Agr.below y.o));have ay:=hid (b9.o.trans (y.o.mono b9.o.size));clear a3 HX HD HZ a1 bB cb y bj aM bE bD ca;have d0:w4.cell? ⟨w00.heap.size+1,0,none⟩=some (.int .u8 (q0:Int)):=aG _ _ _ _ _ _ ((cf.block _ (lt_of_block aP.o)).trans aP.o);obtain⟨b7,ck⟩:∃b,b=((q0:Int) % 8 == 7):=⟨_,rfl⟩;have q7:((q0:Int) % 8 == 7)=b7:=ck.symm;clear ck;go_upto_if 63 with fail;clear d0;go_cut [] (λwx=>∃(u:Gst) (M:List Gop) (oA:Option Addr) (oc:Nat),Hid (wx.heap[A.heap.size]? =some (.cells #[.int .i64 (F+1),.int .i64 ((i:Int)+1),.int .i64 (G+1),.slice t v.length d,.int .i64 u.t,.int .i64 u.r,.slice oA M.length oc] 45 (0,0)))∧Hid (NextG E ⟨F+1,(i:Int)+1⟩ u M)∧Hid (OpsS wx (λb=>A.heap.size<b) oA M∧M.length<=oc∧oc<=maxLen)∧Hid (Below A.heap.size A wx))
  case first=>
   cases b7 with
   | true=>
    by_cases cl:E.length=0
    ·have e0:((E.length:Int) == 0)=true:=by simp[cl]
     have c4:=hid ((D.o.block _ (lt_of_block au.o)).trans au.o);have cn:=hid ((D.o.block _ (lt_of_block aj.o)).trans aj.o);have bH:=hid (ay.o.trans (D.o.mono ay.o.size));go_upto_region 13 with fail;obtain⟨V9,B⟩:∃X,X=w4.setRow (w00.heap.size+1+1) #[.slice gA L.length gc,.slice (some ⟨Q,0,none⟩) 3 kc]:=⟨_,rfl⟩;have az:=hid B;have a4:=hid (show V9.heap[(w00.heap.size+1+1)]? =some (.cells #[.slice gA L.length gc,.slice (some ⟨Q,0,none⟩) 3 kc] 83 (0,0)) by rw[B];exact aF _ cn.o);have Z:w4.grownBy V9 (some (w00.heap.size+1+1)):=by rw[B];exact dY _ _ _
     have a:=hid (bH.o.grown Z bH.o.size (λb e=>by cases e;omega));have aA:=hid (show(#[.slice gA L.length gc,.slice (some ⟨Q,0,none⟩) 3 kc]:Array Value).toList.all (·.oneCell')=true by rfl);clear B Z
     go_wp2_with (first
      |(refine cd rfl _ _ rfl w00.heap.size _ _ _ rfl c4.o jv rfl ?_ ?_;kernel_rfl)
      |(refine bW rfl _ _ _ rfl (w00.heap.size+1+1) 83 #[.slice none 0 0,.slice none 0 0] #[.slice gA L.length gc,.slice (some ⟨Q,0,none⟩) 3 kc] rfl rfl cn.o (by kernel_rfl) rfl aA.o ?_;rw[<-az.o]))
     try simp only[Exit.inBlock,Exit.then]
     refine aU (bG rfl _ _ (w00.heap.size+1+1) _ _ (0,0) _ rfl a4.o jv rfl (by kernel_rfl)) rfl ?_;exact⟨L,K,V,gA,gc,(some ⟨Q,0,none⟩),kc,rfl,⟨(z.o.below a.o).ok.mono,(z.o.below a.o).gr,(z.o.below a.o).gs,(z.o.below a.o).gd,(z.o.below a.o).kr,(z.o.below a.o).ks,(z.o.below a.o).kd⟩,a.o⟩
    ·have e0:((E.length:Int) == 0)=false:=by simp[cl]
     have e1:¬(E.length:Int)=0:=by omega
     obtain⟨k,hk⟩:∃k,k=q2 % E.length:=⟨_,rfl⟩;have bo:k<E.length:=by rw[hk];exact fO _ (by omega)
     have dW:(q2:Int).tmod (E.length:Int)=(k:Int):=by rw[ex (by omega),hk];rfl
     have k1:(0:Int)<=(k:Int):=by omega
     have k2:(k:Int)<(E.length:Int):=by omega
     obtain⟨rb,ro,e9,dZ,co⟩:=(RowGr.own (ch.o.kept (dB (r:=none) D.o) (cX _))).range bo;cases e9;have c5:=hid (cg bo gp0);generalize E.getD k gp0=p at *;obtain⟨⟨⟨ut,ur⟩,un,uv,⟨c6,c7⟩,cJ⟩,⟨c8,db,dc,de⟩⟩:=p;have bI:=hid (show w4.rangeAt rb (ro+k*7) [.int .i64 ut,.int .i64 ur] from bC (pre:=[]) (mid:=[.int .i64 ut,.int .i64 ur]) (post:=[.int .i64 un,.slice c8 uv.length db,.int .i64 c6,.int .i64 c7,.slice dc cJ.length de]) co);have d2:w4.cell? ⟨w00.heap.size+1,2,none⟩=some (.int .u8 (q2:Int)):=aG _ _ _ _ _ _ ((D.o.block _ (lt_of_block aP.o)).trans aP.o);obtain⟨V9,B⟩:∃X,X=w4.setCells A.heap.size 4 [.int .i64 ut,.int .i64 ur]:=⟨_,rfl⟩;have a7:V9=w4.setRow A.heap.size #[.int .i64 (F+1),.int .i64 ((i:Int)+1),.int .i64 (G+1),.slice t v.length d,.int .i64 ut,.int .i64 ur,.slice none 0 0]:=by rw[B,fu _ _ _ _ _ _ ap.o];rfl
     have aQ:=hid (show V9.heap[A.heap.size]? =some (.cells #[.int .i64 (F+1),.int .i64 ((i:Int)+1),.int .i64 (G+1),.slice t v.length d,ut,ur,.slice none 0 0] 45 (0,0)) by rw[a7];exact aF _ ap.o);have a:=hid (show Below A.heap.size A V9 by rw[a7];exact Below.setRow' D.o (aa _) _);have df:=hid (there_sub ap.o (off:=4) (n:=2) (by show 4+2<=7;omega));have az:=hid B;clear hk co B a7
     go_wp2_with (first
      |(refine ik rfl _ _ rfl rb (ro+k*7) rfl [.int .i64 ut,.int .i64 ur] _ bI.o cr rfl (by kernel_rfl) ?_)
      |(refine wpList_store_mid rfl _ _ _ rfl A.heap.size 4 #[.int .i64 ut,.int .i64 ur] rfl rfl df.o (by kernel_rfl) (by rw[<-cv];rfl) ?_;rw[<-az.o]))
     go_meet;exact⟨⟨ut,ur⟩,[],none,0,aQ,hid ⟨.inr ⟨rfl,_,c5.o,rfl⟩⟩,hid ⟨⟨λ_=>⟨none,0,none,0⟩,RowG.zero,λk hk=>absurd hk (da k)⟩,aa _,aq _⟩,a⟩
   | false=>
    have dg:=hid ((D.o.block _ (lt_of_block aP.o)).trans aP.o);have bI:=hid (show w4.rangeAt A.heap.size 0 [.int .i64 (F+1),.int .i64 ((i:Int)+1)] from bC (pre:=[]) (mid:=[.int .i64 (F+1),.int .i64 ((i:Int)+1)]) (post:=[.int .i64 (G+1),.slice t v.length d,.int .i64 0,.int .i64 0,.slice none 0 0]) (bq (l:=[.int .i64 (F+1),.int .i64 ((i:Int)+1),.int .i64 (G+1),.slice t v.length d,.int .i64 0,.int .i64 0,.slice none 0 0]) ap.o));have dh:=hid (opw_any E lA lc (F+1) ((i:Int)+1) q0 q1 q2 q3 q4 see S w4 h0 h2 h3 h4 cc.o ((RowGr.own ch.o).below D.o) (λp J=>(c3.o p J).agr (Agr.below D.o)))
    go_upto_region 16 with(first
     |(refine ik rfl _ _ rfl A.heap.size 0 rfl [.int .i64 (F+1),.int .i64 ((i:Int)+1)] _ bI.o cr rfl (by kernel_rfl) ?_)
     |(refine cd rfl _ _ rfl (w00.heap.size+1) _ _ _ rfl dg.o Tryz.underlying86 rfl ?_ ?_;kernel_rfl)
     |(go_at_call 90;refine dh.o.mono ?_;rintro e w5 ⟨⟨kd,⟨⟨jt,jr⟩,ji⟩,⟨⟨pt,pr⟩,pi⟩,nm,dd,C,⟨⟨O,ar⟩,ai⟩,⟨⟨et,er⟩,ei⟩,tx,h⟩,⟨sA,sc,eA,ec⟩,ok,rfl,cp,cq⟩;have cs:=hid cp;have bJ:=hid cq;clear cp cq;dsimp only[opA])
     |(refine bR rfl _ _ _ rfl _ _ _ _ rfl ?_ rfl ?_ ?_ ?_ ?_;(focus(simp;done));kernel_rfl;rfl;rfl))
    obtain⟨P,aR⟩:∃W,W=w5.alloc (.cells #[kd,jt,jr,ji,pt,pr,pi,nm,dd,.slice sA C.length sc,O,ar,ai,et,er,ei,tx,.slice eA h.length ec] 125):=⟨_,rfl⟩;rw[<-aR];have ct:Below w5.heap.size w5 P:=by rw[aR];exact(ag _ _).alloc (aa _) _
    have dj:=hid (show P.heap[w5.heap.size]? =some (.cells #[kd,jt,jr,ji,pt,pr,pi,nm,dd,.slice sA C.length sc,O,ar,ai,et,er,ei,tx,.slice eA h.length ec] 125 (0,0)) by rw[aR];exact an _ _);have aB:=hid (bJ.o.trans (ct.mono bJ.o.size));have d3:=bJ.o.size;have cu:=hid ((aB.o.block _ (lt_of_block ap.o)).trans ap.o);have d4:w5.heap.size<P.heap.size:=by rw[aR];simp
    cases ok with
    | false=>
     have dk:=hid ((aB.o.block _ (by have:=lt_of_block au.o;omega)).trans ((D.o.block _ (lt_of_block au.o)).trans au.o));have cw:=hid ((aB.o.block _ (by have:=lt_of_block aj.o;omega)).trans ((D.o.block _ (lt_of_block aj.o)).trans aj.o));have cK:=hid (D.o.trans (aB.o.mono D.o.size));have bK:=hid (ay.o.trans (cK.o.mono ay.o.size));clear aR;go_upto_region 17 with fail;obtain⟨V9,B⟩:∃X,X=P.setRow (w00.heap.size+1+1) #[.slice gA L.length gc,.slice (some ⟨Q,0,none⟩) 3 kc]:=⟨_,rfl⟩;have az:=hid B;have a4:=hid (show V9.heap[(w00.heap.size+1+1)]? =some (.cells #[.slice gA L.length gc,.slice (some ⟨Q,0,none⟩) 3 kc] 83 (0,0)) by rw[B];exact aF _ cw.o);have Z:P.grownBy V9 (some (w00.heap.size+1+1)):=by rw[B];exact dY _ _ _
     have a:=hid (bK.o.grown Z bK.o.size (λb e=>by cases e;omega));have aA:=hid (show(#[.slice gA L.length gc,.slice (some ⟨Q,0,none⟩) 3 kc]:Array Value).toList.all (·.oneCell')=true by rfl);clear B Z
     go_wp2_with (first
      |(refine cd rfl _ _ rfl w00.heap.size _ _ _ rfl dk.o jv rfl ?_ ?_;kernel_rfl)
      |(refine bW rfl _ _ _ rfl (w00.heap.size+1+1) 83 #[.slice none 0 0,.slice none 0 0] #[.slice gA L.length gc,.slice (some ⟨Q,0,none⟩) 3 kc] rfl rfl cw.o (by kernel_rfl) rfl aA.o ?_;rw[<-az.o]))
     try simp only[Exit.inBlock,Exit.then]
     refine aU (bG rfl _ _ (w00.heap.size+1+1) _ _ (0,0) _ rfl a4.o jv rfl (by kernel_rfl)) rfl ?_;exact⟨L,K,V,gA,gc,(some ⟨Q,0,none⟩),kc,rfl,⟨(z.o.below a.o).ok.mono,(z.o.below a.o).gr,(z.o.below a.o).gs,(z.o.below a.o).gd,(z.o.below a.o).kr,(z.o.below a.o).ks,(z.o.below a.o).kd⟩,a.o⟩
    |true=>
     have cy:=hid (show OpOk ⟨F+1,(i:Int)+1⟩ ⟨kd,⟨⟨jt,jr⟩,ji⟩,⟨⟨pt,pr⟩,pi⟩,nm,dd,C,⟨⟨O,ar⟩,ai⟩,⟨⟨et,er⟩,ei⟩,tx,h⟩∧OpIn P (λb=>A.heap.size<b) ⟨kd,⟨⟨jt,jr⟩,ji⟩,⟨⟨pt,pr⟩,pi⟩,nm,dd,C,⟨⟨O,ar⟩,ai⟩,⟨⟨et,er⟩,ei⟩,tx,h⟩ ⟨sA,sc,eA,ec⟩ from⟨(cs.o rfl).1,((cs.o rfl).2.agr (Agr.below ct)).sub (λb _ (Y:w4.heap.size<=b)=>by omega)⟩);obtain⟨V9,B⟩:∃X,X=(P.alloc (.cells #[kd,jt,jr,ji,pt,pr,pi,nm,dd,.slice sA C.length sc,O,ar,ai,et,er,ei,tx,.slice eA h.length ec] 125)).setCell ⟨A.heap.size,6,none⟩ (.slice (some ⟨P.heap.size,0,none⟩) 1 1):=⟨_,rfl⟩;have az:=hid B;have ak:Below P.heap.size P (P.alloc (.cells #[kd,jt,jr,ji,pt,pr,pi,nm,dd,.slice sA C.length sc,O,ar,ai,et,er,ei,tx,.slice eA h.length ec] 125)):=(ag _ _).alloc (aa _) _;have bL:=hid ((ak.block _ (lt_of_block cu.o)).trans cu.o);have a5:=hid (show(P.alloc (.cells #[kd,jt,jr,ji,pt,pr,pi,nm,dd,.slice sA C.length sc,O,ar,ai,et,er,ei,tx,.slice eA h.length ec] 125)).heap[P.heap.size]? =some (.cells #[kd,jt,jr,ji,pt,pr,pi,nm,dd,.slice sA C.length sc,O,ar,ai,et,er,ei,tx,.slice eA h.length ec] 125 (0,0)) from an _ _);have Z:(P.alloc (.cells #[kd,jt,jr,ji,pt,pr,pi,nm,dd,.slice sA C.length sc,O,ar,ai,et,er,ei,tx,.slice eA h.length ec] 125)).grownBy V9 (some A.heap.size):=by rw[B];exact di _ _ _
     have aQ:=hid (show V9.heap[A.heap.size]? =some (.cells #[.int .i64 (F+1),.int .i64 ((i:Int)+1),.int .i64 (G+1),.slice t v.length d,(0:Int),(0:Int),.slice (some ⟨P.heap.size,0,none⟩) 1 1] 45 (0,0)) by rw[B];exact gF (c:=#[.int .i64 (F+1),.int .i64 ((i:Int)+1),.int .i64 (G+1),.slice t v.length d,.int .i64 0,.int .i64 0,.slice none 0 0]) bL.o 6 _ rfl);have dl:=hid ((Z.block _ (lt_of_block a5.o) (λe=>by injection e with e;omega)).trans a5.o);have dm:=hid ((cy.o.2.agr (Agr.below ak)).agr (Agr.grown Z λg e1 e2=>by cases e1;exact absurd e2 (Nat.lt_irrefl _)));have a:=hid (show Below A.heap.size A V9 from((D.o.trans (aB.o.mono D.o.size)).trans (ak.mono (by omega))).grown Z (by simp;omega) (λb e=>by cases e;exact aa _));have y6:(P.alloc (.cells #[kd,jt,jr,ji,pt,pr,pi,nm,dd,.slice sA C.length sc,O,ar,ai,et,er,ei,tx,.slice eA h.length ec] 125)).cell? ⟨A.heap.size,6,none⟩=some (.slice none 0 0):=aG _ _ _ _ _ _ bL.o;have f6:(P.alloc (.cells #[kd,jt,jr,ji,pt,pr,pi,nm,dd,.slice sA C.length sc,O,ar,ai,et,er,ei,tx,.slice eA h.length ec] 125)).frozen? ⟨A.heap.size,6,none⟩=false:=aS _ _ _ _ _ bL.o;clear B ak Z aR;go_wp2_with (refine cd rfl _ _ rfl w5.heap.size _ _ _ rfl dj.o am rfl ?_ ?_;kernel_rfl);go_meet;rw[<-az.o]
     exact⟨.zero,[⟨kd,⟨⟨jt,jr⟩,ji⟩,⟨⟨pt,pr⟩,pi⟩,nm,dd,C,⟨⟨O,ar⟩,ai⟩,⟨⟨et,er⟩,ei⟩,tx,h⟩],some ⟨P.heap.size,0,none⟩,1,aQ,hid ⟨.inl ⟨rfl,_,rfl,cy.o.1⟩⟩,hid ⟨ops_one (x:=⟨sA,sc,eA,ec⟩) dl.o dm.o (by omega),aa _,by unfold maxLen;omega⟩,a⟩
  case rest=>
   obtain⟨u,M,oA,oc,cz,dn,a8,a6⟩:=hcut;generalize wc=w8 at *;have d6:=a6.o.size;have cA:=hid (RowG.agr bF.o.1 (Agr.below a6.o));obtain⟨U,hU⟩:∃X,X=eS v ((i:Int)+1) (G+1):=⟨_,rfl⟩;have dp:=hid (show Calls Tryz.prog 56 #[.slice t v.length d,.int .i64 ((i:Int)+1),.int .i64 (G+1)] w8 λe w'=>WithQ U w8 e w' by rw[hU];exact refwith_any t d v ((i:Int)+1) (G+1) w8 (by omega) (by omega) (by omega) (VecS.vec cA.o));have dq:=hid hU;clear hU D ap c2 q7;go_upto_region 21 with(go_at_call 56;refine dp.o.mono ?_;rintro e w9 ⟨cB,uA,uc,rfl,cC,cD,cE⟩;have bM:=hid (And.intro cC (And.intro cD cE));have a:=hid cB;clear cB cC cD cE);have d7:=a.o.size;have a9:=hid (show Below w00.heap.size w00 w9 from(ay.o.trans (a6.o.mono ay.o.size)).trans (a.o.mono (by have:=ay.o.size;omega)));have bN:=hid (a6.o.trans (a.o.mono a6.o.size));have bO:=hid ((bN.o.block _ (lt_of_block au.o)).trans au.o);have a4:=hid ((bN.o.block _ (lt_of_block aj.o)).trans aj.o);have aQ:=hid ((a.o.block _ (lt_of_block cz.o)).trans cz.o);have dr:=lt_of_block aQ.o;have d8:=lt_of_block aj.o;have aT:=row_at (z.o.below a9.o).kr;have ds:=hid (aT.2 ⟨Q,0,none⟩ rfl);have dt:=hid (show(K.flatMap knC).length=3*1 by rw[flat_len (f:=knC) (s:=1) (λ_=>rfl) K,be]);have du:=hid (show ∀u∈K.flatMap knC,u.oneCell'=true from λu hu=>by obtain⟨x,-,hx⟩:=dS.1 hu;exact fx (c:=(knC x).toArray) rfl u hx)
   have x1:w9.cell? ⟨w00.heap.size,1,none⟩=some (.slice (some ⟨Q,0,none⟩) 3 kc):=aG _ _ _ _ _ _ bO.o;clear aT;go_upto_region 22 with(at_builtin;refine bv _ rfl _ _ 81 rfl w9.heap.size 27 iV (.slice none 0 0) 1 24 Tryz.underlying81 hV cQ cR cS rfl (by decide) (.slice none 0 0) 0 _ rfl (by exact(aH w9 w9.heap.size 27 1)) ⟨Q,0,none⟩ 3 kc (K.flatMap knC) rfl dt.o ds.o du.o (by unfold maxLen;omega) (by omega) (by simp) ?_;intro v' bP R H _;have ab:=hid R;have bb:=hid (Below.grown (ag w9.heap.size w9) H (by simp) (λb Y=>(je (aH w9 w9.heap.size 27 1) b Y).1));clear R H);clear x1;obtain⟨A9,c9,rfl⟩:=bU ab.o;rw[cj] at ab ⊢;obtain⟨g9,dv,cL⟩:∃g9,A9=some ⟨g9,0,none⟩∧w9.heap.size<=g9:=by
    obtain⟨g,d9,e,I,-⟩:=own_block ab.o (by omega);exact⟨g,e,I⟩
   cases dv;have dM:=bb.o.size;have ab:Hid (bP.ownsRow w9.heap.size 27 1 (.slice (some ⟨g9,0,none⟩) 3 c9) 3 (K.flatMap knC)):=ab;obtain⟨V1,bQ⟩:∃X,X=bP.setCell ⟨g9,i,none⟩ (.slice uA U.length uc):=⟨_,rfl⟩;have aV:=eX (f:=knC) (λ_=>rfl) (by decide) be.symm ab.o al ⟨uA,uc,U⟩;have cF:bP.setCells g9 (i*1) (knC ⟨uA,uc,U⟩)=V1:=by rw[bQ,jJ];rfl
   rw[cF] at aV;have cM:=hid aV.1;have N:=hid (bb.o.grown aV.2 bb.o.size (λb e=>by cases e;exact cL));have dw:=hid bQ;obtain⟨gg,dx,cG⟩:=eJ ab.o al;cases dx;have t1:=cG 0 (by omega);rw[jJ,Nat.add_zero] at t1;obtain⟨ea,cN⟩:=Option.isSome_iff_exists.1 t1.1;have f9:=t1.2;clear bQ aV cF cG t1;go_upto_region 24 with fail;rw[<-dw.o];clear cN f9;have dN:=N.o.size;have cO:=hid ((N.o.block _ (lt_of_block bO.o)).trans bO.o);have aW:=hid (a9.o.trans (N.o.mono a9.o.size));have x2:V1.cell? ⟨w00.heap.size,0,none⟩=some (.slice gA L.length gc):=aG _ _ _ _ _ _ cO.o;go_cut [16] (λs wx=>∃(A':Option Addr) (c':Nat),s= .slice A' L.length c'∧Hid (wx.ownsRow V1.heap.size 45 7 (.slice A' L.length c') L.length (L.flatMap grC_))∧Hid (Below V1.heap.size V1 wx))
   case first=>
    have aT:=row_at (z.o.below aW.o).gr;have dy:=hid (kL L);have dz:=hid (show ∀u∈L.flatMap grC_,u.oneCell'=true from λu hu=>by obtain⟨x,-,hx⟩:=dS.1 hu;exact iU x u hx);cases gA with
    |none=>
     have h0:=aT.1 rfl;obtain rfl:L=[]:=cx.1 h0;go_wp2;go_meet;exact⟨none,0,rfl,hid (aH _ _ _ _),hid (ag _ _)⟩
    |some ad=>
     have HC:=hid (aT.2 ad rfl);clear aT;go_wp2_with (at_builtin;refine bv _ rfl _ _ 25 rfl V1.heap.size 45 iG (.agg #[(0:Int),(0:Int),(0:Int),.slice none 0 0,(0:Int),(0:Int),.slice none 0 0]) 7 88 ci hG b1 b2 b3 rfl (by decide) (.slice none 0 0) 0 _ rfl (by exact(aH V1 V1.heap.size 45 7)) ad L.length gc (L.flatMap grC_) rfl dy.o HC.o dz.o (by unfold maxLen;omega) (by omega) (by simp) ?_;intro v' ac R H _;have aC:=hid R;have af:=hid (Below.grown (ag V1.heap.size V1) H (by simp) (λb Y=>(je (aH V1 V1.heap.size 45 7) b Y).1));clear R H);obtain⟨A',c',rfl⟩:=bU aC.o;rw[cj] at aC;go_meet;exact⟨A',c',by rw[cj],aC,af⟩
   case rest=>
    obtain⟨A',c',rfl,aC,af⟩:=hcut;generalize wc=ac at *;clear x2;have eb:=af.o.size;have bS:=hid ((N.o.block _ dr).trans aQ.o);have bT:=hid ((af.o.block _ (lt_of_block bS.o)).trans bS.o);have ed:A.heap.size<ac.heap.size:=lt_of_block bT.o;obtain⟨V2,dA⟩:∃X,X=ac.alloc (.cells #[.int .i64 (F+1),.int .i64 ((i:Int)+1),.int .i64 (G+1),.slice t v.length d,.int .i64 u.t,.int .i64 u.r,.slice oA M.length oc] 45):=⟨_,rfl⟩;have ak:Below ac.heap.size ac (ac.alloc (.cells #[.int .i64 (F+1),.int .i64 ((i:Int)+1),.int .i64 (G+1),.slice t v.length d,.int .i64 u.t,.int .i64 u.r,.slice oA M.length oc] 45)):=(ag _ _).alloc (aa _) _;have a5:=hid (aC.o.kept (dB (r:=none) ak) (cX _));have bV:=hid (af.o.trans (ak.mono af.o.size));clear dA ak
    go_upto_region 26 with(first
     |(refine cd rfl _ _ rfl A.heap.size _ _ _ rfl bT.o aJ rfl ?_ ?_;kernel_rfl)
     |(at_builtin;refine cm _ rfl _ _ 25 rfl V1.heap.size 45 iG (.agg #[(0:Int),(0:Int),(0:Int),.slice none 0 0,(0:Int),(0:Int),.slice none 0 0]) 7 88 ci hG b1 b2 b3 rfl (by decide) (.slice A' L.length c') L.length _ rfl (by exact a5.o) ⟨ac.heap.size,0,none⟩ 1 1 [.int .i64 (F+1),.int .i64 ((i:Int)+1),.int .i64 (G+1),.slice t v.length d,.int .i64 u.t,.int .i64 u.r,.slice oA M.length oc] rfl rfl (λj9 y9 I=>dH ac [.int .i64 (F+1),.int .i64 ((i:Int)+1),.int .i64 (G+1),.slice t v.length d,.int .i64 u.t,.int .i64 u.r,.slice oA M.length oc] 45 j9 y9 I) (fx (c:=#[.int .i64 (F+1),.int .i64 ((i:Int)+1),.int .i64 (G+1),.slice t v.length d,.int .i64 u.t,.int .i64 u.r,.slice oA M.length oc]) rfl) (by decide) (by unfold maxLen;omega) (by omega) (by exact bV.o.size) (ac.heap.size+1) (by simp) ?_;intro gq aE bk R H dC cP;have bc:=hid R;have y:=hid (bV.o.grown H bV.o.size (λb Y=>(a5.o.lt b Y).1));clear R H dC cP))
    have dO:=y.o.size;have bl:=hid (aW.o.trans (y.o.mono aW.o.size));have bX:=hid ((N.o.block _ (by omega)).trans a4.o);have bY:=hid ((y.o.block _ (lt_of_block bX.o)).trans bX.o);obtain⟨W,hW⟩:∃X,X=bk.setRow (w00.heap.size+1+1) #[.slice (some ⟨gq,0,none⟩) (L.length+1) aE,.slice (some ⟨g9,0,none⟩) 3 c9]:=⟨_,rfl⟩;have dD:=hid hW;have bm:bk.grownBy W (some (w00.heap.size+1+1)):=by rw[hW];exact dY _ _ _
    have dE:=hid (show W.heap[(w00.heap.size+1+1)]? =some (.cells #[.slice (some ⟨gq,0,none⟩) (L.length+1) aE,.slice (some ⟨g9,0,none⟩) 3 c9] 83 (0,0)) by rw[hW];exact aF _ bY.o);have cH:=hid (bl.o.grown bm bl.o.size (λb e=>by cases e;omega));have aA:=hid (show(#[.slice (some ⟨gq,0,none⟩) (L.length+1) aE,.slice (some ⟨g9,0,none⟩) 3 c9]:Array Value).toList.all (·.oneCell')=true by rfl);clear hW;go_wp2_with (refine bW rfl _ _ _ rfl (w00.heap.size+1+1) 83 #[.slice none 0 0,.slice none 0 0] #[.slice (some ⟨gq,0,none⟩) (L.length+1) aE,.slice (some ⟨g9,0,none⟩) 3 c9] rfl rfl bY.o (by kernel_rfl) rfl aA.o ?_;rw[<-dD.o])
    try simp only[Exit.inBlock,Exit.then]
    refine aU (bG rfl _ _ (w00.heap.size+1+1) _ _ (0,0) _ rfl dE.o jv rfl (by kernel_rfl)) rfl ?_;have bn:=z.o.ok.next hn al a0.o.1 a0.o.2 (u:=u) (ops:=M) (by rw[<-bA.o];unfold gu;rw[<-ce.o];exact dn.o) ⟨t,d,oA,oc⟩;rw[<-bA.o,<-c1.o,<-dq.o] at bn;unfold gu at bn;rw[<-ce.o] at bn;have bd:∀(S:Nat->Prop),(∀b,S b->b≠w00.heap.size+1+1)->Agr S bk W:=λS hS=>Agr.grown bm λg e1 e2=>by cases e1;exact hS _ e2 rfl
    have bZ:Below w8.heap.size w8 bk:=(a.o.trans ((N.o.trans (y.o.mono N.o.size)).mono a.o.size));have cI:=(z.o.below cH.o);have dF:(K.set i ⟨uA,uc,U⟩).map (·.v)=(K.map (·.v)).set i U:=by rw[List.map_set]
    have b0:(L++[((⟨⟨F+1,(i:Int)+1⟩,G+1,v,u,M⟩:Grp),(⟨t,d,oA,oc⟩:GrX))]).length=L.length+1:=by simp
    refine⟨L++[((⟨⟨F+1,(i:Int)+1⟩,G+1,v,u,M⟩:Grp),(⟨t,d,oA,oc⟩:GrX))],K.set i ⟨uA,uc,U⟩,_,some ⟨gq,0,none⟩,aE,some ⟨g9,0,none⟩,c9,by rw[b0],⟨by rw[dF];exact bn,?_,(λg e=>by have e:some gq=some g:=e;injection e with e;have I:=(bc.o.lt gq rfl).1;exact hS g (by omega)),?_,?_,(λg e=>by have e:some g9=some g:=e;injection e with e;exact hS g (by omega)),?_⟩,cH.o⟩
    ·rw[b0,aK];exact iK ((bc.o.kept bm (.inr (λe=>by have:=(bc.o.lt _ e).1;omega)))) (aq _)
    ·intro p J;rcases aD.1 J with J|J
     ·exact cI.gd p J
     ·rw[ba] at J;subst J;refine⟨RowG.sub (RowG.agr (RowG.agr cA.o (Agr.below bZ)) (bd _ λb Y=>Y.1)) (λ_ _ Y=>Y.2),(a8.o.1.agr (Agr.below bZ)).agr (bd _ λb Y=>by omega) |>.sub (λb _ Y=>hS b (by omega)),bF.o.2.1,a8.o.2.1,bF.o.2.2,a8.o.2.2,?_,λx hx=> ?_⟩
      ·show i63 (G+1);unfold i63;omega
      ·show i63 x;obtain⟨q,hq,rfl⟩:=dX.1 hx;have I:=a0.o.1.le ((q:Int)+1);have h8:=z.o.ok.vn ((q:Int)+1);rw[atV_getD,ae,aw hq] at I;have I:0<=v[q]∧v[q]<=atV V ((q:Int)+1):=I;exact⟨Int.le_trans (by decide) I.1,Int.lt_of_le_of_lt (Int.le_trans I.2 h8) (by omega)⟩
    ·exact iK ((cM.o.kept (dB (r:=none) y.o) (cX _)).kept bm (.inr (λe=>by have e:some g9=some (w00.heap.size+1+1):=e;injection e with e;omega))) (aq _)
    ·intro p J;rcases List.mem_or_eq_of_mem_set J with J|rfl
     ·exact cI.kd p J
     ·exact⟨RowG.sub (RowG.agr (RowG.agr bM.o.1 (Agr.below (N.o.trans (y.o.mono N.o.size)))) (bd _ λb (Y:w8.heap.size<=b)=>by omega)) (λb _ (Y:w8.heap.size<=b)=>hS b (by omega)),bM.o.2.1,bM.o.2.2⟩
structure Doo where
 q0:Nat
 q1:Nat
 q2:Nat
 q3:Nat
 q4:Nat
 see:Bool
def do0:Doo:=⟨0,0,0,0,0,false⟩
def doC (x:Doo):List Value:=[.int .u8 (x.q0:Int),.int .u8 (x.q1:Int),.int .u8 (x.q2:Int),.int .u8 (x.q3:Int),.int .u8 (x.q4:Int),.bool x.see]
def doOk (x:Doo):Prop:=x.q0<=255∧x.q1<=255∧x.q2<=255∧x.q3<=255∧x.q4<=255
def HisQ (w00:World) (e:Ending) (w':World):Prop:=∃(L:List (Grp×GrX)) (kn:List (List Int)) (V:List Int) (gA:Option Addr) (gc:Nat),e= .returned (.slice gA L.length gc)∧HOk 16 L kn V∧w'.ownsRow 0 45 7 (.slice gA L.length gc) L.length (L.flatMap grC_)∧(∀p∈L,GrG w' (λ_=>True) p)∧Below w00.heap.size w00 w'
theorem HOk.up {gs:List (Grp×GrX)} {kn:List (List Int)} {V:List Int}:∀{n m:Nat},n<=m->HOk n gs kn V->HOk m gs kn V
  | n, 0, hm, h => by obtain rfl:n=0:=by omega
                      exact h
  | n,m+1,hm,h=>by
    by_cases e:n=m+1
    · subst e;exact h
    · exact(HOk.up (m:=m) (by omega) h).mono
theorem WIn.put {b n:Nat} {L:List (Grp×GrX)} {K:List KnX} {V:List Int} {d f:Option Addr} {i j:Nat} {w w':World} (h:WIn (λk=>k≠b) n L K V d i f j w) (c:w.grownBy w' (some b)):WIn (λk=>k≠b) n L K V d i f j w':=by
 have l:Agr (λk=>k≠b) w w':=Agr.grown c λg o q=>by cases o;exact q rfl
 have m:∀{v:Value},(∀g,v.ownBlock=some g->g≠b)->v.ownBlock=none∨v.ownBlock≠some b:=λr=> .inr λe=>r _ e rfl;exact⟨h.ok,h.gr.kept c (m h.gs),h.gs,λp a=>(h.gd p a).agr l,h.kr.kept c (m h.ks),h.ks,λp a=>⟨RowG.agr (h.kd p a).1 l,(h.kd p a).2⟩⟩
theorem history_any (D:List Doo) (dA:Option Addr) (dc:Nat) (S0:Nat->Prop) (a:World) (hD:∀x∈D,doOk x) (hl:D.length<=9223372036854775807) (hR:RowF a S0 dA 6 doC do0 D):
  Calls Tryz.prog 17 #[.slice dA D.length dc] a λe w'=>HisQ a e w':=by
 have HR:=hid hR;have HD:=hid hD;clear hR hD;go_enter Tryz.func17,Tryz.ntmps17;go_upto_region 2 with fail;have Q:=λ(W:World) (o:Obj)=>show(W.alloc o).heap.size=W.heap.size+1 by simp
 have c:Below a.heap.size a ((a.alloc (.cells #[.slice none 0 0,.slice none 0 0,.slice none 0 0] 27)).alloc (.cells #[.slice none 0 0,.slice (some ⟨a.heap.size,0,none⟩) 3 3] 83)):=((ag _ _).alloc (aa _) _).alloc (by rw[Q];omega) _;have T:=hid (show((a.alloc (.cells #[.slice none 0 0,.slice none 0 0,.slice none 0 0] 27)).alloc (.cells #[.slice none 0 0,.slice (some ⟨a.heap.size,0,none⟩) 3 3] 83)).heap[a.heap.size]? =some (.cells #[.slice none 0 0,.slice none 0 0,.slice none 0 0] 27 (0,0)) from(ax _ _ _ (by rw[Q];omega)).trans (an _ _));have ad:=hid (show((a.alloc (.cells #[.slice none 0 0,.slice none 0 0,.slice none 0 0] 27)).alloc (.cells #[.slice none 0 0,.slice (some ⟨a.heap.size,0,none⟩) 3 3] 83)).heap[(a.heap.size+1)]? =some (.cells #[.slice none 0 0,.slice (some ⟨a.heap.size,0,none⟩) 3 3] 83 (0,0)) from bu _ _ (by rw[Q]));have ah:=hid c;generalize hw:((a.alloc (.cells #[.slice none 0 0,.slice none 0 0,.slice none 0 0] 27)).alloc (.cells #[.slice none 0 0,.slice (some ⟨a.heap.size,0,none⟩) 3 3] 83))=w at *;clear hw c Q
 have ai:=hid (show WIn (λb=>b≠a.heap.size+1) 0 [] [kn0,kn0,kn0] [] none 0 (some ⟨a.heap.size,0,none⟩) 3 w from by
  refine⟨HOk.new,aH _ _ _ _,(λg e=>by cases e),(λp v=>by cases v),⟨rfl,.inr ⟨a.heap.size,3,#[.slice none 0 0,.slice none 0 0,.slice none 0 0],rfl,aq _,T.o,aa _,by decide,rfl,rfl⟩⟩,(λg e=>by have e:some a.heap.size=some g:=e;injection e with e;omega),λp v=> ?_⟩;have e:p=kn0:=by simpa using v
  subst e
  exact⟨RowG.zero,aa _,aq _⟩)
 have d:=hid (λW (hB:Below a.heap.size a W)=>HR.o.below hB);clear T;go_upto_region 3 with fail;go_loopg [4] 16 (λg0 ix wr=>∃(k:Nat) (L:List (Grp×GrX)) (KL:List KnX) (V:List Int) (j:Option Addr) (m:Nat) (y:Option Addr) (z:Nat),k+g0=16∧k<=D.length∧ix= .int .i64 k∧Hid (wr.heap[(a.heap.size+1)]? =some (.cells #[.slice j L.length m,.slice y 3 z] 83 (0,0)))∧Hid (WIn (λb=>b≠a.heap.size+1) k L KL V j m y z wr)∧Hid (Below a.heap.size a wr))
 case atStart=>exact⟨0,[],[kn0,kn0,kn0],[],none,0,some ⟨a.heap.size,0,none⟩,3,rfl,aq _,rfl,ad,ai,ah⟩
 case round=>
  obtain⟨k,L,KL,V,j,m,y,z,hk,ap,rfl,h,f,n⟩:=hrel;have ar:=lt_of_block h.o;by_cases U:k<D.length
  ·have i1:(0:Int)<=(k:Int):=by omega
   have i2:(k:Int)<(D.length:Int):=by omega
   by_cases ae:k<16
   ·have i3:(k:Int)<16:=by omega
    obtain⟨I,J,e9,-,Y,Z⟩:=HR.o.range (λ_=>rfl) U;have A:=HD.o _ (cg U do0);generalize D.getD k do0=x at *;obtain⟨B,C,E,F,G,i⟩:=x;have A:B<=255∧C<=255∧E<=255∧F<=255∧G<=255:=A;cases e9;have d:=hid (λW (hB:Below a.heap.size a W)=>show W.rangeAt I (J+k*6) [.int .u8 (B:Int),.int .u8 (C:Int),.int .u8 (E:Int),.int .u8 (F:Int),.int .u8 (G:Int),.bool i] from ct Z Y hB);clear Z Y;go_upto_region 5 with fail;refine aY (S:=λW'=>W'.rangeAt I (J+k*6) [.int .u8 (B:Int),.int .u8 (C:Int),.int .u8 (E:Int),.int .u8 (F:Int),.int .u8 (G:Int),.bool i]) (by kernel_rfl) ?_
    try(change wpAnyH _ _ _ _ _ _ _ _ (World.drew _))
    refine tk 1 (.slice (some ⟨I,J,none⟩) D.length dc) ((show wr.drew.rangeAt _ _ _ from d.o wr n.o)) ?_;go_simp;refine tk 2 (.int .i64 (k:Int)) ((show wr.drew.rangeAt _ _ _ from d.o wr n.o)) ?_;go_simp;refine tk 3 (.pointer (some ⟨I,J+k*6,none⟩)) ((show wr.drew.rangeAt _ _ _ from d.o wr n.o)) ?_;go_simp;refine tk2 4 (.agg #[.int .u8 (B:Int),.int .u8 (C:Int),.int .u8 (E:Int),.int .u8 (F:Int),.int .u8 (G:Int),i]) rfl (bc (by rfl) _ _ rfl I (J+k*6) rfl [.int .u8 (B:Int),.int .u8 (C:Int),.int .u8 (E:Int),.int .u8 (F:Int),.int .u8 (G:Int),.bool i] _ (λW' aj=>bC (pre:=[]) (mid:=[.int .u8 (B:Int),.int .u8 (C:Int),.int .u8 (E:Int),.int .u8 (F:Int),.int .u8 (G:Int),.bool i]) (post:=[]) (aj)) Tryz.underlying86 rfl (by kernel_rfl)) ((show wr.drew.rangeAt _ _ _ from d.o wr n.o)) ?_;go_simp;refine rd1 0 λK q=> ?_;refine bI rfl _ _ rfl (a.heap.size+1) 0 rfl [.slice j L.length m,.slice y 3 z] _ (show wr.drew.rangeAt _ _ _ from bq (l:=[.slice j L.length m,.slice y 3 z]) h.o) jv rfl (by kernel_rfl) ?_;refine q.out _ _ ((show wr.drew.rangeAt _ _ _ from d.o wr n.o)) (λ_=> ?_);clear q K;refine rd1 5 λK q=> ?_;go_simp;go_at_call 47
    refine(done_any k L KL V j m y z B C E F G i (λb=>b≠a.heap.size+1) wr.drew (λb (hb:wr.heap.size<=b)=>by have:=lt_of_block h.o;omega) ae A.1 A.2.1 A.2.2.1 A.2.2.2.1 A.2.2.2.2 (f.o.below ((ag _ _).drew))).mono ?_;rintro e R ⟨M,K2,V2,r,s,t,u,rfl,ab,c⟩;have c:=show Below wr.heap.size wr R from((ag wr.heap.size wr).drew).trans c;have ak:=hid ab;have N:=bT n c;have O:=bK c h;clear ab c;refine q.out _ _ (d.o R N.o) (λ_=> ?_);clear q K;obtain⟨X9,H⟩:∃X,X=R.setRow (a.heap.size+1) #[.slice r M.length s,.slice t 3 u]:=⟨_,rfl⟩;have al:=hid H;have P:R.grownBy X9 (some (a.heap.size+1)):=by rw[H];exact dY _ _ _
    have af:=hid (show X9.heap[(a.heap.size+1)]? =some (.cells #[.slice r M.length s,.slice t 3 u] 83 (0,0)) by rw[H];exact aF _ O.o);have ac:=hid (N.o.grown P N.o.size (λb e=>by cases e;omega));have am:=hid (ak.o.put P);have ao:=hid (show(#[.slice r M.length s,.slice t 3 u]:Array Value).toList.all (·.oneCell')=true by rfl);clear H P;refine rd1 6 λK q=> ?_;refine dN rfl _ _ _ rfl (a.heap.size+1) 83 #[.slice j L.length m,.slice y 3 z] #[.slice r M.length s,.slice t 3 u] rfl rfl O.o (by kernel_rfl) rfl ao.o ?_;rw[<-al.o];refine q.out _ _ (d.o X9 ac.o) (λ_=> ?_);clear q K;refine bp (by kernel_rfl) ?_ _;go_simp;go_wp2;go_roundg (16-(k+1))
    case measure=>omega
    case rel=>exact⟨k+1,M,K2,V2,r,s,t,u,by omega,by omega,by go_num,af,am,ac⟩
   ·have i3:¬(k:Int)<16:=by omega
    have z1:=cw0 h.o;go_wp2;go_ret;exact⟨L,_,V,j,m,rfl,f.o.ok.up (by omega),f.o.gr,λp v=>(f.o.gd p v).sub (λ_ _ _=>trivial),n.o⟩
  ·have i2:¬(k:Int)<(D.length:Int):=by omega
   have z1:=cw0 h.o;go_wp2;go_ret;exact⟨L,_,V,j,m,rfl,f.o.ok.up (by omega),f.o.gr,λp v=>(f.o.gd p v).sub (λ_ _ _=>trivial),n.o⟩
end
end Go.Proofs.YtkhmicndehlneaaGreatDoor
