/- Part 30 of the walks and plain laws that this claim uses, joined. Conditions: as each theorem states. -/
import Derived.Test.YtkhmicndehlneaaGreatDoorYbA
import Derived.Test.YtkhmicndehlneaaGreatDoorYbC
namespace Go.Proofs.YtkhmicndehlneaaGreatDoor
set_option maxRecDepth 100000
set_option maxHeartbeats 16000000
set_option linter.unusedVariables false
section
open Go.RowKit Go.Lib Go.Sort
attribute [local go_sem ↓] Go.wp_at_zero Go.wp_at_succ
theorem encV_yes {g:Grp} (h:chkB g=true):encV g= .tuple #[.string (grpS g),(0:Int)]:=by unfold encV;rw[aJ h];rfl
theorem encV_nix {g:Grp} (h:chkB g=false):encV g= .tuple #[.string ⟨#[]⟩,(80:Int)]:=by unfold encV;rw[h,aC (by decide)]
def ofV (odd:Bool) (X:ByteArray):ByteArray×Int:=if 1048576<X.size then (⟨#[]⟩,2) else if odd=true then (⟨#[]⟩,1) else (fO Crc.tab X,0)
def recV (odd:Bool) (g:Grp):ByteArray×Int:=if chkB g=false then (⟨#[]⟩,80) else if 1048576<(grpZ g).length then (⟨#[]⟩,2) else if odd=true then (⟨#[]⟩,1) else (fO Crc.tab (grpS g),0)
theorem recV_recB (g:Grp):(recV false g).1=recB g:=by
 unfold recV recB;cases h:chkB g with
 |false=>rw[aJ rfl,aC (by simp)]
 |true=>
  rw[aC (by decide)];by_cases a:1048576<(grpZ g).length
  ·rw[aJ a,aC (by omega)]
  ·rw[aC a,aC (by decide),aJ ⟨rfl,by omega⟩]
def TabOf (odd:Bool) (m:Nat) (A:Option Addr) (w:World):Prop:=match odd with
 |true=>m≠256
 |false=>m=256∧TabRow w A Crc.tab
theorem TabOf.below {odd:Bool} {m:Nat} {A:Option Addr} {w w':World} (h:TabOf odd m A w) (hB:Below w.heap.size w w'):TabOf odd m A w':=by
 cases odd with
 |true=>exact h
 |false=>exact⟨h.1,h.2.go hB⟩
theorem range_below {w w':World} {b o:Nat} {cs:List Value} (h:w.rangeAt b o cs) (hb:b<w.heap.size) (hB:Below w.heap.size w w'):w'.rangeAt b o cs:=λj v hv=>(aS (w:=w) (w':=w') (a:=⟨b,o+j,none⟩) (hB.block b hb)).trans (h j v hv)
theorem of_v (odd:Bool) (A:Option Addr) (m cap:Nat) (X:ByteArray) (w:World) (h:TabOf odd m A w):
  Calls Tryz.prog 77 #[.slice A m cap,X] w λe w'=>e= .returned (.tuple #[.string (ofV odd X).1,.int .i64 (ofV odd X).2])∧Below w.heap.size w w':=by
 unfold ofV;by_cases a:1048576<X.size
 ·rw[aJ a];exact(of_long A m cap X a w).mono (by rintro e w' ⟨rfl,rfl⟩;exact⟨rfl,ag _ _⟩)
 ·rw[aC a];cases odd with
  |true=>
   have h:m≠256:=h;exact(of_bad A m cap h X (by omega) w).mono (by rintro e w' ⟨rfl,rfl⟩;exact⟨rfl,ag _ _⟩)
  |false=>
   obtain⟨rfl,b⟩:m=256∧TabRow w A Crc.tab:=h;exact of_ok A cap Crc.tab tabIs X (by omega) w b
section
variable {w : World}
theorem record_any (odd:Bool) (A:Option Addr) (m cap:Nat) (hodd:TabOf odd m A w) (g:Grp) (dA:Option Addr) (dc:Nat) (oA:Option Addr) (oc:Nat) (S:Nat->Prop) (hI:GrIn w S g dA dc oA oc) (hT1:∀o∈g.ops,o.text.size<9223372036854775807) (hTx:g.ops.length<=200->∀o∈g.ops,o.text.size<=1000000) (hTb:Tabs w):
  Calls Tryz.prog 41 #[.slice A m cap,.agg (grA g dA dc oA oc)] w λe w'=>e= .returned (.tuple #[.string (recV odd g).1,.int .i64 (recV odd g).2])∧Below w.heap.size w w':=by
 have f:∀W,Below w.heap.size w W->Calls Tryz.prog 76 #[.agg (grA g dA dc oA oc)] W λe w'=>e= .returned (encV g)∧Below W.heap.size W w':=λW a=>encode_any g dA dc oA oc S W (hI.agr (Agr.below a)) hT1 hTx (hTb.below a);have q:∀W,Below w.heap.size w W->TabOf odd m A W:=λW a=>hodd.below a;obtain⟨R,j⟩:∃R,R=recV odd g:=⟨_,rfl⟩;rw[<-j];obtain⟨⟨t,r⟩,n,u,⟨b,c⟩,ops⟩:=g;have s:Below w.heap.size w (w.alloc (.cells #[t,r,n,.slice dA u.length dc,b,c,.slice oA ops.length oc] 45)):=(ag _ _).alloc (aa _) _;have k:=hid s;have C:=hid (am w (.cells #[t,r,n,.slice dA u.length dc,b,c,.slice oA ops.length oc] 45));show Calls _ _ #[.slice A m cap,.agg #[t,r,n,.slice dA u.length dc,b,c,.slice oA ops.length oc]] _ _;clear hI hT1 hTx hTb hodd s;cases d:chkB ⟨⟨t,r⟩,n,u,⟨b,c⟩,ops⟩ with
 | false=>
  have h:R=(⟨#[]⟩,80):=by rw[j];unfold recV;rw[d,aJ rfl]
  have l:Hid (∀W,Below w.heap.size w W->Calls Tryz.prog 76 #[.agg #[t,r,n,.slice dA u.length dc,b,c,.slice oA ops.length oc]] W λe w'=>e= .returned (.tuple #[.string ⟨#[]⟩,(80:Int)])∧Below W.heap.size W w'):=hid (λW a=>by rw[<-encV_nix d];exact f W a);clear j d f;subst h;go_enter Tryz.func41,Tryz.ntmps41;go_upto_region 1 with fail;generalize B:w.alloc (.cells #[t,r,n,.slice dA u.length dc,b,c,.slice oA ops.length oc] 45)=W at *;clear B
  go_wp2_with (first
   |(refine lA C aH ?_)
   |(go_at_call 76;refine(l.out W k.out).mono ?_;rintro e D ⟨rfl,i⟩))
  go_ret2;exact⟨rfl,k.out.trans (i.mono k.out.size)⟩
 | true=>
  obtain⟨Z,p⟩:∃Z,Z=grpS ⟨⟨t,r⟩,n,u,⟨b,c⟩,ops⟩:=⟨_,rfl⟩;have v:Z.size=(grpZ ⟨⟨t,r⟩,n,u,⟨b,c⟩,ops⟩).length:=by rw[p];unfold grpS;rw[mkS]
  have h:R=ofV odd Z:=by
   rw[j];unfold recV ofV;rw[d,aC (by decide),<-v,<-p]
  have l:Hid (∀W,Below w.heap.size w W->Calls Tryz.prog 76 #[.agg #[t,r,n,.slice dA u.length dc,b,c,.slice oA ops.length oc]] W λe w'=>e= .returned (.tuple #[Z,(0:Int)])∧Below W.heap.size W w'):=hid (λW a=>by
   have E:=f W a;rw[encV_yes d] at E
   rw[p];exact E)
  have x:=hid (λW (a:Below w.heap.size w W)=>of_v odd A m cap Z W (q W a));clear j d f p v q;rw[<-h] at x;obtain⟨G,H⟩:=R;clear h;go_enter Tryz.func41,Tryz.ntmps41;go_upto_region 1 with fail;generalize B:w.alloc (.cells #[t,r,n,.slice dA u.length dc,b,c,.slice oA ops.length oc] 45)=W at *;clear B
  go_wp2_with (first
   |(refine lA C aH ?_)
   |(go_at_call 76;refine(l.out W k.out).mono ?_;rintro e D ⟨rfl,i⟩;have y:=bT k i;clear i)
   |(go_at_call 77;refine(x.out D y.out).mono ?_;rintro e I ⟨rfl,z⟩;have F:=bT y z;clear z))
  go_ret2;exact⟨rfl,F.out⟩
end
theorem infoInt25:(Tryz.prog.info? 3).map (λi=>(i.zero,i.size,i.bytes))=some (some (.int .i64 0),1,8):=by kernel_rfl
def endsR (l:List Grp) (k:Nat):List Value:=(List.range k).map λi=> .int .i64 ((catR (l.take (i+1))).size:Nat)
theorem endsR_succ (l:List Grp) (k:Nat):endsR l (k+1)=endsR l k++[.int .i64 ((catR (l.take (k+1))).size:Nat)]:=by unfold endsR;rw[List.range_succ];simp
theorem catR_take {l:List Grp} {k:Nat} (hk:k<l.length):catR (l.take (k+1))=catR (l.take k)++recB (l.getD k gz):=by
 rw[List.take_add_one,an hk,ae,an hk];exact catR_snoc _ _
theorem catR_pre (l:List Grp) (k:Nat):(catR (l.take k)).size<=(catR l).size:=by
 have h:=congrArg ByteArray.size (catR_app (l.take k) (l.drop k));rw[dx,aZ] at h;omega
theorem cell_one (W:World) (v:Value) (t:TypeId):∀(j:Nat) (y:Value),([v]:List Value)[j]? =some y->(W.alloc (.cells #[v] t)).cell? ((⟨W.heap.size,0,none⟩:Addr).add j)=some y:=λj y h=>one_cell W v t j y h
theorem records_any (A:Option Addr) (c:Nat) (L:List (Grp×GrX)) (S:Nat->Prop) (w:World) (hl:L.length<=1000000) (hcs:(catR (L.map Prod.fst)).size<=1000000000) (hR:RowGr w A L) (hG:∀p∈L,GrG w S p) (hTx:∀p∈L,∀o∈p.1.ops,o.text.size<=1000000) (hTb:Tabs w):
    Calls Tryz.prog 12 #[.slice A L.length c] w λe w'=>∃v,e= .returned (.tuple #[.string (catR (L.map Prod.fst)),v])∧w'.ownsRow w.heap.size 3 1 v L.length (endsR (L.map Prod.fst) L.length)∧Below w.heap.size w w':=by
  obtain⟨i0,hi,av,aw,ax⟩:=bD infoInt25;obtain⟨a,x⟩:∃a,a=L.map Prod.fst:=⟨_,rfl⟩;rw[<-x] at hcs ⊢;have ab:a.length=L.length:=by rw[x,aQ]
  have ac:=hid ab;have ay:=hid (show ∀k,(L.getD k gp0).1=a.getD k gz from λk=>by rw[getD_fst',x]);have az:=hid hcs;have HR:=hid hR;have HG:=hid hG;have aA:=hid hTx;have aB:=hid hTb;clear hcs hR hG hTx hTb x ab;go_enter Tryz.func12,Tryz.ntmps12;go_upto_region 4 with fail;go_loopw [4,5,6] (λs v i wr=>∃(k:Nat) (B:ByteArray),k<=L.length∧i= .int .i64 k∧s= .string B∧Hid (B=catR (a.take k))∧Hid (wr.ownsRow w.heap.size 3 1 v k (endsR a k))∧Hid (Below w.heap.size w wr)) (λ_ _ i _=>L.length-(RowKit.intOf i).toNat)
  case atStart=>exact⟨0,⟨#[]⟩,aq _,rfl,rfl,hid rfl,hid (aF _ _ _ _),hid (ag _ _)⟩
  case round=>
    obtain⟨k,B,hk,rfl,rfl,ad,HO,b⟩:=hrel;by_cases y:k<L.length
    · have i1:(0:Int)<=(k:Int):=by omega
      have i2:(k:Int)<(L.length:Int):=by omega
      obtain⟨M,N,rfl,af,g⟩:=RowGr.range (RowGr.below HR.out b.out) y;have j:L.getD k gp0∈L:=by rw[ae,an y];exact bU y
      have ah:GrG wr S (L.getD k gp0):=(HG.out _ j).agr (Agr.below b.out);have O:=aA.out _ j;have P:=ay.out k;have C:=catR_take (l:=a) (k:=k) (by rw[ac.out];exact y);have Q:=endsR_succ a k;have R:=catR_pre a (k+1);have hcs:=az.out;obtain⟨X,hX⟩:∃X,X=recB (a.getD k gz):=⟨_,rfl⟩;obtain⟨z,hz⟩:∃z,z=(recV false (a.getD k gz)).2:=⟨_,rfl⟩;have ai:recV false (a.getD k gz)=(X,z):=by rw[hX,hz,<-recV_recB]
      rw[<-hX,<-ad.out] at C;rw[C] at R Q;rw[aZ] at R;generalize L.getD k gp0=p at *;obtain⟨⟨⟨t,r⟩,n,u,⟨m,q⟩,ops⟩,⟨F,G,H,I⟩⟩:=p
      have aj:=hid (λW (hB:Below wr.heap.size wr W) (J:Option Addr) (U:Nat) (V:TabOf false 256 J W)=>show Calls Tryz.prog 41 #[.slice J 256 U,.agg #[t,r,n,.slice F u.length G,m,q,.slice H ops.length I]] W λe w'=>e= .returned (.tuple #[X,z])∧Below W.heap.size W w' from by
        have h9:=record_any (w:=W) false J 256 U V ⟨⟨t,r⟩,n,u,⟨m,q⟩,ops⟩ F G H I S (GrIn.agr ah (Agr.below hB)) (λo ho=>by have:=O o ho;omega) (λ_=>O) (aB.out.below (b.out.trans (hB.mono b.out.size)));rw[show(⟨⟨t,r⟩,n,u,⟨m,q⟩,ops⟩:Grp)=a.getD k gz from P,ai] at h9;rw[<-P] at h9
        exact h9)
      have f:=hid (show wr.rangeAt M (N+k*7) [t,r,n,.slice F u.length G,m,q,.slice H ops.length I] from g);have aC:=hid C;have aD:=hid Q;have aL:¬maxLen<B.size+X.size:=by unfold maxLen;omega
      have aI:B.size+X.size<=1000000000:=by omega
      clear C Q R hcs hX hz ai ah O P g j;go_upto_region 6 with fail;refine aR (S:=λw'=>w'.rangeAt M (N+k*7) [t,r,n,.slice F u.length G,m,q,.slice H ops.length I]) (by kernel_rfl) ?_
      try(change wpAnyH _ _ _ _ _ _ _ _ (World.drew _))
      refine tk 1 (.slice (some ⟨M,N,none⟩) L.length c) ((show wr.drew.rangeAt _ _ _ from f.out)) ?_;go_simp;refine tk 2 (.int .i64 (k:Int)) ((show wr.drew.rangeAt _ _ _ from f.out)) ?_;go_simp;refine tk 3 (.pointer (some ⟨M,N+k*7,none⟩)) ((show wr.drew.rangeAt _ _ _ from f.out)) ?_;go_simp;refine tk2 4 (.agg ([t,r,n,.slice F u.length G,m,q,.slice H ops.length I]:List Value).toArray) rfl (aT (by rfl) _ _ rfl M (N+k*7) rfl [t,r,n,.slice F u.length G,m,q,.slice H ops.length I] _ (λW' aE=>aE) aH rfl (by kernel_rfl)) ((show wr.drew.rangeAt _ _ _ from f.out)) ?_;go_simp;refine rd1 0 λK T=> ?_;go_simp;have ak:Below wr.heap.size wr wr.drew:=⟨rfl,rfl,rfl,aa _,λ_ _=>rfl⟩;refine(jb wr.drew).mono ?_;rintro e wa ⟨v,rfl,hO,al⟩;obtain⟨J,U,rfl,-,V⟩:=own_tab hO;have D:=hid (ak.trans al);have am:=hid (show TabOf false 256 J wa from⟨rfl,V⟩);have ao:=hid (range_below f.out af D.out);clear al ak hO V;go_simp;refine T.out _ _ (ao.out) (λ_=> ?_);clear T K;refine rd1 5 λK T=> ?_;go_simp;refine(aj.out wa D.out J U am.out).mono ?_;rintro e wb ⟨rfl,ap⟩;have E:=bT D ap;have d:=hid (range_below f.out af E.out);clear ap;go_simp;refine T.out _ _ (d.out) (λ_=> ?_);clear T K;refine tk 6 (.tuple #[X,z]) (d.out) ?_;go_simp;refine tk 7 (.string X) (d.out) ?_;go_simp;refine tk 8 (.int .i64 z) (d.out) ?_;go_simp;refine tk 9 (.string X) (d.out) ?_;go_simp
      refine tk 10 (.int .i64 z) (d.out) ?_;go_simp;refine be (by kernel_rfl) ?_ _;go_simp;have aJ:=E.out.size;have au:=b.out.size;have aG:=hid (b.out.trans (E.out.mono au));have ar:=kO HO E.out;clear D am ao d aj;go_wp2_with (at_builtin;refine bu _ rfl _ _ 27 rfl w.heap.size 3 i0 (.int .i64 0) 1 8 Tryz.underlying27 hi av aw ax rfl (by decide) _ _ _ rfl (by exact ar.out.alloc _) ⟨wb.heap.size,0,none⟩ 1 1 [.int .i64 ((B.size:Int)+(X.size:Int))] rfl rfl (by exact cell_one _ _ _) (λu hu=>by simp at hu;subst hu;rfl) (by unfold maxLen;omega) (by omega) (by simp;omega) ?_;intro v' w3 Y Z _);go_roundw
      case rel=>
        refine⟨k+1,B++X,by omega,by go_num,rfl,hid aC.out.symm,hid ?_,hid ((aG.out.alloc (by omega) _).grown Z (by simp;omega) (λi h=>(ar.out.lt i h).1))⟩;rw[aD.out,aZ,Int.natCast_add];exact Y
      case measure=>(simp[RowKit.intOf];omega)
    · obtain rfl:k=L.length:=by omega
      have i2:¬(L.length:Int)<(L.length:Int):=by omega
      have HE:=hid (show B=catR a by rw[ad.out,<-ac.out,aK]);go_wp2;go_ret2;exact⟨_,by rw[HE.out];rfl,HO.out,b.out⟩
def shortG (g:Grp):Prop:=∀o∈g.ops,o.text.size<=1000000
structure RecAt (P:Nat) (s:ByteArray) (w wr:World) (b:Bx) (r:ByteArray):Prop where
 rcv:∀b2 r2,Rec Crc.tab b r b2 r2->Rec Crc.tab Bx.new s b2 r2
 ok:BxOk b
 wt:b.wait=[]
 len:b.done.length+r.size<=s.size
 txt:∀g∈b.done++b.wait,shortG g
 low:Below w.heap.size w wr
 box:∃X S,BoxIn w.heap.size P S b.done b.done b.wait b.v X wr∧∀k,S k->w.heap.size<=k
def RecQ (s:ByteArray) (w:World) (e:Ending) (w':World):Prop:=∃(b2:Bx) (r2:ByteArray) (L:List (Grp×GrX)) (A':Option Addr) (c':Nat),Rec Crc.tab Bx.new s b2 r2∧L.map Prod.fst=b2.done∧e= .returned (.tuple #[.slice A' L.length c',((s.size-r2.size:Nat):Int),(0:Int)])∧w'.ownsRow w.heap.size 45 7 (.slice A' L.length c') L.length (L.flatMap grC_)∧(∀p∈L,GrG w' (λk=>w.heap.size<=k) p)∧(∀p∈L,shortG p.1)∧Below w.heap.size w w'
theorem RecAt.below {P:Nat} {s r:ByteArray} {w wr w':World} {b:Bx} (h:RecAt P s w wr b r) (hb:Below wr.heap.size wr w'):RecAt P s w w' b r:=by
 obtain⟨X,S,a,c⟩:=h.box;exact⟨h.rcv,h.ok,h.wt,h.len,h.txt,h.low.trans (hb.mono h.low.size),X,S,a.below hb,c⟩
theorem RecAt.hear {P:Nat} {s r:ByteArray} {w wr w1:World} {b:Bx} (h:RecAt P s w wr b r) (hs:s.size<=900000) (p:Grp×GrX) (hb:Below wr.heap.size wr w1) (hG:GrG w1 (λk=>wr.heap.size<=k) p) (hT:shortG p.1) (hTb:Tabs w1):
  Calls Tryz.prog 20 #[.pointer (some ⟨P,0,none⟩),.agg (grA p.1 p.2.dA p.2.dc p.2.oA p.2.oc)] w1 λe w'=>e= .returned (.tuple #[.int .i64 ((bS b p.1).2.1:Nat),.int .i64 (bS b p.1).2.2])∧Below w.heap.size w w'∧BxOk (bS b p.1).1∧(∀g∈(bS b p.1).1.done++(bS b p.1).1.wait,shortG g)∧∃X S,BoxIn w.heap.size P S (bS b p.1).1.done (bS b p.1).1.done (bS b p.1).1.wait (bS b p.1).1.v X w'∧∀k,S k->w.heap.size<=k:=by
 have l:=h.below hb;obtain⟨X,S,d,q⟩:=h.box;have t:=d.below hb;have A:=h.low.size;have u:=h.len;have f:BoxIn w.heap.size P (λk=>S k∨(wr.heap.size<=k∧k<w1.heap.size)) b.done b.done b.wait b.v X w1:=t.sup (λk a=> .inl a) (λk a=>a.imp id (λh=>⟨h.2,λj=>by have:=(d.own_lt j).2;omega⟩));have m:GrG w1 (λk=>S k∨(wr.heap.size<=k∧k<w1.heap.size)) p:=hG.sub λk a h=> .inr ⟨h,a⟩;refine(bxhear_any f h.ok p.1 p.2 m (λo j=>by have:=hT o j;omega) hTb (by rw[h.wt];exact aq _) (by rw[h.wt];simp;omega)).mono ?_;rintro e w' ⟨rfl,x,y,n,i⟩;refine⟨rfl,l.low.trans (i.gr.below l.low.size λk a=>(f.own_lt a).1),hearB_ok h.ok _,λg z=> ?_,x,y,n,λk a=> ?_⟩
 ·rcases hearB_mem b p.1 g z with c|rfl
  ·exact h.txt g c
  ·exact hT
 ·rcases i.new k a with(c|c)|c
  ·exact q k c
  ·omega
  ·have:=hb.size;omega
theorem rec_fin {s r2:ByteArray} {w wx w':World} {b2:Bx} {P:Nat} {X:BoxX} {S:Nat->Prop} {A:Option Addr} {c:Nat} (hX:BoxIn w.heap.size P S b2.done b2.done b2.wait b2.v X wx) (hS:∀k,S k->w.heap.size<=k) (hT:∀g∈b2.done++b2.wait,shortG g) (hR:Rec Crc.tab Bx.new s b2 r2) (hlow:Below w.heap.size w wx)
  (hown:w'.ownsRow wx.heap.size 45 7 (.slice A X.L.length c) X.L.length (X.L.flatMap grC_)) (hB:Below wx.heap.size wx w'):RecQ s w (.returned (.tuple #[.slice A X.L.length c,((s.size-r2.size:Nat):Int),(0:Int)])) w':=by
 refine⟨b2,r2,X.L,A,c,hR,hX.dl,rfl,?_,λp a=> ?_,λp a=> ?_,hlow.trans (hB.mono hlow.size)⟩
 ·have d:=hlow.size;rcases hown.2 with⟨e1,e2⟩|⟨g,cap,cur,e1,e2,e3⟩
  ·exact⟨hown.1,.inl ⟨e1,e2⟩⟩
  ·exact⟨hown.1,.inr ⟨g,cap,cur,e1,by omega,e3⟩⟩
 ·exact((hX.good p (au.2 (.inl a))).agr (Agr.below hB)).sub λk _ b=>hS k b
 ·exact hT p.1 (au.2 (.inl (by rw[<-hX.dl];exact bj.2 ⟨p,a,rfl⟩)))
theorem rest_next {s r x r2:ByteArray} {k:Nat} (h:s.extract k s.size=r) (hn:fZ Crc.tab r= .ok x r2):s.extract (s.size-r2.size) s.size=r2:=by
 have b:=(next_bytes hn).1;apply ir;rw[bs_suf];have a:r.data.toList=s.data.toList.drop k:=by rw[<-h,bs_suf]
 rw[b,eX] at a;have c:=congrArg List.length a;rw[al,bI,fR,fR,fR] at c;have d:4<=(fO Crc.tab x).size:=by rw[kF];omega
 rw[show s.size-r2.size=k+(fO Crc.tab x).data.toList.length by rw[fR];omega,<-List.drop_drop,<-a,List.drop_left]
theorem recover_any (A:Option Addr) (cap:Nat) (s:ByteArray) (w:World) (hs:s.size<=900000) (hTab:TabRow w A Crc.tab) (hTb:Tabs w):
  Calls Tryz.prog 13 #[.slice A 256 cap,s] w λe w'=>RecQ s w e w':=by
 have aS:=hid (λW (hB:Below w.heap.size w W)=>hTab.go hB);have Z:=hid hTb;obtain⟨m,hm⟩:∃m,m=s.size:=⟨_,rfl⟩;have HM:=hid hm;have aY:m<=900000:=by omega
 clear hTab hTb hm hs;go_enter Tryz.func13,Tryz.ntmps13;go_wp2;go_step3;go_wp2_with (go_at_call 18;refine(bxnew_any w).mono ?_;rintro e w1 ⟨rfl,aI⟩;have au:=hid aI;clear aI);go_wp2;have aJ:=BoxIn.made (S:=λ_=>False) (B:=w.heap.size) (aa _) (λk hk=>hk.elim) au.out;have aU:=hid (show RecAt (w.heap.size+1) s w w1 Bx.new s from⟨λb2 r2 h=>h,BxOk.new,rfl,by show 0+s.size<=s.size;omega,λg hg=>(by cases hg),by rw[au.out];exact((ag _ _).alloc (aa _) _).alloc (by simp) _,boxN w,λ_=>False,aJ,λk hk=>hk.elim⟩);clear aJ au;go_step3;go_wp2;go_loopg [5] m (λgr u wr=>∃(b:Bx) (k:Nat) (r:ByteArray),u= .int .i64 k∧k+gr=m∧Hid (r.size=gr)∧Hid (s.extract k s.size=r)∧Hid (RecAt (w.heap.size+1) s w wr b r))
 case atStart=>exact⟨Bx.new,0,s,rfl,by omega,hid HM.out.symm,hid (by simp),aU⟩
 case round=>
  obtain⟨b,k,r,rfl,a1,aK,ab,a⟩:=hrel;have a0:k<=m:=by omega
  have i1:(0:Int)<=(k:Int):=by omega
  have i2:(k:Int)<=(m:Int):=by omega
  have i3:(k:Int)<=(s.size:Int):=by rw[<-HM.out];exact i2
  have aV:r.size<=s.size:=by have:=a.out.len;omega
  have aM:k=s.size-r.size:=by have:=HM.out;have:=aK.out;omega
  have av:=hid aM;have aN:s.size<=900000:=by have:=HM.out;omega
  have R:=hid aN;have T:=hid (next_any A cap Crc.tab tabIs r (by omega) wr (aS.out wr a.out.low));clear aV aM aN;cases G:fZ Crc.tab r with
  |err c=>
   rw[G] at T;have c0:((c:Int) != 0)=true:=by rw[eM];have:=next_errne G;omega
   have H:=hid (a.out.rcv b r (.stop1 G));clear G;go_wp2_with (go_at_call 43;rw[ab.out];refine T.out.mono ?_;rintro e w2 ⟨rfl,i⟩;have j:=hid (a.out.below i);clear i);have ak:=hid (H.out);obtain⟨X9,S9,f,I⟩:=j.out.box;have J:b.done.length<=1000000:=by have h8:=j.out.len;have h7:=R.out;omega
   have K:=hid (bxdone_any f J);rw[<-f.dlen] at K;have L:=hid (λw' A c N hB=>rec_fin (w':=w') (A:=A) (c:=c) f I j.out.txt ak.out j.out.low N hB);rw[<-av.out] at L;clear f I J;go_wp2_with (go_at_call 21;refine K.out.mono ?_;rintro e w9 ⟨A9,c9,rfl,y,ac⟩)
   try rw[eW]
   go_ret3;exact L.out _ _ _ y ac
  | ok x r2=>
   rw[G] at T;have aO:=next_bytes G;have aP:x.size<=900000∧r2.size<r.size:=by
    have h9:=congrArg ByteArray.size aO.1;rw[aZ,kF,aZ] at h9;have:=a.out.len;have:=R.out;exact⟨by omega,by omega⟩
   have aw:=hid aP;have ap:=hid G;have ad:=hid (λW hT=>decode_any x W (by omega) hT);clear aO aP G;cases U:decZ x.data.toList with
   | none=>
    rw[U] at ad;have H:=hid (a.out.rcv b r (.stop2 ap.out U));clear U
    go_wp2_with (first
     |(go_at_call 43;rw[ab.out];refine T.out.mono ?_;rintro e w2 ⟨rfl,i⟩;have j:=hid (a.out.below i);clear i)
     |(go_at_call 44;refine(ad.out w2 (Z.out.below j.out.low)).mono ?_;rintro e z ⟨M,rfl⟩;have aW:=hid (j.out.below M);clear M)
     |(refine bM rfl _ _ _ rfl _ _ _ _ rfl ?_ rfl ?_ ?_ ?_ ?_;(focus(simp;done));kernel_rfl;rfl;rfl))
    have aq:=hid (aW.out.below ((ag z.heap.size z).alloc (aa _) (.cells #[(0:Int),(0:Int),(0:Int),.slice none 0 0,(0:Int),(0:Int),.slice none 0 0] 45)));generalize hW:z.alloc (.cells #[(0:Int),(0:Int),(0:Int),.slice none 0 0,(0:Int),(0:Int),.slice none 0 0] 45)=W at *;clear hW;have ak:=hid (H.out);obtain⟨X9,S9,f,I⟩:=aq.out.box;have J:b.done.length<=1000000:=by have h8:=aq.out.len;have h7:=R.out;omega
    have K:=hid (bxdone_any f J);rw[<-f.dlen] at K;have L:=hid (λw' A c N hB=>rec_fin (w':=w') (A:=A) (c:=c) f I aq.out.txt ak.out aq.out.low N hB);rw[<-av.out] at L;clear f I J;go_wp2_with (go_at_call 21;refine K.out.mono ?_;rintro e w9 ⟨A9,c9,rfl,y,ac⟩)
    try rw[eW]
    go_ret3;exact L.out _ _ _ y ac
   | some g=>
    rw[U] at ad;obtain⟨g,hg⟩:∃q,q=g:=⟨_,rfl⟩;subst hg;have aQ:=hid U;clear U;obtain⟨⟨t,l⟩,n,u,⟨p,v⟩,d⟩:=g;have HB:=hid (λ(x:GrX) (w1:World)=>a.out.hear (w1:=w1) R.out (⟨⟨t,l⟩,n,u,⟨p,v⟩,d⟩,x));dsimp only at HB;obtain⟨hn,ax⟩:∃q,q=(bS b ⟨⟨t,l⟩,n,u,⟨p,v⟩,d⟩).2.1:=⟨_,rfl⟩;obtain⟨he,aR⟩:∃q,q=(bS b ⟨⟨t,l⟩,n,u,⟨p,v⟩,d⟩).2.2:=⟨_,rfl⟩;have ar:=hid ax;rw[<-ax,<-aR] at HB;clear ax aR;by_cases an:hn=1
    ·subst an;have aT:=hid (hear_one a.out.wt ar.out.symm);have H:=hid (λb2 r3 h=>a.out.rcv b2 r3 (.go ap.out aQ.out ar.out.symm h));have j1:IntKind.i64.wrap ((s.size:Int)-(r2.size:Int))=((s.size-r2.size:Nat):Int):=by have:=aw.out;have:=a.out.len;have:=R.out;rw[bz];omega
     go_upto_region 8 with(first
      |(go_at_call 43;rw[ab.out];refine T.out.mono ?_;rintro e w2 ⟨rfl,i⟩;have j:=hid (a.out.below i);have ae:=hid i;clear i)
      |(go_at_call 44;refine(ad.out w2 (Z.out.below j.out.low)).mono ?_;rintro e z ⟨M,C,D,E,F,ay,af,ah⟩;obtain rfl:e= .returned (.tuple #[.agg #[t,l,n,.slice C u.length D,p,v,.slice E d.length F],(0:Int)]):=ay;have ai:=bT ae M;have az:=hid (af.sub λq _ hq=>aL ae.out.size hq);have aA:=hid ah;clear M af ah)
      |(refine bM rfl _ _ _ rfl _ _ _ _ rfl ?_ rfl ?_ ?_ ?_ ?_;(focus(simp;done));kernel_rfl;rfl;rfl))
     have O:=ai.out.alloc ai.out.size (.cells #[t,l,n,.slice C u.length D,p,v,.slice E d.length F] 45);have aB:=hid (am z (.cells #[t,l,n,.slice C u.length D,p,v,.slice E d.length F] 45));have aC:=hid (az.out.agr (Agr.below ((ag z.heap.size z).alloc (aa _) (.cells #[t,l,n,.slice C u.length D,p,v,.slice E d.length F] 45))));generalize hW:z.alloc (.cells #[t,l,n,.slice C u.length D,p,v,.slice E d.length F] 45)=W at *;clear hW;have aD:=hid O;have ao:=hid (Z.out.below (a.out.low.trans (O.mono a.out.low.size)));have aE:=hid (HB.out ⟨C,D,E,F⟩ W aD.out aC.out (λo ho=>(aA.out o ho).1) ao.out);clear O
     go_wp2_with (first
      |(refine lA aB aH ?_)
      |(go_at_call 20;refine aE.out.mono ?_;rintro e w5 ⟨rfl,aj,V,P,Q⟩;have aF:=hid aj;have aG:=hid V;have X:=hid P;have Y:=hid Q;clear aj V P Q))
     go_roundg r2.size
     case measure=>have:=aw.out;have:=aK.out;omega
     case rel=>
      have hd:=aT.out.2.2.2;have hx:=aw.out;have hr:=a.out.len;rw[hd] at aG X Y H;refine⟨b.put ⟨⟨t,l⟩,n,u,⟨p,v⟩,d⟩,s.size-r2.size,r2,by go_num,by have:=HM.out;omega,hid rfl,hid ?_,hid ⟨H.out,aG.out,a.out.wt,?_,X.out,aF.out,Y.out⟩⟩
      ·exact rest_next ab.out ap.out
      ·show(b.done++[_]).length+r2.size<=s.size;rw[al,dy];omega
    ·have H:=hid (a.out.rcv (bS b ⟨⟨t,l⟩,n,u,⟨p,v⟩,d⟩).1 r (.stop3 ap.out aQ.out (by rw[<-ar.out];exact an)));have j1:((hn:Int) != 1)=true:=by rw[eM];omega
     have aX:=hid (hear_done a.out.wt (by rw[<-ar.out];exact an))
     go_upto_region 8 with(first
      |(go_at_call 43;rw[ab.out];refine T.out.mono ?_;rintro e w2 ⟨rfl,i⟩;have j:=hid (a.out.below i);have ae:=hid i;clear i)
      |(go_at_call 44;refine(ad.out w2 (Z.out.below j.out.low)).mono ?_;rintro e z ⟨M,C,D,E,F,ay,af,ah⟩;obtain rfl:e= .returned (.tuple #[.agg #[t,l,n,.slice C u.length D,p,v,.slice E d.length F],(0:Int)]):=ay;have ai:=bT ae M;have az:=hid (af.sub λq _ hq=>aL ae.out.size hq);have aA:=hid ah;clear M af ah)
      |(refine bM rfl _ _ _ rfl _ _ _ _ rfl ?_ rfl ?_ ?_ ?_ ?_;(focus(simp;done));kernel_rfl;rfl;rfl))
     have O:=ai.out.alloc ai.out.size (.cells #[t,l,n,.slice C u.length D,p,v,.slice E d.length F] 45);have aB:=hid (am z (.cells #[t,l,n,.slice C u.length D,p,v,.slice E d.length F] 45));have aC:=hid (az.out.agr (Agr.below ((ag z.heap.size z).alloc (aa _) (.cells #[t,l,n,.slice C u.length D,p,v,.slice E d.length F] 45))));generalize hW:z.alloc (.cells #[t,l,n,.slice C u.length D,p,v,.slice E d.length F] 45)=W at *;clear hW;have aD:=hid O;have ao:=hid (Z.out.below (a.out.low.trans (O.mono a.out.low.size)));have aE:=hid (HB.out ⟨C,D,E,F⟩ W aD.out aC.out (λo ho=>(aA.out o ho).1) ao.out);clear O
     go_upto_region 11 with(first
      |(refine lA aB aH ?_)
      |(go_at_call 20;refine aE.out.mono ?_;rintro e w5 ⟨rfl,aj,V,P,Q⟩;have aF:=hid aj;have X:=hid P;have Y:=hid Q;clear aj V P Q))
     obtain⟨X9,S9,f,I⟩:=Y.out;have J:(bS b ⟨⟨t,l⟩,n,u,⟨p,v⟩,d⟩).1.done.length<=1000000:=by rw[aX.out];have h8:=a.out.len;have h7:=R.out;omega
     have K:=hid (bxdone_any f J);rw[<-f.dlen] at K;have L:=hid (λw' A c N hB=>rec_fin (w':=w') (A:=A) (c:=c) f I X.out H.out aF.out N hB);rw[<-av.out] at L;clear f I J;go_wp2_with (go_at_call 21;refine K.out.mono ?_;rintro e w9 ⟨A9,c9,rfl,y,ac⟩)
     try rw[eW]
     go_ret3;exact L.out _ _ _ y ac
end
section
set_option maxRecDepth 100000
theorem chk_first:chkB firstG=true:=by decide +kernel
end
section
open Go.RowKit Go.Lib Go.Sort
attribute [local go_sem ↓] Go.wp_at_zero Go.wp_at_succ
theorem sameall_any (L L2:List (Grp×GrX)) (A A2:Option Addr) (c c2:Nat) (S S2:Nat->Prop) (w:World) (hl:L.length<=1000000) (hR:RowGr w A L) (hG:∀p∈L,GrG w S p) (hR2:RowGr w A2 L2) (hG2:∀p∈L2,GrG w S2 p) (he:L.map Prod.fst=L2.map Prod.fst):
  Calls Tryz.prog 15 #[.slice A L.length c,.slice A2 L2.length c2] w λe w'=>e= .returned (.bool true)∧Below w.heap.size w w':=by
 have C:L2.length=L.length:=by have:=congrArg List.length he;simpa using this.symm
 rw[C];have M:=hid C;have HE:=hid (show ∀k,(L.getD k gp0).1=(L2.getD k gp0).1 from λk=>by rw[getD_fst',getD_fst',he]);have HR:=hid hR;have HG:=hid hG;have V:=hid hR2;have X:=hid hG2;clear hR hG hR2 hG2 he C;go_enter Tryz.func15,Tryz.ntmps15;go_upto_region 4 with fail;go_loopw [5] (λi wr=>∃k:Nat,i= .int .i64 k∧k<=L.length∧Hid (Below w.heap.size w wr)) (λi _=>L.length-(RowKit.intOf i).toNat)
 case atStart=>exact⟨0,rfl,aq _,hid (ag _ _)⟩
 case round=>
  obtain⟨k,rfl,hk,j⟩:=hrel;by_cases o:k<L.length
  ·have i0:(0:Int)<=(k:Int):=by omega
   have i1:(k:Int)<(L.length:Int):=by omega
   obtain⟨q,s,rfl,ac,f⟩:=RowGr.range (RowGr.below HR.out j.out) o;obtain⟨g,h,rfl,ab,b⟩:=RowGr.range (RowGr.below V.out j.out) (k:=k) (by rw[M.out];exact o);have N:GrG wr S (L.getD k gp0):=(HG.out _ (by rw[ae,an o];exact bU o)).agr (Agr.below j.out);have O:GrG wr S2 (L2.getD k gp0):=(X.out _ (by rw[ae,an (by rw[M.out];exact o)];exact bU _)).agr (Agr.below j.out);have P:=HE.out k;generalize L.getD k gp0=p at *;generalize L2.getD k gp0=p2 at *;obtain⟨⟨⟨t,r⟩,n,u,⟨z,B⟩,l⟩,⟨Q,R,T,U⟩⟩:=p;obtain⟨⟨⟨H,I⟩,J,K,⟨x,y⟩,m⟩,⟨D,E,F,G⟩⟩:=p2
   have Y:=hid (λW (Z:Below wr.heap.size wr W)=>show Calls Tryz.prog 46 #[.agg #[t,r,n,.slice Q u.length R,z,B,.slice T l.length U],.agg #[H,I,J,.slice D K.length E,x,y,.slice F m.length G]] W λe w'=>e= .returned (.bool true)∧Below W.heap.size W w' from by
    have h9:=sameg_any _ _ Q D T F R E U G S S2 W (GrIn.agr N (Agr.below Z)) (GrIn.agr O (Agr.below Z));have h8:sameG ⟨⟨t,r⟩,n,u,⟨z,B⟩,l⟩ ⟨⟨H,I⟩,J,K,⟨x,y⟩,m⟩=true:=by
     rw[show(⟨⟨H,I⟩,J,K,⟨x,y⟩,m⟩:Grp)=⟨⟨t,r⟩,n,u,⟨z,B⟩,l⟩ from P.symm];exact sameG_iff.2 rfl
    rw[show(Grp.mk ⟨t,r⟩ n u ⟨z,B⟩ l)=⟨⟨t,r⟩,n,u,⟨z,B⟩,l⟩ from rfl,h8] at h9
    exact h9)
   have y0:=aj (w:=wr) (a:=⟨q,s+k*7,none⟩) (v:= .int .i64 t) (f 0 _ rfl);have y1:=aj (w:=wr) (a:=⟨q,s+k*7+1,none⟩) (v:= .int .i64 r) (f 1 _ rfl);have y2:=aj (w:=wr) (a:=⟨q,s+k*7+2,none⟩) (v:= .int .i64 n) (f 2 _ rfl);have y3:=aj (w:=wr) (a:=⟨q,s+k*7+3,none⟩) (v:= .slice Q u.length R) (f 3 _ rfl);have y4:=aj (w:=wr) (a:=⟨q,s+k*7+4,none⟩) (v:= .int .i64 z) (f 4 _ rfl);have y5:=aj (w:=wr) (a:=⟨q,s+k*7+5,none⟩) (v:= .int .i64 B) (f 5 _ rfl);have y6:=aj (w:=wr) (a:=⟨q,s+k*7+6,none⟩) (v:= .slice T l.length U) (f 6 _ rfl);have z0:=aj (w:=wr) (a:=⟨g,h+k*7,none⟩) (v:= .int .i64 H) (b 0 _ rfl);have z1:=aj (w:=wr) (a:=⟨g,h+k*7+1,none⟩) (v:= .int .i64 I) (b 1 _ rfl);have z2:=aj (w:=wr) (a:=⟨g,h+k*7+2,none⟩) (v:= .int .i64 J) (b 2 _ rfl);have z3:=aj (w:=wr) (a:=⟨g,h+k*7+3,none⟩) (v:= .slice D K.length E) (b 3 _ rfl);have z4:=aj (w:=wr) (a:=⟨g,h+k*7+4,none⟩) (v:= .int .i64 x) (b 4 _ rfl);have z5:=aj (w:=wr) (a:=⟨g,h+k*7+5,none⟩) (v:= .int .i64 y) (b 5 _ rfl);have z6:=aj (w:=wr) (a:=⟨g,h+k*7+6,none⟩) (v:= .slice F m.length G) (b 6 _ rfl);have cA:=λd os=>ay (Y.out (grow (redrawn wr d) os) (bE wr d os));clear f b N O P;go_upto_region 6 with fail;refine rqb ?_
   repeat(any_goals(first|go_big_quiet_step (with_reducible exact cA _ _)|quiet_step (with_reducible exact cA _ _)))
   refine qz λwq aa=> ?_;go_wp2;go_roundw
   case rel=>exact⟨k+1,by go_num,by omega,bT j aa⟩
   case measure=>(simp[RowKit.intOf];omega)
  ·obtain rfl:k=L.length:=by omega
   have i1:¬(L.length:Int)<(L.length:Int):=by omega
   go_wp2;go_ret;exact⟨rfl,j.out⟩
theorem hear_first:bS Bx.new firstG=(Bx.new.put firstG,1,0):=by
 unfold bS;rw[aC (by rw[chk_first];decide),aC (by decide +kernel),aJ (by decide +kernel)];rfl
theorem fit_first:fitG firstG:=⟨by decide,λx hx=>(by cases hx),λo ho=>by
 have:o=firstO:=by simpa[firstG] using ho
 subst this
 exact⟨by unfold okB;decide,by unfold okB;decide,by decide,by decide⟩⟩
theorem text_first:∀o∈firstG.ops,o.text.size<=1000000:=λo ho=>by
 have:o=firstO:=by simpa[firstG] using ho
 subst this;decide
theorem dec_first:decZ (grpS firstG).data.toList=some firstG:=dec_enc fit_first chk_first
theorem len_first:(grpZ firstG).length=17:=by decide +kernel
theorem rec_first:recB firstG=fO Crc.tab (grpS firstG):=aJ ⟨chk_first,by rw[len_first];decide⟩
theorem size_first:(recB firstG).size=22:=by
 rw[rec_first,kF,aZ];have:(grpS firstG).size=17:=by unfold grpS;rw[mkS,len_first]
 rw[this];have a:(putS 17).size=1:=by decide +kernel
 rw[a]
theorem next_short (t:Nat->Nat) (x R r:ByteArray) (hx:x.size<=1048576) (h:fO t x=R++r) (hr:r.size≠0):fZ t R= .err 10:=by
 have d:=congrArg (λb:ByteArray=>b.data.toList) h;simp only[frame_data,eX] at d;have f:=congrArg List.length d;simp only[al,fR] at f;rw[sum_size] at f;by_cases g:R.data.toList.length<(uvarint x.size).length
 ·have e:R.data.toList=(uvarint x.size).take R.data.toList.length:=by
   have a:=congrArg (List.take R.data.toList.length) d;rw[List.take_left,aG,fe (by omega)] at a;exact a.symm
  have c:=Vr.take_cut x.size (by omega) _ g;rw[<-e] at c;exact next_err c
 ·obtain⟨q,i⟩:∃q,q=R.data.toList.drop (uvarint x.size).length:=⟨_,rfl⟩;have e:R.data.toList=uvarint x.size++q:=by
   have a:=congrArg (List.take (uvarint x.size).length) d;rw[aG,List.take_left,fe (by omega)] at a;rw[i]
   conv=>lhs;rw[<-dx (uvarint x.size).length R.data.toList]
   rw[<-a]
  have c:=Vr.take_put x.size (by omega) q;rw[<-e] at c;have j:=congrArg List.length e;rw[al,fR] at j;have k:=next_go (t:=t) (R:=⟨q.toArray⟩) c;rw[k];refine next_10 (by omega) ?_;rw[mkS];omega
theorem rec_twice {b2:Bx} {r2:ByteArray} (h:Rec Crc.tab Bx.new (recB firstG++(recB firstG).extract 0 3) b2 r2):b2.done=[firstG]∧r2.size=3:=by
 have a:(grpS firstG).size<=1048576:=by unfold grpS;rw[mkS,len_first];decide
 have b:fZ Crc.tab (recB firstG++(recB firstG).extract 0 3)= .ok (grpS firstG) ((recB firstG).extract 0 3):=by
  rw[rec_first];exact next_frame _ _ _ a
 have c:fZ Crc.tab ((recB firstG).extract 0 3)= .err 10:=by
  refine next_short Crc.tab (grpS firstG) ((recB firstG).extract 0 3) ((recB firstG).extract 3 (recB firstG).size) a ?_ ?_
  ·rw[<-rec_first];refine ir ?_;rw[eX,bs_pre,bs_suf,dx]
  ·rw[cI,size_first];decide
 have d:Rec Crc.tab Bx.new (recB firstG++(recB firstG).extract 0 3) (bS Bx.new firstG).1 ((recB firstG).extract 0 3):= .go b dec_first (by rw[hear_first]) (.stop1 c);obtain⟨rfl,rfl⟩:=h.det d;refine⟨by rw[hear_first];rfl,?_⟩;rw[cI,size_first];decide
theorem row_one {w:World} {g:Nat} {p:Grp×GrX} (h:w.heap[g]? =some (.cells (grL p.1 p.2).toArray 45 (0,0))):RowGr w (some ⟨g,0,none⟩) [p]:=λk hk=>by
 obtain rfl:k=0:=by have:k<1:=hk;omega
 refine⟨g,0,rfl,trivial,lt_of_block h,λj hj=> ?_⟩
 rw[show 0+0*7+j=j by omega,aD _ _ _ _ _ _ h]
 have hj:j<(grL p.1 p.2).length:=hj
 show(grL p.1 p.2).toArray[j]? =some ((grL p.1 p.2).getD j undef)
 rw[List.getElem?_toArray,ae,an hj]
 rfl
theorem tab25 {w w':World} {v:Value} (hO:w'.ownsRow w.heap.size 78 1 v 256 (tabL 256)):∃A cap,v= .slice A 256 cap∧TabOf false 256 A w':=by
 obtain⟨A,cap,a,-,b⟩:=own_tab hO;exact⟨A,cap,a,rfl,b⟩
theorem awake25_any (w:World) (hTb:Tabs w):
  Calls Tryz.prog 10 #[] w λe w'=>e= .returned (.bool true)∧Below w.heap.size w w':=by
 have m:=hid hTb;clear hTb;obtain⟨R,g⟩:∃R,R=recB firstG:=⟨_,rfl⟩;have b:R.size=22:=by rw[g,size_first]
 have K:=hid (show recV false firstG=(R,0) by rw[g,rec_first];unfold recV;rw[chk_first,aC (by decide),len_first,aC (by decide),aC (by decide)]);have n:=hid (λb2 r2 (h:Rec Crc.tab Bx.new (R++R.extract 0 3) b2 r2)=>rec_twice (by rw[<-g];exact h));have q:(R.extract 0 3).size=3:=by rw[cI,b];decide
 have r:(R++R.extract 0 3).size=25:=by rw[aZ,q,b]
 have M:=hid r;have ah:=hid b;clear g r q;go_enter Tryz.func10,Tryz.ntmps10
 go_upto_region 3 with(first
  |(go_at_call 14;refine(jb _).mono ?_;rintro e w1 ⟨v,rfl,N,s⟩;obtain⟨O,P,rfl,Q⟩:=tab25 N;have S:=hid Q;have T:=hid s;clear N Q s)
  |(go_at_call 42;refine(firstg_any w1).mono ?_;rintro e w2 ⟨fa,rfl,t,c⟩;have U:=hid t;have u:=hid (S.out.below c);have x:=bT T c;clear t c)
  |(go_at_call 41;refine(record_any (w:=w2) false O 256 P u.out firstG none 0 (some ⟨fa,0,none⟩) 1 _ U.out (λo ho=>by have:=text_first o ho;omega) (λ_=>text_first) (m.out.below x.out)).mono ?_;rw[K.out];rintro e V ⟨rfl,d⟩;have W:=hid (u.out.below d);have y:=bT x d;clear d))
 go_upto_region 5 with fail;go_upto_region 6 with(go_at_call 13;refine(recover_any O P (R++R.extract 0 3) V (by rw[M.out];decide) W.out.2 (m.out.below y.out)).mono ?_;rintro e X ⟨b4,r4,L,A4,c4,f,z,rfl,A,B,Y,C⟩;have D:=bT y C;have Z:=(n.out _ _ f).2;have E:=hid (n.out _ _ f).1;have F:=hid z;have ab:=hid (RowGr.own A);have ac:=hid B;clear f z A B Y C);have G:=hid (show L.map Prod.fst=[firstG] by rw[F.out,E.out]);have ad:=hid (show L.length<=1000000 by have i:=congrArg List.length G.out;rw[aQ] at i;rw[i];decide);clear F E Z
 go_wp2_with (first
  |(go_at_call 42;refine(firstg_any X).mono ?_;rintro e j ⟨fb,rfl,H,I⟩;have ae:=hid H;have a:=hid I;clear H I)
  |(go_at_call 15;refine(sameall_any L [(firstG,⟨none,0,some ⟨fb,0,none⟩,1⟩)] A4 (some ⟨j.heap.size,0,none⟩) c4 1 (λk=>V.heap.size<=k) (λk=>X.heap.size<=k) _ ad.out ((ab.out.below a.out).below ((ag _ _).alloc (aa _) _)) (λp l=>((ac.out p l).agr (Agr.below a.out)).agr (Agr.below ((ag _ _).alloc (aa _) _))) (row_one (am j _)) (λp l=>by rw[aO] at l;rw[l];exact GrIn.agr ae.out (Agr.below ((ag _ _).alloc (aa _) _))) G.out).mono ?_;rintro e w6 ⟨rfl,J⟩;have af:=hid J;clear J))
 go_ret;have i:=D.out.size;have h8:=a.out.size;exact⟨rfl,(D.out.trans (a.out.mono i)).trans ((((ag j.heap.size j).alloc (aa _) _).mono (by omega)).trans (af.out.mono (by simp;omega)))⟩
end
section
open Go.Lib
theorem opZ_hh {o:Gop} (h:okO o) (s1:o.dots.length<=16) (s2:o.elems.length<=3) (s3:o.text.size<=2) (s4:o.name.size<=1):(opZ o).length<=500:=by
 obtain⟨a,q,c,name,d,dots,p,r,text,elems⟩:=o;obtain⟨s,t,y,e,f,g,i,j,k,m,n⟩:=h;simp only at s t e f g i j k m n s1 s2 s3 s4;have A:(natZ a).length<=10:=cZ (by omega);have B:=d6 e;have C:=d6 f;have D:=eD g;have E:=d6 j;have F:=d6 k;have G:=eD m;have H:=gM (z:=stZ) (l:=dots) λx b=>stZ_le (i.2 x b);have I:=gM (z:=idZ) (l:=elems) λx b=>d6 (n.2 x b);have u:(natZ dots.length).length<=10:=cZ (by omega);have v:(natZ elems.length).length<=10:=cZ (by omega);have w:(natZ (if d then 1 else 0)).length<=10:=cZ (by split<;>omega);unfold opZ;simp only;split
 ·simp only[al];omega
 ·split
  ·simp only[al];omega
  ·split
   ·simp only[al];omega
   ·split
    ·simp only[al];omega
    ·simp only[al];omega
theorem grpZ_hh {g:Grp} (hf:fitG g) (h:chkB g=true) (h1:g.ops.length<=1) (hs:∀o∈g.ops,o.dots.length<=16∧o.elems.length<=3∧o.text.size<=2∧o.name.size<=1):(grpZ g).length<=1000:=by
 obtain⟨h1,c,d,b,e⟩:=chk_ok hf h;obtain⟨i,j,k⟩:=chk_sho h;have m:=cZ h1.1.2;have n:=cZ h1.2.2;have p:=cZ c.2;have q:=cZ b.1.2;have r:=cZ b.2.2;have s:(natZ g.ops.length).length<=10:=cZ (by omega);have t:(natZ g.deps.length).length<=10:=cZ (by omega);have u:=gM (z:=natZ) (l:=g.deps) λx f=>cZ (d.2 x f).2;have v:=gM (z:=opZ) (l:=g.ops) λo a=>opZ_hh (e.2 o a) (hs o a).1 (hs o a).2.1 (hs o a).2.2.1 (hs o a).2.2.2;unfold grpZ jZ;simp only[al];omega
end
section
open Go.RowKit Go.Lib
structure JOk (D:List Grp):Prop where
 his:HisG D
 len:D.length<=30
 fit:∀g∈D,fitG g
 siz:∀g∈D,(grpZ g).length<=1000
theorem JOk.recd {D:List Grp} (h:JOk D) {g:Grp} (hg:g∈D):recB g=fO Crc.tab (grpS g):=aJ ⟨h.his.chk g hg,by have:=h.siz g hg;omega⟩
theorem JOk.bytes {D:List Grp} (h:JOk D) {g:Grp} (hg:g∈D):(grpS g).size<=1048576:=by unfold grpS;rw[mkS];have:=h.siz g hg;omega
theorem JOk.recSize {D:List Grp} (h:JOk D) {g:Grp} (hg:g∈D):(recB g).size<=1100∧0<(recB g).size:=by
 rw[h.recd hg,kF,aZ];have a:(grpS g).size<=1000:=by unfold grpS;rw[mkS];exact h.siz g hg
 have b:(putS (grpS g).size).size<=10:=by unfold putS;rw[mkS];exact uvarint_length64 (by omega)
 omega
theorem JOk.catLe {D:List Grp} (h:JOk D):∀(l:List Grp),(∀g∈l,g∈D)->(catR l).size<=1100*l.length
 | [],_=>by show(⟨#[]⟩:ByteArray).size<=_;exact aq _
 |g::l,hl=>by
  have h1:=JOk.catLe h l λx hx=>hl x (by simp[hx])
  have h2:=(h.recSize (hl g (by simp))).1
  rw[jl,aZ,bG];omega
theorem JOk.size {D:List Grp} (h:JOk D):(catR D).size<=33000:=by
 have b:=h.catLe D λ_ a=>a;have c:=h.len;omega
theorem JOk.run {D:List Grp} (h:JOk D) {r:ByteArray} {c:Nat} (hr:fZ Crc.tab r= .err c):∀(mid pre post:List Grp),D=pre++(mid++post)->Rec Crc.tab (gQ Bx.new pre) (catR mid++r) (gQ Bx.new (pre++mid)) r
 | [],pre,post,e=>by rw[fV,catR_nil];exact .stop1 hr
 | g::mid,pre,post,e=>by
  have hg:g∈D:=by rw[e];simp
  have hl:D.length<=99:=by have:=h.len;omega
  have e2:D=(pre++[g])++(mid++post):=by rw[e];simp
  obtain⟨i1,i2,i3⟩:=hears_order h.his hl pre.length pre ((g::mid)++post) rfl e
  have hnd:g∉ pre:=λhm=>by
   have:=nodup_of h.his.nd
   rw[e,dK] at this
   exact this.2.2 g hm g (by simp) rfl
  have h1:=(i1.hear h.his hl hg).once i3 (ready_pre h.his (show D=pre++g::(mid++post) from e) i1.toBxG (λx hx=>by rw[i2];exact hx)) (by rw[i2];exact hnd)
  have k:=JOk.run h hr mid (pre++[g]) post e2
  rw[hearsB_snoc] at k
  rw[show pre++g::mid=(pre++[g])++mid by simp]
  rw[jl,ByteArray.append_assoc]
  refine .go (x:=grpS g) (r':=catR mid++r) (g:=g) ?_ ?_ (by rw[h1]) k
  ·rw[h.recd hg];exact next_frame _ _ _ (h.bytes hg)
  ·exact dec_enc (h.fit g hg) (h.his.chk g hg)
theorem catR_end (l:List Grp):catR l++⟨#[]⟩=catR l:=ir (by rw[eX];simp)
theorem JOk.all {D:List Grp} (h:JOk D) {b:Bx} {r:ByteArray} (hR:Rec Crc.tab Bx.new (catR D) b r):b.done=D∧r.size=0:=by
 have a:=h.run (next_nil (t:=Crc.tab) (s:=⟨#[]⟩) rfl) D [] [] (by simp);rw[catR_end] at a;obtain⟨rfl,rfl⟩:=hR.det a;obtain⟨-,c,-⟩:=hears_order h.his (by have:=h.len;omega) D.length D [] rfl (by simp);exact⟨c,rfl⟩
def gD (D:List Grp) (k:Nat):Nat->Nat
 |0=>0
 |i+1=>if (catR (D.take (i+1))).size<=k then i+1 else gD D k i
def jT (D:List Grp) (k:Nat):Nat->Nat
 |0=>0
 |i+1=>if (catR (D.take (i+1))).size<=k then (catR (D.take (i+1))).size else jT D k i
theorem whole_spec (D:List Grp) (k:Nat):∀n,gD D k n<=n∧jT D k n=(catR (D.take (gD D k n))).size∧jT D k n<=k∧∀j,gD D k n<j->j<=n->k<(catR (D.take j)).size
 |0=>⟨aa _,rfl,aq _,λj h1 h2=>by unfold gD at h1;omega⟩
 | n+1=>by
  unfold gD jT
  by_cases h:(catR (D.take (n+1))).size<=k
  ·rw[aJ h,aJ h]
   exact⟨aa _,rfl,h,λj h1 h2=>by omega⟩
  ·rw[aC h,aC h]
   obtain⟨h1,h2,h3,h4⟩:=whole_spec D k n
   refine⟨by omega,h2,h3,λj h5 h6=> ?_⟩
   by_cases h7:j=n+1
   ·rw[h7];omega
   ·exact h4 j h5 (by omega)
theorem JOk.cut {D:List Grp} (h:JOk D) {k:Nat} (hk:k<=(catR D).size) {b:Bx} {r:ByteArray} (hR:Rec Crc.tab Bx.new ((catR D).extract 0 k) b r):b.done=D.take (gD D k D.length)∧((catR D).extract 0 k).size-r.size=jT D k D.length:=by
 obtain⟨x,f,y,m⟩:=whole_spec D k D.length;generalize z:gD D k D.length=W at *;generalize A:jT D k D.length=q at *;have a:D=D.take W++D.drop W:=(dx W D).symm;have i:catR D=catR (D.take W)++catR (D.drop W):=by rw[<-catR_app,<-a]
 have n:=congrArg ByteArray.size i;rw[aZ] at n;have j:(catR D).extract 0 k=catR (D.take W)++(catR (D.drop W)).extract 0 (k-q):=by
  refine ir ?_;rw[bs_pre,eX,bs_pre,i,eX,List.take_append,fR,<-f,di (by rw[fR];omega)]
 have d:∃c,fZ Crc.tab ((catR (D.drop W)).extract 0 (k-q))= .err c:=by
  cases e:D.drop W with
  |nil=>exact⟨_,next_nil (by rw[cI];show min _ (⟨#[]⟩:ByteArray).size-0=0;rw[show(⟨#[]⟩:ByteArray).size=0 from rfl];omega)⟩
  | cons g t=>
   have l:g∈D:=by rw[a,e];simp
   have w:W<D.length:=by
    have:=congrArg List.length e;rw[bI,bG] at this;omega
   have o:D.take (W+1)=D.take W++[g]:=by
    conv=>lhs;rw[a,e]
    rw[List.take_append,aP];rw[di (by rw[aP];omega),show W+1-min W D.length=1 by omega];rfl
   have p:=m (W+1) (by omega) (by omega);rw[o,catR_snoc,aZ,<-f] at p;have s:(catR (g::t)).extract 0 (k-q)=(recB g).extract 0 (k-q):=by
    refine ir ?_;rw[bs_pre,bs_pre,jl,eX,fe (by rw[fR];omega)]
   rw[s];refine⟨_,next_short Crc.tab (grpS g) ((recB g).extract 0 (k-q)) ((recB g).extract (k-q) (recB g).size) (h.bytes l) ?_ ?_⟩
   ·rw[<-h.recd l];refine ir ?_;rw[eX,bs_pre,bs_suf,dx]
   ·rw[cI];omega
 obtain⟨c,d⟩:=d;have u:=h.run d (D.take W) [] (D.drop W) (by simp);rw[j] at hR;obtain⟨rfl,rfl⟩:=hR.det u;obtain⟨-,v,-⟩:=hears_order h.his (by have:=h.len;omega) (D.take W).length (D.take W) (D.drop W) rfl a;refine⟨v,?_⟩;rw[j,aZ];omega
end
section
open Go.RowKit Go.Lib Go.Sort
attribute [local go_sem ↓] Go.wp_at_zero Go.wp_at_succ
def DelQ (W:World) (e:Ending) (w':World):Prop:=∃(N:List (Grp×GrX)) (A':Option Addr) (c':Nat),e= .returned (.slice A' N.length c')∧N.length<=c'∧JOk (N.map Prod.fst)∧RowGr w' A' N∧(∀p∈N,GrG w' (λ_=>True) p)∧(∀p∈N,∀o∈p.1.ops,o.text.size<=1000000)∧Below W.heap.size W w'
theorem jok_of {n:Nat} {L:List (Grp×GrX)} {kn:List (List Int)} {V:List Int} {w:World} {S:Nat->Prop} (h:HOk n L kn V) (hn:n<=30) (hG:∀p∈L,GrG w S p) {b:Bx} (hb:BxG (L.map Prod.fst) b):JOk b.done:=by
 have d:∀g∈b.done,∃p∈L,p.1=g:=λg c=>bj.1 (hb.sub g (au.2 (.inl c)));refine⟨hb.his,?_,λg c=> ?_,λg c=> ?_⟩
 ·have e:=hb.len;have f:=h.len;rw[aQ] at e;omega
 ·obtain⟨p,a,rfl⟩:=d g c;exact fit_of (hG p a)
 ·obtain⟨p,a,rfl⟩:=d g c;exact grpZ_hh (fit_of (hG p a)) (h.chk p a) (h.one p a) (h.sml p a)
theorem delivered_any (D:List Doo) (dA:Option Addr) (dc:Nat) (P:List Int) (pA:Option Addr) (pc:Nat) (S0 S1:Nat->Prop) (W:World) (hD:∀x∈D,doOk x) (hdl:D.length<=9223372036854775807) (hR:RowF W S0 dA 6 doC do0 D) (hP:RowF W S1 pA 1 u8L 0 P) (hpb:∀q∈P,0<=q∧q<=255) (hpl:P.length<=9223372036854775807):
  Calls Tryz.prog 11 #[.slice dA D.length dc,.slice pA P.length pc] W λe w'=>DelQ W e w':=by
 have i:Below W.heap.size W (W.alloc (.cells #[.slice none 0 0,.slice none 0 0] 65)):=(ag _ _).alloc (aa _) _;have E:=am W (.cells #[.slice none 0 0,.slice none 0 0] 65);have F:(W.alloc (.cells #[.slice none 0 0,.slice none 0 0] 65)).heap.size=W.heap.size+1:=by simp
 go_enter Tryz.func11,Tryz.ntmps11;go_upto_region 2 with fail;generalize W.alloc (.cells #[.slice none 0 0,.slice none 0 0] 65)=w0 at *;have H:=hid (history_any D dA dc S0 w0 hD hdl (hR.below i));have I:=hid (λv (h:Below w0.heap.size w0 v) (L:List (Grp×GrX)) A gc (hl:L.length<=100000) (hr:RowGr v A L)=>mixed_any L A gc P pA pc S1 v hl hpl hr ((hP.below i).below h) hpb);have J:=hid i;have K:=hid E;have ay:=hid F;clear i E F hR hP hpb hD
 go_upto_region 4 with(first
  |(go_at_call 19;refine(I.out v O.out L A gc (by have:=d.out.len;omega) Q.out).mono ?_;rintro e w2 ⟨mA,mc,rfl,c,w⟩;have y:=hid (RowGr.own c);have R:=bT O w;have S:=hid (λp (a:p∈mixed L P)=>(z.out p (mixed_mem a)).agr (Agr.below w));clear c w)
  |(go_at_call 17;refine H.out.mono ?_;rintro e v ⟨L,kn,V,A,gc,rfl,T,c,U,Y⟩;have d:=hid T;have Q:=hid (RowGr.own c);have z:=hid U;have O:=hid Y;clear T c U Y))
 have l:=(R.out.block _ (lt_of_block K.out)).trans K.out;obtain⟨M,s⟩:∃X,X=mixed L P:=⟨_,rfl⟩;obtain⟨G,u⟩:∃X,X=L.map Prod.fst:=⟨_,rfl⟩;have ai:=hid (show HisG G by rw[u];exact d.out.his);have ah:G.length<=99:=by rw[u,aQ];have:=d.out.len;omega
 have aj:=hid (show ∀p∈M,p.1∈G from λp a=>by rw[s] at a;rw[u];exact bj.2 ⟨p,mixed_mem a,rfl⟩);have az:M.length<=30:=by rw[s];exact mixed_len L P
 have Z:=hid (show ∀g∈G,∀o∈g.ops,o.text.size<=1000000 from λg hg o ho=>by
  rw[u] at hg;obtain⟨p,a,rfl⟩:=bj.1 hg
  have:=(d.out.sml p a o ho).2.2.1;omega)
 have ak:=hid (show ∀p∈M,GrG w2 (λk=>k≠W.heap.size) p from λp a=>by
  rw[s] at a
  exact((S.out p a).off (noInt_box l)).sub λk hk h=>h.2)
 have HJ:=hid (λb (C:BxH G b)=>show JOk b.done from jok_of d.out (by omega) z.out (by rw[<-u];exact C.toBxG));have ab:=hid (RbAt.new (B:=W.heap.size) (gs:=G) l (aa _) Z.out);have al:=hid ((J.out.trans (R.out.mono J.out.size)));rw[<-s] at y;have an:=hid (show RowG w2 (λk=>k≠W.heap.size) mA M.length 7 (λk j=>(grL (M.getD k gp0).1 (M.getD k gp0).2).getD j undef) from(RowG.off y.out (noInt_box l) (by omega) (λk=>⟨_,rfl⟩)).sub λk hk h=>h.2);rw[show(mixed L P).length=M.length by rw[s]];clear l H I S z d Q s u y;go_loopg [7] M.length (λg0 ix wr=>∃k:Nat,k+g0=M.length∧ix= .int .i64 k∧Hid (RbAt W.heap.size W.heap.size G w2 (gQ Bx.new ((M.map Prod.fst).take k)) wr))
 case atStart=>exact⟨0,bN _,rfl,ab⟩
 case round=>
  clear ab;obtain⟨k,hk,rfl,f⟩:=hrel;by_cases m:k<M.length
  ·have i1:(0:Int)<=(k:Int):=by omega
   have i2:(k:Int)<(M.length:Int):=by omega
   obtain⟨rb,ro,e9,-,ac⟩:=RowGr.range (RowG.sub (RowG.agr an.out f.out.agr) λ_ _ _=>trivial) m;cases e9;have ao:=hid (f.out.hear ai.out ah (M.getD k gp0) (aj.out _ (bL m gp0)) (ak.out _ (bL m gp0)));have ap:=hid (show gQ Bx.new ((M.map Prod.fst).take (k+1))=(bS (gQ Bx.new ((M.map Prod.fst).take k)) (M.getD k gp0).1).1 by rw[hears_next _ (by rw[aQ];exact m),mapg_getD]);generalize M.getD k gp0=p at *;obtain⟨⟨⟨t,r⟩,n,dv,⟨ut,ur⟩,aq⟩,⟨dA,dc,oA,oc⟩⟩:=p;have ar:=hid (show wr.rangeAt rb (ro+k*7) [t,r,n,.slice dA dv.length dc,ut,ur,.slice oA aq.length oc] from ac);clear ac
   go_wp2_with (first
    |(refine lM ar aH ?_)
    |(go_at_call 34;refine ao.out.mono ?_;rintro e w5 ⟨rfl,ad⟩;have av:=hid ad;clear ad))
   go_roundg (M.length-(k+1))
   case measure=>omega
   case rel=>exact⟨k+1,by omega,by go_num,hid (by rw[ap.out];exact av.out)⟩
  ·obtain rfl:k=M.length:=by omega
   have i2:¬(M.length:Int)<(M.length:Int):=by omega
   obtain⟨b,C⟩:∃X,X=gQ Bx.new ((M.map Prod.fst).take M.length):=⟨_,rfl⟩;rw[<-C] at f;obtain⟨N,nA,nc,hc,hN,ae,af,aw,ax⟩:=f.out.done;have HQ:=hid (show DelQ W (.returned (.slice nA N.length nc)) wr from⟨N,nA,nc,rfl,aw,by rw[hN];exact HJ.out b f.out.his,ae,λp a=>(af p a).sub λ_ _ _=>trivial,λp a o ho=>Z.out p.1 (f.out.his.sub _ (au.2 (.inl (by rw[<-hN];exact bj.2 ⟨p,a,rfl⟩)))) o ho,al.out.trans f.out.low⟩);clear hN ae af C;go_wp2;go_ret;exact HQ.out
end
section
open Go.ChangeShapes Go.WideShapes Go.RowKit Go.Lib Go.Deep
section
variable {H : Type} {enc : TypeId × Value → H} {w : World} {spare : Nat → Bool} {held : Bool} {fuel : Nat} {cs : List Value} {x : DataW H × List MemPlace}
theorem kj:Tryz.prog.cellsOf 5=1:=by kernel_rfl
theorem cells_do:Tryz.prog.cellsOf 86=6:=by kernel_rfl
theorem wf_u8 {n:Int} (h:(Lit.int .u8 n).wf=true):0<=n∧n<=255:=by
 simpa[Lit.wf,IntKind.min,IntKind.max,IntKind.bits,IntKind.signed] using h
instance:Inhabited Doo:=⟨do0⟩
theorem opn_do (h:DataW.trod enc Tryz.prog w 0 spare held fuel 86 cs=some x):∃d:Doo,cs=doC d∧doOk d:=by
 obtain⟨l,n,_,_,b,c,a⟩:=DataW.trod_struct Tryz.underlying86 h;rw[cells_do] at b
 match cs,b,l,c with
 | [c0,c1,c2,c3,c4,c5],_,[y0,y1,y2,y3,y4,y5],_=>
  obtain⟨e,m,_,w0⟩:=DataW.trod_int dS (fld (a 0 _ rfl) kj rfl rfl);obtain⟨f,o,_,p⟩:=DataW.trod_int dS (fld (a 1 _ rfl) kj rfl rfl);obtain⟨g,q,_,r⟩:=DataW.trod_int dS (fld (a 2 _ rfl) kj rfl rfl);obtain⟨i,s,_,t⟩:=DataW.trod_int dS (fld (a 3 _ rfl) kj rfl rfl);obtain⟨j,u,_,v⟩:=DataW.trod_int dS (fld (a 4 _ rfl) kj rfl rfl);obtain⟨k,y,_⟩:=DataW.trod_bool Tryz.underlying4 (fld (a 5 _ rfl) cells_bool rfl rfl);have z:=wf_u8 w0;have A:=wf_u8 p;have B:=wf_u8 r;have C:=wf_u8 t;have D:=wf_u8 v;cases m;cases o;cases q;cases s;cases u;cases y;refine⟨⟨e.toNat,f.toNat,g.toNat,i.toNat,j.toNat,k⟩,?_,?_⟩
  ·show _=[Value.int .u8 (e.toNat:Int),.int .u8 (f.toNat:Int),.int .u8 (g.toNat:Int),.int .u8 (i.toNat:Int),.int .u8 (j.toNat:Int),.bool k];rw[iW z.1,iW A.1,iW B.1,iW C.1,iW D.1]
  ·refine⟨?_,?_,?_,?_,?_⟩<;>(simp only[];omega)
theorem opn_dos (h:DataW.trod enc Tryz.prog w 0 spare held fuel 22 cs=some x):∃(A:Option Addr) (D:List Doo) (c:Nat),cs=[.slice A D.length c]∧D.length<=c∧c<=maxLen∧RowF w (Here w) A 6 doC do0 D∧∀d∈D,doOk d:=by
 obtain⟨A,e,c,f,g,a,l,m,o⟩:=opn_rows (α:=Doo) (s:=6) (by decide) Tryz.underlying22 cells_do (λp j=>(doC p).getD j undef) (λp _=>doOk p) (λn t d p h=>by
  obtain⟨v,rfl,a⟩:=opn_do h;refine⟨v,λj i=> ?_,a⟩;have:j<(doC v).length:=i;rw[an this,ae,an this]
  rfl) h
 refine⟨A,(List.range e).map f,c,by rw[jf];exact g,by rw[jf];exact a,l,?_,λy q=> ?_⟩
 ·unfold RowF;rw[jf];exact RowG.congr m λk j b i=>by rw[range_getD f do0 b]
 ·obtain⟨k,b,rfl⟩:=bj.1 q;obtain⟨d,r,_⟩:=o k (gF.1 b);exact r
theorem opn_u8s (h:DataW.trod enc Tryz.prog w 0 spare held fuel 23 cs=some x):∃(A:Option Addr) (P:List Int) (c:Nat),cs=[.slice A P.length c]∧P.length<=c∧c<=maxLen∧RowF w (Here w) A 1 u8L 0 P∧∀q∈P,0<=q∧q<=255:=by
 obtain⟨A,b,c,f,e,g,i,l,m⟩:=opn_rows (α:=Int) (s:=1) (by decide) dD kj (λv j=>(u8L v).getD j undef) (λv _=>0<=v∧v<=255) (λn z d p h=>by
  obtain⟨v,rfl,_,o⟩:=DataW.trod_int dS h
  exact⟨v,λj r=>by obtain rfl:j=0:=(by omega);rfl,wf_u8 o⟩) h
 refine⟨A,(List.range b).map f,c,by rw[jf];exact e,by rw[jf];exact g,i,?_,λy t=> ?_⟩
 ·unfold RowF;rw[jf];exact RowG.congr l λk j a r=>by rw[range_getD f 0 a]
 ·obtain⟨k,a,rfl⟩:=bj.1 t;obtain⟨d,u,_⟩:=m k (gF.1 a);exact u
end
end
end Go.Proofs.YtkhmicndehlneaaGreatDoor
