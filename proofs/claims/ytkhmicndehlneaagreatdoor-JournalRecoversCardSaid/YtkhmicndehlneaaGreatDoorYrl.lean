/- Part 12 of the walks and plain laws that this claim uses, joined. Conditions: as each theorem states. -/
import Derived.Test.YtkhmicndehlneaaGreatDoorYrk
namespace Go.Proofs.YtkhmicndehlneaaGreatDoor
set_option maxRecDepth 100000
set_option maxHeartbeats 16000000
set_option linter.unusedVariables false
section
open Go.RowKit Go.Lib Go.Sort
attribute [local go_sem ↓] Go.wp_at_zero Go.wp_at_succ
def boxN (w:World):BoxX:=⟨.slice none 0 0,.slice none 0 0,none,0,w.heap.size,[],[]⟩
theorem BoxIn.made {w w':World} {S:Nat->Prop} {B:Nat} (d:B<=w.heap.size) (a:∀k,S k->k<w.heap.size)
  (f:w'=(w.alloc (.map #[] 0)).alloc (.cells #[.slice none 0 0,.slice none 0 0,.map (some w.heap.size),.slice none 0 0] 89)):
  BoxIn B (w.heap.size+1) S [] [] [] [] (boxN w) w':=by
 subst f;have b:(w.alloc (.map #[] 0)).heap.size=w.heap.size+1:=by simp
 refine⟨?_,aH _ _ _ _,aH _ _ _ _,rfl,rfl,?_,RowG.zero,aa _,aq _,aq _,(λp i=>by cases i),by omega,d,(by show w.heap.size+1≠w.heap.size;omega),(λe=>by cases e),(λe=>by cases e),(λe=>by cases e),(λe=>by cases e),(λg e=>by cases e),λk c=>⟨?_,?_⟩⟩
 ·have:=an (w.alloc (.map #[] 0)) (.cells #[.slice none 0 0,.slice none 0 0,.map (some w.heap.size),.slice none 0 0] 89);rw[b] at this;exact this
 ·exact(World.ownsMap_made w Tryz.prog 42 unitElem).kept (aQ _ _ none) (by simp)
 ·have:=a k c;simp;omega
 ·have:=a k c;rintro(h|h|h|h)
  ·omega
  ·have h:k=w.heap.size:=h;omega
  ·cases h
  ·cases h
theorem bxnew_any (w:World):Calls Tryz.prog 18 #[] w λe w'=>e= .returned (.pointer (some ⟨w.heap.size+1,0,none⟩))∧w'=(w.alloc (.map #[] 0)).alloc (.cells #[.slice none 0 0,.slice none 0 0,.map (some w.heap.size),.slice none 0 0] 89):=by
 have a:(w.alloc (.map #[] 0)).heap.size=w.heap.size+1:=by simp
 have c:=hid a;clear a;have b:=@run_makeMap Tryz.prog;go_enter Tryz.func18,Tryz.ntmps18;go_wp2;go_ret;exact⟨rfl,rfl⟩
theorem clonegr_any (A:Option Addr) (n c:Nat) (d:List Value) (w:World) (h:d.length=n*7) (i:A=none->n=0) (l:∀ad,A=some ad->∀j u,d[j]? =some u->w.cell? (ad.add j)=some u) (m:∀u∈d,u.oneCell'=true) (C:n<=1000000):
  Calls Tryz.prog 53 #[.slice A n c] w λe w'=>∃A' c',e= .returned (.slice A' n c')∧w'.ownsRow w.heap.size 45 7 (.slice A' n c') n d∧Below w.heap.size w w':=by
 obtain⟨s,t,p,q,r⟩:=bx ib;have D:∀(w:World) (a:Option Addr) (n c o c':Nat),(binOp .eql 25 (.slice a n c) (.slice none o c')).run Tryz.prog w= .ok (.bool a.isNone) w:=λw a n c o c'=>Lib.run_eql_slice_nil w _ _ a n c o c' ci;cases A with
 |none=>
  obtain rfl:=i rfl;obtain rfl:d=[]:=cx.1 (by omega);clear i l m h;go_enter Tryz.func53,Tryz.ntmps53;go_wp2;go_ret;exact⟨_,_,rfl,aH _ _ _ _,ag _ _⟩
 |some ad=>
  have v:=hid (l ad rfl);have x:=hid m;have y:=hid h;clear i l m h;have E:∀w,Sem.run Tryz.prog (underlying 25) w= .ok (TypeDesc.slice 45) w:=run_underlying ci;go_enter Tryz.func53,Tryz.ntmps53;go_wp2_with (at_builtin;refine bv _ rfl _ _ 25 rfl w.heap.size 45 s (.agg #[(0:Int),(0:Int),(0:Int),.slice none 0 0,(0:Int),(0:Int),.slice none 0 0]) 7 88 ci t p q r rfl (by decide) _ _ _ rfl (World.ownsRow_made w #[] 0 (aa _) (aq _) rfl) ad n c d rfl y.o (λj u z=>Lib.cell?_alloc_some _ (v.o j u z)) x.o (by unfold maxLen;omega) (by omega) (by simp) ?_;intro F G b f B);go_ret;obtain⟨A',c',rfl⟩:=bU b;rw[cj] at b ⊢;exact⟨_,_,rfl,by simpa using b,((ag _ w).alloc (aa _) _).grown f (by simp) (by intro k g;have g:some w.heap.size=some k:=g;injection g with g;omega)⟩
theorem row_at {w:World} {B E s n:Nat} {A:Option Addr} {c:Nat} {b:List Value} (h:w.ownsRow B E s (.slice A n c) n b):(A=none->n=0)∧∀ad,A=some ad->∀j u,b[j]? =some u->w.cell? (ad.add j)=some u:=by
 rcases h.2 with⟨e,rfl⟩|⟨g,cap,cur,e,-,hg,-,-,-,htk⟩
 ·cases e;exact⟨λ_=>rfl,(λad e=>by cases e)⟩
 ·cases e;refine⟨(λe=>by cases e),λad e j u a=> ?_⟩;cases e;rw[Addr.add_mid,cj,aG _ _ _ _ _ _ hg,<-ee];rw[<-htk,dx] at a;split at a
  ·exact a
  ·cases a
theorem row_cap {w:World} {B E s n c:Nat} {A:Option Addr} {a:List Value} (h:w.ownsRow B E s (.slice A n c) n a):n<=c:=by
 rcases h.2 with⟨e,rfl⟩|⟨g,cap,cur,e,-,-,h3,-⟩
 ·exact aq _
 ·cases e;exact h3
theorem bxdone_any {B P:Nat} {S:Nat->Prop} {b m n:List Grp} {v:List Int} {X:BoxX} {w:World} (h:BoxIn B P S b m n v X w) (o:b.length<=1000000):
  Calls Tryz.prog 21 #[.pointer (some ⟨P,0,none⟩)] w λe w'=>∃A c,e= .returned (.slice A b.length c)∧w'.ownsRow w.heap.size 45 7 (.slice A X.L.length c) X.L.length (X.L.flatMap grC_)∧Below w.heap.size w w':=by
 obtain⟨i,j,d⟩:=bU h.done;have f:=h.done;rw[d] at f;have a:=row_at f;have k:X.L.length=b.length:=h.dlen;have l:=hid (clonegr_any i X.L.length j (X.L.flatMap grC_) w (kL _) a.1 a.2 (λu p=>by obtain⟨x,-,a⟩:=dS.1 p;exact iU x u a) (by omega));have r:w.cell? ⟨P,0,none⟩=some (.slice i X.L.length j):=by rw[h.cell,<-d];rfl
 rw[<-k];clear h f a d o k;go_enter Tryz.func21,Tryz.ntmps21;go_wp2_with (go_at_call 53;refine l.o.mono ?_;rintro e s ⟨t,y,rfl,g,q⟩);go_ret;exact⟨_,_,rfl,g,q⟩
end
section
theorem drainF_mem:∀(f:Nat) (b:Bx),∀x∈(cy f b).1.done++(cy f b).1.wait,x∈b.done++b.wait
 |0,b,x,h=>h
 | f+1,b,x,h=>by
  cases hb:fy b.v b.wait b.wait.length with
  |none=>rw[gX hb] at h;exact h
  | some k=>
   have hk:=(ii hb).1
   cases ho:oldB b.v (b.wait.getD k gz) with
   |true=>
    rw[gO hb ho] at h
    have:=drainF_mem f _ x h
    rcases aD.1 this with h1|h1
    ·exact aD.2 (.inl h1)
    ·exact aD.2 (.inr (gm h1))
   |false=>
    rw[gN hb ho] at h
    have:=drainF_mem f _ x h
    simp only[Bx.put,aD,ba] at this
    rcases this with(h1|rfl)|h1
    ·exact aD.2 (.inl h1)
    ·exact aD.2 (.inr (gC hk))
    ·exact aD.2 (.inr (gm h1))
theorem hearB_mem (b:Bx) (g:Grp):∀x∈(du b g).1.done++(du b g).1.wait,x∈b.done++b.wait∨x=g:=by
 intro x;unfold du;split
 ·exact .inl
 ·split
  ·exact .inl
  ·split
   ·intro h;have:=drainF_mem _ _ x h;simp only[Bx.put,aD,ba] at this;rcases this with(a|a)|a
    ·exact .inl (aD.2 (.inl a))
    ·exact .inr a
    ·exact .inl (aD.2 (.inr a))
   ·split
    ·exact .inl
    ·intro h;simp only[aD,ba] at h;rcases h with a|a|a
     ·exact .inl (aD.2 (.inl a))
     ·exact .inl (aD.2 (.inr a))
     ·exact .inr a
end
section
open Go.RowKit Go.Lib Go.Sort
attribute [local go_sem ↓] Go.wp_at_zero Go.wp_at_succ
def shortG (g:Grp):Prop:=∀o∈g.ops,o.text.size<=1000000
structure RecAt (P:Nat) (s:ByteArray) (w wr:World) (b:Bx) (r:ByteArray):Prop where
 rcv:∀b2 r2,Rec Crc.tab b r b2 r2->Rec Crc.tab Bx.new s b2 r2
 ok:BxOk b
 wt:b.wait=[]
 len:b.done.length+r.size<=s.size
 txt:∀g∈b.done++b.wait,shortG g
 low:Below w.heap.size w wr
 box:∃X S,BoxIn w.heap.size P S b.done b.done b.wait b.v X wr∧∀k,S k->w.heap.size<=k
def RecQ (s:ByteArray) (w:World) (e:Ending) (w':World):Prop:=∃(b2:Bx) (r2:ByteArray) (L:List (Grp×GrX)) (A':Option Addr) (c':Nat),Rec Crc.tab Bx.new s b2 r2∧L.map Prod.fst=b2.done∧e= .returned (.tuple #[.slice A' L.length c',((s.size-r2.size:Nat):Int),(0:Int)])∧w'.ownsRow w.heap.size 45 7 (.slice A' L.length c') L.length (L.flatMap grC_)∧(∀p∈L,GrG w' (λk=>w.heap.size<=k) p)∧(∀p∈L,shortG p.1)∧Below w.heap.size w w'
theorem RecAt.below {P:Nat} {s r:ByteArray} {w wr w':World} {b:Bx} (h:RecAt P s w wr b r) (a:Below wr.heap.size wr w'):RecAt P s w w' b r:=by
 obtain⟨X,S,c,d⟩:=h.box;exact⟨h.rcv,h.ok,h.wt,h.len,h.txt,h.low.trans (a.mono h.low.size),X,S,c.below a,d⟩
theorem RecAt.hear {P:Nat} {s r:ByteArray} {w wr w1:World} {b:Bx} (h:RecAt P s w wr b r) (F:s.size<=900000) (p:Grp×GrX) (j:Below wr.heap.size wr w1) (x:GrG w1 (λk=>wr.heap.size<=k) p) (m:shortG p.1) (n:Tabs w1):
  Calls Tryz.prog 20 #[.pointer (some ⟨P,0,none⟩),.agg (grA p.1 p.2.dA p.2.dc p.2.oA p.2.oc)] w1 λe w'=>e= .returned (.tuple #[.int .i64 ((du b p.1).2.1:Nat),.int .i64 (du b p.1).2.2])∧Below w.heap.size w w'∧BxOk (du b p.1).1∧(∀g∈(du b p.1).1.done++(du b p.1).1.wait,shortG g)∧∃X S,BoxIn w.heap.size P S (du b p.1).1.done (du b p.1).1.done (du b p.1).1.wait (du b p.1).1.v X w'∧∀k,S k->w.heap.size<=k:=by
 have q:=h.below j;obtain⟨X,S,d,y⟩:=h.box;have z:=d.below j;have E:=h.low.size;have A:=h.len;have f:BoxIn w.heap.size P (λk=>S k∨(wr.heap.size<=k∧k<w1.heap.size)) b.done b.done b.wait b.v X w1:=z.sup (λk a=> .inl a) (λk a=>a.imp id (λh=>⟨h.2,λl=>by have:=(d.own_lt l).2;omega⟩));have t:GrG w1 (λk=>S k∨(wr.heap.size<=k∧k<w1.heap.size)) p:=x.sub λk a h=> .inr ⟨h,a⟩;refine(bxhear_any f h.ok p.1 p.2 t (λo l=>by have:=m o l;omega) n (by rw[h.wt];exact aq _) (by rw[h.wt];simp;omega)).mono ?_;rintro e w' ⟨rfl,B,C,u,i⟩;refine⟨rfl,q.low.trans (i.gr.below q.low.size λk a=>(f.own_lt a).1),hearB_ok h.ok _,λg D=> ?_,B,C,u,λk a=> ?_⟩
 ·rcases hearB_mem b p.1 g D with c|rfl
  ·exact h.txt g c
  ·exact m
 ·rcases i.new k a with(c|c)|c
  ·exact y k c
  ·omega
  ·have:=j.size;omega
theorem rec_fin {s e:ByteArray} {w wx w':World} {a:Bx} {P:Nat} {X:BoxX} {S:Nat->Prop} {A:Option Addr} {c:Nat} (f:BoxIn w.heap.size P S a.done a.done a.wait a.v X wx) (j:∀k,S k->w.heap.size<=k) (l:∀g∈a.done++a.wait,shortG g) (m:Rec Crc.tab Bx.new s a e) (b:Below w.heap.size w wx)
  (d:w'.ownsRow wx.heap.size 45 7 (.slice A X.L.length c) X.L.length (X.L.flatMap grC_)) (i:Below wx.heap.size wx w'):RecQ s w (.returned (.tuple #[.slice A X.L.length c,((s.size-e.size:Nat):Int),(0:Int)])) w':=by
 refine⟨a,e,X.L,A,c,m,f.dl,rfl,?_,λp h=> ?_,λp h=> ?_,b.trans (i.mono b.size)⟩
 ·have o:=b.size;rcases d.2 with⟨e1,e2⟩|⟨g,cap,cur,e1,e2,e3⟩
  ·exact⟨d.1,.inl ⟨e1,e2⟩⟩
  ·exact⟨d.1,.inr ⟨g,cap,cur,e1,by omega,e3⟩⟩
 ·exact((f.good p (aD.2 (.inl h))).agr (Agr.below i)).sub λk _ n=>j k n
 ·exact l p.1 (aD.2 (.inl (by rw[<-f.dl];exact bN.2 ⟨p,h,rfl⟩)))
theorem rest_next {s r x a:ByteArray} {k:Nat} (h:s.extract k s.size=r) (c:fE Crc.tab r= .ok x a):s.extract (s.size-a.size) s.size=a:=by
 have d:=(kK c).1;apply iX;rw[bs_suf];have b:r.data.toList=s.data.toList.drop k:=by rw[<-h,bs_suf]
 rw[d,fG] at b;have e:=congrArg List.length b;rw[al,cb,gl,gl,gl] at e;have f:4<=(fN Crc.tab x).size:=by rw[iv];omega
 rw[show s.size-a.size=k+(fN Crc.tab x).data.toList.length by rw[gl];omega,<-List.drop_drop,<-b,List.drop_left]
theorem recover_bad (A:Option Addr) (m a:Nat) (b:m≠256) (s:ByteArray) (w:World):
  Calls Tryz.prog 13 #[.slice A m a,s] w λe w'=>e= .returned (.tuple #[.slice none 0 0,(0:Int),(1:Int)])∧w=w':=by
 have c:((m:Int) != 256)=true:=by rw[cM];omega
 go_enter Tryz.func13,Tryz.ntmps13;go_wp2;go_step3;go_wp2
 try rw[dV]
 go_ret3;exact⟨rfl,rfl⟩
theorem recover_any (A:Option Addr) (aI:Nat) (s:ByteArray) (w:World) (hs:s.size<=900000) (au:TabRow w A Crc.tab) (aK:Tabs w):
  Calls Tryz.prog 13 #[.slice A 256 aI,s] w λe w'=>RecQ s w e w':=by
 have aV:=hid (λW (hB:Below w.heap.size w W)=>au.go hB);have Z:=hid aK;obtain⟨m,hm⟩:∃m,m=s.size:=⟨_,rfl⟩;have HM:=hid hm;have a2:m<=900000:=by omega
 clear au aK hm hs;go_enter Tryz.func13,Tryz.ntmps13;go_wp2;go_step3;go_wp2_with (go_at_call 18;refine(bxnew_any w).mono ?_;rintro e w1 ⟨rfl,aL⟩;have av:=hid aL;clear aL);go_wp2;have aM:=BoxIn.made (S:=λ_=>False) (B:=w.heap.size) (aa _) (λk hk=>hk.elim) av.o;have aY:=hid (show RecAt (w.heap.size+1) s w w1 Bx.new s from⟨λb2 r2 h=>h,BxOk.new,rfl,by show 0+s.size<=s.size;omega,λg hg=>(by cases hg),by rw[av.o];exact((ag _ _).alloc (aa _) _).alloc (by simp) _,boxN w,λ_=>False,aM,λk hk=>hk.elim⟩);clear aM av;go_step3;go_wp2;go_loopg [5] m (λgr u wr=>∃(b:Bx) (k:Nat) (r:ByteArray),u= .int .i64 k∧k+gr=m∧Hid (r.size=gr)∧Hid (s.extract k s.size=r)∧Hid (RecAt (w.heap.size+1) s w wr b r))
 case atStart=>exact⟨Bx.new,0,s,rfl,by omega,hid HM.o.symm,hid (by simp),aY⟩
 case round=>
  obtain⟨b,k,r,rfl,a4,aN,ab,a⟩:=hrel;have a3:k<=m:=by omega
  have i1:(0:Int)<=(k:Int):=by omega
  have i2:(k:Int)<=(m:Int):=by omega
  have i3:(k:Int)<=(s.size:Int):=by rw[<-HM.o];exact i2
  have aZ:r.size<=s.size:=by have:=a.o.len;omega
  have aO:k=s.size-r.size:=by have:=HM.o;have:=aN.o;omega
  have aw:=hid aO;have aQ:s.size<=900000:=by have:=HM.o;omega
  have R:=hid aQ;have T:=hid (next_any A aI Crc.tab tabIs r (by omega) wr (aV.o wr a.o.low));clear aZ aO aQ;cases G:fE Crc.tab r with
  |err c=>
   rw[G] at T;have c0:((c:Int) != 0)=true:=by rw[cM];have:=next_errne G;omega
   have H:=hid (a.o.rcv b r (.stop1 G));clear G;go_wp2_with (go_at_call 43;rw[ab.o];refine T.o.mono ?_;rintro e w2 ⟨rfl,i⟩;have j:=hid (a.o.below i);clear i);have ak:=hid (H.o);obtain⟨X9,S9,f,I⟩:=j.o.box;have J:b.done.length<=1000000:=by have h8:=j.o.len;have h7:=R.o;omega
   have K:=hid (bxdone_any f J);rw[<-f.dlen] at K;have L:=hid (λw' A c N hB=>rec_fin (w':=w') (A:=A) (c:=c) f I j.o.txt ak.o j.o.low N hB);rw[<-aw.o] at L;clear f I J;go_wp2_with (go_at_call 21;refine K.o.mono ?_;rintro e w9 ⟨A9,c9,rfl,y,ac⟩)
   try rw[dV]
   go_ret3;exact L.o _ _ _ y ac
  | ok x r2=>
   rw[G] at T;have aR:=kK G;have aS:x.size<=900000∧r2.size<r.size:=by
    have h9:=congrArg ByteArray.size aR.1;rw[aX,iv,aX] at h9;have:=a.o.len;have:=R.o;exact⟨by omega,by omega⟩
   have ax:=hid aS;have ap:=hid G;have ad:=hid (λW hT=>decode_any x W (by omega) hT);clear aR aS G;cases U:decZ x.data.toList with
   | none=>
    rw[U] at ad;have H:=hid (a.o.rcv b r (.stop2 ap.o U));clear U
    go_wp2_with (first
     |(go_at_call 43;rw[ab.o];refine T.o.mono ?_;rintro e w2 ⟨rfl,i⟩;have j:=hid (a.o.below i);clear i)
     |(go_at_call 44;refine(ad.o w2 (Z.o.below j.o.low)).mono ?_;rintro e z ⟨M,rfl⟩;have a0:=hid (j.o.below M);clear M)
     |(refine bR rfl _ _ _ rfl _ _ _ _ rfl ?_ rfl ?_ ?_ ?_ ?_;(focus(simp;done));kernel_rfl;rfl;rfl))
    have aq:=hid (a0.o.below ((ag z.heap.size z).alloc (aa _) (.cells #[(0:Int),(0:Int),(0:Int),.slice none 0 0,(0:Int),(0:Int),.slice none 0 0] 45)));generalize hW:z.alloc (.cells #[(0:Int),(0:Int),(0:Int),.slice none 0 0,(0:Int),(0:Int),.slice none 0 0] 45)=W at *;clear hW;have ak:=hid (H.o);obtain⟨X9,S9,f,I⟩:=aq.o.box;have J:b.done.length<=1000000:=by have h8:=aq.o.len;have h7:=R.o;omega
    have K:=hid (bxdone_any f J);rw[<-f.dlen] at K;have L:=hid (λw' A c N hB=>rec_fin (w':=w') (A:=A) (c:=c) f I aq.o.txt ak.o aq.o.low N hB);rw[<-aw.o] at L;clear f I J;go_wp2_with (go_at_call 21;refine K.o.mono ?_;rintro e w9 ⟨A9,c9,rfl,y,ac⟩)
    try rw[dV]
    go_ret3;exact L.o _ _ _ y ac
   | some g=>
    rw[U] at ad;obtain⟨g,hg⟩:∃q,q=g:=⟨_,rfl⟩;subst hg;have aT:=hid U;clear U;obtain⟨⟨t,l⟩,n,u,⟨p,v⟩,d⟩:=g;have HB:=hid (λ(x:GrX) (w1:World)=>a.o.hear (w1:=w1) R.o (⟨⟨t,l⟩,n,u,⟨p,v⟩,d⟩,x));dsimp only at HB;obtain⟨hn,ay⟩:∃q,q=(du b ⟨⟨t,l⟩,n,u,⟨p,v⟩,d⟩).2.1:=⟨_,rfl⟩;obtain⟨he,aU⟩:∃q,q=(du b ⟨⟨t,l⟩,n,u,⟨p,v⟩,d⟩).2.2:=⟨_,rfl⟩;have ar:=hid ay;rw[<-ay,<-aU] at HB;clear ay aU;by_cases am:hn=1
    ·subst am;have aW:=hid (hear_one a.o.wt ar.o.symm);have H:=hid (λb2 r3 h=>a.o.rcv b2 r3 (.go ap.o aT.o ar.o.symm h));have j1:IntKind.i64.wrap ((s.size:Int)-(r2.size:Int))=((s.size-r2.size:Nat):Int):=by have:=ax.o;have:=a.o.len;have:=R.o;rw[bH];omega
     go_upto_region 8 with(first
      |(go_at_call 43;rw[ab.o];refine T.o.mono ?_;rintro e w2 ⟨rfl,i⟩;have j:=hid (a.o.below i);have ae:=hid i;clear i)
      |(go_at_call 44;refine(ad.o w2 (Z.o.below j.o.low)).mono ?_;rintro e z ⟨M,C,D,E,F,az,af,ah⟩;obtain rfl:e= .returned (.tuple #[.agg #[t,l,n,.slice C u.length D,p,v,.slice E d.length F],(0:Int)]):=az;have ai:=bT ae M;have aA:=hid (af.sub λq _ hq=>aP ae.o.size hq);have aB:=hid ah;clear M af ah)
      |(refine bR rfl _ _ _ rfl _ _ _ _ rfl ?_ rfl ?_ ?_ ?_ ?_;(focus(simp;done));kernel_rfl;rfl;rfl))
     have O:=ai.o.alloc ai.o.size (.cells #[t,l,n,.slice C u.length D,p,v,.slice E d.length F] 45);have aC:=hid (an z (.cells #[t,l,n,.slice C u.length D,p,v,.slice E d.length F] 45));have aD:=hid (aA.o.agr (Agr.below ((ag z.heap.size z).alloc (aa _) (.cells #[t,l,n,.slice C u.length D,p,v,.slice E d.length F] 45))));generalize hW:z.alloc (.cells #[t,l,n,.slice C u.length D,p,v,.slice E d.length F] 45)=W at *;clear hW;have aE:=hid O;have ao:=hid (Z.o.below (a.o.low.trans (O.mono a.o.low.size)));have aF:=hid (HB.o ⟨C,D,E,F⟩ W aE.o aD.o (λo ho=>(aB.o o ho).1) ao.o);clear O
     go_wp2_with (first
      |(refine lA aC aJ ?_)
      |(go_at_call 20;refine aF.o.mono ?_;rintro e w5 ⟨rfl,aj,V,P,Q⟩;have aG:=hid aj;have aH:=hid V;have X:=hid P;have Y:=hid Q;clear aj V P Q))
     go_roundg r2.size
     case measure=>have:=ax.o;have:=aN.o;omega
     case rel=>
      have hd:=aW.o.2.2.2;have hx:=ax.o;have hr:=a.o.len;rw[hd] at aH X Y H;refine⟨b.put ⟨⟨t,l⟩,n,u,⟨p,v⟩,d⟩,s.size-r2.size,r2,by go_num,by have:=HM.o;omega,hid rfl,hid ?_,hid ⟨H.o,aH.o,a.o.wt,?_,X.o,aG.o,Y.o⟩⟩
      ·exact rest_next ab.o ap.o
      ·show(b.done++[_]).length+r2.size<=s.size;rw[al,dC];omega
    ·have H:=hid (a.o.rcv (du b ⟨⟨t,l⟩,n,u,⟨p,v⟩,d⟩).1 r (.stop3 ap.o aT.o (by rw[<-ar.o];exact am)));have j1:((hn:Int) != 1)=true:=by rw[cM];omega
     have a1:=hid (hear_done a.o.wt (by rw[<-ar.o];exact am))
     go_upto_region 8 with(first
      |(go_at_call 43;rw[ab.o];refine T.o.mono ?_;rintro e w2 ⟨rfl,i⟩;have j:=hid (a.o.below i);have ae:=hid i;clear i)
      |(go_at_call 44;refine(ad.o w2 (Z.o.below j.o.low)).mono ?_;rintro e z ⟨M,C,D,E,F,az,af,ah⟩;obtain rfl:e= .returned (.tuple #[.agg #[t,l,n,.slice C u.length D,p,v,.slice E d.length F],(0:Int)]):=az;have ai:=bT ae M;have aA:=hid (af.sub λq _ hq=>aP ae.o.size hq);have aB:=hid ah;clear M af ah)
      |(refine bR rfl _ _ _ rfl _ _ _ _ rfl ?_ rfl ?_ ?_ ?_ ?_;(focus(simp;done));kernel_rfl;rfl;rfl))
     have O:=ai.o.alloc ai.o.size (.cells #[t,l,n,.slice C u.length D,p,v,.slice E d.length F] 45);have aC:=hid (an z (.cells #[t,l,n,.slice C u.length D,p,v,.slice E d.length F] 45));have aD:=hid (aA.o.agr (Agr.below ((ag z.heap.size z).alloc (aa _) (.cells #[t,l,n,.slice C u.length D,p,v,.slice E d.length F] 45))));generalize hW:z.alloc (.cells #[t,l,n,.slice C u.length D,p,v,.slice E d.length F] 45)=W at *;clear hW;have aE:=hid O;have ao:=hid (Z.o.below (a.o.low.trans (O.mono a.o.low.size)));have aF:=hid (HB.o ⟨C,D,E,F⟩ W aE.o aD.o (λo ho=>(aB.o o ho).1) ao.o);clear O
     go_upto_region 11 with(first
      |(refine lA aC aJ ?_)
      |(go_at_call 20;refine aF.o.mono ?_;rintro e w5 ⟨rfl,aj,V,P,Q⟩;have aG:=hid aj;have X:=hid P;have Y:=hid Q;clear aj V P Q))
     obtain⟨X9,S9,f,I⟩:=Y.o;have J:(du b ⟨⟨t,l⟩,n,u,⟨p,v⟩,d⟩).1.done.length<=1000000:=by rw[a1.o];have h8:=a.o.len;have h7:=R.o;omega
     have K:=hid (bxdone_any f J);rw[<-f.dlen] at K;have L:=hid (λw' A c N hB=>rec_fin (w':=w') (A:=A) (c:=c) f I X.o H.o aG.o N hB);rw[<-aw.o] at L;clear f I J;go_wp2_with (go_at_call 21;refine K.o.mono ?_;rintro e w9 ⟨A9,c9,rfl,y,ac⟩)
     try rw[dV]
     go_ret3;exact L.o _ _ _ y ac
end
section
section
open Go.RowKit Go.Lib Go.Sort
theorem fv (t r:Int) (w:World):
  Calls Tryz.prog 101 #[.agg #[t,r]] w λe w'=>e= .returned (.bool (Gst.right ⟨t,r⟩))∧Below w.heap.size w w':=by
 obtain⟨v,a⟩:∃v,v=Gst.right ⟨t,r⟩:=⟨_,rfl⟩;have b:=hid a;rw[<-a];clear a;go_enter Tryz.func101,Tryz.ntmps101;go_wp2
 all_goals
  go_ret;refine⟨dI ?_,(ag _ _).alloc (aa _) _⟩;rw[b.o];simp[Gst.right]
  try omega
theorem eV (t r a r':Int) (w:World):
  Calls Tryz.prog 103 #[.agg #[t,r],.agg #[a,r']] w λe w'=>e= .returned (.bool (Gst.lt ⟨t,r⟩ ⟨a,r'⟩))∧Below w.heap.size w w':=by
 obtain⟨v,d⟩:∃v,v=Gst.lt ⟨t,r⟩ ⟨a,r'⟩:=⟨_,rfl⟩;have f:=hid d;rw[<-d];clear d;by_cases b:t<a
 ·obtain rfl:v=true:=by rw[f.o];simp[Gst.lt,b]
  have g:decide (t<a)=true:=aI b;go_enter Tryz.func103,Tryz.ntmps103;go_wp2;go_ret;exact⟨rfl,((ag _ _).alloc (aa _) _).alloc (by simp) _⟩
 have g:decide (t<a)=false:=aC b;by_cases c:t=a
 ·subst c;obtain rfl:v=decide (r<r'):=by rw[f.o];simp[Gst.lt]
  clear b;go_enter Tryz.func103,Tryz.ntmps103;go_wp2;go_ret;exact⟨rfl,((ag _ _).alloc (aa _) _).alloc (by simp) _⟩
 ·obtain rfl:v=false:=by rw[f.o];simp[Gst.lt,b,c]
  have h:(t == a)=false:=by rw[aL];exact c
  clear b c;go_enter Tryz.func103,Tryz.ntmps103;go_wp2;go_ret;exact⟨rfl,((ag _ _).alloc (aa _) _).alloc (by simp) _⟩
theorem gf (t r i:Int) (w:World):
  Calls Tryz.prog 192 #[.agg #[t,r,i]] w λe w'=>e= .returned (.bool (Gid.right ⟨⟨t,r⟩,i⟩))∧Below w.heap.size w w':=by
 obtain⟨v,d⟩:∃v,v=Gid.right ⟨⟨t,r⟩,i⟩:=⟨_,rfl⟩;have f:=hid d;rw[<-d];clear d;cases b:Gst.right ⟨t,r⟩ with
 |false=>
  have a:=hid b;clear b;go_enter Tryz.func192,Tryz.ntmps192;go_wp2_with fail;refine(fv _ _ _).mono ?_;rw[a.o];rintro e g ⟨rfl,c⟩;go_wp2;go_ret;refine⟨dI ?_,((ag _ _).alloc (aa _) _).trans (c.mono (by simp))⟩;rw[f.o];simp[Gid.right,a.o]
 | true=>
  have a:=hid b;clear b;go_enter Tryz.func192,Tryz.ntmps192;go_wp2_with fail;refine(fv _ _ _).mono ?_;rw[a.o];rintro e g ⟨rfl,c⟩;have h:g.cell? ⟨w.heap.size,2,none⟩=some (.int .i64 i):=by
   rw[c.cell (by simp)];go_simp
  go_wp2
  all_goals
   go_ret;refine⟨dI ?_,((ag _ _).alloc (aa _) _).trans (c.mono (by simp))⟩;rw[f.o];simp[Gid.right,a.o]
   try omega
def jP (a b:Gst):Int:=if a.lt b=true then -1 else if b.lt a=true then 1 else 0
def rcmpD (a b:Gid):Int:=if jP a.s b.s≠0 then jP a.s b.s else if a.i<b.i then -1 else if b.i<a.i then 1 else 0
theorem rcmpS_zero (a b:Gst):jP a b=0↔a.eqb b=true:=by
 have e:a.lt b=true↔(a.t<b.t∨(a.t=b.t∧a.r<b.r)):=by simp[Gst.lt]
 have f:b.lt a=true↔(b.t<a.t∨(b.t=a.t∧b.r<a.r)):=by simp[Gst.lt]
 have g:a.eqb b=true↔(a.t=b.t∧a.r=b.r):=by simp[Gst.eqb]
 unfold jP;rw[g];split
 ·rename_i c;rw[e] at c;omega
 ·rename_i c;rw[e] at c;split
  ·rename_i d;rw[f] at d;omega
  ·rename_i d;rw[f] at d;omega
theorem j0 (a b:Gid):decide (0<=rcmpD a b)= !a.lt b:=by
 have f:=rcmpS_zero a.s b.s;have g:a.s.lt b.s=true->jP a.s b.s= -1:=λh=>by unfold jP;rw[aN h]
 have i:¬a.s.lt b.s=true->jP a.s b.s=1∨jP a.s b.s=0:=λh=>by
  unfold jP;rw[aE h];split<;>simp
 rw[bE];unfold rcmpD;simp only[Gid.lt,au,il,Bool.or_eq_false_iff,Bool.and_eq_false_iff,aW];by_cases d:a.s.lt b.s=true
 ·have:=g d;rw[this];simp[d]
 ·have e:a.s.lt b.s=false:=by simpa using d
  rcases i d with c|c
  ·rw[c];have:a.s.eqb b.s=false:=by
    rw[<-Bool.not_eq_true,<-f,c];decide
   simp[e,this]
  ·rw[c];have:a.s.eqb b.s=true:=f.1 c;simp only[e,this];simp;split
   ·omega
   ·split<;>omega
theorem refcmp_any (t r d r':Int) (w:World):
  Calls Tryz.prog 194 #[.agg #[t,r],.agg #[d,r']] w λe w'=>e= .returned (.int .i64 (jP ⟨t,r⟩ ⟨d,r'⟩))∧Below w.heap.size w w':=by
 obtain⟨v,k⟩:∃v,v=jP ⟨t,r⟩ ⟨d,r'⟩:=⟨_,rfl⟩;have m:=hid k;rw[<-k];clear k;cases g:Gst.lt ⟨t,r⟩ ⟨d,r'⟩ with
 |true=>
  obtain rfl:v= -1:=by rw[m.o];unfold jP;rw[aN g]
  have j:=hid g;clear g;go_enter Tryz.func194,Tryz.ntmps194;go_wp2_with fail;refine(eV _ _ _ _ _).mono ?_;rw[j.o];rintro e c ⟨rfl,a⟩;go_wp2;go_ret;exact⟨rfl,(((ag _ _).alloc (aa _) _).alloc (by simp) _).trans (a.mono (by simp;omega))⟩
 |false=>
 have j:=hid g;have f:∀b:Bool,Gst.lt ⟨d,r'⟩ ⟨t,r⟩=b->v=(if b=true then 1 else 0):=λb n=>by
  rw[m.o];unfold jP;rw[g,n];rfl
 clear g;cases h:Gst.lt ⟨d,r'⟩ ⟨t,r⟩ with
 |true=>
  obtain rfl:v=1:=f true h;have l:=hid h;clear h f;go_enter Tryz.func194,Tryz.ntmps194;go_wp2_with fail;refine(eV _ _ _ _ _).mono ?_;rw[j.o];rintro e c ⟨rfl,a⟩;have o:c.cell? ⟨w.heap.size,0,none⟩=some (.int .i64 t):=by rw[a.cell (by simp;omega)];go_simp
  have p:c.cell? ⟨w.heap.size,1,none⟩=some (.int .i64 r):=by rw[a.cell (by simp;omega)];go_simp
  have q:c.cell? ⟨w.heap.size+1,0,none⟩=some (.int .i64 d):=by rw[a.cell (by simp)];go_simp
  have s:c.cell? ⟨w.heap.size+1,1,none⟩=some (.int .i64 r'):=by rw[a.cell (by simp)];go_simp
  go_wp2_with fail;refine(eV _ _ _ _ _).mono ?_;rw[l.o];rintro e u ⟨rfl,i⟩;go_wp2;go_ret;exact⟨rfl,((((ag _ _).alloc (aa _) _).alloc (by simp) _).trans (a.mono (by simp;omega))).trans (i.mono (by have:=a.size;simp at this;omega))⟩
 |false=>
  obtain rfl:v=0:=f false h;have l:=hid h;clear h f;go_enter Tryz.func194,Tryz.ntmps194;go_wp2_with fail;refine(eV _ _ _ _ _).mono ?_;rw[j.o];rintro e c ⟨rfl,a⟩;have o:c.cell? ⟨w.heap.size,0,none⟩=some (.int .i64 t):=by rw[a.cell (by simp;omega)];go_simp
  have p:c.cell? ⟨w.heap.size,1,none⟩=some (.int .i64 r):=by rw[a.cell (by simp;omega)];go_simp
  have q:c.cell? ⟨w.heap.size+1,0,none⟩=some (.int .i64 d):=by rw[a.cell (by simp)];go_simp
  have s:c.cell? ⟨w.heap.size+1,1,none⟩=some (.int .i64 r'):=by rw[a.cell (by simp)];go_simp
  go_wp2_with fail;refine(eV _ _ _ _ _).mono ?_;rw[l.o];rintro e u ⟨rfl,i⟩;go_wp2;go_ret;exact⟨rfl,((((ag _ _).alloc (aa _) _).alloc (by simp) _).trans (a.mono (by simp;omega))).trans (i.mono (by have:=a.size;simp at this;omega))⟩
theorem gp (t r i f r' a:Int) (w:World):
  Calls Tryz.prog 170 #[.agg #[t,r,i],.agg #[f,r',a]] w λe w'=>e= .returned (.int .i64 (rcmpD ⟨⟨t,r⟩,i⟩ ⟨⟨f,r'⟩,a⟩))∧Below w.heap.size w w':=by
 obtain⟨v,l⟩:∃v,v=rcmpD ⟨⟨t,r⟩,i⟩ ⟨⟨f,r'⟩,a⟩:=⟨_,rfl⟩;have n:=hid l;rw[<-l];clear l;obtain⟨q,m⟩:∃q,q=jP ⟨t,r⟩ ⟨f,r'⟩:=⟨_,rfl⟩;have k:v=(if q≠0 then q else if i<a then -1 else if a<i then 1 else 0):=by rw[n.o,m];rfl
 have s:=hid m;have c:=hid k;clear m k n;go_enter Tryz.func170,Tryz.ntmps170;go_wp2_with fail;refine(refcmp_any _ _ _ _ _).mono ?_;rw[<-s.o];rintro e o ⟨rfl,g⟩;have u:o.cell? ⟨w.heap.size,2,none⟩=some (.int .i64 i):=by rw[g.cell (by simp;omega)];go_simp
 have x:o.cell? ⟨w.heap.size+1,2,none⟩=some (.int .i64 a):=by rw[g.cell (by simp)];go_simp
 have d:=(((ag w.heap.size w).alloc (aa _) (.cells #[t,r,i] 108)).alloc (by simp) (.cells #[f,r',a] 108)).trans (g.mono (by simp;omega));clear g;by_cases h:q=0
 ·subst h;by_cases b:i<a
  ·obtain rfl:v= -1:=by rw[c.o];simp[b]
   go_wp2;go_ret;exact⟨rfl,d⟩
  ·by_cases j:a<i
   ·obtain rfl:v=1:=by rw[c.o];simp[b,j]
    have p:decide (i<a)=false:=aC b;clear b;go_wp2;go_ret;exact⟨rfl,d⟩
   ·obtain rfl:v=0:=by rw[c.o];simp[b,j]
    have p:decide (i<a)=false:=aC b;have y:decide (a<i)=false:=aC j;clear b j;go_wp2;go_ret;exact⟨rfl,d⟩
 ·obtain rfl:v=q:=by rw[c.o];simp[h]
  have p:(v != 0)=true:=by rw[cM];exact h
  clear h;go_wp2;go_ret;exact⟨rfl,d⟩
end
section
open Go.RowKit Go.Lib Go.Sort
section
variable {P : Program} {ops : Array Oper} {C : World → Prop} {Q : Exit → Act → World → Prop} {Q' : Act → Prop}
theorem iT (hQ:∀a w,C w->Q' a->Q .normal a w):∀(l:List Oper) (a:Act) (w:World),C w->wpQuiet P ops C Q' l a->wpList P ops Q l a w
 | [],a,w,hc,h=>hQ a w hc h
 | o::rest,a,w,hc,h=>by
  unfold wpList
  unfold wpQuiet at h
  by_cases hw:Region.wanted o (yielded ops a.tmps)=true
  ·rw[aN hw] at h ⊢
   exact .inl (Oper.wp_of_quiet hc (λa' w' hc' hk=>iT hQ rest a' w' hc' hk) h)
  ·rw[aE hw] at h ⊢
   exact iT hQ rest _ w hc h
theorem ap {b:Nat} {a:Act} {w:World} {l:List Oper}
  (h:wpQuiet P l.toArray (λw'=>∃p:Regrown,w'=grow (redrawn w p.d) p.os) (λa'=>∀w',(∃p:Regrown,w'=grow (redrawn w p.d) p.os)->Q .normal a' w') l a):(Code.region b l.toArray false).wp P Q a w:=by
 refine wp_region ?_;have e:=wpOps_eq_wpList (P:=P) (ops:=l.toArray) (Q:=Q) l 0 (by simp);rw[List.range_eq_range',List.size_toArray,e];exact iT (λa w c h=>h w c) l a w ⟨⟨w.drawn,#[]⟩,by rw[grow_empty];rfl⟩ h
end
end
section
open Go.RowKit Go.Lib Go.Sort
structure GX where
 n:Int
 dA:Option Addr
 dn:Nat
 dc:Nat
 ut:Int
 ur:Int
 oA:Option Addr
 on:Nat
 oc:Nat
def gxV (g:Gst) (x:GX):Value:= .agg #[.int .i64 g.t,.int .i64 g.r,.int .i64 x.n,.slice x.dA x.dn x.dc,.int .i64 x.ut,.int .i64 x.ur,.slice x.oA x.on x.oc]
theorem aT (t r i:Int) (w:World):
  Calls Tryz.prog 191 #[.agg #[t,r,i]] w λe w'=>e= .returned (.bool (Gid.none ⟨⟨t,r⟩,i⟩))∧Below w.heap.size w w':=by
 have a:=eN t r i 0 0 0 (Gid.none ⟨⟨t,r⟩,i⟩) rfl;generalize Gid.none ⟨⟨t,r⟩,i⟩=v at *;go_enter Tryz.func191,Tryz.ntmps191;go_wp2;go_ret;exact⟨rfl,(ag _ _).alloc (aa _) _⟩
theorem fM (g:Gst) (y:GX) (x:Gid) (k:Nat) (w:World):
  Calls Tryz.prog 161 #[gxV g y,idV x,.int .i64 k] w λe w'=>e= .returned (.bool (de g x k))∧Below w.heap.size w w':=by
 obtain⟨⟨t,r⟩,i⟩:=x;obtain⟨c,d⟩:=g;obtain⟨n,G,H,I,J,K,L,M,N⟩:=y;show Calls _ _ #[.agg #[c,d,n,.slice G H I,J,K,.slice L M N],.agg #[t,r,i],_] _ _;obtain⟨h,C⟩:∃a,a=de ⟨c,d⟩ ⟨⟨t,r⟩,i⟩ k:=⟨_,rfl⟩;rw[<-C];have z:=hid C;clear C;cases q:Gid.right ⟨⟨t,r⟩,i⟩ with
 |false=>
  obtain rfl:h=false:=by rw[z.o];simp[de,q]
  have j:=hid q;clear q;go_enter Tryz.func161,Tryz.ntmps161;go_wp2_with fail;refine(gf _ _ _ _).mono ?_;rw[j.o];rintro e m ⟨rfl,f⟩;go_wp2;go_ret;exact⟨rfl,(((ag _ _).alloc (aa _) _).alloc (by simp) _).trans (f.mono (by simp;omega))⟩
 |true=>
 have j:=hid q;clear q;obtain⟨l,O⟩:∃l,l=Gst.lt ⟨t,r⟩ ⟨c,d⟩:=⟨_,rfl⟩;have A:=hid O;clear O;go_enter Tryz.func161,Tryz.ntmps161;go_wp2_with fail;refine(gf _ _ _ _).mono ?_;rw[j.o];rintro e m ⟨rfl,f⟩;have D:m.cell? ⟨w.heap.size,0,none⟩=some (.int .i64 c):=by rw[f.cell (by simp;omega)];go_simp
 have P:m.cell? ⟨w.heap.size,1,none⟩=some (.int .i64 d):=by rw[f.cell (by simp;omega)];go_simp
 have E:m.cell? ⟨w.heap.size+1,0,none⟩=some (.int .i64 t):=by rw[f.cell (by simp)];go_simp
 have Q:m.cell? ⟨w.heap.size+1,1,none⟩=some (.int .i64 r):=by rw[f.cell (by simp)];go_simp
 have R:m.cell? ⟨w.heap.size+1,2,none⟩=some (.int .i64 i):=by rw[f.cell (by simp)];go_simp
 have s:=(((ag w.heap.size w).alloc (aa _) (.cells #[c,d,n,.slice G H I,J,K,.slice L M N] 45)).alloc (by simp) (.cells #[t,r,i] 108)).trans (f.mono (by simp;omega));clear f;go_wp2_with fail;refine(eV _ _ _ _ _).mono ?_;rw[<-A.o];rintro e u ⟨rfl,b⟩;have S:=s.size;have F:=eL D;have B:=eL E;have U:u.cell? ⟨w.heap.size,0,none⟩=some (.int .i64 c):=(b.cell (p:=⟨w.heap.size,0,none⟩) F).trans D;have V:u.cell? ⟨w.heap.size,1,none⟩=some (.int .i64 d):=(b.cell (p:=⟨w.heap.size,1,none⟩) F).trans P;have W:u.cell? ⟨w.heap.size+1,0,none⟩=some (.int .i64 t):=(b.cell (p:=⟨w.heap.size+1,0,none⟩) B).trans E;have X:u.cell? ⟨w.heap.size+1,1,none⟩=some (.int .i64 r):=(b.cell (p:=⟨w.heap.size+1,1,none⟩) B).trans Q;have Y:u.cell? ⟨w.heap.size+1,2,none⟩=some (.int .i64 i):=(b.cell (p:=⟨w.heap.size+1,2,none⟩) B).trans R;have v:=s.trans (b.mono S);clear s b D P E Q R F B S;cases l with
 |true=>
  obtain rfl:h=true:=by rw[z.o];simp[de,j.o,<-A.o]
  go_wp2;go_ret;exact⟨rfl,v⟩
 | false=>
  cases o:Gst.eqb ⟨t,r⟩ ⟨c,d⟩ with
  |false=>
   have T:=eq_st t r c d false o;obtain rfl:h=false:=by rw[z.o];simp[de,j.o,<-A.o,o]
   clear o;go_wp2;go_ret;exact⟨rfl,v⟩
  |true=>
   have T:=eq_st t r c d true o;obtain rfl:h=decide (i<k):=by rw[z.o];simp[de,j.o,<-A.o,o]
   clear o;go_wp2;go_ret;exact⟨rfl,v⟩
theorem iI (g:Gst) (y:GX) (x:Gid) (k:Nat) (w:World):
  Calls Tryz.prog 158 #[gxV g y,idV x,.int .i64 k] w λe w'=>e= .returned (.bool (dK g x k))∧Below w.heap.size w w':=by
 obtain⟨⟨t,r⟩,i⟩:=x;obtain⟨f,h⟩:=g;obtain⟨n,l,m,o,p,q,s,u,v⟩:=y;show Calls _ _ #[.agg #[f,h,n,.slice l m o,p,q,.slice s u v],.agg #[t,r,i],_] _ _;obtain⟨z,B⟩:∃a,a=dK ⟨f,h⟩ ⟨⟨t,r⟩,i⟩ k:=⟨_,rfl⟩;rw[<-B];have D:=hid B;clear B;have A:=λw=>fM ⟨f,h⟩ ⟨n,l,m,o,p,q,s,u,v⟩ ⟨⟨t,r⟩,i⟩ k w;have E:=hid A;clear A;obtain⟨b,F⟩:∃b,b=Gid.none ⟨⟨t,r⟩,i⟩:=⟨_,rfl⟩;have C:=hid F;clear F;go_enter Tryz.func158,Tryz.ntmps158;go_wp2_with fail;refine(aT _ _ _ _).mono ?_;rw[<-C.o];rintro e d ⟨rfl,c⟩;have j:=(((ag w.heap.size w).alloc (aa _) (.cells #[f,h,n,.slice l m o,p,q,.slice s u v] 45)).alloc (by simp) (.cells #[t,r,i] 108)).trans (c.mono (by simp;omega));cases b with
 |true=>
  obtain rfl:z=true:=by rw[D.o];simp[dK,<-C.o]
  go_wp2;go_ret;exact⟨rfl,j⟩
 |false=>
  obtain rfl:z=de ⟨f,h⟩ ⟨⟨t,r⟩,i⟩ k:=by rw[D.o];simp[dK,<-C.o]
  have H:d.cell? ⟨w.heap.size,0,none⟩=some (.int .i64 f):=by rw[c.cell (by simp;omega)];go_simp
  have I:d.cell? ⟨w.heap.size,1,none⟩=some (.int .i64 h):=by rw[c.cell (by simp;omega)];go_simp
  have J:d.cell? ⟨w.heap.size,2,none⟩=some (.int .i64 n):=by rw[c.cell (by simp;omega)];go_simp
  have K:d.cell? ⟨w.heap.size,3,none⟩=some (.slice l m o):=by rw[c.cell (by simp;omega)];go_simp
  have L:d.cell? ⟨w.heap.size,4,none⟩=some (.int .i64 p):=by rw[c.cell (by simp;omega)];go_simp
  have M:d.cell? ⟨w.heap.size,5,none⟩=some (.int .i64 q):=by rw[c.cell (by simp;omega)];go_simp
  have N:d.cell? ⟨w.heap.size,6,none⟩=some (.slice s u v):=by rw[c.cell (by simp;omega)];go_simp
  have O:d.cell? ⟨w.heap.size+1,0,none⟩=some (.int .i64 t):=by rw[c.cell (by simp)];go_simp
  have P:d.cell? ⟨w.heap.size+1,1,none⟩=some (.int .i64 r):=by rw[c.cell (by simp)];go_simp
  have Q:d.cell? ⟨w.heap.size+1,2,none⟩=some (.int .i64 i):=by rw[c.cell (by simp)];go_simp
  clear c;go_wp2_with fail;refine(E.o _).mono ?_;rintro e R ⟨rfl,G⟩;go_wp2;go_ret;exact⟨rfl,j.trans (G.mono j.size)⟩
end
section
open Go.RowKit Go.Lib Go.Sort
theorem refdots_any (g:Gst) (y:GX) (A:Option Addr) (c:Nat) (l:List Gst) (S:Nat->Prop) (w:World) (hl:l.length<=9223372036854775807) (hA:StsS w S A l):
  Calls Tryz.prog 162 #[gxV g y,.slice A l.length c] w λe w'=>e= .returned (.bool (iq g l))∧Below w.heap.size w w':=by
 obtain⟨q,s⟩:=g;obtain⟨n',dA,dn,dc,ut,ur,oA,on,oc⟩:=y;show Calls _ _ #[.agg #[q,s,n',.slice dA dn dc,ut,ur,.slice oA on oc],_] _ _;have HA:=hid hA;obtain⟨n,hn⟩:∃n,n=l.length:=⟨_,rfl⟩;obtain⟨f,u⟩:∃r,r=iq ⟨q,s⟩ l:=⟨_,rfl⟩;rw[<-hn] at hl ⊢;rw[<-u];have I:=hid hn;have HV:=hid u;clear hA hn u;obtain⟨D,C⟩:∃D,D=w.alloc (.cells #[q,s,n',.slice dA dn dc,ut,ur,.slice oA on oc] 45):=⟨_,rfl⟩;have X:Below w.heap.size w D:=by subst C;exact(ag _ _).alloc (aa _) _
 have t:D.heap[w.heap.size]? =some (.cells #[q,s,n',.slice dA dn dc,ut,ur,.slice oA on oc] 45 (0,0)):=by subst C;exact an _ _
 have g0:=cw0 t;have g1:=cw1 t;have HW:=hid C;have ac:=hid g0;have ad:=hid g1;have Y:=eL g0;clear C t g0 g1;go_enter Tryz.func162,Tryz.ntmps162;go_wp2;rw[<-HW.o];go_loopw [5] (λi wr=>∃k:Nat,k<=n∧i= .int .i64 k∧Hid (∀i,i<k->dotB ⟨q,s⟩ l i=true)∧Below D.heap.size D wr) (λi _=>n-(RowKit.intOf i).toNat)
 case atStart=>exact⟨0,by omega,rfl,λi N=>absurd N (by omega),ag _ _⟩
 case round=>
  obtain⟨j,hj,rfl,HK,o⟩:=hrel;have a:Below w.heap.size w wr:=X.trans (o.mono X.size);by_cases ae:j<n
  ·obtain⟨ab,ao,rfl,-,af,O,P⟩:=StsS.at_ (RowG.agr HA.o (Agr.below a)) (k:=j) (by have:=I.o;omega);obtain⟨x,hx⟩:∃x,x=l.getD j .zero:=⟨_,rfl⟩;rw[<-hx] at O P;have J:=hid hx;clear hx;obtain⟨E,F⟩:=x;simp only at O P;have kt:=aj ((o.cell (p:=⟨w.heap.size,0,none⟩) Y).trans ac.o);have kr:=aj ((o.cell (p:=⟨w.heap.size,1,none⟩) Y).trans ad.o);have x0:=aj O;have x1:=aj P;have v:=λd K=>ak (fv E F (grow (redrawn wr d) K));have z:=λd K=>ak (eV q s E F (grow (redrawn wr d) K));have Z:dotB ⟨q,s⟩ l j=false->f=false:=λh=>by
    rw[HV.o];unfold iq;rw[fB (by rw[<-I.o];exact ae) h];rfl
   have B:=hid Z;clear Z O P;cases G:Gst.right ⟨E,F⟩ with
   |false=>
    rw[G] at v;obtain rfl:f=false:=B.o (by unfold dotB;rw[<-J.o,G];rfl);clear G z;go_wp2;refine rqb ?_
    repeat(any_goals(go_big_quiet_step (with_reducible exact v _ _)))
    refine qz λQ b=> ?_;go_wp2;go_ret;exact⟨rfl,a.trans (b.mono a.size)⟩
   | true=>
    rw[G] at v;have R:=hid G;clear G;cases t:Gst.lt ⟨q,s⟩ ⟨E,F⟩ with
    |true=>
     rw[t] at z;obtain rfl:f=false:=B.o (by unfold dotB;rw[<-J.o,t,R.o];rfl);clear t;go_wp2;refine rqb ?_
     repeat(any_goals(go_big_quiet_step (with_reducible first|exact v _ _|exact z _ _)))
     refine qz λQ b=> ?_;go_wp2;go_ret;exact⟨rfl,a.trans (b.mono a.size)⟩
    | false=>
     rw[t] at z;have HG:=hid t;clear t;by_cases L:j=0
     ·have b1:decide (0<j)=false:=by rw[aW];omega
      have M:Hid (∀i,i<j+1->dotB ⟨q,s⟩ l i=true):=λi N=>by
       obtain rfl:i=j:=by omega
       unfold dotB;rw[<-J.o,HG.o,R.o];simp[L]
      clear L;go_wp2;refine rqb ?_
      repeat(any_goals(go_big_quiet_step (with_reducible first|exact v _ _|exact z _ _)))
      refine qz λQ b=> ?_;go_wp2;go_roundw
      case rel=>exact⟨j+1,by omega,by go_num,M,o.trans (b.mono o.size)⟩
      case measure=>simp[RowKit.intOf];omega
     ·obtain⟨m,hm⟩:∃m,m+1=j:=⟨j-1,by omega⟩;obtain⟨ah,ai,e2,-,-,T,U⟩:=StsS.at_ (RowG.agr HA.o (Agr.below a)) (k:=m) (by have:=I.o;omega);injection e2 with e2;injection e2 with e3 e4;subst e3 e4;obtain⟨y,hy⟩:∃y,y=l.getD m .zero:=⟨_,rfl⟩;rw[<-hy] at T U;have HY:=hid hy;clear hy;obtain⟨yt,yr⟩:=y;simp only at T U;have y0:=aj T;have y1:=aj U;have V:=λd K=>ak (eV yt yr E F (grow (redrawn wr d) K));have b1:decide (0<j)=true:=by rw[au];omega
      have b2:(j:Int)-1=(m:Int):=by omega
      have b3:(0:Int)<=(m:Int):=by omega
      have b4:(m:Int)<(n:Int):=by omega
      have b5:IntKind.i64.wrap ((j:Int)-1)=(m:Int):=by rw[b2];exact cH _ (by omega)
      have b6:m=j-1:=by omega
      have HM:=hid b6;clear b6 hm L T U;cases H:Gst.lt ⟨yt,yr⟩ ⟨E,F⟩ with
      | false=>
       rw[H] at V
       obtain rfl:f=false:=B.o (by
        unfold dotB;rw[<-J.o,HG.o,R.o,<-HM.o,<-HY.o,H];have:¬j=0:=λe=>by rw[e] at b1;simp at b1
        simp[this])
       clear H;go_wp2;refine rqb ?_
       repeat(any_goals(go_big_quiet_step (with_reducible first|exact v _ _|exact z _ _|exact V _ _)))
       refine qz λQ b=> ?_;go_wp2;go_ret;exact⟨rfl,a.trans (b.mono a.size)⟩
      | true=>
       rw[H] at V;have M:Hid (∀i,i<j+1->dotB ⟨q,s⟩ l i=true):=λi N=>by
        rcases cJ i j with h|h
        ·exact HK.o i h
        ·obtain rfl:i=j:=by omega
         unfold dotB;rw[<-J.o,HG.o,R.o,<-HM.o,<-HY.o,H];simp
       clear H;go_wp2;refine rqb ?_
       repeat(any_goals(go_big_quiet_step (with_reducible first|exact v _ _|exact z _ _|exact V _ _)))
       refine qz λQ b=> ?_;clear b5;go_wp2;go_roundw
       case rel=>exact⟨j+1,by omega,by go_num,M,o.trans (b.mono o.size)⟩
       case measure=>simp[RowKit.intOf];omega
  ·obtain rfl:j=n:=by omega
   have W:f=decide (j<=200):=by
    rw[HV.o];unfold iq;rw[es (λi N=>HK.o i (by have:=I.o;omega)),<-I.o];rfl
   by_cases h2:j<=200
   ·obtain rfl:f=true:=by rw[W];exact aI h2
    have t1:(j:Int)<=200:=by omega
    clear W;go_wp2;go_ret;exact⟨rfl,a⟩
   ·obtain rfl:f=false:=by rw[W];exact aC h2
    have t1:¬(j:Int)<=200:=by omega
    clear W;go_wp2;go_ret;exact⟨rfl,a⟩
theorem refelems_any (g:Gst) (y:GX) (k:Nat) (A:Option Addr) (c:Nat) (l:List Gid) (S:Nat->Prop) (w:World) (hl:l.length<=9223372036854775807) (hA:IdsS w S A l):
  Calls Tryz.prog 164 #[gxV g y,.slice A l.length c,.int .i64 k] w λe w'=>e= .returned (.bool (fT g l k))∧Below w.heap.size w w':=by
 obtain⟨f,o⟩:=g;obtain⟨I,J,K,L,M,N,O,P,Q⟩:=y;have ac:=λx w=>fM ⟨f,o⟩ ⟨I,J,K,L,M,N,O,P,Q⟩ x k w;have af:=hid ac;clear ac;show Calls _ _ #[.agg #[f,o,I,.slice J K L,M,N,.slice O P Q],_,_] _ _;have HA:=hid hA;obtain⟨n,hn⟩:∃n,n=l.length:=⟨_,rfl⟩;obtain⟨q,v⟩:∃r,r=fT ⟨f,o⟩ l k:=⟨_,rfl⟩;rw[<-hn] at hl ⊢;rw[<-v];have R:=hid hn;have HV:=hid v;clear hA hn v;obtain⟨z,u⟩:∃z,z=w.alloc (.cells #[f,o,I,.slice J K L,M,N,.slice O P Q] 45):=⟨_,rfl⟩;have ad:Below w.heap.size w z:=by subst u;exact(ag _ _).alloc (aa _) _
 have hG:z.heap[w.heap.size]? =some (.cells #[f,o,I,.slice J K L,M,N,.slice O P Q] 45 (0,0)):=by subst u;exact an _ _
 have HW:=hid u;have HG:=hid hG;have ah:w.heap.size<z.heap.size:=by subst u;simp
 clear u hG;go_enter Tryz.func164,Tryz.ntmps164;go_wp2;rw[<-HW.o];go_loopw [7] (λi wr=>∃j:Nat,j<=n∧i= .int .i64 j∧Hid (∀i,i<j->ie ⟨f,o⟩ l k i=true)∧Below z.heap.size z wr) (λi _=>n-(RowKit.intOf i).toNat)
 case atStart=>exact⟨0,by omega,rfl,λi W=>absurd W (by omega),ag _ _⟩
 case round=>
  obtain⟨j,hj,rfl,HK,t⟩:=hrel;have a:Below w.heap.size w wr:=ad.trans (t.mono ad.size);by_cases ai:j<n
  ·obtain⟨ab,ao,rfl,-,am,X,Y,Z⟩:=IdsS.at_ (RowG.agr HA.o (Agr.below a)) (k:=j) (by have:=R.o;omega);obtain⟨x,hx⟩:∃x,x=l.getD j .zero:=⟨_,rfl⟩;rw[<-hx] at X Y Z;have HX:=hid hx;clear hx;obtain⟨⟨B,C⟩,D⟩:=x;simp only at X Y Z;have b:=(t.block _ ah).trans HG.o;have k0:=rg0 b;have k1:=rg1 b;have k2:=rg2 b;have k3:=rg3 b;have k4:=rg4 b;have k5:=rg5 b;have k6:=rg6 b;have x0:=aj X;have x1:=aj Y;have x2:=aj Z;have E:∀d os,Calls Tryz.prog 161 #[.agg #[f,o,I,.slice J K L,M,N,.slice O P Q],.agg #[B,C,D],.int .i64 k] (grow (redrawn wr d) os) λe al=>e= .returned (.bool (de ⟨f,o⟩ ⟨⟨B,C⟩,D⟩ k))∧∃p:Regrown,al=grow (redrawn wr p.d) p.os:=λd os=>
    ak (af.o ⟨⟨B,C⟩,D⟩ _)
   have ae:ie ⟨f,o⟩ l k j=false->q=false:=λh=>by
    rw[HV.o];unfold fT;rw[fB (by rw[<-R.o];exact ai) h];rfl
   have T:=hid ae;clear ae b X Y Z;cases F:de ⟨f,o⟩ ⟨⟨B,C⟩,D⟩ k with
   |false=>
    rw[F] at E;obtain rfl:q=false:=T.o (by unfold ie;rw[<-HX.o,F];rfl);clear F;go_wp2;refine rqb ?_
    repeat(any_goals(go_big_quiet_step (with_reducible exact E _ _)))
    refine qz λwq s=> ?_;go_wp2;go_ret;exact⟨rfl,a.trans (s.mono a.size)⟩
   | true=>
    rw[F] at E;have HR:=hid F;clear F;by_cases U:j=0
    ·have b1:decide (0<j)=false:=by rw[aW];omega
     have V:Hid (∀i,i<j+1->ie ⟨f,o⟩ l k i=true):=λi W=>by
      obtain rfl:i=j:=by omega
      unfold ie;rw[<-HX.o,HR.o];simp[U]
     clear U;go_wp2;refine rqb ?_
     repeat(any_goals(go_big_quiet_step (with_reducible exact E _ _)))
     refine qz λwq s=> ?_;go_wp2;go_roundw
     case rel=>exact⟨j+1,by omega,by go_num,V,t.trans (s.mono t.size)⟩
     case measure=>simp[RowKit.intOf];omega
    ·obtain⟨m,hm⟩:∃m,m+1=j:=⟨j-1,by omega⟩;obtain⟨ap,aq,e2,-,-,d0,d1,d2⟩:=IdsS.at_ (RowG.agr HA.o (Agr.below a)) (k:=m) (by have:=R.o;omega);injection e2 with e2;injection e2 with e3 e4;subst e3 e4;obtain⟨y,hy⟩:∃y,y=l.getD m .zero:=⟨_,rfl⟩;rw[<-hy] at d0 d1 d2;have HY:=hid hy;clear hy;obtain⟨⟨yt,yr⟩,yi⟩:=y;simp only at d0 d1 d2;have y0:=aj d0;have y1:=aj d1;have y2:=aj d2;have cD:=λd os=>ak (gp yt yr yi B C D (grow (redrawn wr d) os));have hd:=j0 ⟨⟨yt,yr⟩,yi⟩ ⟨⟨B,C⟩,D⟩;have b1:decide (0<j)=true:=by rw[au];omega
     have b2:(j:Int)-1=(m:Int):=by omega
     have b3:(0:Int)<=(m:Int):=by omega
     have b4:(m:Int)<(n:Int):=by omega
     have b5:IntKind.i64.wrap ((j:Int)-1)=(m:Int):=by rw[b2];exact cH _ (by omega)
     have b6:m=j-1:=by omega
     have HM:=hid b6;clear b6 hm U d0 d1 d2;cases G:Gid.lt ⟨⟨yt,yr⟩,yi⟩ ⟨⟨B,C⟩,D⟩ with
     | false=>
      rw[G] at hd
      obtain rfl:q=false:=T.o (by
       unfold ie;rw[<-HX.o,HR.o,<-HM.o,<-HY.o,G];have:¬j=0:=λe=>by rw[e] at b1;simp at b1
       simp[this])
      clear G;go_wp2;refine rqb ?_
      repeat(any_goals(go_big_quiet_step (with_reducible first|exact E _ _|exact cD _ _)))
      refine qz λwq s=> ?_;go_wp2;go_ret;exact⟨rfl,a.trans (s.mono a.size)⟩
     | true=>
      rw[G] at hd;have V:Hid (∀i,i<j+1->ie ⟨f,o⟩ l k i=true):=λi W=>by
       rcases cJ i j with h|h
       ·exact HK.o i h
       ·obtain rfl:i=j:=by omega
        unfold ie;rw[<-HX.o,HR.o,<-HM.o,<-HY.o,G];simp
      clear G;go_wp2;refine rqb ?_
      repeat(any_goals(go_big_quiet_step (with_reducible first|exact E _ _|exact cD _ _)))
      refine qz λwq s=> ?_;clear b5;go_wp2;go_roundw
      case rel=>exact⟨j+1,by omega,by go_num,V,t.trans (s.mono t.size)⟩
      case measure=>simp[RowKit.intOf];omega
  ·obtain rfl:j=n:=by omega
   have H:q=(decide (1<=j) && decide (j<=2000)):=by
    rw[HV.o];unfold fT;rw[es (λi W=>HK.o i (by have:=R.o;omega)),<-R.o];rfl
   by_cases h1:1<=j
   ·have t0:(1:Int)<=(j:Int):=by omega
    by_cases h2:j<=2000
    ·obtain rfl:q=true:=by rw[H];simp[h1,h2]
     have t1:(j:Int)<=2000:=by omega
     clear H;go_wp2;go_ret;exact⟨rfl,a⟩
    ·obtain rfl:q=false:=by rw[H];simp;omega
     have t1:¬(j:Int)<=2000:=by omega
     clear H;go_wp2;go_ret;exact⟨rfl,a⟩
   ·obtain rfl:q=false:=by rw[H];simp;omega
    have t1:¬(1:Int)<=(j:Int):=by omega
    clear H;go_wp2;go_ret;exact⟨rfl,a⟩
end
end
end Go.Proofs.YtkhmicndehlneaaGreatDoor
