/- Part 17 of the walks and plain laws that this claim uses, joined. Conditions: as each theorem states. -/
import Derived.Test.YtkhmicndehlneaaGreatDoorYrp
namespace Go.Proofs.YtkhmicndehlneaaGreatDoor
set_option maxRecDepth 100000
set_option maxHeartbeats 16000000
set_option linter.unusedVariables false
section
theorem ahead_cons {v u:List Int} {g:Grp} {l:List Grp} (h:eu v (g::l)=some u):chkB g=true∧covB v g.deps=true∧atV v g.s.r=g.n-1∧eu (eS v g.s.r g.n) l=some u:=by
 unfold eu at h;split at h
 ·rename_i c;simp only[ay,au] at c;exact⟨c.1.1,c.1.2,c.2,h⟩
 ·cases h
theorem ahead_mono:∀(l:List Grp) {v u:List Int},eu v l=some u->∀r,atV v r<=atV u r
 | [],v,u,h,r=>by simp only[eu,Option.some.injEq] at h;rw[h];exact iC _
 |g::l,v,u,h,r=>by
  obtain⟨h1,h2,h3,h4⟩:=ahead_cons h
  have hr:=(right_r (fp h1).1).1
  have:=ahead_mono l h4 r
  rw[gE _ _ _ _ hr] at this
  split at this
  ·rename_i e;subst e;omega
  ·exact this
theorem ahead_in:∀(l:List Grp) {v u:List Int},eu v l=some u->∀g∈l,atV v g.s.r<g.n∧g.n<=atV u g.s.r
 | [],v,u,h,g,hg=>by cases hg
 | x::l,v,u,h,g,hg=>by
  obtain⟨h1,h2,h3,h4⟩:=ahead_cons h
  have hr:=(right_r (fp h1).1).1
  rcases dh.1 hg with rfl|hg
  ·refine⟨by omega,?_⟩
   have:=ahead_mono l h4 g.s.r
   rw[gE _ _ _ _ hr,aN rfl] at this
   exact this
  ·have:=ahead_in l h4 g hg
   rw[gE _ _ _ _ hr] at this
   refine⟨?_,this.2⟩
   have h5:=this.1
   split at h5
   ·rename_i e;rw[e];omega
   ·exact h5
structure HisG (gs:List Grp):Prop where
 chk:∀g∈gs,chkB g=true
 nd:(gs.map (·.s)).Nodup
 ah:∃V,eu [] gs=some V
structure BxG (gs:List Grp) (b:Bx):Prop where
 ok:BxOk b
 sub:∀g∈b.done++b.wait,g∈gs
theorem atV_nil (r:Int):atV [] r=0:=by unfold atV;split<;>rfl
def drained (b:Bx):Prop:=∀g∈b.wait,gM b.v g=false
structure BxH (gs:List Grp) (b:Bx):Prop extends BxG gs b where
 dr:drained b
theorem BxH.new (gs:List Grp):BxH gs Bx.new:=⟨⟨BxOk.new,λg hg=>(by cases hg)⟩,λg hg=>(by cases hg)⟩
end
section
open Go.RowKit Go.Lib Go.Sort
theorem RbIn.sup {B P:Nat} {S S':Nat->Prop} {dn wt:List Grp} {X:RbX} {w:World} (h:RbIn B P S dn wt X w) (h1:∀k,S k->S' k) (h2:∀k,S' k->S k∨(k<w.heap.size∧¬OwnR P X k)):RbIn B P S' dn wt X w:=
 ⟨h.obj,h.done,h.wait,h.dl,h.wl,λp hp=>(h.good p hp).sub λk _ hk=>h1 k hk,h.hP,h.dP,h.wP,h.dw,λk hk=>(h2 k hk).elim (h.sep k) id⟩
structure RbAt (B P:Nat) (gs:List Grp) (w1:World) (b:Bx) (wr:World):Prop where
 low:Below B w1 wr
 le:B<=wr.heap.size
 agr:Agr (λk=>k≠P) w1 wr
 his:BxH gs b
 txt:∀g∈gs,∀o∈g.ops,o.text.size<=1000000
 box:∃X S,RbIn B P S b.done b.wait X wr∧∀k,k<w1.heap.size->k≠P->S k
section
variable {B P : Nat} {gs : List Grp} {w1 wr w' : World} {b : Bx}
theorem RbAt.new (b:w1.heap[P]? =some (.cells #[.slice none 0 0,.slice none 0 0] 65 (0,0))) (a:B<=P) (d:∀g∈gs,∀o∈g.ops,o.text.size<=1000000):RbAt B P gs w1 Bx.new w1:=by
 refine⟨ag _ _,aP a (Nat.le_of_lt (lt_of_block b)),Agr.refl,BxH.new gs,d,⟨.slice none 0 0,.slice none 0 0,[],[]⟩,λk=>k<w1.heap.size∧k≠P,⟨b,aH _ _ _ _,aH _ _ _ _,rfl,rfl,(λp f=>by cases f),a,(λe=>by cases e),(λe=>by cases e),(λg e=>by cases e),λk c=>⟨c.1,?_⟩⟩,λk i j=>⟨i,j⟩⟩;rintro(h|h|h)
 ·exact c.2 h
 ·cases h
 ·cases h
end
def Cur (w:World) (b:Nat) (s:ByteArray) (bad:Bool):Prop:=w.heap[b]? =some (.cells #[s,bad] 183 (0,0))
section
variable {w w' : World} {b : Nat} {s : ByteArray} {bad : Bool}
theorem Cur.c0 (h:Cur w b s bad):w.cell? ⟨b,0,none⟩=some (.string s):=by rw[crw h];rfl
theorem Cur.c1 (h:Cur w b s bad):w.cell? ⟨b,1,none⟩=some (.bool bad):=by rw[crw h];rfl
theorem Cur.f (h:Cur w b s bad) (j:Nat):w.frozen? ⟨b,j,none⟩=false:=aS _ _ _ _ _ h
theorem Cur.lt (h:Cur w b s bad):b<w.heap.size:=eL h.c0
theorem Cur.set0 (h:Cur w b s bad) (a:ByteArray):Cur (w.setCell ⟨b,0,none⟩ (.string a)) b a bad:=by
 unfold Cur at h ⊢;simp[World.setCell,bY,h]
theorem Cur.set1 (h:Cur w b s bad) (a:Bool):Cur (w.setCell ⟨b,1,none⟩ (.bool a)) b s a:=by
 unfold Cur at h ⊢;simp[World.setCell,bY,h]
theorem Cur.kept {r:Option Nat} (h:Cur w b s bad) (hg:w.grownBy w' r) (hr:r≠some b):Cur w' b s bad:=(hg.block b h.lt (λe=>hr e.symm)).trans h
theorem Cur.keptN (h:Cur w b s bad) (k:Nat):Cur (w.drewN k) b s bad:=h
end
def CuQ {α:Type} (p:Rd α) (P:α->World->Value->Prop) (b:Nat) (s:ByteArray) (bad:Bool) (w:World) (e:Ending) (w':World):Prop:=
 ∃(x:α) (v:Value) (s':ByteArray) (bad':Bool),e= .returned v∧P x w' v∧Cur w' b s' bad'∧w.grownBy w' (some b)∧RdIs p s.data.toList bad x s'.data.toList bad'
theorem RdIs.lost {α:Type} {p:Rd α} {l l':List UInt8} {b:Bool} {x:α} (h:RdIs p l b x l' true) (y:α):RdIs p l b y (⟨#[]⟩:ByteArray).data.toList true:=by
 refine⟨λ_=>rfl,λe=> ?_,aq _⟩;rcases h.step e with⟨h1,_⟩|h1
 ·cases h1
 ·exact .inr h1
theorem ig (b:Nat) (s:ByteArray) (a:Bool) (w:World) (m:s.size<=1000000) (f:Cur w b s a):
  Calls Tryz.prog 128 #[.pointer (some ⟨b,0,none⟩)] w (CuQ intR PInt b s a w):=by
 obtain⟨n,R,c,g⟩:∃n R c,TkIs s.data.toList n R c:=⟨_,_,_,rfl,rfl,rfl⟩;have i:=hid (eF s (by unfold maxLen;omega) n R c g);have o:=f.c0;have p:=f.c1;have q:=f.f 0;have r:=f.f 1;by_cases j:c=0
 ·subst j;have d:∀k,CuQ intR PInt b s a w (.returned (.int .i64 n)) ((w.drewN k).setCell ⟨b,0,none⟩ (.string R)):=λk=>
   ⟨n,_,R,a,rfl,⟨rfl,by omega,by have:=g.lt;omega⟩,(f.keptN k).set0 R,bZ (jo ku k) (di _ _ _),by have:=RdIs.take g a;simpa using this⟩
  have h:=hid d;clear d g f;go_enter Tryz.func128,Tryz.ntmps128;go_wp2_with fail;refine(i.o _).mono ?_;rintro e l ⟨rfl,k,rfl⟩;go_wp2;go_ret;exact h.o k
 ·have t:((c:Int) != 0)=true:=by rw[cM];omega
  have d:∀k,CuQ intR PInt b s a w (.returned (.int .i64 0)) (((w.drewN k).setCell ⟨b,1,none⟩ (.bool true)).setCell ⟨b,0,none⟩ (.string ⟨#[]⟩)):=λk=>
   ⟨0,_,_,true,rfl,⟨rfl,by decide,by decide⟩,((f.keptN k).set1 true).set0 _,bZ (bZ (jo ku k) (di _ _ _)) (di _ _ _),RdIs.lost (x:=(n:Int)) (l':=R.data.toList) (by have:=RdIs.take g a;simpa[j] using this) 0⟩
  have h:=hid d;clear d g f;go_enter Tryz.func128,Tryz.ntmps128;go_wp2_with fail;refine(i.o _).mono ?_;rintro e l ⟨rfl,k,rfl⟩;go_wp2;go_ret;exact h.o k
theorem cbytes_any (b:Nat) (s:ByteArray) (d:Bool) (w:World) (p:s.size<=1000000) (f:Cur w b s d):
  Calls Tryz.prog 178 #[.pointer (some ⟨b,0,none⟩)] w (CuQ eZ PStr b s d w):=by
 obtain⟨n,R,c,g⟩:∃n R c,TkIs s.data.toList n R c:=⟨_,_,_,rfl,rfl,rfl⟩;obtain⟨h,i⟩:=RdIs.takeb g p d;have j:=reftakebytes_any s (by unfold maxLen;omega) n R c g;generalize tbT n R c=X at *;generalize tbR n R c=Y at *;generalize tbE n R c=z at *;have m:=hid j;have r:=f.c0;have t:=f.c1;have u:=f.f 0;have v:=f.f 1;by_cases o:z=0
 ·subst o;have a:∀k,CuQ eZ PStr b s d w (.returned (.string X)) ((w.drewN k).setCell ⟨b,0,none⟩ (.string Y)):=λk=>
   ⟨X,_,Y,d,rfl,⟨rfl,i⟩,(f.keptN k).set0 Y,bZ (jo ku k) (di _ _ _),by simpa using h⟩
  have l:=hid a;clear a j f h i g;go_enter Tryz.func178,Tryz.ntmps178;go_wp2_with fail;refine(m.o _).mono ?_;rintro e q ⟨rfl,k,rfl⟩;go_wp2;go_ret;exact l.o k
 ·have y:((z:Int) != 0)=true:=by rw[cM];omega
  have a:∀k,CuQ eZ PStr b s d w (.returned (.string ⟨#[]⟩)) (((w.drewN k).setCell ⟨b,1,none⟩ (.bool true)).setCell ⟨b,0,none⟩ (.string ⟨#[]⟩)):=λk=>
   ⟨⟨#[]⟩,_,_,true,rfl,⟨rfl,by decide⟩,((f.keptN k).set1 true).set0 _,bZ (bZ (jo ku k) (di _ _ _)) (di _ _ _),RdIs.lost (x:=X) (l':=Y.data.toList) (by simpa[o] using h) _⟩
  have l:=hid a;clear a j f h i g;go_enter Tryz.func178,Tryz.ntmps178;go_wp2_with fail;refine(m.o _).mono ?_;rintro e q ⟨rfl,k,rfl⟩;go_wp2;go_ret;exact l.o k
theorem kN (b:Nat) (s:ByteArray) (c:Bool) (w:World) (p:s.size<=1000000) (f:Cur w b s c):
  Calls Tryz.prog 127 #[.pointer (some ⟨b,0,none⟩)] w (CuQ stR PSt b s c w):=by
 have K:=f.lt;have g:=an w (.cells #[(0:Int),(0:Int)] 42);have q:=hid (f.kept (aQ w (.cells #[(0:Int),(0:Int)] 42) none) (by simp));have u:=hid g;have M:=hid f;clear g f;go_enter Tryz.func127,Tryz.ntmps127;go_wp2_with fail;refine(ig b s c _ p q.o).mono ?_;rintro e D ⟨t,v,E,m,rfl,⟨rfl,x⟩,h,i,d⟩;have F:=hid (ig b E m D (cL d p) h);have y:=hid d;have z:=hid i;have L:=hid x;clear h i d x;go_wp2_with fail;refine F.o.mono ?_;rintro e A ⟨r,v,G,n,rfl,⟨rfl,N⟩,j,k,l⟩;have o:=bZ z.o k;have a:=(o.block w.heap.size (by simp) (by intro e;cases e;omega)).trans u.o;have H:=cw0 a;have I:=cw1 a;have O:A.frozen? ⟨w.heap.size,0,none⟩=false:=aS _ _ _ _ _ a;have P:A.frozen? ⟨w.heap.size,1,none⟩=false:=aS _ _ _ _ _ a;have B:=hid j;have J:=hid o;have C:=hid l;clear o k a j l;go_wp2;refine aU (v:= .agg #[t,r]) (by simp[results,Tryz.results127,go_sem,H,I]) rfl ?_;refine⟨⟨t,r⟩,_,G,n,rfl,rfl,?_,fg (fg (bZ (aQ _ _ _) J.o) _ _ _ (aa _)) _ _ _ (aa _),RdIs.st y.o C.o⟩;exact(B.o.kept (di _ _ _) (by intro e;cases e;omega)).kept (di _ _ _) (by intro e;cases e;omega)
theorem cid_any (b:Nat) (s:ByteArray) (g:Bool) (w:World) (z:s.size<=1000000) (q:Cur w b s g):
  Calls Tryz.prog 177 #[.pointer (some ⟨b,0,none⟩)] w (CuQ idR PId b s g w):=by
 have U:=q.lt;have A:=hid (q.kept (aQ w (.cells #[(0:Int),(0:Int),(0:Int)] 108) none) (by simp));have B:=hid (an w (.cells #[(0:Int),(0:Int),(0:Int)] 108));have C:=hid (aQ w (.cells #[(0:Int),(0:Int),(0:Int)] 108) (some b));clear q;go_enter Tryz.func177,Tryz.ntmps177;go_wp2_with fail;refine(kN b s g _ z A.o).mono ?_;rintro e f ⟨⟨t,r⟩,v,D,h,rfl,M,l,c,j⟩;obtain rfl:v= .agg #[t,r]:=M;have E:=cL j z;have F:=hid j;have G:=hid (bZ C.o c);have H:=hid ((c.block w.heap.size (by simp) (by intro e;cases e;omega)).trans B.o);have k:w.heap.size<f.heap.size:=by have:=c.size;simp at this;omega
 have I:=hid l;clear j c l;go_upto_region 2 with(fail);generalize hW:f.alloc (.cells #[t,r] 42)=W;have u:=hid (show W.heap[f.heap.size]? =some (.cells #[t,r] 42 (0,0)) by subst hW;exact an _ _);have N:=hid (show W.heap[w.heap.size]? =some (.cells #[(0:Int),(0:Int),(0:Int)] 108 (0,0)) by subst hW;exact(ax _ _ _ k).trans H.o);have O:=hid (show Cur W b D h by subst hW;exact I.o.kept (aQ f _ none) (by simp));have P:=hid (show w.grownBy W (some b) by subst hW;exact gV G.o _);have m:f.heap.size<W.heap.size:=by subst hW;simp
 clear hW;have V:=cw0 u.o;have X:=cw1 u.o;go_wp2_with fail;refine(ig b D h W E O.o).mono ?_;rintro e x ⟨i,v,Q,y,rfl,⟨rfl,Y⟩,n,d,o⟩;have p:=hid ((d.block f.heap.size m (by intro e;cases e;omega)).trans u.o);have a:=hid ((d.block w.heap.size (Nat.lt_trans k m) (by intro e;cases e;omega)).trans N.o);have J:=hid n;have K:=hid o;have L:=hid (bZ P.o d);clear n o d;have Z:=cw0 p.o;have d1:=cw1 p.o;have R:=cw0 a.o;have S:=cw1 a.o;have T:=cw2 a.o;have f0:x.frozen? ⟨w.heap.size,0,none⟩=false:=aS _ _ _ _ _ a.o;have f1:x.frozen? ⟨w.heap.size,1,none⟩=false:=aS _ _ _ _ _ a.o;have f2:x.frozen? ⟨w.heap.size,2,none⟩=false:=aS _ _ _ _ _ a.o;go_wp2;refine aU (v:= .agg #[t,r,i]) (by simp[results,Tryz.results177,go_sem,R,S,T]) rfl ?_;refine⟨⟨⟨t,r⟩,i⟩,_,Q,y,rfl,rfl,?_,fg (fg (fg L.o _ _ _ (aa _)) _ _ _ (aa _)) _ _ _ (aa _),RdIs.id F.o K.o⟩;exact((J.o.kept (di _ _ _) (by intro e;cases e;omega)).kept (di _ _ _) (by intro e;cases e;omega)).kept (di _ _ _) (by intro e;cases e;omega)
end
section
open Go.RowKit Go.Lib Go.Sort
attribute [local go_sem ↓] Go.wp_at_zero Go.wp_at_succ
structure CoSt (w0:World) (b R O:Nat) (T:TypeId) (zc oc:Array Value) (s:ByteArray) (bad:Bool) (w:World):Prop where
 rdr:Cur w b s bad
 res:w.heap[R]? =some (.cells zc T (0,0))
 obj:w.heap[O]? =some (.cells oc T (0,0))
 grow:w0.grownBy w (some b)
 nb:b<w0.heap.size
 nR:w0.heap.size<=R
 nO:R<O
section
variable {w0 w w' : World} {b R O : Nat} {T : TypeId} {zc oc : Array Value} {s s' : ByteArray} {bad bad' : Bool}
theorem CoSt.call (h:CoSt w0 b R O T zc oc s bad w) (hr:Cur w' b s' bad') (hg:w.grownBy w' (some b)):CoSt w0 b R O T zc oc s' bad' w':=
 ⟨hr,(hg.block R (lt_of_block h.res) (by intro e;cases e;have:=h.nb;have:=h.nR;omega)).trans h.res,(hg.block O (lt_of_block h.obj) (by intro e;cases e;have:=h.nb;have:=h.nR;have:=h.nO;omega)).trans h.obj,bZ h.grow hg,h.nb,h.nR,h.nO⟩
theorem CoSt.keep (h:CoSt w0 b R O T zc oc s bad w) {r:Option Nat} (a:w.grownBy w' r) (d:∀g,r=some g->O<g):CoSt w0 b R O T zc oc s bad w':=by
 have f:=h.nb;have i:=h.nR;have j:=h.nO;have c:∀k,k<=O->some k≠r:=λk l e=>by have:=d k e.symm;omega
 exact⟨h.rdr.kept a (λe=>c b (by omega) e.symm),(a.block R (lt_of_block h.res) (c R (by omega))).trans h.res,(a.block O (lt_of_block h.obj) (c O (by omega))).trans h.obj,gby_new h.grow a (λg e=>by have:=d g e;omega),h.nb,h.nR,h.nO⟩
theorem CoSt.put (h:CoSt w0 b R O T zc oc s bad w) (c:Array Value):CoSt w0 b R O T zc c s bad (w.setRow O c):=by
 have a:=h.nb;have d:=h.nR;have e:=h.nO;exact⟨(setRow_other w O b c (by omega)).trans h.rdr,(setRow_other w O R c (by omega)).trans h.res,aF _ h.obj,fk h.grow _ _ (by omega),h.nb,h.nR,h.nO⟩
theorem CoSt.set (h:CoSt w0 b R O T zc oc s bad w) (i:Nat) (v:Value) (c:Array Value) (a:oc.setIfInBounds i v=c):CoSt w0 b R O T zc c s bad (w.setCell ⟨O,i,none⟩ v):=by
 have d:=h.nb;have e:=h.nR;have f:=h.nO;refine⟨(bB _ _ _ _ (by show b≠O;omega)).trans h.rdr,(bB _ _ _ _ (by show R≠O;omega)).trans h.res,?_,fg h.grow _ _ _ (by omega),h.nb,h.nR,h.nO⟩;have:=h.obj;simp[World.setCell,bY,this,a]
theorem CoSt.setBad (h:CoSt w0 b R O T zc oc s bad w) (v:Bool):CoSt w0 b R O T zc oc s v (w.setCell ⟨b,1,none⟩ (.bool v)):=by
 have a:=h.nb;have c:=h.nR;have d:=h.nO;exact⟨h.rdr.set1 v,(bB _ _ _ _ (by show R≠b;omega)).trans h.res,(bB _ _ _ _ (by show O≠b;omega)).trans h.obj,bZ h.grow (di _ _ _),h.nb,h.nR,h.nO⟩
theorem CoSt.cell (h:CoSt w0 b R O T zc oc s bad w) (i:Nat):w.cell? ⟨O,i,none⟩=oc[i]? :=aG _ _ _ _ _ _ h.obj
end
theorem cop_any (b:Nat) (s:ByteArray) (aJ:Bool) (w:World) (hs:s.size<=1000000) (hR:Cur w b s aJ):
  Calls Tryz.prog 130 #[.pointer (some ⟨b,0,none⟩)] w (CuQ opR (POp w.heap.size) b s aJ w):=by
 have aM:=hR.lt;have be:=hid (hR.kept (aQ w (.cells #[(0:Int),(0:Int),(0:Int),(0:Int),(0:Int),(0:Int),(0:Int),.string ⟨#[]⟩,false,.slice none 0 0,(0:Int),(0:Int),(0:Int),(0:Int),(0:Int),(0:Int),.string ⟨#[]⟩,.slice none 0 0] 125) none) (by simp));have bf:=hid (an w (.cells #[(0:Int),(0:Int),(0:Int),(0:Int),(0:Int),(0:Int),(0:Int),.string ⟨#[]⟩,false,.slice none 0 0,(0:Int),(0:Int),(0:Int),(0:Int),(0:Int),(0:Int),.string ⟨#[]⟩,.slice none 0 0] 125));have bg:=hid (aQ w (.cells #[(0:Int),(0:Int),(0:Int),(0:Int),(0:Int),(0:Int),(0:Int),.string ⟨#[]⟩,false,.slice none 0 0,(0:Int),(0:Int),(0:Int),(0:Int),(0:Int),(0:Int),.string ⟨#[]⟩,.slice none 0 0] 125) (some b));clear hR;go_enter Tryz.func130,Tryz.ntmps130;go_wp2_with fail;refine(ig b s aJ _ hs be.o).mono ?_;rintro e c ⟨k,v,s1,aN,rfl,⟨rfl,hk⟩,bh,aG,aO⟩;have bi:=cL aO hs;have ab:=hid aO;have bj:=hid ((aG.block w.heap.size (by simp) (by intro e;cases e;omega)).trans bf.o);have bk:=hid (bZ bg.o aG);have aP:w.heap.size<c.heap.size:=by have:=aG.size;simp at this;omega
 have bl:=hid bh;clear aO aG bh;go_upto_region 2 with(refine bR rfl _ _ _ rfl _ _ _ _ rfl ?_ rfl ?_ ?_ ?_ ?_;(focus(simp;done));kernel_rfl;rfl;rfl)
 have bm:CoSt w b w.heap.size c.heap.size 125 #[(0:Int),(0:Int),(0:Int),(0:Int),(0:Int),(0:Int),(0:Int),.string ⟨#[]⟩,false,.slice none 0 0,(0:Int),(0:Int),(0:Int),(0:Int),(0:Int),(0:Int),.string ⟨#[]⟩,.slice none 0 0] #[.int .i64 k,(0:Int),(0:Int),(0:Int),(0:Int),(0:Int),(0:Int),.string ⟨#[]⟩,false,.slice none 0 0,(0:Int),(0:Int),(0:Int),(0:Int),(0:Int),(0:Int),.string ⟨#[]⟩,.slice none 0 0] s1 aN (c.alloc (.cells #[.int .i64 k,(0:Int),(0:Int),(0:Int),(0:Int),(0:Int),(0:Int),.string ⟨#[]⟩,false,.slice none 0 0,(0:Int),(0:Int),(0:Int),(0:Int),(0:Int),(0:Int),.string ⟨#[]⟩,.slice none 0 0] 125)):=
  ⟨bl.o.kept (aQ c _ none) (by simp),(ax _ _ _ aP).trans bj.o,an _ _,gV bk.o _,aM,aa _,aP⟩
 generalize C:c.alloc (.cells #[.int .i64 k,(0:Int),(0:Int),(0:Int),(0:Int),(0:Int),(0:Int),.string ⟨#[]⟩,false,.slice none 0 0,(0:Int),(0:Int),(0:Int),(0:Int),(0:Int),(0:Int),.string ⟨#[]⟩,.slice none 0 0] 125)=V1 at *;clear C bl bj bk be bf bg;have bn:=hid bm;clear bm;go_wp2_with fail;refine(cid_any b s1 aN V1 bi bn.o.rdr).mono ?_;rintro e y2 ⟨⟨⟨f,j⟩,l⟩,v,s2,ai,rfl,hv,bo,bp,aT⟩;have W:=cL aT bi;have bq:=hid (bn.o.call bo bp);have ac:=hid aT;obtain rfl:v= .agg #[f,j,l]:=hv;clear bo bp aT;go_upto_region 3 with(first|(refine bV rfl _ _ _ rfl c.heap.size 1 _ _ #[.int .i64 k,f,j,l,(0:Int),(0:Int),(0:Int),.string ⟨#[]⟩,false,.slice none 0 0,(0:Int),(0:Int),(0:Int),(0:Int),(0:Int),(0:Int),.string ⟨#[]⟩,.slice none 0 0] _ rfl bq.o.obj rfl ?_ ?_ ?_ rfl ?_;kernel_rfl;exact aR rfl;rfl));have br:=bq.o.put #[.int .i64 k,f,j,l,(0:Int),(0:Int),(0:Int),.string ⟨#[]⟩,false,.slice none 0 0,(0:Int),(0:Int),(0:Int),(0:Int),(0:Int),(0:Int),.string ⟨#[]⟩,.slice none 0 0];generalize C:y2.setRow c.heap.size #[.int .i64 k,f,j,l,(0:Int),(0:Int),(0:Int),.string ⟨#[]⟩,false,.slice none 0 0,(0:Int),(0:Int),(0:Int),(0:Int),(0:Int),(0:Int),.string ⟨#[]⟩,.slice none 0 0]=V2 at *;clear C;have F:=hid br;clear br;have bs:V2.cell? ⟨c.heap.size,0,none⟩=some (.int .i64 k):=by rw[F.o.cell];rfl
 by_cases k0:k=0
 ·subst k0;go_wp2_with fail;refine(cid_any b s2 ai V2 W F.o.rdr).mono ?_;rintro e M ⟨⟨⟨m,o⟩,p⟩,v,s3,D,rfl,hv,G,H,y⟩;have X:=cL y W;have u:=hid (F.o.call G H);have R:=hid y;obtain rfl:v= .agg #[m,o,p]:=hv;clear G H y;go_upto_region 7 with(first|(refine bV rfl _ _ _ rfl c.heap.size 4 _ _ #[(0:Int),f,j,l,m,o,p,.string ⟨#[]⟩,false,.slice none 0 0,(0:Int),(0:Int),(0:Int),(0:Int),(0:Int),(0:Int),.string ⟨#[]⟩,.slice none 0 0] _ rfl u.o.obj rfl ?_ ?_ ?_ rfl ?_;kernel_rfl;exact aR rfl;rfl));have Y:=u.o.put #[(0:Int),f,j,l,m,o,p,.string ⟨#[]⟩,false,.slice none 0 0,(0:Int),(0:Int),(0:Int),(0:Int),(0:Int),(0:Int),.string ⟨#[]⟩,.slice none 0 0];generalize C:M.setRow c.heap.size #[(0:Int),f,j,l,m,o,p,.string ⟨#[]⟩,false,.slice none 0 0,(0:Int),(0:Int),(0:Int),(0:Int),(0:Int),(0:Int),.string ⟨#[]⟩,.slice none 0 0]=V3 at *;clear C;have E:=hid Y;clear Y;go_wp2_with fail;refine(cbytes_any b s3 D V3 X E.o.rdr).mono ?_;rintro e y4 ⟨S,v,s4,N,rfl,⟨rfl,aj⟩,I,q,A⟩;have ay:=cL A X;have ag:=hid (E.o.call I q);have Z:=hid A;clear I q A;go_upto_region 8 with(first|(refine bV rfl _ _ _ rfl c.heap.size 7 _ _ #[(0:Int),f,j,l,m,o,p,S,false,.slice none 0 0,(0:Int),(0:Int),(0:Int),(0:Int),(0:Int),(0:Int),.string ⟨#[]⟩,.slice none 0 0] _ rfl ag.o.obj rfl ?_ ?_ ?_ rfl ?_;kernel_rfl;exact aR rfl;rfl))
  have ah:=ag.o.put #[(0:Int),f,j,l,m,o,p,S,false,.slice none 0 0,(0:Int),(0:Int),(0:Int),(0:Int),(0:Int),(0:Int),.string ⟨#[]⟩,.slice none 0 0];generalize C:y4.setRow c.heap.size #[(0:Int),f,j,l,m,o,p,S,false,.slice none 0 0,(0:Int),(0:Int),(0:Int),(0:Int),(0:Int),(0:Int),.string ⟨#[]⟩,.slice none 0 0]=V4 at *;clear C;have x:=hid ah;clear ah;have bB:V4.cell? ⟨c.heap.size,0,none⟩=some (.int .i64 0):=by rw[x.o.cell];rfl
  go_wp2_with fail;refine(ig b s4 N V4 ay x.o.rdr).mono ?_;rintro e y5 ⟨d,v,s5,aw,rfl,⟨rfl,hd⟩,ak,az,av⟩;have ad:=hid (x.o.call ak az);have aH:=hid av;have b1:=ak.c1;have f1:=ak.f 1;clear ak az av;obtain⟨e1,aV⟩:∃e1,e1=decide (d=1):=⟨_,rfl⟩;obtain⟨e2,bt⟩:∃e2,e2=(aw || decide (1<d)):=⟨_,rfl⟩;have bu:=hid aV;have aW:=hid bt;have q1:(d == 1)=e1:=by rw[aV];rfl
  clear aV bt;have b2:=(ad.o.put #[(0:Int),f,j,l,m,o,p,S,e1,.slice none 0 0,(0:Int),(0:Int),(0:Int),(0:Int),(0:Int),(0:Int),.string ⟨#[]⟩,.slice none 0 0]).rdr.c1;have f2:=(ad.o.put #[(0:Int),f,j,l,m,o,p,S,e1,.slice none 0 0,(0:Int),(0:Int),(0:Int),(0:Int),(0:Int),(0:Int),.string ⟨#[]⟩,.slice none 0 0]).rdr.f 1;cases aw with
  | true=>
   obtain rfl:e2=true:=by rw[aW.o];rfl
   go_upto_region 30 with(first|(refine bV rfl _ _ _ rfl c.heap.size 8 _ _ #[(0:Int),f,j,l,m,o,p,S,e1,.slice none 0 0,(0:Int),(0:Int),(0:Int),(0:Int),(0:Int),(0:Int),.string ⟨#[]⟩,.slice none 0 0] _ rfl ad.o.obj rfl ?_ ?_ ?_ rfl ?_;kernel_rfl;exact aR rfl;rfl));have B:=hid ((ad.o.put #[(0:Int),f,j,l,m,o,p,S,e1,.slice none 0 0,(0:Int),(0:Int),(0:Int),(0:Int),(0:Int),(0:Int),.string ⟨#[]⟩,.slice none 0 0]).setBad true);generalize C:(y5.setRow c.heap.size #[(0:Int),f,j,l,m,o,p,S,e1,.slice none 0 0,(0:Int),(0:Int),(0:Int),(0:Int),(0:Int),(0:Int),.string ⟨#[]⟩,.slice none 0 0]).setCell ⟨b,1,none⟩ (.bool true)=V6 at *;clear C
   go_wp2_with (first
    |(refine cd rfl _ _ rfl c.heap.size _ _ _ rfl B.o.obj am rfl ?_ ?_;kernel_rfl)
    |(refine bW rfl _ _ _ rfl w.heap.size _ _ _ rfl rfl B.o.res ?_ ?_ ?_ ?_;kernel_rfl;rfl;rfl))
   refine aU (bG rfl _ _ w.heap.size _ _ (0,0) _ rfl (aF _ B.o.res) am rfl (by kernel_rfl)) rfl ?_;refine⟨{ opO 0 ⟨⟨f,j⟩,l⟩ with parent:=⟨⟨m,o⟩,p⟩,name:=S,dir:=e1 },_,s5,true,rfl,⟨⟨none,0,none,0⟩,rfl,OpIn.none rfl rfl aj (aq _),aj,aq _⟩,(setRow_other _ _ _ _ (by have:=B.o.nb;omega)).trans B.o.rdr,fk B.o.grow _ _ (aa _),RdIs.op0 ab.o ac.o R.o Z.o (by rw[bu.o];exact RdIs.dir aH.o)⟩
  | false=>
   have q2:decide (1<d)=e2:=by rw[aW.o];simp
   go_upto_region 30 with(first|(refine bV rfl _ _ _ rfl c.heap.size 8 _ _ #[(0:Int),f,j,l,m,o,p,S,e1,.slice none 0 0,(0:Int),(0:Int),(0:Int),(0:Int),(0:Int),(0:Int),.string ⟨#[]⟩,.slice none 0 0] _ rfl ad.o.obj rfl ?_ ?_ ?_ rfl ?_;kernel_rfl;exact aR rfl;rfl));have B:=hid ((ad.o.put #[(0:Int),f,j,l,m,o,p,S,e1,.slice none 0 0,(0:Int),(0:Int),(0:Int),(0:Int),(0:Int),(0:Int),.string ⟨#[]⟩,.slice none 0 0]).setBad e2);generalize C:(y5.setRow c.heap.size #[(0:Int),f,j,l,m,o,p,S,e1,.slice none 0 0,(0:Int),(0:Int),(0:Int),(0:Int),(0:Int),(0:Int),.string ⟨#[]⟩,.slice none 0 0]).setCell ⟨b,1,none⟩ (.bool e2)=V6 at *;clear C
   go_wp2_with (first
    |(refine cd rfl _ _ rfl c.heap.size _ _ _ rfl B.o.obj am rfl ?_ ?_;kernel_rfl)
    |(refine bW rfl _ _ _ rfl w.heap.size _ _ _ rfl rfl B.o.res ?_ ?_ ?_ ?_;kernel_rfl;rfl;rfl))
   refine aU (bG rfl _ _ w.heap.size _ _ (0,0) _ rfl (aF _ B.o.res) am rfl (by kernel_rfl)) rfl ?_;refine⟨{ opO 0 ⟨⟨f,j⟩,l⟩ with parent:=⟨⟨m,o⟩,p⟩,name:=S,dir:=e1 },_,s5,e2,rfl,⟨⟨none,0,none,0⟩,rfl,OpIn.none rfl rfl aj (aq _),aj,aq _⟩,(setRow_other _ _ _ _ (by have:=B.o.nb;omega)).trans B.o.rdr,fk B.o.grow _ _ (aa _),RdIs.op0 ab.o ac.o R.o Z.o (by rw[bu.o,aW.o];exact RdIs.dir aH.o)⟩
 by_cases k1:k=1
 ·subst k1;go_wp2_with fail;refine(cid_any b s2 ai V2 W F.o.rdr).mono ?_;rintro e M ⟨⟨⟨m,o⟩,p⟩,v,s3,D,rfl,hv,G,H,y⟩;have X:=cL y W;have u:=hid (F.o.call G H);have R:=hid y;obtain rfl:v= .agg #[m,o,p]:=hv;clear G H y;go_upto_region 13 with(first|(refine bV rfl _ _ _ rfl c.heap.size 4 _ _ #[(1:Int),f,j,l,m,o,p,.string ⟨#[]⟩,false,.slice none 0 0,(0:Int),(0:Int),(0:Int),(0:Int),(0:Int),(0:Int),.string ⟨#[]⟩,.slice none 0 0] _ rfl u.o.obj rfl ?_ ?_ ?_ rfl ?_;kernel_rfl;exact aR rfl;rfl));have Y:=u.o.put #[(1:Int),f,j,l,m,o,p,.string ⟨#[]⟩,false,.slice none 0 0,(0:Int),(0:Int),(0:Int),(0:Int),(0:Int),(0:Int),.string ⟨#[]⟩,.slice none 0 0];generalize C:M.setRow c.heap.size #[(1:Int),f,j,l,m,o,p,.string ⟨#[]⟩,false,.slice none 0 0,(0:Int),(0:Int),(0:Int),(0:Int),(0:Int),(0:Int),.string ⟨#[]⟩,.slice none 0 0]=V3 at *;clear C;have E:=hid Y;clear Y;go_wp2_with fail;refine(cbytes_any b s3 D V3 X E.o.rdr).mono ?_;rintro e y4 ⟨S,v,s4,N,rfl,⟨rfl,aj⟩,I,q,A⟩;have ay:=cL A X;have ag:=hid (E.o.call I q);have Z:=hid A;clear I q A;go_upto_region 30 with(first|(refine bV rfl _ _ _ rfl c.heap.size 7 _ _ #[(1:Int),f,j,l,m,o,p,S,false,.slice none 0 0,(0:Int),(0:Int),(0:Int),(0:Int),(0:Int),(0:Int),.string ⟨#[]⟩,.slice none 0 0] _ rfl ag.o.obj rfl ?_ ?_ ?_ rfl ?_;kernel_rfl;exact aR rfl;rfl))
  have ah:=ag.o.put #[(1:Int),f,j,l,m,o,p,S,false,.slice none 0 0,(0:Int),(0:Int),(0:Int),(0:Int),(0:Int),(0:Int),.string ⟨#[]⟩,.slice none 0 0];generalize C:y4.setRow c.heap.size #[(1:Int),f,j,l,m,o,p,S,false,.slice none 0 0,(0:Int),(0:Int),(0:Int),(0:Int),(0:Int),(0:Int),.string ⟨#[]⟩,.slice none 0 0]=V4 at *;clear C;have x:=hid ah;clear ah;have bB:V4.cell? ⟨c.heap.size,0,none⟩=some (.int .i64 1):=by rw[x.o.cell];rfl
  go_wp2_with (first
   |(refine cd rfl _ _ rfl c.heap.size _ _ _ rfl x.o.obj am rfl ?_ ?_;kernel_rfl)
   |(refine bW rfl _ _ _ rfl w.heap.size _ _ _ rfl rfl x.o.res ?_ ?_ ?_ ?_;kernel_rfl;rfl;rfl))
  refine aU (bG rfl _ _ w.heap.size _ _ (0,0) _ rfl (aF _ x.o.res) am rfl (by kernel_rfl)) rfl ?_;refine⟨{ opO 1 ⟨⟨f,j⟩,l⟩ with parent:=⟨⟨m,o⟩,p⟩,name:=S },_,s4,N,rfl,⟨⟨none,0,none,0⟩,rfl,OpIn.none rfl rfl aj (aq _),aj,aq _⟩,(setRow_other _ _ _ _ (by have:=x.o.nb;omega)).trans x.o.rdr,fk x.o.grow _ _ (aa _),RdIs.op1 ab.o ac.o R.o Z.o⟩
 by_cases k2:k=2
 ·subst k2;obtain⟨i0,hi,aX,aY,aZ⟩:=bx infostC_;go_wp2_with fail;refine(ig b s2 ai V2 W F.o.rdr).mono ?_;rintro e M ⟨n0,v,s3,D,rfl,⟨rfl,ao⟩,G,H,y⟩;obtain⟨n,rfl⟩:=dU ao.1;have hn:n<9223372036854775808:=by have:=ao.2;omega
  have X:=cL y W;have u:=hid (F.o.call G H);have R:=hid y;have aB:=lt_of_block u.o.obj;have bb:=u.o.nO;have bc:=u.o.nR;have bd:=u.o.nb;clear G H y ao bs;go_wp2;go_loopw [6] (λi wr=>∃(k:Nat) (V:Value) (r:List Gst) (O:ByteArray) (P:Bool),i= .int .i64 k∧k<=n∧wr.ownsRow M.heap.size 42 2 V r.length (r.flatMap stC_)∧Hid (CoSt w b w.heap.size c.heap.size 125 #[(0:Int),(0:Int),(0:Int),(0:Int),(0:Int),(0:Int),(0:Int),.string ⟨#[]⟩,false,.slice none 0 0,(0:Int),(0:Int),(0:Int),(0:Int),(0:Int),(0:Int),.string ⟨#[]⟩,.slice none 0 0] #[(2:Int),f,j,l,(0:Int),(0:Int),(0:Int),.string ⟨#[]⟩,false,V,(0:Int),(0:Int),(0:Int),(0:Int),(0:Int),(0:Int),.string ⟨#[]⟩,.slice none 0 0] O P wr)∧Hid (ManyAt stR n s3.data.toList D (n-k) r O.data.toList P)∧M.heap.size<=wr.heap.size) (λi _=>n-(RowKit.intOf i).toNat)
  case atStart=>exact⟨0,.slice none 0 0,[],s3,D,rfl,aq _,⟨rfl,.inl ⟨rfl,rfl⟩⟩,u,hid ManyAt.start,aa _⟩
  case round=>
   obtain⟨k,V,r,O,P,rfl,hk,z,t,HM,bz⟩:=hrel;have a0:=HM.o.le;have ap:=HM.o.few;have a1:s3.data.toList.length=s3.size:=by simp
   have a2:O.data.toList.length=O.size:=by simp
   have bC:r.length<=1000001:=by split at ap<;>omega
   have a3:O.size<=1000000:=by omega
   have c1:=t.o.rdr.c1;clear a0 ap a1 a2;by_cases aM:k<n
   ·have i5:(k:Int)<(n:Int):=by omega
    have i6:decide ((k:Int)<(n:Int))=true:=aI i5;cases P with
    | true=>
     obtain⟨A3,c3,rfl⟩:=bU z;have T:OpIn wr (λk=>M.heap.size<=k) { opO 2 ⟨⟨f,j⟩,l⟩ with dots:=r } ⟨A3,c3,none,0⟩:=⟨sts_own z,RowG.zero,(fw z).1,aa _,(fw z).2,aq _,aq _,aq _⟩;have ar:=hid T;have au:=hid (RdIs.op2 ab.o ac.o (RdIs.many R.o (by rw[bX];exact HM.o.done ((.inl (by first|rfl|trivial))))));clear T z HM
     go_wp2_with (first
      |(refine cd rfl _ _ rfl c.heap.size _ _ _ rfl t.o.obj am rfl ?_ ?_;kernel_rfl)
      |(refine bW rfl _ _ _ rfl w.heap.size _ _ _ rfl rfl t.o.res ?_ ?_ ?_ ?_;kernel_rfl;rfl;rfl))
     refine aU (bG rfl _ _ w.heap.size _ _ (0,0) _ rfl (aF _ t.o.res) am rfl (by kernel_rfl)) rfl ?_;refine⟨{ opO 2 ⟨⟨f,j⟩,l⟩ with dots:=r },_,O,_,rfl,⟨⟨A3,c3,none,0⟩,rfl,(ar.o.agr (Agr.setRow _ w.heap.size _ (by omega))).sub (λk _ h=>by omega),aq _,aq _⟩,(setRow_other _ _ _ _ (by have:=t.o.nb;omega)).trans t.o.rdr,fk t.o.grow _ _ (aa _),au.o⟩
    | false=>
     have HC:=hid (kN b O false wr.drew a3 (by exact t.o.rdr));have a4:=hid (λg e=>(z.lt g e).1);have a5:=hid (show V.ownBlock≠some b from λe=>by have:=(z.lt b e).1;omega);have a6:=hid z;have d0:wr.cell? ⟨c.heap.size,9,none⟩=some V:=by rw[t.o.cell];rfl
     have z0:c.heap.size<wr.heap.size:=by omega
     have em:n-k=(n-(k+1))+1:=by omega
     have ae:=HM.o;rw[em] at ae;have ae:=hid ae;clear z em;go_upto_region 19 with fail
     go_region_law
      (first
       |(go_simp;go_at_call 127;refine HC.o.mono ?_;rintro e w2 ⟨⟨K,L⟩,v2,s4,N,rfl,hv,I,q,A⟩;obtain rfl:v2= .agg #[K,L]:=hv;replace q:wr.grownBy w2 (some b):=bZ (⟨rfl,rfl,rfl,aa _,λ_ _ _=>rfl⟩:wr.grownBy wr.drew (some b)) q;have x:=hid (t.o.call I q);have a7:=hid (a6.o.kept q (.inr a5.o));have Z:=hid A;have bA:=q.size;have aA:=hid (x.o.keep (aQ w2 (.cells #[K,L] 42) none) (by simp));have d5:w2.cell? ⟨c.heap.size,9,none⟩=some V:=(by rw[x.o.cell];rfl);have dA:(w2.alloc (.cells #[K,L] 42)).cell? ⟨c.heap.size,9,none⟩=some V:=(by rw[aA.o.cell];rfl);clear I q A)
       |(refine ds _ (by rfl) _ _ 100 (by rfl) M.heap.size 42 i0 (.agg #[(0:Int),(0:Int)]) 2 16 Tryz.underlying100 hi aX aY aZ rfl (by decide) V r.length _ (by rfl) (by exact a7.o.alloc _) ⟨w2.heap.size,0,none⟩ 1 1 (stC_ (⟨K,L⟩:Gst)) (by rfl) rfl (by exact dH _ _ _) (by exact ocstC_ _) (by decide) (by unfold maxLen;omega) (by omega) (by simp;omega) (w2.heap.size+1) (by simp) ?_;intro g U w3 af Q a8 _;have J:=hid (aA.o.keep Q (λg e=>by have:=a4.o g e;omega));have d6:w3.cell? ⟨c.heap.size,9,none⟩=some V:=(by rw[J.o.cell];rfl);have f6:w3.frozen? ⟨c.heap.size,9,none⟩=false:=aS _ _ _ _ _ J.o.obj;have a9:=hid af;have aD:=Q.size;clear af Q a8))
     all_goals
      have B:=hid (J.o.set 9 (.slice (some ⟨g,0,none⟩) (r.length+1) U) #[(2:Int),f,j,l,(0:Int),(0:Int),(0:Int),.string ⟨#[]⟩,false,.slice (some ⟨g,0,none⟩) (r.length+1) U,(0:Int),(0:Int),(0:Int),(0:Int),(0:Int),(0:Int),.string ⟨#[]⟩,.slice none 0 0] rfl);have ba:=hid (ownsRow_setCell_below (a:=⟨c.heap.size,9,none⟩) a9.o aB (.slice (some ⟨g,0,none⟩) (r.length+1) U));have aE:M.heap.size<=(w3.setCell ⟨c.heap.size,9,none⟩ (.slice (some ⟨g,0,none⟩) (r.length+1) U)).heap.size:=by simp at aD ⊢;omega
      go_wp2;go_roundw
      case rel=>exact⟨k+1,.slice (some ⟨g,0,none⟩) (r.length+1) U,r++[(⟨K,L⟩:Gst)],s4,N,by go_num,by omega,by rw[al,aK,bJ];exact ba.o,B,hid (ae.o.next stT Z.o),aE⟩
      case measure=>simp[RowKit.intOf];omega
   ·obtain rfl:k=n:=by omega
    have i5:¬(k:Int)<(k:Int):=by omega
    have i6:decide ((k:Int)<(k:Int))=false:=aC i5;obtain⟨A3,c3,rfl⟩:=bU z;have T:OpIn wr (λk=>M.heap.size<=k) { opO 2 ⟨⟨f,j⟩,l⟩ with dots:=r } ⟨A3,c3,none,0⟩:=⟨sts_own z,RowG.zero,(fw z).1,aa _,(fw z).2,aq _,aq _,aq _⟩;have ar:=hid T;have au:=hid (RdIs.op2 ab.o ac.o (RdIs.many R.o (by rw[bX];exact HM.o.done ((.inr (iQ _))))));clear T z HM
    go_wp2_with (first
     |(refine cd rfl _ _ rfl c.heap.size _ _ _ rfl t.o.obj am rfl ?_ ?_;kernel_rfl)
     |(refine bW rfl _ _ _ rfl w.heap.size _ _ _ rfl rfl t.o.res ?_ ?_ ?_ ?_;kernel_rfl;rfl;rfl))
    refine aU (bG rfl _ _ w.heap.size _ _ (0,0) _ rfl (aF _ t.o.res) am rfl (by kernel_rfl)) rfl ?_;refine⟨{ opO 2 ⟨⟨f,j⟩,l⟩ with dots:=r },_,O,_,rfl,⟨⟨A3,c3,none,0⟩,rfl,(ar.o.agr (Agr.setRow _ w.heap.size _ (by omega))).sub (λk _ h=>by omega),aq _,aq _⟩,(setRow_other _ _ _ _ (by have:=t.o.nb;omega)).trans t.o.rdr,fk t.o.grow _ _ (aa _),au.o⟩
 by_cases k3:k=3
 ·subst k3;go_wp2_with fail;refine(cid_any b s2 ai V2 W F.o.rdr).mono ?_;rintro e M ⟨⟨⟨m,o⟩,p⟩,v,s3,D,rfl,hv,G,H,y⟩;have X:=cL y W;have u:=hid (F.o.call G H);have R:=hid y;obtain rfl:v= .agg #[m,o,p]:=hv;clear G H y;go_upto_region 22 with(first|(refine bV rfl _ _ _ rfl c.heap.size 10 _ _ #[(3:Int),f,j,l,(0:Int),(0:Int),(0:Int),.string ⟨#[]⟩,false,.slice none 0 0,m,o,p,(0:Int),(0:Int),(0:Int),.string ⟨#[]⟩,.slice none 0 0] _ rfl u.o.obj rfl ?_ ?_ ?_ rfl ?_;kernel_rfl;exact aR rfl;rfl));have Y:=u.o.put #[(3:Int),f,j,l,(0:Int),(0:Int),(0:Int),.string ⟨#[]⟩,false,.slice none 0 0,m,o,p,(0:Int),(0:Int),(0:Int),.string ⟨#[]⟩,.slice none 0 0];generalize C:M.setRow c.heap.size #[(3:Int),f,j,l,(0:Int),(0:Int),(0:Int),.string ⟨#[]⟩,false,.slice none 0 0,m,o,p,(0:Int),(0:Int),(0:Int),.string ⟨#[]⟩,.slice none 0 0]=V3 at *;clear C;have E:=hid Y;clear Y;go_wp2_with fail;refine(cid_any b s3 D V3 X E.o.rdr).mono ?_;rintro e y4 ⟨⟨⟨K,L⟩,i4⟩,v,s4,N,rfl,hv,I,q,A⟩;have ay:=cL A X;have ag:=hid (E.o.call I q);have Z:=hid A;obtain rfl:v= .agg #[K,L,i4]:=hv;clear I q A
  go_upto_region 23 with(first|(refine bV rfl _ _ _ rfl c.heap.size 13 _ _ #[(3:Int),f,j,l,(0:Int),(0:Int),(0:Int),.string ⟨#[]⟩,false,.slice none 0 0,m,o,p,K,L,i4,.string ⟨#[]⟩,.slice none 0 0] _ rfl ag.o.obj rfl ?_ ?_ ?_ rfl ?_;kernel_rfl;exact aR rfl;rfl));have ah:=ag.o.put #[(3:Int),f,j,l,(0:Int),(0:Int),(0:Int),.string ⟨#[]⟩,false,.slice none 0 0,m,o,p,K,L,i4,.string ⟨#[]⟩,.slice none 0 0];generalize C:y4.setRow c.heap.size #[(3:Int),f,j,l,(0:Int),(0:Int),(0:Int),.string ⟨#[]⟩,false,.slice none 0 0,m,o,p,K,L,i4,.string ⟨#[]⟩,.slice none 0 0]=V4 at *;clear C;have x:=hid ah;clear ah;go_wp2_with fail;refine(cbytes_any b s4 N V4 ay x.o.rdr).mono ?_;rintro e y5 ⟨x5,v,s5,aw,rfl,⟨rfl,bv⟩,ak,az,av⟩;have bD:=cL av ay;have ad:=hid (x.o.call ak az);have aH:=hid av;clear ak az av;go_upto_region 30 with(first|(refine bV rfl _ _ _ rfl c.heap.size 16 _ _ #[(3:Int),f,j,l,(0:Int),(0:Int),(0:Int),.string ⟨#[]⟩,false,.slice none 0 0,m,o,p,K,L,i4,x5,.slice none 0 0] _ rfl ad.o.obj rfl ?_ ?_ ?_ rfl ?_;kernel_rfl;exact aR rfl;rfl));have bw:=ad.o.put #[(3:Int),f,j,l,(0:Int),(0:Int),(0:Int),.string ⟨#[]⟩,false,.slice none 0 0,m,o,p,K,L,i4,x5,.slice none 0 0];generalize C:y5.setRow c.heap.size #[(3:Int),f,j,l,(0:Int),(0:Int),(0:Int),.string ⟨#[]⟩,false,.slice none 0 0,m,o,p,K,L,i4,x5,.slice none 0 0]=V5 at *;clear C;have J:=hid bw
  clear bw
  go_wp2_with (first
   |(refine cd rfl _ _ rfl c.heap.size _ _ _ rfl J.o.obj am rfl ?_ ?_;kernel_rfl)
   |(refine bW rfl _ _ _ rfl w.heap.size _ _ _ rfl rfl J.o.res ?_ ?_ ?_ ?_;kernel_rfl;rfl;rfl))
  refine aU (bG rfl _ _ w.heap.size _ _ (0,0) _ rfl (aF _ J.o.res) am rfl (by kernel_rfl)) rfl ?_;refine⟨{ opO 3 ⟨⟨f,j⟩,l⟩ with after:=⟨⟨m,o⟩,p⟩,elem:=⟨⟨K,L⟩,i4⟩,text:=x5 },_,s5,aw,rfl,⟨⟨none,0,none,0⟩,rfl,OpIn.none rfl rfl (aq _) bv,aq _,bv⟩,(setRow_other _ _ _ _ (by have:=J.o.nb;omega)).trans J.o.rdr,fk J.o.grow _ _ (aa _),RdIs.op3 ab.o ac.o R.o Z.o aH.o⟩
 by_cases k4:k=4
 ·subst k4;obtain⟨i0,hi,aX,aY,aZ⟩:=bx infoidC_;go_wp2_with fail;refine(ig b s2 ai V2 W F.o.rdr).mono ?_;rintro e M ⟨n0,v,s3,D,rfl,⟨rfl,ao⟩,G,H,y⟩;obtain⟨n,rfl⟩:=dU ao.1;have hn:n<9223372036854775808:=by have:=ao.2;omega
  have X:=cL y W;have u:=hid (F.o.call G H);have R:=hid y;have aB:=lt_of_block u.o.obj;have bb:=u.o.nO;have bc:=u.o.nR;have bd:=u.o.nb;clear G H y ao bs;go_wp2;go_loopw [8] (λi wr=>∃(k:Nat) (V:Value) (r:List Gid) (O:ByteArray) (P:Bool),i= .int .i64 k∧k<=n∧wr.ownsRow M.heap.size 108 3 V r.length (r.flatMap idC_)∧Hid (CoSt w b w.heap.size c.heap.size 125 #[(0:Int),(0:Int),(0:Int),(0:Int),(0:Int),(0:Int),(0:Int),.string ⟨#[]⟩,false,.slice none 0 0,(0:Int),(0:Int),(0:Int),(0:Int),(0:Int),(0:Int),.string ⟨#[]⟩,.slice none 0 0] #[(4:Int),f,j,l,(0:Int),(0:Int),(0:Int),.string ⟨#[]⟩,false,.slice none 0 0,(0:Int),(0:Int),(0:Int),(0:Int),(0:Int),(0:Int),.string ⟨#[]⟩,V] O P wr)∧Hid (ManyAt idR n s3.data.toList D (n-k) r O.data.toList P)∧M.heap.size<=wr.heap.size) (λi _=>n-(RowKit.intOf i).toNat)
  case atStart=>exact⟨0,.slice none 0 0,[],s3,D,rfl,aq _,⟨rfl,.inl ⟨rfl,rfl⟩⟩,u,hid ManyAt.start,aa _⟩
  case round=>
   obtain⟨k,V,r,O,P,rfl,hk,z,t,HM,bz⟩:=hrel;have a0:=HM.o.le;have ap:=HM.o.few;have a1:s3.data.toList.length=s3.size:=by simp
   have a2:O.data.toList.length=O.size:=by simp
   have bC:r.length<=1000001:=by split at ap<;>omega
   have a3:O.size<=1000000:=by omega
   have c1:=t.o.rdr.c1;clear a0 ap a1 a2;by_cases aM:k<n
   ·have i5:(k:Int)<(n:Int):=by omega
    have i6:decide ((k:Int)<(n:Int))=true:=aI i5;cases P with
    | true=>
     obtain⟨A3,c3,rfl⟩:=bU z;have T:OpIn wr (λk=>M.heap.size<=k) { opO 4 ⟨⟨f,j⟩,l⟩ with elems:=r } ⟨none,0,A3,c3⟩:=⟨RowG.zero,ids_own z,aa _,(fw z).1,aq _,(fw z).2,aq _,aq _⟩;have ar:=hid T;have au:=hid (RdIs.op4 ab.o ac.o (RdIs.many R.o (by rw[bX];exact HM.o.done ((.inl (by first|rfl|trivial))))));clear T z HM
     go_wp2_with (first
      |(refine cd rfl _ _ rfl c.heap.size _ _ _ rfl t.o.obj am rfl ?_ ?_;kernel_rfl)
      |(refine bW rfl _ _ _ rfl w.heap.size _ _ _ rfl rfl t.o.res ?_ ?_ ?_ ?_;kernel_rfl;rfl;rfl))
     refine aU (bG rfl _ _ w.heap.size _ _ (0,0) _ rfl (aF _ t.o.res) am rfl (by kernel_rfl)) rfl ?_;refine⟨{ opO 4 ⟨⟨f,j⟩,l⟩ with elems:=r },_,O,_,rfl,⟨⟨none,0,A3,c3⟩,rfl,(ar.o.agr (Agr.setRow _ w.heap.size _ (by omega))).sub (λk _ h=>by omega),aq _,aq _⟩,(setRow_other _ _ _ _ (by have:=t.o.nb;omega)).trans t.o.rdr,fk t.o.grow _ _ (aa _),au.o⟩
    | false=>
     have HC:=hid (cid_any b O false wr.drew a3 (by exact t.o.rdr));have a4:=hid (λg e=>(z.lt g e).1);have a5:=hid (show V.ownBlock≠some b from λe=>by have:=(z.lt b e).1;omega);have a6:=hid z;have d0:wr.cell? ⟨c.heap.size,17,none⟩=some V:=by rw[t.o.cell];rfl
     have z0:c.heap.size<wr.heap.size:=by omega
     have em:n-k=(n-(k+1))+1:=by omega
     have ae:=HM.o;rw[em] at ae;have ae:=hid ae;clear z em;go_upto_region 29 with fail
     go_region_law
      (first
       |(go_simp;go_at_call 177;refine HC.o.mono ?_;rintro e w2 ⟨⟨⟨K,L⟩,i4⟩,v2,s4,N,rfl,hv,I,q,A⟩;obtain rfl:v2= .agg #[K,L,i4]:=hv;replace q:wr.grownBy w2 (some b):=bZ (⟨rfl,rfl,rfl,aa _,λ_ _ _=>rfl⟩:wr.grownBy wr.drew (some b)) q;have x:=hid (t.o.call I q);have a7:=hid (a6.o.kept q (.inr a5.o));have Z:=hid A;have bA:=q.size;have aA:=hid (x.o.keep (aQ w2 (.cells #[K,L,i4] 108) none) (by simp));have d5:w2.cell? ⟨c.heap.size,17,none⟩=some V:=(by rw[x.o.cell];rfl);have dA:(w2.alloc (.cells #[K,L,i4] 108)).cell? ⟨c.heap.size,17,none⟩=some V:=(by rw[aA.o.cell];rfl);clear I q A)
       |(refine ds _ (by rfl) _ _ 123 (by rfl) M.heap.size 108 i0 (.agg #[(0:Int),(0:Int),(0:Int)]) 3 24 eK hi aX aY aZ rfl (by decide) V r.length _ (by rfl) (by exact a7.o.alloc _) ⟨w2.heap.size,0,none⟩ 1 1 (idC_ (⟨⟨K,L⟩,i4⟩:Gid)) (by rfl) rfl (by exact dH _ _ _) (by exact ocidC_ _) (by decide) (by unfold maxLen;omega) (by omega) (by simp;omega) (w2.heap.size+1) (by simp) ?_;intro g U w3 af Q a8 _;have J:=hid (aA.o.keep Q (λg e=>by have:=a4.o g e;omega));have d6:w3.cell? ⟨c.heap.size,17,none⟩=some V:=(by rw[J.o.cell];rfl);have f6:w3.frozen? ⟨c.heap.size,17,none⟩=false:=aS _ _ _ _ _ J.o.obj;have a9:=hid af;have aD:=Q.size;clear af Q a8))
     all_goals
      have B:=hid (J.o.set 17 (.slice (some ⟨g,0,none⟩) (r.length+1) U) #[(4:Int),f,j,l,(0:Int),(0:Int),(0:Int),.string ⟨#[]⟩,false,.slice none 0 0,(0:Int),(0:Int),(0:Int),(0:Int),(0:Int),(0:Int),.string ⟨#[]⟩,.slice (some ⟨g,0,none⟩) (r.length+1) U] rfl);have ba:=hid (ownsRow_setCell_below (a:=⟨c.heap.size,17,none⟩) a9.o aB (.slice (some ⟨g,0,none⟩) (r.length+1) U));have aE:M.heap.size<=(w3.setCell ⟨c.heap.size,17,none⟩ (.slice (some ⟨g,0,none⟩) (r.length+1) U)).heap.size:=by simp at aD ⊢;omega
      go_wp2;go_roundw
      case rel=>exact⟨k+1,.slice (some ⟨g,0,none⟩) (r.length+1) U,r++[(⟨⟨K,L⟩,i4⟩:Gid)],s4,N,by go_num,by omega,by rw[al,aK,bJ];exact ba.o,B,hid (ae.o.next idT Z.o),aE⟩
      case measure=>simp[RowKit.intOf];omega
   ·obtain rfl:k=n:=by omega
    have i5:¬(k:Int)<(k:Int):=by omega
    have i6:decide ((k:Int)<(k:Int))=false:=aC i5;obtain⟨A3,c3,rfl⟩:=bU z;have T:OpIn wr (λk=>M.heap.size<=k) { opO 4 ⟨⟨f,j⟩,l⟩ with elems:=r } ⟨none,0,A3,c3⟩:=⟨RowG.zero,ids_own z,aa _,(fw z).1,aq _,(fw z).2,aq _,aq _⟩;have ar:=hid T;have au:=hid (RdIs.op4 ab.o ac.o (RdIs.many R.o (by rw[bX];exact HM.o.done ((.inr (iQ _))))));clear T z HM
    go_wp2_with (first
     |(refine cd rfl _ _ rfl c.heap.size _ _ _ rfl t.o.obj am rfl ?_ ?_;kernel_rfl)
     |(refine bW rfl _ _ _ rfl w.heap.size _ _ _ rfl rfl t.o.res ?_ ?_ ?_ ?_;kernel_rfl;rfl;rfl))
    refine aU (bG rfl _ _ w.heap.size _ _ (0,0) _ rfl (aF _ t.o.res) am rfl (by kernel_rfl)) rfl ?_;refine⟨{ opO 4 ⟨⟨f,j⟩,l⟩ with elems:=r },_,O,_,rfl,⟨⟨none,0,A3,c3⟩,rfl,(ar.o.agr (Agr.setRow _ w.heap.size _ (by omega))).sub (λk _ h=>by omega),aq _,aq _⟩,(setRow_other _ _ _ _ (by have:=t.o.nb;omega)).trans t.o.rdr,fk t.o.grow _ _ (aa _),au.o⟩
 ·have q0:(k == 0)=false:=by rw[aL];exact k0
  have q1:(k == 1)=false:=by rw[aL];exact k1
  have q2:(k == 2)=false:=by rw[aL];exact k2
  have q3:(k == 3)=false:=by rw[aL];exact k3
  have q4:(k == 4)=false:=by rw[aL];exact k4
  have HK:=hid (And.intro k0 (And.intro k1 (And.intro k2 (And.intro k3 k4))));have b1:=F.o.rdr.c1;have f1:=F.o.rdr.f 1;clear k0 k1 k2 k3 k4;go_upto_region 30 with(fail);have Y:=F.o.setBad true;generalize C:V2.setCell ⟨b,1,none⟩ (.bool true)=V3 at *;clear C;have E:=hid Y
  go_wp2_with (first
   |(refine cd rfl _ _ rfl c.heap.size _ _ _ rfl E.o.obj am rfl ?_ ?_;kernel_rfl)
   |(refine bW rfl _ _ _ rfl w.heap.size _ _ _ rfl rfl E.o.res ?_ ?_ ?_ ?_;kernel_rfl;rfl;rfl))
  refine aU (bG rfl _ _ w.heap.size _ _ (0,0) _ rfl (aF _ E.o.res) am rfl (by kernel_rfl)) rfl ?_;refine⟨opO k ⟨⟨f,j⟩,l⟩,_,s2,true,rfl,⟨⟨none,0,none,0⟩,rfl,OpIn.none rfl rfl (aq _) (aq _),aq _,aq _⟩,(setRow_other _ _ _ _ (by have:=E.o.nb;omega)).trans E.o.rdr,fk E.o.grow _ _ (aa _),RdIs.opx HK.o.1 HK.o.2.1 HK.o.2.2.1 HK.o.2.2.2.1 HK.o.2.2.2.2 ab.o ac.o⟩
end
section
open Go.Lib
theorem times_takeN:∀(n:Nat) (l:List UInt8),ez intR n l=match Vr.takeN n l with
  | .ok ns r=>some (ns.map λ(m:Nat)=>(m:Int),r)
  | .err _=>none
 |0,l=>rfl
 | n+1,l=>by
  cases ht:Vr.take l with
  |err e=>
   rw[Vr.takeN_err ht]
   exact ff (f:=λx=>ca (ez intR n) λxs=>dD (x::xs)) (by unfold intR;rw[ht])
  |ok m r=>
   rw[Vr.takeN_ok ht]
   have h1:intR l=some ((m:Int),r):=by unfold intR;rw[ht]
   have e1:ez intR (n+1) l=ca (ez intR n) (λxs=>dD ((m:Int)::xs)) r:=bP (f:=λx=>ca (ez intR n) λxs=>dD (x::xs)) h1
   rw[e1]
   have ih:=times_takeN n r
   cases h2:Vr.takeN n r with
   |err e=>rw[h2] at ih;rw[ff ih];rfl
   |ok ns q=>rw[h2] at ih;rw[bP ih];rfl
theorem times_le:∀(n:Nat) (l:List UInt8) (xs:List Int) (r:List UInt8),ez intR n l=some (xs,r)->r.length+n<=l.length
 |0,l,xs,r,h=>by cases h;exact aa _
 |n+1,l,xs,r,h=>by
  obtain⟨x,q,h1,h2⟩:=cK (f:=λx=>ca (ez intR n) λxs=>dD (x::xs)) h
  obtain⟨ys,q2,h3,h4⟩:=cK h2
  cases h4
  have:=intT _ _ _ h1
  have:=times_le n _ _ _ h3
  omega
theorem many_nats (l:List UInt8):eG intR l=match Vr.takeNats l with
  | .ok ns r=>some (ns.map λ(m:Nat)=>(m:Int),r)
  | .err _=>none:=by
 unfold Vr.takeNats;cases a:Vr.take l with
 |err e=>exact ff (p:=intR) (f:=λn:Int=>ez intR n.toNat) (by unfold intR;rw[a])
 | ok n r=>
  have c:eG intR l=ez intR n r:=by
   have:=bP (f:=λn:Int=>ez intR n.toNat) (show intR l=some ((n:Int),r) by unfold intR;rw[a]);rw[bX] at this;exact this
  rw[c];by_cases b:r.length<n
  ·simp only[aN b];cases h:ez intR n r with
   |none=>rfl
   |some y=>obtain⟨d,q⟩:=y;have:=times_le _ _ _ _ h;omega
  ·simp only[aE b];exact times_takeN n r
theorem takeNats_le {l:List UInt8} {a:List Nat} {r:List UInt8} (h:Vr.takeNats l= .ok a r):r.length<=l.length:=by
 have:=(Vr.takeNats_back h).1;rw[this,al];omega
theorem RdIs.nats {l:List UInt8} {ns:List Nat} {r:List UInt8} (h:Vr.takeNats l= .ok ns r) (b:Bool):RdIs (eG intR) l b (ns.map λ(m:Nat)=>(m:Int)) r b:=
 ⟨λe=>e,λe=> .inl ⟨e,by rw[many_nats,h]⟩,takeNats_le h⟩
theorem RdIs.nonats {l:List UInt8} {c:Nat} (h:Vr.takeNats l= .err c) (b:Bool) (x:List Int):RdIs (eG intR) l b x [] true:=
 ⟨λ_=>rfl,λe=> .inr ⟨rfl,by rw[many_nats,h]⟩,aq _⟩
theorem takeN_pos:∀(k:Nat) (l:List UInt8) (e:Nat),Vr.takeN k l= .err e->1<=e
 |0,l,e,h=>by cases h
 | k+1,l,e,h=>by
  cases ht:Vr.take l with
  |err c=>
   rw[Vr.takeN_err ht] at h
   cases h
   have:=Vr.takeF_err _ _ _ _ ht;omega
  |ok n r=>
   rw[Vr.takeN_ok ht] at h
   cases h2:Vr.takeN k r with
   |err c=>rw[h2] at h;cases h;exact takeN_pos k r _ h2
   |ok ms q=>rw[h2] at h;cases h
theorem takeNats_pos {l:List UInt8} {e:Nat} (h:Vr.takeNats l= .err e):1<=e:=by
 unfold Vr.takeNats at h;cases a:Vr.take l with
 |err c=>rw[a] at h;cases h;have:=Vr.takeF_err _ _ _ _ a;omega
 |ok n r=>
  rw[a] at h;simp only at h;split at h
  ·cases h;omega
  ·exact takeN_pos _ _ _ h
theorem decZ_bad {α:Type} {l l':List UInt8} {x:α} {p:Rd α} {f:α->Rd Grp} (a:grpR=ca p f) (h:RdIs p l false x l' true):decZ l=none:=by
 unfold decZ;rcases h.step rfl with⟨h1,_⟩|⟨_,h2⟩
 ·cases h1
 ·rw[a,ff h2]
theorem decZ_lost {l e g h:List UInt8} {i j k:Bool} {b:Gst} {n:Int} {v:List Int} (m:RdIs stR l false b e i) (q:RdIs intR e i n g j) (r:RdIs (eG intR) g j v h k) (t:k=true):decZ l=none:=by
 subst t;refine decZ_bad (p:=ca stR λs=>ca intR λn=>ca (eG intR) λv=>dD (s,n,v)) (x:=(b,n,v)) (l':=h) (f:=λy=>ca stR λu=>ca (eG opR) λo=>dD (⟨y.1,y.2.1,y.2.2,u,o⟩:Grp)) ?_ ?_
 ·funext l;unfold grpR ca dD;cases stR l with
  |none=>rfl
  | some a=>
   obtain⟨a,w⟩:=a;dsimp only;cases intR w with
   |none=>rfl
   |some c=>
    obtain⟨c,z⟩:=c;dsimp only;cases eG intR z with
    |none=>rfl
    |some d=>rfl
 ·exact RdIs.bind (f:=λs=>ca intR λn=>ca (eG intR) λv=>dD (s,n,v)) m (RdIs.bind (f:=λn=>ca (eG intR) λv=>dD (b,n,v)) q (RdIs.bind (f:=λv=>dD (b,n,v)) r RdIs.pure))
end
section
open Go.RowKit Go.Lib
theorem intsF_list (a:List Nat) (i:Nat) (h:i<a.length):(a.map λm=>Value.int .i64 (m:Nat))[i]? =some (intsF a i):=by
 simp[intsF,h]
theorem row_of_own {w:World} {b e n:Nat} {v:Value} {a:List Nat} (h:w.ownsRow b e 1 v n (a.map λm=>Value.int .i64 (m:Nat))):
  ∃A cap,v= .slice A a.length cap∧Row1 w w.heap.size A a.length (intsF a):=by
 have c:n=a.length:=by have:=own_len h;simpa using this
 subst c;rcases h.2 with⟨rfl,h0⟩|⟨g,cap,cur,rfl,_⟩
 ·have:a=[]:=by simpa using h0
  subst this;exact⟨none,0,rfl,Row1.nil⟩
 ·exact⟨_,cap,rfl,Row1.of_own h (λi d=>intsF_list a i d)⟩
def TnO (r:Vr.LR) (w:World) (e:Ending) (w':World):Prop:=match r with
 | .ok ns r=>∃A cap,e= .returned (.tuple #[.slice A ns.length cap,.string ⟨r.toArray⟩,(0:Int)])∧w'.ownsRow w.heap.size 3 1 (.slice A ns.length cap) ns.length (ns.map λm=>Value.int .i64 (m:Nat))∧Below w.heap.size w w'
 | .err c=>e= .returned (.tuple #[.slice none 0 0,.string ⟨#[]⟩,.int .i64 (c:Nat)])∧Below w.heap.size w w'
theorem TnO_err {r:Vr.LR} {c:Nat} (h:r= .err c) {w w':World} (a:Below w.heap.size w w'):TnO r w (.returned (.tuple #[.slice none 0 0,.string ⟨#[]⟩,(c:Int)])) w':=by
 subst h;exact⟨rfl,a⟩
theorem reftakenats_own (s:ByteArray) (hs:s.size<=1000000) (w:World):
  Calls Tryz.prog 129 #[s] w λe w'=>TnO (Vr.takeNats s.data.toList) w e w':=by
 have q:Hid (s.size<=maxLen):=hid (by unfold maxLen;omega);have t:s.data.toList.length=s.size:=by simp
 cases b:Vr.take s.data.toList with
 |err c=>
  have l:=hid (λw'=>@TnO_err _ c (takeNats_err b) w w');have x:=hid (tkIs_err b);have t1:((c:Int) != 0)=true:=by rw[cM];have:=err_ne b;omega
  generalize Vr.takeNats s.data.toList=g at *;clear b t;go_enter Tryz.func129,Tryz.ntmps129;go_wp2_with fail;refine(eF s q.o 0 ⟨#[]⟩ c x.o _).mono ?_;rintro e L ⟨rfl,k,rfl⟩;go_wp2;go_ret3;exact l.o _ (dE (ag _ _) _)
 | ok n r=>
  have x:=hid (tkIs_ok b);have G:=take_le b;have y:=size_mkB r;obtain⟨R,C⟩:∃R:ByteArray,R=⟨r.toArray⟩:=⟨_,rfl⟩;rw[<-C] at x y;by_cases M:r.length<n
  ·have l:=hid (λw'=>@TnO_err _ 10 (takeNats_short b M) w w');have t2:(R.size:Int)<(n:Int):=by omega
   generalize Vr.takeNats s.data.toList=g at *;clear b t G C y;go_enter Tryz.func129,Tryz.ntmps129;go_wp2_with fail;refine(eF s q.o n R 0 x.o _).mono ?_;rintro e L ⟨rfl,k,rfl⟩;go_wp2;go_ret3;exact l.o _ (dE (ag _ _) _)
  ·have U:=hid (takeNats_go b M);have t2:¬(R.size:Int)<(n:Int):=by omega
   have t3:decide (R.size<n)=false:=by simp;omega
   have t4:decide ((R.size:Int)<(n:Int))=false:=by simp;omega
   have ad:n<=1000000:=by omega
   have V:R.size<=1000000:=by omega
   have W:=hid C;obtain⟨g,z⟩:∃a,a=Vr.takeNats s.data.toList:=⟨_,rfl⟩;rw[<-z] at U ⊢;clear b t G C y M z;obtain⟨i0,hi,X,Y,Z⟩:=bx infoI;go_enter Tryz.func129,Tryz.ntmps129;go_wp2_with fail;refine(eF s q.o n R 0 x.o _).mono ?_;rintro e L ⟨rfl,k,rfl⟩;go_wp2;go_loopw [6,8,9] (λrs v i wr=>∃f:List Nat,∃T:ByteArray,∃m:Nat,f.length<=n∧m=f.length∧wr.ownsRow w.heap.size 3 1 v m (f.map λm=>Value.int .i64 (m:Nat))∧i= .int .i64 f.length∧rs= .string T∧T.size<=1000000∧Hid (g=Vr.LR.pre f (Vr.takeN (n-f.length) T.data.toList))∧Below w.heap.size w wr) (λ_ _ i _=>n-(RowKit.intOf i).toNat)
   case atStart=>
    refine⟨[],R,0,by simp,rfl,aH _ _ _ _,rfl,rfl,V,?_,dE (ag _ _) k⟩;show g=_;rw[U.o,W.o,Vr.LR.pre_nil];rfl
   case round=>
    obtain⟨f,T,j,hk,d,p,rfl,rfl,hT,N,D⟩:=hrel;rw[<-d] at hk ⊢;by_cases ae:j<n
    ·have H:Hid (T.size<=maxLen):=hid (by unfold maxLen;omega);have I:T.data.toList.length=T.size:=by simp
     cases b:Vr.take T.data.toList with
     |err c=>
      have l:=hid (λw'=>@TnO_err g c (by rw[N.o,<-d,show n-j=(n-j-1)+1 by omega,Vr.takeN_err b];rfl) w w');have o:=hid (tkIs_err b);have t1:((c:Int) != 0)=true:=by rw[cM];have:=err_ne b;omega
      have O:=hid d;clear b I p d;go_wp2_with fail;refine(eF T H.o 0 ⟨#[]⟩ c o.o _).mono ?_;rintro e w2 ⟨rfl,k2,rfl⟩;go_wp2;go_ret3;exact l.o _ (dE D _)
     | ok m P=>
      have aa:=take_le b;have J:=size_mkB P;have o:=hid (tkIs_ok b);have HN:Hid (g=Vr.LR.pre (f++[m]) (Vr.takeN (n-(j+1)) P)):=hid (by rw[N.o,<-d,show n-j=(n-(j+1))+1 by omega,Vr.takeN_ok b,Vr.LR.pre_pre]);obtain⟨Q,B⟩:∃R:ByteArray,R=⟨P.toArray⟩:=⟨_,rfl⟩;rw[<-B] at o J;have S:Q.size<=1000000:=by omega
      have ab:=hid B;have O:=hid d;have ac:=D.size;clear b I aa J B d;go_wp2_with fail;refine(eF T H.o m Q 0 o.o _).mono ?_;rintro e w2 ⟨rfl,k2,rfl⟩;go_wp2_with (at_builtin;refine bv _ rfl _ _ 27 rfl w.heap.size 3 i0 (.int .i64 0) 1 8 jw hi X Y Z rfl (by decide) _ _ _ rfl (by exact p.alloc _) ⟨wr.heap.size,0,none⟩ 1 1 [(m:Int)] rfl rfl (by exact cellOne wr _ _) (λu hu=>by simp at hu;subst hu;rfl) (by unfold maxLen;omega) (by omega) (by simp;omega) ?_;intro v' L E F _);go_roundw
      case rel=>
       have d:=O.o;refine⟨f++[m],Q,j+1,by simp;omega,by simp;omega,by rw[bD];exact E,by rw[al,<-d];go_num,rfl,S,?_,((dE D k2).alloc (by simpa using ac) _).grown F (by simp;omega) (λi h=>(p.lt i h).1)⟩;show g=_;rw[HN.o,ab.o,al,<-d];rfl
      case measure=>simp[RowKit.intOf];omega
    ·obtain rfl:j=n:=by omega
     have hQ:g= .ok f T.data.toList:=by
      rw[N.o,<-d,iQ];simp[Vr.takeN,Vr.LR.pre]
     have l:=hid hQ;obtain⟨A,K,rfl,-⟩:=row_of_own p;have HO:=hid (show wr.ownsRow w.heap.size 3 1 (.slice A f.length K) f.length (f.map λm=>Value.int .i64 (m:Nat)) from by have h:=p;rw[d] at h;exact h);have O:=hid d;clear hQ d p;go_wp2;go_ret3;rw[l.o];exact⟨A,K,rfl,HO.o,D⟩
end
end Go.Proofs.YtkhmicndehlneaaGreatDoor
