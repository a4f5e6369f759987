/- Part 4 of the walks and plain laws that this claim uses, joined. Conditions: as each theorem states. -/
import Derived.Maps.AppendAt
import Derived.Outline
import Derived.Test.YtkhmicndehlneaaGreatDoorYrb
import Derived.Test.YtkhmicndehlneaaGreatDoorYrc
namespace Go.Proofs.YtkhmicndehlneaaGreatDoor
set_option maxRecDepth 100000
set_option maxHeartbeats 16000000
set_option linter.unusedVariables false
section
section
open Go.RowKit Go.Lib Go.Sort
section
variable {w w1 w2 : World} {r : Option Nat}
theorem ku:w.grownBy w r:=⟨rfl,rfl,rfl,aa _,λ_ _ _=>rfl⟩
theorem bZ (h:w.grownBy w1 r) (k:w1.grownBy w2 r):w.grownBy w2 r:=
 ⟨k.os.trans h.os,k.tape.trans h.tape,k.output.trans h.output,aP h.size k.size,λi hi hr=>(k.block i (bS hi h.size) hr).trans (h.block i hi hr)⟩
theorem dB (h:Below w.heap.size w w1):w.grownBy w1 r:=⟨h.os,h.tape,h.output,h.size,λi hi _=>h.block i hi⟩
theorem gby_new {q:Option Nat} (h:w.grownBy w1 r) (k:w1.grownBy w2 q) (hq:∀g,q=some g->w.heap.size<=g):w.grownBy w2 r:=
 ⟨k.os.trans h.os,k.tape.trans h.tape,k.output.trans h.output,aP h.size k.size,λi hi hr=>(k.block i (bS hi h.size) (λe=>by have:=hq i e.symm;omega)).trans (h.block i hi hr)⟩
theorem di (b o:Nat) (v:Value):w.grownBy (w.setCell ⟨b,o,none⟩ v) (some b):=
 ⟨rfl,rfl,rfl,by simp[World.setCell],λi hi hr=>bB _ _ _ _ (λe=>hr (by rw[e]))⟩
theorem fg (h:w.grownBy w1 r) (b o:Nat) (v:Value) (hb:w.heap.size<=b):w.grownBy (w1.setCell ⟨b,o,none⟩ v) r:=
 gby_new h (di b o v) (λg e=>by cases e;exact hb)
theorem gV (h:w.grownBy w1 r) (o:Obj):w.grownBy (w1.alloc o) r:=bZ h (aQ w1 o r)
theorem fk (h:w.grownBy w1 r) (b:Nat) (c:Array Value) (f:w.heap.size<=b):w.grownBy (w1.setRow b c) r:=by
 have a:Below b w1 (w1.setRow b c):=Below.setRow' (ag b w1) (aa b) c;exact⟨a.os.trans h.os,a.tape.trans h.tape,a.output.trans h.output,aP h.size a.size,λi d e=>(a.block i (by omega)).trans (h.block i d e)⟩
theorem jo (h:w.grownBy w1 r) (k:Nat):w.grownBy (w1.drewN k) r:=⟨h.os,h.tape,h.output,h.size,h.block⟩
end
def Rdr (w:World) (b:Nat) (s:ByteArray) (bad:Bool):Prop:=w.heap[b]? =some (.cells #[s,bad] 133 (0,0))
section
variable {w w' : World} {b : Nat} {s : ByteArray} {bad : Bool}
theorem Rdr.c0 (h:Rdr w b s bad):w.cell? ⟨b,0,none⟩=some (.string s):=by rw[crw h];rfl
theorem Rdr.c1 (h:Rdr w b s bad):w.cell? ⟨b,1,none⟩=some (.bool bad):=by rw[crw h];rfl
theorem Rdr.f (h:Rdr w b s bad) (j:Nat):w.frozen? ⟨b,j,none⟩=false:=aS _ _ _ _ _ h
theorem Rdr.lt (h:Rdr w b s bad):b<w.heap.size:=eL h.c0
theorem Rdr.set (h:Rdr w b s bad) (c:ByteArray) (a:Bool):Rdr ((w.setCell ⟨b,0,none⟩ (.string c)).setCell ⟨b,1,none⟩ (.bool a)) b c a:=by
 unfold Rdr at h ⊢;simp[World.setCell,bY,h]
theorem Rdr.set1 (h:Rdr w b s bad) (a:Bool):Rdr (w.setCell ⟨b,1,none⟩ (.bool a)) b s a:=by
 unfold Rdr at h ⊢;simp[World.setCell,bY,h]
theorem Rdr.kept {r:Option Nat} (h:Rdr w b s bad) (hg:w.grownBy w' r) (hr:r≠some b):Rdr w' b s bad:=(hg.block b h.lt (λe=>hr e.symm)).trans h
theorem Rdr.keptN (h:Rdr w b s bad) (k:Nat):Rdr (w.drewN k) b s bad:=h
end
def RdQ {α:Type} (p:Rd α) (P:α->World->Value->Prop) (b:Nat) (s:ByteArray) (bad:Bool) (w:World) (e:Ending) (w':World):Prop:=
 ∃(x:α) (v:Value) (s':ByteArray) (bad':Bool),e= .returned v∧P x w' v∧Rdr w' b s' bad'∧w.grownBy w' (some b)∧RdIs p s.data.toList bad x s'.data.toList bad'
def PInt (n:Int) (_:World) (v:Value):Prop:=v= .int .i64 n∧okI n
def PStr (x:ByteArray) (_:World) (v:Value):Prop:=v= .string x∧x.size<=1000000
def PSt (x:Gst) (_:World) (v:Value):Prop:=v=stV x
def PId (x:Gid) (_:World) (v:Value):Prop:=v=idV x
theorem RdIs.take {s:ByteArray} {n:Nat} {R:ByteArray} {c:Nat} (h:TkIs s.data.toList n R c) (a:Bool):RdIs intR s.data.toList a (n:Int) R.data.toList (a || decide (c≠0)):=by
 have b:R.data.toList.length=R.size:=by simp
 refine⟨λe=>by rw[e];rfl,λe=> ?_,by rw[b];exact h.len⟩;obtain⟨rfl,rfl,rfl⟩:=h;unfold intR tkE tkN tkR;cases d:Vr.take s.data.toList with
 |ok n r=>exact .inl ⟨by rw[e];simp,rfl⟩
 |err c=>
  refine .inr ⟨?_,rfl⟩;have f:c≠0:=by have:=Vr.takeF_err _ _ _ _ d;omega
  simp[f]
theorem ge (b:Nat) (s:ByteArray) (a:Bool) (w:World) (p:s.size<=1000000) (d:Rdr w b s a):
  Calls Tryz.prog 82 #[.pointer (some ⟨b,0,none⟩)] w (RdQ intR PInt b s a w):=by
 obtain⟨n,R,c,g⟩:∃n R c,TkIs s.data.toList n R c:=⟨_,_,_,rfl,rfl,rfl⟩;have f:∀k v,v=(a || decide (c≠0))->RdQ intR PInt b s a w (.returned (.int .i64 n)) (((w.drewN k).setCell ⟨b,0,none⟩ (.string R)).setCell ⟨b,1,none⟩ (.bool v)):=λk v h=>
  ⟨n,_,R,_,rfl,⟨rfl,by omega,by have:=g.lt;omega⟩,(d.keptN k).set R v,bZ (bZ (jo ku k) (di _ _ _)) (di _ _ _),by rw[h];exact RdIs.take g a⟩
 have i:=hid f;have j:=hid (jf s (by unfold maxLen;omega) n R c g);have q:=d.c0;have r:=d.c1;have t:=d.f 0;have u:=d.f 1;clear f g d;cases a with
 |true=>
  go_enter Tryz.func82,Tryz.ntmps82;go_wp2_with fail;refine(j.o _).mono ?_;rintro e m ⟨rfl,k,rfl⟩;go_wp2;go_ret;exact i.o k _ rfl
 | false=>
  by_cases l:c=0
  ·subst l;go_enter Tryz.func82,Tryz.ntmps82;go_wp2_with fail;refine(j.o _).mono ?_;rintro e m ⟨rfl,k,rfl⟩;go_wp2;go_ret;exact i.o k _ rfl
  ·have x:((c:Int) != 0)=true:=by rw[cM];omega
   have h:true=(false || decide (c≠0)):=by simp[l]
   have o:=hid h;clear h l;go_enter Tryz.func82,Tryz.ntmps82;go_wp2_with fail;refine(j.o _).mono ?_;rintro e m ⟨rfl,k,rfl⟩;go_wp2;go_ret;exact i.o k _ o.o
theorem RdIs.takeb {s:ByteArray} {n:Nat} {R:ByteArray} {c:Nat} (h:TkIs s.data.toList n R c) (p:s.size<=1000000) (d:Bool):
  RdIs eZ s.data.toList d (tbT n R c) (tbR n R c).data.toList (d || decide (tbE n R c≠0))∧(tbT n R c).size<=1000000:=by
 have q:R.data.toList.length=R.size:=by simp
 have m:=h.len;have o:s.data.toList.length=s.size:=by simp
 have j:=RdIs.take h d;by_cases a:c=0
 ·subst a;by_cases b:R.size<n
  ·have f:tbT n R 0=⟨#[]⟩:=by unfold tbT;rw[aE (by omega),aN b]
   have g:tbR n R 0=⟨#[]⟩:=by unfold tbR;rw[aE (by omega),aN b]
   have i:tbE n R 0=10:=by unfold tbE;rw[aE (by omega),aN b]
   rw[f,g,i];refine⟨⟨λe=>by rw[e];rfl,λe=> .inr ⟨by simp,?_⟩,by simp⟩,by decide⟩;rcases j.step e with⟨_,h2⟩|⟨h1,_⟩
   ·unfold eZ;rw[bP h2,bX,aN (by omega)]
   ·rw[e] at h1;simp at h1
  ·have f:tbT n R 0=R.extract 0 n:=by unfold tbT;rw[aE (by omega),aE b]
   have g:tbR n R 0=R.extract n R.size:=by unfold tbR;rw[aE (by omega),aE b]
   have i:tbE n R 0=0:=by unfold tbE;rw[aE (by omega),aE b]
   have k:(R.extract n R.size).data.toList=R.data.toList.drop n:=by rw[rest_of]
   have l:R.extract 0 n=⟨(R.data.toList.take n).toArray⟩:=by
    apply fH;rw[gQ];apply eR.1;rw[iE,fV];simp
   rw[f,g,i,k];refine⟨⟨λe=>by rw[e];rfl,λe=> .inl ⟨by rw[e];simp,?_⟩,by rw[cb];omega⟩,by rw[dg];omega⟩;rcases j.step e with⟨_,h2⟩|⟨h1,_⟩
   ·unfold eZ;rw[bP h2,bX,aE (by omega),l]
   ·rw[e] at h1;simp at h1
 ·have f:tbT n R c=⟨#[]⟩:=by unfold tbT;rw[aN a]
  have g:tbR n R c=⟨#[]⟩:=by unfold tbR;rw[aN a]
  have i:tbE n R c=c:=by unfold tbE;rw[aN a]
  rw[f,g,i];refine⟨⟨λe=>by rw[e];rfl,λe=> .inr ⟨by simp[a],?_⟩,by simp⟩,by decide⟩;rcases j.step e with⟨h1,_⟩|⟨_,h2⟩
  ·simp[a] at h1
  ·unfold eZ;rw[ff h2]
theorem rbytes_any (b:Nat) (s:ByteArray) (a:Bool) (w:World) (r:s.size<=1000000) (d:Rdr w b s a):
  Calls Tryz.prog 137 #[.pointer (some ⟨b,0,none⟩)] w (RdQ eZ PStr b s a w):=by
 obtain⟨n,R,c,h⟩:∃n R c,TkIs s.data.toList n R c:=⟨_,_,_,rfl,rfl,rfl⟩;obtain⟨m,o⟩:=RdIs.takeb h r a;have p:=takebytes_any s (by unfold maxLen;omega) n R c h;generalize tbT n R c=X at *;generalize tbR n R c=Y at *;generalize tbE n R c=z at *;have f:∀k v,v=(a || decide (z≠0))->RdQ eZ PStr b s a w (.returned (.string X)) (((w.drewN k).setCell ⟨b,0,none⟩ (.string Y)).setCell ⟨b,1,none⟩ (.bool v)):=λk v g=>
  ⟨X,_,Y,_,rfl,⟨rfl,o⟩,(d.keptN k).set Y v,bZ (bZ (jo ku k) (di _ _ _)) (di _ _ _),by rw[g];exact m⟩
 have i:=hid f;have j:=hid p;have u:=d.c0;have x:=d.c1;have y:=d.f 0;have A:=d.f 1;clear f p d m o h;cases a with
 |true=>
  go_enter Tryz.func137,Tryz.ntmps137;go_wp2_with fail;refine(j.o _).mono ?_;rintro e q ⟨rfl,k,rfl⟩;go_wp2;go_ret;exact i.o k _ rfl
 | false=>
  by_cases l:z=0
  ·subst l;go_enter Tryz.func137,Tryz.ntmps137;go_wp2_with fail;refine(j.o _).mono ?_;rintro e q ⟨rfl,k,rfl⟩;go_wp2;go_ret;exact i.o k _ rfl
  ·have B:((z:Int) != 0)=true:=by rw[cM];omega
   have g:true=(false || decide (z≠0)):=by simp[l]
   have t:=hid g;clear g l;go_enter Tryz.func137,Tryz.ntmps137;go_wp2_with fail;refine(j.o _).mono ?_;rintro e q ⟨rfl,k,rfl⟩;go_wp2;go_ret;exact i.o k _ t.o
theorem cL {s a:ByteArray} {α:Type} {p:Rd α} {b c:Bool} {x:α} (h:RdIs p s.data.toList b x a.data.toList c) (d:s.size<=1000000):a.size<=1000000:=by
 have:=h.le;have e:s.data.toList.length=s.size:=by simp
 have f:a.data.toList.length=a.size:=by simp
 omega
theorem kH (b:Nat) (s:ByteArray) (c:Bool) (w:World) (p:s.size<=1000000) (f:Rdr w b s c):
  Calls Tryz.prog 81 #[.pointer (some ⟨b,0,none⟩)] w (RdQ stR PSt b s c w):=by
 have K:=f.lt;have g:=an w (.cells #[(0:Int),(0:Int)] 42);have q:=hid (f.kept (aQ w (.cells #[(0:Int),(0:Int)] 42) none) (by simp));have u:=hid g;have M:=hid f;clear g f;go_enter Tryz.func81,Tryz.ntmps81;go_wp2_with fail;refine(ge b s c _ p q.o).mono ?_;rintro e D ⟨t,v,E,m,rfl,⟨rfl,x⟩,h,i,d⟩;have F:=hid (ge b E m D (cL d p) h);have y:=hid d;have z:=hid i;have L:=hid x;clear h i d x;go_wp2_with fail;refine F.o.mono ?_;rintro e A ⟨r,v,G,n,rfl,⟨rfl,N⟩,j,k,l⟩;have o:=bZ z.o k;have a:=(o.block w.heap.size (by simp) (by intro e;cases e;omega)).trans u.o;have H:=cw0 a;have I:=cw1 a;have O:A.frozen? ⟨w.heap.size,0,none⟩=false:=aS _ _ _ _ _ a;have P:A.frozen? ⟨w.heap.size,1,none⟩=false:=aS _ _ _ _ _ a;have B:=hid j;have J:=hid o;have C:=hid l;clear o k a j l;go_wp2;refine aU (v:= .agg #[t,r]) (by simp[results,Tryz.results81,go_sem,H,I]) rfl ?_;refine⟨⟨t,r⟩,_,G,n,rfl,rfl,?_,fg (fg (bZ (aQ _ _ _) J.o) _ _ _ (aa _)) _ _ _ (aa _),RdIs.st y.o C.o⟩;exact(B.o.kept (di _ _ _) (by intro e;cases e;omega)).kept (di _ _ _) (by intro e;cases e;omega)
theorem rid_any (b:Nat) (s:ByteArray) (h:Bool) (w:World) (z:s.size<=1000000) (u:Rdr w b s h):
  Calls Tryz.prog 136 #[.pointer (some ⟨b,0,none⟩)] w (RdQ idR PId b s h w):=by
 have U:=u.lt;have A:=hid (u.kept (aQ w (.cells #[(0:Int),(0:Int),(0:Int)] 108) none) (by simp));have B:=hid (an w (.cells #[(0:Int),(0:Int),(0:Int)] 108));have C:=hid (aQ w (.cells #[(0:Int),(0:Int),(0:Int)] 108) (some b));clear u;go_enter Tryz.func136,Tryz.ntmps136;go_wp2_with fail;refine(kH b s h _ z A.o).mono ?_;rintro e c ⟨⟨t,r⟩,v,D,j,rfl,M,m,f,k⟩;obtain rfl:v= .agg #[t,r]:=M;have E:=cL k z;have F:=hid k;have G:=hid (bZ C.o f);have H:=hid ((f.block w.heap.size (by simp) (by intro e;cases e;omega)).trans B.o);have l:w.heap.size<c.heap.size:=by have:=f.size;simp at this;omega
 have I:=hid m;clear k f m;go_upto_region 2 with(fail);generalize hW:c.alloc (.cells #[t,r] 42)=W;have x:=hid (show W.heap[c.heap.size]? =some (.cells #[t,r] 42 (0,0)) by subst hW;exact an _ _);have N:=hid (show W.heap[w.heap.size]? =some (.cells #[(0:Int),(0:Int),(0:Int)] 108 (0,0)) by subst hW;exact(ax _ _ _ l).trans H.o);have O:=hid (show Rdr W b D j by subst hW;exact I.o.kept (aQ c _ none) (by simp));have P:=hid (show w.grownBy W (some b) by subst hW;exact gV G.o _);have n:c.heap.size<W.heap.size:=by subst hW;simp
 clear hW;have V:=cw0 x.o;have X:=cw1 x.o;go_region_with (go_at_call 82;refine(ge b D j _ (by exact E) (by exact O.o)).mono ?_;rintro e d ⟨i,v,Q,y,rfl,⟨rfl,Y⟩,o,g,p⟩;have q:=hid ((g.block c.heap.size n (by intro e;cases e;omega)).trans x.o);have a:=hid ((g.block w.heap.size (Nat.lt_trans l n) (by intro e;cases e;omega)).trans N.o);have J:=hid o;have K:=hid p;have L:=hid (bZ P.o (bZ (⟨rfl,rfl,rfl,aa _,λ_ _ _=>rfl⟩:W.grownBy W.drew (some b)) g));clear o p g;have Z:d.cell? ⟨c.heap.size,0,none⟩=some (.int .i64 t):=by { rw[crw q.o];rfl };have d1:d.cell? ⟨c.heap.size,1,none⟩=some (.int .i64 r):=by { rw[crw q.o];rfl };have R:d.cell? ⟨w.heap.size,0,none⟩=some (.int .i64 0):=by { rw[crw a.o];rfl };have S:d.cell? ⟨w.heap.size,1,none⟩=some (.int .i64 0):=by { rw[crw a.o];rfl };have T:d.cell? ⟨w.heap.size,2,none⟩=some (.int .i64 0):=by { rw[crw a.o];rfl };have f0:d.frozen? ⟨w.heap.size,0,none⟩=false:=aS _ _ _ _ _ a.o;have f1:d.frozen? ⟨w.heap.size,1,none⟩=false:=aS _ _ _ _ _ a.o;have f2:d.frozen? ⟨w.heap.size,2,none⟩=false:=aS _ _ _ _ _ a.o)
 all_goals
  go_wp2;refine aU (v:= .agg #[t,r,i]) (by simp[results,Tryz.results136,go_sem,R,S,T]) rfl ?_;refine⟨⟨⟨t,r⟩,i⟩,_,Q,y,rfl,rfl,?_,fg (fg (fg L.o _ _ _ (aa _)) _ _ _ (aa _)) _ _ _ (aa _),RdIs.id F.o K.o⟩;exact((J.o.kept (di _ _ _) (by intro e;cases e;omega)).kept (di _ _ _) (by intro e;cases e;omega)).kept (di _ _ _) (by intro e;cases e;omega)
end
section
open Go.RowKit Go.Lib Go.Sort
theorem dH (W:World) (a:List Value) (e:TypeId) (j:Nat) (u:Value) (h:a[j]? =some u):(W.alloc (.cells a.toArray e)).cell? ((⟨W.heap.size,0,none⟩:Addr).add j)=some u:=by
 rw[ju];have:=World.cell?_alloc_mark W a.toArray e (0,0) j;rw[this];simpa using h
def PRow {α:Type} (B:Nat) (e:TypeId) (size:Nat) (enc:α->List Value) (xs:List α) (w':World) (v:Value):Prop:=
 (∃A c,v= .slice A xs.length c)∧w'.ownsRow B e size v xs.length (xs.flatMap enc)∧xs.length<=1000001
def PRowI (B:Nat) (e:TypeId) (size:Nat) (enc:Int->List Value) (xs:List Int) (w':World) (v:Value):Prop:=
 (∃A c,v= .slice A xs.length c)∧w'.ownsRow B e size v xs.length (xs.flatMap enc)∧xs.length<=1000001∧∀x∈xs,okI x
theorem bU {w:World} {B:Nat} {e:TypeId} {a:Nat} {v:Value} {n:Nat} {b:List Value} (h:w.ownsRow B e a v n b):∃A c,v= .slice A n c:=by
 rcases h.2 with⟨rfl,rfl⟩|⟨g,cap,cur,rfl,_⟩
 ·exact⟨_,_,rfl⟩
 ·exact⟨_,_,rfl⟩
def ip (x:Int):List Value:=[x]
theorem ocintC_ (x:Int):∀u∈ip x,u.oneCell'=true:=by
 intro u a;simp only[ip,dh,fj,or_false] at a;subst a;rfl
theorem infointC_:(Tryz.prog.info? 3).map (λi=>(i.zero,i.size,i.bytes))=some (some (.int .i64 0),1,8):=by kernel_rfl
theorem rmany_int (b:Nat) (s:ByteArray) (f:Bool) (w:World) (N:s.size<=1000000) (J:Rdr w b s f):
  Calls Tryz.prog 83 #[.pointer (some ⟨b,0,none⟩),.func (Fn.func 82) #[.pointer (some ⟨b,0,none⟩)] #[]] w (RdQ (eG intR) (PRowI w.heap.size 3 1 ip) b s f w):=by
 obtain⟨i0,hi,O,P,Q⟩:=bx infointC_;have ao:=J.lt;have R:=hid (J.kept (aQ w (.cells #[] 3) none) (by simp));have S:=hid (an w (.cells #[] 3));have T:=hid (aQ w (.cells #[] 3) (some b));clear J;go_enter Tryz.func83,Tryz.ntmps83;go_wp2_with fail;refine(ge b s f _ N R.o).mono ?_;rintro e w1 ⟨n0,v,B,q,rfl,⟨rfl,r⟩,E,t,u⟩;obtain⟨n,rfl⟩:=dU r.1;have hn:n<9223372036854775808:=by have:=r.2;omega
 have ap:=cL u N;have U:=hid u;have V:=hid (bZ T.o t);have W:=hid ((t.block w.heap.size (by simp) (by intro e;cases e;omega)).trans S.o);have X:=hid E;clear u t E r;go_wp2;go_loopw [5,6] (λv m wr=>∃(k:Nat) (c:List Int) (d:ByteArray) (a:Bool),m= .int .i64 k∧k<=n∧wr.ownsRow w.heap.size 3 1 v c.length (c.flatMap ip)∧Hid (Rdr wr b d a)∧Hid (w.grownBy wr (some b))∧Hid (ManyAt intR n B.data.toList q k c d.data.toList a)∧Hid (∀x∈c,okI x)) (λ_ m _=>(RowKit.intOf m).toNat)
 case atStart=>exact⟨n,[],B,q,rfl,aa _,⟨rfl,.inr ⟨w.heap.size,0,#[],rfl,aa _,W.o,aa _,by unfold maxLen;omega,rfl,rfl⟩⟩,X,V,hid ManyAt.start,hid (λx C=>by cases C)⟩
 case round=>
  obtain⟨k,c,d,a,rfl,hk,o,K,L,D,Y⟩:=hrel;have Z:=D.o.le;have z:=D.o.few;have ab:B.data.toList.length=B.size:=by simp
  have ac:d.data.toList.length=d.size:=by simp
  have ad:c.length<=1000001:=by split at z<;>omega
  have A:∀h:a=true∨k=0,RdQ (eG intR) (PRowI w.heap.size 3 1 ip) b s f w (.returned u5) wr:=λh=>
   ⟨c,u5,d,a,rfl,⟨bU o,o,ad,Y.o⟩,K.o,L.o,RdIs.many U.o (by rw[bX];exact D.o.done h)⟩
  have HF:=hid A;have c1:=K.o.c1;have ae:d.size<=1000000:=by omega
  clear A Z z ab ac;cases a with
  | true=>
   go_wp2
   all_goals
    go_ret;exact HF.o (.inl (by first|rfl|trivial))
  | false=>
   by_cases h0:0<k
   ·obtain⟨m,rfl⟩:∃m,k=m+1:=⟨k-1,by omega⟩;have HC:=hid (ge b d false wr ae K.o);have HB:=hid (λg e=>(o.lt g e).1);have F:=hid (show u5.ownBlock≠some b from λe=>by have:=(o.lt b e).1;omega);have aq:=L.o.size;have af:=hid o;clear o
    go_wp2_with (first
     |(go_at_call 82;refine HC.o.mono ?_;rintro e w2 ⟨x,v2,s2,M,rfl,⟨hv,C⟩,G,i,H⟩;obtain rfl:v2= .int .i64 x:=hv;have ag:=hid G;have ah:=hid i;have ai:=hid H;have am:=i.size;have aj:=hid (af.o.kept i (.inr F.o));clear G i H;have HO:=hid C;clear C)
     |(at_builtin;refine bv _ rfl _ _ 27 rfl w.heap.size 3 i0 (.int .i64 0) 1 8 jw hi O P Q rfl (by decide) _ _ _ rfl (by exact aj.o.alloc _) ⟨w2.heap.size,0,none⟩ 1 1 (ip x) rfl rfl (by exact dH _ _ _) (by exact ocintC_ _) (by unfold maxLen;omega) (by omega) (by simp;omega) ?_;intro v' w3 j l _;have ak:=hid j;have I:=hid l;clear j l))
    go_roundw
    case rel=>exact⟨m,c++[x],s2,M,by go_num,by omega,by rw[al,aK,bJ];exact ak.o,hid ((ag.o.kept (aQ w2 _ none) (by simp)).kept I.o F.o),hid (gby_new (gV (bZ L.o ah.o) _) I.o HB.o),hid (D.o.next intT ai.o),hid (λy p=>by rcases aD.1 p with p|p;exact Y.o y p;simp at p;rw[p];exact HO.o)⟩
    case measure=>simp[RowKit.intOf]
   ·obtain rfl:k=0:=by omega
    go_wp2;go_ret;exact HF.o (.inr (by first|rfl|trivial))
def stC_ (x:Gst):List Value:=[.int .i64 x.t,.int .i64 x.r]
theorem ocstC_ (x:Gst):∀u∈stC_ x,u.oneCell'=true:=by
 intro u a;simp only[stC_,dh,fj,or_false] at a;rcases a with rfl|rfl<;>rfl
theorem infostC_:(Tryz.prog.info? 42).map (λi=>(i.zero,i.size,i.bytes))=some (some (.agg #[(0:Int),(0:Int)]),2,16):=by kernel_rfl
theorem rmany_st (b:Nat) (s:ByteArray) (f:Bool) (w:World) (L:s.size<=1000000) (H:Rdr w b s f):
  Calls Tryz.prog 138 #[.pointer (some ⟨b,0,none⟩),.func (Fn.func 81) #[.pointer (some ⟨b,0,none⟩)] #[]] w (RdQ (eG stR) (PRow w.heap.size 42 2 stC_) b s f w):=by
 obtain⟨i0,hi,M,N,O⟩:=bx infostC_;have aj:=H.lt;have P:=hid (H.kept (aQ w (.cells #[] 42) none) (by simp));have Q:=hid (an w (.cells #[] 42));have R:=hid (aQ w (.cells #[] 42) (some b));clear H;go_enter Tryz.func138,Tryz.ntmps138;go_wp2_with fail;refine(ge b s f _ L P.o).mono ?_;rintro e w1 ⟨n0,v,A,p,rfl,⟨rfl,q⟩,C,u,x⟩;obtain⟨n,rfl⟩:=dU q.1;have hn:n<9223372036854775808:=by have:=q.2;omega
 have ak:=cL x L;have S:=hid x;have T:=hid (bZ R.o u);have U:=hid ((u.block w.heap.size (by simp) (by intro e;cases e;omega)).trans Q.o);have V:=hid C;clear x u C q;go_wp2;go_loopw [5,6] (λv m wr=>∃(k:Nat) (d:List Gst) (c:ByteArray) (a:Bool),m= .int .i64 k∧k<=n∧wr.ownsRow w.heap.size 42 2 v d.length (d.flatMap stC_)∧Hid (Rdr wr b c a)∧Hid (w.grownBy wr (some b))∧Hid (ManyAt stR n A.data.toList p k d c.data.toList a)) (λ_ m _=>(RowKit.intOf m).toNat)
 case atStart=>exact⟨n,[],A,p,rfl,aa _,⟨rfl,.inr ⟨w.heap.size,0,#[],rfl,aa _,U.o,aa _,by unfold maxLen;omega,rfl,rfl⟩⟩,V,T,hid ManyAt.start⟩
 case round=>
  obtain⟨k,d,c,a,rfl,hk,o,I,J,B⟩:=hrel;have W:=B.o.le;have y:=B.o.few;have X:A.data.toList.length=A.size:=by simp
  have Y:c.data.toList.length=c.size:=by simp
  have Z:d.length<=1000001:=by split at y<;>omega
  have z:∀h:a=true∨k=0,RdQ (eG stR) (PRow w.heap.size 42 2 stC_) b s f w (.returned u5) wr:=λh=>
   ⟨d,u5,c,a,rfl,⟨bU o,o,Z⟩,I.o,J.o,RdIs.many S.o (by rw[bX];exact B.o.done h)⟩
  have HF:=hid z;have c1:=I.o.c1;have ab:c.size<=1000000:=by omega
  clear z W y X Y;cases a with
  | true=>
   go_wp2
   all_goals
    go_ret;exact HF.o (.inl (by first|rfl|trivial))
  | false=>
   by_cases h0:0<k
   ·obtain⟨m,rfl⟩:∃m,k=m+1:=⟨k-1,by omega⟩;have HC:=hid (kH b c false wr ab I.o);have HB:=hid (λg e=>(o.lt g e).1);have D:=hid (show u5.ownBlock≠some b from λe=>by have:=(o.lt b e).1;omega);have am:=J.o.size;have ac:=hid o;clear o
    go_wp2_with (first
     |(go_at_call 81;refine HC.o.mono ?_;rintro e w2 ⟨⟨t,r⟩,v2,s2,K,rfl,hv,E,i,F⟩;obtain rfl:v2= .agg #[t,r]:=hv;have ad:=hid E;have ae:=hid i;have af:=hid F;have ai:=i.size;have ag:=hid (ac.o.kept i (.inr D.o));clear E i F)
     |(at_builtin;refine bv _ rfl _ _ 100 rfl w.heap.size 42 i0 (.agg #[(0:Int),(0:Int)]) 2 16 Tryz.underlying100 hi M N O rfl (by decide) _ _ _ rfl (by exact ag.o.alloc _) ⟨w2.heap.size,0,none⟩ 1 1 (stC_ (⟨t,r⟩:Gst)) rfl rfl (by exact dH _ _ _) (by exact ocstC_ _) (by unfold maxLen;omega) (by omega) (by simp;omega) ?_;intro v' w3 j l _;have ah:=hid j;have G:=hid l;clear j l))
    go_roundw
    case rel=>exact⟨m,d++[(⟨t,r⟩:Gst)],s2,K,by go_num,by omega,by rw[al,aK,bJ];exact ah.o,hid ((ad.o.kept (aQ w2 _ none) (by simp)).kept G.o D.o),hid (gby_new (gV (bZ J.o ae.o) _) G.o HB.o),hid (B.o.next stT af.o)⟩
    case measure=>simp[RowKit.intOf]
   ·obtain rfl:k=0:=by omega
    go_wp2;go_ret;exact HF.o (.inr (by first|rfl|trivial))
def idC_ (x:Gid):List Value:=[.int .i64 x.s.t,.int .i64 x.s.r,.int .i64 x.i]
theorem ocidC_ (x:Gid):∀u∈idC_ x,u.oneCell'=true:=by
 intro u a;simp only[idC_,dh,fj,or_false] at a;rcases a with rfl|rfl|rfl<;>rfl
theorem infoidC_:(Tryz.prog.info? 108).map (λi=>(i.zero,i.size,i.bytes))=some (some (.agg #[(0:Int),(0:Int),(0:Int)]),3,24):=by kernel_rfl
theorem rmany_id (b:Nat) (s:ByteArray) (f:Bool) (w:World) (M:s.size<=1000000) (I:Rdr w b s f):
  Calls Tryz.prog 139 #[.pointer (some ⟨b,0,none⟩),.func (Fn.func 136) #[.pointer (some ⟨b,0,none⟩)] #[]] w (RdQ (eG idR) (PRow w.heap.size 108 3 idC_) b s f w):=by
 obtain⟨i0,hi,N,O,P⟩:=bx infoidC_;have ak:=I.lt;have Q:=hid (I.kept (aQ w (.cells #[] 108) none) (by simp));have R:=hid (an w (.cells #[] 108));have S:=hid (aQ w (.cells #[] 108) (some b));clear I;go_enter Tryz.func139,Tryz.ntmps139;go_wp2_with fail;refine(ge b s f _ M Q.o).mono ?_;rintro e w1 ⟨n0,v,B,q,rfl,⟨rfl,u⟩,D,x,y⟩;obtain⟨n,rfl⟩:=dU u.1;have hn:n<9223372036854775808:=by have:=u.2;omega
 have am:=cL y M;have T:=hid y;have U:=hid (bZ S.o x);have V:=hid ((x.block w.heap.size (by simp) (by intro e;cases e;omega)).trans R.o);have W:=hid D;clear y x D u;go_wp2;go_loopw [5,6] (λv m wr=>∃(k:Nat) (d:List Gid) (c:ByteArray) (a:Bool),m= .int .i64 k∧k<=n∧wr.ownsRow w.heap.size 108 3 v d.length (d.flatMap idC_)∧Hid (Rdr wr b c a)∧Hid (w.grownBy wr (some b))∧Hid (ManyAt idR n B.data.toList q k d c.data.toList a)) (λ_ m _=>(RowKit.intOf m).toNat)
 case atStart=>exact⟨n,[],B,q,rfl,aa _,⟨rfl,.inr ⟨w.heap.size,0,#[],rfl,aa _,V.o,aa _,by unfold maxLen;omega,rfl,rfl⟩⟩,W,U,hid ManyAt.start⟩
 case round=>
  obtain⟨k,d,c,a,rfl,hk,p,J,K,C⟩:=hrel;have X:=C.o.le;have z:=C.o.few;have Y:B.data.toList.length=B.size:=by simp
  have Z:c.data.toList.length=c.size:=by simp
  have ab:d.length<=1000001:=by split at z<;>omega
  have A:∀h:a=true∨k=0,RdQ (eG idR) (PRow w.heap.size 108 3 idC_) b s f w (.returned u5) wr:=λh=>
   ⟨d,u5,c,a,rfl,⟨bU p,p,ab⟩,J.o,K.o,RdIs.many T.o (by rw[bX];exact C.o.done h)⟩
  have HF:=hid A;have c1:=J.o.c1;have ac:c.size<=1000000:=by omega
  clear A X z Y Z;cases a with
  | true=>
   go_wp2
   all_goals
    go_ret;exact HF.o (.inl (by first|rfl|trivial))
  | false=>
   by_cases h0:0<k
   ·obtain⟨m,rfl⟩:∃m,k=m+1:=⟨k-1,by omega⟩;have HC:=hid (rid_any b c false wr ac J.o);have HB:=hid (λg e=>(p.lt g e).1);have E:=hid (show u5.ownBlock≠some b from λe=>by have:=(p.lt b e).1;omega);have ao:=K.o.size;have ad:=hid p;clear p
    go_wp2_with (first
     |(go_at_call 136;refine HC.o.mono ?_;rintro e w2 ⟨⟨⟨t,r⟩,i⟩,v2,s2,L,rfl,hv,F,j,G⟩;obtain rfl:v2= .agg #[t,r,i]:=hv;have ae:=hid F;have af:=hid j;have ag:=hid G;have aj:=j.size;have ah:=hid (ad.o.kept j (.inr E.o));clear F j G)
     |(at_builtin;refine bv _ rfl _ _ 123 rfl w.heap.size 108 i0 (.agg #[(0:Int),(0:Int),(0:Int)]) 3 24 eK hi N O P rfl (by decide) _ _ _ rfl (by exact ah.o.alloc _) ⟨w2.heap.size,0,none⟩ 1 1 (idC_ (⟨⟨t,r⟩,i⟩:Gid)) rfl rfl (by exact dH _ _ _) (by exact ocidC_ _) (by unfold maxLen;omega) (by omega) (by simp;omega) ?_;intro v' w3 l o _;have ai:=hid l;have H:=hid o;clear l o))
    go_roundw
    case rel=>exact⟨m,d++[(⟨⟨t,r⟩,i⟩:Gid)],s2,L,by go_num,by omega,by rw[al,aK,bJ];exact ai.o,hid ((ae.o.kept (aQ w2 _ none) (by simp)).kept H.o E.o),hid (gby_new (gV (bZ K.o af.o) _) H.o HB.o),hid (C.o.next idT ag.o)⟩
    case measure=>simp[RowKit.intOf]
   ·obtain rfl:k=0:=by omega
    go_wp2;go_ret;exact HF.o (.inr (by first|rfl|trivial))
end
section
open Go.RowKit Go.Lib Go.Sort
attribute [local go_sem ↓] Go.wp_at_zero Go.wp_at_succ
section
variable {P : Program} {ops : Array Oper} {rest : List Oper} {o : Oper} {a : Act} {Q : Exit → Act → World → Prop}
theorem bV {w:World} (e:o.guard=none) (b:TypeId) (x y:Operand) (i:o.op= .store b x y) (g off:Nat) (T:TypeId) (c f:Array Value) (v:Value)
  (k:a.eval x= .pointer (some ⟨g,off,none⟩)) (d:w.heap[g]? =some (.cells c T (0,0))) (l:a.eval y=v) (m:(P.info? b).map (·.size)=some v.cells.size) (s:off+v.cells.size<=c.size) (n:v.cells.toList.all (·.oneCell')=true) (p:putL c off v.cells.toList=f)
  (h:wpList P ops Q rest (a.put o.dst undef) (w.setRow g f)):wpList P ops Q (o::rest) a w:=by
 subst p;refine wpList_plain e λ_ q=> ?_;have r:w.there g off v.cells.size:=λj t=>by
  rw[crw d];exact⟨by rw[dG (by omega)];rfl,aS _ _ _ _ _ d⟩
 unfold Oper.wp execOp;simp only[i,k,l,Instr.storeAt,Instr.sureAddr,Sem.run_bind,Sem.run_pure,Result.andThen_ok,run_store_any (P:=P) _ _ off b v r m n];rw[fu _ _ _ _ _ _ d];exact q _ _ h
end
structure OpSt (w0:World) (b R O:Nat) (T:TypeId) (zc oc:Array Value) (s:ByteArray) (bad:Bool) (w:World):Prop where
 rdr:Rdr w b s bad
 res:w.heap[R]? =some (.cells zc T (0,0))
 obj:w.heap[O]? =some (.cells oc T (0,0))
 grow:w0.grownBy w (some b)
 nb:b<w0.heap.size
 nR:w0.heap.size<=R
 nO:R<O
theorem lt_of_block {w:World} {g:Nat} {o:Obj} (h:w.heap[g]? =some o):g<w.heap.size:=by
 rcases cJ g w.heap.size with a|b
 ·exact a
 ·rw[Array.getElem?_eq_none b] at h;cases h
section
variable {w0 w w' : World} {b R O : Nat} {T : TypeId} {zc oc : Array Value} {s s' : ByteArray} {bad bad' : Bool}
theorem OpSt.call (h:OpSt w0 b R O T zc oc s bad w) (hr:Rdr w' b s' bad') (hg:w.grownBy w' (some b)):OpSt w0 b R O T zc oc s' bad' w':=
 ⟨hr,(hg.block R (lt_of_block h.res) (by intro e;cases e;have:=h.nb;have:=h.nR;omega)).trans h.res,(hg.block O (lt_of_block h.obj) (by intro e;cases e;have:=h.nb;have:=h.nR;have:=h.nO;omega)).trans h.obj,bZ h.grow hg,h.nb,h.nR,h.nO⟩
theorem setRow_other (w:World) (g k:Nat) (c:Array Value) (h:k≠g):(w.setRow g c).heap[k]? =w.heap[k]? :=by
 simp only[World.setRow,bY];rw[aE (λe=>h e.symm)]
theorem OpSt.put (h:OpSt w0 b R O T zc oc s bad w) (c:Array Value):OpSt w0 b R O T zc c s bad (w.setRow O c):=by
 have a:=h.nb;have d:=h.nR;have e:=h.nO;exact⟨(setRow_other w O b c (by omega)).trans h.rdr,(setRow_other w O R c (by omega)).trans h.res,aF _ h.obj,fk h.grow _ _ (by omega),h.nb,h.nR,h.nO⟩
theorem OpSt.setBad (h:OpSt w0 b R O T zc oc s bad w) (v:Bool):OpSt w0 b R O T zc oc s v (w.setCell ⟨b,1,none⟩ (.bool v)):=by
 have a:=h.nb;have c:=h.nR;have d:=h.nO;exact⟨h.rdr.set1 v,(bB _ _ _ _ (by show R≠b;omega)).trans h.res,(bB _ _ _ _ (by show O≠b;omega)).trans h.obj,bZ h.grow (di _ _ _),h.nb,h.nR,h.nO⟩
theorem OpSt.cell (h:OpSt w0 b R O T zc oc s bad w) (i:Nat):w.cell? ⟨O,i,none⟩=oc[i]? :=aG _ _ _ _ _ _ h.obj
end
theorem Agr.setRow {S:Nat->Prop} (w:World) (g:Nat) (c:Array Value) (h:¬S g):Agr S w (w.setRow g c):=⟨by simp[World.setRow],λb hb _=>setRow_other w g b c (λe=>h (e ▸ hb))⟩
def POp (B:Nat) (o:Gop) (w':World) (v:Value):Prop:=∃x,v= .agg (opA o x)∧OpIn w' (λk=>B<=k) o x∧o.name.size<=1000000∧o.text.size<=1000000
theorem jY {w:World} {B:Nat} {e:TypeId} {s:Nat} {A:Option Addr} {n c:Nat} {xs:List Value} {f:Nat->Nat->Value} (h:w.ownsRow B e s (.slice A n c) n xs) (hf:∀k j,k<n->j<s->xs[k*s+j]? =some (f k j)):RowG w (λk=>B<=k) A n s f:=λk hk=>by
 rcases h.2 with⟨h1,h2⟩|⟨g,cap,cur,h1,hB,hg,h2⟩
 ·omega
 ·cases h1
  have hlt:=lt_of_block hg
  refine⟨g,0,rfl,hB,hlt,λj hj=> ?_⟩
  have:=h.cells (g:=g) rfl (k*s+j) _ (hf k j hk hj)
  rw[ju] at this
  rw[cj]
  exact this
theorem fw {w:World} {B:Nat} {e:TypeId} {s:Nat} {A:Option Addr} {n c:Nat} {a:List Value} (h:w.ownsRow B e s (.slice A n c) n a):n<=c∧c<=maxLen:=by
 rcases h.2 with⟨h1,h2⟩|⟨g,cap,cur,h1,hB,hg,h2,h3,_⟩
 ·cases h1;exact⟨aa _,aq _⟩
 ·cases h1;exact⟨h2,h3⟩
theorem gD {α:Type} {f:α->List Value} {s:Nat} (hl:∀x,(f x).length=s):∀(xs:List α) (k j:Nat) (z:α),k<xs.length->j<s->(xs.flatMap f)[k*s+j]? =(f (xs.getD k z))[j]?
 | [],k,j,z,h,_=>by simp at h
 |x::xs,0,j,z,h,hj=>by
  rw[cG,Nat.zero_mul,cj,eE (by rw[hl];exact hj)]
  rfl
 |x::xs,k+1,j,z,h,hj=>by
  rw[cG,dy (by rw[hl,Nat.succ_mul];omega),hl]
  have e:(k+1)*s+j-s=k*s+j:=by rw[Nat.succ_mul];omega
  rw[e,gD hl xs k j z (by simpa using h) hj]
  rfl
theorem sts_own {w:World} {B:Nat} {A:Option Addr} {c:Nat} {a:List Gst} {E:TypeId} (h:w.ownsRow B E 2 (.slice A a.length c) a.length (a.flatMap stC_)):StsS w (λk=>B<=k) A a:=by
 refine jY h λk j b d=> ?_;rw[gD (s:=2) (λ_=>rfl) a k j .zero b d];rcases j with _|_|j
 ·rfl
 ·rfl
 ·omega
theorem ids_own {w:World} {B:Nat} {A:Option Addr} {c:Nat} {a:List Gid} {E:TypeId} (h:w.ownsRow B E 3 (.slice A a.length c) a.length (a.flatMap idC_)):IdsS w (λk=>B<=k) A a:=by
 refine jY h λk j b d=> ?_;rw[gD (s:=3) (λ_=>rfl) a k j .zero b d];rcases j with _|_|_|j
 ·rfl
 ·rfl
 ·rfl
 ·omega
theorem OpIn.none {w:World} {S:Nat->Prop} {o:Gop} (a:o.dots=[]) (b:o.elems=[]) (c:o.name.size<=1000000) (d:o.text.size<=1000000):OpIn w S o ⟨none,0,none,0⟩:=by
 refine⟨?_,?_,by rw[a];exact aa _,by rw[b];exact aa _,aq _,aq _,by unfold maxLen;omega,by unfold maxLen;omega⟩
 ·rw[a];exact RowG.zero
 ·rw[b];exact RowG.zero
theorem rop_any (b:Nat) (s:ByteArray) (ah:Bool) (w:World) (hs:s.size<=1000000) (hR:Rdr w b s ah):
  Calls Tryz.prog 85 #[.pointer (some ⟨b,0,none⟩)] w (RdQ opR (POp w.heap.size) b s ah w):=by
 have aV:=hR.lt;have av:=hid (hR.kept (aQ w (.cells #[(0:Int),(0:Int),(0:Int),(0:Int),(0:Int),(0:Int),(0:Int),.string ⟨#[]⟩,false,.slice none 0 0,(0:Int),(0:Int),(0:Int),(0:Int),(0:Int),(0:Int),.string ⟨#[]⟩,.slice none 0 0] 125) none) (by simp));have aw:=hid (an w (.cells #[(0:Int),(0:Int),(0:Int),(0:Int),(0:Int),(0:Int),(0:Int),.string ⟨#[]⟩,false,.slice none 0 0,(0:Int),(0:Int),(0:Int),(0:Int),(0:Int),(0:Int),.string ⟨#[]⟩,.slice none 0 0] 125));have ay:=hid (aQ w (.cells #[(0:Int),(0:Int),(0:Int),(0:Int),(0:Int),(0:Int),(0:Int),.string ⟨#[]⟩,false,.slice none 0 0,(0:Int),(0:Int),(0:Int),(0:Int),(0:Int),(0:Int),.string ⟨#[]⟩,.slice none 0 0] 125) (some b));clear hR;go_enter Tryz.func85,Tryz.ntmps85;go_wp2_with fail;refine(ge b s ah _ hs av.o).mono ?_;rintro e i ⟨k,v,s1,ai,rfl,⟨rfl,hk⟩,az,af,aj⟩;have aA:=cL aj hs;have Q:=hid aj;have aB:=hid ((af.block w.heap.size (by simp) (by intro e;cases e;omega)).trans aw.o);have aC:=hid (bZ ay.o af);have ak:w.heap.size<i.heap.size:=by have:=af.size;simp at this;omega
 have aD:=hid az;clear aj af az;go_upto_region 2 with(refine bR rfl _ _ _ rfl _ _ _ _ rfl ?_ rfl ?_ ?_ ?_ ?_;(focus(simp;done));kernel_rfl;rfl;rfl)
 have aE:OpSt w b w.heap.size i.heap.size 125 #[(0:Int),(0:Int),(0:Int),(0:Int),(0:Int),(0:Int),(0:Int),.string ⟨#[]⟩,false,.slice none 0 0,(0:Int),(0:Int),(0:Int),(0:Int),(0:Int),(0:Int),.string ⟨#[]⟩,.slice none 0 0] #[k,(0:Int),(0:Int),(0:Int),(0:Int),(0:Int),(0:Int),.string ⟨#[]⟩,false,.slice none 0 0,(0:Int),(0:Int),(0:Int),(0:Int),(0:Int),(0:Int),.string ⟨#[]⟩,.slice none 0 0] s1 ai (i.alloc (.cells #[k,(0:Int),(0:Int),(0:Int),(0:Int),(0:Int),(0:Int),.string ⟨#[]⟩,false,.slice none 0 0,(0:Int),(0:Int),(0:Int),(0:Int),(0:Int),(0:Int),.string ⟨#[]⟩,.slice none 0 0] 125)):=
  ⟨aD.o.kept (aQ i _ none) (by simp),(ax _ _ _ ak).trans aB.o,an _ _,gV aC.o _,aV,aa _,ak⟩
 generalize p:i.alloc (.cells #[k,(0:Int),(0:Int),(0:Int),(0:Int),(0:Int),(0:Int),.string ⟨#[]⟩,false,.slice none 0 0,(0:Int),(0:Int),(0:Int),(0:Int),(0:Int),(0:Int),.string ⟨#[]⟩,.slice none 0 0] 125)=V1 at *;clear p aD aB aC av aw ay;have aG:=hid aE;clear aE;go_wp2_with fail;refine(rid_any b s1 ai V1 aA aG.o.rdr).mono ?_;rintro e y2 ⟨⟨⟨a,c⟩,f⟩,v,s2,R,rfl,Z,aH,aI,al⟩;have C:=cL al aA;have aJ:=hid (aG.o.call aH aI);have S:=hid al;obtain rfl:v= .agg #[a,c,f]:=Z;clear aH aI al;go_upto_region 3 with(first|(refine bV rfl _ _ _ rfl i.heap.size 1 _ _ #[k,a,c,f,(0:Int),(0:Int),(0:Int),.string ⟨#[]⟩,false,.slice none 0 0,(0:Int),(0:Int),(0:Int),(0:Int),(0:Int),(0:Int),.string ⟨#[]⟩,.slice none 0 0] _ rfl aJ.o.obj rfl ?_ ?_ ?_ rfl ?_;kernel_rfl;exact aR rfl;rfl));have aK:=aJ.o.put #[k,a,c,f,(0:Int),(0:Int),(0:Int),.string ⟨#[]⟩,false,.slice none 0 0,(0:Int),(0:Int),(0:Int),(0:Int),(0:Int),(0:Int),.string ⟨#[]⟩,.slice none 0 0];generalize p:y2.setRow i.heap.size #[k,a,c,f,(0:Int),(0:Int),(0:Int),.string ⟨#[]⟩,false,.slice none 0 0,(0:Int),(0:Int),(0:Int),(0:Int),(0:Int),(0:Int),.string ⟨#[]⟩,.slice none 0 0]=V2 at *;clear p;have o:=hid aK;clear aK;have aY:V2.cell? ⟨i.heap.size,0,none⟩=some (.int .i64 k):=by rw[o.o.cell];rfl
 by_cases k0:k=0
 ·subst k0;go_wp2_with fail;refine(rid_any b s2 R V2 C o.o.rdr).mono ?_;rintro e H ⟨⟨⟨j,l⟩,m⟩,v,s3,z,rfl,Z,r,t,n⟩;have D:=cL n C;have u:=hid (o.o.call r t);have E:=hid n;obtain rfl:v= .agg #[j,l,m]:=Z;clear r t n;go_upto_region 8 with(first|(refine bV rfl _ _ _ rfl i.heap.size 4 _ _ #[(0:Int),a,c,f,j,l,m,.string ⟨#[]⟩,false,.slice none 0 0,(0:Int),(0:Int),(0:Int),(0:Int),(0:Int),(0:Int),.string ⟨#[]⟩,.slice none 0 0] _ rfl u.o.obj rfl ?_ ?_ ?_ rfl ?_;kernel_rfl;exact aR rfl;rfl));have q:=u.o.put #[(0:Int),a,c,f,j,l,m,.string ⟨#[]⟩,false,.slice none 0 0,(0:Int),(0:Int),(0:Int),(0:Int),(0:Int),(0:Int),.string ⟨#[]⟩,.slice none 0 0];generalize p:H.setRow i.heap.size #[(0:Int),a,c,f,j,l,m,.string ⟨#[]⟩,false,.slice none 0 0,(0:Int),(0:Int),(0:Int),(0:Int),(0:Int),(0:Int),.string ⟨#[]⟩,.slice none 0 0]=V3 at *;clear p;have g:=hid q;clear q;go_wp2_with fail;refine(rbytes_any b s3 z V3 D g.o.rdr).mono ?_;rintro e y4 ⟨A,v,s4,T,rfl,⟨rfl,U⟩,M,N,B⟩;have ac:=cL B D;have O:=hid (g.o.call M N);have W:=hid B;clear M N B;go_upto_region 9 with(first|(refine bV rfl _ _ _ rfl i.heap.size 7 _ _ #[(0:Int),a,c,f,j,l,m,A,false,.slice none 0 0,(0:Int),(0:Int),(0:Int),(0:Int),(0:Int),(0:Int),.string ⟨#[]⟩,.slice none 0 0] _ rfl O.o.obj rfl ?_ ?_ ?_ rfl ?_;kernel_rfl;exact aR rfl;rfl))
  have P:=O.o.put #[(0:Int),a,c,f,j,l,m,A,false,.slice none 0 0,(0:Int),(0:Int),(0:Int),(0:Int),(0:Int),(0:Int),.string ⟨#[]⟩,.slice none 0 0];generalize p:y4.setRow i.heap.size #[(0:Int),a,c,f,j,l,m,A,false,.slice none 0 0,(0:Int),(0:Int),(0:Int),(0:Int),(0:Int),(0:Int),.string ⟨#[]⟩,.slice none 0 0]=V4 at *;clear p;have x:=hid P;clear P;have aW:V4.cell? ⟨i.heap.size,0,none⟩=some (.int .i64 0):=by rw[x.o.cell];rfl
  go_wp2_with fail;refine(ge b s4 T V4 ac x.o.rdr).mono ?_;rintro e y5 ⟨d,v,s5,ab,rfl,⟨rfl,hd⟩,V,ad,X⟩;have F:=hid (x.o.call V ad);have ag:=hid X;have b1:=V.c1;have f1:=V.f 1;clear V ad X;obtain⟨I,ao⟩:∃I,I=decide (d=1):=⟨_,rfl⟩;obtain⟨e2,aM⟩:∃e2,e2=(ab || decide (1<d)):=⟨_,rfl⟩;have aN:=hid ao;have ap:=hid aM;have q1:(d == 1)=I:=by rw[ao];rfl
  clear ao aM;have b2:=(F.o.put #[(0:Int),a,c,f,j,l,m,A,I,.slice none 0 0,(0:Int),(0:Int),(0:Int),(0:Int),(0:Int),(0:Int),.string ⟨#[]⟩,.slice none 0 0]).rdr.c1;have f2:=(F.o.put #[(0:Int),a,c,f,j,l,m,A,I,.slice none 0 0,(0:Int),(0:Int),(0:Int),(0:Int),(0:Int),(0:Int),.string ⟨#[]⟩,.slice none 0 0]).rdr.f 1;cases ab with
  | true=>
   obtain rfl:e2=true:=by rw[ap.o];rfl
   go_upto_region 20 with(first|(refine bV rfl _ _ _ rfl i.heap.size 8 _ _ #[(0:Int),a,c,f,j,l,m,A,I,.slice none 0 0,(0:Int),(0:Int),(0:Int),(0:Int),(0:Int),(0:Int),.string ⟨#[]⟩,.slice none 0 0] _ rfl F.o.obj rfl ?_ ?_ ?_ rfl ?_;kernel_rfl;exact aR rfl;rfl));have y:=hid ((F.o.put #[(0:Int),a,c,f,j,l,m,A,I,.slice none 0 0,(0:Int),(0:Int),(0:Int),(0:Int),(0:Int),(0:Int),.string ⟨#[]⟩,.slice none 0 0]).setBad true);generalize p:(y5.setRow i.heap.size #[(0:Int),a,c,f,j,l,m,A,I,.slice none 0 0,(0:Int),(0:Int),(0:Int),(0:Int),(0:Int),(0:Int),.string ⟨#[]⟩,.slice none 0 0]).setCell ⟨b,1,none⟩ (.bool true)=V6 at *;clear p
   go_wp2_with (first
    |(refine cd rfl _ _ rfl i.heap.size _ _ _ rfl y.o.obj am rfl ?_ ?_;kernel_rfl)
    |(refine bW rfl _ _ _ rfl w.heap.size _ _ _ rfl rfl y.o.res ?_ ?_ ?_ ?_;kernel_rfl;rfl;rfl))
   refine aU (bG rfl _ _ w.heap.size _ _ (0,0) _ rfl (aF _ y.o.res) am rfl (by kernel_rfl)) rfl ?_;refine⟨{ opO 0 ⟨⟨a,c⟩,f⟩ with parent:=⟨⟨j,l⟩,m⟩,name:=A,dir:=I },_,s5,true,rfl,⟨⟨none,0,none,0⟩,rfl,OpIn.none rfl rfl U (aq _),U,aq _⟩,(setRow_other _ _ _ _ (by have:=y.o.nb;omega)).trans y.o.rdr,fk y.o.grow _ _ (aa _),RdIs.op0 Q.o S.o E.o W.o (by rw[aN.o];exact RdIs.dir ag.o)⟩
  | false=>
   have q2:decide (1<d)=e2:=by rw[ap.o];simp
   go_upto_region 20 with(first|(refine bV rfl _ _ _ rfl i.heap.size 8 _ _ #[(0:Int),a,c,f,j,l,m,A,I,.slice none 0 0,(0:Int),(0:Int),(0:Int),(0:Int),(0:Int),(0:Int),.string ⟨#[]⟩,.slice none 0 0] _ rfl F.o.obj rfl ?_ ?_ ?_ rfl ?_;kernel_rfl;exact aR rfl;rfl));have y:=hid ((F.o.put #[(0:Int),a,c,f,j,l,m,A,I,.slice none 0 0,(0:Int),(0:Int),(0:Int),(0:Int),(0:Int),(0:Int),.string ⟨#[]⟩,.slice none 0 0]).setBad e2);generalize p:(y5.setRow i.heap.size #[(0:Int),a,c,f,j,l,m,A,I,.slice none 0 0,(0:Int),(0:Int),(0:Int),(0:Int),(0:Int),(0:Int),.string ⟨#[]⟩,.slice none 0 0]).setCell ⟨b,1,none⟩ (.bool e2)=V6 at *;clear p
   go_wp2_with (first
    |(refine cd rfl _ _ rfl i.heap.size _ _ _ rfl y.o.obj am rfl ?_ ?_;kernel_rfl)
    |(refine bW rfl _ _ _ rfl w.heap.size _ _ _ rfl rfl y.o.res ?_ ?_ ?_ ?_;kernel_rfl;rfl;rfl))
   refine aU (bG rfl _ _ w.heap.size _ _ (0,0) _ rfl (aF _ y.o.res) am rfl (by kernel_rfl)) rfl ?_;refine⟨{ opO 0 ⟨⟨a,c⟩,f⟩ with parent:=⟨⟨j,l⟩,m⟩,name:=A,dir:=I },_,s5,e2,rfl,⟨⟨none,0,none,0⟩,rfl,OpIn.none rfl rfl U (aq _),U,aq _⟩,(setRow_other _ _ _ _ (by have:=y.o.nb;omega)).trans y.o.rdr,fk y.o.grow _ _ (aa _),RdIs.op0 Q.o S.o E.o W.o (by rw[aN.o,ap.o];exact RdIs.dir ag.o)⟩
 by_cases k1:k=1
 ·subst k1;go_wp2_with fail;refine(rid_any b s2 R V2 C o.o.rdr).mono ?_;rintro e H ⟨⟨⟨j,l⟩,m⟩,v,s3,z,rfl,Z,r,t,n⟩;have D:=cL n C;have u:=hid (o.o.call r t);have E:=hid n;obtain rfl:v= .agg #[j,l,m]:=Z;clear r t n;go_upto_region 8 with(first|(refine bV rfl _ _ _ rfl i.heap.size 4 _ _ #[(1:Int),a,c,f,j,l,m,.string ⟨#[]⟩,false,.slice none 0 0,(0:Int),(0:Int),(0:Int),(0:Int),(0:Int),(0:Int),.string ⟨#[]⟩,.slice none 0 0] _ rfl u.o.obj rfl ?_ ?_ ?_ rfl ?_;kernel_rfl;exact aR rfl;rfl));have q:=u.o.put #[(1:Int),a,c,f,j,l,m,.string ⟨#[]⟩,false,.slice none 0 0,(0:Int),(0:Int),(0:Int),(0:Int),(0:Int),(0:Int),.string ⟨#[]⟩,.slice none 0 0];generalize p:H.setRow i.heap.size #[(1:Int),a,c,f,j,l,m,.string ⟨#[]⟩,false,.slice none 0 0,(0:Int),(0:Int),(0:Int),(0:Int),(0:Int),(0:Int),.string ⟨#[]⟩,.slice none 0 0]=V3 at *;clear p;have g:=hid q;clear q;go_wp2_with fail;refine(rbytes_any b s3 z V3 D g.o.rdr).mono ?_;rintro e y4 ⟨A,v,s4,T,rfl,⟨rfl,U⟩,M,N,B⟩;have ac:=cL B D;have O:=hid (g.o.call M N);have W:=hid B;clear M N B;go_upto_region 9 with(first|(refine bV rfl _ _ _ rfl i.heap.size 7 _ _ #[(1:Int),a,c,f,j,l,m,A,false,.slice none 0 0,(0:Int),(0:Int),(0:Int),(0:Int),(0:Int),(0:Int),.string ⟨#[]⟩,.slice none 0 0] _ rfl O.o.obj rfl ?_ ?_ ?_ rfl ?_;kernel_rfl;exact aR rfl;rfl))
  have P:=O.o.put #[(1:Int),a,c,f,j,l,m,A,false,.slice none 0 0,(0:Int),(0:Int),(0:Int),(0:Int),(0:Int),(0:Int),.string ⟨#[]⟩,.slice none 0 0];generalize p:y4.setRow i.heap.size #[(1:Int),a,c,f,j,l,m,A,false,.slice none 0 0,(0:Int),(0:Int),(0:Int),(0:Int),(0:Int),(0:Int),.string ⟨#[]⟩,.slice none 0 0]=V4 at *;clear p;have x:=hid P;clear P;have aW:V4.cell? ⟨i.heap.size,0,none⟩=some (.int .i64 1):=by rw[x.o.cell];rfl
  go_wp2_with (first
   |(refine cd rfl _ _ rfl i.heap.size _ _ _ rfl x.o.obj am rfl ?_ ?_;kernel_rfl)
   |(refine bW rfl _ _ _ rfl w.heap.size _ _ _ rfl rfl x.o.res ?_ ?_ ?_ ?_;kernel_rfl;rfl;rfl))
  refine aU (bG rfl _ _ w.heap.size _ _ (0,0) _ rfl (aF _ x.o.res) am rfl (by kernel_rfl)) rfl ?_;refine⟨{ opO 1 ⟨⟨a,c⟩,f⟩ with parent:=⟨⟨j,l⟩,m⟩,name:=A },_,s4,T,rfl,⟨⟨none,0,none,0⟩,rfl,OpIn.none rfl rfl U (aq _),U,aq _⟩,(setRow_other _ _ _ _ (by have:=x.o.nb;omega)).trans x.o.rdr,fk x.o.grow _ _ (aa _),RdIs.op1 Q.o S.o E.o W.o⟩
 by_cases k2:k=2
 ·subst k2;go_wp2_with fail;refine(rmany_st b s2 R V2 C o.o.rdr).mono ?_;rintro e H ⟨J,v,s3,z,rfl,ar,r,t,n⟩;have D:=cL n C;have u:=hid (o.o.call r t);have E:=hid n;obtain⟨⟨K,L,rfl⟩,G,aX⟩:=ar;clear r t n;go_upto_region 20 with(first|(refine bV rfl _ _ _ rfl i.heap.size 9 _ _ #[(2:Int),a,c,f,(0:Int),(0:Int),(0:Int),.string ⟨#[]⟩,false,.slice K J.length L,(0:Int),(0:Int),(0:Int),(0:Int),(0:Int),(0:Int),.string ⟨#[]⟩,.slice none 0 0] _ rfl u.o.obj rfl ?_ ?_ ?_ rfl ?_;kernel_rfl;exact aR rfl;rfl));have q:=u.o.put #[(2:Int),a,c,f,(0:Int),(0:Int),(0:Int),.string ⟨#[]⟩,false,.slice K J.length L,(0:Int),(0:Int),(0:Int),(0:Int),(0:Int),(0:Int),.string ⟨#[]⟩,.slice none 0 0];have aS:=lt_of_block o.o.obj;have ae:OpIn H (λk=>V2.heap.size<=k) { opO 2 ⟨⟨a,c⟩,f⟩ with dots:=J } ⟨K,L,none,0⟩:=⟨sts_own G,RowG.zero,(fw G).1,aa _,(fw G).2,aq _,aq _,aq _⟩;have au:=hid (ae.agr (Agr.setRow H i.heap.size #[(2:Int),a,c,f,(0:Int),(0:Int),(0:Int),.string ⟨#[]⟩,false,.slice K J.length L,(0:Int),(0:Int),(0:Int),(0:Int),(0:Int),(0:Int),.string ⟨#[]⟩,.slice none 0 0] (by omega)));have aT:=o.o.grow.size;clear ae G
  generalize p:H.setRow i.heap.size #[(2:Int),a,c,f,(0:Int),(0:Int),(0:Int),.string ⟨#[]⟩,false,.slice K J.length L,(0:Int),(0:Int),(0:Int),(0:Int),(0:Int),(0:Int),.string ⟨#[]⟩,.slice none 0 0]=V3 at *;clear p;have g:=hid q;clear q
  go_wp2_with (first
   |(refine cd rfl _ _ rfl i.heap.size _ _ _ rfl g.o.obj am rfl ?_ ?_;kernel_rfl)
   |(refine bW rfl _ _ _ rfl w.heap.size _ _ _ rfl rfl g.o.res ?_ ?_ ?_ ?_;kernel_rfl;rfl;rfl))
  refine aU (bG rfl _ _ w.heap.size _ _ (0,0) _ rfl (aF _ g.o.res) am rfl (by kernel_rfl)) rfl ?_;refine⟨{ opO 2 ⟨⟨a,c⟩,f⟩ with dots:=J },_,s3,z,rfl,⟨⟨K,L,none,0⟩,rfl,(au.o.agr (Agr.setRow _ w.heap.size _ (by omega))).sub (λk _ h=>by omega),aq _,aq _⟩,(setRow_other _ _ _ _ (by have:=g.o.nb;omega)).trans g.o.rdr,fk g.o.grow _ _ (aa _),RdIs.op2 Q.o S.o E.o⟩
 by_cases k3:k=3
 ·subst k3;go_wp2_with fail;refine(rid_any b s2 R V2 C o.o.rdr).mono ?_;rintro e H ⟨⟨⟨j,l⟩,m⟩,v,s3,z,rfl,Z,r,t,n⟩;have D:=cL n C;have u:=hid (o.o.call r t);have E:=hid n;obtain rfl:v= .agg #[j,l,m]:=Z;clear r t n;go_upto_region 16 with(first|(refine bV rfl _ _ _ rfl i.heap.size 10 _ _ #[(3:Int),a,c,f,(0:Int),(0:Int),(0:Int),.string ⟨#[]⟩,false,.slice none 0 0,j,l,m,(0:Int),(0:Int),(0:Int),.string ⟨#[]⟩,.slice none 0 0] _ rfl u.o.obj rfl ?_ ?_ ?_ rfl ?_;kernel_rfl;exact aR rfl;rfl));have q:=u.o.put #[(3:Int),a,c,f,(0:Int),(0:Int),(0:Int),.string ⟨#[]⟩,false,.slice none 0 0,j,l,m,(0:Int),(0:Int),(0:Int),.string ⟨#[]⟩,.slice none 0 0];generalize p:H.setRow i.heap.size #[(3:Int),a,c,f,(0:Int),(0:Int),(0:Int),.string ⟨#[]⟩,false,.slice none 0 0,j,l,m,(0:Int),(0:Int),(0:Int),.string ⟨#[]⟩,.slice none 0 0]=V3 at *;clear p;have g:=hid q;clear q;go_wp2_with fail;refine(rid_any b s3 z V3 D g.o.rdr).mono ?_;rintro e y4 ⟨⟨⟨t4,r4⟩,i4⟩,v,s4,T,rfl,Z,M,N,B⟩;have ac:=cL B D;have O:=hid (g.o.call M N);have W:=hid B;obtain rfl:v= .agg #[t4,r4,i4]:=Z;clear M N B
  go_upto_region 17 with(first|(refine bV rfl _ _ _ rfl i.heap.size 13 _ _ #[(3:Int),a,c,f,(0:Int),(0:Int),(0:Int),.string ⟨#[]⟩,false,.slice none 0 0,j,l,m,t4,r4,i4,.string ⟨#[]⟩,.slice none 0 0] _ rfl O.o.obj rfl ?_ ?_ ?_ rfl ?_;kernel_rfl;exact aR rfl;rfl));have P:=O.o.put #[(3:Int),a,c,f,(0:Int),(0:Int),(0:Int),.string ⟨#[]⟩,false,.slice none 0 0,j,l,m,t4,r4,i4,.string ⟨#[]⟩,.slice none 0 0];generalize p:y4.setRow i.heap.size #[(3:Int),a,c,f,(0:Int),(0:Int),(0:Int),.string ⟨#[]⟩,false,.slice none 0 0,j,l,m,t4,r4,i4,.string ⟨#[]⟩,.slice none 0 0]=V4 at *;clear p;have x:=hid P;clear P;go_wp2_with fail;refine(rbytes_any b s4 T V4 ac x.o.rdr).mono ?_;rintro e y5 ⟨x5,v,s5,ab,rfl,⟨rfl,aO⟩,V,ad,X⟩;have aZ:=cL X ac;have F:=hid (x.o.call V ad);have ag:=hid X;clear V ad X;go_upto_region 20 with(first|(refine bV rfl _ _ _ rfl i.heap.size 16 _ _ #[(3:Int),a,c,f,(0:Int),(0:Int),(0:Int),.string ⟨#[]⟩,false,.slice none 0 0,j,l,m,t4,r4,i4,x5,.slice none 0 0] _ rfl F.o.obj rfl ?_ ?_ ?_ rfl ?_;kernel_rfl;exact aR rfl;rfl));have aP:=F.o.put #[(3:Int),a,c,f,(0:Int),(0:Int),(0:Int),.string ⟨#[]⟩,false,.slice none 0 0,j,l,m,t4,r4,i4,x5,.slice none 0 0];generalize p:y5.setRow i.heap.size #[(3:Int),a,c,f,(0:Int),(0:Int),(0:Int),.string ⟨#[]⟩,false,.slice none 0 0,j,l,m,t4,r4,i4,x5,.slice none 0 0]=V5 at *;clear p;have Y:=hid aP
  clear aP
  go_wp2_with (first
   |(refine cd rfl _ _ rfl i.heap.size _ _ _ rfl Y.o.obj am rfl ?_ ?_;kernel_rfl)
   |(refine bW rfl _ _ _ rfl w.heap.size _ _ _ rfl rfl Y.o.res ?_ ?_ ?_ ?_;kernel_rfl;rfl;rfl))
  refine aU (bG rfl _ _ w.heap.size _ _ (0,0) _ rfl (aF _ Y.o.res) am rfl (by kernel_rfl)) rfl ?_;refine⟨{ opO 3 ⟨⟨a,c⟩,f⟩ with after:=⟨⟨j,l⟩,m⟩,elem:=⟨⟨t4,r4⟩,i4⟩,text:=x5 },_,s5,ab,rfl,⟨⟨none,0,none,0⟩,rfl,OpIn.none rfl rfl (aq _) aO,aq _,aO⟩,(setRow_other _ _ _ _ (by have:=Y.o.nb;omega)).trans Y.o.rdr,fk Y.o.grow _ _ (aa _),RdIs.op3 Q.o S.o E.o W.o ag.o⟩
 by_cases k4:k=4
 ·subst k4;go_wp2_with fail;refine(rmany_id b s2 R V2 C o.o.rdr).mono ?_;rintro e H ⟨J,v,s3,z,rfl,ar,r,t,n⟩;have D:=cL n C;have u:=hid (o.o.call r t);have E:=hid n;obtain⟨⟨K,L,rfl⟩,G,aX⟩:=ar;clear r t n;go_upto_region 20 with(first|(refine bV rfl _ _ _ rfl i.heap.size 17 _ _ #[(4:Int),a,c,f,(0:Int),(0:Int),(0:Int),.string ⟨#[]⟩,false,.slice none 0 0,(0:Int),(0:Int),(0:Int),(0:Int),(0:Int),(0:Int),.string ⟨#[]⟩,.slice K J.length L] _ rfl u.o.obj rfl ?_ ?_ ?_ rfl ?_;kernel_rfl;exact aR rfl;rfl));have q:=u.o.put #[(4:Int),a,c,f,(0:Int),(0:Int),(0:Int),.string ⟨#[]⟩,false,.slice none 0 0,(0:Int),(0:Int),(0:Int),(0:Int),(0:Int),(0:Int),.string ⟨#[]⟩,.slice K J.length L];have aS:=lt_of_block o.o.obj;have ae:OpIn H (λk=>V2.heap.size<=k) { opO 4 ⟨⟨a,c⟩,f⟩ with elems:=J } ⟨none,0,K,L⟩:=⟨RowG.zero,ids_own G,aa _,(fw G).1,aq _,(fw G).2,aq _,aq _⟩;have au:=hid (ae.agr (Agr.setRow H i.heap.size #[(4:Int),a,c,f,(0:Int),(0:Int),(0:Int),.string ⟨#[]⟩,false,.slice none 0 0,(0:Int),(0:Int),(0:Int),(0:Int),(0:Int),(0:Int),.string ⟨#[]⟩,.slice K J.length L] (by omega)));have aT:=o.o.grow.size;clear ae G
  generalize p:H.setRow i.heap.size #[(4:Int),a,c,f,(0:Int),(0:Int),(0:Int),.string ⟨#[]⟩,false,.slice none 0 0,(0:Int),(0:Int),(0:Int),(0:Int),(0:Int),(0:Int),.string ⟨#[]⟩,.slice K J.length L]=V3 at *;clear p;have g:=hid q;clear q
  go_wp2_with (first
   |(refine cd rfl _ _ rfl i.heap.size _ _ _ rfl g.o.obj am rfl ?_ ?_;kernel_rfl)
   |(refine bW rfl _ _ _ rfl w.heap.size _ _ _ rfl rfl g.o.res ?_ ?_ ?_ ?_;kernel_rfl;rfl;rfl))
  refine aU (bG rfl _ _ w.heap.size _ _ (0,0) _ rfl (aF _ g.o.res) am rfl (by kernel_rfl)) rfl ?_;refine⟨{ opO 4 ⟨⟨a,c⟩,f⟩ with elems:=J },_,s3,z,rfl,⟨⟨none,0,K,L⟩,rfl,(au.o.agr (Agr.setRow _ w.heap.size _ (by omega))).sub (λk _ h=>by omega),aq _,aq _⟩,(setRow_other _ _ _ _ (by have:=g.o.nb;omega)).trans g.o.rdr,fk g.o.grow _ _ (aa _),RdIs.op4 Q.o S.o E.o⟩
 ·have q0:(k == 0)=false:=by rw[aL];exact k0
  have q1:(k == 1)=false:=by rw[aL];exact k1
  have q2:(k == 2)=false:=by rw[aL];exact k2
  have q3:(k == 3)=false:=by rw[aL];exact k3
  have q4:(k == 4)=false:=by rw[aL];exact k4
  have HK:=hid (And.intro k0 (And.intro k1 (And.intro k2 (And.intro k3 k4))));have b1:=o.o.rdr.c1;have f1:=o.o.rdr.f 1;clear k0 k1 k2 k3 k4;go_upto_region 20 with(fail);have q:=o.o.setBad true;generalize p:V2.setCell ⟨b,1,none⟩ (.bool true)=V3 at *;clear p;have g:=hid q
  go_wp2_with (first
   |(refine cd rfl _ _ rfl i.heap.size _ _ _ rfl g.o.obj am rfl ?_ ?_;kernel_rfl)
   |(refine bW rfl _ _ _ rfl w.heap.size _ _ _ rfl rfl g.o.res ?_ ?_ ?_ ?_;kernel_rfl;rfl;rfl))
  refine aU (bG rfl _ _ w.heap.size _ _ (0,0) _ rfl (aF _ g.o.res) am rfl (by kernel_rfl)) rfl ?_;refine⟨opO k ⟨⟨a,c⟩,f⟩,_,s2,true,rfl,⟨⟨none,0,none,0⟩,rfl,OpIn.none rfl rfl (aq _) (aq _),aq _,aq _⟩,(setRow_other _ _ _ _ (by have:=g.o.nb;omega)).trans g.o.rdr,fk g.o.grow _ _ (aa _),RdIs.opx HK.o.1 HK.o.2.1 HK.o.2.2.1 HK.o.2.2.2.1 HK.o.2.2.2.2 Q.o S.o⟩
end
section
open Go.RowKit Go.Lib Go.Sort
def opC_ (p:Gop×OpX):List Value:=(opA p.1 p.2).toList
theorem fx {c:Array Value} (h:c.toList.all (·.oneCell')=true):∀u∈c.toList,u.oneCell'=true:=dT.1 h
theorem infoOp:(Tryz.prog.info? 125).map (λi=>(i.zero,i.size,i.bytes))=some (some (.agg #[(0:Int),(0:Int),(0:Int),(0:Int),(0:Int),(0:Int),(0:Int),.string ⟨#[]⟩,false,.slice none 0 0,(0:Int),(0:Int),(0:Int),(0:Int),(0:Int),(0:Int),.string ⟨#[]⟩,.slice none 0 0]),18,192):=by kernel_rfl
def OpGood (w:World) (S:Nat->Prop) (p:Gop×OpX):Prop:=OpIn w S p.1 p.2∧p.1.name.size<=1000000∧p.1.text.size<=1000000
theorem OpGood.agr {w w':World} {S:Nat->Prop} {p:Gop×OpX} (h:OpGood w S p) (ha:Agr S w w'):OpGood w' S p:=⟨h.1.agr ha,h.2⟩
theorem OpGood.sub {w:World} {S T:Nat->Prop} {p:Gop×OpX} (h:OpGood w S p) (hs:∀b,b<w.heap.size->S b->T b):OpGood w T p:=⟨h.1.sub hs,h.2⟩
def POps (B:Nat) (xs:List Gop) (w':World) (v:Value):Prop:=
 ∃(L:List (Gop×OpX)) (S:Nat->Prop),L.map Prod.fst=xs∧(∃A c,v= .slice A xs.length c)∧w'.ownsRow B 125 18 v xs.length (L.flatMap opC_)∧xs.length<=1000001∧(∀p∈L,OpGood w' S p)∧∀k,S k->B<=k∧k<w'.heap.size∧v.ownBlock≠some k
structure OpsAt (B:Nat) (v:Value) (L:List (Gop×OpX)) (S:Nat->Prop) (wr:World):Prop where
 good:∀p∈L,OpGood wr S p
 old:∀k,S k->B<=k∧k<wr.heap.size∧v.ownBlock≠some k
theorem OpsAt.next {B:Nat} {v v':Value} {L:List (Gop×OpX)} {S:Nat->Prop} {wr d l:World} {b:Nat} {c:Obj} {o:Gop} {x:OpX} (h:OpsAt B v L S wr) (C:B<=wr.heap.size) (q:b<B) (r:∀g,v.ownBlock=some g->g<wr.heap.size)
  (s:wr.grownBy d (some b)) (u:OpIn d (λk=>wr.heap.size<=k) o x) (w:o.name.size<=1000000) (y:o.text.size<=1000000) (m:(d.alloc c).grownBy l v.ownBlock) (a:v'.ownBlock=v.ownBlock∨v'.ownBlock=some (d.alloc c).heap.size):
  ∃S',OpsAt B v' (L++[(o,x)]) S' l:=by
 have D:=s.size;have A:d.heap.size+1<=l.heap.size:=by have:=m.size;simpa using this
 have n:Agr (λk=>S k∨(wr.heap.size<=k∧k<d.heap.size)) d l:=by
  have z:Agr (λk=>S k∨(wr.heap.size<=k∧k<d.heap.size)) d (d.alloc c):=Agr.below ((ag _ _).alloc (aa _) _);refine z.trans (Agr.grown m λg e f=> ?_);have:=r g e;rcases f with f|f
  ·exact(h.old g f).2.2 e
  ·omega
 have t:Agr S wr d:=Agr.grown s λg e f=>by cases e;have:=(h.old b f).1;omega
 refine⟨λk=>S k∨(wr.heap.size<=k∧k<d.heap.size),λp i=> ?_,λk j=> ?_⟩
 ·rcases aD.1 i with i|i
  ·exact(((h.good p i).agr t).sub λb _ f=> .inl f).agr n
  ·rw[ba] at i;subst i;exact⟨(u.sub λb q f=> .inr ⟨f,q⟩).agr n,w,y⟩
 ·rcases j with j|j
  ·have:=h.old k j;refine⟨this.1,by omega,λe=> ?_⟩;rcases a with a|a
   ·exact this.2.2 (a.symm.trans e)
   ·rw[a] at e;cases e;simp at this;omega
  ·refine⟨by omega,by omega,λe=> ?_⟩;rcases a with a|a
   ·have:=r k (a.symm.trans e);omega
   ·rw[a] at e;cases e;simp at j;omega
theorem rmany_op (b:Nat) (s:ByteArray) (t:Bool) (w:World) (hs:s.size<=1000000) (hR:Rdr w b s t):
  Calls Tryz.prog 84 #[.pointer (some ⟨b,0,none⟩),.func (Fn.func 85) #[.pointer (some ⟨b,0,none⟩)] #[]] w (RdQ (eG opR) (POps w.heap.size) b s t w):=by
 obtain⟨i0,hi,ap,aq,au⟩:=bx infoOp;have av:=hR.lt;have aw:=hid (hR.kept (aQ w (.cells #[] 125) none) (by simp));have ax:=hid (an w (.cells #[] 125));have ay:=hid (aQ w (.cells #[] 125) (some b));clear hR;go_enter Tryz.func84,Tryz.ntmps84;go_wp2_with fail;refine(ge b s t _ hs aw.o).mono ?_;rintro e w1 ⟨n0,v,O,F,rfl,⟨rfl,G⟩,ab,H,I⟩;obtain⟨n,rfl⟩:=dU G.1;have hn:n<9223372036854775808:=by have:=G.2;omega
 have aX:=cL I hs;have az:=hid I;have aA:=hid (bZ ay.o H);have aB:=hid ((H.block w.heap.size (by simp) (by intro e;cases e;omega)).trans ax.o);have aC:=hid ab;clear I H ab G;go_wp2;go_loopw [5,6] (λv m wr=>∃(k:Nat) (L:List (Gop×OpX)) (q:ByteArray) (a:Bool) (S:Nat->Prop),m= .int .i64 k∧k<=n∧wr.ownsRow w.heap.size 125 18 v L.length (L.flatMap opC_)∧Hid (Rdr wr b q a)∧Hid (w.grownBy wr (some b))∧Hid (ManyAt opR n O.data.toList F k (L.map Prod.fst) q.data.toList a)∧Hid (OpsAt w.heap.size v L S wr)) (λ_ m _=>(RowKit.intOf m).toNat)
 case atStart=>exact⟨n,[],O,F,λ_=>False,rfl,aa _,⟨rfl,.inr ⟨w.heap.size,0,#[],rfl,aa _,aB.o,aa _,by unfold maxLen;omega,rfl,rfl⟩⟩,aC,aA,hid ManyAt.start,hid ⟨λp hp=>(by cases hp),λk hk=>hk.elim⟩⟩
 case round=>
  obtain⟨k,L,q,a,S,rfl,hk,r,HR,HG,P,HP⟩:=hrel;have aD:=P.o.le;have J:=P.o.few;have aE:O.data.toList.length=O.size:=by simp
  have aF:q.data.toList.length=q.size:=by simp
  have u:(L.map Prod.fst).length=L.length:=by simp
  have aG:L.length<=1000001:=by split at J<;>omega
  have K:∀h:a=true∨k=0,RdQ (eG opR) (POps w.heap.size) b s t w (.returned u5) wr:=λh=>
   ⟨L.map Prod.fst,u5,q,a,rfl,⟨L,S,rfl,by rw[u];exact bU r,by rw[u];exact r,by rw[u];exact aG,HP.o.good,HP.o.old⟩,HR.o,HG.o,RdIs.many az.o (by rw[bX];exact P.o.done h)⟩
  have HF:=hid K;have c1:=HR.o.c1;have aH:q.size<=1000000:=by omega
  clear K aD J aE aF u;cases a with
  | true=>
   go_wp2
   all_goals
    go_ret;exact HF.o (.inl (by first|rfl|trivial))
  | false=>
   by_cases h0:0<k
   ·obtain⟨m,rfl⟩:∃m,k=m+1:=⟨k-1,by omega⟩;have HC:=hid (rop_any b q false wr aH HR.o);have HB:=hid (λg e=>(r.lt g e).1);have aI:=hid (λg e=>(r.lt g e).2);have ac:=hid (show u5.ownBlock≠some b from λe=>by have:=(r.lt b e).1;omega);have aJ:=HG.o.size;have aL:=hid r;clear r;go_wp2_with fail;refine HC.o.mono ?_;rintro e w2 ⟨o,v2,s2,ao,rfl,⟨x,hv,ad,ae,af⟩,ag,y,ah⟩;have aM:=hid ag;have aj:=hid y;have aN:=hid ah;have aW:=y.size;have aO:=hid (aL.o.kept y (.inr ac.o));have ak:=hid ad;have M:=hid (And.intro ae af);clear ag y ah ad ae af;have aP:=hid (λv' w3 (c:Obj) (aR:(w2.alloc c).grownBy w3 u5.ownBlock) h=>OpsAt.next HP.o aJ av aI.o aj.o ak.o M.o.1 M.o.2 aR (v':=v') h);have aS:=hid (P.o.next opT aN.o);clear ak M;obtain⟨f,⟨⟨Q,R⟩,T⟩,⟨⟨U,V⟩,W⟩,i,z,j,⟨⟨A,X⟩,Y⟩,⟨⟨Z,er⟩,ei⟩,l,d⟩:=o;obtain⟨xd,B,xe,C⟩:=x;obtain rfl:v2= .agg #[f,Q,R,T,U,V,W,i,z,.slice xd j.length B,A,X,Y,Z,er,ei,l,.slice xe d.length C]:=hv
    go_wp2_with (at_builtin;refine wpList_append_own_at _ rfl _ _ 43 rfl w.heap.size 125 i0 (.agg #[(0:Int),(0:Int),(0:Int),(0:Int),(0:Int),(0:Int),(0:Int),.string ⟨#[]⟩,false,.slice none 0 0,(0:Int),(0:Int),(0:Int),(0:Int),(0:Int),(0:Int),.string ⟨#[]⟩,.slice none 0 0]) 18 192 Tryz.underlying43 hi ap aq au rfl (by decide) _ _ _ rfl (by exact aO.o.alloc _) ⟨w2.heap.size,0,none⟩ 1 1 [f,Q,R,T,U,V,W,i,z,.slice xd j.length B,A,X,Y,Z,er,ei,l,.slice xe d.length C] rfl rfl (by exact dH _ _ _) (by exact fx (c:=#[f,Q,R,T,U,V,W,i,z,.slice xd j.length B,A,X,Y,Z,er,ei,l,.slice xe d.length C]) rfl) (by unfold maxLen;omega) (by omega) (by simp;omega) ?_;intro v' w3 D E _ am;have aT:=hid D;have N:=hid E;have aU:=hid am;clear D E am);go_roundw
    case rel=>
     obtain⟨S',aV⟩:=aP.o _ _ _ N.o aU.o;exact⟨m,L++[(⟨f,⟨⟨Q,R⟩,T⟩,⟨⟨U,V⟩,W⟩,i,z,j,⟨⟨A,X⟩,Y⟩,⟨⟨Z,er⟩,ei⟩,l,d⟩,⟨xd,B,xe,C⟩)],s2,ao,S',by go_num,by omega,by rw[al,aK,bJ];exact aT.o,hid ((aM.o.kept (aQ w2 _ none) (by simp)).kept N.o ac.o),hid (gby_new (gV (bZ HG.o aj.o) _) N.o HB.o),hid (by rw[bD];exact aS.o),hid aV⟩
    case measure=>simp[RowKit.intOf]
   ·obtain rfl:k=0:=by omega
    go_wp2;go_ret;exact HF.o (.inr (by first|rfl|trivial))
end
end
end Go.Proofs.YtkhmicndehlneaaGreatDoor
