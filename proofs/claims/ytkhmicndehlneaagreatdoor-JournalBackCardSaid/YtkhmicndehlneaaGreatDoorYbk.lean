/- Part 11 of the walks and plain laws that this claim uses, joined. Conditions: as each theorem states. -/
import Derived.ChangeSame
import Derived.Deep.Slices
import Derived.DeepKeys4
import Derived.Maps.AppendAt
import Derived.Maps.OwnSet
import Derived.SizedLaws
import Derived.Test.YtkhmicndehlneaaGreatDoorYbj
namespace Go.Proofs.YtkhmicndehlneaaGreatDoor
set_option maxRecDepth 100000
set_option maxHeartbeats 16000000
set_option linter.unusedVariables false
section
section
open Go.RowKit Go.Lib Go.Sort
attribute [local go_sem ↓] Go.wp_at_zero Go.wp_at_succ
section
variable {P : Program} {ops : Array Oper} {rest : List Oper} {o : Oper} {a : Act} {Q : Exit → Act → World → Prop}
theorem dE {w:World} (hgd:o.guard=none) (ty:TypeId) (x y:Operand) (ho:o.op= .store ty x y) (g off:Nat) (T:TypeId) (c c':Array Value) (v:Value)
  (hx:a.eval x= .pointer (some ⟨g,off,none⟩)) (hg:w.heap[g]? =some (.cells c T (0,0))) (hy:a.eval y=v) (hi:(P.info? ty).map (·.size)=some v.cells.size) (hs:off+v.cells.size<=c.size) (h1:v.cells.toList.all (·.oneCell')=true) (hc:putL c off v.cells.toList=c')
  (h:wpList P ops Q rest (a.put o.dst undef) (w.setRow g c')):wpList P ops Q (o::rest) a w:=by
 subst hc;refine wpList_plain hgd λ_ b=> ?_;have d:w.there g off v.cells.size:=λj e=>by
  rw[crw hg];exact⟨by rw[dh (by omega)];rfl,aW _ _ _ _ _ hg⟩
 unfold Oper.wp execOp;simp only[ho,hx,hy,Instr.storeAt,Instr.sureAddr,Sem.run_bind,Sem.run_pure,Result.andThen_ok,run_store_any (P:=P) _ _ off ty v d hi h1];rw[fk _ _ _ _ _ _ hg];exact b _ _ h
end
structure OpSt (w0:World) (b R O:Nat) (T:TypeId) (zc oc:Array Value) (s:ByteArray) (bad:Bool) (w:World):Prop where
 rdr:Rdr w b s bad
 res:w.heap[R]? =some (.cells zc T (0,0))
 obj:w.heap[O]? =some (.cells oc T (0,0))
 grow:w0.grownBy w (some b)
 nb:b<w0.heap.size
 nR:w0.heap.size<=R
 nO:R<O
theorem lt_of_block {w:World} {g:Nat} {o:Obj} (h:w.heap[g]? =some o):g<w.heap.size:=by
 rcases cj g w.heap.size with a|b
 ·exact a
 ·rw[Array.getElem?_eq_none b] at h;cases h
section
variable {w0 w w' : World} {b R O : Nat} {T : TypeId} {zc oc : Array Value} {s s' : ByteArray} {bad bad' : Bool}
theorem OpSt.call (h:OpSt w0 b R O T zc oc s bad w) (hr:Rdr w' b s' bad') (hg:w.grownBy w' (some b)):OpSt w0 b R O T zc oc s' bad' w':=
 ⟨hr,(hg.block R (lt_of_block h.res) (by intro e;cases e;have:=h.nb;have:=h.nR;omega)).trans h.res,(hg.block O (lt_of_block h.obj) (by intro e;cases e;have:=h.nb;have:=h.nR;have:=h.nO;omega)).trans h.obj,dC h.grow hg,h.nb,h.nR,h.nO⟩
theorem setRow_other (w:World) (g k:Nat) (c:Array Value) (h:k≠g):(w.setRow g c).heap[k]? =w.heap[k]? :=by
 simp only[World.setRow,cx];rw[aC (λe=>h e.symm)]
theorem OpSt.put (h:OpSt w0 b R O T zc oc s bad w) (c:Array Value):OpSt w0 b R O T zc c s bad (w.setRow O c):=by
 have a:=h.nb;have d:=h.nR;have e:=h.nO;exact⟨(setRow_other w O b c (by omega)).trans h.rdr,(setRow_other w O R c (by omega)).trans h.res,aM _ h.obj,jN h.grow _ _ (by omega),h.nb,h.nR,h.nO⟩
theorem OpSt.setBad (h:OpSt w0 b R O T zc oc s bad w) (v:Bool):OpSt w0 b R O T zc oc s v (w.setCell ⟨b,1,none⟩ (.bool v)):=by
 have a:=h.nb;have c:=h.nR;have d:=h.nO;exact⟨h.rdr.set1 v,(cK _ _ _ _ (by show R≠b;omega)).trans h.res,(cK _ _ _ _ (by show O≠b;omega)).trans h.obj,dC h.grow (eF _ _ _),h.nb,h.nR,h.nO⟩
theorem OpSt.cell (h:OpSt w0 b R O T zc oc s bad w) (i:Nat):w.cell? ⟨O,i,none⟩=oc[i]? :=aD _ _ _ _ _ _ h.obj
end
theorem Agr.setRow {S:Nat->Prop} (w:World) (g:Nat) (c:Array Value) (h:¬S g):Agr S w (w.setRow g c):=⟨by simp[World.setRow],λb hb _=>setRow_other w g b c (λe=>h (e ▸ hb))⟩
def POp (B:Nat) (o:Gop) (w':World) (v:Value):Prop:=∃x,v= .agg (opA o x)∧OpIn w' (λk=>B<=k) o x∧o.name.size<=1000000∧o.text.size<=1000000
theorem jU {w:World} {B:Nat} {e:TypeId} {s:Nat} {A:Option Addr} {n c:Nat} {xs:List Value} {f:Nat->Nat->Value} (h:w.ownsRow B e s (.slice A n c) n xs) (hf:∀k j,k<n->j<s->xs[k*s+j]? =some (f k j)):RowG w (λk=>B<=k) A n s f:=λk hk=>by
 rcases h.2 with⟨h1,h2⟩|⟨g,cap,cur,h1,hB,hg,h2⟩
 ·omega
 ·cases h1
  have hlt:=lt_of_block hg
  refine⟨g,0,rfl,hB,hlt,λj hj=> ?_⟩
  have:=h.cells (g:=g) rfl (k*s+j) _ (hf k j hk hj)
  rw[jm] at this
  rw[bN]
  exact this
theorem kB {w:World} {B:Nat} {e:TypeId} {s:Nat} {A:Option Addr} {n c:Nat} {xs:List Value} (h:w.ownsRow B e s (.slice A n c) n xs):n<=c∧c<=maxLen:=by
 rcases h.2 with⟨h1,h2⟩|⟨g,cap,cur,h1,hB,hg,h2,h3,_⟩
 ·cases h1;exact⟨aa _,aq _⟩
 ·cases h1;exact⟨h2,h3⟩
theorem gG {α:Type} {f:α->List Value} {s:Nat} (hl:∀x,(f x).length=s):∀(xs:List α) (k j:Nat) (z:α),k<xs.length->j<s->(xs.flatMap f)[k*s+j]? =(f (xs.getD k z))[j]?
 | [],k,j,z,h,_=>by simp at h
 |x::xs,0,j,z,h,hj=>by
  rw[cW,Nat.zero_mul,bN,es (by rw[hl];exact hj)]
  rfl
 |x::xs,k+1,j,z,h,hj=>by
  rw[cW,cY (by rw[hl,Nat.succ_mul];omega),hl]
  have e:(k+1)*s+j-s=k*s+j:=by rw[Nat.succ_mul];omega
  rw[e,gG hl xs k j z (by simpa using h) hj]
  rfl
theorem sts_own {w:World} {B:Nat} {A:Option Addr} {c:Nat} {xs:List Gst} {E:TypeId} (h:w.ownsRow B E 2 (.slice A xs.length c) xs.length (xs.flatMap stC_)):StsS w (λk=>B<=k) A xs:=by
 refine jU h λk j a b=> ?_;rw[gG (s:=2) (λ_=>rfl) xs k j .zero a b];rcases j with _|_|j
 ·rfl
 ·rfl
 ·omega
theorem ids_own {w:World} {B:Nat} {A:Option Addr} {c:Nat} {xs:List Gid} {E:TypeId} (h:w.ownsRow B E 3 (.slice A xs.length c) xs.length (xs.flatMap idC_)):IdsS w (λk=>B<=k) A xs:=by
 refine jU h λk j a b=> ?_;rw[gG (s:=3) (λ_=>rfl) xs k j .zero a b];rcases j with _|_|_|j
 ·rfl
 ·rfl
 ·rfl
 ·omega
theorem OpIn.none {w:World} {S:Nat->Prop} {o:Gop} (h1:o.dots=[]) (h2:o.elems=[]) (h3:o.name.size<=1000000) (h4:o.text.size<=1000000):OpIn w S o ⟨none,0,none,0⟩:=by
 refine⟨?_,?_,by rw[h1];exact aa _,by rw[h2];exact aa _,aq _,aq _,by unfold maxLen;omega,by unfold maxLen;omega⟩
 ·rw[h1];exact RowG.zero
 ·rw[h2];exact RowG.zero
theorem rop_any (b:Nat) (s:ByteArray) (bad:Bool) (w:World) (hs:s.size<=1000000) (hR:Rdr w b s bad):
  Calls Tryz.prog 85 #[.pointer (some ⟨b,0,none⟩)] w (RdQ opR (POp w.heap.size) b s bad w):=by
 have aQ:=hR.lt;have ar:=hid (hR.kept (bi w (.cells #[(0:Int),(0:Int),(0:Int),(0:Int),(0:Int),(0:Int),(0:Int),.string ⟨#[]⟩,false,.slice none 0 0,(0:Int),(0:Int),(0:Int),(0:Int),(0:Int),(0:Int),.string ⟨#[]⟩,.slice none 0 0] 125) none) (by simp));have au:=hid (am w (.cells #[(0:Int),(0:Int),(0:Int),(0:Int),(0:Int),(0:Int),(0:Int),.string ⟨#[]⟩,false,.slice none 0 0,(0:Int),(0:Int),(0:Int),(0:Int),(0:Int),(0:Int),.string ⟨#[]⟩,.slice none 0 0] 125));have av:=hid (bi w (.cells #[(0:Int),(0:Int),(0:Int),(0:Int),(0:Int),(0:Int),(0:Int),.string ⟨#[]⟩,false,.slice none 0 0,(0:Int),(0:Int),(0:Int),(0:Int),(0:Int),(0:Int),.string ⟨#[]⟩,.slice none 0 0] 125) (some b));clear hR;go_enter Tryz.func85,Tryz.ntmps85;go_wp2_with fail;refine(fX b s bad _ hs ar.out).mono ?_;rintro e i ⟨k,v,s1,ah,rfl,⟨rfl,hk⟩,aw,af,ai⟩;have ay:=eB ai hs;have Q:=hid ai;have aA:=hid ((af.block w.heap.size (by simp) (by intro e;cases e;omega)).trans au.out);have aB:=hid (dC av.out af);have aj:w.heap.size<i.heap.size:=by have:=af.size;simp at this;omega
 have aC:=hid aw;clear ai af aw;go_upto_region 2 with(refine bM rfl _ _ _ rfl _ _ _ _ rfl ?_ rfl ?_ ?_ ?_ ?_;(focus(simp;done));kernel_rfl;rfl;rfl)
 have aD:OpSt w b w.heap.size i.heap.size 125 #[(0:Int),(0:Int),(0:Int),(0:Int),(0:Int),(0:Int),(0:Int),.string ⟨#[]⟩,false,.slice none 0 0,(0:Int),(0:Int),(0:Int),(0:Int),(0:Int),(0:Int),.string ⟨#[]⟩,.slice none 0 0] #[k,(0:Int),(0:Int),(0:Int),(0:Int),(0:Int),(0:Int),.string ⟨#[]⟩,false,.slice none 0 0,(0:Int),(0:Int),(0:Int),(0:Int),(0:Int),(0:Int),.string ⟨#[]⟩,.slice none 0 0] s1 ah (i.alloc (.cells #[k,(0:Int),(0:Int),(0:Int),(0:Int),(0:Int),(0:Int),.string ⟨#[]⟩,false,.slice none 0 0,(0:Int),(0:Int),(0:Int),(0:Int),(0:Int),(0:Int),.string ⟨#[]⟩,.slice none 0 0] 125)):=
  ⟨aC.out.kept (bi i _ none) (by simp),(ax _ _ _ aj).trans aA.out,am _ _,jg aB.out _,aQ,aa _,aj⟩
 generalize p:i.alloc (.cells #[k,(0:Int),(0:Int),(0:Int),(0:Int),(0:Int),(0:Int),.string ⟨#[]⟩,false,.slice none 0 0,(0:Int),(0:Int),(0:Int),(0:Int),(0:Int),(0:Int),.string ⟨#[]⟩,.slice none 0 0] 125)=V1 at *;clear p aC aA aB ar au av;have aE:=hid aD;clear aD;go_wp2_with fail;refine(rid_any b s1 ah V1 ay aE.out.rdr).mono ?_;rintro e y2 ⟨⟨⟨a,c⟩,f⟩,v,s2,R,rfl,Z,aF,aG,ak⟩;have C:=eB ak ay;have aH:=hid (aE.out.call aF aG);have S:=hid ak;obtain rfl:v= .agg #[a,c,f]:=Z;clear aF aG ak;go_upto_region 3 with(first|(refine dE rfl _ _ _ rfl i.heap.size 1 _ _ #[k,a,c,f,(0:Int),(0:Int),(0:Int),.string ⟨#[]⟩,false,.slice none 0 0,(0:Int),(0:Int),(0:Int),(0:Int),(0:Int),(0:Int),.string ⟨#[]⟩,.slice none 0 0] _ rfl aH.out.obj rfl ?_ ?_ ?_ rfl ?_;kernel_rfl;exact bJ rfl;rfl));have aI:=aH.out.put #[k,a,c,f,(0:Int),(0:Int),(0:Int),.string ⟨#[]⟩,false,.slice none 0 0,(0:Int),(0:Int),(0:Int),(0:Int),(0:Int),(0:Int),.string ⟨#[]⟩,.slice none 0 0];generalize p:y2.setRow i.heap.size #[k,a,c,f,(0:Int),(0:Int),(0:Int),.string ⟨#[]⟩,false,.slice none 0 0,(0:Int),(0:Int),(0:Int),(0:Int),(0:Int),(0:Int),.string ⟨#[]⟩,.slice none 0 0]=V2 at *;clear p;have o:=hid aI;clear aI;have aT:V2.cell? ⟨i.heap.size,0,none⟩=some (.int .i64 k):=by rw[o.out.cell];rfl
 by_cases k0:k=0
 ·subst k0;go_wp2_with fail;refine(rid_any b s2 R V2 C o.out.rdr).mono ?_;rintro e H ⟨⟨⟨j,l⟩,m⟩,v,s3,z,rfl,Z,r,t,n⟩;have D:=eB n C;have u:=hid (o.out.call r t);have E:=hid n;obtain rfl:v= .agg #[j,l,m]:=Z;clear r t n;go_upto_region 8 with(first|(refine dE rfl _ _ _ rfl i.heap.size 4 _ _ #[(0:Int),a,c,f,j,l,m,.string ⟨#[]⟩,false,.slice none 0 0,(0:Int),(0:Int),(0:Int),(0:Int),(0:Int),(0:Int),.string ⟨#[]⟩,.slice none 0 0] _ rfl u.out.obj rfl ?_ ?_ ?_ rfl ?_;kernel_rfl;exact bJ rfl;rfl));have q:=u.out.put #[(0:Int),a,c,f,j,l,m,.string ⟨#[]⟩,false,.slice none 0 0,(0:Int),(0:Int),(0:Int),(0:Int),(0:Int),(0:Int),.string ⟨#[]⟩,.slice none 0 0];generalize p:H.setRow i.heap.size #[(0:Int),a,c,f,j,l,m,.string ⟨#[]⟩,false,.slice none 0 0,(0:Int),(0:Int),(0:Int),(0:Int),(0:Int),(0:Int),.string ⟨#[]⟩,.slice none 0 0]=V3 at *;clear p;have g:=hid q;clear q;go_wp2_with fail;refine(rbytes_any b s3 z V3 D g.out.rdr).mono ?_;rintro e y4 ⟨A,v,s4,T,rfl,⟨rfl,U⟩,M,N,B⟩;have ac:=eB B D;have O:=hid (g.out.call M N);have W:=hid B;clear M N B;go_upto_region 9 with(first|(refine dE rfl _ _ _ rfl i.heap.size 7 _ _ #[(0:Int),a,c,f,j,l,m,A,false,.slice none 0 0,(0:Int),(0:Int),(0:Int),(0:Int),(0:Int),(0:Int),.string ⟨#[]⟩,.slice none 0 0] _ rfl O.out.obj rfl ?_ ?_ ?_ rfl ?_;kernel_rfl;exact bJ rfl;rfl))
  have P:=O.out.put #[(0:Int),a,c,f,j,l,m,A,false,.slice none 0 0,(0:Int),(0:Int),(0:Int),(0:Int),(0:Int),(0:Int),.string ⟨#[]⟩,.slice none 0 0];generalize p:y4.setRow i.heap.size #[(0:Int),a,c,f,j,l,m,A,false,.slice none 0 0,(0:Int),(0:Int),(0:Int),(0:Int),(0:Int),(0:Int),.string ⟨#[]⟩,.slice none 0 0]=V4 at *;clear p;have x:=hid P;clear P;have aR:V4.cell? ⟨i.heap.size,0,none⟩=some (.int .i64 0):=by rw[x.out.cell];rfl
  go_wp2_with fail;refine(fX b s4 T V4 ac x.out.rdr).mono ?_;rintro e y5 ⟨d,v,s5,ab,rfl,⟨rfl,hd⟩,V,ad,X⟩;have F:=hid (x.out.call V ad);have ag:=hid X;have b1:=V.c1;have f1:=V.f 1;clear V ad X;obtain⟨I,al⟩:∃I,I=decide (d=1):=⟨_,rfl⟩;obtain⟨e2,aJ⟩:∃e2,e2=(ab || decide (1<d)):=⟨_,rfl⟩;have aK:=hid al;have an:=hid aJ;have q1:(d == 1)=I:=by rw[al];rfl
  clear al aJ;have b2:=(F.out.put #[(0:Int),a,c,f,j,l,m,A,I,.slice none 0 0,(0:Int),(0:Int),(0:Int),(0:Int),(0:Int),(0:Int),.string ⟨#[]⟩,.slice none 0 0]).rdr.c1;have f2:=(F.out.put #[(0:Int),a,c,f,j,l,m,A,I,.slice none 0 0,(0:Int),(0:Int),(0:Int),(0:Int),(0:Int),(0:Int),.string ⟨#[]⟩,.slice none 0 0]).rdr.f 1;cases ab with
  | true=>
   obtain rfl:e2=true:=by rw[an.out];rfl
   go_upto_region 20 with(first|(refine dE rfl _ _ _ rfl i.heap.size 8 _ _ #[(0:Int),a,c,f,j,l,m,A,I,.slice none 0 0,(0:Int),(0:Int),(0:Int),(0:Int),(0:Int),(0:Int),.string ⟨#[]⟩,.slice none 0 0] _ rfl F.out.obj rfl ?_ ?_ ?_ rfl ?_;kernel_rfl;exact bJ rfl;rfl));have y:=hid ((F.out.put #[(0:Int),a,c,f,j,l,m,A,I,.slice none 0 0,(0:Int),(0:Int),(0:Int),(0:Int),(0:Int),(0:Int),.string ⟨#[]⟩,.slice none 0 0]).setBad true);generalize p:(y5.setRow i.heap.size #[(0:Int),a,c,f,j,l,m,A,I,.slice none 0 0,(0:Int),(0:Int),(0:Int),(0:Int),(0:Int),(0:Int),.string ⟨#[]⟩,.slice none 0 0]).setCell ⟨b,1,none⟩ (.bool true)=V6 at *;clear p
   go_wp2_with (first
    |(refine cu rfl _ _ rfl i.heap.size _ _ _ rfl y.out.obj az rfl ?_ ?_;kernel_rfl)
    |(refine da rfl _ _ _ rfl w.heap.size _ _ _ rfl rfl y.out.res ?_ ?_ ?_ ?_;kernel_rfl;rfl;rfl))
   refine bB (co rfl _ _ w.heap.size _ _ (0,0) _ rfl (aM _ y.out.res) az rfl (by kernel_rfl)) rfl ?_;refine⟨{ opO 0 ⟨⟨a,c⟩,f⟩ with parent:=⟨⟨j,l⟩,m⟩,name:=A,dir:=I },_,s5,true,rfl,⟨⟨none,0,none,0⟩,rfl,OpIn.none rfl rfl U (aq _),U,aq _⟩,(setRow_other _ _ _ _ (by have:=y.out.nb;omega)).trans y.out.rdr,jN y.out.grow _ _ (aa _),RdIs.op0 Q.out S.out E.out W.out (by rw[aK.out];exact RdIs.dir ag.out)⟩
  | false=>
   have q2:decide (1<d)=e2:=by rw[an.out];simp
   go_upto_region 20 with(first|(refine dE rfl _ _ _ rfl i.heap.size 8 _ _ #[(0:Int),a,c,f,j,l,m,A,I,.slice none 0 0,(0:Int),(0:Int),(0:Int),(0:Int),(0:Int),(0:Int),.string ⟨#[]⟩,.slice none 0 0] _ rfl F.out.obj rfl ?_ ?_ ?_ rfl ?_;kernel_rfl;exact bJ rfl;rfl));have y:=hid ((F.out.put #[(0:Int),a,c,f,j,l,m,A,I,.slice none 0 0,(0:Int),(0:Int),(0:Int),(0:Int),(0:Int),(0:Int),.string ⟨#[]⟩,.slice none 0 0]).setBad e2);generalize p:(y5.setRow i.heap.size #[(0:Int),a,c,f,j,l,m,A,I,.slice none 0 0,(0:Int),(0:Int),(0:Int),(0:Int),(0:Int),(0:Int),.string ⟨#[]⟩,.slice none 0 0]).setCell ⟨b,1,none⟩ (.bool e2)=V6 at *;clear p
   go_wp2_with (first
    |(refine cu rfl _ _ rfl i.heap.size _ _ _ rfl y.out.obj az rfl ?_ ?_;kernel_rfl)
    |(refine da rfl _ _ _ rfl w.heap.size _ _ _ rfl rfl y.out.res ?_ ?_ ?_ ?_;kernel_rfl;rfl;rfl))
   refine bB (co rfl _ _ w.heap.size _ _ (0,0) _ rfl (aM _ y.out.res) az rfl (by kernel_rfl)) rfl ?_;refine⟨{ opO 0 ⟨⟨a,c⟩,f⟩ with parent:=⟨⟨j,l⟩,m⟩,name:=A,dir:=I },_,s5,e2,rfl,⟨⟨none,0,none,0⟩,rfl,OpIn.none rfl rfl U (aq _),U,aq _⟩,(setRow_other _ _ _ _ (by have:=y.out.nb;omega)).trans y.out.rdr,jN y.out.grow _ _ (aa _),RdIs.op0 Q.out S.out E.out W.out (by rw[aK.out,an.out];exact RdIs.dir ag.out)⟩
 by_cases k1:k=1
 ·subst k1;go_wp2_with fail;refine(rid_any b s2 R V2 C o.out.rdr).mono ?_;rintro e H ⟨⟨⟨j,l⟩,m⟩,v,s3,z,rfl,Z,r,t,n⟩;have D:=eB n C;have u:=hid (o.out.call r t);have E:=hid n;obtain rfl:v= .agg #[j,l,m]:=Z;clear r t n;go_upto_region 8 with(first|(refine dE rfl _ _ _ rfl i.heap.size 4 _ _ #[(1:Int),a,c,f,j,l,m,.string ⟨#[]⟩,false,.slice none 0 0,(0:Int),(0:Int),(0:Int),(0:Int),(0:Int),(0:Int),.string ⟨#[]⟩,.slice none 0 0] _ rfl u.out.obj rfl ?_ ?_ ?_ rfl ?_;kernel_rfl;exact bJ rfl;rfl));have q:=u.out.put #[(1:Int),a,c,f,j,l,m,.string ⟨#[]⟩,false,.slice none 0 0,(0:Int),(0:Int),(0:Int),(0:Int),(0:Int),(0:Int),.string ⟨#[]⟩,.slice none 0 0];generalize p:H.setRow i.heap.size #[(1:Int),a,c,f,j,l,m,.string ⟨#[]⟩,false,.slice none 0 0,(0:Int),(0:Int),(0:Int),(0:Int),(0:Int),(0:Int),.string ⟨#[]⟩,.slice none 0 0]=V3 at *;clear p;have g:=hid q;clear q;go_wp2_with fail;refine(rbytes_any b s3 z V3 D g.out.rdr).mono ?_;rintro e y4 ⟨A,v,s4,T,rfl,⟨rfl,U⟩,M,N,B⟩;have ac:=eB B D;have O:=hid (g.out.call M N);have W:=hid B;clear M N B;go_upto_region 9 with(first|(refine dE rfl _ _ _ rfl i.heap.size 7 _ _ #[(1:Int),a,c,f,j,l,m,A,false,.slice none 0 0,(0:Int),(0:Int),(0:Int),(0:Int),(0:Int),(0:Int),.string ⟨#[]⟩,.slice none 0 0] _ rfl O.out.obj rfl ?_ ?_ ?_ rfl ?_;kernel_rfl;exact bJ rfl;rfl))
  have P:=O.out.put #[(1:Int),a,c,f,j,l,m,A,false,.slice none 0 0,(0:Int),(0:Int),(0:Int),(0:Int),(0:Int),(0:Int),.string ⟨#[]⟩,.slice none 0 0];generalize p:y4.setRow i.heap.size #[(1:Int),a,c,f,j,l,m,A,false,.slice none 0 0,(0:Int),(0:Int),(0:Int),(0:Int),(0:Int),(0:Int),.string ⟨#[]⟩,.slice none 0 0]=V4 at *;clear p;have x:=hid P;clear P;have aR:V4.cell? ⟨i.heap.size,0,none⟩=some (.int .i64 1):=by rw[x.out.cell];rfl
  go_wp2_with (first
   |(refine cu rfl _ _ rfl i.heap.size _ _ _ rfl x.out.obj az rfl ?_ ?_;kernel_rfl)
   |(refine da rfl _ _ _ rfl w.heap.size _ _ _ rfl rfl x.out.res ?_ ?_ ?_ ?_;kernel_rfl;rfl;rfl))
  refine bB (co rfl _ _ w.heap.size _ _ (0,0) _ rfl (aM _ x.out.res) az rfl (by kernel_rfl)) rfl ?_;refine⟨{ opO 1 ⟨⟨a,c⟩,f⟩ with parent:=⟨⟨j,l⟩,m⟩,name:=A },_,s4,T,rfl,⟨⟨none,0,none,0⟩,rfl,OpIn.none rfl rfl U (aq _),U,aq _⟩,(setRow_other _ _ _ _ (by have:=x.out.nb;omega)).trans x.out.rdr,jN x.out.grow _ _ (aa _),RdIs.op1 Q.out S.out E.out W.out⟩
 by_cases k2:k=2
 ·subst k2;go_wp2_with fail;refine(rmany_st b s2 R V2 C o.out.rdr).mono ?_;rintro e H ⟨J,v,s3,z,rfl,ao,r,t,n⟩;have D:=eB n C;have u:=hid (o.out.call r t);have E:=hid n;obtain⟨⟨K,L,rfl⟩,G,aS⟩:=ao;clear r t n;go_upto_region 20 with(first|(refine dE rfl _ _ _ rfl i.heap.size 9 _ _ #[(2:Int),a,c,f,(0:Int),(0:Int),(0:Int),.string ⟨#[]⟩,false,.slice K J.length L,(0:Int),(0:Int),(0:Int),(0:Int),(0:Int),(0:Int),.string ⟨#[]⟩,.slice none 0 0] _ rfl u.out.obj rfl ?_ ?_ ?_ rfl ?_;kernel_rfl;exact bJ rfl;rfl));have q:=u.out.put #[(2:Int),a,c,f,(0:Int),(0:Int),(0:Int),.string ⟨#[]⟩,false,.slice K J.length L,(0:Int),(0:Int),(0:Int),(0:Int),(0:Int),(0:Int),.string ⟨#[]⟩,.slice none 0 0];have aO:=lt_of_block o.out.obj;have ae:OpIn H (λk=>V2.heap.size<=k) { opO 2 ⟨⟨a,c⟩,f⟩ with dots:=J } ⟨K,L,none,0⟩:=⟨sts_own G,RowG.zero,(kB G).1,aa _,(kB G).2,aq _,aq _,aq _⟩;have ap:=hid (ae.agr (Agr.setRow H i.heap.size #[(2:Int),a,c,f,(0:Int),(0:Int),(0:Int),.string ⟨#[]⟩,false,.slice K J.length L,(0:Int),(0:Int),(0:Int),(0:Int),(0:Int),(0:Int),.string ⟨#[]⟩,.slice none 0 0] (by omega)));have aP:=o.out.grow.size;clear ae G
  generalize p:H.setRow i.heap.size #[(2:Int),a,c,f,(0:Int),(0:Int),(0:Int),.string ⟨#[]⟩,false,.slice K J.length L,(0:Int),(0:Int),(0:Int),(0:Int),(0:Int),(0:Int),.string ⟨#[]⟩,.slice none 0 0]=V3 at *;clear p;have g:=hid q;clear q
  go_wp2_with (first
   |(refine cu rfl _ _ rfl i.heap.size _ _ _ rfl g.out.obj az rfl ?_ ?_;kernel_rfl)
   |(refine da rfl _ _ _ rfl w.heap.size _ _ _ rfl rfl g.out.res ?_ ?_ ?_ ?_;kernel_rfl;rfl;rfl))
  refine bB (co rfl _ _ w.heap.size _ _ (0,0) _ rfl (aM _ g.out.res) az rfl (by kernel_rfl)) rfl ?_;refine⟨{ opO 2 ⟨⟨a,c⟩,f⟩ with dots:=J },_,s3,z,rfl,⟨⟨K,L,none,0⟩,rfl,(ap.out.agr (Agr.setRow _ w.heap.size _ (by omega))).sub (λk _ h=>by omega),aq _,aq _⟩,(setRow_other _ _ _ _ (by have:=g.out.nb;omega)).trans g.out.rdr,jN g.out.grow _ _ (aa _),RdIs.op2 Q.out S.out E.out⟩
 by_cases k3:k=3
 ·subst k3;go_wp2_with fail;refine(rid_any b s2 R V2 C o.out.rdr).mono ?_;rintro e H ⟨⟨⟨j,l⟩,m⟩,v,s3,z,rfl,Z,r,t,n⟩;have D:=eB n C;have u:=hid (o.out.call r t);have E:=hid n;obtain rfl:v= .agg #[j,l,m]:=Z;clear r t n;go_upto_region 16 with(first|(refine dE rfl _ _ _ rfl i.heap.size 10 _ _ #[(3:Int),a,c,f,(0:Int),(0:Int),(0:Int),.string ⟨#[]⟩,false,.slice none 0 0,j,l,m,(0:Int),(0:Int),(0:Int),.string ⟨#[]⟩,.slice none 0 0] _ rfl u.out.obj rfl ?_ ?_ ?_ rfl ?_;kernel_rfl;exact bJ rfl;rfl));have q:=u.out.put #[(3:Int),a,c,f,(0:Int),(0:Int),(0:Int),.string ⟨#[]⟩,false,.slice none 0 0,j,l,m,(0:Int),(0:Int),(0:Int),.string ⟨#[]⟩,.slice none 0 0];generalize p:H.setRow i.heap.size #[(3:Int),a,c,f,(0:Int),(0:Int),(0:Int),.string ⟨#[]⟩,false,.slice none 0 0,j,l,m,(0:Int),(0:Int),(0:Int),.string ⟨#[]⟩,.slice none 0 0]=V3 at *;clear p;have g:=hid q;clear q;go_wp2_with fail;refine(rid_any b s3 z V3 D g.out.rdr).mono ?_;rintro e y4 ⟨⟨⟨t4,r4⟩,i4⟩,v,s4,T,rfl,Z,M,N,B⟩;have ac:=eB B D;have O:=hid (g.out.call M N);have W:=hid B;obtain rfl:v= .agg #[t4,r4,i4]:=Z;clear M N B
  go_upto_region 17 with(first|(refine dE rfl _ _ _ rfl i.heap.size 13 _ _ #[(3:Int),a,c,f,(0:Int),(0:Int),(0:Int),.string ⟨#[]⟩,false,.slice none 0 0,j,l,m,t4,r4,i4,.string ⟨#[]⟩,.slice none 0 0] _ rfl O.out.obj rfl ?_ ?_ ?_ rfl ?_;kernel_rfl;exact bJ rfl;rfl));have P:=O.out.put #[(3:Int),a,c,f,(0:Int),(0:Int),(0:Int),.string ⟨#[]⟩,false,.slice none 0 0,j,l,m,t4,r4,i4,.string ⟨#[]⟩,.slice none 0 0];generalize p:y4.setRow i.heap.size #[(3:Int),a,c,f,(0:Int),(0:Int),(0:Int),.string ⟨#[]⟩,false,.slice none 0 0,j,l,m,t4,r4,i4,.string ⟨#[]⟩,.slice none 0 0]=V4 at *;clear p;have x:=hid P;clear P;go_wp2_with fail;refine(rbytes_any b s4 T V4 ac x.out.rdr).mono ?_;rintro e y5 ⟨x5,v,s5,ab,rfl,⟨rfl,aL⟩,V,ad,X⟩;have aU:=eB X ac;have F:=hid (x.out.call V ad);have ag:=hid X;clear V ad X;go_upto_region 20 with(first|(refine dE rfl _ _ _ rfl i.heap.size 16 _ _ #[(3:Int),a,c,f,(0:Int),(0:Int),(0:Int),.string ⟨#[]⟩,false,.slice none 0 0,j,l,m,t4,r4,i4,x5,.slice none 0 0] _ rfl F.out.obj rfl ?_ ?_ ?_ rfl ?_;kernel_rfl;exact bJ rfl;rfl));have aN:=F.out.put #[(3:Int),a,c,f,(0:Int),(0:Int),(0:Int),.string ⟨#[]⟩,false,.slice none 0 0,j,l,m,t4,r4,i4,x5,.slice none 0 0];generalize p:y5.setRow i.heap.size #[(3:Int),a,c,f,(0:Int),(0:Int),(0:Int),.string ⟨#[]⟩,false,.slice none 0 0,j,l,m,t4,r4,i4,x5,.slice none 0 0]=V5 at *;clear p;have Y:=hid aN
  clear aN
  go_wp2_with (first
   |(refine cu rfl _ _ rfl i.heap.size _ _ _ rfl Y.out.obj az rfl ?_ ?_;kernel_rfl)
   |(refine da rfl _ _ _ rfl w.heap.size _ _ _ rfl rfl Y.out.res ?_ ?_ ?_ ?_;kernel_rfl;rfl;rfl))
  refine bB (co rfl _ _ w.heap.size _ _ (0,0) _ rfl (aM _ Y.out.res) az rfl (by kernel_rfl)) rfl ?_;refine⟨{ opO 3 ⟨⟨a,c⟩,f⟩ with after:=⟨⟨j,l⟩,m⟩,elem:=⟨⟨t4,r4⟩,i4⟩,text:=x5 },_,s5,ab,rfl,⟨⟨none,0,none,0⟩,rfl,OpIn.none rfl rfl (aq _) aL,aq _,aL⟩,(setRow_other _ _ _ _ (by have:=Y.out.nb;omega)).trans Y.out.rdr,jN Y.out.grow _ _ (aa _),RdIs.op3 Q.out S.out E.out W.out ag.out⟩
 by_cases k4:k=4
 ·subst k4;go_wp2_with fail;refine(rmany_id b s2 R V2 C o.out.rdr).mono ?_;rintro e H ⟨J,v,s3,z,rfl,ao,r,t,n⟩;have D:=eB n C;have u:=hid (o.out.call r t);have E:=hid n;obtain⟨⟨K,L,rfl⟩,G,aS⟩:=ao;clear r t n;go_upto_region 20 with(first|(refine dE rfl _ _ _ rfl i.heap.size 17 _ _ #[(4:Int),a,c,f,(0:Int),(0:Int),(0:Int),.string ⟨#[]⟩,false,.slice none 0 0,(0:Int),(0:Int),(0:Int),(0:Int),(0:Int),(0:Int),.string ⟨#[]⟩,.slice K J.length L] _ rfl u.out.obj rfl ?_ ?_ ?_ rfl ?_;kernel_rfl;exact bJ rfl;rfl));have q:=u.out.put #[(4:Int),a,c,f,(0:Int),(0:Int),(0:Int),.string ⟨#[]⟩,false,.slice none 0 0,(0:Int),(0:Int),(0:Int),(0:Int),(0:Int),(0:Int),.string ⟨#[]⟩,.slice K J.length L];have aO:=lt_of_block o.out.obj;have ae:OpIn H (λk=>V2.heap.size<=k) { opO 4 ⟨⟨a,c⟩,f⟩ with elems:=J } ⟨none,0,K,L⟩:=⟨RowG.zero,ids_own G,aa _,(kB G).1,aq _,(kB G).2,aq _,aq _⟩;have ap:=hid (ae.agr (Agr.setRow H i.heap.size #[(4:Int),a,c,f,(0:Int),(0:Int),(0:Int),.string ⟨#[]⟩,false,.slice none 0 0,(0:Int),(0:Int),(0:Int),(0:Int),(0:Int),(0:Int),.string ⟨#[]⟩,.slice K J.length L] (by omega)));have aP:=o.out.grow.size;clear ae G
  generalize p:H.setRow i.heap.size #[(4:Int),a,c,f,(0:Int),(0:Int),(0:Int),.string ⟨#[]⟩,false,.slice none 0 0,(0:Int),(0:Int),(0:Int),(0:Int),(0:Int),(0:Int),.string ⟨#[]⟩,.slice K J.length L]=V3 at *;clear p;have g:=hid q;clear q
  go_wp2_with (first
   |(refine cu rfl _ _ rfl i.heap.size _ _ _ rfl g.out.obj az rfl ?_ ?_;kernel_rfl)
   |(refine da rfl _ _ _ rfl w.heap.size _ _ _ rfl rfl g.out.res ?_ ?_ ?_ ?_;kernel_rfl;rfl;rfl))
  refine bB (co rfl _ _ w.heap.size _ _ (0,0) _ rfl (aM _ g.out.res) az rfl (by kernel_rfl)) rfl ?_;refine⟨{ opO 4 ⟨⟨a,c⟩,f⟩ with elems:=J },_,s3,z,rfl,⟨⟨none,0,K,L⟩,rfl,(ap.out.agr (Agr.setRow _ w.heap.size _ (by omega))).sub (λk _ h=>by omega),aq _,aq _⟩,(setRow_other _ _ _ _ (by have:=g.out.nb;omega)).trans g.out.rdr,jN g.out.grow _ _ (aa _),RdIs.op4 Q.out S.out E.out⟩
 ·have q0:(k == 0)=false:=by rw[aV];exact k0
  have q1:(k == 1)=false:=by rw[aV];exact k1
  have q2:(k == 2)=false:=by rw[aV];exact k2
  have q3:(k == 3)=false:=by rw[aV];exact k3
  have q4:(k == 4)=false:=by rw[aV];exact k4
  have HK:=hid (And.intro k0 (And.intro k1 (And.intro k2 (And.intro k3 k4))));have b1:=o.out.rdr.c1;have f1:=o.out.rdr.f 1;clear k0 k1 k2 k3 k4;go_upto_region 20 with(fail);have q:=o.out.setBad true;generalize p:V2.setCell ⟨b,1,none⟩ (.bool true)=V3 at *;clear p;have g:=hid q
  go_wp2_with (first
   |(refine cu rfl _ _ rfl i.heap.size _ _ _ rfl g.out.obj az rfl ?_ ?_;kernel_rfl)
   |(refine da rfl _ _ _ rfl w.heap.size _ _ _ rfl rfl g.out.res ?_ ?_ ?_ ?_;kernel_rfl;rfl;rfl))
  refine bB (co rfl _ _ w.heap.size _ _ (0,0) _ rfl (aM _ g.out.res) az rfl (by kernel_rfl)) rfl ?_;refine⟨opO k ⟨⟨a,c⟩,f⟩,_,s2,true,rfl,⟨⟨none,0,none,0⟩,rfl,OpIn.none rfl rfl (aq _) (aq _),aq _,aq _⟩,(setRow_other _ _ _ _ (by have:=g.out.nb;omega)).trans g.out.rdr,jN g.out.grow _ _ (aa _),RdIs.opx HK.out.1 HK.out.2.1 HK.out.2.2.1 HK.out.2.2.2.1 HK.out.2.2.2.2 Q.out S.out⟩
end
section
open Go.RowKit Go.Lib Go.Sort
def opC_ (p:Gop×OpX):List Value:=(opA p.1 p.2).toList
theorem fw {c:Array Value} (h:c.toList.all (·.oneCell')=true):∀u∈c.toList,u.oneCell'=true:=dJ.1 h
theorem infoOp:(Tryz.prog.info? 125).map (λi=>(i.zero,i.size,i.bytes))=some (some (.agg #[(0:Int),(0:Int),(0:Int),(0:Int),(0:Int),(0:Int),(0:Int),.string ⟨#[]⟩,false,.slice none 0 0,(0:Int),(0:Int),(0:Int),(0:Int),(0:Int),(0:Int),.string ⟨#[]⟩,.slice none 0 0]),18,192):=by kernel_rfl
def OpGood (w:World) (S:Nat->Prop) (p:Gop×OpX):Prop:=OpIn w S p.1 p.2∧p.1.name.size<=1000000∧p.1.text.size<=1000000
theorem OpGood.agr {w w':World} {S:Nat->Prop} {p:Gop×OpX} (h:OpGood w S p) (ha:Agr S w w'):OpGood w' S p:=⟨h.1.agr ha,h.2⟩
theorem OpGood.sub {w:World} {S T:Nat->Prop} {p:Gop×OpX} (h:OpGood w S p) (hs:∀b,b<w.heap.size->S b->T b):OpGood w T p:=⟨h.1.sub hs,h.2⟩
def POps (B:Nat) (xs:List Gop) (w':World) (v:Value):Prop:=
 ∃(L:List (Gop×OpX)) (S:Nat->Prop),L.map Prod.fst=xs∧(∃A c,v= .slice A xs.length c)∧w'.ownsRow B 125 18 v xs.length (L.flatMap opC_)∧xs.length<=1000001∧(∀p∈L,OpGood w' S p)∧∀k,S k->B<=k∧k<w'.heap.size∧v.ownBlock≠some k
structure OpsAt (B:Nat) (v:Value) (L:List (Gop×OpX)) (S:Nat->Prop) (wr:World):Prop where
 good:∀p∈L,OpGood wr S p
 old:∀k,S k->B<=k∧k<wr.heap.size∧v.ownBlock≠some k
theorem OpsAt.next {B:Nat} {v v':Value} {L:List (Gop×OpX)} {S:Nat->Prop} {wr w2 w3:World} {b:Nat} {c:Obj} {o:Gop} {x:OpX} (h:OpsAt B v L S wr) (hB:B<=wr.heap.size) (hb:b<B) (hv:∀g,v.ownBlock=some g->g<wr.heap.size)
  (hg:wr.grownBy w2 (some b)) (ho:OpIn w2 (λk=>wr.heap.size<=k) o x) (hn:o.name.size<=1000000) (ht:o.text.size<=1000000) (hgr:(w2.alloc c).grownBy w3 v.ownBlock) (hv':v'.ownBlock=v.ownBlock∨v'.ownBlock=some (w2.alloc c).heap.size):
  ∃S',OpsAt B v' (L++[(o,x)]) S' w3:=by
 have n:=hg.size;have m:w2.heap.size+1<=w3.heap.size:=by have:=hgr.size;simpa using this
 have i:Agr (λk=>S k∨(wr.heap.size<=k∧k<w2.heap.size)) w2 w3:=by
  have l:Agr (λk=>S k∨(wr.heap.size<=k∧k<w2.heap.size)) w2 (w2.alloc c):=Agr.below ((ag _ _).alloc (aa _) _);refine l.trans (Agr.grown hgr λg e a=> ?_);have:=hv g e;rcases a with a|a
  ·exact(h.old g a).2.2 e
  ·omega
 have j:Agr S wr w2:=Agr.grown hg λg e a=>by cases e;have:=(h.old b a).1;omega
 refine⟨λk=>S k∨(wr.heap.size<=k∧k<w2.heap.size),λp d=> ?_,λk f=> ?_⟩
 ·rcases au.1 d with d|d
  ·exact(((h.good p d).agr j).sub λb _ a=> .inl a).agr i
  ·rw[aO] at d;subst d;exact⟨(ho.sub λb hb a=> .inr ⟨a,hb⟩).agr i,hn,ht⟩
 ·rcases f with f|f
  ·have:=h.old k f;refine⟨this.1,by omega,λe=> ?_⟩;rcases hv' with hv'|hv'
   ·exact this.2.2 (hv'.symm.trans e)
   ·rw[hv'] at e;cases e;simp at this;omega
  ·refine⟨by omega,by omega,λe=> ?_⟩;rcases hv' with hv'|hv'
   ·have:=hv k (hv'.symm.trans e);omega
   ·rw[hv'] at e;cases e;simp at f;omega
theorem rmany_op (b:Nat) (s:ByteArray) (bad:Bool) (w:World) (hs:s.size<=1000000) (hR:Rdr w b s bad):
  Calls Tryz.prog 84 #[.pointer (some ⟨b,0,none⟩),.func (Fn.func 85) #[.pointer (some ⟨b,0,none⟩)] #[]] w (RdQ (fx opR) (POps w.heap.size) b s bad w):=by
 obtain⟨i0,hi,ap,aq,au⟩:=bD infoOp;have av:=hR.lt;have aw:=hid (hR.kept (bi w (.cells #[] 125) none) (by simp));have ax:=hid (am w (.cells #[] 125));have ay:=hid (bi w (.cells #[] 125) (some b));clear hR;go_enter Tryz.func84,Tryz.ntmps84;go_wp2_with fail;refine(fX b s bad _ hs aw.out).mono ?_;rintro e w1 ⟨n0,v,N,E,rfl,⟨rfl,F⟩,ab,G,H⟩;obtain⟨n,rfl⟩:=fm F.1;have hn:n<9223372036854775808:=by have:=F.2;omega
 have aW:=eB H hs;have az:=hid H;have aA:=hid (dC ay.out G);have aB:=hid ((G.block w.heap.size (by simp) (by intro e;cases e;omega)).trans ax.out);have aC:=hid ab;clear H G ab F;go_wp2;go_loopw [5,6] (λv m wr=>∃(k:Nat) (L:List (Gop×OpX)) (q:ByteArray) (a:Bool) (S:Nat->Prop),m= .int .i64 k∧k<=n∧wr.ownsRow w.heap.size 125 18 v L.length (L.flatMap opC_)∧Hid (Rdr wr b q a)∧Hid (w.grownBy wr (some b))∧Hid (ManyAt opR n N.data.toList E k (L.map Prod.fst) q.data.toList a)∧Hid (OpsAt w.heap.size v L S wr)) (λ_ m _=>(RowKit.intOf m).toNat)
 case atStart=>exact⟨n,[],N,E,λ_=>False,rfl,aa _,⟨rfl,.inr ⟨w.heap.size,0,#[],rfl,aa _,aB.out,aa _,by unfold maxLen;omega,rfl,rfl⟩⟩,aC,aA,hid ManyAt.start,hid ⟨λp hp=>(by cases hp),λk hk=>hk.elim⟩⟩
 case round=>
  obtain⟨k,L,q,a,S,rfl,hk,r,HR,HG,O,HP⟩:=hrel;have aD:=O.out.le;have I:=O.out.few;have aE:N.data.toList.length=N.size:=by simp
  have aF:q.data.toList.length=q.size:=by simp
  have t:(L.map Prod.fst).length=L.length:=by simp
  have aG:L.length<=1000001:=by split at I<;>omega
  have J:∀h:a=true∨k=0,RdQ (fx opR) (POps w.heap.size) b s bad w (.returned u5) wr:=λh=>
   ⟨L.map Prod.fst,u5,q,a,rfl,⟨L,S,rfl,by rw[t];exact bZ r,by rw[t];exact r,by rw[t];exact aG,HP.out.good,HP.out.old⟩,HR.out,HG.out,RdIs.many az.out (by rw[dL];exact O.out.done h)⟩
  have HF:=hid J;have c1:=HR.out.c1;have aH:q.size<=1000000:=by omega
  clear J aD I aE aF t;cases a with
  | true=>
   go_wp2
   all_goals
    go_ret;exact HF.out (.inl (by first|rfl|trivial))
  | false=>
   by_cases h0:0<k
   ·obtain⟨m,rfl⟩:∃m,k=m+1:=⟨k-1,by omega⟩;have HC:=hid (rop_any b q false wr aH HR.out);have HB:=hid (λg e=>(r.lt g e).1);have aJ:=hid (λg e=>(r.lt g e).2);have ac:=hid (show u5.ownBlock≠some b from λe=>by have:=(r.lt b e).1;omega);have aK:=HG.out.size;have aL:=hid r;clear r;go_wp2_with fail;refine HC.out.mono ?_;rintro e w2 ⟨o,v2,s2,ao,rfl,⟨x,hv,ad,ae,af⟩,ag,u,ah⟩;have aM:=hid ag;have aj:=hid u;have aN:=hid ah;have aV:=u.size;have aO:=hid (aL.out.kept u (.inr ac.out));have ak:=hid ad;have K:=hid (And.intro ae af);clear ag u ah ad ae af;have aP:=hid (λv' w3 (c:Obj) (aQ:(w2.alloc c).grownBy w3 u5.ownBlock) h=>OpsAt.next HP.out aK av aJ.out aj.out ak.out K.out.1 K.out.2 aQ (v':=v') h);have aR:=hid (O.out.next opT aN.out);clear ak K;obtain⟨f,⟨⟨P,Q⟩,R⟩,⟨⟨T,U⟩,V⟩,i,y,j,⟨⟨z,W⟩,X⟩,⟨⟨Y,Z⟩,ei⟩,l,d⟩:=o;obtain⟨xd,A,xe,B⟩:=x;obtain rfl:v2= .agg #[f,P,Q,R,T,U,V,i,y,.slice xd j.length A,z,W,X,Y,Z,ei,l,.slice xe d.length B]:=hv
    go_wp2_with (at_builtin;refine wpList_append_own_at _ rfl _ _ 43 rfl w.heap.size 125 i0 (.agg #[(0:Int),(0:Int),(0:Int),(0:Int),(0:Int),(0:Int),(0:Int),.string ⟨#[]⟩,false,.slice none 0 0,(0:Int),(0:Int),(0:Int),(0:Int),(0:Int),(0:Int),.string ⟨#[]⟩,.slice none 0 0]) 18 192 Tryz.underlying43 hi ap aq au rfl (by decide) _ _ _ rfl (by exact aO.out.alloc _) ⟨w2.heap.size,0,none⟩ 1 1 [f,P,Q,R,T,U,V,i,y,.slice xd j.length A,z,W,X,Y,Z,ei,l,.slice xe d.length B] rfl rfl (by exact dH _ _ _) (by exact fw (c:=#[f,P,Q,R,T,U,V,i,y,.slice xd j.length A,z,W,X,Y,Z,ei,l,.slice xe d.length B]) rfl) (by unfold maxLen;omega) (by omega) (by simp;omega) ?_;intro v' w3 C D _ an;have aS:=hid C;have M:=hid D;have aT:=hid an;clear C D an);go_roundw
    case rel=>
     obtain⟨S',aU⟩:=aP.out _ _ _ M.out aT.out;exact⟨m,L++[(⟨f,⟨⟨P,Q⟩,R⟩,⟨⟨T,U⟩,V⟩,i,y,j,⟨⟨z,W⟩,X⟩,⟨⟨Y,Z⟩,ei⟩,l,d⟩,⟨xd,A,xe,B⟩)],s2,ao,S',by go_num,by omega,by rw[al,aI,bP];exact aS.out,hid ((aM.out.kept (bi w2 _ none) (by simp)).kept M.out ac.out),hid (gby_new (jg (dC HG.out aj.out) _) M.out HB.out),hid (by rw[bq];exact aR.out),hid aU⟩
    case measure=>simp[RowKit.intOf]
   ·obtain rfl:k=0:=by omega
    go_wp2;go_ret;exact HF.out (.inr (by first|rfl|trivial))
end
end
section
open Go.ChangeShapes Go.WideShapes Go.RowKit Go.Lib Go.Deep
def Here (w:World):Nat->Prop:=λb=>b<w.heap.size
theorem range_getD {α:Type} (f:Nat->α) (z:α) {n k:Nat} (h:k<n):((List.range n).map f).getD k z=f k:=by
 rw[ae,cT,iU h];rfl
theorem jf {α:Type} (f:Nat->α) (n:Nat):((List.range n).map f).length=n:=by simp
section
variable {H : Type} {enc : TypeId × Value → H} {w : World} {spare : Nat → Bool} {held : Bool} {fuel : Nat} {cs : List Value} {x : DataW H × List MemPlace}
theorem weightsAll_mem {P:Program} {e:TypeId}:∀{l:List (DataW H)} {d:DataW H} {n:Nat},d∈l->n∈d.weights P e->n∈DataW.weightsAll P e l
 |y::l,d,n,h,hn=>by
  show _∈y.weights P e++DataW.weightsAll P e l
  rcases bY.1 h with rfl|h
  ·exact List.mem_append_left _ hn
  ·exact List.mem_append_right _ (weightsAll_mem h hn)
theorem opn_rows {P:Program} {α:Type} [Inhabited α] {t e:TypeId} {s:Nat} (hs:0<s) (ht:P.underlying t=some (.slice e)) (hc:P.cellsOf e=s) (V:α->Nat->Value) (P1:α->DataW H->Prop)
  (elem:∀(n:Nat) (cs':List Value) (d:DataW H) (p:List MemPlace),DataW.trod enc P w 0 spare held n e cs'=some (d,p)->∃x:α,(∀j,j<s->cs'[j]? =some (V x j))∧P1 x d)
  (h:DataW.trod enc P w 0 spare held fuel t cs=some x):
  ∃(A:Option Addr) (len c:Nat) (f:Nat->α),cs=[.slice A len c]∧len<=c∧c<=maxLen∧RowG w (Here w) A len s (λk j=>V (f k) j)∧∀k,k<len->∃d,P1 (f k) d∧∀n∈d.weights P e,n∈x.1.weights P t:=by
 rcases open_slice ht h with⟨h1,h2⟩|⟨a,len,cap,m,n,D,Pl,hcs,hb,hl,hm,hmm,hx,hi⟩
 ·exact⟨none,0,0,λ_=>default,h1,aa _,aq _,RowG.zero,λk g=>absurd g (by omega)⟩
 ·have K:len<=m:=by rw[hmm];split<;>omega
  have v:∀i,i<len->∃x:α,(∀j,j<s->w.cell? ((a.add (i*s)).add j)=some (V x j))∧P1 x (D i):=λi L=>by
   obtain⟨cs',z,F⟩:=hi i (by omega);rw[hc] at z;obtain⟨_,M,B⟩:=World.cells?_some z;obtain⟨x,G,I⟩:=elem n cs' _ _ F;exact⟨x,λj r=>by rw[B j r,G j r],I⟩
  obtain⟨f,y⟩:=choose_lt v;refine⟨some a,len,cap,f,hcs,hl,hm,λk g=> ?_,λk g=>⟨D k,(y k g).2,λn J=> ?_⟩⟩
  ·obtain⟨b,o,C⟩:=a;have l:=(y 0 (by omega)).1 0 hs;have E:C=none:=by
    cases C with
    |none=>rfl
    |some q=>
     exfalso;rw[Nat.zero_mul] at l;simp only[Addr.add,fy,World.cell?,Option.isSome_some] at l;split at l<;>cases l
   subst E;have u:b<w.heap.size:=by
    have:=eK l;simpa[Addr.add] using this
   refine⟨b,o,rfl,u,u,λj r=> ?_⟩;have:=(y k g).1 j r;rw[add_add,Addr.add_mid] at this;rw[show o+k*s+j=o+(k*s+j) from by omega];exact this
  ·rw[hx];simp only[DataW.weights,ht];exact List.mem_cons_of_mem _ (List.mem_append_left _ (weightsAll_mem (bj.2 ⟨k,gF.2 g,rfl⟩) J))
theorem fld {P:Program} {ty:TypeId} {n off c:Nat} {l:List Value} {ys:List (DataW H×List MemPlace)} {i:Nat} {y:DataW H×List MemPlace}
  (hf:DataW.trod enc P w 0 spare held n ty ((cs.drop off).take (P.cellsOf ty))=ys[i]?) (hc:P.cellsOf ty=c) (hl:(cs.drop off).take c=l) (hy:ys[i]? =some y):DataW.trod enc P w 0 spare held n ty l=some y:=by
 rw[hc,hl,hy] at hf;exact hf
theorem cells_int:Tryz.prog.cellsOf 3=1:=by kernel_rfl
theorem cells_bool:Tryz.prog.cellsOf 4=1:=by kernel_rfl
theorem cells_st:Tryz.prog.cellsOf 42=2:=by kernel_rfl
instance:Inhabited Gst:=⟨.zero⟩
instance:Inhabited Gid:=⟨.zero⟩
instance:Inhabited OpX:=⟨⟨none,0,none,0⟩⟩
instance:Inhabited Gop:=⟨opO 0 .zero⟩
structure GrX where
 dA:Option Addr
 dc:Nat
 oA:Option Addr
 oc:Nat
instance:Inhabited GrX:=⟨⟨none,0,none,0⟩⟩
instance:Inhabited Grp:=⟨⟨.zero,0,[],.zero,[]⟩⟩
end
end
section
open Go.RowKit Go.Lib Go.Sort
structure GrB (O:Nat->Prop) (w w':World):Prop where
 os:w'.os=w.os
 tape:w'.tape=w.tape
 output:w'.output=w.output
 size:w.heap.size<=w'.heap.size
 block:∀i,i<w.heap.size->¬O i->w'.heap[i]? =w.heap[i]?
section
variable {O O1 : Nat → Prop} {w w1 w2 : World}
theorem GrB.refl:GrB O w w:=⟨rfl,rfl,rfl,aa _,λ_ _ _=>rfl⟩
theorem GrB.trans (h:GrB O w w1) (k:GrB O1 w1 w2) (hO:∀i,i<w.heap.size->O1 i->O i):GrB O w w2:=
 ⟨k.os.trans h.os,k.tape.trans h.tape,k.output.trans h.output,aL h.size k.size,λi hi hn=>(k.block i (bC hi h.size) (λe=>hn (hO i hi e))).trans (h.block i hi hn)⟩
theorem GrB.of_grown {r:Option Nat} (h:w.grownBy w1 r) (hr:∀g,r=some g->g<w.heap.size->O g):GrB O w w1:=⟨h.os,h.tape,h.output,h.size,λi hi hn=>h.block i hi (λe=>hn (hr i e.symm hi))⟩
theorem GrB.of_below (h:Below w.heap.size w w1):GrB O w w1:=⟨h.os,h.tape,h.output,h.size,λi hi _=>h.block i hi⟩
theorem GrB.below {n:Nat} (h:GrB O w w1) (hn:n<=w.heap.size) (hO:∀i,O i->n<=i):Below n w w1:=⟨h.os,h.tape,h.output,h.size,λi hi=>h.block i (bC hi hn) (λe=>by have:=hO i e;omega)⟩
theorem GrB.agr {S:Nat->Prop} (h:GrB O w w1) (hS:∀i,i<w.heap.size->S i->¬O i):Agr S w w1:=⟨h.size,λb hb hl=>h.block b hl (hS b hl hb)⟩
theorem GrB.set (h:GrB O w w1) (b o:Nat) (v:Value) (hb:b<w.heap.size->O b):GrB O w (w1.setCell ⟨b,o,none⟩ v):=
 h.trans (O1:=λi=>i=b) (GrB.of_grown (eF b o v) (λg e _=>by cases e;rfl)) (λi hi e=>by subst e;exact hb hi)
theorem GrB.grown (h:GrB O w w1) {r:Option Nat} (k:w1.grownBy w2 r) (hr:∀g,r=some g->g<w.heap.size->O g):GrB O w w2:=
 h.trans (O1:=λi=>r=some i) (GrB.of_grown k (λg e _=>e)) (λi hi e=>hr i e hi)
end
def grL (g:Grp) (x:GrX):List Value:=[.int .i64 g.s.t,.int .i64 g.s.r,.int .i64 g.n,.slice x.dA g.deps.length x.dc,.int .i64 g.u.t,.int .i64 g.u.r,.slice x.oA g.ops.length x.oc]
def grC_ (p:Grp×GrX):List Value:=grL p.1 p.2
theorem kD (xs:List (Grp×GrX)):(xs.flatMap grC_).length=xs.length*7:=by
 induction xs with
 |nil=>rfl
 |cons x xs ih=>rw[cW,al,ih,bG];show 7+_=_;omega
theorem iO (x:Grp×GrX):∀u∈grC_ x,u.oneCell'=true:=fw (c:=(grL x.1 x.2).toArray) rfl
theorem ia:(Tryz.prog.info? 45).map (λi=>(i.zero,i.size,i.bytes))=some (some (.agg #[(0:Int),(0:Int),(0:Int),.slice none 0 0,(0:Int),(0:Int),.slice none 0 0]),7,88):=by kernel_rfl
def GrG (w:World) (S:Nat->Prop) (p:Grp×GrX):Prop:=GrIn w S p.1 p.2.dA p.2.dc p.2.oA p.2.oc
theorem GrG.agr {w w':World} {S:Nat->Prop} {p:Grp×GrX} (h:GrG w S p) (ha:Agr S w w'):GrG w' S p:=GrIn.agr h ha
theorem GrG.sub {w:World} {S T:Nat->Prop} {p:Grp×GrX} (h:GrG w S p) (hs:∀b,b<w.heap.size->S b->T b):GrG w T p:=GrIn.sub h hs
def gp0:Grp×GrX:=(gz,⟨none,0,none,0⟩)
def RowGr (w:World) (A:Option Addr) (L:List (Grp×GrX)):Prop:=RowG w (λ_=>True) A L.length 7 (λk j=>(grL (L.getD k gp0).1 (L.getD k gp0).2).getD j undef)
theorem RowGr.range {w:World} {A:Option Addr} {L:List (Grp×GrX)} (h:RowGr w A L) {k:Nat} (hk:k<L.length):∃b o,A=some ⟨b,o,none⟩∧b<w.heap.size∧w.rangeAt b (o+k*7) (grL (L.getD k gp0).1 (L.getD k gp0).2):=by
 obtain⟨b,o,e,-,c,d⟩:=h k hk;refine⟨b,o,e,c,λj v a=> ?_⟩;have f:j<7:=(ep.1 a).1;rw[d j f];show some ((grL (L.getD k gp0).1 (L.getD k gp0).2).getD j undef)=some v;rw[ae,a];rfl
theorem RowGr.own {w:World} {B:Nat} {A:Option Addr} {c:Nat} {L:List (Grp×GrX)} {E:TypeId} (h:w.ownsRow B E 7 (.slice A L.length c) L.length (L.flatMap grC_)):RowGr w A L:=by
 refine RowG.sub (jU h λk j b a=> ?_) λ_ _ _=>trivial;rw[gG (s:=7) (λ_=>rfl) L k j gp0 b a];generalize L.getD k gp0=p;have:j<(grC_ p).length:=a;rw[an this,ae];show some _=some ((grC_ p)[j]?.getD undef);rw[an this];rfl
theorem RowGr.agr {w w':World} {A:Option Addr} {L:List (Grp×GrX)} (h:RowGr w A L) (ha:Agr (λ_=>True) w w'):RowGr w' A L:=RowG.agr h ha
theorem RowGr.below {w w':World} {A:Option Addr} {L:List (Grp×GrX)} (h:RowGr w A L) (ha:Below w.heap.size w w'):RowGr w' A L:=RowG.agr h (Agr.below ha)
end
section
open Go.RowKit Go.Lib Go.Sort Go.Maps Go.ChangeShapes Go.WideShapes
theorem kLaid:laidOutB Tryz.prog=true:=by kernel_rfl
theorem kRow:(42:TypeId)<Tryz.prog.types.size:=of_decide_eq_true (by kernel_rfl)
theorem kWide:(match Tryz.prog.underlying 42 with|some (.array _ _)|some (.struct _)=>true|_=>false)=true:=by rw[cb]
theorem law_st:Keyed Tryz.prog 42:=Keyed.of_law (deep_law_laid kLaid (m:=3) (by omega) kRow (by kernel_rfl) kWide)
theorem kType:Tryz.prog.keyType 42=true:=by kernel_rfl
theorem kFormed (a b:Value):(Value.agg #[a,b]).formed Tryz.prog 42=true:=by
 simp[Value.formed,cells_st]
def kst (s:Gst):Lit:= .string (keyBytes [.int .i64 s.t,.int .i64 s.r])
theorem wf_of_i63 {n:Int} (h:i63 n):(Lit.int .i64 n).wf=true:=by
 have: -9223372036854775808<=n∧n<=9223372036854775807:=⟨h.1,by have:=h.2;omega⟩;simpa[Lit.wf,IntKind.min,IntKind.max,IntKind.bits,IntKind.signed] using this
theorem key_st (s:Gst) (h1:i63 s.t) (h2:i63 s.r):keyOf Tryz.prog 42 (.agg #[.int .i64 s.t,.int .i64 s.r])=some (kst s):=by
 have a:=wf_of_i63 h1;have b:=wf_of_i63 h2;obtain⟨m,c⟩:∃m,Tryz.prog.types.size=m+1:=Nat.exists_eq_succ_of_ne_zero (λe=>by have:=kRow;rw[e] at this;exact absurd this (cG _));unfold keyOf;rw[cb];simp only[kType,kFormed,Bool.and_self,fy,c];have e:Tryz.prog.keyLits (m+1+1) 42 [.int .i64 s.t,.int .i64 s.r]=some [.int .i64 s.t,.int .i64 s.r]:=by
  unfold Program.keyLits;rw[cb];simp[cells_st,cells_int,Program.keyLits,Tryz.underlying3,a,b]
 show(Tryz.prog.keyLits (m+1+1) 42 [.int .i64 s.t,.int .i64 s.r]).map _=_;rw[e];rfl
theorem kst_inj {a b:Gst} (ha:i63 a.t∧i63 a.r) (hb:i63 b.t∧i63 b.r) (h:kst a=kst b):a=b:=by
 have c:=key_st a ha.1 ha.2;have d:=key_st b hb.1 hb.2;rw[h] at c;have:=law_st.inj c d;cases a;cases b;simpa using this
theorem jd {s:Gst} (h:s.right=true):i63 s.t∧i63 s.r:=by
 simp only[Gst.right,ap,ak] at h;exact⟨⟨by omega,by omega⟩,by omega,by omega⟩
def setG {H:Type} (l:List Grp):DataW H:=Maps.setOf (.agg []) (l.map λg=>kst g.s)
theorem setG_snoc {H:Type} (l:List Grp) (g:Grp):(setG (l++[g]):DataW H)=(setG l).put (kst g.s) (.agg []):=by
 unfold setG;rw[bq];exact Maps.setOf_snoc _ _ _
theorem kst_key (s:Gst) (h:i63 s.t∧i63 s.r):WideAt.IsKeyLit (kst s):=law_st.key (key_st s h.1 h.2)
theorem has_setG {H:Type} (l:List Grp) (s:Gst) (hl:∀g∈l,g.s.right=true) (hs:s.right=true):Maps.has (setG l:DataW H) (kst s)=l.any (λd=>d.s.eqb s):=by
 unfold setG
 rw[Maps.has_setOf _ _ _ (λx c=>by
  obtain⟨g,a,rfl⟩:=bj.1 c
  exact kst_key _ (jd (hl g a)))]
 rw[bw,dV,dV];constructor
 ·rintro⟨x,c,b⟩;obtain⟨g,a,rfl⟩:=bj.1 c;refine⟨g,a,Gst.eqb_iff.2 (kst_inj (jd (hl g a)) (jd hs) ?_)⟩;rcases cw (kst g.s=kst s) with h|h
  ·exact h
  ·rw[Maps.sameKey_ne h] at b;cases b
 ·rintro⟨g,a,b⟩;refine⟨kst g.s,bj.2 ⟨g,a,rfl⟩,?_⟩;rw[Gst.eqb_iff.1 b];simp[kst,Lit.sameKey]
end
section
open Go.RowKit Go.Lib Go.Sort
structure BoxX where
 dv:Value
 wv:Value
 vA:Option Addr
 vc:Nat
 bm:Nat
 L:List (Grp×GrX)
 M:List (Grp×GrX)
def Own (P:Nat) (X:BoxX) (k:Nat):Prop:=k=P∨k=X.bm∨X.dv.ownBlock=some k∨X.wv.ownBlock=some k
structure BoxIn (B P:Nat) (S:Nat->Prop) (dn mp wt:List Grp) (v:List Int) (X:BoxX) (w:World):Prop where
 obj:w.heap[P]? =some (.cells #[X.dv,X.wv,.map (some X.bm),.slice X.vA v.length X.vc] 89 (0,0))
 done:w.ownsRow B 45 7 X.dv X.L.length (X.L.flatMap grC_)
 wait:w.ownsRow B 45 7 X.wv X.M.length (X.M.flatMap grC_)
 dl:X.L.map Prod.fst=dn
 wl:X.M.map Prod.fst=wt
 map:w.ownsMap Tryz.prog 42 (unitElem (H:=Unit)) X.bm mp.length (setG mp)
 vec:VecS w S X.vA v
 vle:v.length<=X.vc
 vmax:X.vc<=maxLen
 vlen:v.length<=16
 good:∀p∈X.L++X.M,GrG w S p
 hP:B<=P
 hm:B<=X.bm
 pm:P≠X.bm
 dP:X.dv.ownBlock≠some P
 dm:X.dv.ownBlock≠some X.bm
 wP:X.wv.ownBlock≠some P
 wm:X.wv.ownBlock≠some X.bm
 dw:∀g,X.dv.ownBlock=some g->X.wv.ownBlock≠some g
 sep:∀k,S k->k<w.heap.size∧¬Own P X k
structure BTo (P:Nat) (X:BoxX) (S:Nat->Prop) (w:World) (X':BoxX) (S':Nat->Prop) (w':World):Prop where
 gr:GrB (Own P X) w w'
 own:∀k,Own P X' k->Own P X k∨w.heap.size<=k
 more:∀k,S k->S' k
 new:∀k,S' k->S k∨(w.heap.size<=k∧k<w'.heap.size)
theorem gY {S:Nat->Prop} (w:World) (g i:Nat) (v:Value) (h:¬S g):Agr S w (w.setCell ⟨g,i,none⟩ v):=⟨by simp[World.setCell],λb hb _=>cK _ _ _ _ (λe:b=g=>h (e ▸ hb))⟩
section
variable {B P : Nat} {S S' S'' : Nat → Prop} {dn mp wt : List Grp} {v : List Int} {X X' X'' : BoxX} {w w' w'' : World}
theorem BTo.refl:BTo P X S w X S w:=⟨GrB.refl,λ_ h=> .inl h,λ_ h=>h,λ_ h=> .inl h⟩
theorem BTo.trans (h:BTo P X S w X' S' w') (k:BTo P X' S' w' X'' S'' w''):BTo P X S w X'' S'' w'':=
 ⟨h.gr.trans k.gr λi hi e=>(h.own i e).resolve_right (by omega),λi hi=>by
  rcases k.own i hi with h1|h1
  ·exact h.own i h1
  ·exact .inr (aL h.gr.size h1),λi hi=>k.more i (h.more i hi),λi hi=>by
  rcases k.new i hi with h1|h1
  ·rcases h.new i h1 with h2|h2
   ·exact .inl h2
   ·exact .inr ⟨h2.1,bC h2.2 k.gr.size⟩
  ·exact .inr ⟨aL h.gr.size h1.1,h1.2⟩⟩
theorem BTo.of_below (h:Below w.heap.size w w'):BTo P X S w X S w':=⟨GrB.of_below h,λ_ h=> .inl h,λ_ h=>h,λ_ h=> .inl h⟩
theorem BoxIn.own_lt (h:BoxIn B P S dn mp wt v X w) {k:Nat} (hk:Own P X k):B<=k∧k<w.heap.size:=by
 rcases hk with rfl|rfl|hk|hk
 ·exact⟨h.hP,lt_of_block h.obj⟩
 ·exact⟨h.hm,h.map.lt⟩
 ·exact h.done.lt k hk
 ·exact h.wait.lt k hk
theorem BoxIn.below (h:BoxIn B P S dn mp wt v X w) (hb:Below w.heap.size w w'):BoxIn B P S dn mp wt v X w':=by
 have a:=dg (r:=none) hb;refine⟨(hb.block P (lt_of_block h.obj)).trans h.obj,h.done.kept a (cw _),h.wait.kept a (cw _),h.dl,h.wl,h.map.kept a (by simp),h.vec.agr (Agr.below hb),h.vle,h.vmax,h.vlen,λp c=>(h.good p c).agr (Agr.below hb),h.hP,h.hm,h.pm,h.dP,h.dm,h.wP,h.wm,h.dw,λk b=>⟨bC (h.sep k b).1 hb.size,(h.sep k b).2⟩⟩
theorem BoxIn.sup (h:BoxIn B P S dn mp wt v X w) (h1:∀k,S k->S' k) (h2:∀k,S' k->S k∨(k<w.heap.size∧¬Own P X k)):BoxIn B P S' dn mp wt v X w:=
 ⟨h.obj,h.done,h.wait,h.dl,h.wl,h.map,RowG.sub h.vec (λk _ hk=>h1 k hk),h.vle,h.vmax,h.vlen,λp hp=>(h.good p hp).sub (λk _ hk=>h1 k hk),h.hP,h.hm,h.pm,h.dP,h.dm,h.wP,h.wm,h.dw,λk hk=>(h2 k hk).elim (h.sep k) id⟩
theorem BoxIn.cell (h:BoxIn B P S dn mp wt v X w) (i:Nat):w.cell? ⟨P,i,none⟩=#[X.dv,X.wv,.map (some X.bm),.slice X.vA v.length X.vc][i]? :=aD _ _ _ _ _ _ h.obj
theorem BoxIn.dlen (h:BoxIn B P S dn mp wt v X w):X.L.length=dn.length:=by rw[<-h.dl,aQ]
theorem BoxIn.wlen (h:BoxIn B P S dn mp wt v X w):X.M.length=wt.length:=by rw[<-h.wl,aQ]
theorem gI {w:World} {P:Nat} {c c':Array Value} {T:TypeId} (h:w.heap[P]? =some (.cells c T (0,0))) (i:Nat) (u:Value) (hc:c.setIfInBounds i u=c'):(w.setCell ⟨P,i,none⟩ u).heap[P]? =some (.cells c' T (0,0)):=by
 simp[World.setCell,cx,h,hc]
theorem gJ {w:World} {B E s n:Nat} {u:Value} {xs:List Value} (h:w.ownsRow B E s u n xs) {P:Nat} (hu:u.ownBlock≠some P) (i:Nat) (x:Value):(w.setCell ⟨P,i,none⟩ x).ownsRow B E s u n xs:=
 h.kept (eF P i x) (.inr hu)
theorem kept_or {a b:Option Nat} (h:∀g,a=some g->b≠some g):b=none∨b≠a:=by
 cases b with
 |none=>exact .inl rfl
 |some g=>exact .inr λe=>h g e.symm rfl
theorem own_new {u u':Value} {P n m:Nat} (hat:u'.ownBlock=u.ownBlock∨u'.ownBlock=some m) (h:u.ownBlock≠some P) (hP:P<n) (hm:n<=m):u'.ownBlock≠some P:=by
 rcases hat with e|e
 ·rw[e];exact h
 ·rw[e];intro a;injection a with a;omega
theorem BoxIn.dput (h:BoxIn B P S dn mp wt v X w) {w1 w3:World} {dv':Value} {p:Grp×GrX} (hb:Below w.heap.size w w1) (hg:w1.grownBy w3 X.dv.ownBlock) (hown:w3.ownsRow B 45 7 dv' (X.L.length+1) (X.L.flatMap grC_++grC_ p))
  (hat:dv'.ownBlock=X.dv.ownBlock∨dv'.ownBlock=some w1.heap.size) (hp:GrG w S p):
  BoxIn B P S (dn++[p.1]) mp wt v { X with dv:=dv',L:=X.L++[p] } (w3.setCell ⟨P,0,none⟩ dv')∧BTo P X S w { X with dv:=dv',L:=X.L++[p] } S (w3.setCell ⟨P,0,none⟩ dv'):=by
 have j:=lt_of_block h.obj;have r:=h.map.lt;have m:=h.below hb;have f:=hb.size;have n:∀g,X.dv.ownBlock=some g->¬S g:=λg e n=>(h.sep g n).2 (.inr (.inr (.inl e)));have s:¬S P:=λx=>(h.sep P x).2 (.inl rfl);have i:Agr S w (w3.setCell ⟨P,0,none⟩ dv'):=((Agr.below hb).trans (Agr.grown hg n)).trans (gY w3 P 0 dv' s);have l:GrB (Own P X) w (w3.setCell ⟨P,0,none⟩ dv'):=((GrB.of_below hb).grown hg (λg e _=> .inr (.inr (.inl e)))).set P 0 dv' (λ_=> .inl rfl);have d:∀k,Own P { X with dv:=dv',L:=X.L++[p] } k->Own P X k∨w.heap.size<=k:=λk o=>by
  rcases o with e|e|e|e
  ·exact .inl (.inl e)
  ·exact .inl (.inr (.inl e))
  ·have e:dv'.ownBlock=some k:=e;rcases hat with b|b
   ·exact .inl (.inr (.inr (.inl (b.symm.trans e))))
   ·right;rw[b] at e;injection e with e;omega
  ·exact .inl (.inr (.inr (.inr e)))
 refine⟨⟨gI (c:=#[X.dv,X.wv,.map (some X.bm),.slice X.vA v.length X.vc]) ((hg.block P (by omega) (λe=>h.dP e.symm)).trans m.obj) 0 dv' rfl,?_,gJ (m.wait.kept hg (kept_or h.dw)) h.wP 0 dv',?_,h.wl,?_,RowG.agr h.vec i,h.vle,h.vmax,h.vlen,?_,h.hP,h.hm,h.pm,own_new hat h.dP j f,own_new hat h.dm r f,h.wP,h.wm,?_,?_⟩,⟨l,d,λ_ h=>h,λ_ h=> .inl h⟩⟩
 ·refine gJ ?_ (own_new hat h.dP j f) 0 dv';show w3.ownsRow B _ 7 dv' (X.L++[p]).length ((X.L++[p]).flatMap grC_);rw[al,aI,bP];exact hown
 ·show(X.L++[p]).map Prod.fst=_;rw[bq,h.dl];rfl
 ·exact(m.map.kept hg (λe=>h.dm e.symm)).setCell (λe=>h.pm e.symm) dv'
 ·intro q a;have a:q∈(X.L++[p])++X.M:=a;rw[aG,au,au,aO] at a;rcases a with a|rfl|a
  ·exact(h.good q (au.2 (.inl a))).agr i
  ·exact hp.agr i
  ·exact(h.good q (au.2 (.inr a))).agr i
 ·intro g e t;have e:dv'.ownBlock=some g:=e;rcases hat with b|b
  ·rw[b] at e;exact h.dw g e t
  ·rw[b] at e;injection e with e;have:=(h.wait.lt g t).2;omega
 ·intro k o;have u:=h.sep k o;exact⟨bC u.1 l.size,λy=>(d k y).elim u.2 (by omega)⟩
theorem BoxIn.mput (h:BoxIn B P S dn mp wt v X w) {g:Grp} (hg:w.grownBy w' (some X.bm)) (hm:w'.ownsMap Tryz.prog 42 (unitElem (H:=Unit)) X.bm (mp.length+1) ((setG mp).put (kst g.s) (.agg []))):
  BoxIn B P S dn (mp++[g]) wt v X w'∧BTo P X S w X S w':=by
 have a:=lt_of_block h.obj;have i:∀b,some X.bm=some b->¬S b:=λb e j=>by cases e;exact(h.sep _ j).2 (.inr (.inl rfl))
 have c:Agr S w w':=Agr.grown hg i;have d:GrB (Own P X) w w':=GrB.of_grown hg (λb e _=>by cases e;exact .inr (.inl rfl));refine⟨⟨(hg.block P a (λe=>by injection e with e;exact h.pm e)).trans h.obj,h.done.kept hg (.inr h.dm),h.wait.kept hg (.inr h.wm),h.dl,h.wl,?_,RowG.agr h.vec c,h.vle,h.vmax,h.vlen,λp l=>(h.good p l).agr c,h.hP,h.hm,h.pm,h.dP,h.dm,h.wP,h.wm,h.dw,λk f=>⟨bC (h.sep k f).1 hg.size,(h.sep k f).2⟩⟩,⟨d,λ_ h=> .inl h,λ_ h=>h,λ_ h=> .inl h⟩⟩;rw[al,setG_snoc];exact hm
theorem BoxIn.vput (h:BoxIn B P S dn mp wt v X w) {w1:World} {A:Option Addr} {c:Nat} {u:List Int} (hb:Below w.heap.size w w1) (hv:VecS w1 (λk=>w.heap.size<=k) A u) (hc:u.length<=c) (hc2:c<=maxLen) (hl:u.length<=16):
  BoxIn B P (λk=>S k∨(w.heap.size<=k∧k<w1.heap.size)) dn mp wt u { X with vA:=A,vc:=c } (w1.setCell ⟨P,3,none⟩ (.slice A u.length c))∧BTo P X S w { X with vA:=A,vc:=c } (λk=>S k∨(w.heap.size<=k∧k<w1.heap.size)) (w1.setCell ⟨P,3,none⟩ (.slice A u.length c)):=by
 have n:=lt_of_block h.obj;have b:=h.below hb;have f:¬S P:=λj=>(h.sep P j).2 (.inl rfl);have g:GrB (Own P X) w (w1.setCell ⟨P,3,none⟩ (.slice A u.length c)):=(GrB.of_below hb).set P 3 _ (λ_=> .inl rfl);have i:Agr S w1 (w1.setCell ⟨P,3,none⟩ (.slice A u.length c)):=gY w1 P 3 _ f;have d:(w1.setCell ⟨P,3,none⟩ (.slice A u.length c)).heap.size=w1.heap.size:=by simp
 refine⟨⟨gI (c:=#[X.dv,X.wv,.map (some X.bm),.slice X.vA v.length X.vc]) b.obj 3 _ rfl,gJ b.done h.dP 3 _,gJ b.wait h.wP 3 _,h.dl,h.wl,b.map.setCell (λe=>h.pm e.symm) _,?_,hc,hc2,hl,λp l=> ?_,h.hP,h.hm,h.pm,h.dP,h.dm,h.wP,h.wm,h.dw,λk a=> ?_⟩,⟨g,λ_ h=> .inl h,λ_ h=> .inl h,λk a=>a.imp id (λh=>⟨h.1,by rw[d];exact h.2⟩)⟩⟩
 ·exact(hv.agr (gY w1 P 3 _ (by show ¬w.heap.size<=P;omega))).sub (λk a h=> .inr ⟨h,by rw[d] at a;exact a⟩)
 ·exact((b.good p l).agr i).sub (λk _ a=> .inl a)
 ·rw[d];rcases a with a|a
  ·exact⟨bC (h.sep k a).1 hb.size,(h.sep k a).2⟩
  ·exact⟨a.2,λm=>by have:=(h.own_lt m).2;omega⟩
theorem BoxIn.wset (h:BoxIn B P S dn mp wt v X w) {w1 w3:World} {wv':Value} {M':List (Grp×GrX)} (hb:Below w.heap.size w w1) (hg:w1.grownBy w3 X.wv.ownBlock) (hown:w3.ownsRow B 45 7 wv' M'.length (M'.flatMap grC_))
  (hat:wv'.ownBlock=X.wv.ownBlock∨wv'.ownBlock=some w1.heap.size) (hgood:∀p∈M',GrG w S p):
  BoxIn B P S dn mp (M'.map Prod.fst) v { X with wv:=wv',M:=M' } (w3.setCell ⟨P,1,none⟩ wv')∧BTo P X S w { X with wv:=wv',M:=M' } S (w3.setCell ⟨P,1,none⟩ wv'):=by
 have j:=lt_of_block h.obj;have s:=h.map.lt;have m:=h.below hb;have f:=hb.size;have n:∀g,X.wv.ownBlock=some g->¬S g:=λg e n=>(h.sep g n).2 (.inr (.inr (.inr e)));have t:¬S P:=λx=>(h.sep P x).2 (.inl rfl);have o:Agr S w (w3.setCell ⟨P,1,none⟩ wv'):=((Agr.below hb).trans (Agr.grown hg n)).trans (gY w3 P 1 wv' t);have l:GrB (Own P X) w (w3.setCell ⟨P,1,none⟩ wv'):=((GrB.of_below hb).grown hg (λg e _=> .inr (.inr (.inr e)))).set P 1 wv' (λ_=> .inl rfl);have d:∀k,Own P { X with wv:=wv',M:=M' } k->Own P X k∨w.heap.size<=k:=λk r=>by
  rcases r with e|e|e|e
  ·exact .inl (.inl e)
  ·exact .inl (.inr (.inl e))
  ·exact .inl (.inr (.inr (.inl e)))
  ·have e:wv'.ownBlock=some k:=e;rcases hat with b|b
   ·exact .inl (.inr (.inr (.inr (b.symm.trans e))))
   ·right;rw[b] at e;injection e with e;omega
 refine⟨⟨gI (c:=#[X.dv,X.wv,.map (some X.bm),.slice X.vA v.length X.vc]) ((hg.block P (by omega) (λe=>h.wP e.symm)).trans m.obj) 1 wv' rfl,gJ (m.done.kept hg (kept_or (λg e a=>h.dw g a e))) h.dP 1 wv',gJ hown (own_new hat h.wP j f) 1 wv',h.dl,rfl,?_,RowG.agr h.vec o,h.vle,h.vmax,h.vlen,?_,h.hP,h.hm,h.pm,h.dP,h.dm,own_new hat h.wP j f,own_new hat h.wm s f,?_,?_⟩,⟨l,d,λ_ h=>h,λ_ h=> .inl h⟩⟩
 ·exact(m.map.kept hg (λe=>h.wm e.symm)).setCell (λe=>h.pm e.symm) wv'
 ·intro q i;rcases au.1 i with i|i
  ·exact(h.good q (au.2 (.inl i))).agr o
  ·exact(hgood q i).agr o
 ·intro g e a;have a:wv'.ownBlock=some g:=a;rcases hat with b|b
  ·rw[b] at a;exact h.dw g e a
  ·rw[b] at a;injection a with a;have:=(h.done.lt g e).2;omega
 ·intro k r;have u:=h.sep k r;exact⟨bC u.1 l.size,λy=>(d k y).elim u.2 (by omega)⟩
end
theorem covers_any (A B:Option Addr) (c d:Nat) (v u:List Int) (w:World) (hv:v.length<=9223372036854775806) (hu:u.length<=9223372036854775806) (hA:VecR w A v) (hB:VecR w B u):
  Calls Tryz.prog 98 #[.slice A v.length c,.slice B u.length d] w λe w'=>e= .returned (.bool (covB v u))∧w'=w:=by
 obtain⟨g,a⟩:∃r,r=covB v u:=⟨_,rfl⟩;rw[<-a];obtain⟨m,p⟩:∃m,m=max v.length u.length:=⟨_,rfl⟩;have l:=hid (show g=i8 m λr=>decide (u.getD r 0<=v.getD r 0) by rw[a,p];rfl);have n:=hid p;have O:m<=9223372036854775806:=by omega
 have L:=hid (λr=>at_any A c v r w (by omega) hA);have M:=hid (λr=>at_any B d u r w (by omega) hB);clear a p hA hB;go_enter Tryz.func98,Tryz.ntmps98;by_cases q:(v.length:Int)<(u.length:Int)
 all_goals
  go_wp2_with fail
  first
   |rw[show max (v.length:Int) (u.length:Int)=(m:Int) from by have:=n.out;omega]
   |rw[show(u.length:Int)=(m:Int) from by have:=n.out;omega]
   |rw[show(v.length:Int)=(m:Int) from by have:=n.out;omega]
  clear q;go_loop [11] (λi=>∃k:Nat,i= .int .i64 k∧k<=m∧Hid (∀j,j<k->decide (u.getD j 0<=v.getD j 0)=true)) (λi=>m-(RowKit.intOf i).toNat)
  case atStart=>exact⟨0,rfl,aq _,hid (λj D=>absurd D (cG j))⟩
  case round=>
   obtain⟨k,rfl,P,E⟩:=hrel;by_cases F:k<m
   ·have Q:(k:Int)<(m:Int):=by omega
    have G:atV v ((k:Int)+1)=v.getD k 0:=kG;have H:atV u ((k:Int)+1)=u.getD k 0:=kG;have b:=hid (L.out ((k:Int)+1));have f:=hid (M.out ((k:Int)+1));rw[G] at b;rw[H] at f;obtain⟨x,s⟩:∃x,x=v.getD k 0:=⟨_,rfl⟩;obtain⟨y,t⟩:∃y,y=u.getD k 0:=⟨_,rfl⟩;rw[<-s] at b;rw[<-t] at f;have I:=hid s;have J:=hid t;clear G H s t;by_cases o:y<=x
    ·have z:¬x<y:=by omega
     have N:decide (x<y)=false:=aE z;have K:=hid (show ∀j,j<k+1->decide (u.getD j 0<=v.getD j 0)=true from λj D=>if h:j<k then E.out j h else (by(obtain rfl:j=k:=(by omega));rw[<-I.out,<-J.out];exact aN o));go_wp2_with fail;refine b.out.mono ?_;rintro e C ⟨rfl,rfl⟩;go_wp2_with fail;refine f.out.mono ?_;rintro e C ⟨rfl,rfl⟩;go_wp2;go_round
     case rel=>exact⟨k+1,by go_num,by omega,K⟩
     case measure=>simp[RowKit.intOf];omega
    ·have z:x<y:=by omega
     have N:decide (x<y)=true:=aN z;obtain rfl:g=false:=by rw[l.out];exact fl F (by rw[<-I.out,<-J.out];exact aE o)
     go_wp2_with fail;refine b.out.mono ?_;rintro e C ⟨rfl,rfl⟩;go_wp2_with fail;refine f.out.mono ?_;rintro e C ⟨rfl,rfl⟩;go_wp2;go_ret;exact⟨rfl,rfl⟩
   ·obtain rfl:k=m:=by omega
    obtain rfl:g=true:=by rw[l.out];exact ed E.out
    have R:¬(k:Int)<(k:Int):=by omega
    go_wp2;go_ret;exact⟨rfl,rfl⟩
theorem refcovers_any (A B:Option Addr) (c d:Nat) (v u:List Int) (w:World) (hv:v.length<=9223372036854775800) (hu:u.length<=9223372036854775800) (hA:VecR w A v) (hB:VecR w B u):
  Calls Tryz.prog 38 #[.slice A v.length c,.slice B u.length d] w λe w'=>e= .returned (.bool (covB v u))∧w'=w:=by
 obtain⟨l,b⟩:∃r,r=covB v u:=⟨_,rfl⟩;rw[<-b];obtain⟨m,t⟩:∃m,m=max v.length u.length:=⟨_,rfl⟩;have n:=hid (show l=i8 m λr=>decide (u.getD r 0<=v.getD r 0) by rw[b,t];rfl);have T:m<=9223372036854775806:=by omega
 have z:=hid t;have O:=hid (λr=>fh A c v r w (by omega) hA);have P:=hid (λr=>fh B d u r w (by omega) hB);clear b t hA hB;go_enter Tryz.func38,Tryz.ntmps38;by_cases a:(v.length:Int)<(u.length:Int)
 all_goals
  go_wp2_with fail;go_loop [5] (λi=>∃k:Nat,i= .int .i64 ((k:Int)+1)∧k<=m∧Hid (∀j,j<k->decide (u.getD j 0<=v.getD j 0)=true)) (λi=>m+1-(RowKit.intOf i).toNat)
  case atStart=>exact⟨0,by go_num,aq _,hid (λj G=>absurd G (cG j))⟩
  case round=>
   obtain⟨k,rfl,U,H⟩:=hrel;by_cases I:k<m
   ·have Q:(k:Int)+1<=(u.length:Int)∨(k:Int)+1<=(v.length:Int):=by have:=z.out;omega
    have V:(k:Int)+1<=(m:Int):=by omega
    have J:atV v ((k:Int)+1)=v.getD k 0:=kG;have K:atV u ((k:Int)+1)=u.getD k 0:=kG;have f:=hid (O.out ((k:Int)+1));have g:=hid (P.out ((k:Int)+1));rw[J] at f;rw[K] at g;obtain⟨x,C⟩:∃x,x=v.getD k 0:=⟨_,rfl⟩;obtain⟨y,D⟩:∃y,y=u.getD k 0:=⟨_,rfl⟩;rw[<-C] at f;rw[<-D] at g;have L:=hid C;have M:=hid D;have o:(v.length:Int)<(u.length:Int)->(k:Int)+1<=(u.length:Int):=λh=>by omega
    have p:¬(v.length:Int)<(u.length:Int)->(k:Int)+1<=(v.length:Int):=λh=>by omega
    first
     |(have q:=o a)
     |(have q:=p (Int.not_lt.2 a))
    have R:=aN q;clear J K C D Q o p;by_cases s:y<=x
    ·have E:¬x<y:=by omega
     have S:decide (x<y)=false:=aE E;have N:=hid (show ∀j,j<k+1->decide (u.getD j 0<=v.getD j 0)=true from λj G=>if h:j<k then H.out j h else (by(obtain rfl:j=k:=(by omega));rw[<-L.out,<-M.out];exact aN s));go_wp2_with fail;refine f.out.mono ?_;rintro e F ⟨rfl,rfl⟩;go_wp2_with fail;refine g.out.mono ?_;rintro e F ⟨rfl,rfl⟩;go_wp2;go_round
     case rel=>exact⟨k+1,by go_num,by omega,N⟩
     case measure=>simp[RowKit.intOf];omega
    ·have E:x<y:=by omega
     have S:decide (x<y)=true:=aN E;obtain rfl:l=false:=by rw[n.out];exact fl I (by rw[<-L.out,<-M.out];exact aE s)
     go_wp2_with fail;refine f.out.mono ?_;rintro e F ⟨rfl,rfl⟩;go_wp2_with fail;refine g.out.mono ?_;rintro e F ⟨rfl,rfl⟩;go_wp2;go_ret;exact⟨rfl,rfl⟩
   ·obtain rfl:k=m:=by omega
    obtain rfl:l=true:=by rw[n.out];exact ed H.out
    have o:(v.length:Int)<(u.length:Int)->¬(k:Int)+1<=(u.length:Int):=λh=>by have:=z.out;omega
    have p:¬(v.length:Int)<(u.length:Int)->¬(k:Int)+1<=(v.length:Int):=λh=>by have:=z.out;omega
    first
     |(have q:=o a)
     |(have q:=p (Int.not_lt.2 a))
    have R:=aE q;clear o p;go_wp2;go_ret;exact⟨rfl,rfl⟩
end
end Go.Proofs.YtkhmicndehlneaaGreatDoor
