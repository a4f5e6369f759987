/- Part 5 of the walks and plain laws that this claim uses, joined. Conditions: as each theorem states. -/
import Derived.Maps.AppendAt
import Derived.Outline
import Derived.Test.YtkhmicndehlneaaGreatDoorYhd
namespace Go.Proofs.YtkhmicndehlneaaGreatDoor
set_option maxRecDepth 100000
set_option maxHeartbeats 16000000
set_option linter.unusedVariables false
section
section
open Go.RowKit Go.Lib Go.Sort
attribute [local go_sem ↓] Go.wp_at_zero Go.wp_at_succ
section
variable {P : Program} {ops : Array Oper} {rest : List Oper} {o : Oper} {a : Act} {Q : Exit → Act → World → Prop}
theorem dE {w:World} (hgd:o.guard=none) (ty:TypeId) (x y:Operand) (ho:o.op= .store ty x y) (g off:Nat) (T:TypeId) (c c':Array Value) (v:Value)
  (hx:a.eval x= .pointer (some ⟨g,off,none⟩)) (hg:w.heap[g]? =some (.cells c T (0,0))) (hy:a.eval y=v) (hi:(P.info? ty).map (·.size)=some v.cells.size) (hs:off+v.cells.size<=c.size) (h1:v.cells.toList.all (·.oneCell')=true) (hc:putL c off v.cells.toList=c')
  (h:wpList P ops Q rest (a.put o.dst undef) (w.setRow g c')):wpList P ops Q (o::rest) a w:=by
 subst hc;refine wpList_plain hgd λ_ hK=> ?_;have ht:w.there g off v.cells.size:=λj hj=>by
  rw[crw hg];exact⟨by rw[dh (by omega)];rfl,aW _ _ _ _ _ hg⟩
 unfold Oper.wp execOp;simp only[ho,hx,hy,Instr.storeAt,Instr.sureAddr,Sem.run_bind,Sem.run_pure,Result.andThen_ok,run_store_any (P:=P) _ _ off ty v ht hi h1];rw[fk _ _ _ _ _ _ hg];exact hK _ _ h
end
structure OpSt (w0:World) (b R O:Nat) (T:TypeId) (zc oc:Array Value) (s:ByteArray) (bad:Bool) (w:World):Prop where
 rdr:Rdr w b s bad
 res:w.heap[R]? =some (.cells zc T (0,0))
 obj:w.heap[O]? =some (.cells oc T (0,0))
 grow:w0.grownBy w (some b)
 nb:b<w0.heap.size
 nR:w0.heap.size<=R
 nO:R<O
theorem lt_of_block {w:World} {g:Nat} {o:Obj} (h:w.heap[g]? =some o):g<w.heap.size:=by
 rcases cj g w.heap.size with hlt|hge
 ·exact hlt
 ·rw[Array.getElem?_eq_none hge] at h;cases h
section
variable {w0 w w' : World} {b R O : Nat} {T : TypeId} {zc oc : Array Value} {s s' : ByteArray} {bad bad' : Bool}
theorem OpSt.call (h:OpSt w0 b R O T zc oc s bad w) (hr:Rdr w' b s' bad') (hg:w.grownBy w' (some b)):OpSt w0 b R O T zc oc s' bad' w':=
 ⟨hr,(hg.block R (lt_of_block h.res) (by intro e;cases e;have:=h.nb;have:=h.nR;omega)).trans h.res,(hg.block O (lt_of_block h.obj) (by intro e;cases e;have:=h.nb;have:=h.nR;have:=h.nO;omega)).trans h.obj,dC h.grow hg,h.nb,h.nR,h.nO⟩
theorem setRow_other (w:World) (g k:Nat) (c:Array Value) (h:k≠g):(w.setRow g c).heap[k]? =w.heap[k]? :=by
 simp only[World.setRow,cx];rw[aC (λe=>h e.symm)]
theorem OpSt.put (h:OpSt w0 b R O T zc oc s bad w) (c:Array Value):OpSt w0 b R O T zc c s bad (w.setRow O c):=by
 have h1:=h.nb;have h2:=h.nR;have h3:=h.nO;exact⟨(setRow_other w O b c (by omega)).trans h.rdr,(setRow_other w O R c (by omega)).trans h.res,aM _ h.obj,jN h.grow _ _ (by omega),h.nb,h.nR,h.nO⟩
theorem OpSt.setBad (h:OpSt w0 b R O T zc oc s bad w) (v:Bool):OpSt w0 b R O T zc oc s v (w.setCell ⟨b,1,none⟩ (.bool v)):=by
 have h1:=h.nb;have h2:=h.nR;have h3:=h.nO;exact⟨h.rdr.set1 v,(cK _ _ _ _ (by show R≠b;omega)).trans h.res,(cK _ _ _ _ (by show O≠b;omega)).trans h.obj,dC h.grow (eF _ _ _),h.nb,h.nR,h.nO⟩
theorem OpSt.cell (h:OpSt w0 b R O T zc oc s bad w) (i:Nat):w.cell? ⟨O,i,none⟩=oc[i]? :=aD _ _ _ _ _ _ h.obj
end
theorem Agr.setRow {S:Nat->Prop} (w:World) (g:Nat) (c:Array Value) (h:¬S g):Agr S w (w.setRow g c):=⟨by simp[World.setRow],λb hb _=>setRow_other w g b c (λe=>h (e ▸ hb))⟩
def POp (B:Nat) (o:Gop) (w':World) (v:Value):Prop:=∃x,v= .agg (opA o x)∧OpIn w' (λk=>B<=k) o x∧o.name.size<=1000000∧o.text.size<=1000000
theorem jU {w:World} {B:Nat} {e:TypeId} {s:Nat} {A:Option Addr} {n c:Nat} {xs:List Value} {f:Nat->Nat->Value} (h:w.ownsRow B e s (.slice A n c) n xs) (hf:∀k j,k<n->j<s->xs[k*s+j]? =some (f k j)):RowG w (λk=>B<=k) A n s f:=λk hk=>by
 rcases h.2 with⟨h1,h2⟩|⟨g,cap,cur,h1,hB,hg,h2⟩
 ·omega
 ·cases h1
  have hlt:=lt_of_block hg
  refine⟨g,0,rfl,hB,hlt,λj hj=> ?_⟩
  have:=h.cells (g:=g) rfl (k*s+j) _ (hf k j hk hj)
  rw[jm] at this
  rw[bN]
  exact this
theorem kB {w:World} {B:Nat} {e:TypeId} {s:Nat} {A:Option Addr} {n c:Nat} {xs:List Value} (h:w.ownsRow B e s (.slice A n c) n xs):n<=c∧c<=maxLen:=by
 rcases h.2 with⟨h1,h2⟩|⟨g,cap,cur,h1,hB,hg,h2,h3,_⟩
 ·cases h1;exact⟨aa _,aq _⟩
 ·cases h1;exact⟨h2,h3⟩
theorem gG {α:Type} {f:α->List Value} {s:Nat} (hl:∀x,(f x).length=s):∀(xs:List α) (k j:Nat) (z:α),k<xs.length->j<s->(xs.flatMap f)[k*s+j]? =(f (xs.getD k z))[j]?
 | [],k,j,z,h,_=>by simp at h
 |x::xs,0,j,z,h,hj=>by
  rw[cW,Nat.zero_mul,bN,es (by rw[hl];exact hj)]
  rfl
 |x::xs,k+1,j,z,h,hj=>by
  rw[cW,cY (by rw[hl,Nat.succ_mul];omega),hl]
  have e:(k+1)*s+j-s=k*s+j:=by rw[Nat.succ_mul];omega
  rw[e,gG hl xs k j z (by simpa using h) hj]
  rfl
theorem sts_own {w:World} {B:Nat} {A:Option Addr} {c:Nat} {xs:List Gst} {E:TypeId} (h:w.ownsRow B E 2 (.slice A xs.length c) xs.length (xs.flatMap stC_)):StsS w (λk=>B<=k) A xs:=by
 refine jU h λk j hk hj=> ?_;rw[gG (s:=2) (λ_=>rfl) xs k j .zero hk hj];rcases j with _|_|j
 ·rfl
 ·rfl
 ·omega
theorem ids_own {w:World} {B:Nat} {A:Option Addr} {c:Nat} {xs:List Gid} {E:TypeId} (h:w.ownsRow B E 3 (.slice A xs.length c) xs.length (xs.flatMap idC_)):IdsS w (λk=>B<=k) A xs:=by
 refine jU h λk j hk hj=> ?_;rw[gG (s:=3) (λ_=>rfl) xs k j .zero hk hj];rcases j with _|_|_|j
 ·rfl
 ·rfl
 ·rfl
 ·omega
theorem OpIn.none {w:World} {S:Nat->Prop} {o:Gop} (h1:o.dots=[]) (h2:o.elems=[]) (h3:o.name.size<=1000000) (h4:o.text.size<=1000000):OpIn w S o ⟨none,0,none,0⟩:=by
 refine⟨?_,?_,by rw[h1];exact aa _,by rw[h2];exact aa _,aq _,aq _,by unfold maxLen;omega,by unfold maxLen;omega⟩
 ·rw[h1];exact RowG.zero
 ·rw[h2];exact RowG.zero
theorem rop_any (b:Nat) (s:ByteArray) (bad:Bool) (w:World) (hs:s.size<=1000000) (hR:Rdr w b s bad):
  Calls Tryz.prog 85 #[.pointer (some ⟨b,0,none⟩)] w (RdQ opR (POp w.heap.size) b s bad w):=by
 have hlt:=hR.lt;have HR0:=hid (hR.kept (bi w (.cells #[(0:Int),(0:Int),(0:Int),(0:Int),(0:Int),(0:Int),(0:Int),.string ⟨#[]⟩,false,.slice none 0 0,(0:Int),(0:Int),(0:Int),(0:Int),(0:Int),(0:Int),.string ⟨#[]⟩,.slice none 0 0] 125) none) (by simp));have HA0:=hid (am w (.cells #[(0:Int),(0:Int),(0:Int),(0:Int),(0:Int),(0:Int),(0:Int),.string ⟨#[]⟩,false,.slice none 0 0,(0:Int),(0:Int),(0:Int),(0:Int),(0:Int),(0:Int),.string ⟨#[]⟩,.slice none 0 0] 125));have HG0:=hid (bi w (.cells #[(0:Int),(0:Int),(0:Int),(0:Int),(0:Int),(0:Int),(0:Int),.string ⟨#[]⟩,false,.slice none 0 0,(0:Int),(0:Int),(0:Int),(0:Int),(0:Int),(0:Int),.string ⟨#[]⟩,.slice none 0 0] 125) (some b));clear hR;go_enter Tryz.func85,Tryz.ntmps85;go_wp2_with fail;refine(fX b s bad _ hs HR0.out).mono ?_;rintro e w1 ⟨k,v,s1,bad1,rfl,⟨rfl,hk⟩,hR1,hg1,hd1⟩;have hs1:=eB hd1 hs;have HD1:=hid hd1;have HA1:=hid ((hg1.block w.heap.size (by simp) (by intro e;cases e;omega)).trans HA0.out);have HG1:=hid (dC HG0.out hg1);have hlt1:w.heap.size<w1.heap.size:=by have:=hg1.size;simp at this;omega
 have HR1:=hid hR1;clear hd1 hg1 hR1;go_upto_region 2 with(refine bM rfl _ _ _ rfl _ _ _ _ rfl ?_ rfl ?_ ?_ ?_ ?_;(focus(simp;done));kernel_rfl;rfl;rfl)
 have HT1:OpSt w b w.heap.size w1.heap.size 125 #[(0:Int),(0:Int),(0:Int),(0:Int),(0:Int),(0:Int),(0:Int),.string ⟨#[]⟩,false,.slice none 0 0,(0:Int),(0:Int),(0:Int),(0:Int),(0:Int),(0:Int),.string ⟨#[]⟩,.slice none 0 0] #[k,(0:Int),(0:Int),(0:Int),(0:Int),(0:Int),(0:Int),.string ⟨#[]⟩,false,.slice none 0 0,(0:Int),(0:Int),(0:Int),(0:Int),(0:Int),(0:Int),.string ⟨#[]⟩,.slice none 0 0] s1 bad1 (w1.alloc (.cells #[k,(0:Int),(0:Int),(0:Int),(0:Int),(0:Int),(0:Int),.string ⟨#[]⟩,false,.slice none 0 0,(0:Int),(0:Int),(0:Int),(0:Int),(0:Int),(0:Int),.string ⟨#[]⟩,.slice none 0 0] 125)):=
  ⟨HR1.out.kept (bi w1 _ none) (by simp),(ax _ _ _ hlt1).trans HA1.out,am _ _,jg HG1.out _,hlt,aa _,hlt1⟩
 generalize hV:w1.alloc (.cells #[k,(0:Int),(0:Int),(0:Int),(0:Int),(0:Int),(0:Int),.string ⟨#[]⟩,false,.slice none 0 0,(0:Int),(0:Int),(0:Int),(0:Int),(0:Int),(0:Int),.string ⟨#[]⟩,.slice none 0 0] 125)=V1 at *;clear hV HR1 HA1 HG1 HR0 HA0 HG0;have HS1:=hid HT1;clear HT1;go_wp2_with fail;refine(rid_any b s1 bad1 V1 hs1 HS1.out.rdr).mono ?_;rintro e y2 ⟨⟨⟨t2,r2⟩,i2⟩,v,s2,bad2,rfl,hv,hR2,hg2,hd2⟩;have hs2:=eB hd2 hs1;have HU2:=hid (HS1.out.call hR2 hg2);have HD2:=hid hd2;obtain rfl:v= .agg #[t2,r2,i2]:=hv;clear hR2 hg2 hd2;go_upto_region 3 with(first|(refine dE rfl _ _ _ rfl w1.heap.size 1 _ _ #[k,t2,r2,i2,(0:Int),(0:Int),(0:Int),.string ⟨#[]⟩,false,.slice none 0 0,(0:Int),(0:Int),(0:Int),(0:Int),(0:Int),(0:Int),.string ⟨#[]⟩,.slice none 0 0] _ rfl HU2.out.obj rfl ?_ ?_ ?_ rfl ?_;kernel_rfl;exact bJ rfl;rfl));have HT2:=HU2.out.put #[k,t2,r2,i2,(0:Int),(0:Int),(0:Int),.string ⟨#[]⟩,false,.slice none 0 0,(0:Int),(0:Int),(0:Int),(0:Int),(0:Int),(0:Int),.string ⟨#[]⟩,.slice none 0 0];generalize hV:y2.setRow w1.heap.size #[k,t2,r2,i2,(0:Int),(0:Int),(0:Int),.string ⟨#[]⟩,false,.slice none 0 0,(0:Int),(0:Int),(0:Int),(0:Int),(0:Int),(0:Int),.string ⟨#[]⟩,.slice none 0 0]=V2 at *;clear hV;have HS2:=hid HT2;clear HT2;have ck2:V2.cell? ⟨w1.heap.size,0,none⟩=some (.int .i64 k):=by rw[HS2.out.cell];rfl
 by_cases k0:k=0
 ·subst k0;go_wp2_with fail;refine(rid_any b s2 bad2 V2 hs2 HS2.out.rdr).mono ?_;rintro e y3 ⟨⟨⟨t3,r3⟩,i3⟩,v,s3,bad3,rfl,hv,hR3,hg3,hd3⟩;have hs3:=eB hd3 hs2;have HU3:=hid (HS2.out.call hR3 hg3);have HD3:=hid hd3;obtain rfl:v= .agg #[t3,r3,i3]:=hv;clear hR3 hg3 hd3;go_upto_region 8 with(first|(refine dE rfl _ _ _ rfl w1.heap.size 4 _ _ #[(0:Int),t2,r2,i2,t3,r3,i3,.string ⟨#[]⟩,false,.slice none 0 0,(0:Int),(0:Int),(0:Int),(0:Int),(0:Int),(0:Int),.string ⟨#[]⟩,.slice none 0 0] _ rfl HU3.out.obj rfl ?_ ?_ ?_ rfl ?_;kernel_rfl;exact bJ rfl;rfl));have HT3:=HU3.out.put #[(0:Int),t2,r2,i2,t3,r3,i3,.string ⟨#[]⟩,false,.slice none 0 0,(0:Int),(0:Int),(0:Int),(0:Int),(0:Int),(0:Int),.string ⟨#[]⟩,.slice none 0 0];generalize hV:y3.setRow w1.heap.size #[(0:Int),t2,r2,i2,t3,r3,i3,.string ⟨#[]⟩,false,.slice none 0 0,(0:Int),(0:Int),(0:Int),(0:Int),(0:Int),(0:Int),.string ⟨#[]⟩,.slice none 0 0]=V3 at *;clear hV;have HS3:=hid HT3;clear HT3;go_wp2_with fail;refine(rbytes_any b s3 bad3 V3 hs3 HS3.out.rdr).mono ?_;rintro e y4 ⟨x4,v,s4,bad4,rfl,⟨rfl,hx4⟩,hR4,hg4,hd4⟩;have hs4:=eB hd4 hs3;have HU4:=hid (HS3.out.call hR4 hg4);have HD4:=hid hd4;clear hR4 hg4 hd4;go_upto_region 9 with(first|(refine dE rfl _ _ _ rfl w1.heap.size 7 _ _ #[(0:Int),t2,r2,i2,t3,r3,i3,x4,false,.slice none 0 0,(0:Int),(0:Int),(0:Int),(0:Int),(0:Int),(0:Int),.string ⟨#[]⟩,.slice none 0 0] _ rfl HU4.out.obj rfl ?_ ?_ ?_ rfl ?_;kernel_rfl;exact bJ rfl;rfl))
  have HT4:=HU4.out.put #[(0:Int),t2,r2,i2,t3,r3,i3,x4,false,.slice none 0 0,(0:Int),(0:Int),(0:Int),(0:Int),(0:Int),(0:Int),.string ⟨#[]⟩,.slice none 0 0];generalize hV:y4.setRow w1.heap.size #[(0:Int),t2,r2,i2,t3,r3,i3,x4,false,.slice none 0 0,(0:Int),(0:Int),(0:Int),(0:Int),(0:Int),(0:Int),.string ⟨#[]⟩,.slice none 0 0]=V4 at *;clear hV;have HS4:=hid HT4;clear HT4;have ck4:V4.cell? ⟨w1.heap.size,0,none⟩=some (.int .i64 0):=by rw[HS4.out.cell];rfl
  go_wp2_with fail;refine(fX b s4 bad4 V4 hs4 HS4.out.rdr).mono ?_;rintro e y5 ⟨d,v,s5,bad5,rfl,⟨rfl,hd⟩,hR5,hg5,hd5⟩;have HU5:=hid (HS4.out.call hR5 hg5);have HD5:=hid hd5;have b1:=hR5.c1;have f1:=hR5.f 1;clear hR5 hg5 hd5;obtain⟨e1,he1⟩:∃e1,e1=decide (d=1):=⟨_,rfl⟩;obtain⟨e2,he2⟩:∃e2,e2=(bad5 || decide (1<d)):=⟨_,rfl⟩;have HE1:=hid he1;have HE2:=hid he2;have q1:(d == 1)=e1:=by rw[he1];rfl
  clear he1 he2;have b2:=(HU5.out.put #[(0:Int),t2,r2,i2,t3,r3,i3,x4,e1,.slice none 0 0,(0:Int),(0:Int),(0:Int),(0:Int),(0:Int),(0:Int),.string ⟨#[]⟩,.slice none 0 0]).rdr.c1;have f2:=(HU5.out.put #[(0:Int),t2,r2,i2,t3,r3,i3,x4,e1,.slice none 0 0,(0:Int),(0:Int),(0:Int),(0:Int),(0:Int),(0:Int),.string ⟨#[]⟩,.slice none 0 0]).rdr.f 1;cases bad5 with
  | true=>
   obtain rfl:e2=true:=by rw[HE2.out];rfl
   go_upto_region 20 with(first|(refine dE rfl _ _ _ rfl w1.heap.size 8 _ _ #[(0:Int),t2,r2,i2,t3,r3,i3,x4,e1,.slice none 0 0,(0:Int),(0:Int),(0:Int),(0:Int),(0:Int),(0:Int),.string ⟨#[]⟩,.slice none 0 0] _ rfl HU5.out.obj rfl ?_ ?_ ?_ rfl ?_;kernel_rfl;exact bJ rfl;rfl));have HS6:=hid ((HU5.out.put #[(0:Int),t2,r2,i2,t3,r3,i3,x4,e1,.slice none 0 0,(0:Int),(0:Int),(0:Int),(0:Int),(0:Int),(0:Int),.string ⟨#[]⟩,.slice none 0 0]).setBad true);generalize hV:(y5.setRow w1.heap.size #[(0:Int),t2,r2,i2,t3,r3,i3,x4,e1,.slice none 0 0,(0:Int),(0:Int),(0:Int),(0:Int),(0:Int),(0:Int),.string ⟨#[]⟩,.slice none 0 0]).setCell ⟨b,1,none⟩ (.bool true)=V6 at *;clear hV
   go_wp2_with (first
    |(refine cu rfl _ _ rfl w1.heap.size _ _ _ rfl HS6.out.obj az rfl ?_ ?_;kernel_rfl)
    |(refine da rfl _ _ _ rfl w.heap.size _ _ _ rfl rfl HS6.out.res ?_ ?_ ?_ ?_;kernel_rfl;rfl;rfl))
   refine bB (co rfl _ _ w.heap.size _ _ (0,0) _ rfl (aM _ HS6.out.res) az rfl (by kernel_rfl)) rfl ?_;refine⟨{ opO 0 ⟨⟨t2,r2⟩,i2⟩ with parent:=⟨⟨t3,r3⟩,i3⟩,name:=x4,dir:=e1 },_,s5,true,rfl,⟨⟨none,0,none,0⟩,rfl,OpIn.none rfl rfl hx4 (aq _),hx4,aq _⟩,(setRow_other _ _ _ _ (by have:=HS6.out.nb;omega)).trans HS6.out.rdr,jN HS6.out.grow _ _ (aa _),RdIs.op0 HD1.out HD2.out HD3.out HD4.out (by rw[HE1.out];exact RdIs.dir HD5.out)⟩
  | false=>
   have q2:decide (1<d)=e2:=by rw[HE2.out];simp
   go_upto_region 20 with(first|(refine dE rfl _ _ _ rfl w1.heap.size 8 _ _ #[(0:Int),t2,r2,i2,t3,r3,i3,x4,e1,.slice none 0 0,(0:Int),(0:Int),(0:Int),(0:Int),(0:Int),(0:Int),.string ⟨#[]⟩,.slice none 0 0] _ rfl HU5.out.obj rfl ?_ ?_ ?_ rfl ?_;kernel_rfl;exact bJ rfl;rfl));have HS6:=hid ((HU5.out.put #[(0:Int),t2,r2,i2,t3,r3,i3,x4,e1,.slice none 0 0,(0:Int),(0:Int),(0:Int),(0:Int),(0:Int),(0:Int),.string ⟨#[]⟩,.slice none 0 0]).setBad e2);generalize hV:(y5.setRow w1.heap.size #[(0:Int),t2,r2,i2,t3,r3,i3,x4,e1,.slice none 0 0,(0:Int),(0:Int),(0:Int),(0:Int),(0:Int),(0:Int),.string ⟨#[]⟩,.slice none 0 0]).setCell ⟨b,1,none⟩ (.bool e2)=V6 at *;clear hV
   go_wp2_with (first
    |(refine cu rfl _ _ rfl w1.heap.size _ _ _ rfl HS6.out.obj az rfl ?_ ?_;kernel_rfl)
    |(refine da rfl _ _ _ rfl w.heap.size _ _ _ rfl rfl HS6.out.res ?_ ?_ ?_ ?_;kernel_rfl;rfl;rfl))
   refine bB (co rfl _ _ w.heap.size _ _ (0,0) _ rfl (aM _ HS6.out.res) az rfl (by kernel_rfl)) rfl ?_;refine⟨{ opO 0 ⟨⟨t2,r2⟩,i2⟩ with parent:=⟨⟨t3,r3⟩,i3⟩,name:=x4,dir:=e1 },_,s5,e2,rfl,⟨⟨none,0,none,0⟩,rfl,OpIn.none rfl rfl hx4 (aq _),hx4,aq _⟩,(setRow_other _ _ _ _ (by have:=HS6.out.nb;omega)).trans HS6.out.rdr,jN HS6.out.grow _ _ (aa _),RdIs.op0 HD1.out HD2.out HD3.out HD4.out (by rw[HE1.out,HE2.out];exact RdIs.dir HD5.out)⟩
 by_cases k1:k=1
 ·subst k1;go_wp2_with fail;refine(rid_any b s2 bad2 V2 hs2 HS2.out.rdr).mono ?_;rintro e y3 ⟨⟨⟨t3,r3⟩,i3⟩,v,s3,bad3,rfl,hv,hR3,hg3,hd3⟩;have hs3:=eB hd3 hs2;have HU3:=hid (HS2.out.call hR3 hg3);have HD3:=hid hd3;obtain rfl:v= .agg #[t3,r3,i3]:=hv;clear hR3 hg3 hd3;go_upto_region 8 with(first|(refine dE rfl _ _ _ rfl w1.heap.size 4 _ _ #[(1:Int),t2,r2,i2,t3,r3,i3,.string ⟨#[]⟩,false,.slice none 0 0,(0:Int),(0:Int),(0:Int),(0:Int),(0:Int),(0:Int),.string ⟨#[]⟩,.slice none 0 0] _ rfl HU3.out.obj rfl ?_ ?_ ?_ rfl ?_;kernel_rfl;exact bJ rfl;rfl));have HT3:=HU3.out.put #[(1:Int),t2,r2,i2,t3,r3,i3,.string ⟨#[]⟩,false,.slice none 0 0,(0:Int),(0:Int),(0:Int),(0:Int),(0:Int),(0:Int),.string ⟨#[]⟩,.slice none 0 0];generalize hV:y3.setRow w1.heap.size #[(1:Int),t2,r2,i2,t3,r3,i3,.string ⟨#[]⟩,false,.slice none 0 0,(0:Int),(0:Int),(0:Int),(0:Int),(0:Int),(0:Int),.string ⟨#[]⟩,.slice none 0 0]=V3 at *;clear hV;have HS3:=hid HT3;clear HT3;go_wp2_with fail;refine(rbytes_any b s3 bad3 V3 hs3 HS3.out.rdr).mono ?_;rintro e y4 ⟨x4,v,s4,bad4,rfl,⟨rfl,hx4⟩,hR4,hg4,hd4⟩;have hs4:=eB hd4 hs3;have HU4:=hid (HS3.out.call hR4 hg4);have HD4:=hid hd4;clear hR4 hg4 hd4;go_upto_region 9 with(first|(refine dE rfl _ _ _ rfl w1.heap.size 7 _ _ #[(1:Int),t2,r2,i2,t3,r3,i3,x4,false,.slice none 0 0,(0:Int),(0:Int),(0:Int),(0:Int),(0:Int),(0:Int),.string ⟨#[]⟩,.slice none 0 0] _ rfl HU4.out.obj rfl ?_ ?_ ?_ rfl ?_;kernel_rfl;exact bJ rfl;rfl))
  have HT4:=HU4.out.put #[(1:Int),t2,r2,i2,t3,r3,i3,x4,false,.slice none 0 0,(0:Int),(0:Int),(0:Int),(0:Int),(0:Int),(0:Int),.string ⟨#[]⟩,.slice none 0 0];generalize hV:y4.setRow w1.heap.size #[(1:Int),t2,r2,i2,t3,r3,i3,x4,false,.slice none 0 0,(0:Int),(0:Int),(0:Int),(0:Int),(0:Int),(0:Int),.string ⟨#[]⟩,.slice none 0 0]=V4 at *;clear hV;have HS4:=hid HT4;clear HT4;have ck4:V4.cell? ⟨w1.heap.size,0,none⟩=some (.int .i64 1):=by rw[HS4.out.cell];rfl
  go_wp2_with (first
   |(refine cu rfl _ _ rfl w1.heap.size _ _ _ rfl HS4.out.obj az rfl ?_ ?_;kernel_rfl)
   |(refine da rfl _ _ _ rfl w.heap.size _ _ _ rfl rfl HS4.out.res ?_ ?_ ?_ ?_;kernel_rfl;rfl;rfl))
  refine bB (co rfl _ _ w.heap.size _ _ (0,0) _ rfl (aM _ HS4.out.res) az rfl (by kernel_rfl)) rfl ?_;refine⟨{ opO 1 ⟨⟨t2,r2⟩,i2⟩ with parent:=⟨⟨t3,r3⟩,i3⟩,name:=x4 },_,s4,bad4,rfl,⟨⟨none,0,none,0⟩,rfl,OpIn.none rfl rfl hx4 (aq _),hx4,aq _⟩,(setRow_other _ _ _ _ (by have:=HS4.out.nb;omega)).trans HS4.out.rdr,jN HS4.out.grow _ _ (aa _),RdIs.op1 HD1.out HD2.out HD3.out HD4.out⟩
 by_cases k2:k=2
 ·subst k2;go_wp2_with fail;refine(rmany_st b s2 bad2 V2 hs2 HS2.out.rdr).mono ?_;rintro e y3 ⟨x3,v,s3,bad3,rfl,hP3,hR3,hg3,hd3⟩;have hs3:=eB hd3 hs2;have HU3:=hid (HS2.out.call hR3 hg3);have HD3:=hid hd3;obtain⟨⟨A3,c3,rfl⟩,hO3,hl3⟩:=hP3;clear hR3 hg3 hd3;go_upto_region 20 with(first|(refine dE rfl _ _ _ rfl w1.heap.size 9 _ _ #[(2:Int),t2,r2,i2,(0:Int),(0:Int),(0:Int),.string ⟨#[]⟩,false,.slice A3 x3.length c3,(0:Int),(0:Int),(0:Int),(0:Int),(0:Int),(0:Int),.string ⟨#[]⟩,.slice none 0 0] _ rfl HU3.out.obj rfl ?_ ?_ ?_ rfl ?_;kernel_rfl;exact bJ rfl;rfl));have HT3:=HU3.out.put #[(2:Int),t2,r2,i2,(0:Int),(0:Int),(0:Int),.string ⟨#[]⟩,false,.slice A3 x3.length c3,(0:Int),(0:Int),(0:Int),(0:Int),(0:Int),(0:Int),.string ⟨#[]⟩,.slice none 0 0];have hltO:=lt_of_block HS2.out.obj;have hI3:OpIn y3 (λk=>V2.heap.size<=k) { opO 2 ⟨⟨t2,r2⟩,i2⟩ with dots:=x3 } ⟨A3,c3,none,0⟩:=⟨sts_own hO3,RowG.zero,(kB hO3).1,aa _,(kB hO3).2,aq _,aq _,aq _⟩;have HI3:=hid (hI3.agr (Agr.setRow y3 w1.heap.size #[(2:Int),t2,r2,i2,(0:Int),(0:Int),(0:Int),.string ⟨#[]⟩,false,.slice A3 x3.length c3,(0:Int),(0:Int),(0:Int),(0:Int),(0:Int),(0:Int),.string ⟨#[]⟩,.slice none 0 0] (by omega)));have hszV:=HS2.out.grow.size;clear hI3 hO3
  generalize hV:y3.setRow w1.heap.size #[(2:Int),t2,r2,i2,(0:Int),(0:Int),(0:Int),.string ⟨#[]⟩,false,.slice A3 x3.length c3,(0:Int),(0:Int),(0:Int),(0:Int),(0:Int),(0:Int),.string ⟨#[]⟩,.slice none 0 0]=V3 at *;clear hV;have HS3:=hid HT3;clear HT3
  go_wp2_with (first
   |(refine cu rfl _ _ rfl w1.heap.size _ _ _ rfl HS3.out.obj az rfl ?_ ?_;kernel_rfl)
   |(refine da rfl _ _ _ rfl w.heap.size _ _ _ rfl rfl HS3.out.res ?_ ?_ ?_ ?_;kernel_rfl;rfl;rfl))
  refine bB (co rfl _ _ w.heap.size _ _ (0,0) _ rfl (aM _ HS3.out.res) az rfl (by kernel_rfl)) rfl ?_;refine⟨{ opO 2 ⟨⟨t2,r2⟩,i2⟩ with dots:=x3 },_,s3,bad3,rfl,⟨⟨A3,c3,none,0⟩,rfl,(HI3.out.agr (Agr.setRow _ w.heap.size _ (by omega))).sub (λk _ h=>by omega),aq _,aq _⟩,(setRow_other _ _ _ _ (by have:=HS3.out.nb;omega)).trans HS3.out.rdr,jN HS3.out.grow _ _ (aa _),RdIs.op2 HD1.out HD2.out HD3.out⟩
 by_cases k3:k=3
 ·subst k3;go_wp2_with fail;refine(rid_any b s2 bad2 V2 hs2 HS2.out.rdr).mono ?_;rintro e y3 ⟨⟨⟨t3,r3⟩,i3⟩,v,s3,bad3,rfl,hv,hR3,hg3,hd3⟩;have hs3:=eB hd3 hs2;have HU3:=hid (HS2.out.call hR3 hg3);have HD3:=hid hd3;obtain rfl:v= .agg #[t3,r3,i3]:=hv;clear hR3 hg3 hd3;go_upto_region 16 with(first|(refine dE rfl _ _ _ rfl w1.heap.size 10 _ _ #[(3:Int),t2,r2,i2,(0:Int),(0:Int),(0:Int),.string ⟨#[]⟩,false,.slice none 0 0,t3,r3,i3,(0:Int),(0:Int),(0:Int),.string ⟨#[]⟩,.slice none 0 0] _ rfl HU3.out.obj rfl ?_ ?_ ?_ rfl ?_;kernel_rfl;exact bJ rfl;rfl));have HT3:=HU3.out.put #[(3:Int),t2,r2,i2,(0:Int),(0:Int),(0:Int),.string ⟨#[]⟩,false,.slice none 0 0,t3,r3,i3,(0:Int),(0:Int),(0:Int),.string ⟨#[]⟩,.slice none 0 0];generalize hV:y3.setRow w1.heap.size #[(3:Int),t2,r2,i2,(0:Int),(0:Int),(0:Int),.string ⟨#[]⟩,false,.slice none 0 0,t3,r3,i3,(0:Int),(0:Int),(0:Int),.string ⟨#[]⟩,.slice none 0 0]=V3 at *;clear hV;have HS3:=hid HT3;clear HT3;go_wp2_with fail;refine(rid_any b s3 bad3 V3 hs3 HS3.out.rdr).mono ?_;rintro e y4 ⟨⟨⟨t4,r4⟩,i4⟩,v,s4,bad4,rfl,hv,hR4,hg4,hd4⟩;have hs4:=eB hd4 hs3;have HU4:=hid (HS3.out.call hR4 hg4);have HD4:=hid hd4;obtain rfl:v= .agg #[t4,r4,i4]:=hv;clear hR4 hg4 hd4
  go_upto_region 17 with(first|(refine dE rfl _ _ _ rfl w1.heap.size 13 _ _ #[(3:Int),t2,r2,i2,(0:Int),(0:Int),(0:Int),.string ⟨#[]⟩,false,.slice none 0 0,t3,r3,i3,t4,r4,i4,.string ⟨#[]⟩,.slice none 0 0] _ rfl HU4.out.obj rfl ?_ ?_ ?_ rfl ?_;kernel_rfl;exact bJ rfl;rfl));have HT4:=HU4.out.put #[(3:Int),t2,r2,i2,(0:Int),(0:Int),(0:Int),.string ⟨#[]⟩,false,.slice none 0 0,t3,r3,i3,t4,r4,i4,.string ⟨#[]⟩,.slice none 0 0];generalize hV:y4.setRow w1.heap.size #[(3:Int),t2,r2,i2,(0:Int),(0:Int),(0:Int),.string ⟨#[]⟩,false,.slice none 0 0,t3,r3,i3,t4,r4,i4,.string ⟨#[]⟩,.slice none 0 0]=V4 at *;clear hV;have HS4:=hid HT4;clear HT4;go_wp2_with fail;refine(rbytes_any b s4 bad4 V4 hs4 HS4.out.rdr).mono ?_;rintro e y5 ⟨x5,v,s5,bad5,rfl,⟨rfl,hx5⟩,hR5,hg5,hd5⟩;have hs5:=eB hd5 hs4;have HU5:=hid (HS4.out.call hR5 hg5);have HD5:=hid hd5;clear hR5 hg5 hd5;go_upto_region 20 with(first|(refine dE rfl _ _ _ rfl w1.heap.size 16 _ _ #[(3:Int),t2,r2,i2,(0:Int),(0:Int),(0:Int),.string ⟨#[]⟩,false,.slice none 0 0,t3,r3,i3,t4,r4,i4,x5,.slice none 0 0] _ rfl HU5.out.obj rfl ?_ ?_ ?_ rfl ?_;kernel_rfl;exact bJ rfl;rfl));have HT5:=HU5.out.put #[(3:Int),t2,r2,i2,(0:Int),(0:Int),(0:Int),.string ⟨#[]⟩,false,.slice none 0 0,t3,r3,i3,t4,r4,i4,x5,.slice none 0 0];generalize hV:y5.setRow w1.heap.size #[(3:Int),t2,r2,i2,(0:Int),(0:Int),(0:Int),.string ⟨#[]⟩,false,.slice none 0 0,t3,r3,i3,t4,r4,i4,x5,.slice none 0 0]=V5 at *;clear hV;have HS5:=hid HT5
  clear HT5
  go_wp2_with (first
   |(refine cu rfl _ _ rfl w1.heap.size _ _ _ rfl HS5.out.obj az rfl ?_ ?_;kernel_rfl)
   |(refine da rfl _ _ _ rfl w.heap.size _ _ _ rfl rfl HS5.out.res ?_ ?_ ?_ ?_;kernel_rfl;rfl;rfl))
  refine bB (co rfl _ _ w.heap.size _ _ (0,0) _ rfl (aM _ HS5.out.res) az rfl (by kernel_rfl)) rfl ?_;refine⟨{ opO 3 ⟨⟨t2,r2⟩,i2⟩ with after:=⟨⟨t3,r3⟩,i3⟩,elem:=⟨⟨t4,r4⟩,i4⟩,text:=x5 },_,s5,bad5,rfl,⟨⟨none,0,none,0⟩,rfl,OpIn.none rfl rfl (aq _) hx5,aq _,hx5⟩,(setRow_other _ _ _ _ (by have:=HS5.out.nb;omega)).trans HS5.out.rdr,jN HS5.out.grow _ _ (aa _),RdIs.op3 HD1.out HD2.out HD3.out HD4.out HD5.out⟩
 by_cases k4:k=4
 ·subst k4;go_wp2_with fail;refine(rmany_id b s2 bad2 V2 hs2 HS2.out.rdr).mono ?_;rintro e y3 ⟨x3,v,s3,bad3,rfl,hP3,hR3,hg3,hd3⟩;have hs3:=eB hd3 hs2;have HU3:=hid (HS2.out.call hR3 hg3);have HD3:=hid hd3;obtain⟨⟨A3,c3,rfl⟩,hO3,hl3⟩:=hP3;clear hR3 hg3 hd3;go_upto_region 20 with(first|(refine dE rfl _ _ _ rfl w1.heap.size 17 _ _ #[(4:Int),t2,r2,i2,(0:Int),(0:Int),(0:Int),.string ⟨#[]⟩,false,.slice none 0 0,(0:Int),(0:Int),(0:Int),(0:Int),(0:Int),(0:Int),.string ⟨#[]⟩,.slice A3 x3.length c3] _ rfl HU3.out.obj rfl ?_ ?_ ?_ rfl ?_;kernel_rfl;exact bJ rfl;rfl));have HT3:=HU3.out.put #[(4:Int),t2,r2,i2,(0:Int),(0:Int),(0:Int),.string ⟨#[]⟩,false,.slice none 0 0,(0:Int),(0:Int),(0:Int),(0:Int),(0:Int),(0:Int),.string ⟨#[]⟩,.slice A3 x3.length c3];have hltO:=lt_of_block HS2.out.obj;have hI3:OpIn y3 (λk=>V2.heap.size<=k) { opO 4 ⟨⟨t2,r2⟩,i2⟩ with elems:=x3 } ⟨none,0,A3,c3⟩:=⟨RowG.zero,ids_own hO3,aa _,(kB hO3).1,aq _,(kB hO3).2,aq _,aq _⟩;have HI3:=hid (hI3.agr (Agr.setRow y3 w1.heap.size #[(4:Int),t2,r2,i2,(0:Int),(0:Int),(0:Int),.string ⟨#[]⟩,false,.slice none 0 0,(0:Int),(0:Int),(0:Int),(0:Int),(0:Int),(0:Int),.string ⟨#[]⟩,.slice A3 x3.length c3] (by omega)));have hszV:=HS2.out.grow.size;clear hI3 hO3
  generalize hV:y3.setRow w1.heap.size #[(4:Int),t2,r2,i2,(0:Int),(0:Int),(0:Int),.string ⟨#[]⟩,false,.slice none 0 0,(0:Int),(0:Int),(0:Int),(0:Int),(0:Int),(0:Int),.string ⟨#[]⟩,.slice A3 x3.length c3]=V3 at *;clear hV;have HS3:=hid HT3;clear HT3
  go_wp2_with (first
   |(refine cu rfl _ _ rfl w1.heap.size _ _ _ rfl HS3.out.obj az rfl ?_ ?_;kernel_rfl)
   |(refine da rfl _ _ _ rfl w.heap.size _ _ _ rfl rfl HS3.out.res ?_ ?_ ?_ ?_;kernel_rfl;rfl;rfl))
  refine bB (co rfl _ _ w.heap.size _ _ (0,0) _ rfl (aM _ HS3.out.res) az rfl (by kernel_rfl)) rfl ?_;refine⟨{ opO 4 ⟨⟨t2,r2⟩,i2⟩ with elems:=x3 },_,s3,bad3,rfl,⟨⟨none,0,A3,c3⟩,rfl,(HI3.out.agr (Agr.setRow _ w.heap.size _ (by omega))).sub (λk _ h=>by omega),aq _,aq _⟩,(setRow_other _ _ _ _ (by have:=HS3.out.nb;omega)).trans HS3.out.rdr,jN HS3.out.grow _ _ (aa _),RdIs.op4 HD1.out HD2.out HD3.out⟩
 ·have q0:(k == 0)=false:=by rw[aV];exact k0
  have q1:(k == 1)=false:=by rw[aV];exact k1
  have q2:(k == 2)=false:=by rw[aV];exact k2
  have q3:(k == 3)=false:=by rw[aV];exact k3
  have q4:(k == 4)=false:=by rw[aV];exact k4
  have HK:=hid (And.intro k0 (And.intro k1 (And.intro k2 (And.intro k3 k4))));have b1:=HS2.out.rdr.c1;have f1:=HS2.out.rdr.f 1;clear k0 k1 k2 k3 k4;go_upto_region 20 with(fail);have HT3:=HS2.out.setBad true;generalize hV:V2.setCell ⟨b,1,none⟩ (.bool true)=V3 at *;clear hV;have HS3:=hid HT3
  go_wp2_with (first
   |(refine cu rfl _ _ rfl w1.heap.size _ _ _ rfl HS3.out.obj az rfl ?_ ?_;kernel_rfl)
   |(refine da rfl _ _ _ rfl w.heap.size _ _ _ rfl rfl HS3.out.res ?_ ?_ ?_ ?_;kernel_rfl;rfl;rfl))
  refine bB (co rfl _ _ w.heap.size _ _ (0,0) _ rfl (aM _ HS3.out.res) az rfl (by kernel_rfl)) rfl ?_;refine⟨opO k ⟨⟨t2,r2⟩,i2⟩,_,s2,true,rfl,⟨⟨none,0,none,0⟩,rfl,OpIn.none rfl rfl (aq _) (aq _),aq _,aq _⟩,(setRow_other _ _ _ _ (by have:=HS3.out.nb;omega)).trans HS3.out.rdr,jN HS3.out.grow _ _ (aa _),RdIs.opx HK.out.1 HK.out.2.1 HK.out.2.2.1 HK.out.2.2.2.1 HK.out.2.2.2.2 HD1.out HD2.out⟩
end
section
open Go.RowKit Go.Lib Go.Sort
def opC_ (p:Gop×OpX):List Value:=(opA p.1 p.2).toList
theorem fw {c:Array Value} (h:c.toList.all (·.oneCell')=true):∀u∈c.toList,u.oneCell'=true:=dJ.1 h
theorem infoOp:(Tryz.prog.info? 125).map (λi=>(i.zero,i.size,i.bytes))=some (some (.agg #[(0:Int),(0:Int),(0:Int),(0:Int),(0:Int),(0:Int),(0:Int),.string ⟨#[]⟩,false,.slice none 0 0,(0:Int),(0:Int),(0:Int),(0:Int),(0:Int),(0:Int),.string ⟨#[]⟩,.slice none 0 0]),18,192):=by kernel_rfl
def OpGood (w:World) (S:Nat->Prop) (p:Gop×OpX):Prop:=OpIn w S p.1 p.2∧p.1.name.size<=1000000∧p.1.text.size<=1000000
theorem OpGood.agr {w w':World} {S:Nat->Prop} {p:Gop×OpX} (h:OpGood w S p) (ha:Agr S w w'):OpGood w' S p:=⟨h.1.agr ha,h.2⟩
theorem OpGood.sub {w:World} {S T:Nat->Prop} {p:Gop×OpX} (h:OpGood w S p) (hs:∀b,b<w.heap.size->S b->T b):OpGood w T p:=⟨h.1.sub hs,h.2⟩
def POps (B:Nat) (xs:List Gop) (w':World) (v:Value):Prop:=
 ∃(L:List (Gop×OpX)) (S:Nat->Prop),L.map Prod.fst=xs∧(∃A c,v= .slice A xs.length c)∧w'.ownsRow B 125 18 v xs.length (L.flatMap opC_)∧xs.length<=1000001∧(∀p∈L,OpGood w' S p)∧∀k,S k->B<=k∧k<w'.heap.size∧v.ownBlock≠some k
structure OpsAt (B:Nat) (v:Value) (L:List (Gop×OpX)) (S:Nat->Prop) (wr:World):Prop where
 good:∀p∈L,OpGood wr S p
 old:∀k,S k->B<=k∧k<wr.heap.size∧v.ownBlock≠some k
theorem OpsAt.next {B:Nat} {v v':Value} {L:List (Gop×OpX)} {S:Nat->Prop} {wr w2 w3:World} {b:Nat} {c:Obj} {o:Gop} {x:OpX} (h:OpsAt B v L S wr) (hB:B<=wr.heap.size) (hb:b<B) (hv:∀g,v.ownBlock=some g->g<wr.heap.size)
  (hg:wr.grownBy w2 (some b)) (ho:OpIn w2 (λk=>wr.heap.size<=k) o x) (hn:o.name.size<=1000000) (ht:o.text.size<=1000000) (hgr:(w2.alloc c).grownBy w3 v.ownBlock) (hv':v'.ownBlock=v.ownBlock∨v'.ownBlock=some (w2.alloc c).heap.size):
  ∃S',OpsAt B v' (L++[(o,x)]) S' w3:=by
 have hs:=hg.size;have hs3:w2.heap.size+1<=w3.heap.size:=by have:=hgr.size;simpa using this
 have hA1:Agr (λk=>S k∨(wr.heap.size<=k∧k<w2.heap.size)) w2 w3:=by
  have h1:Agr (λk=>S k∨(wr.heap.size<=k∧k<w2.heap.size)) w2 (w2.alloc c):=Agr.below ((ag _ _).alloc (aa _) _);refine h1.trans (Agr.grown hgr λg e hS=> ?_);have:=hv g e;rcases hS with hS|hS
  ·exact(h.old g hS).2.2 e
  ·omega
 have hA0:Agr S wr w2:=Agr.grown hg λg e hS=>by cases e;have:=(h.old b hS).1;omega
 refine⟨λk=>S k∨(wr.heap.size<=k∧k<w2.heap.size),λp hp=> ?_,λk hk=> ?_⟩
 ·rcases au.1 hp with hp|hp
  ·exact(((h.good p hp).agr hA0).sub λb _ hS=> .inl hS).agr hA1
  ·rw[aO] at hp;subst hp;exact⟨(ho.sub λb hb hS=> .inr ⟨hS,hb⟩).agr hA1,hn,ht⟩
 ·rcases hk with hk|hk
  ·have:=h.old k hk;refine⟨this.1,by omega,λe=> ?_⟩;rcases hv' with hv'|hv'
   ·exact this.2.2 (hv'.symm.trans e)
   ·rw[hv'] at e;cases e;simp at this;omega
  ·refine⟨by omega,by omega,λe=> ?_⟩;rcases hv' with hv'|hv'
   ·have:=hv k (hv'.symm.trans e);omega
   ·rw[hv'] at e;cases e;simp at hk;omega
theorem rmany_op (b:Nat) (s:ByteArray) (bad:Bool) (w:World) (hs:s.size<=1000000) (hR:Rdr w b s bad):
  Calls Tryz.prog 84 #[.pointer (some ⟨b,0,none⟩),.func (Fn.func 85) #[.pointer (some ⟨b,0,none⟩)] #[]] w (RdQ (fx opR) (POps w.heap.size) b s bad w):=by
 obtain⟨i0,hi,hz0,hz1,hz2⟩:=bD infoOp;have hlt:=hR.lt;have HR0:=hid (hR.kept (bi w (.cells #[] 125) none) (by simp));have HA0:=hid (am w (.cells #[] 125));have HG0:=hid (bi w (.cells #[] 125) (some b));clear hR;go_enter Tryz.func84,Tryz.ntmps84;go_wp2_with fail;refine(fX b s bad _ hs HR0.out).mono ?_;rintro e w1 ⟨n0,v,s1,bad1,rfl,⟨rfl,hn0⟩,hR1,hg1,hd1⟩;obtain⟨n,rfl⟩:=fm hn0.1;have hn:n<9223372036854775808:=by have:=hn0.2;omega
 have hs1:=eB hd1 hs;have HD1:=hid hd1;have HG1:=hid (dC HG0.out hg1);have HA1:=hid ((hg1.block w.heap.size (by simp) (by intro e;cases e;omega)).trans HA0.out);have HR1:=hid hR1;clear hd1 hg1 hR1 hn0;go_wp2;go_loopw [5,6] (λv m wr=>∃(k:Nat) (L:List (Gop×OpX)) (s':ByteArray) (bad':Bool) (S:Nat->Prop),m= .int .i64 k∧k<=n∧wr.ownsRow w.heap.size 125 18 v L.length (L.flatMap opC_)∧Hid (Rdr wr b s' bad')∧Hid (w.grownBy wr (some b))∧Hid (ManyAt opR n s1.data.toList bad1 k (L.map Prod.fst) s'.data.toList bad')∧Hid (OpsAt w.heap.size v L S wr)) (λ_ m _=>(RowKit.intOf m).toNat)
 case atStart=>exact⟨n,[],s1,bad1,λ_=>False,rfl,aa _,⟨rfl,.inr ⟨w.heap.size,0,#[],rfl,aa _,HA1.out,aa _,by unfold maxLen;omega,rfl,rfl⟩⟩,HR1,HG1,hid ManyAt.start,hid ⟨λp hp=>(by cases hp),λk hk=>hk.elim⟩⟩
 case round=>
  obtain⟨k,L,s',bad',S,rfl,hk,hO,HR,HG,HM,HP⟩:=hrel;have hle:=HM.out.le;have hfew:=HM.out.few;have hl1:s1.data.toList.length=s1.size:=by simp
  have hl2:s'.data.toList.length=s'.size:=by simp
  have hl3:(L.map Prod.fst).length=L.length:=by simp
  have hxl:L.length<=1000001:=by split at hfew<;>omega
  have hfin:∀h:bad'=true∨k=0,RdQ (fx opR) (POps w.heap.size) b s bad w (.returned u5) wr:=λh=>
   ⟨L.map Prod.fst,u5,s',bad',rfl,⟨L,S,rfl,by rw[hl3];exact bZ hO,by rw[hl3];exact hO,by rw[hl3];exact hxl,HP.out.good,HP.out.old⟩,HR.out,HG.out,RdIs.many HD1.out (by rw[dL];exact HM.out.done h)⟩
  have HF:=hid hfin;have c1:=HR.out.c1;have hs':s'.size<=1000000:=by omega
  clear hfin hle hfew hl1 hl2 hl3;cases bad' with
  | true=>
   go_wp2
   all_goals
    go_ret;exact HF.out (.inl (by first|rfl|trivial))
  | false=>
   by_cases h0:0<k
   ·obtain⟨m,rfl⟩:∃m,k=m+1:=⟨k-1,by omega⟩;have HC:=hid (rop_any b s' false wr hs' HR.out);have HB:=hid (λg e=>(hO.lt g e).1);have HB3:=hid (λg e=>(hO.lt g e).2);have HB2:=hid (show u5.ownBlock≠some b from λe=>by have:=(hO.lt b e).1;omega);have hsz:=HG.out.size;have HO1:=hid hO;clear hO;go_wp2_with fail;refine HC.out.mono ?_;rintro e w2 ⟨o,v2,s2,bad2,rfl,⟨x,hv,hin,hnm,htx⟩,hR2,hg2,hd2⟩;have HR2:=hid hR2;have HG2:=hid hg2;have HD2:=hid hd2;have hsz2:=hg2.size;have HO2:=hid (HO1.out.kept hg2 (.inr HB2.out));have HI2:=hid hin;have HN2:=hid (And.intro hnm htx);clear hR2 hg2 hd2 hin hnm htx;have HOG:=hid (λv' w3 (c:Obj) (hgr:(w2.alloc c).grownBy w3 u5.ownBlock) h=>OpsAt.next HP.out hsz hlt HB3.out HG2.out HI2.out HN2.out.1 HN2.out.2 hgr (v':=v') h);have HM2:=hid (HM.out.next opT HD2.out);clear HI2 HN2;obtain⟨kind,⟨⟨nt,nr⟩,ni⟩,⟨⟨pt,pr⟩,pi⟩,name,dir,dots,⟨⟨at_,ar⟩,ai⟩,⟨⟨et,er⟩,ei⟩,text,elems⟩:=o;obtain⟨xd,xdc,xe,xec⟩:=x;obtain rfl:v2= .agg #[kind,nt,nr,ni,pt,pr,pi,name,dir,.slice xd dots.length xdc,at_,ar,ai,et,er,ei,text,.slice xe elems.length xec]:=hv
    go_wp2_with (at_builtin;refine wpList_append_own_at _ rfl _ _ 43 rfl w.heap.size 125 i0 (.agg #[(0:Int),(0:Int),(0:Int),(0:Int),(0:Int),(0:Int),(0:Int),.string ⟨#[]⟩,false,.slice none 0 0,(0:Int),(0:Int),(0:Int),(0:Int),(0:Int),(0:Int),.string ⟨#[]⟩,.slice none 0 0]) 18 192 Tryz.underlying43 hi hz0 hz1 hz2 rfl (by decide) _ _ _ rfl (by exact HO2.out.alloc _) ⟨w2.heap.size,0,none⟩ 1 1 [kind,nt,nr,ni,pt,pr,pi,name,dir,.slice xd dots.length xdc,at_,ar,ai,et,er,ei,text,.slice xe elems.length xec] rfl rfl (by exact dH _ _ _) (by exact fw (c:=#[kind,nt,nr,ni,pt,pr,pi,name,dir,.slice xd dots.length xdc,at_,ar,ai,et,er,ei,text,.slice xe elems.length xec]) rfl) (by unfold maxLen;omega) (by omega) (by simp;omega) ?_;intro v' w3 hown' hgrow _ hat;have HO3:=hid hown';have HG3:=hid hgrow;have HA3:=hid hat;clear hown' hgrow hat);go_roundw
    case rel=>
     obtain⟨S',hS'⟩:=HOG.out _ _ _ HG3.out HA3.out;exact⟨m,L++[(⟨kind,⟨⟨nt,nr⟩,ni⟩,⟨⟨pt,pr⟩,pi⟩,name,dir,dots,⟨⟨at_,ar⟩,ai⟩,⟨⟨et,er⟩,ei⟩,text,elems⟩,⟨xd,xdc,xe,xec⟩)],s2,bad2,S',by go_num,by omega,by rw[al,aI,bP];exact HO3.out,hid ((HR2.out.kept (bi w2 _ none) (by simp)).kept HG3.out HB2.out),hid (gby_new (jg (dC HG.out HG2.out) _) HG3.out HB.out),hid (by rw[bq];exact HM2.out),hid hS'⟩
    case measure=>simp[RowKit.intOf]
   ·obtain rfl:k=0:=by omega
    go_wp2;go_ret;exact HF.out (.inr (by first|rfl|trivial))
end
end
end Go.Proofs.YtkhmicndehlneaaGreatDoor
