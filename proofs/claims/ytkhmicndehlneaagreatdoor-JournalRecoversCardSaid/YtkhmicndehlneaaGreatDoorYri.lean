/- Part 9 of the walks and plain laws that this claim uses, joined. Conditions: as each theorem states. -/
import Derived.ChangeSame
import Derived.Deep.Slices
import Derived.DeepKeys4
import Derived.Laws.CopyOwn
import Derived.Maps.OwnSet
import Derived.OrdersHeld
import Derived.SizedLaws
import Derived.Tactics
import Derived.Test.YtkhmicndehlneaaGreatDoorYrd
import Derived.Test.YtkhmicndehlneaaGreatDoorYrh
namespace Go.Proofs.YtkhmicndehlneaaGreatDoor
set_option maxRecDepth 100000
set_option maxHeartbeats 16000000
set_option linter.unusedVariables false
section
open Go.RowKit Go.Lib Go.Sort
attribute [local go_sem ↓] Go.wp_at_zero Go.wp_at_succ
structure DcSt (w0:World) (b R O:Nat) (T:TypeId) (zc oc:Array Value) (s:ByteArray) (bad:Bool) (w:World):Prop where
 rdr:Rdr w b s bad
 res:w.heap[R]? =some (.cells zc T (0,0))
 obj:w.heap[O]? =some (.cells oc T (0,0))
 bel:Below w0.heap.size w0 w
 nb:w0.heap.size<=b
 nR:w0.heap.size<=R
 nO:w0.heap.size<=O
 Rb:R<b
 bO:b<O
section
variable {w0 w w' : World} {b R O : Nat} {T : TypeId} {zc oc : Array Value} {s s' : ByteArray} {bad bad' : Bool}
theorem DcSt.call (h:DcSt w0 b R O T zc oc s bad w) (hr:Rdr w' b s' bad') (hg:w.grownBy w' (some b)):DcSt w0 b R O T zc oc s' bad' w':=
 ⟨hr,(hg.block R (lt_of_block h.res) (by intro e;cases e;have:=h.Rb;omega)).trans h.res,(hg.block O (lt_of_block h.obj) (by intro e;cases e;have:=h.bO;omega)).trans h.obj,h.bel.grown hg h.bel.size (λk e=>by cases e;exact h.nb),h.nb,h.nR,h.nO,h.Rb,h.bO⟩
theorem DcSt.put (h:DcSt w0 b R O T zc oc s bad w) (c:Array Value):DcSt w0 b R O T zc c s bad (w.setRow O c):=by
 have a:=h.Rb;have d:=h.bO;exact⟨(setRow_other w O b c (by omega)).trans h.rdr,(setRow_other w O R c (by omega)).trans h.res,aF _ h.obj,Below.setRow' h.bel h.nO _,h.nb,h.nR,h.nO,h.Rb,h.bO⟩
theorem DcSt.cell (h:DcSt w0 b R O T zc oc s bad w) (i:Nat):w.cell? ⟨O,i,none⟩=oc[i]? :=aG _ _ _ _ _ _ h.obj
end
theorem vec_own {w:World} {B:Nat} {A:Option Addr} {c:Nat} {a:List Int} {E:TypeId} (h:w.ownsRow B E 1 (.slice A a.length c) a.length (a.flatMap ip)):VecS w (λk=>B<=k) A a:=by
 refine jY h λk j b d=> ?_;rw[gD (s:=1) (λ_=>rfl) a k j 0 b d];rcases j with _|j
 ·rfl
 ·omega
theorem ops_own {w:World} {B:Nat} {A:Option Addr} {c:Nat} {L:List (Gop×OpX)} {S:Nat->Prop} {E:TypeId} (h:w.ownsRow B E 18 (.slice A (L.map Prod.fst).length c) (L.map Prod.fst).length (L.flatMap opC_)) (f:∀p∈L,OpGood w S p) (g:∀k,S k->B<=k):OpsS w (λk=>B<=k) A (L.map Prod.fst):=by
 have n:(L.map Prod.fst).length=L.length:=by simp
 have a:∀k,(L.map Prod.fst).getD k (opO 0 .zero)=(L.getD k (opO 0 .zero,⟨none,0,none,0⟩)).1:=λk=>by
  rw[ae,ae,dW];cases L[k]? <;>rfl
 refine⟨λk=>(L.getD k (opO 0 .zero,⟨none,0,none,0⟩)).2,jY h λk j i e=> ?_,λk i=> ?_⟩
 ·rw[gD (s:=18) (λ_=>rfl) L k j (opO 0 .zero,⟨none,0,none,0⟩) (by omega) e,a];unfold opC_;rw[ee,Array.getD_eq_getD_getElem?];have:j<(opA (L.getD k (opO 0 .zero,⟨none,0,none,0⟩)).1 (L.getD k (opO 0 .zero,⟨none,0,none,0⟩)).2).size:=e;rw[dG this];rfl
 ·rw[a];have d:k<L.length:=by omega
  have l:L.getD k (opO 0 .zero,⟨none,0,none,0⟩)∈L:=by
   rw[ae,aw d];exact ch d
  exact(f _ l).1.sub λb _ m=>g b m
def DecQ (r:Option Grp) (w:World) (e:Ending) (w':World):Prop:=Below w.heap.size w w'∧match r with
 |none=>e= .returned (.tuple #[.agg #[(0:Int),(0:Int),(0:Int),.slice none 0 0,(0:Int),(0:Int),.slice none 0 0],(80:Int)])
 |some g=>∃dA dc oA oc,e= .returned (.tuple #[.agg (grA g dA dc oA oc),(0:Int)])∧GrIn w' (λk=>w.heap.size<=k) g dA dc oA oc∧∀o∈g.ops,o.text.size<=1000000∧o.name.size<=1000000
theorem DecQ.no {r:Option Grp} (h:r=none) {w w':World} (a:Below w.heap.size w w'):DecQ r w (.returned (.tuple #[.agg #[(0:Int),(0:Int),(0:Int),.slice none 0 0,(0:Int),(0:Int),.slice none 0 0],(80:Int)])) w':=by
 subst h;exact⟨a,rfl⟩
theorem decode_any (s:ByteArray) (w:World) (hs:s.size<=1000000) (az:Tabs w):
  Calls Tryz.prog 44 #[s] w λe w'=>DecQ (decZ s.data.toList) w e w':=by
 obtain⟨r,hr⟩:∃r,r=decZ s.data.toList:=⟨_,rfl⟩;rw[<-hr];have R:=hid hr;have bq:=hid az;clear hr az;have S:=hid (bu (n:=w.heap.size+1) (w.alloc (.cells #[(0:Int),(0:Int),(0:Int),.slice none 0 0,(0:Int),(0:Int),.slice none 0 0] 45)) (.cells #[s,false] 133) (by simp));have aA:=hid ((ax (w.alloc (.cells #[(0:Int),(0:Int),(0:Int),.slice none 0 0,(0:Int),(0:Int),.slice none 0 0] 45)) (.cells #[s,false] 133) w.heap.size (by simp)).trans (an w _));have U:=hid (show Below w.heap.size w ((w.alloc (.cells #[(0:Int),(0:Int),(0:Int),.slice none 0 0,(0:Int),(0:Int),.slice none 0 0] 45)).alloc (.cells #[s,false] 133)) from((ag _ _).alloc (aa _) _).alloc (by simp) _);go_enter Tryz.func44,Tryz.ntmps44;go_wp2_with fail;generalize y:(w.alloc (.cells #[(0:Int),(0:Int),(0:Int),.slice none 0 0,(0:Int),(0:Int),.slice none 0 0] 45)).alloc (.cells #[s,false] 133)=V0 at *;clear y;refine(kH (w.heap.size+1) s false V0 hs S.o).mono ?_;rintro e a ⟨⟨c,d⟩,v,s1,V,rfl,hv,aB,O,X⟩;obtain rfl:v= .agg #[c,d]:=hv;have aC:=cL X hs;have aD:=hid X;have bx:=lt_of_block S.o;have bz:w.heap.size+1<a.heap.size:=by have:=O.size;omega
 have aE:=hid ((O.block w.heap.size (by omega) (by intro e;injection e with e;omega)).trans aA.o);have aG:=hid (U.o.grown O U.o.size (λk e=>by cases e;omega));have aH:=hid aB;clear X O aB;go_upto_region 3 with(first|(refine bR rfl _ _ _ rfl _ _ _ _ rfl ?_ rfl ?_ ?_ ?_ ?_;(focus(simp;done));kernel_rfl;rfl;rfl))
 have aI:DcSt w (w.heap.size+1) w.heap.size a.heap.size 45 #[(0:Int),(0:Int),(0:Int),.slice none 0 0,(0:Int),(0:Int),.slice none 0 0] #[c,d,(0:Int),.slice none 0 0,(0:Int),(0:Int),.slice none 0 0] s1 V (a.alloc (.cells #[c,d,(0:Int),.slice none 0 0,(0:Int),(0:Int),.slice none 0 0] 45)):=
  ⟨aH.o.kept (aQ a _ none) (by simp),(ax _ _ _ (by omega)).trans aE.o,an _ _,aG.o.alloc (by omega) _,by omega,aa _,by omega,by omega,by omega⟩
 generalize y:a.alloc (.cells #[c,d,(0:Int),.slice none 0 0,(0:Int),(0:Int),.slice none 0 0] 45)=V1 at *;clear y aH aE aG U S aA;have aK:=hid aI;clear aI;go_wp2_with fail;refine(ge (w.heap.size+1) s1 V V1 aC aK.o.rdr).mono ?_;rintro e y2 ⟨n,v,s2,bm,rfl,⟨rfl,hn⟩,aL,aM,Y⟩;have aN:=cL Y aC;have Z:=hid (aK.o.call aL aM);have aO:=hid Y;have HN:=hid hn;clear hn;clear aL aM Y;go_upto_region 4 with(first|(refine bV rfl _ _ _ rfl a.heap.size 2 _ _ #[c,d,n,.slice none 0 0,(0:Int),(0:Int),.slice none 0 0] _ rfl Z.o.obj rfl ?_ ?_ ?_ rfl ?_;kernel_rfl;exact aR rfl;rfl));have aP:=Z.o.put #[c,d,n,.slice none 0 0,(0:Int),(0:Int),.slice none 0 0];generalize y:y2.setRow a.heap.size #[c,d,n,.slice none 0 0,(0:Int),(0:Int),.slice none 0 0]=V2 at *;clear y;have ab:=hid aP;clear aP Z;go_wp2_with fail;refine(rmany_int (w.heap.size+1) s2 bm V2 aN ab.o.rdr).mono ?_;rintro e y3 ⟨j,v,s3,bn,rfl,hP,aS,aT,ac⟩;obtain⟨⟨l,m,rfl⟩,G,hl,hx⟩:=hP;have aV:=cL ac aN;have ad:=hid (ab.o.call aS aT);have aW:=hid ac;have bB:=lt_of_block ab.o.obj;have aX:=fw G;have y:=vec_own G;have aY:=hid hx;have aZ:=hid (And.intro aX hl);clear hx G aX hl
 have ae:=hid ((y.sub (T:=λk=>a.heap.size<k) (λk _ h=>by have h:V2.heap.size<=k:=h;show a.heap.size<k;omega)).agr (Agr.setRow y3 a.heap.size #[c,d,n,.slice l j.length m,(0:Int),(0:Int),.slice none 0 0] (by show ¬a.heap.size<a.heap.size;omega)));clear aS aT ac;go_upto_region 5 with(first|(refine bV rfl _ _ _ rfl a.heap.size 3 _ _ #[c,d,n,.slice l j.length m,(0:Int),(0:Int),.slice none 0 0] _ rfl ad.o.obj rfl ?_ ?_ ?_ rfl ?_;kernel_rfl;exact aR rfl;rfl));have a7:=ad.o.put #[c,d,n,.slice l j.length m,(0:Int),(0:Int),.slice none 0 0];generalize y:y3.setRow a.heap.size #[c,d,n,.slice l j.length m,(0:Int),(0:Int),.slice none 0 0]=V3 at *;clear y;have a8:=hid a7;clear a7 ad;clear y;go_wp2_with fail;refine(kH (w.heap.size+1) s3 bn V3 aV a8.o.rdr).mono ?_;rintro e y4 ⟨⟨q,t⟩,v,s4,bo,rfl,hv,a9,af,ah⟩;obtain rfl:v= .agg #[q,t]:=hv;have ba:=cL ah aV;have ai:=hid (a8.o.call a9 af);have bb:=hid ah;have aj:=hid ((ae.o.agr (Agr.grown af (λg e hS=>by cases e;have hS:a.heap.size<w.heap.size+1:=hS;omega))).agr (Agr.setRow y4 a.heap.size #[c,d,n,.slice l j.length m,q,t,.slice none 0 0] (by show ¬a.heap.size<a.heap.size;omega)));clear a9 af ah;clear ae
 go_upto_region 6 with(first|(refine bV rfl _ _ _ rfl a.heap.size 4 _ _ #[c,d,n,.slice l j.length m,q,t,.slice none 0 0] _ rfl ai.o.obj rfl ?_ ?_ ?_ rfl ?_;kernel_rfl;exact aR rfl;rfl));have bc:=ai.o.put #[c,d,n,.slice l j.length m,q,t,.slice none 0 0];generalize y:y4.setRow a.heap.size #[c,d,n,.slice l j.length m,q,t,.slice none 0 0]=V4 at *;clear y;have ak:=hid bc;clear bc ai;go_wp2_with fail;refine(rmany_op (w.heap.size+1) s4 bo V4 ba ak.o.rdr).mono ?_;rintro e y5 ⟨i,v,s5,bp,rfl,hP,bd,al,am⟩;obtain⟨OL,OS,br,⟨z,A,rfl⟩,G,hl,C,ao⟩:=hP;have bC:=cL am ba;have ap:=hid (ak.o.call bd al);have be:=hid am;have bA:=lt_of_block ak.o.obj;have bf:=fw G;subst br;have bg:=ops_own G C (λk h=>(ao k h).1);have bh:=hid (And.intro bf hl);have bi:=hid (show ∀o∈OL.map Prod.fst,o.text.size<=1000000∧o.name.size<=1000000 from λo ho=>by obtain⟨p,hp,rfl⟩:=bN.1 ho;exact⟨(C p hp).2.2,(C p hp).2.1⟩);clear G C ao bf hl;generalize OL.map Prod.fst=i at *;have aq:=hid ((aj.o.agr (Agr.grown al (λg e hS=>by cases e;have hS:a.heap.size<w.heap.size+1:=hS;omega))).agr (Agr.setRow y5 a.heap.size #[c,d,n,.slice l j.length m,q,t,.slice z i.length A] (by show ¬a.heap.size<a.heap.size;omega)))
 have ar:=hid ((bg.sub (T:=λk=>a.heap.size<k) (λk _ h=>by have h:V4.heap.size<=k:=h;show a.heap.size<k;omega)).agr (Agr.setRow y5 a.heap.size #[c,d,n,.slice l j.length m,q,t,.slice z i.length A] (by show ¬a.heap.size<a.heap.size;omega)));clear bd al am;clear aj;go_upto_region 7 with(first|(refine bV rfl _ _ _ rfl a.heap.size 6 _ _ #[c,d,n,.slice l j.length m,q,t,.slice z i.length A] _ rfl ap.o.obj rfl ?_ ?_ ?_ rfl ?_;kernel_rfl;exact aR rfl;rfl));have bj:=ap.o.put #[c,d,n,.slice l j.length m,q,t,.slice z i.length A];generalize y:y5.setRow a.heap.size #[c,d,n,.slice l j.length m,q,t,.slice z i.length A]=u at *;clear y;have b:=hid bj;clear bj ap;clear bg;have bk:=hid (RdIs.grp aD.o aO.o aW.o bb.o be.o);have P:=hid (decZ_of bk.o);have bs:0<=n:=HN.o.1;have bt:n<9223372036854775808:=HN.o.2;have hI:GrIn u (λk=>a.heap.size<k) ⟨⟨c,d⟩,n,j,⟨q,t⟩,i⟩ l m z A:=⟨aq.o,ar.o,aZ.o.1.1,bh.o.1.1,aZ.o.1.2,bh.o.1.2,(show i63 n from⟨by omega,by omega⟩),λx hx=>(by have h1:0<=x:=(aY.o x hx).1;have h2:x<9223372036854775808:=(aY.o x hx).2;exact⟨by omega,by omega⟩)⟩;have HI:=hid hI;clear hI bs bt aD aO aW bb be aq ar bk;have b1:=b.o.rdr.c1;have b0:=b.o.rdr.c0
 have bl:∀(W:World),Below w.heap.size w W->r=none->DecQ r w (.returned (.tuple #[.agg #[(0:Int),(0:Int),(0:Int),.slice none 0 0,(0:Int),(0:Int),.slice none 0 0],(80:Int)])) W:=λW h1 h2=>DecQ.no h2 h1;have au:=hid bl;clear bl;cases bp with
 |true=>
  obtain rfl:r=none:=by rw[R.o,P.o];simp
  go_wp2_with (first|(refine bW rfl _ _ _ rfl w.heap.size _ _ #[(0:Int),(0:Int),(0:Int),.slice none 0 0,(0:Int),(0:Int),.slice none 0 0] rfl rfl b.o.res ?_ ?_ ?_ ?_;kernel_rfl;rfl;rfl));have f:=hid (aF #[(0:Int),(0:Int),(0:Int),.slice none 0 0,(0:Int),(0:Int),.slice none 0 0] b.o.res);have H:=cw0 f.o;have I:=cw1 f.o;have J:=cw2 f.o;have K:=cw3 f.o;have L:=cw4 f.o;have M:=cw5 f.o;have N:=cw6 f.o;refine aU (v:= .tuple #[.agg #[(0:Int),(0:Int),(0:Int),.slice none 0 0,(0:Int),(0:Int),.slice none 0 0],(80:Int)]) (by simp[results,Tryz.results44,go_sem,H,I,J,K,L,M,N]) rfl ?_;exact au.o _ (Below.setRow' b.o.bel (aa _) _) (by first|rfl|trivial)
 | false=>
  by_cases Q:s5.data.toList=[]
  ·obtain rfl:s5=⟨#[]⟩:=eb.1 Q;have D:=check_any ⟨⟨c,d⟩,n,j,⟨q,t⟩,i⟩ l m z A (λk=>a.heap.size<k) u HI.o (λo ho=>by have:=(bi.o o ho).1;omega) (bq.o.below b.o.bel);have av:=hid (show r=if chkB ⟨⟨c,d⟩,n,j,⟨q,t⟩,i⟩=true then some ⟨⟨c,d⟩,n,j,⟨q,t⟩,i⟩ else none by rw[R.o,P.o];simp);clear P;have a0:u.cell? ⟨a.heap.size,0,none⟩=some (.int .i64 c):=by rw[b.o.cell];rfl
   have a1:u.cell? ⟨a.heap.size,1,none⟩=some (.int .i64 d):=by rw[b.o.cell];rfl
   have a2:u.cell? ⟨a.heap.size,2,none⟩=some (.int .i64 n):=by rw[b.o.cell];rfl
   have a3:u.cell? ⟨a.heap.size,3,none⟩=some (.slice l j.length m):=by rw[b.o.cell];rfl
   have a4:u.cell? ⟨a.heap.size,4,none⟩=some (.int .i64 q):=by rw[b.o.cell];rfl
   have a5:u.cell? ⟨a.heap.size,5,none⟩=some (.int .i64 t):=by rw[b.o.cell];rfl
   have a6:u.cell? ⟨a.heap.size,6,none⟩=some (.slice z i.length A):=by rw[b.o.cell];rfl
   cases E:chkB ⟨⟨c,d⟩,n,j,⟨q,t⟩,i⟩ with
   | false=>
    rw[E] at D;obtain rfl:r=none:=by rw[av.o,E];rfl
    have aw:Hid (Calls Tryz.prog 48 #[.agg #[c,d,n,.slice l j.length m,q,t,.slice z i.length A]] u λe w'=>e= .returned (.int .i64 80)∧Below u.heap.size u w'):=D;clear D E
    go_upto_region 8 with(first
     |(refine cd rfl _ _ rfl a.heap.size _ _ _ rfl b.o.obj aJ rfl ?_ ?_;kernel_rfl)
     |(go_at_call 48;refine aw.o.mono ?_;rintro e w6 ⟨rfl,B⟩))
    have F:=hid ((B.block w.heap.size (lt_of_block b.o.res)).trans b.o.res);have ay:=hid (b.o.bel.trans (B.mono b.o.bel.size));clear B;go_wp2_with (first|(refine bW rfl _ _ _ rfl w.heap.size _ _ #[(0:Int),(0:Int),(0:Int),.slice none 0 0,(0:Int),(0:Int),.slice none 0 0] rfl rfl F.o ?_ ?_ ?_ ?_;kernel_rfl;rfl;rfl));have f:=hid (aF #[(0:Int),(0:Int),(0:Int),.slice none 0 0,(0:Int),(0:Int),.slice none 0 0] F.o);have H:=cw0 f.o;have I:=cw1 f.o;have J:=cw2 f.o;have K:=cw3 f.o;have L:=cw4 f.o;have M:=cw5 f.o;have N:=cw6 f.o;refine aU (v:= .tuple #[.agg #[(0:Int),(0:Int),(0:Int),.slice none 0 0,(0:Int),(0:Int),.slice none 0 0],(80:Int)]) (by simp[results,Tryz.results44,go_sem,H,I,J,K,L,M,N]) rfl ?_;exact au.o _ (Below.setRow' ay.o (aa _) _) (by first|rfl|trivial)
   | true=>
    rw[E] at D;obtain rfl:r=some ⟨⟨c,d⟩,n,j,⟨q,t⟩,i⟩:=by rw[av.o,E];rfl
    have aw:Hid (Calls Tryz.prog 48 #[.agg #[c,d,n,.slice l j.length m,q,t,.slice z i.length A]] u λe w'=>e= .returned (.int .i64 0)∧Below u.heap.size u w'):=D;clear D E
    go_upto_region 9 with(first
     |(refine cd rfl _ _ rfl a.heap.size _ _ _ rfl b.o.obj aJ rfl ?_ ?_;kernel_rfl)
     |(go_at_call 48;refine aw.o.mono ?_;rintro e w6 ⟨rfl,B⟩))
    have F:=hid ((B.block w.heap.size (lt_of_block b.o.res)).trans b.o.res);have bv:=hid ((B.block a.heap.size (lt_of_block b.o.obj)).trans b.o.obj);have bw:=hid (HI.o.agr (Agr.below B));have ay:=hid (b.o.bel.trans (B.mono b.o.bel.size));clear B
    go_wp2_with (first
     |(refine lA bv aJ ?_)
     |(refine bW rfl _ _ _ rfl w.heap.size _ _ #[c,d,n,.slice l j.length m,q,t,.slice z i.length A] rfl rfl F.o ?_ ?_ ?_ ?_;kernel_rfl;rfl;rfl))
    have f:=hid (aF #[c,d,n,.slice l j.length m,q,t,.slice z i.length A] F.o);have H:=cw0 f.o;have I:=cw1 f.o;have J:=cw2 f.o;have K:=cw3 f.o;have L:=cw4 f.o;have M:=cw5 f.o;have N:=cw6 f.o;refine aU (v:= .tuple #[.agg #[c,d,n,.slice l j.length m,q,t,.slice z i.length A],(0:Int)]) (by simp[results,Tryz.results44,go_sem,H,I,J,K,L,M,N]) rfl ?_;refine⟨Below.setRow' ay.o (aa _) _,l,m,z,A,rfl,(bw.o.agr (Agr.setRow _ w.heap.size _ (by show ¬a.heap.size<w.heap.size;omega))).sub (λk _ h=>by have h:a.heap.size<k:=h;omega),bi.o⟩
  ·obtain rfl:r=none:=by rw[R.o,P.o];simp[Q]
   have q1:¬s5.toList=[]:=by rw[kD];exact Q
   have q2:s5.toList.isEmpty=false:=by rw[List.isEmpty_eq_false_iff];exact q1
   clear Q;go_wp2_with (first|(refine bW rfl _ _ _ rfl w.heap.size _ _ #[(0:Int),(0:Int),(0:Int),.slice none 0 0,(0:Int),(0:Int),.slice none 0 0] rfl rfl b.o.res ?_ ?_ ?_ ?_;kernel_rfl;rfl;rfl));have f:=hid (aF #[(0:Int),(0:Int),(0:Int),.slice none 0 0,(0:Int),(0:Int),.slice none 0 0] b.o.res);have H:=cw0 f.o;have I:=cw1 f.o;have J:=cw2 f.o;have K:=cw3 f.o;have L:=cw4 f.o;have M:=cw5 f.o;have N:=cw6 f.o;refine aU (v:= .tuple #[.agg #[(0:Int),(0:Int),(0:Int),.slice none 0 0,(0:Int),(0:Int),.slice none 0 0],(80:Int)]) (by simp[results,Tryz.results44,go_sem,H,I,J,K,L,M,N]) rfl ?_;exact au.o _ (Below.setRow' b.o.bel (aa _) _) (by first|rfl|trivial)
end
section
open Go.RowKit Go.Lib
section
variable {w : World} {g i : Nat} {T : TypeId} {fr : Nat × Nat} {c : Array Value} {v : Value}
theorem tk {P:Program} {md:Region.Mode} {ops:Array Oper} {Q:Exit->Act->World->Prop} {S:World->Prop} (i:Nat) (v:Value) {oi:Oper} {fuel:Nat} {listed:Array Bool} {a:Act} (hS:S w)
  (h:wpAnyH P md ops Q S fuel (listed.setIfInBounds i true) (a.put oi.dst v) w) (hi:ops[i]? =some oi:=by rfl)
  (hs:Region.noSelect ops=true:=by kernel_rfl) (hf:Region.free md ops listed i=true:=by kernel_rfl) (hr:(Region.ready md ops listed).contains i=true:=by kernel_rfl)
  (hQ:∀c a w,Q (.panic c) (a.put oi.dst v) w->Q (.panic c) a w:=by exact λ_ _ _ h=>h) (hy:YieldsIf P ops S oi v a:=by exact Or.inl ⟨by rfl,λW' hW'=>by go_simp⟩):wpAnyH P md ops Q S (fuel+1) listed a w:=
 wpAnyH_take hi hs hf hr hQ hy hS h
end
end
section
open Go.ChangeShapes Go.WideShapes Go.RowKit Go.Lib Go.Deep
def Here (w:World):Nat->Prop:=λb=>b<w.heap.size
theorem range_getD {α:Type} (f:Nat->α) (z:α) {n k:Nat} (h:k<n):((List.range n).map f).getD k z=f k:=by
 rw[ae,dW,List.getElem?_range h];rfl
theorem jm {α:Type} (f:Nat->α) (n:Nat):((List.range n).map f).length=n:=by simp
section
variable {H : Type} {enc : TypeId × Value → H} {w : World} {spare : Nat → Bool} {held : Bool} {fuel : Nat} {cs : List Value} {x : DataW H × List MemPlace}
theorem weightsAll_mem {P:Program} {e:TypeId}:∀{l:List (DataW H)} {d:DataW H} {n:Nat},d∈l->n∈d.weights P e->n∈DataW.weightsAll P e l
 |y::l,d,n,h,hn=>by
  show _∈y.weights P e++DataW.weightsAll P e l
  rcases dh.1 h with rfl|h
  ·exact List.mem_append_left _ hn
  ·exact List.mem_append_right _ (weightsAll_mem h hn)
theorem opn_rows {P:Program} {α:Type} [Inhabited α] {t e:TypeId} {s:Nat} (hs:0<s) (ht:P.underlying t=some (.slice e)) (hc:P.cellsOf e=s) (V:α->Nat->Value) (P1:α->DataW H->Prop)
  (elem:∀(n:Nat) (cs':List Value) (d:DataW H) (p:List MemPlace),DataW.trod enc P w 0 spare held n e cs'=some (d,p)->∃x:α,(∀j,j<s->cs'[j]? =some (V x j))∧P1 x d)
  (h:DataW.trod enc P w 0 spare held fuel t cs=some x):
  ∃(A:Option Addr) (len c:Nat) (f:Nat->α),cs=[.slice A len c]∧len<=c∧c<=maxLen∧RowG w (Here w) A len s (λk j=>V (f k) j)∧∀k,k<len->∃d,P1 (f k) d∧∀n∈d.weights P e,n∈x.1.weights P t:=by
 rcases open_slice ht h with⟨h1,h2⟩|⟨a,len,cap,m,n,D,Pl,hcs,hb,hl,hm,hmm,hx,hi⟩
 ·exact⟨none,0,0,λ_=>default,h1,aa _,aq _,RowG.zero,λk g=>absurd g (by omega)⟩
 ·have K:len<=m:=by rw[hmm];split<;>omega
  have v:∀i,i<len->∃x:α,(∀j,j<s->w.cell? ((a.add (i*s)).add j)=some (V x j))∧P1 x (D i):=λi L=>by
   obtain⟨cs',z,F⟩:=hi i (by omega);rw[hc] at z;obtain⟨_,M,B⟩:=World.cells?_some z;obtain⟨x,G,I⟩:=elem n cs' _ _ F;exact⟨x,λj r=>by rw[B j r,G j r],I⟩
  obtain⟨f,y⟩:=choose_lt v;refine⟨some a,len,cap,f,hcs,hl,hm,λk g=> ?_,λk g=>⟨D k,(y k g).2,λn J=> ?_⟩⟩
  ·obtain⟨b,o,C⟩:=a;have l:=(y 0 (by omega)).1 0 hs;have E:C=none:=by
    cases C with
    |none=>rfl
    |some q=>
     exfalso;rw[Nat.zero_mul] at l;simp only[Addr.add,fl,World.cell?,Option.isSome_some] at l;split at l<;>cases l
   subst E;have u:b<w.heap.size:=by
    have:=eL l;simpa[Addr.add] using this
   refine⟨b,o,rfl,u,u,λj r=> ?_⟩;have:=(y k g).1 j r;rw[add_add,Addr.add_mid] at this;rw[show o+k*s+j=o+(k*s+j) from by omega];exact this
  ·rw[hx];simp only[DataW.weights,ht];exact List.mem_cons_of_mem _ (List.mem_append_left _ (weightsAll_mem (bN.2 ⟨k,gy.2 g,rfl⟩) J))
theorem fld {P:Program} {a:TypeId} {n off c:Nat} {l:List Value} {b:List (DataW H×List MemPlace)} {i:Nat} {y:DataW H×List MemPlace}
  (d:DataW.trod enc P w 0 spare held n a ((cs.drop off).take (P.cellsOf a))=b[i]?) (e:P.cellsOf a=c) (f:(cs.drop off).take c=l) (g:b[i]? =some y):DataW.trod enc P w 0 spare held n a l=some y:=by
 rw[e,f,g] at d;exact d
theorem cells_int:Tryz.prog.cellsOf 3=1:=by kernel_rfl
theorem cells_bool:Tryz.prog.cellsOf 4=1:=by kernel_rfl
theorem cells_st:Tryz.prog.cellsOf 42=2:=by kernel_rfl
instance:Inhabited Gst:=⟨.zero⟩
instance:Inhabited Gid:=⟨.zero⟩
instance:Inhabited OpX:=⟨⟨none,0,none,0⟩⟩
instance:Inhabited Gop:=⟨opO 0 .zero⟩
structure GrX where
 dA:Option Addr
 dc:Nat
 oA:Option Addr
 oc:Nat
instance:Inhabited GrX:=⟨⟨none,0,none,0⟩⟩
instance:Inhabited Grp:=⟨⟨.zero,0,[],.zero,[]⟩⟩
end
end
section
open Go.RowKit Go.Lib Go.Sort
structure GrB (O:Nat->Prop) (w w':World):Prop where
 os:w'.os=w.os
 tape:w'.tape=w.tape
 output:w'.output=w.output
 size:w.heap.size<=w'.heap.size
 block:∀i,i<w.heap.size->¬O i->w'.heap[i]? =w.heap[i]?
section
variable {O O1 : Nat → Prop} {w w1 w2 : World}
theorem GrB.refl:GrB O w w:=⟨rfl,rfl,rfl,aa _,λ_ _ _=>rfl⟩
theorem GrB.trans (h:GrB O w w1) (k:GrB O1 w1 w2) (hO:∀i,i<w.heap.size->O1 i->O i):GrB O w w2:=
 ⟨k.os.trans h.os,k.tape.trans h.tape,k.output.trans h.output,aP h.size k.size,λi hi hn=>(k.block i (bS hi h.size) (λe=>hn (hO i hi e))).trans (h.block i hi hn)⟩
theorem GrB.of_grown {r:Option Nat} (h:w.grownBy w1 r) (hr:∀g,r=some g->g<w.heap.size->O g):GrB O w w1:=⟨h.os,h.tape,h.output,h.size,λi hi hn=>h.block i hi (λe=>hn (hr i e.symm hi))⟩
theorem GrB.of_below (h:Below w.heap.size w w1):GrB O w w1:=⟨h.os,h.tape,h.output,h.size,λi hi _=>h.block i hi⟩
theorem GrB.below {n:Nat} (h:GrB O w w1) (hn:n<=w.heap.size) (hO:∀i,O i->n<=i):Below n w w1:=⟨h.os,h.tape,h.output,h.size,λi hi=>h.block i (bS hi hn) (λe=>by have:=hO i e;omega)⟩
theorem GrB.agr {S:Nat->Prop} (h:GrB O w w1) (hS:∀i,i<w.heap.size->S i->¬O i):Agr S w w1:=⟨h.size,λb hb hl=>h.block b hl (hS b hl hb)⟩
theorem GrB.set (h:GrB O w w1) (b o:Nat) (v:Value) (hb:b<w.heap.size->O b):GrB O w (w1.setCell ⟨b,o,none⟩ v):=
 h.trans (O1:=λi=>i=b) (GrB.of_grown (di b o v) (λg e _=>by cases e;rfl)) (λi hi e=>by subst e;exact hb hi)
theorem GrB.grown (h:GrB O w w1) {r:Option Nat} (k:w1.grownBy w2 r) (hr:∀g,r=some g->g<w.heap.size->O g):GrB O w w2:=
 h.trans (O1:=λi=>r=some i) (GrB.of_grown k (λg e _=>e)) (λi hi e=>hr i e hi)
end
def grL (g:Grp) (x:GrX):List Value:=[.int .i64 g.s.t,.int .i64 g.s.r,.int .i64 g.n,.slice x.dA g.deps.length x.dc,.int .i64 g.u.t,.int .i64 g.u.r,.slice x.oA g.ops.length x.oc]
def grC_ (p:Grp×GrX):List Value:=grL p.1 p.2
theorem kL (a:List (Grp×GrX)):(a.flatMap grC_).length=a.length*7:=by
 induction a with
 |nil=>rfl
 |cons x a ih=>rw[cG,al,ih,bQ];show 7+_=_;omega
theorem iU (x:Grp×GrX):∀u∈grC_ x,u.oneCell'=true:=fx (c:=(grL x.1 x.2).toArray) rfl
theorem ib:(Tryz.prog.info? 45).map (λi=>(i.zero,i.size,i.bytes))=some (some (.agg #[(0:Int),(0:Int),(0:Int),.slice none 0 0,(0:Int),(0:Int),.slice none 0 0]),7,88):=by kernel_rfl
def GrG (w:World) (S:Nat->Prop) (p:Grp×GrX):Prop:=GrIn w S p.1 p.2.dA p.2.dc p.2.oA p.2.oc
theorem GrG.agr {w w':World} {S:Nat->Prop} {p:Grp×GrX} (h:GrG w S p) (ha:Agr S w w'):GrG w' S p:=GrIn.agr h ha
theorem GrG.sub {w:World} {S T:Nat->Prop} {p:Grp×GrX} (h:GrG w S p) (hs:∀b,b<w.heap.size->S b->T b):GrG w T p:=GrIn.sub h hs
def gp0:Grp×GrX:=(gz,⟨none,0,none,0⟩)
def RowGr (w:World) (A:Option Addr) (L:List (Grp×GrX)):Prop:=RowG w (λ_=>True) A L.length 7 (λk j=>(grL (L.getD k gp0).1 (L.getD k gp0).2).getD j undef)
theorem RowGr.range {w:World} {A:Option Addr} {L:List (Grp×GrX)} (h:RowGr w A L) {k:Nat} (c:k<L.length):∃b o,A=some ⟨b,o,none⟩∧b<w.heap.size∧w.rangeAt b (o+k*7) (grL (L.getD k gp0).1 (L.getD k gp0).2):=by
 obtain⟨b,o,e,-,d,f⟩:=h k c;refine⟨b,o,e,d,λj v a=> ?_⟩;have g:j<7:=(eD.1 a).1;rw[f j g];show some ((grL (L.getD k gp0).1 (L.getD k gp0).2).getD j undef)=some v;rw[ae,a];rfl
theorem RowGr.own {w:World} {B:Nat} {A:Option Addr} {c:Nat} {L:List (Grp×GrX)} {E:TypeId} (h:w.ownsRow B E 7 (.slice A L.length c) L.length (L.flatMap grC_)):RowGr w A L:=by
 refine RowG.sub (jY h λk j b a=> ?_) λ_ _ _=>trivial;rw[gD (s:=7) (λ_=>rfl) L k j gp0 b a];generalize L.getD k gp0=p;have:j<(grC_ p).length:=a;rw[aw this,ae];show some _=some ((grC_ p)[j]?.getD undef);rw[aw this];rfl
theorem RowGr.agr {w w':World} {A:Option Addr} {L:List (Grp×GrX)} (h:RowGr w A L) (ha:Agr (λ_=>True) w w'):RowGr w' A L:=RowG.agr h ha
theorem RowGr.below {w w':World} {A:Option Addr} {L:List (Grp×GrX)} (h:RowGr w A L) (ha:Below w.heap.size w w'):RowGr w' A L:=RowG.agr h (Agr.below ha)
end
section
open Go.RowKit Go.Lib Go.Sort Go.Maps Go.ChangeShapes Go.WideShapes
theorem kLaid:laidOutB Tryz.prog=true:=by kernel_rfl
theorem kRow:(42:TypeId)<Tryz.prog.types.size:=of_decide_eq_true (by kernel_rfl)
theorem kWide:(match Tryz.prog.underlying 42 with|some (.array _ _)|some (.struct _)=>true|_=>false)=true:=by rw[cr]
theorem law_st:Keyed Tryz.prog 42:=Keyed.of_law (deep_law_laid kLaid (m:=3) (by omega) kRow (by kernel_rfl) kWide)
theorem kType:Tryz.prog.keyType 42=true:=by kernel_rfl
theorem kFormed (a b:Value):(Value.agg #[a,b]).formed Tryz.prog 42=true:=by
 simp[Value.formed,cells_st]
def kst (s:Gst):Lit:= .string (keyBytes [.int .i64 s.t,.int .i64 s.r])
theorem wf_of_i63 {n:Int} (h:i63 n):(Lit.int .i64 n).wf=true:=by
 have: -9223372036854775808<=n∧n<=9223372036854775807:=⟨h.1,by have:=h.2;omega⟩;simpa[Lit.wf,IntKind.min,IntKind.max,IntKind.bits,IntKind.signed] using this
theorem key_st (s:Gst) (a:i63 s.t) (b:i63 s.r):keyOf Tryz.prog 42 (.agg #[.int .i64 s.t,.int .i64 s.r])=some (kst s):=by
 have c:=wf_of_i63 a;have d:=wf_of_i63 b;obtain⟨m,f⟩:∃m,Tryz.prog.types.size=m+1:=Nat.exists_eq_succ_of_ne_zero (λe=>by have:=kRow;rw[e] at this;exact absurd this (da _));unfold keyOf;rw[cr];simp only[kType,kFormed,Bool.and_self,fl,f];have e:Tryz.prog.keyLits (m+1+1) 42 [.int .i64 s.t,.int .i64 s.r]=some [.int .i64 s.t,.int .i64 s.r]:=by
  unfold Program.keyLits;rw[cr];simp[cells_st,cells_int,Program.keyLits,Tryz.underlying3,c,d]
 show(Tryz.prog.keyLits (m+1+1) 42 [.int .i64 s.t,.int .i64 s.r]).map _=_;rw[e];rfl
theorem kst_inj {a b:Gst} (c:i63 a.t∧i63 a.r) (d:i63 b.t∧i63 b.r) (h:kst a=kst b):a=b:=by
 have e:=key_st a c.1 c.2;have f:=key_st b d.1 d.2;rw[h] at e;have:=law_st.inj e f;cases a;cases b;simpa using this
theorem jk {s:Gst} (h:s.right=true):i63 s.t∧i63 s.r:=by
 simp only[Gst.right,ay,au] at h;exact⟨⟨by omega,by omega⟩,by omega,by omega⟩
def setG {H:Type} (l:List Grp):DataW H:=Maps.setOf (.agg []) (l.map λg=>kst g.s)
theorem setG_snoc {H:Type} (l:List Grp) (g:Grp):(setG (l++[g]):DataW H)=(setG l).put (kst g.s) (.agg []):=by
 unfold setG;rw[bD];exact Maps.setOf_snoc _ _ _
theorem kst_key (s:Gst) (h:i63 s.t∧i63 s.r):WideAt.IsKeyLit (kst s):=law_st.key (key_st s h.1 h.2)
theorem has_setG {H:Type} (l:List Grp) (s:Gst) (e:∀g∈l,g.s.right=true) (f:s.right=true):Maps.has (setG l:DataW H) (kst s)=l.any (λd=>d.s.eqb s):=by
 unfold setG
 rw[Maps.has_setOf _ _ _ (λx c=>by
  obtain⟨g,a,rfl⟩:=bN.1 c
  exact kst_key _ (jk (e g a)))]
 rw[bE,eQ,eQ];constructor
 ·rintro⟨x,c,b⟩;obtain⟨g,a,rfl⟩:=bN.1 c;refine⟨g,a,Gst.eqb_iff.2 (kst_inj (jk (e g a)) (jk f) ?_)⟩;rcases cX (kst g.s=kst s) with h|h
  ·exact h
  ·rw[Maps.sameKey_ne h] at b;cases b
 ·rintro⟨g,a,b⟩;refine⟨kst g.s,bN.2 ⟨g,a,rfl⟩,?_⟩;rw[Gst.eqb_iff.1 b];simp[kst,Lit.sameKey]
end
section
open Go.RowKit Go.Lib Go.Sort
structure BoxX where
 dv:Value
 wv:Value
 vA:Option Addr
 vc:Nat
 bm:Nat
 L:List (Grp×GrX)
 M:List (Grp×GrX)
def Own (P:Nat) (X:BoxX) (k:Nat):Prop:=k=P∨k=X.bm∨X.dv.ownBlock=some k∨X.wv.ownBlock=some k
structure BoxIn (B P:Nat) (S:Nat->Prop) (dn mp wt:List Grp) (v:List Int) (X:BoxX) (w:World):Prop where
 obj:w.heap[P]? =some (.cells #[X.dv,X.wv,.map (some X.bm),.slice X.vA v.length X.vc] 89 (0,0))
 done:w.ownsRow B 45 7 X.dv X.L.length (X.L.flatMap grC_)
 wait:w.ownsRow B 45 7 X.wv X.M.length (X.M.flatMap grC_)
 dl:X.L.map Prod.fst=dn
 wl:X.M.map Prod.fst=wt
 map:w.ownsMap Tryz.prog 42 (unitElem (H:=Unit)) X.bm mp.length (setG mp)
 vec:VecS w S X.vA v
 vle:v.length<=X.vc
 vmax:X.vc<=maxLen
 vlen:v.length<=16
 good:∀p∈X.L++X.M,GrG w S p
 hP:B<=P
 hm:B<=X.bm
 pm:P≠X.bm
 dP:X.dv.ownBlock≠some P
 dm:X.dv.ownBlock≠some X.bm
 wP:X.wv.ownBlock≠some P
 wm:X.wv.ownBlock≠some X.bm
 dw:∀g,X.dv.ownBlock=some g->X.wv.ownBlock≠some g
 sep:∀k,S k->k<w.heap.size∧¬Own P X k
structure BTo (P:Nat) (X:BoxX) (S:Nat->Prop) (w:World) (X':BoxX) (S':Nat->Prop) (w':World):Prop where
 gr:GrB (Own P X) w w'
 own:∀k,Own P X' k->Own P X k∨w.heap.size<=k
 more:∀k,S k->S' k
 new:∀k,S' k->S k∨(w.heap.size<=k∧k<w'.heap.size)
theorem gY {S:Nat->Prop} (w:World) (g i:Nat) (v:Value) (h:¬S g):Agr S w (w.setCell ⟨g,i,none⟩ v):=⟨by simp[World.setCell],λb hb _=>bB _ _ _ _ (λe:b=g=>h (e ▸ hb))⟩
section
variable {B P : Nat} {S S' S'' : Nat → Prop} {dn mp wt : List Grp} {v : List Int} {X X' X'' : BoxX} {w w' w'' : World}
theorem BTo.refl:BTo P X S w X S w:=⟨GrB.refl,λ_ h=> .inl h,λ_ h=>h,λ_ h=> .inl h⟩
theorem BTo.trans (h:BTo P X S w X' S' w') (k:BTo P X' S' w' X'' S'' w''):BTo P X S w X'' S'' w'':=
 ⟨h.gr.trans k.gr λi hi e=>(h.own i e).resolve_right (by omega),λi hi=>by
  rcases k.own i hi with h1|h1
  ·exact h.own i h1
  ·exact .inr (aP h.gr.size h1),λi hi=>k.more i (h.more i hi),λi hi=>by
  rcases k.new i hi with h1|h1
  ·rcases h.new i h1 with h2|h2
   ·exact .inl h2
   ·exact .inr ⟨h2.1,bS h2.2 k.gr.size⟩
  ·exact .inr ⟨aP h.gr.size h1.1,h1.2⟩⟩
theorem BTo.of_below (h:Below w.heap.size w w'):BTo P X S w X S w':=⟨GrB.of_below h,λ_ h=> .inl h,λ_ h=>h,λ_ h=> .inl h⟩
theorem BoxIn.own_lt (h:BoxIn B P S dn mp wt v X w) {k:Nat} (a:Own P X k):B<=k∧k<w.heap.size:=by
 rcases a with rfl|rfl|a|a
 ·exact⟨h.hP,lt_of_block h.obj⟩
 ·exact⟨h.hm,h.map.lt⟩
 ·exact h.done.lt k a
 ·exact h.wait.lt k a
theorem BoxIn.below (h:BoxIn B P S dn mp wt v X w) (a:Below w.heap.size w w'):BoxIn B P S dn mp wt v X w':=by
 have b:=dB (r:=none) a;refine⟨(a.block P (lt_of_block h.obj)).trans h.obj,h.done.kept b (cX _),h.wait.kept b (cX _),h.dl,h.wl,h.map.kept b (by simp),h.vec.agr (Agr.below a),h.vle,h.vmax,h.vlen,λp d=>(h.good p d).agr (Agr.below a),h.hP,h.hm,h.pm,h.dP,h.dm,h.wP,h.wm,h.dw,λk c=>⟨bS (h.sep k c).1 a.size,(h.sep k c).2⟩⟩
theorem BoxIn.sup (h:BoxIn B P S dn mp wt v X w) (h1:∀k,S k->S' k) (h2:∀k,S' k->S k∨(k<w.heap.size∧¬Own P X k)):BoxIn B P S' dn mp wt v X w:=
 ⟨h.obj,h.done,h.wait,h.dl,h.wl,h.map,RowG.sub h.vec (λk _ hk=>h1 k hk),h.vle,h.vmax,h.vlen,λp hp=>(h.good p hp).sub (λk _ hk=>h1 k hk),h.hP,h.hm,h.pm,h.dP,h.dm,h.wP,h.wm,h.dw,λk hk=>(h2 k hk).elim (h.sep k) id⟩
theorem BoxIn.cell (h:BoxIn B P S dn mp wt v X w) (i:Nat):w.cell? ⟨P,i,none⟩=#[X.dv,X.wv,.map (some X.bm),.slice X.vA v.length X.vc][i]? :=aG _ _ _ _ _ _ h.obj
theorem BoxIn.dlen (h:BoxIn B P S dn mp wt v X w):X.L.length=dn.length:=by rw[<-h.dl,aV]
theorem BoxIn.wlen (h:BoxIn B P S dn mp wt v X w):X.M.length=wt.length:=by rw[<-h.wl,aV]
theorem gF {w:World} {P:Nat} {c a:Array Value} {T:TypeId} (h:w.heap[P]? =some (.cells c T (0,0))) (i:Nat) (u:Value) (b:c.setIfInBounds i u=a):(w.setCell ⟨P,i,none⟩ u).heap[P]? =some (.cells a T (0,0)):=by
 simp[World.setCell,bY,h,b]
theorem gG {w:World} {B E s n:Nat} {u:Value} {xs:List Value} (h:w.ownsRow B E s u n xs) {P:Nat} (hu:u.ownBlock≠some P) (i:Nat) (x:Value):(w.setCell ⟨P,i,none⟩ x).ownsRow B E s u n xs:=
 h.kept (di P i x) (.inr hu)
theorem kept_or {a b:Option Nat} (h:∀g,a=some g->b≠some g):b=none∨b≠a:=by
 cases b with
 |none=>exact .inl rfl
 |some g=>exact .inr λe=>h g e.symm rfl
theorem own_new {u a:Value} {P n m:Nat} (b:a.ownBlock=u.ownBlock∨a.ownBlock=some m) (h:u.ownBlock≠some P) (d:P<n) (f:n<=m):a.ownBlock≠some P:=by
 rcases b with e|e
 ·rw[e];exact h
 ·rw[e];intro c;injection c with c;omega
theorem BoxIn.dput (h:BoxIn B P S dn mp wt v X w) {w1 a:World} {dv':Value} {p:Grp×GrX} (m:Below w.heap.size w w1) (j:w1.grownBy a X.dv.ownBlock) (s:a.ownsRow B 45 7 dv' (X.L.length+1) (X.L.flatMap grC_++grC_ p))
  (b:dv'.ownBlock=X.dv.ownBlock∨dv'.ownBlock=some w1.heap.size) (D:GrG w S p):
  BoxIn B P S (dn++[p.1]) mp wt v { X with dv:=dv',L:=X.L++[p] } (a.setCell ⟨P,0,none⟩ dv')∧BTo P X S w { X with dv:=dv',L:=X.L++[p] } S (a.setCell ⟨P,0,none⟩ dv'):=by
 have o:=lt_of_block h.obj;have y:=h.map.lt;have t:=h.below m;have l:=m.size;have u:∀g,X.dv.ownBlock=some g->¬S g:=λg e u=>(h.sep g u).2 (.inr (.inr (.inl e)));have z:¬S P:=λE=>(h.sep P E).2 (.inl rfl);have n:Agr S w (a.setCell ⟨P,0,none⟩ dv'):=((Agr.below m).trans (Agr.grown j u)).trans (gY a P 0 dv' z);have r:GrB (Own P X) w (a.setCell ⟨P,0,none⟩ dv'):=((GrB.of_below m).grown j (λg e _=> .inr (.inr (.inl e)))).set P 0 dv' (λ_=> .inl rfl);have i:∀k,Own P { X with dv:=dv',L:=X.L++[p] } k->Own P X k∨w.heap.size<=k:=λk x=>by
  rcases x with e|e|e|e
  ·exact .inl (.inl e)
  ·exact .inl (.inr (.inl e))
  ·have e:dv'.ownBlock=some k:=e;rcases b with f|f
   ·exact .inl (.inr (.inr (.inl (f.symm.trans e))))
   ·right;rw[f] at e;injection e with e;omega
  ·exact .inl (.inr (.inr (.inr e)))
 refine⟨⟨gF (c:=#[X.dv,X.wv,.map (some X.bm),.slice X.vA v.length X.vc]) ((j.block P (by omega) (λe=>h.dP e.symm)).trans t.obj) 0 dv' rfl,?_,gG (t.wait.kept j (kept_or h.dw)) h.wP 0 dv',?_,h.wl,?_,RowG.agr h.vec n,h.vle,h.vmax,h.vlen,?_,h.hP,h.hm,h.pm,own_new b h.dP o l,own_new b h.dm y l,h.wP,h.wm,?_,?_⟩,⟨r,i,λ_ h=>h,λ_ h=> .inl h⟩⟩
 ·refine gG ?_ (own_new b h.dP o l) 0 dv';show a.ownsRow B _ 7 dv' (X.L++[p]).length ((X.L++[p]).flatMap grC_);rw[al,aK,bJ];exact s
 ·show(X.L++[p]).map Prod.fst=_;rw[bD,h.dl];rfl
 ·exact(t.map.kept j (λe=>h.dm e.symm)).setCell (λe=>h.pm e.symm) dv'
 ·intro q d;have d:q∈(X.L++[p])++X.M:=d;rw[aM,aD,aD,ba] at d;rcases d with d|rfl|d
  ·exact(h.good q (aD.2 (.inl d))).agr n
  ·exact D.agr n
  ·exact(h.good q (aD.2 (.inr d))).agr n
 ·intro g e A;have e:dv'.ownBlock=some g:=e;rcases b with f|f
  ·rw[f] at e;exact h.dw g e A
  ·rw[f] at e;injection e with e;have:=(h.wait.lt g A).2;omega
 ·intro k x;have C:=h.sep k x;exact⟨bS C.1 r.size,λF=>(i k F).elim C.2 (by omega)⟩
theorem BoxIn.mput (h:BoxIn B P S dn mp wt v X w) {g:Grp} (a:w.grownBy w' (some X.bm)) (j:w'.ownsMap Tryz.prog 42 (unitElem (H:=Unit)) X.bm (mp.length+1) ((setG mp).put (kst g.s) (.agg []))):
  BoxIn B P S dn (mp++[g]) wt v X w'∧BTo P X S w X S w':=by
 have c:=lt_of_block h.obj;have l:∀b,some X.bm=some b->¬S b:=λb e m=>by cases e;exact(h.sep _ m).2 (.inr (.inl rfl))
 have d:Agr S w w':=Agr.grown a l;have f:GrB (Own P X) w w':=GrB.of_grown a (λb e _=>by cases e;exact .inr (.inl rfl));refine⟨⟨(a.block P c (λe=>by injection e with e;exact h.pm e)).trans h.obj,h.done.kept a (.inr h.dm),h.wait.kept a (.inr h.wm),h.dl,h.wl,?_,RowG.agr h.vec d,h.vle,h.vmax,h.vlen,λp n=>(h.good p n).agr d,h.hP,h.hm,h.pm,h.dP,h.dm,h.wP,h.wm,h.dw,λk i=>⟨bS (h.sep k i).1 a.size,(h.sep k i).2⟩⟩,⟨f,λ_ h=> .inl h,λ_ h=>h,λ_ h=> .inl h⟩⟩;rw[al,setG_snoc];exact j
theorem BoxIn.vput (h:BoxIn B P S dn mp wt v X w) {w1:World} {A:Option Addr} {c:Nat} {u:List Int} (f:Below w.heap.size w w1) (m:VecS w1 (λk=>w.heap.size<=k) A u) (n:u.length<=c) (g:c<=maxLen) (o:u.length<=16):
  BoxIn B P (λk=>S k∨(w.heap.size<=k∧k<w1.heap.size)) dn mp wt u { X with vA:=A,vc:=c } (w1.setCell ⟨P,3,none⟩ (.slice A u.length c))∧BTo P X S w { X with vA:=A,vc:=c } (λk=>S k∨(w.heap.size<=k∧k<w1.heap.size)) (w1.setCell ⟨P,3,none⟩ (.slice A u.length c)):=by
 have t:=lt_of_block h.obj;have b:=h.below f;have i:¬S P:=λq=>(h.sep P q).2 (.inl rfl);have j:GrB (Own P X) w (w1.setCell ⟨P,3,none⟩ (.slice A u.length c)):=(GrB.of_below f).set P 3 _ (λ_=> .inl rfl);have l:Agr S w1 (w1.setCell ⟨P,3,none⟩ (.slice A u.length c)):=gY w1 P 3 _ i;have d:(w1.setCell ⟨P,3,none⟩ (.slice A u.length c)).heap.size=w1.heap.size:=by simp
 refine⟨⟨gF (c:=#[X.dv,X.wv,.map (some X.bm),.slice X.vA v.length X.vc]) b.obj 3 _ rfl,gG b.done h.dP 3 _,gG b.wait h.wP 3 _,h.dl,h.wl,b.map.setCell (λe=>h.pm e.symm) _,?_,n,g,o,λp r=> ?_,h.hP,h.hm,h.pm,h.dP,h.dm,h.wP,h.wm,h.dw,λk a=> ?_⟩,⟨j,λ_ h=> .inl h,λ_ h=> .inl h,λk a=>a.imp id (λh=>⟨h.1,by rw[d];exact h.2⟩)⟩⟩
 ·exact(m.agr (gY w1 P 3 _ (by show ¬w.heap.size<=P;omega))).sub (λk a h=> .inr ⟨h,by rw[d] at a;exact a⟩)
 ·exact((b.good p r).agr l).sub (λk _ a=> .inl a)
 ·rw[d];rcases a with a|a
  ·exact⟨bS (h.sep k a).1 f.size,(h.sep k a).2⟩
  ·exact⟨a.2,λs=>by have:=(h.own_lt s).2;omega⟩
theorem BoxIn.wset (h:BoxIn B P S dn mp wt v X w) {w1 d:World} {wv':Value} {M':List (Grp×GrX)} (n:Below w.heap.size w w1) (j:w1.grownBy d X.wv.ownBlock) (t:d.ownsRow B 45 7 wv' M'.length (M'.flatMap grC_))
  (b:wv'.ownBlock=X.wv.ownBlock∨wv'.ownBlock=some w1.heap.size) (o:∀p∈M',GrG w S p):
  BoxIn B P S dn mp (M'.map Prod.fst) v { X with wv:=wv',M:=M' } (d.setCell ⟨P,1,none⟩ wv')∧BTo P X S w { X with wv:=wv',M:=M' } S (d.setCell ⟨P,1,none⟩ wv'):=by
 have r:=lt_of_block h.obj;have A:=h.map.lt;have u:=h.below n;have l:=n.size;have x:∀g,X.wv.ownBlock=some g->¬S g:=λg e x=>(h.sep g x).2 (.inr (.inr (.inr e)));have C:¬S P:=λE=>(h.sep P E).2 (.inl rfl);have y:Agr S w (d.setCell ⟨P,1,none⟩ wv'):=((Agr.below n).trans (Agr.grown j x)).trans (gY d P 1 wv' C);have s:GrB (Own P X) w (d.setCell ⟨P,1,none⟩ wv'):=((GrB.of_below n).grown j (λg e _=> .inr (.inr (.inr e)))).set P 1 wv' (λ_=> .inl rfl);have i:∀k,Own P { X with wv:=wv',M:=M' } k->Own P X k∨w.heap.size<=k:=λk z=>by
  rcases z with e|e|e|e
  ·exact .inl (.inl e)
  ·exact .inl (.inr (.inl e))
  ·exact .inl (.inr (.inr (.inl e)))
  ·have e:wv'.ownBlock=some k:=e;rcases b with f|f
   ·exact .inl (.inr (.inr (.inr (f.symm.trans e))))
   ·right;rw[f] at e;injection e with e;omega
 refine⟨⟨gF (c:=#[X.dv,X.wv,.map (some X.bm),.slice X.vA v.length X.vc]) ((j.block P (by omega) (λe=>h.wP e.symm)).trans u.obj) 1 wv' rfl,gG (u.done.kept j (kept_or (λg e a=>h.dw g a e))) h.dP 1 wv',gG t (own_new b h.wP r l) 1 wv',h.dl,rfl,?_,RowG.agr h.vec y,h.vle,h.vmax,h.vlen,?_,h.hP,h.hm,h.pm,h.dP,h.dm,own_new b h.wP r l,own_new b h.wm A l,?_,?_⟩,⟨s,i,λ_ h=>h,λ_ h=> .inl h⟩⟩
 ·exact(u.map.kept j (λe=>h.wm e.symm)).setCell (λe=>h.pm e.symm) wv'
 ·intro q m;rcases aD.1 m with m|m
  ·exact(h.good q (aD.2 (.inl m))).agr y
  ·exact(o q m).agr y
 ·intro g e a;have a:wv'.ownBlock=some g:=a;rcases b with f|f
  ·rw[f] at a;exact h.dw g e a
  ·rw[f] at a;injection a with a;have:=(h.done.lt g e).2;omega
 ·intro k z;have D:=h.sep k z;exact⟨bS D.1 s.size,λF=>(i k F).elim D.2 (by omega)⟩
end
theorem covers_any (A B:Option Addr) (c d:Nat) (v u:List Int) (w:World) (R:v.length<=9223372036854775806) (S:u.length<=9223372036854775806) (D:VecR w A v) (E:VecR w B u):
  Calls Tryz.prog 98 #[.slice A v.length c,.slice B u.length d] w λe w'=>e= .returned (.bool (covB v u))∧w'=w:=by
 obtain⟨g,a⟩:∃r,r=covB v u:=⟨_,rfl⟩;rw[<-a];obtain⟨m,p⟩:∃m,m=max v.length u.length:=⟨_,rfl⟩;have l:=hid (show g=jd m λr=>decide (u.getD r 0<=v.getD r 0) by rw[a,p];rfl);have n:=hid p;have Q:m<=9223372036854775806:=by omega
 have N:=hid (λr=>at_any A c v r w (by omega) D);have O:=hid (λr=>at_any B d u r w (by omega) E);clear a p D E;go_enter Tryz.func98,Tryz.ntmps98;by_cases q:(v.length:Int)<(u.length:Int)
 all_goals
  go_wp2_with fail
  first
   |rw[show max (v.length:Int) (u.length:Int)=(m:Int) from by have:=n.o;omega]
   |rw[show(u.length:Int)=(m:Int) from by have:=n.o;omega]
   |rw[show(v.length:Int)=(m:Int) from by have:=n.o;omega]
  clear q;go_loop [11] (λi=>∃k:Nat,i= .int .i64 k∧k<=m∧Hid (∀j,j<k->decide (u.getD j 0<=v.getD j 0)=true)) (λi=>m-(RowKit.intOf i).toNat)
  case atStart=>exact⟨0,rfl,aq _,hid (λj F=>absurd F (da j))⟩
  case round=>
   obtain⟨k,rfl,T,G⟩:=hrel;by_cases H:k<m
   ·have U:(k:Int)<(m:Int):=by omega
    have I:atV v ((k:Int)+1)=v.getD k 0:=kP;have J:atV u ((k:Int)+1)=u.getD k 0:=kP;have b:=hid (N.o ((k:Int)+1));have f:=hid (O.o ((k:Int)+1));rw[I] at b;rw[J] at f;obtain⟨x,s⟩:∃x,x=v.getD k 0:=⟨_,rfl⟩;obtain⟨y,t⟩:∃y,y=u.getD k 0:=⟨_,rfl⟩;rw[<-s] at b;rw[<-t] at f;have K:=hid s;have L:=hid t;clear I J s t;by_cases o:y<=x
    ·have z:¬x<y:=by omega
     have P:decide (x<y)=false:=aC z;have M:=hid (show ∀j,j<k+1->decide (u.getD j 0<=v.getD j 0)=true from λj F=>if h:j<k then G.o j h else (by(obtain rfl:j=k:=(by omega));rw[<-K.o,<-L.o];exact aI o));go_wp2_with fail;refine b.o.mono ?_;rintro e C ⟨rfl,rfl⟩;go_wp2_with fail;refine f.o.mono ?_;rintro e C ⟨rfl,rfl⟩;go_wp2;go_round
     case rel=>exact⟨k+1,by go_num,by omega,M⟩
     case measure=>simp[RowKit.intOf];omega
    ·have z:x<y:=by omega
     have P:decide (x<y)=true:=aI z;obtain rfl:g=false:=by rw[l.o];exact fB H (by rw[<-K.o,<-L.o];exact aC o)
     go_wp2_with fail;refine b.o.mono ?_;rintro e C ⟨rfl,rfl⟩;go_wp2_with fail;refine f.o.mono ?_;rintro e C ⟨rfl,rfl⟩;go_wp2;go_ret;exact⟨rfl,rfl⟩
   ·obtain rfl:k=m:=by omega
    obtain rfl:g=true:=by rw[l.o];exact es G.o
    have V:¬(k:Int)<(k:Int):=by omega
    go_wp2;go_ret;exact⟨rfl,rfl⟩
theorem refcovers_any (A B:Option Addr) (c d:Nat) (v u:List Int) (w:World) (W:v.length<=9223372036854775800) (X:u.length<=9223372036854775800) (G:VecR w A v) (H:VecR w B u):
  Calls Tryz.prog 38 #[.slice A v.length c,.slice B u.length d] w λe w'=>e= .returned (.bool (covB v u))∧w'=w:=by
 obtain⟨l,b⟩:∃r,r=covB v u:=⟨_,rfl⟩;rw[<-b];obtain⟨m,t⟩:∃m,m=max v.length u.length:=⟨_,rfl⟩;have n:=hid (show l=jd m λr=>decide (u.getD r 0<=v.getD r 0) by rw[b,t];rfl);have V:m<=9223372036854775806:=by omega
 have z:=hid t;have Q:=hid (λr=>eT A c v r w (by omega) G);have R:=hid (λr=>eT B d u r w (by omega) H);clear b t G H;go_enter Tryz.func38,Tryz.ntmps38;by_cases a:(v.length:Int)<(u.length:Int)
 all_goals
  go_wp2_with fail;go_loop [5] (λi=>∃k:Nat,i= .int .i64 ((k:Int)+1)∧k<=m∧Hid (∀j,j<k->decide (u.getD j 0<=v.getD j 0)=true)) (λi=>m+1-(RowKit.intOf i).toNat)
  case atStart=>exact⟨0,by go_num,aq _,hid (λj I=>absurd I (da j))⟩
  case round=>
   obtain⟨k,rfl,Y,J⟩:=hrel;by_cases K:k<m
   ·have S:(k:Int)+1<=(u.length:Int)∨(k:Int)+1<=(v.length:Int):=by have:=z.o;omega
    have Z:(k:Int)+1<=(m:Int):=by omega
    have L:atV v ((k:Int)+1)=v.getD k 0:=kP;have M:atV u ((k:Int)+1)=u.getD k 0:=kP;have f:=hid (Q.o ((k:Int)+1));have g:=hid (R.o ((k:Int)+1));rw[L] at f;rw[M] at g;obtain⟨x,C⟩:∃x,x=v.getD k 0:=⟨_,rfl⟩;obtain⟨y,D⟩:∃y,y=u.getD k 0:=⟨_,rfl⟩;rw[<-C] at f;rw[<-D] at g;have N:=hid C;have O:=hid D;have o:(v.length:Int)<(u.length:Int)->(k:Int)+1<=(u.length:Int):=λh=>by omega
    have p:¬(v.length:Int)<(u.length:Int)->(k:Int)+1<=(v.length:Int):=λh=>by omega
    first
     |(have q:=o a)
     |(have q:=p (Int.not_lt.2 a))
    have T:=aI q;clear L M C D S o p;by_cases s:y<=x
    ·have E:¬x<y:=by omega
     have U:decide (x<y)=false:=aC E;have P:=hid (show ∀j,j<k+1->decide (u.getD j 0<=v.getD j 0)=true from λj I=>if h:j<k then J.o j h else (by(obtain rfl:j=k:=(by omega));rw[<-N.o,<-O.o];exact aI s));go_wp2_with fail;refine f.o.mono ?_;rintro e F ⟨rfl,rfl⟩;go_wp2_with fail;refine g.o.mono ?_;rintro e F ⟨rfl,rfl⟩;go_wp2;go_round
     case rel=>exact⟨k+1,by go_num,by omega,P⟩
     case measure=>simp[RowKit.intOf];omega
    ·have E:x<y:=by omega
     have U:decide (x<y)=true:=aI E;obtain rfl:l=false:=by rw[n.o];exact fB K (by rw[<-N.o,<-O.o];exact aC s)
     go_wp2_with fail;refine f.o.mono ?_;rintro e F ⟨rfl,rfl⟩;go_wp2_with fail;refine g.o.mono ?_;rintro e F ⟨rfl,rfl⟩;go_wp2;go_ret;exact⟨rfl,rfl⟩
   ·obtain rfl:k=m:=by omega
    obtain rfl:l=true:=by rw[n.o];exact es J.o
    have o:(v.length:Int)<(u.length:Int)->¬(k:Int)+1<=(u.length:Int):=λh=>by have:=z.o;omega
    have p:¬(v.length:Int)<(u.length:Int)->¬(k:Int)+1<=(v.length:Int):=λh=>by have:=z.o;omega
    first
     |(have q:=o a)
     |(have q:=p (Int.not_lt.2 a))
    have T:=aC q;clear o p;go_wp2;go_ret;exact⟨rfl,rfl⟩
end
section
open Go.RowKit Go.Lib Go.Sort
attribute [local go_sem ↓] Go.wp_at_zero Go.wp_at_succ
theorem infoIw:(Tryz.prog.info? 3).map (λi=>(i.zero,i.size,i.bytes))=some (some (.int .i64 0),1,8):=by kernel_rfl
theorem setV_len (v:List Int) (r n:Int):(setV v r n).length=max v.length r.toNat:=by unfold setV;simp
theorem vecS_plain {w:World} {S:Nat->Prop} {A:Option Addr} {xs:List Int} (h:VecS w S A xs):VecS w S A (ck xs):=λk hk=>by
 obtain⟨b,o,e,hS,hb,hc⟩:=h k (bS hk (pv_len xs))
 exact⟨b,o,e,hS,hb,λj hj=>by rw[hc j hj];simp only[pv_getD]⟩
theorem take_int (l:List Int) (k:Nat) (h:k<l.length):(l.take (k+1)).flatMap ip=(l.take k).flatMap ip++ip (l.getD k 0):=by
 rw[cW h,aK];have:l.getD k 0=l[k]:=by rw[ae,aw h];rfl
 rw[this];simp
def WithQ (r:List Int) (w:World) (e:Ending) (w':World):Prop:=Below w.heap.size w w'∧∃A c,e= .returned (.tuple #[.slice A r.length c,(0:Int)])∧VecS w' (λk=>w.heap.size<=k) A r∧r.length<=c∧c<=maxLen
theorem refwith_any (A:Option Addr) (c:Nat) (v:List Int) (r n:Int) (w:World) (hv:v.length<=1000) (U:1<=r) (ac:r<=16) (V:VecR w A v):
  Calls Tryz.prog 56 #[.slice A v.length c,r,n] w λe w'=>WithQ (eS v r n) w e w':=by
 obtain⟨a,s⟩:∃a,a=setV v r n:=⟨_,rfl⟩;have HW:=hid (show eS v r n=ck a by rw[s];rfl);have I:a.length=max v.length r.toNat:=by rw[s,setV_len]
 have J:=hid (show ∀k:Nat,a.getD k 0=if (k:Int)+1=r then n else v.getD k 0 from λk=>by rw[s];exact setV_getD v r n k U);obtain⟨m,R⟩:∃m,m=a.length:=⟨_,rfl⟩;have ad:m<=1000:=by omega
 have W:=hid (show m=max v.length r.toNat by rw[R,I]);have x:=hid R;have HA:=hid V;rw[HW.o];obtain⟨X,Y,K,L,M⟩:=bx infointC_;have t1:¬r<1:=by omega
 have t2:¬16<r:=by omega
 have t3:decide (r<1)=false:=aC t1;have t4:decide (16<r)=false:=aC t2;clear s I R V;go_enter Tryz.func56,Tryz.ntmps56;by_cases p:(v.length:Int)<r
 all_goals
  go_wp2_with fail;clear t3 t4;go_loopw [8,9] (λo i wr=>∃k:Nat,i= .int .i64 ((k:Int)+1)∧k<=m∧wr.ownsRow w.heap.size 3 1 o k ((a.take k).flatMap ip)∧Hid (Below w.heap.size w wr)) (λ_ i _=>m+1-(RowKit.intOf i).toNat)
  case atStart=>exact⟨0,by go_num,aq _,⟨rfl,.inl ⟨rfl,rfl⟩⟩,hid (ag _ _)⟩
  case round=>
   obtain⟨k,rfl,hk,t,f⟩:=hrel;have F:(v.length:Int)<r->((k:Int)+1<=r↔k<m):=λh=>by have:=W.o;omega
   have G:¬(v.length:Int)<r->((k:Int)+1<=(v.length:Int)↔k<m):=λh=>by have:=W.o;omega
   by_cases l:k<m
   ·first
     |(have z:=(F p).2 l)
     |(have z:=(G (Int.not_lt.2 p)).2 l)
    have td:=aI z;have N:=hid (take_int a k (by rw[<-x.o];exact l));have O:=hid (λg e=>(t.lt g e).1);have P:=hid t;have ae:=f.o.size;clear t F G;by_cases j:(k:Int)+1=r
    ·have s1:((k:Int)+1 == r)=true:=by rw[cf];exact j
     have S:=hid (show a.getD k 0=n by rw[J.o,aN j]);have af:=hid j;clear j;go_wp2_with (at_builtin;refine bv _ rfl _ _ 27 rfl w.heap.size 3 X (.int .i64 0) 1 8 jw Y K L M rfl (by decide) _ _ _ rfl (by exact P.o.alloc _) ⟨wr.heap.size,0,none⟩ 1 1 (ip n) rfl rfl (by exact dH _ _ _) (by exact ocintC_ _) (by unfold maxLen;omega) (by omega) (by simp;omega) ?_;intro v' w3 b d _;have B:=hid b;have C:=hid d;clear b d);go_roundw
     case rel=>exact⟨k+1,by go_num,by omega,by rw[N.o,S.o];exact B.o,hid ((f.o.alloc f.o.size _).grown C.o (f.o.alloc f.o.size _).size (λg e=>O.o g e))⟩
     case measure=>simp[RowKit.intOf];omega
    ·have s1:((k:Int)+1 == r)=false:=by rw[aL];exact j
     have S:=hid (show a.getD k 0=v.getD k 0 by rw[J.o,aE j]);have H:=eT A c v ((k:Int)+1) wr (by omega) (HA.o.below f.o);rw[show atV v ((k:Int)+1)=v.getD k 0 from kP] at H;obtain⟨y,T⟩:∃y,y=v.getD k 0:=⟨_,rfl⟩;rw[<-T] at H;have HY:=hid T;have Z:=hid H;clear j H T;go_wp2_with fail;refine Z.o.mono ?_;rintro e w1 ⟨rfl,rfl⟩;go_wp2_with (at_builtin;refine bv _ rfl _ _ 27 rfl w.heap.size 3 X (.int .i64 0) 1 8 jw Y K L M rfl (by decide) _ _ _ rfl (by exact P.o.alloc _) ⟨w1.heap.size,0,none⟩ 1 1 (ip y) rfl rfl (by exact dH _ _ _) (by exact ocintC_ _) (by unfold maxLen;omega) (by omega) (by simp;omega) ?_;intro v' w3 b d _;have B:=hid b;have C:=hid d;clear b d);go_roundw
     case rel=>exact⟨k+1,by go_num,by omega,by rw[N.o,S.o,<-HY.o];exact B.o,hid ((f.o.alloc f.o.size _).grown C.o (f.o.alloc f.o.size _).size (λg e=>O.o g e))⟩
     case measure=>simp[RowKit.intOf];omega
   ·obtain rfl:k=m:=by omega
    first
     |(have z:¬((k:Int)+1<=r):=λh=>l ((F p).1 h))
     |(have z:¬((k:Int)+1<=(v.length:Int)):=λh=>l ((G (Int.not_lt.2 p)).1 h))
    have td:=aC z;obtain⟨o,u,rfl⟩:=bU t;have D:wr.ownsRow w.heap.size 3 1 (.slice o a.length u) a.length (a.flatMap ip):=by
     have:=t;rw[x.o,aO] at this;exact this
    have E:=vec_own D;have q:=fw D;have aa:=hid E;have Q:=hid q;have ah:u<=9223372036854775807:=by have:=q.2;unfold maxLen at this;omega
    have ab:=hid (show Calls Tryz.prog 105 #[.slice o k u] wr λe w'=>e= .returned (.slice o (ck a).length u)∧w'=wr by have:=kI o u a wr q.1 (by omega) E.vec;rw[<-x.o] at this;exact this);clear t D E q l F G;go_wp2_with fail;refine ab.o.mono ?_;rintro e w1 ⟨rfl,rfl⟩;go_wp2;go_ret2;exact⟨f.o,o,u,rfl,vecS_plain aa.o,by have:=pv_len a;have:=Q.o.1;omega,Q.o.2⟩
theorem made_ints (n:Nat):madeCells #[Value.int .i64 0] n=(List.replicate n (Value.int .i64 0)).toArray:=by
 apply Array.ext_getElem?;intro i;unfold madeCells;by_cases h:i<n
 ·simp[h,Nat.mod_one]
 ·simp[h]
theorem splice_ints (v:List Int) (m:Nat) (h:v.length<=m) (j:Nat) (b:j<m):(splice (List.replicate m (Value.int .i64 0)) 0 (v.map (Value.int .i64)))[j]? =some (.int .i64 (v.getD j 0)):=by
 unfold splice;rw[iz,List.nil_append,cj,aV];by_cases a:j<v.length
 ·rw[eE (by simpa using a),dW,ae,aw a];rfl
 ·rw[dy (by simp;omega),aV,jG,List.getElem?_replicate,aN (by omega),ae,cz (by omega)];rfl
theorem with_any (A:Option Addr) (c:Nat) (v:List Int) (q:Nat) (n:Int) (w:World) (hv:v.length<=1000) (hr2:q<16) (hA:VecR w A v):
  Calls Tryz.prog 99 #[.slice A v.length c,.int .i64 ((q:Int)+1),n] w λe w'=>WithQ (eS v ((q:Int)+1) n) w e w':=by
 obtain⟨xs,hxs⟩:∃xs,xs=setV v ((q:Int)+1) n:=⟨_,rfl⟩;have HW:=hid (show eS v ((q:Int)+1) n=ck xs by rw[hxs];rfl);have hxl:xs.length=max v.length (q+1):=by rw[hxs,setV_len];congr 1
 have HXG:=hid (show ∀k:Nat,xs.getD k 0=if k=q then n else v.getD k 0 from λk=>by
  rw[hxs,setV_getD v _ n k (by omega)];by_cases h:k=q
  ·rw[aN h,aN (by omega)]
  ·rw[aE h,aE (by omega)])
 obtain⟨m,hm⟩:∃m,m=xs.length:=⟨_,rfl⟩;have hml:m<=1000:=by omega
 have hvm:v.length<=m:=by omega
 have hqm:q<m:=by omega
 have HM:=hid (show m=max v.length (q+1) by rw[hm,hxl]);have HXL:=hid hm;have HA:=hid hA;rw[HW.out];have t1:¬(q:Int)+1<1:=by omega
 have t2:¬(16:Int)<(q:Int)+1:=by omega
 have t3:decide ((q:Int)+1<1)=false:=aC t1;have t4:decide ((16:Int)<(q:Int)+1)=false:=aC t2;have t5:(0:Int)<=(q:Int):=by omega
 have t6:(q:Int)<(m:Int):=by omega
 have hmk:=run_make_row' (P:=Tryz.prog) 175 3 (.int .i64 0) 8 Tryz.underlying175 infoIw rfl .i64 .i64 m (by omega) (by omega);have hinf:(Tryz.prog.info? 3).map (·.size)=some 1:=by kernel_rfl
 clear hxs hxl hm hA;go_enter Tryz.func99,Tryz.ntmps99;have hmax:max (v.length:Int) ((q:Int)+1)=(m:Int):=by have:=HM.out;omega
 go_upto_region 4 with fail;have HV0:=hid (an w (.cells (madeCells #[Value.int .i64 0] m) 3));rw[made_ints] at HV0 ⊢;have HB0:=hid (show Below w.heap.size w (w.alloc (.cells (List.replicate m (Value.int .i64 0)).toArray 3)) from(ag _ _).alloc (aa _) _);generalize hV:w.alloc (.cells (List.replicate m (Value.int .i64 0)).toArray 3)=V0 at *;clear hV hmk;have hcl:(v.map (Value.int .i64)).length=Nat.min v.length m:=by rw[aV];exact(Nat.min_eq_left hvm).symm
 have hpos:0<(v.map (Value.int .i64)).length->(some (⟨w.heap.size,0,none⟩:Addr))=some ⟨w.heap.size,0,none⟩∧∃ad,A=some ad∧∀j u,(v.map (Value.int .i64))[j]? =some u->V0.cell? (ad.add j)=some u:=λh=>by
  rw[aV] at h;obtain⟨ad,e0,hb0,-⟩:=(HA.out.below HB0.out) 0 h;refine⟨rfl,ad,e0,λj u hu=> ?_⟩;have hj:j<v.length:=by have:=(eD.1 hu).1;simpa using this
  obtain⟨ad',e1,hb1,hc1⟩:=(HA.out.below HB0.out) j hj;rw[e0] at e1;cases e1;rw[hc1];rw[dW,aw hj] at hu;show some (Value.int .i64 (v.getD j 0))=some u;rw[ae,aw hj];exact hu
 have HPOS:=hid hpos;have HCL:=hid hcl;have h1c:∀u∈v.map (Value.int .i64),u.oneCell'=true:=λu hu=>by obtain⟨x,-,rfl⟩:=bN.1 hu;rfl
 have hfit:0+(v.map (Value.int .i64)).length<=(List.replicate m (Value.int .i64 0)).length:=by simp;exact hvm
 clear hpos hcl;go_upto_region 5 with(with_reducible refine wpList_copy_splice rfl _ _ 175 27 rfl 3 Tryz.underlying175 hinf (some ⟨w.heap.size,0,none⟩) A m m v.length c rfl rfl w.heap.size 0 (List.replicate m (Value.int .i64 0)) 3 HV0.out (v.map (Value.int .i64)) HCL.out HPOS.out hfit h1c w.heap.size w HB0.out (aa _) ?_;intro w1 HG1 hB1);have HB1:=hid hB1;have hcell:∀j,j<m->w1.cell? ⟨w.heap.size,j,none⟩=some (.int .i64 (v.getD j 0)):=λj hj=>by
  rw[crw HG1.out,List.getElem?_toArray];exact splice_ints v m hvm j hj
 have cq:=hcell q hqm;have fq:w1.frozen? ⟨w.heap.size,q,none⟩=false:=aS _ _ _ _ _ HG1.out;have hVR:VecR (w1.setCell ⟨w.heap.size,q,none⟩ (.int .i64 n)) (some ⟨w.heap.size,0,none⟩) xs:=λk hk=>by
  refine⟨⟨w.heap.size,0,none⟩,rfl,by have:=lt_of_block HG1.out;simp;exact this,?_⟩;show _=some (Value.int .i64 (xs.getD k 0));rw[ju,HXG.out];by_cases hkq:k=q
  ·subst hkq;rw[aN rfl];exact World.cell?_setCell_same _ _ _ cq
  ·rw[aE hkq];exact(fh _ _ _ _ (by intro e;injection e with _ e2;exact hkq e2.symm)).trans (hcell k (by have:=HXL.out;omega))
 have hVS:VecS (w1.setCell ⟨w.heap.size,q,none⟩ (.int .i64 n)) (λk=>w.heap.size<=k) (some ⟨w.heap.size,0,none⟩) xs:=λk hk=>by
  obtain⟨ad,e0,hb,hc⟩:=hVR k hk;cases e0;refine⟨w.heap.size,0,rfl,aa _,hb,λj hj=> ?_⟩;obtain rfl:j=0:=by omega
  rw[ju] at hc;simpa using hc
 have HVS:=hid (vecS_plain hVS)
 have HPL:=hid (show Calls Tryz.prog 157 #[.slice (some ⟨w.heap.size,0,none⟩) m m] (w1.setCell ⟨w.heap.size,q,none⟩ (.int .i64 n)) λe w'=>e= .returned (.slice (some ⟨w.heap.size,0,none⟩) (ck xs).length m)∧w'=w1.setCell ⟨w.heap.size,q,none⟩ (.int .i64 n) by
  have:=vplain_any (some ⟨w.heap.size,0,none⟩) m xs _ (by have:=HXL.out;omega) (by have:=HXL.out;omega) hVR
  rw[<-HXL.out] at this;exact this)
 clear hVS hVR hcell hB1 h1c hfit;go_wp2_with fail;refine HPL.out.mono ?_;rintro e w2 ⟨rfl,rfl⟩;go_wp2;go_ret2;exact⟨HB1.out.grown (di w.heap.size q (.int .i64 n)) HB1.out.size (λk e=>by cases e;exact aa _),some ⟨w.heap.size,0,none⟩,m,rfl,HVS.out,by have:=pv_len xs;have:=HXL.out;omega,by unfold maxLen;omega⟩
end
end Go.Proofs.YtkhmicndehlneaaGreatDoor
