/- Part 12 of the walks and plain laws that this claim uses, joined. Conditions: as each theorem states. -/
import Derived.Deep.AppendLies
import Derived.Deep.RegionLaw
import Derived.Laws.CopyOwn
import Derived.Test.YtkhmicndehlneaaGreatDoorYbk
namespace Go.Proofs.YtkhmicndehlneaaGreatDoor
set_option maxRecDepth 100000
set_option maxHeartbeats 16000000
set_option linter.unusedVariables false
section
open Go.RowKit Go.Lib Go.Sort
attribute [local go_sem ↓] Go.wp_at_zero Go.wp_at_succ
structure DcSt (w0:World) (b R O:Nat) (T:TypeId) (zc oc:Array Value) (s:ByteArray) (bad:Bool) (w:World):Prop where
 rdr:Rdr w b s bad
 res:w.heap[R]? =some (.cells zc T (0,0))
 obj:w.heap[O]? =some (.cells oc T (0,0))
 bel:Below w0.heap.size w0 w
 nb:w0.heap.size<=b
 nR:w0.heap.size<=R
 nO:w0.heap.size<=O
 Rb:R<b
 bO:b<O
section
variable {w0 w w' : World} {b R O : Nat} {T : TypeId} {zc oc : Array Value} {s s' : ByteArray} {bad bad' : Bool}
theorem DcSt.call (h:DcSt w0 b R O T zc oc s bad w) (hr:Rdr w' b s' bad') (hg:w.grownBy w' (some b)):DcSt w0 b R O T zc oc s' bad' w':=
 ⟨hr,(hg.block R (lt_of_block h.res) (by intro e;cases e;have:=h.Rb;omega)).trans h.res,(hg.block O (lt_of_block h.obj) (by intro e;cases e;have:=h.bO;omega)).trans h.obj,h.bel.grown hg h.bel.size (λk e=>by cases e;exact h.nb),h.nb,h.nR,h.nO,h.Rb,h.bO⟩
theorem DcSt.put (h:DcSt w0 b R O T zc oc s bad w) (c:Array Value):DcSt w0 b R O T zc c s bad (w.setRow O c):=by
 have a:=h.Rb;have d:=h.bO;exact⟨(setRow_other w O b c (by omega)).trans h.rdr,(setRow_other w O R c (by omega)).trans h.res,aM _ h.obj,Below.setRow' h.bel h.nO _,h.nb,h.nR,h.nO,h.Rb,h.bO⟩
theorem DcSt.cell (h:DcSt w0 b R O T zc oc s bad w) (i:Nat):w.cell? ⟨O,i,none⟩=oc[i]? :=aD _ _ _ _ _ _ h.obj
end
theorem vec_own {w:World} {B:Nat} {A:Option Addr} {c:Nat} {xs:List Int} {E:TypeId} (h:w.ownsRow B E 1 (.slice A xs.length c) xs.length (xs.flatMap iE)):VecS w (λk=>B<=k) A xs:=by
 refine jU h λk j a b=> ?_;rw[gG (s:=1) (λ_=>rfl) xs k j 0 a b];rcases j with _|j
 ·rfl
 ·omega
theorem ops_own {w:World} {B:Nat} {A:Option Addr} {c:Nat} {L:List (Gop×OpX)} {S:Nat->Prop} {E:TypeId} (h:w.ownsRow B E 18 (.slice A (L.map Prod.fst).length c) (L.map Prod.fst).length (L.flatMap opC_)) (hg:∀p∈L,OpGood w S p) (hS:∀k,S k->B<=k):OpsS w (λk=>B<=k) A (L.map Prod.fst):=by
 have l:(L.map Prod.fst).length=L.length:=by simp
 have a:∀k,(L.map Prod.fst).getD k (opO 0 .zero)=(L.getD k (opO 0 .zero,⟨none,0,none,0⟩)).1:=λk=>by
  rw[ae,ae,cT];cases L[k]? <;>rfl
 refine⟨λk=>(L.getD k (opO 0 .zero,⟨none,0,none,0⟩)).2,jU h λk j f e=> ?_,λk f=> ?_⟩
 ·rw[gG (s:=18) (λ_=>rfl) L k j (opO 0 .zero,⟨none,0,none,0⟩) (by omega) e,a];unfold opC_;rw[dz,Array.getD_eq_getD_getElem?];have:j<(opA (L.getD k (opO 0 .zero,⟨none,0,none,0⟩)).1 (L.getD k (opO 0 .zero,⟨none,0,none,0⟩)).2).size:=e;rw[dh this];rfl
 ·rw[a];have d:k<L.length:=by omega
  have g:L.getD k (opO 0 .zero,⟨none,0,none,0⟩)∈L:=by
   rw[ae,an d];exact bU d
  exact(hg _ g).1.sub λb _ i=>hS b i
def DecQ (r:Option Grp) (w:World) (e:Ending) (w':World):Prop:=Below w.heap.size w w'∧match r with
 |none=>e= .returned (.tuple #[.agg #[(0:Int),(0:Int),(0:Int),.slice none 0 0,(0:Int),(0:Int),.slice none 0 0],(80:Int)])
 |some g=>∃dA dc oA oc,e= .returned (.tuple #[.agg (grA g dA dc oA oc),(0:Int)])∧GrIn w' (λk=>w.heap.size<=k) g dA dc oA oc∧∀o∈g.ops,o.text.size<=1000000∧o.name.size<=1000000
theorem DecQ.no {r:Option Grp} (h:r=none) {w w':World} (hb:Below w.heap.size w w'):DecQ r w (.returned (.tuple #[.agg #[(0:Int),(0:Int),(0:Int),.slice none 0 0,(0:Int),(0:Int),.slice none 0 0],(80:Int)])) w':=by
 subst h;exact⟨hb,rfl⟩
theorem decode_any (s:ByteArray) (w:World) (hs:s.size<=1000000) (hTb:Tabs w):
  Calls Tryz.prog 44 #[s] w λe w'=>DecQ (decZ s.data.toList) w e w':=by
 obtain⟨r,hr⟩:∃r,r=decZ s.data.toList:=⟨_,rfl⟩;rw[<-hr];have R:=hid hr;have bp:=hid hTb;clear hr hTb;have S:=hid (bn (n:=w.heap.size+1) (w.alloc (.cells #[(0:Int),(0:Int),(0:Int),.slice none 0 0,(0:Int),(0:Int),.slice none 0 0] 45)) (.cells #[s,false] 133) (by simp));have az:=hid ((ax (w.alloc (.cells #[(0:Int),(0:Int),(0:Int),.slice none 0 0,(0:Int),(0:Int),.slice none 0 0] 45)) (.cells #[s,false] 133) w.heap.size (by simp)).trans (am w _));have U:=hid (show Below w.heap.size w ((w.alloc (.cells #[(0:Int),(0:Int),(0:Int),.slice none 0 0,(0:Int),(0:Int),.slice none 0 0] 45)).alloc (.cells #[s,false] 133)) from((ag _ _).alloc (aa _) _).alloc (by simp) _);go_enter Tryz.func44,Tryz.ntmps44;go_wp2_with fail;generalize y:(w.alloc (.cells #[(0:Int),(0:Int),(0:Int),.slice none 0 0,(0:Int),(0:Int),.slice none 0 0] 45)).alloc (.cells #[s,false] 133)=V0 at *;clear y;refine(ky (w.heap.size+1) s false V0 hs S.out).mono ?_;rintro e a ⟨⟨c,d⟩,v,s1,V,rfl,hv,aA,O,X⟩;obtain rfl:v= .agg #[c,d]:=hv;have aB:=eB X hs;have aC:=hid X;have bv:=lt_of_block S.out;have bw:w.heap.size+1<a.heap.size:=by have:=O.size;omega
 have aD:=hid ((O.block w.heap.size (by omega) (by intro e;injection e with e;omega)).trans az.out);have aE:=hid (U.out.grown O U.out.size (λk e=>by cases e;omega));have aF:=hid aA;clear X O aA;go_upto_region 3 with(first|(refine bM rfl _ _ _ rfl _ _ _ _ rfl ?_ rfl ?_ ?_ ?_ ?_;(focus(simp;done));kernel_rfl;rfl;rfl))
 have aG:DcSt w (w.heap.size+1) w.heap.size a.heap.size 45 #[(0:Int),(0:Int),(0:Int),.slice none 0 0,(0:Int),(0:Int),.slice none 0 0] #[c,d,(0:Int),.slice none 0 0,(0:Int),(0:Int),.slice none 0 0] s1 V (a.alloc (.cells #[c,d,(0:Int),.slice none 0 0,(0:Int),(0:Int),.slice none 0 0] 45)):=
  ⟨aF.out.kept (bi a _ none) (by simp),(ax _ _ _ (by omega)).trans aD.out,am _ _,aE.out.alloc (by omega) _,by omega,aa _,by omega,by omega,by omega⟩
 generalize y:a.alloc (.cells #[c,d,(0:Int),.slice none 0 0,(0:Int),(0:Int),.slice none 0 0] 45)=V1 at *;clear y aF aD aE U S az;have aI:=hid aG;clear aG;go_wp2_with fail;refine(fX (w.heap.size+1) s1 V V1 aB aI.out.rdr).mono ?_;rintro e y2 ⟨n,v,s2,bk,rfl,⟨rfl,hn⟩,aJ,aK,Y⟩;have aL:=eB Y aB;have Z:=hid (aI.out.call aJ aK);have aN:=hid Y;have HN:=hid hn;clear hn;clear aJ aK Y;go_upto_region 4 with(first|(refine dE rfl _ _ _ rfl a.heap.size 2 _ _ #[c,d,n,.slice none 0 0,(0:Int),(0:Int),.slice none 0 0] _ rfl Z.out.obj rfl ?_ ?_ ?_ rfl ?_;kernel_rfl;exact bJ rfl;rfl));have aO:=Z.out.put #[c,d,n,.slice none 0 0,(0:Int),(0:Int),.slice none 0 0];generalize y:y2.setRow a.heap.size #[c,d,n,.slice none 0 0,(0:Int),(0:Int),.slice none 0 0]=V2 at *;clear y;have ab:=hid aO;clear aO Z;go_wp2_with fail;refine(rmany_int (w.heap.size+1) s2 bk V2 aL ab.out.rdr).mono ?_;rintro e y3 ⟨j,v,s3,bl,rfl,hP,aP,aQ,ac⟩;obtain⟨⟨l,m,rfl⟩,G,hl,hx⟩:=hP;have aR:=eB ac aL;have ad:=hid (ab.out.call aP aQ);have aS:=hid ac;have bz:=lt_of_block ab.out.obj;have aT:=kB G;have y:=vec_own G;have aU:=hid hx;have aV:=hid (And.intro aT hl);clear hx G aT hl
 have ae:=hid ((y.sub (T:=λk=>a.heap.size<k) (λk _ h=>by have h:V2.heap.size<=k:=h;show a.heap.size<k;omega)).agr (Agr.setRow y3 a.heap.size #[c,d,n,.slice l j.length m,(0:Int),(0:Int),.slice none 0 0] (by show ¬a.heap.size<a.heap.size;omega)));clear aP aQ ac;go_upto_region 5 with(first|(refine dE rfl _ _ _ rfl a.heap.size 3 _ _ #[c,d,n,.slice l j.length m,(0:Int),(0:Int),.slice none 0 0] _ rfl ad.out.obj rfl ?_ ?_ ?_ rfl ?_;kernel_rfl;exact bJ rfl;rfl));have aW:=ad.out.put #[c,d,n,.slice l j.length m,(0:Int),(0:Int),.slice none 0 0];generalize y:y3.setRow a.heap.size #[c,d,n,.slice l j.length m,(0:Int),(0:Int),.slice none 0 0]=V3 at *;clear y;have aX:=hid aW;clear aW ad;clear y;go_wp2_with fail;refine(ky (w.heap.size+1) s3 bl V3 aR aX.out.rdr).mono ?_;rintro e y4 ⟨⟨q,t⟩,v,s4,bm,rfl,hv,aY,af,ah⟩;obtain rfl:v= .agg #[q,t]:=hv;have aZ:=eB ah aR;have ai:=hid (aX.out.call aY af);have a7:=hid ah;have aj:=hid ((ae.out.agr (Agr.grown af (λg e hS=>by cases e;have hS:a.heap.size<w.heap.size+1:=hS;omega))).agr (Agr.setRow y4 a.heap.size #[c,d,n,.slice l j.length m,q,t,.slice none 0 0] (by show ¬a.heap.size<a.heap.size;omega)));clear aY af ah;clear ae
 go_upto_region 6 with(first|(refine dE rfl _ _ _ rfl a.heap.size 4 _ _ #[c,d,n,.slice l j.length m,q,t,.slice none 0 0] _ rfl ai.out.obj rfl ?_ ?_ ?_ rfl ?_;kernel_rfl;exact bJ rfl;rfl));have a8:=ai.out.put #[c,d,n,.slice l j.length m,q,t,.slice none 0 0];generalize y:y4.setRow a.heap.size #[c,d,n,.slice l j.length m,q,t,.slice none 0 0]=V4 at *;clear y;have ak:=hid a8;clear a8 ai;go_wp2_with fail;refine(rmany_op (w.heap.size+1) s4 bm V4 aZ ak.out.rdr).mono ?_;rintro e y5 ⟨i,v,s5,bo,rfl,hP,a9,al,an⟩;obtain⟨OL,OS,bq,⟨z,A,rfl⟩,G,hl,C,ao⟩:=hP;have bA:=eB an aZ;have ap:=hid (ak.out.call a9 al);have ba:=hid an;have bx:=lt_of_block ak.out.obj;have bb:=kB G;subst bq;have bc:=ops_own G C (λk h=>(ao k h).1);have bd:=hid (And.intro bb hl);have be:=hid (show ∀o∈OL.map Prod.fst,o.text.size<=1000000∧o.name.size<=1000000 from λo ho=>by obtain⟨p,hp,rfl⟩:=bj.1 ho;exact⟨(C p hp).2.2,(C p hp).2.1⟩);clear G C ao bb hl;generalize OL.map Prod.fst=i at *;have aq:=hid ((aj.out.agr (Agr.grown al (λg e hS=>by cases e;have hS:a.heap.size<w.heap.size+1:=hS;omega))).agr (Agr.setRow y5 a.heap.size #[c,d,n,.slice l j.length m,q,t,.slice z i.length A] (by show ¬a.heap.size<a.heap.size;omega)))
 have ar:=hid ((bc.sub (T:=λk=>a.heap.size<k) (λk _ h=>by have h:V4.heap.size<=k:=h;show a.heap.size<k;omega)).agr (Agr.setRow y5 a.heap.size #[c,d,n,.slice l j.length m,q,t,.slice z i.length A] (by show ¬a.heap.size<a.heap.size;omega)));clear a9 al an;clear aj;go_upto_region 7 with(first|(refine dE rfl _ _ _ rfl a.heap.size 6 _ _ #[c,d,n,.slice l j.length m,q,t,.slice z i.length A] _ rfl ap.out.obj rfl ?_ ?_ ?_ rfl ?_;kernel_rfl;exact bJ rfl;rfl));have bf:=ap.out.put #[c,d,n,.slice l j.length m,q,t,.slice z i.length A];generalize y:y5.setRow a.heap.size #[c,d,n,.slice l j.length m,q,t,.slice z i.length A]=u at *;clear y;have b:=hid bf;clear bf ap;clear bc;have bg:=hid (RdIs.grp aC.out aN.out aS.out a7.out ba.out);have P:=hid (decZ_of bg.out);have br:0<=n:=HN.out.1;have bs:n<9223372036854775808:=HN.out.2;have hI:GrIn u (λk=>a.heap.size<k) ⟨⟨c,d⟩,n,j,⟨q,t⟩,i⟩ l m z A:=⟨aq.out,ar.out,aV.out.1.1,bd.out.1.1,aV.out.1.2,bd.out.1.2,(show i63 n from⟨by omega,by omega⟩),λx hx=>(by have h1:0<=x:=(aU.out x hx).1;have h2:x<9223372036854775808:=(aU.out x hx).2;exact⟨by omega,by omega⟩)⟩;have HI:=hid hI;clear hI br bs aC aN aS a7 ba aq ar bg;have b1:=b.out.rdr.c1;have b0:=b.out.rdr.c0
 have bh:∀(W:World),Below w.heap.size w W->r=none->DecQ r w (.returned (.tuple #[.agg #[(0:Int),(0:Int),(0:Int),.slice none 0 0,(0:Int),(0:Int),.slice none 0 0],(80:Int)])) W:=λW h1 h2=>DecQ.no h2 h1;have au:=hid bh;clear bh;cases bo with
 |true=>
  obtain rfl:r=none:=by rw[R.out,P.out];simp
  go_wp2_with (first|(refine da rfl _ _ _ rfl w.heap.size _ _ #[(0:Int),(0:Int),(0:Int),.slice none 0 0,(0:Int),(0:Int),.slice none 0 0] rfl rfl b.out.res ?_ ?_ ?_ ?_;kernel_rfl;rfl;rfl));have f:=hid (aM #[(0:Int),(0:Int),(0:Int),.slice none 0 0,(0:Int),(0:Int),.slice none 0 0] b.out.res);have H:=cw0 f.out;have I:=cw1 f.out;have J:=cw2 f.out;have K:=cw3 f.out;have L:=cw4 f.out;have M:=cw5 f.out;have N:=cw6 f.out;refine bB (v:= .tuple #[.agg #[(0:Int),(0:Int),(0:Int),.slice none 0 0,(0:Int),(0:Int),.slice none 0 0],(80:Int)]) (by simp[results,Tryz.results44,go_sem,H,I,J,K,L,M,N]) rfl ?_;exact au.out _ (Below.setRow' b.out.bel (aa _) _) (by first|rfl|trivial)
 | false=>
  by_cases Q:s5.data.toList=[]
  ·obtain rfl:s5=⟨#[]⟩:=gm.1 Q;have D:=check_any ⟨⟨c,d⟩,n,j,⟨q,t⟩,i⟩ l m z A (λk=>a.heap.size<k) u HI.out (λo ho=>by have:=(be.out o ho).1;omega) (bp.out.below b.out.bel);have av:=hid (show r=if chkB ⟨⟨c,d⟩,n,j,⟨q,t⟩,i⟩=true then some ⟨⟨c,d⟩,n,j,⟨q,t⟩,i⟩ else none by rw[R.out,P.out];simp);clear P;have a0:u.cell? ⟨a.heap.size,0,none⟩=some (.int .i64 c):=by rw[b.out.cell];rfl
   have a1:u.cell? ⟨a.heap.size,1,none⟩=some (.int .i64 d):=by rw[b.out.cell];rfl
   have a2:u.cell? ⟨a.heap.size,2,none⟩=some (.int .i64 n):=by rw[b.out.cell];rfl
   have a3:u.cell? ⟨a.heap.size,3,none⟩=some (.slice l j.length m):=by rw[b.out.cell];rfl
   have a4:u.cell? ⟨a.heap.size,4,none⟩=some (.int .i64 q):=by rw[b.out.cell];rfl
   have a5:u.cell? ⟨a.heap.size,5,none⟩=some (.int .i64 t):=by rw[b.out.cell];rfl
   have a6:u.cell? ⟨a.heap.size,6,none⟩=some (.slice z i.length A):=by rw[b.out.cell];rfl
   cases E:chkB ⟨⟨c,d⟩,n,j,⟨q,t⟩,i⟩ with
   | false=>
    rw[E] at D;obtain rfl:r=none:=by rw[av.out,E];rfl
    have aw:Hid (Calls Tryz.prog 48 #[.agg #[c,d,n,.slice l j.length m,q,t,.slice z i.length A]] u λe w'=>e= .returned (.int .i64 80)∧Below u.heap.size u w'):=D;clear D E
    go_upto_region 8 with(first
     |(refine cu rfl _ _ rfl a.heap.size _ _ _ rfl b.out.obj aH rfl ?_ ?_;kernel_rfl)
     |(go_at_call 48;refine aw.out.mono ?_;rintro e w6 ⟨rfl,B⟩))
    have F:=hid ((B.block w.heap.size (lt_of_block b.out.res)).trans b.out.res);have ay:=hid (b.out.bel.trans (B.mono b.out.bel.size));clear B;go_wp2_with (first|(refine da rfl _ _ _ rfl w.heap.size _ _ #[(0:Int),(0:Int),(0:Int),.slice none 0 0,(0:Int),(0:Int),.slice none 0 0] rfl rfl F.out ?_ ?_ ?_ ?_;kernel_rfl;rfl;rfl));have f:=hid (aM #[(0:Int),(0:Int),(0:Int),.slice none 0 0,(0:Int),(0:Int),.slice none 0 0] F.out);have H:=cw0 f.out;have I:=cw1 f.out;have J:=cw2 f.out;have K:=cw3 f.out;have L:=cw4 f.out;have M:=cw5 f.out;have N:=cw6 f.out;refine bB (v:= .tuple #[.agg #[(0:Int),(0:Int),(0:Int),.slice none 0 0,(0:Int),(0:Int),.slice none 0 0],(80:Int)]) (by simp[results,Tryz.results44,go_sem,H,I,J,K,L,M,N]) rfl ?_;exact au.out _ (Below.setRow' ay.out (aa _) _) (by first|rfl|trivial)
   | true=>
    rw[E] at D;obtain rfl:r=some ⟨⟨c,d⟩,n,j,⟨q,t⟩,i⟩:=by rw[av.out,E];rfl
    have aw:Hid (Calls Tryz.prog 48 #[.agg #[c,d,n,.slice l j.length m,q,t,.slice z i.length A]] u λe w'=>e= .returned (.int .i64 0)∧Below u.heap.size u w'):=D;clear D E
    go_upto_region 9 with(first
     |(refine cu rfl _ _ rfl a.heap.size _ _ _ rfl b.out.obj aH rfl ?_ ?_;kernel_rfl)
     |(go_at_call 48;refine aw.out.mono ?_;rintro e w6 ⟨rfl,B⟩))
    have F:=hid ((B.block w.heap.size (lt_of_block b.out.res)).trans b.out.res);have bt:=hid ((B.block a.heap.size (lt_of_block b.out.obj)).trans b.out.obj);have bu:=hid (HI.out.agr (Agr.below B));have ay:=hid (b.out.bel.trans (B.mono b.out.bel.size));clear B
    go_wp2_with (first
     |(refine lA bt aH ?_)
     |(refine da rfl _ _ _ rfl w.heap.size _ _ #[c,d,n,.slice l j.length m,q,t,.slice z i.length A] rfl rfl F.out ?_ ?_ ?_ ?_;kernel_rfl;rfl;rfl))
    have f:=hid (aM #[c,d,n,.slice l j.length m,q,t,.slice z i.length A] F.out);have H:=cw0 f.out;have I:=cw1 f.out;have J:=cw2 f.out;have K:=cw3 f.out;have L:=cw4 f.out;have M:=cw5 f.out;have N:=cw6 f.out;refine bB (v:= .tuple #[.agg #[c,d,n,.slice l j.length m,q,t,.slice z i.length A],(0:Int)]) (by simp[results,Tryz.results44,go_sem,H,I,J,K,L,M,N]) rfl ?_;refine⟨Below.setRow' ay.out (aa _) _,l,m,z,A,rfl,(bu.out.agr (Agr.setRow _ w.heap.size _ (by show ¬a.heap.size<w.heap.size;omega))).sub (λk _ h=>by have h:a.heap.size<k:=h;omega),be.out⟩
  ·obtain rfl:r=none:=by rw[R.out,P.out];simp[Q]
   have q1:¬s5.toList=[]:=by rw[str_nil];exact Q
   have q2:s5.toList.isEmpty=false:=by rw[List.isEmpty_eq_false_iff];exact q1
   clear Q;go_wp2_with (first|(refine da rfl _ _ _ rfl w.heap.size _ _ #[(0:Int),(0:Int),(0:Int),.slice none 0 0,(0:Int),(0:Int),.slice none 0 0] rfl rfl b.out.res ?_ ?_ ?_ ?_;kernel_rfl;rfl;rfl));have f:=hid (aM #[(0:Int),(0:Int),(0:Int),.slice none 0 0,(0:Int),(0:Int),.slice none 0 0] b.out.res);have H:=cw0 f.out;have I:=cw1 f.out;have J:=cw2 f.out;have K:=cw3 f.out;have L:=cw4 f.out;have M:=cw5 f.out;have N:=cw6 f.out;refine bB (v:= .tuple #[.agg #[(0:Int),(0:Int),(0:Int),.slice none 0 0,(0:Int),(0:Int),.slice none 0 0],(80:Int)]) (by simp[results,Tryz.results44,go_sem,H,I,J,K,L,M,N]) rfl ?_;exact au.out _ (Below.setRow' b.out.bel (aa _) _) (by first|rfl|trivial)
theorem infoIw:(Tryz.prog.info? 3).map (λi=>(i.zero,i.size,i.bytes))=some (some (.int .i64 0),1,8):=by kernel_rfl
theorem setV_len (v:List Int) (r n:Int):(setV v r n).length=max v.length r.toNat:=by unfold setV;simp
theorem vecS_plain {w:World} {S:Nat->Prop} {A:Option Addr} {xs:List Int} (h:VecS w S A xs):VecS w S A (bW xs):=λk hk=>by
 obtain⟨b,o,e,hS,hb,hc⟩:=h k (bC hk (pv_len xs))
 exact⟨b,o,e,hS,hb,λj hj=>by rw[hc j hj];simp only[pv_getD]⟩
theorem take_int (l:List Int) (k:Nat) (h:k<l.length):(l.take (k+1)).flatMap iE=(l.take k).flatMap iE++iE (l.getD k 0):=by
 rw[cv h,aI];have:l.getD k 0=l[k]:=by rw[ae,an h];rfl
 rw[this];simp
def WithQ (r:List Int) (w:World) (e:Ending) (w':World):Prop:=Below w.heap.size w w'∧∃A c,e= .returned (.tuple #[.slice A r.length c,(0:Int)])∧VecS w' (λk=>w.heap.size<=k) A r∧r.length<=c∧c<=maxLen
theorem refwith_any (A:Option Addr) (c:Nat) (v:List Int) (r n:Int) (w:World) (hv:v.length<=1000) (hr1:1<=r) (hr2:r<=16) (hA:VecR w A v):
  Calls Tryz.prog 56 #[.slice A v.length c,r,n] w λe w'=>WithQ (eE v r n) w e w':=by
 obtain⟨a,s⟩:∃a,a=setV v r n:=⟨_,rfl⟩;have HW:=hid (show eE v r n=bW a by rw[s];rfl);have I:a.length=max v.length r.toNat:=by rw[s,setV_len]
 have J:=hid (show ∀k:Nat,a.getD k 0=if (k:Int)+1=r then n else v.getD k 0 from λk=>by rw[s];exact setV_getD v r n k hr1);obtain⟨m,R⟩:∃m,m=a.length:=⟨_,rfl⟩;have ab:m<=1000:=by omega
 have U:=hid (show m=max v.length r.toNat by rw[R,I]);have x:=hid R;have HA:=hid hA;rw[HW.out];obtain⟨V,W,K,L,M⟩:=bD infointC_;have t1:¬r<1:=by omega
 have t2:¬16<r:=by omega
 have t3:decide (r<1)=false:=aE t1;have t4:decide (16<r)=false:=aE t2;clear s I R hA;go_enter Tryz.func56,Tryz.ntmps56;by_cases p:(v.length:Int)<r
 all_goals
  go_wp2_with fail;clear t3 t4;go_loopw [8,9] (λo i wr=>∃k:Nat,i= .int .i64 ((k:Int)+1)∧k<=m∧wr.ownsRow w.heap.size 3 1 o k ((a.take k).flatMap iE)∧Hid (Below w.heap.size w wr)) (λ_ i _=>m+1-(RowKit.intOf i).toNat)
  case atStart=>exact⟨0,by go_num,aq _,⟨rfl,.inl ⟨rfl,rfl⟩⟩,hid (ag _ _)⟩
  case round=>
   obtain⟨k,rfl,hk,t,f⟩:=hrel;have F:(v.length:Int)<r->((k:Int)+1<=r↔k<m):=λh=>by have:=U.out;omega
   have G:¬(v.length:Int)<r->((k:Int)+1<=(v.length:Int)↔k<m):=λh=>by have:=U.out;omega
   by_cases l:k<m
   ·first
     |(have z:=(F p).2 l)
     |(have z:=(G (Int.not_lt.2 p)).2 l)
    have td:=aN z;have N:=hid (take_int a k (by rw[<-x.out];exact l));have O:=hid (λg e=>(t.lt g e).1);have P:=hid t;have ac:=f.out.size;clear t F G;by_cases j:(k:Int)+1=r
    ·have s1:((k:Int)+1 == r)=true:=by rw[ce];exact j
     have S:=hid (show a.getD k 0=n by rw[J.out,aJ j]);have ad:=hid j;clear j;go_wp2_with (at_builtin;refine bu _ rfl _ _ 27 rfl w.heap.size 3 V (.int .i64 0) 1 8 Tryz.underlying27 W K L M rfl (by decide) _ _ _ rfl (by exact P.out.alloc _) ⟨wr.heap.size,0,none⟩ 1 1 (iE n) rfl rfl (by exact dH _ _ _) (by exact ocintC_ _) (by unfold maxLen;omega) (by omega) (by simp;omega) ?_;intro v' w3 b d _;have B:=hid b;have C:=hid d;clear b d);go_roundw
     case rel=>exact⟨k+1,by go_num,by omega,by rw[N.out,S.out];exact B.out,hid ((f.out.alloc f.out.size _).grown C.out (f.out.alloc f.out.size _).size (λg e=>O.out g e))⟩
     case measure=>simp[RowKit.intOf];omega
    ·have s1:((k:Int)+1 == r)=false:=by rw[aV];exact j
     have S:=hid (show a.getD k 0=v.getD k 0 by rw[J.out,aC j]);have H:=fh A c v ((k:Int)+1) wr (by omega) (HA.out.below f.out);rw[show atV v ((k:Int)+1)=v.getD k 0 from kG] at H;obtain⟨y,T⟩:∃y,y=v.getD k 0:=⟨_,rfl⟩;rw[<-T] at H;have HY:=hid T;have X:=hid H;clear j H T;go_wp2_with fail;refine X.out.mono ?_;rintro e Y ⟨rfl,rfl⟩;go_wp2_with (at_builtin;refine bu _ rfl _ _ 27 rfl w.heap.size 3 V (.int .i64 0) 1 8 Tryz.underlying27 W K L M rfl (by decide) _ _ _ rfl (by exact P.out.alloc _) ⟨Y.heap.size,0,none⟩ 1 1 (iE y) rfl rfl (by exact dH _ _ _) (by exact ocintC_ _) (by unfold maxLen;omega) (by omega) (by simp;omega) ?_;intro v' w3 b d _;have B:=hid b;have C:=hid d;clear b d);go_roundw
     case rel=>exact⟨k+1,by go_num,by omega,by rw[N.out,S.out,<-HY.out];exact B.out,hid ((f.out.alloc f.out.size _).grown C.out (f.out.alloc f.out.size _).size (λg e=>O.out g e))⟩
     case measure=>simp[RowKit.intOf];omega
   ·obtain rfl:k=m:=by omega
    first
     |(have z:¬((k:Int)+1<=r):=λh=>l ((F p).1 h))
     |(have z:¬((k:Int)+1<=(v.length:Int)):=λh=>l ((G (Int.not_lt.2 p)).1 h))
    have td:=aE z;obtain⟨o,u,rfl⟩:=bZ t;have D:wr.ownsRow w.heap.size 3 1 (.slice o a.length u) a.length (a.flatMap iE):=by
     have:=t;rw[x.out,aK] at this;exact this
    have E:=vec_own D;have q:=kB D;have Z:=hid E;have Q:=hid q;have ae:u<=9223372036854775807:=by have:=q.2;unfold maxLen at this;omega
    have aa:=hid (show Calls Tryz.prog 105 #[.slice o k u] wr λe w'=>e= .returned (.slice o (bW a).length u)∧w'=wr by have:=kz o u a wr q.1 (by omega) E.vec;rw[<-x.out] at this;exact this);clear t D E q l F G;go_wp2_with fail;refine aa.out.mono ?_;rintro e Y ⟨rfl,rfl⟩;go_wp2;go_ret2;exact⟨f.out,o,u,rfl,vecS_plain Z.out,by have:=pv_len a;have:=Q.out.1;omega,Q.out.2⟩
theorem made_ints (n:Nat):madeCells #[Value.int .i64 0] n=(List.replicate n (Value.int .i64 0)).toArray:=by
 apply Array.ext_getElem?;intro i;unfold madeCells;by_cases h:i<n
 ·simp[h,Nat.mod_one]
 ·simp[h]
theorem splice_ints (v:List Int) (m:Nat) (h:v.length<=m) (j:Nat) (hj:j<m):(splice (List.replicate m (Value.int .i64 0)) 0 (v.map (Value.int .i64)))[j]? =some (.int .i64 (v.getD j 0)):=by
 unfold splice;rw[iu,List.nil_append,bN,aQ];by_cases a:j<v.length
 ·rw[es (by simpa using a),cT,ae,an a];rfl
 ·rw[cY (by simp;omega),aQ,jC,List.getElem?_replicate,aJ (by omega),ae,ck (by omega)];rfl
theorem with_any (A:Option Addr) (c:Nat) (v:List Int) (q:Nat) (n:Int) (w:World) (hv:v.length<=1000) (hr2:q<16) (hA:VecR w A v):
  Calls Tryz.prog 99 #[.slice A v.length c,.int .i64 ((q:Int)+1),n] w λe w'=>WithQ (eE v ((q:Int)+1) n) w e w':=by
 obtain⟨a,f⟩:∃a,a=setV v ((q:Int)+1) n:=⟨_,rfl⟩;have Z:=hid (show eE v ((q:Int)+1) n=bW a by rw[f];rfl);have D:a.length=max v.length (q+1):=by rw[f,setV_len];congr 1
 have N:=hid (show ∀k:Nat,a.getD k 0=if k=q then n else v.getD k 0 from λk=>by
  rw[f,setV_getD v _ n k (by omega)];by_cases h:k=q
  ·rw[aJ h,aJ (by omega)]
  ·rw[aC h,aC (by omega)])
 obtain⟨m,K⟩:∃m,m=a.length:=⟨_,rfl⟩;have ac:m<=1000:=by omega
 have l:v.length<=m:=by omega
 have O:q<m:=by omega
 have HM:=hid (show m=max v.length (q+1) by rw[K,D]);have d:=hid K;have Q:=hid hA;rw[Z.out];have t1:¬(q:Int)+1<1:=by omega
 have t2:¬(16:Int)<(q:Int)+1:=by omega
 have t3:decide ((q:Int)+1<1)=false:=aE t1;have t4:decide ((16:Int)<(q:Int)+1)=false:=aE t2;have t5:(0:Int)<=(q:Int):=by omega
 have t6:(q:Int)<(m:Int):=by omega
 have R:=run_make_row' (P:=Tryz.prog) 175 3 (.int .i64 0) 8 Tryz.underlying175 infoIw rfl .i64 .i64 m (by omega) (by omega);have L:(Tryz.prog.info? 3).map (·.size)=some 1:=by kernel_rfl
 clear f D K hA;go_enter Tryz.func99,Tryz.ntmps99;have ab:max (v.length:Int) ((q:Int)+1)=(m:Int):=by have:=HM.out;omega
 go_upto_region 4 with fail;have E:=hid (am w (.cells (madeCells #[Value.int .i64 0] m) 3));rw[made_ints] at E ⊢;have o:=hid (show Below w.heap.size w (w.alloc (.cells (List.replicate m (Value.int .i64 0)).toArray 3)) from(ag _ _).alloc (aa _) _);generalize hV:w.alloc (.cells (List.replicate m (Value.int .i64 0)).toArray 3)=V0 at *;clear hV R;have F:(v.map (Value.int .i64)).length=Nat.min v.length m:=by rw[aQ];exact(Nat.min_eq_left l).symm
 have p:0<(v.map (Value.int .i64)).length->(some (⟨w.heap.size,0,none⟩:Addr))=some ⟨w.heap.size,0,none⟩∧∃r,A=some r∧∀j u,(v.map (Value.int .i64))[j]? =some u->V0.cell? (r.add j)=some u:=λh=>by
  rw[aQ] at h;obtain⟨r,C,af,-⟩:=(Q.out.below o.out) 0 h;refine⟨rfl,r,C,λj u s=> ?_⟩;have g:j<v.length:=by have:=(ep.1 s).1;simpa using this
  obtain⟨ah,S,ai,T⟩:=(Q.out.below o.out) j g;rw[C] at S;cases S;rw[T];rw[cT,an g] at s;show some (Value.int .i64 (v.getD j 0))=some u;rw[ae,an g];exact s
 have M:=hid p;have U:=hid F;have G:∀u∈v.map (Value.int .i64),u.oneCell'=true:=λu s=>by obtain⟨x,-,rfl⟩:=bj.1 s;rfl
 have t:0+(v.map (Value.int .i64)).length<=(List.replicate m (Value.int .i64 0)).length:=by simp;exact l
 clear p F;go_upto_region 5 with(with_reducible refine wpList_copy_splice rfl _ _ 175 27 rfl 3 Tryz.underlying175 L (some ⟨w.heap.size,0,none⟩) A m m v.length c rfl rfl w.heap.size 0 (List.replicate m (Value.int .i64 0)) 3 E.out (v.map (Value.int .i64)) U.out M.out t G w.heap.size w o.out (aa _) ?_;intro i y H);have I:=hid H;have b:∀j,j<m->i.cell? ⟨w.heap.size,j,none⟩=some (.int .i64 (v.getD j 0)):=λj g=>by
  rw[crw y.out,List.getElem?_toArray];exact splice_ints v m l j g
 have cq:=b q O;have fq:i.frozen? ⟨w.heap.size,q,none⟩=false:=aW _ _ _ _ _ y.out;have z:VecR (i.setCell ⟨w.heap.size,q,none⟩ (.int .i64 n)) (some ⟨w.heap.size,0,none⟩) a:=λk V=>by
  refine⟨⟨w.heap.size,0,none⟩,rfl,by have:=lt_of_block y.out;simp;exact this,?_⟩;show _=some (Value.int .i64 (a.getD k 0));rw[jm,N.out];by_cases B:k=q
  ·subst B;rw[aJ rfl];exact World.cell?_setCell_same _ _ _ cq
  ·rw[aC B];exact(eY _ _ _ _ (by intro e;injection e with _ e2;exact B e2.symm)).trans (b k (by have:=d.out;omega))
 have J:VecS (i.setCell ⟨w.heap.size,q,none⟩ (.int .i64 n)) (λk=>w.heap.size<=k) (some ⟨w.heap.size,0,none⟩) a:=λk V=>by
  obtain⟨r,C,hb,W⟩:=z k V;cases C;refine⟨w.heap.size,0,rfl,aa _,hb,λj g=> ?_⟩;obtain rfl:j=0:=by omega
  rw[jm] at W;simpa using W
 have X:=hid (vecS_plain J)
 have Y:=hid (show Calls Tryz.prog 157 #[.slice (some ⟨w.heap.size,0,none⟩) m m] (i.setCell ⟨w.heap.size,q,none⟩ (.int .i64 n)) λe w'=>e= .returned (.slice (some ⟨w.heap.size,0,none⟩) (bW a).length m)∧w'=i.setCell ⟨w.heap.size,q,none⟩ (.int .i64 n) by
  have:=vplain_any (some ⟨w.heap.size,0,none⟩) m a _ (by have:=d.out;omega) (by have:=d.out;omega) z
  rw[<-d.out] at this;exact this)
 clear J z b H G t;go_wp2_with fail;refine Y.out.mono ?_;rintro e w2 ⟨rfl,rfl⟩;go_wp2;go_ret2;exact⟨I.out.grown (eF w.heap.size q (.int .i64 n)) I.out.size (λk e=>by cases e;exact aa _),some ⟨w.heap.size,0,none⟩,m,rfl,X.out,by have:=pv_len a;have:=d.out;omega,by unfold maxLen;omega⟩
theorem bx_grow {w W:World} {B:Nat} (h:Below B w W) (hB:B<=W.heap.size) (d:Nat) (os:Array Obj):Below B w (grow (redrawn W d) os):=h.trans ((bE W d os).mono hB)
theorem bxready_any {B P:Nat} {S S2:Nat->Prop} {dn mp wt:List Grp} {v:List Int} {X:BoxX} {w:World} (h:BoxIn B P S dn mp wt v X w) (g:Grp) (x:GrX) (hG:GrG w S2 (g,x)) (hdl:g.deps.length<=1000):
  Calls Tryz.prog 50 #[.pointer (some ⟨P,0,none⟩),.agg (grA g x.dA x.dc x.oA x.oc)] w λe w'=>e= .returned (.bool (fp v g))∧Below w.heap.size w w':=by
 obtain⟨⟨t,r⟩,n,u,⟨f,i⟩,a⟩:=g;obtain⟨dA,dc,oA,oc⟩:=x;obtain⟨o,c⟩:∃b,b=fp v ⟨⟨t,r⟩,n,u,⟨f,i⟩,a⟩:=⟨_,rfl⟩;rw[<-c];have k:Below w.heap.size w (w.alloc (.cells #[t,r,n,.slice dA u.length dc,f,i,.slice oA a.length oc] 45)):=(ag _ _).alloc (aa _) _;have p:u.length<=9223372036854775806:=by have F:u.length<=1000:=hdl;omega
 have l:∀W,Below w.heap.size w W->Calls Tryz.prog 98 #[.slice X.vA v.length X.vc,.slice dA u.length dc] W λe w'=>e= .returned (.bool o)∧Below W.heap.size W w':=λW q=>
  (covers_any X.vA dA X.vc dc v u W (by have:=h.vlen;omega) p (VecS.vec (show VecS W S X.vA v from RowG.agr h.vec (Agr.below q))) (VecS.vec (show VecS W S2 dA u from RowG.agr hG.deps (Agr.below q)))).mono (by rintro e w' ⟨rfl,rfl⟩;exact⟨by rw[c];rfl,ag _ _⟩)
 have s:=hid l;have y:=hid (am w (.cells #[t,r,n,.slice dA u.length dc,f,i,.slice oA a.length oc] 45));have m:=h.below k;have D:=hid m.obj;have j:=hid k;show Calls _ _ #[.pointer (some ⟨P,0,none⟩),.agg #[t,r,n,.slice dA u.length dc,f,i,.slice oA a.length oc]] _ _;clear l hG h c m hdl;go_enter Tryz.func50,Tryz.ntmps50;go_upto_region 1 with fail;generalize E:w.alloc (.cells #[t,r,n,.slice dA u.length dc,f,i,.slice oA a.length oc] 45)=W at *;clear E;have G:=rg3 D.out;have H:=rg2 y.out;have I:=rg3 y.out;have z:=λd A=>ay (s.out (grow (redrawn W d) A) (bx_grow j.out j.out.size d A));refine rqb ?_
 repeat(any_goals(first|go_big_quiet_step (with_reducible exact z _ _)|quiet_step (with_reducible exact z _ _)))
 refine qz λJ C=> ?_;go_wp2;go_ret;exact⟨rfl,j.out.trans (C.mono j.out.size)⟩
theorem bxold_any {B P:Nat} {S S2:Nat->Prop} {dn mp wt:List Grp} {v:List Int} {X:BoxX} {w:World} (h:BoxIn B P S dn mp wt v X w) (g:Grp) (x:GrX):
  Calls Tryz.prog 95 #[.pointer (some ⟨P,0,none⟩),.agg (grA g x.dA x.dc x.oA x.oc)] w λe w'=>e= .returned (.bool (oldB v g))∧Below w.heap.size w w':=by
 obtain⟨⟨t,r⟩,n,u,⟨f,i⟩,a⟩:=g;obtain⟨dA,dc,oA,oc⟩:=x;obtain⟨z,o⟩:∃z,z=atV v r:=⟨_,rfl⟩;obtain⟨p,c⟩:∃b,b=oldB v ⟨⟨t,r⟩,n,u,⟨f,i⟩,a⟩:=⟨_,rfl⟩;have G:decide (n<=z)=p:=by rw[c,o];rfl
 rw[<-c];have k:Below w.heap.size w (w.alloc (.cells #[t,r,n,.slice dA u.length dc,f,i,.slice oA a.length oc] 45)):=(ag _ _).alloc (aa _) _;have l:∀W,Below w.heap.size w W->Calls Tryz.prog 63 #[.slice X.vA v.length X.vc,r] W λe w'=>e= .returned (.int .i64 z)∧Below W.heap.size W w':=λW D=>
  (at_any X.vA X.vc v r W (by have:=h.vlen;omega) (VecS.vec (show VecS W S X.vA v from RowG.agr h.vec (Agr.below D)))).mono (by rintro e w' ⟨rfl,rfl⟩;exact⟨by rw[o],ag _ _⟩)
 have q:=hid l;have s:=hid (am w (.cells #[t,r,n,.slice dA u.length dc,f,i,.slice oA a.length oc] 45));have m:=h.below k;have E:=hid m.obj;have j:=hid k;show Calls _ _ #[.pointer (some ⟨P,0,none⟩),.agg #[t,r,n,.slice dA u.length dc,f,i,.slice oA a.length oc]] _ _;clear l h c m o;go_enter Tryz.func95,Tryz.ntmps95;go_upto_region 1 with fail;generalize F:w.alloc (.cells #[t,r,n,.slice dA u.length dc,f,i,.slice oA a.length oc] 45)=W at *;clear F;have H:=rg3 E.out;have I:=rg1 s.out;have J:=rg2 s.out;have y:=λd A=>ay (q.out (grow (redrawn W d) A) (bx_grow j.out j.out.size d A));refine rqb ?_
 repeat(any_goals(first|go_big_quiet_step (with_reducible exact y _ _)|quiet_step (with_reducible exact y _ _)))
 refine qz λK C=> ?_;go_wp2;go_ret;exact⟨rfl,j.out.trans (C.mono j.out.size)⟩
theorem bxclash_any (a g:Grp) (x y:GrX) (gb:Nat) (w:World) (hC:w.heap[gb]? =some (.cells (grA g y.dA y.dc y.oA y.oc) 45 (0,0))):
  Calls Tryz.prog 97 #[.agg (grA a x.dA x.dc x.oA x.oc),.pointer (some ⟨gb,0,none⟩)] w λe w'=>e= .returned (.bool (fB a g))∧Below w.heap.size w w':=by
 obtain⟨⟨t,r⟩,n,u,⟨f,h⟩,c⟩:=a;obtain⟨⟨l,i⟩,m,F,⟨C,D⟩,o⟩:=g;obtain⟨dA,dc,oA,oc⟩:=x;obtain⟨I,J,K,L⟩:=y;obtain⟨p,q⟩:∃b,b=decide (r=i):=⟨_,rfl⟩;obtain⟨s,v⟩:∃b,b=decide (n=m):=⟨_,rfl⟩;obtain⟨z,A⟩:∃b,Gst.eqb ⟨t,r⟩ ⟨l,i⟩=b:=⟨_,rfl⟩;have M:(r == i)=p:=by rw[q];rfl
 have N:(n == m)=s:=by rw[v];rfl
 have O:=eq_st t r l i z A;obtain⟨E,d⟩:∃b,b=fB ⟨⟨t,r⟩,n,u,⟨f,h⟩,c⟩ ⟨⟨l,i⟩,m,F,⟨C,D⟩,o⟩:=⟨_,rfl⟩;have B:=hid (show E=((p && s) || z) by rw[d,q,v,<-A];rfl);rw[<-d];have G:=hid (show Below w.heap.size w (w.alloc (.cells #[t,r,n,.slice dA u.length dc,f,h,.slice oA c.length oc] 45)) from(ag _ _).alloc (aa _) _);have j:=hid (am w (.cells #[t,r,n,.slice dA u.length dc,f,h,.slice oA c.length oc] 45));have k:=hid ((ax w (.cells #[t,r,n,.slice dA u.length dc,f,h,.slice oA c.length oc] 45) _ (lt_of_block hC)).trans hC);show Calls _ _ #[.agg #[t,r,n,.slice dA u.length dc,f,h,.slice oA c.length oc],.pointer (some ⟨gb,0,none⟩)] _ _;clear d q v A hC;cases p
 all_goals
  cases s
  all_goals
   cases z
   all_goals
    go_enter Tryz.func97,Tryz.ntmps97;go_upto_region 1 with fail;generalize H:w.alloc (.cells #[t,r,n,.slice dA u.length dc,f,h,.slice oA c.length oc] 45)=W at *;clear H;have P:=cw0 j.out;have Q:=cw1 j.out;have R:=cw2 j.out;have S:=cw0 k.out;have T:=cw1 k.out;have U:=cw2 k.out;go_wp2;go_ret;exact⟨dk (by rw[B.out];rfl),G.out⟩
theorem bxindex_any (A:Option Addr) (c:Nat) (M:List (Grp×GrX)) (g:Grp) (y:GrX) (gb:Nat) (w:World) (hl:M.length<=1000000) (hR:RowGr w A M) (hC:w.heap[gb]? =some (.cells (grA g y.dA y.dc y.oA y.oc) 45 (0,0))):
  Calls Tryz.prog 118 #[.slice A M.length c,.func (Fn.func 97) #[] #[.pointer (some ⟨gb,0,none⟩)]] w λe w'=>(∃z:Int,e= .returned (.int .i64 z)∧decide (0<=z)=(M.map Prod.fst).any (λa=>fB a g))∧Below w.heap.size w w':=by
 obtain⟨m,J⟩:∃m,m=M.length:=⟨_,rfl⟩;rw[<-J];obtain⟨aa,l⟩:∃b,b=(M.map Prod.fst).any (λa=>fB a g):=⟨_,rfl⟩;rw[<-l];have o:=hid l;clear l;have S:=hid hR;have N:=hid hC;have K:=hid J;have T:m<=1000000:=by omega
 clear hR hC J hl;go_enter Tryz.func118,Tryz.ntmps118;go_wp2;go_loopw [8] (λi wr=>∃k:Nat,i= .int .i64 k∧k<=m∧Hid (Below w.heap.size w wr)∧Hid (∀j,j<k->fB (M.getD j gp0).1 g=false)) (λi _=>m-(RowKit.intOf i).toNat)
 case atStart=>exact⟨0,rfl,aq _,hid (ag _ _),hid (λj s=>absurd s (cG j))⟩
 case round=>
  obtain⟨k,rfl,hk,v,O⟩:=hrel;by_cases F:k<m
  ·obtain⟨U,V,rfl,ab,d⟩:=RowGr.range (RowGr.below S.out v.out) (k:=k) (by rw[<-K.out];exact F);have W:(0:Int)<=(k:Int):=by omega
   have X:(k:Int)<(m:Int):=by omega
   obtain⟨p,E⟩:∃p,p=M.getD k gp0:=⟨_,rfl⟩;rw[<-E] at d;have HP:=hid E;obtain⟨a,x⟩:=p;obtain⟨b,L⟩:∃b,b=fB a g:=⟨_,rfl⟩;have B:=hid (bxclash_any a g x y gb wr ((v.out.block gb (lt_of_block N.out)).trans N.out));rw[<-L] at B;have G:=hid (show fB (M.getD k gp0).1 g=b by rw[<-E,L]);clear L E;obtain⟨⟨t,r⟩,n,u,⟨P,Q⟩,H⟩:=a;obtain⟨dA,dc,oA,oc⟩:=x;have I:=hid (show wr.rangeAt U (V+k*7) [t,r,n,.slice dA u.length dc,P,Q,.slice oA H.length oc] from d);have C:Hid (Calls Tryz.prog 97 #[.agg #[t,r,n,.slice dA u.length dc,P,Q,.slice oA H.length oc],.pointer (some ⟨gb,0,none⟩)] wr λe w'=>e= .returned (.bool b)∧Below wr.heap.size wr w'):=B;clear d B;cases b with
   | true=>
    go_wp2_with (first
     |(refine lM I aH ?_)
     |(go_at_call 97;refine C.out.mono ?_;rintro e Y ⟨rfl,f⟩))
    have D:=bT v f;clear f;go_ret;refine⟨⟨(k:Int),rfl,?_⟩,D.out⟩;rw[aN W,o.out];symm;rw[dV];refine⟨(M.getD k gp0).1,bj.2 ⟨M.getD k gp0,?_,rfl⟩,G.out⟩;rw[ae,an (by rw[<-K.out];exact F)];exact bU _
   | false=>
    have R:=hid (show ∀j,j<k+1->fB (M.getD j gp0).1 g=false from λj s=>if h:j<k then O.out j h else (by(obtain rfl:j=k:=(by omega));exact G.out))
    go_wp2_with (first
     |(refine lM I aH ?_)
     |(go_at_call 97;refine C.out.mono ?_;rintro e Y ⟨rfl,f⟩))
    have D:=bT v f;clear f;exact⟨⟨k+1,by go_num,by omega,D,R⟩,by simp[RowKit.intOf];omega⟩
  ·obtain rfl:k=m:=by omega
   have X:¬(k:Int)<(k:Int):=by omega
   go_wp2;go_ret;refine⟨⟨-1,by rfl,?_⟩,v.out⟩;rw[show decide ((0:Int)<= -1)=false from rfl,o.out];symm;rw[List.any_eq_false];intro a Z;obtain⟨q,hq,rfl⟩:=bj.1 Z;obtain⟨j,s,rfl⟩:=dj.1 hq;have:=O.out j (by rw[K.out];exact s);rw[ae,an s] at this;rw[show(M[j]).1=((some M[j]).getD gp0).1 from rfl,this];decide
theorem bxcontains_any (A:Option Addr) (c:Nat) (M:List (Grp×GrX)) (g:Grp) (y:GrX) (gb:Nat) (w:World) (hl:M.length<=1000000) (hR:RowGr w A M) (hC:w.heap[gb]? =some (.cells (grA g y.dA y.dc y.oA y.oc) 45 (0,0))):
  Calls Tryz.prog 96 #[.slice A M.length c,.func (Fn.func 97) #[] #[.pointer (some ⟨gb,0,none⟩)]] w λe w'=>e= .returned (.bool ((M.map Prod.fst).any (λa=>fB a g)))∧Below w.heap.size w w':=by
 have b:=hid (bxindex_any A c M g y gb w hl hR hC);generalize (M.map Prod.fst).any (λa=>fB a g)=f at *;clear hl hR hC;go_enter Tryz.func96,Tryz.ntmps96;go_wp2_with fail;refine b.out.mono ?_;rintro e h ⟨⟨z,rfl,i⟩,d⟩;go_wp2;go_ret;exact⟨rfl,d⟩
theorem zeroU (w:World):(zeroValue 150).run Tryz.prog w= .ok (.agg #[]) w:=by kernel_rfl
def knB (mp wt:List Grp) (v:List Int) (g:Grp):Bool:=mp.any (λd=>d.s.eqb g.s) || oldB v g || wt.any (λa=>fB a g)
theorem bxknown_any {B P:Nat} {S S2:Nat->Prop} {dn mp wt:List Grp} {v:List Int} {X:BoxX} {w:World} (h:BoxIn B P S dn mp wt v X w) (g:Grp) (x:GrX) (hmp:∀d∈mp,d.s.right=true) (hg:g.s.right=true) (hwl:wt.length<=1000000):
  Calls Tryz.prog 49 #[.pointer (some ⟨P,0,none⟩),.agg (grA g x.dA x.dc x.oA x.oc)] w λe w'=>e= .returned (.bool (knB mp wt v g))∧Below w.heap.size w w':=by
 obtain⟨D,y⟩:∃b,b=knB mp wt v g:=⟨_,rfl⟩;rw[<-y];obtain⟨z,R⟩:∃b,b=mp.any (λd=>d.s.eqb g.s):=⟨_,rfl⟩;obtain⟨T,U⟩:∃b,b=oldB v g:=⟨_,rfl⟩;obtain⟨N,Y⟩:∃b,b=wt.any (λa=>fB a g):=⟨_,rfl⟩;have A:=hid (show D=(z || T || N) by rw[y,R,U,Y];rfl);have Q:Below w.heap.size w (w.alloc (.cells (grA g x.dA x.dc x.oA x.oc) 45)):=(ag _ _).alloc (aa _) _;have F:=hid (show ∀W,Below w.heap.size w W->Calls Tryz.prog 95 #[.pointer (some ⟨P,0,none⟩),.agg (grA g x.dA x.dc x.oA x.oc)] W λe w'=>e= .returned (.bool T)∧Below W.heap.size W w' from λW o=>by rw[U];exact bxold_any (S2:=S) (h.below o) g x);obtain⟨G,wc,H⟩:=bZ h.wait;have ab:=hid (show ∀W,Below w.heap.size w W->RowGr W G X.M from λW o=>RowGr.own (by have:=(h.below o).wait;rw[H] at this;exact this))
 have Z:=hid (show ∀W,Below w.heap.size w W->W.heap[w.heap.size]? =some (.cells (grA g x.dA x.dc x.oA x.oc) 45 (0,0))->Calls Tryz.prog 96 #[.slice G X.M.length wc,.func (Fn.func 97) #[] #[.pointer (some ⟨w.heap.size,0,none⟩)]] W λe w'=>e= .returned (.bool N)∧Below W.heap.size W w' from λW o hC=>by
  rw[Y,<-h.wl];exact bxcontains_any G wc X.M g x w.heap.size W (by rw[h.wlen];exact hwl) (ab.out W o) hC)
 have ac:=hid (show ∀W,Below w.heap.size w W->(Instr.lookup 87 (.map (some X.bm)) (.agg #[.int .i64 g.s.t,.int .i64 g.s.r]) true).run Tryz.prog W= .ok (.tuple #[.agg #[],z]) W from λW o=>by
  obtain⟨u,ps,I,hu⟩:=(h.below o).map.look_ok law_st Tryz.underlying87 (zeroU W) (zd:= .agg []) (zp:=[]) unitElem_mk (key_st g.s (jd hg).1 (jd hg).2);obtain⟨rfl,-⟩:=unitElem_inv hu;rw[has_setG mp g.s hmp hg,<-R] at I
  exact I)
 have HO:=hid (show ∀W,Below w.heap.size w W->W.heap[P]? =some (.cells #[X.dv,.slice G X.M.length wc,.map (some X.bm),.slice X.vA v.length X.vc] 89 (0,0)) from λW o=>by have:=(h.below o).obj;rw[H] at this;exact this);have af:=lt_of_block h.obj;clear y R U Y H hmp hg hwl;clear h;obtain⟨⟨t,r⟩,n,u,⟨J,L⟩,p⟩:=g;obtain⟨dA,dc,oA,oc⟩:=x;show Calls _ _ #[.pointer (some ⟨P,0,none⟩),.agg #[t,r,n,.slice dA u.length dc,J,L,.slice oA p.length oc]] _ _;have HB:=hid Q;have HC:=hid (am w (.cells #[t,r,n,.slice dA u.length dc,J,L,.slice oA p.length oc] 45));clear Q;go_enter Tryz.func49,Tryz.ntmps49;go_upto_region 1 with fail;generalize hW:w.alloc (.cells #[t,r,n,.slice dA u.length dc,J,L,.slice oA p.length oc] 45)=W;have i:Hid (Below w.heap.size w W):=hid (by rw[<-hW];exact HB.out);have j:Hid (W.heap[w.heap.size]? =some (.cells #[t,r,n,.slice dA u.length dc,J,L,.slice oA p.length oc] 45 (0,0))):=hid (by rw[<-hW];exact HC.out);clear hW HB HC;refine aR (S:=λw'=>Below W.heap.size W w') (by kernel_rfl) ?_
 try(change wpAnyH _ _ _ _ _ _ _ _ (World.drew _))
 have c:=hid (show Below W.heap.size W W.drew from⟨rfl,rfl,rfl,aa _,λ_ _=>rfl⟩);refine tk 0 (.pointer (some ⟨P,0,none⟩)) c.out ?_;go_simp;refine tk 1 (.pointer (some ⟨P,0,none⟩)) c.out ?_;go_simp;refine tk 2 (.pointer (some ⟨P,2,none⟩)) c.out ?_;go_simp;refine tk2 3 (.map (some X.bm)) rfl (Or.inl ⟨by rfl,λC k=>by(have c_:C.cell? ⟨P,2,none⟩=some (.map (some X.bm)):=(by rw[crw (HO.out C (i.out.trans (k.mono i.out.size)))];rfl);go_simp)⟩) c.out ?_;go_simp;refine tk 4 (.pointer (some ⟨w.heap.size,0,none⟩)) c.out ?_;go_simp;refine tk2 5 (.agg #[t,r]) rfl (Or.inl ⟨by rfl,λC k=>by(have c0:C.cell? ⟨w.heap.size,0,none⟩=some (.int .i64 t):=(by rw[crw ((k.block w.heap.size (lt_of_block j.out)).trans j.out)];rfl);have c1:C.cell? ⟨w.heap.size,1,none⟩=some (.int .i64 r):=(by rw[crw ((k.block w.heap.size (lt_of_block j.out)).trans j.out)];rfl);go_simp)⟩) c.out ?_;go_simp;refine tk2 6 (.tuple #[.agg #[],z]) rfl (Or.inl ⟨by rfl,λC k=>by(have hl:=ac.out C (i.out.trans (k.mono i.out.size));go_simp)⟩) c.out ?_;go_simp;refine tk 7 (.tuple #[.agg #[],z]) c.out ?_;go_simp;refine tk 8 (.agg #[]) c.out ?_;go_simp;refine tk 9 (.bool z) c.out ?_;go_simp;refine rd1 10 λK M=> ?_;go_simp;have l:=hid (c.out.alloc c.out.size (.cells #[] 150));refine M.out _ _ l.out (λ_=> ?_);clear M K;refine rd1 11 λK M=> ?_;go_simp;refine M.out _ _ (show Below W.heap.size W _ from l.out) (λ_=> ?_);clear M K
 refine tk 12 (.bool z) (show Below W.heap.size W _ from l.out) ?_;go_simp;refine be (by kernel_rfl) ?_ _;go_simp;generalize hV:(W.alloc (.cells #[] 150)).drew=V;have m:=hid (show Below w.heap.size w V by rw[<-hV];exact i.out.trans ((show Below W.heap.size W _ from l.out).mono i.out.size));have f:=hid (show V.heap[w.heap.size]? =some (.cells #[t,r,n,.slice dA u.length dc,J,L,.slice oA p.length oc] 45 (0,0)) by rw[<-hV];exact((show Below W.heap.size W _ from l.out).block w.heap.size (lt_of_block j.out)).trans j.out);clear hV l c;have e0:=cw0 f.out;have e1:=cw1 f.out;have e2:=cw2 f.out;have e3:=cw3 f.out;have e4:=cw4 f.out;have e5:=cw5 f.out;have e6:=cw6 f.out;cases z with
 |true=>
  obtain rfl:D=true:=by rw[A.out];rfl
  go_wp2;go_ret;exact⟨rfl,m.out⟩
 | false=>
  cases T with
  | true=>
   obtain rfl:D=true:=by rw[A.out];rfl
   go_wp2_with (first
    |(refine lA f aH ?_)
    |(go_at_call 95;refine(F.out V m.out).mono ?_;rintro e O ⟨rfl,q⟩))
   go_ret;exact⟨rfl,m.out.trans (q.mono m.out.size)⟩
  | false=>
   obtain rfl:D=N:=by rw[A.out];cases N<;>rfl
   go_wp2_with (first
    |(refine lA f aH ?_)
    |(go_at_call 95;refine(F.out V m.out).mono ?_;rintro e O ⟨rfl,q⟩;have E:=bT m q;have ad:=bK q f;have p1:O.cell? ⟨P,1,none⟩=some (.slice G X.M.length wc):=(by rw[crw (HO.out O E.out)];rfl);clear q)
    |(go_at_call 96;refine(Z.out O E.out ad.out).mono ?_;rintro e w3 ⟨rfl,ae⟩))
   go_ret;exact⟨rfl,E.out.trans (ae.mono E.out.size)⟩
theorem withV_len (v:List Int) (r n:Int) (h:v.length<=16) (hr:r<=16):(eE v r n).length<=16:=by
 have:=pv_len (setV v r n);have a:=setV_len v r n;unfold eE;omega
theorem bxdeliver_any {B P:Nat} {S:Nat->Prop} {dn mp wt:List Grp} {v:List Int} {X:BoxX} {w:World} (h:BoxIn B P S dn mp wt v X w) (g:Grp) (x:GrX) (hG:GrG w S (g,x)) (hg:g.s.right=true) (hlen:dn.length<=1000000) (hmlen:mp.length<=1000000):
  Calls Tryz.prog 51 #[.pointer (some ⟨P,0,none⟩),.agg (grA g x.dA x.dc x.oA x.oc)] w λe w'=>e= .returned (.tuple #[])∧∃X' S',BoxIn B P S' (dn++[g]) (mp++[g]) wt (eE v g.s.r g.n) X' w'∧BTo P X S w X' S' w':=by
 obtain⟨i0,hi,aG,aH,aI⟩:=bD ia;have O:Below w.heap.size w (w.alloc (.cells (grA g x.dA x.dc x.oA x.oc) 45)):=(ag _ _).alloc (aa _) _;have aZ:(g,x).1=g:=rfl;have C:=hid (h.below O);have ai:=hid (hG.agr (Agr.below O));have aj:=hid (BTo.of_below (P:=P) (X:=X) (S:=S) O);have ak:=hid (jd hg);have a0:X.L.length<=1000000:=by rw[h.dlen];exact hlen
 have aJ:mp.length<maxLen:=by unfold maxLen;omega
 obtain⟨⟨t,r⟩,n,u,⟨c,d⟩,a⟩:=g;obtain⟨dA,dc,oA,oc⟩:=x;have aK:1<=r∧r<=16:=right_r hg;obtain⟨q,hq⟩:∃q:Nat,r=(q:Int)+1:=⟨(r-1).toNat,by omega⟩;have aD:q<16:=by omega
 have HQ:=hid hq;clear hq aK;show Calls _ _ #[.pointer (some ⟨P,0,none⟩),.agg #[t,r,n,.slice dA u.length dc,c,d,.slice oA a.length oc]] _ _;have HC:=hid (am w (.cells #[t,r,n,.slice dA u.length dc,c,d,.slice oA a.length oc] 45));have a1:=h.own_lt (k:=P) (.inl rfl);have a2:=h.own_lt (k:=X.bm) (.inr (.inl rfl));have aL:=hid (λk hk=>(h.own_lt (k:=k) hk).2);clear h O hG hg hlen;go_enter Tryz.func51,Tryz.ntmps51;go_upto_region 1 with fail;generalize hW:w.alloc (.cells (grA ⟨⟨t,r⟩,n,u,⟨c,d⟩,a⟩ (GrX.dA ⟨dA,dc,oA,oc⟩) (GrX.dc ⟨dA,dc,oA,oc⟩) (GrX.oA ⟨dA,dc,oA,oc⟩) (GrX.oc ⟨dA,dc,oA,oc⟩)) 45)=W at C ai aj;have ab:w.alloc (.cells #[t,r,n,.slice dA u.length dc,c,d,.slice oA a.length oc] 45)=W:=hW
 try rw[ab]
 have D:=hid (show W.heap[w.heap.size]? =some (.cells #[t,r,n,.slice dA u.length dc,c,d,.slice oA a.length oc] 45 (0,0)) by rw[<-ab];exact HC.out);clear hW ab HC;have aM:w.heap.size<W.heap.size:=lt_of_block D.out;have d0:W.drew.cell? ⟨P,0,none⟩=some X.dv:=by show W.cell? _=_;rw[C.out.cell];rfl
 refine aR (S:=λw'=>w'.heap[w.heap.size]? =some (.cells #[t,r,n,.slice dA u.length dc,c,d,.slice oA a.length oc] 45 (0,0))) (by kernel_rfl) ?_
 try(change wpAnyH _ _ _ _ _ _ _ _ (World.drew _))
 refine tk 0 (.pointer (some ⟨P,0,none⟩)) ((show W.drew.heap[w.heap.size]? =_ from D.out)) ?_;go_simp;refine tk 1 (.pointer (some ⟨P,0,none⟩)) ((show W.drew.heap[w.heap.size]? =_ from D.out)) ?_;go_simp;refine tk 2 (.pointer (some ⟨P,0,none⟩)) ((show W.drew.heap[w.heap.size]? =_ from D.out)) ?_;go_simp;refine tk 3 (.pointer (some ⟨P,0,none⟩)) ((show W.drew.heap[w.heap.size]? =_ from D.out)) ?_;go_simp;refine tk2 5 (.agg #[t,r,n,.slice dA u.length dc,c,d,.slice oA a.length oc]) rfl (Or.inl ⟨by rfl,λo f=>by(have c0:o.cell? ⟨w.heap.size,0,none⟩=some (.int .i64 t):=(by rw[crw f];rfl);have c1:o.cell? ⟨w.heap.size,1,none⟩=some (.int .i64 r):=(by rw[crw f];rfl);have c2:o.cell? ⟨w.heap.size,2,none⟩=some (.int .i64 n):=(by rw[crw f];rfl);have c3:o.cell? ⟨w.heap.size,3,none⟩=some (.slice dA u.length dc):=(by rw[crw f];rfl);have c4:o.cell? ⟨w.heap.size,4,none⟩=some (.int .i64 c):=(by rw[crw f];rfl);have c5:o.cell? ⟨w.heap.size,5,none⟩=some (.int .i64 d):=(by rw[crw f];rfl);have c6:o.cell? ⟨w.heap.size,6,none⟩=some (.slice oA a.length oc):=(by rw[crw f];rfl);go_simp)⟩) ((show W.drew.heap[w.heap.size]? =_ from D.out)) ?_;go_simp;have Q:=hid (show Below W.heap.size W (W.alloc (.cells #[t,r,n,.slice dA u.length dc,c,d,.slice oA a.length oc] 45)).drew from⟨rfl,rfl,rfl,by simp,λk hk=>ax _ _ _ hk⟩)
 have I:=hid (show(W.alloc (.cells #[t,r,n,.slice dA u.length dc,c,d,.slice oA a.length oc] 45)).drew.heap[w.heap.size]? =_ from(ax W (.cells #[t,r,n,.slice dA u.length dc,c,d,.slice oA a.length oc] 45) _ aM).trans D.out);have al:=hid (C.out.done.alloc (.cells #[t,r,n,.slice dA u.length dc,c,d,.slice oA a.length oc] 45));have an:=hid (λ(j:Nat) (y:Value) (h:[.int .i64 t,.int .i64 r,.int .i64 n,.slice dA u.length dc,.int .i64 c,.int .i64 d,.slice oA a.length oc][j]? =some y)=>dH W [t,r,n,.slice dA u.length dc,c,d,.slice oA a.length oc] 45 j y h);have G:(W.alloc (.cells #[t,r,n,.slice dA u.length dc,c,d,.slice oA a.length oc] 45)).drew.heap.size=W.heap.size+1:=by show(W.alloc _).heap.size=_;simp
 have a3:(W.alloc (.cells #[t,r,n,.slice dA u.length dc,c,d,.slice oA a.length oc] 45)).drew.cell? ⟨P,0,none⟩=some X.dv:=by show(W.alloc _).cell? _=_;rw[crw ((ax W (.cells #[t,r,n,.slice dA u.length dc,c,d,.slice oA a.length oc] 45) P (by omega)).trans C.out.obj)];rfl
 refine dp (rs:=[4,6]) (by kernel_rfl) (by simp) ?_;refine aX rfl (λK b=> ?_) (aX rfl (λK b=> ?_) cX)
 focus
  go_simp;refine b.out _ _ ((show W.drew.heap[w.heap.size]? =_ from D.out)) (λ_=> ?_);clear b K;refine rd1 6 λK b=> ?_;go_simp;refine b.out _ _ (I.out) (λ_=> ?_);clear b K
 rotate_left
 focus
  go_simp;refine b.out _ _ (I.out) (λ_=> ?_);clear b K;refine rd1 4 λK b=> ?_;go_simp;refine b.out _ _ (I.out) (λ_=> ?_);clear b K
 all_goals
  refine rd1 7 λK b=> ?_;refine dW _ (by rfl) _ _ 25 (by rfl) B 45 i0 (.agg #[(0:Int),(0:Int),(0:Int),.slice none 0 0,(0:Int),(0:Int),.slice none 0 0]) 7 88 bV hi aG aH aI rfl (by decide) X.dv X.L.length _ (by rfl) (by exact al.out) ⟨W.heap.size,0,none⟩ 1 1 [t,r,n,.slice dA u.length dc,c,d,.slice oA a.length oc] (by rfl) rfl (by exact an.out) (by exact iO (⟨⟨t,r⟩,n,u,⟨c,d⟩,a⟩,⟨dA,dc,oA,oc⟩)) (by decide) (by unfold maxLen;omega) (by omega) (by rw[G];omega) (W.heap.size+1) G ?_;intro gq R w3 T A ao aE;have ac:some w.heap.size≠X.dv.ownBlock:=λe=>by have:=aL.out _ (.inr (.inr (.inl e.symm)));omega
  have J:=hid ((A.block w.heap.size (by rw[G];omega) ac).trans I.out);have ad:some P≠X.dv.ownBlock:=λe=>C.out.dP e.symm;have d3:w3.cell? ⟨P,0,none⟩=some X.dv:=by rw[crw ((A.block P (by rw[G];omega) ad).trans ((Q.out.block P (by omega)).trans C.out.obj))];rfl
  have f3:w3.frozen? ⟨P,0,none⟩=false:=aW _ _ _ _ _ ((A.block P (by rw[G];omega) ad).trans ((Q.out.block P (by omega)).trans C.out.obj));have ae:=hid (C.out.dput (dv':= .slice (some ⟨gq,0,none⟩) (X.L.length+1) R) (p:=(⟨⟨t,r⟩,n,u,⟨c,d⟩,a⟩,⟨dA,dc,oA,oc⟩)) Q.out A T (ao.elim (λe=> .inl (by rw[e];rfl)) (λe=> .inr (by rw[e,G];rfl))) ai.out);clear T A ao ac ad aE al an;refine b.out _ _ (J.out) (λ_=> ?_);clear b K;refine tk 8 (.pointer (some ⟨P,0,none⟩)) (J.out) ?_;go_simp;refine tk 9 (.pointer (some ⟨P,0,none⟩)) (J.out) ?_;go_simp;refine rd1 10 λK b=> ?_;go_simp;have ap:=hid ((cK w3 ⟨P,0,none⟩ (.slice (some ⟨gq,0,none⟩) (X.L.length+1) R) w.heap.size (by show w.heap.size≠P;omega)).trans J.out);refine b.out _ _ (ap.out) (λ_=> ?_);clear b K;refine be (by kernel_rfl) ?_ _;go_simp;obtain⟨aq,ar⟩:=ae.out;generalize hV:w3.setCell ⟨P,0,none⟩ (.slice (some ⟨gq,0,none⟩) (X.L.length+1) R)=V at *;clear hV d3 f3 ae J Q I d0;generalize au:({ X with dv:= .slice (some ⟨gq,0,none⟩) (X.L.length+1) R,L:=X.L++[(⟨⟨t,r⟩,n,u,⟨c,d⟩,a⟩,⟨dA,dc,oA,oc⟩)] }:BoxX)=l at *;have aN:=hid (show l.bm=X.bm by rw[<-au]);clear au;have U:=hid aq;have aO:=hid (aj.out.trans ar);clear aq ar;have a4:P<V.heap.size:=lt_of_block U.out.obj;go_upto_region 2 with fail;have H:Below V.heap.size V V.drew:=⟨rfl,rfl,rfl,aa _,λ_ _=>rfl⟩;have af:=hid (U.out.below H)
  obtain⟨z,aF,Y,M⟩:=af.out.map.store law_st Tryz.underlying87 aJ (key_st (⟨t,r⟩:Gst) ak.out.1 ak.out.2) (val:= .agg #[]) unitElem_mk;have Z:=M.grown;have av:=hid (af.out.mput (g:=⟨⟨t,r⟩,n,u,⟨c,d⟩,a⟩) Z Y);have m:=hid (show V.drew.heap[w.heap.size]? =some (.cells #[t,r,n,.slice dA u.length dc,c,d,.slice oA a.length oc] 45 (0,0))∧V.drew.heap[P]? =some (.cells #[l.dv,l.wv,.map (some l.bm),.slice l.vA v.length l.vc] 89 (0,0)) from⟨ap.out,U.out.obj⟩);have i:=hid ((Z.block w.heap.size (lt_of_block m.out.1) (λe=>by injection e with e;rw[aN.out] at e;omega)).trans m.out.1);have aP:=hid ((Z.block P (lt_of_block m.out.2) (λe=>by injection e with e;exact U.out.pm e)).trans m.out.2);clear Y M Z;refine aR (S:=λw'=>w'.heap[w.heap.size]? =some (.cells #[t,r,n,.slice dA u.length dc,c,d,.slice oA a.length oc] 45 (0,0))∧w'.heap[P]? =some (.cells #[l.dv,l.wv,.map (some l.bm),.slice l.vA v.length l.vc] 89 (0,0))) (by kernel_rfl) ?_
  try(change wpAnyH _ _ _ _ _ _ _ _ (World.drew _))
  refine tk 0 (.pointer (some ⟨P,0,none⟩)) (m.out) ?_;go_simp;refine tk 1 (.pointer (some ⟨P,0,none⟩)) (m.out) ?_;go_simp;refine tk 2 (.pointer (some ⟨P,2,none⟩)) (m.out) ?_;go_simp;refine tk2 3 (.map (some l.bm)) rfl (Or.inl ⟨by rfl,λo f=>by(have c_:o.cell? ⟨P,2,none⟩=some (.map (some l.bm)):=(by rw[crw f.2];rfl);go_simp)⟩) (m.out) ?_;go_simp;refine tk 4 (.pointer (some ⟨w.heap.size,0,none⟩)) (m.out) ?_;go_simp;refine tk2 5 (.agg #[t,r]) rfl (Or.inl ⟨by rfl,λo f=>by(have c0:o.cell? ⟨w.heap.size,0,none⟩=some (.int .i64 t):=(by rw[crw f.1];rfl);have c1:o.cell? ⟨w.heap.size,1,none⟩=some (.int .i64 r):=(by rw[crw f.1];rfl);go_simp)⟩) (m.out) ?_;go_simp;refine tk 6 (.agg #[]) (m.out) ?_;go_simp;refine rd1 7 λK b=> ?_;go_simp;refine b.out _ _ (⟨i.out,aP.out⟩) (λ_=> ?_);clear b K;refine be (by kernel_rfl) ?_ _;go_simp;obtain⟨aw,ay⟩:=av.out;have ah:=hid aw;have aQ:=hid (aO.out.trans ((BTo.of_below H).trans ay));clear aw ay av aF af m H;go_upto_region 3 with fail;have H:Below z.heap.size z z.drew:=⟨rfl,rfl,rfl,aa _,λ_ _=>rfl⟩;have E:=hid (ah.out.below H);have aS:=hid (aQ.out.trans (BTo.of_below H));have az:=hid (with_any l.vA l.vc v q n z.drew (by have:=ah.out.vlen;omega) aD (VecS.vec E.out.vec));rw[<-HQ.out] at az;have d7:z.drew.cell? ⟨P,3,none⟩=some (.slice l.vA v.length l.vc):=by rw[E.out.cell];rfl
  refine aR (S:=λw'=>w'.heap[w.heap.size]? =some (.cells #[t,r,n,.slice dA u.length dc,c,d,.slice oA a.length oc] 45 (0,0))) (by kernel_rfl) ?_
  try(change wpAnyH _ _ _ _ _ _ _ _ (World.drew _))
  refine tk 0 (.pointer (some ⟨P,0,none⟩)) ((show z.drew.heap[w.heap.size]? =_ from i.out)) ?_;go_simp;refine tk 1 (.pointer (some ⟨P,0,none⟩)) ((show z.drew.heap[w.heap.size]? =_ from i.out)) ?_;go_simp;refine tk 2 (.pointer (some ⟨P,0,none⟩)) ((show z.drew.heap[w.heap.size]? =_ from i.out)) ?_;go_simp;refine tk 3 (.pointer (some ⟨P,3,none⟩)) ((show z.drew.heap[w.heap.size]? =_ from i.out)) ?_;go_simp;refine tk 5 (.pointer (some ⟨w.heap.size,0,none⟩)) ((show z.drew.heap[w.heap.size]? =_ from i.out)) ?_;go_simp;refine tk 6 (.pointer (some ⟨w.heap.size,1,none⟩)) ((show z.drew.heap[w.heap.size]? =_ from i.out)) ?_;go_simp;refine tk2 7 (.int .i64 r) rfl (Or.inl ⟨by rfl,λo f=>by(have c_:o.cell? ⟨w.heap.size,1,none⟩=some (.int .i64 r):=(by rw[crw f];rfl);go_simp)⟩) ((show z.drew.heap[w.heap.size]? =_ from i.out)) ?_;go_simp;refine tk 8 (.pointer (some ⟨w.heap.size,2,none⟩)) ((show z.drew.heap[w.heap.size]? =_ from i.out)) ?_;go_simp;refine tk2 9 (.int .i64 n) rfl (Or.inl ⟨by rfl,λo f=>by(have c_:o.cell? ⟨w.heap.size,2,none⟩=some (.int .i64 n):=(by rw[crw f];rfl);go_simp)⟩) ((show z.drew.heap[w.heap.size]? =_ from i.out)) ?_;go_simp;refine rd1 4 λK b=> ?_;go_simp;refine b.out _ _ ((show z.drew.heap[w.heap.size]? =_ from i.out)) (λ_=> ?_);clear b K;refine rd1 10 λK b=> ?_;go_simp;refine az.out.mono ?_;rintro e w8 ⟨N,A8,c8,rfl,aA,aB,aC⟩
  have F:=hid ((N.block w.heap.size (lt_of_block i.out)).trans (show z.drew.heap[w.heap.size]? =_ from i.out));have aT:=hid (E.out.vput (u:=eE v r n) N aA aB aC (withV_len _ _ _ ah.out.vlen (by rw[HQ.out];omega)));have d8:w8.cell? ⟨P,3,none⟩=some (.slice l.vA v.length l.vc):=by rw[crw ((N.block P (lt_of_block E.out.obj)).trans E.out.obj)];rfl
  have f8:w8.frozen? ⟨P,3,none⟩=false:=aW _ _ _ _ _ ((N.block P (lt_of_block E.out.obj)).trans E.out.obj);clear N aA aB aC;go_simp;refine b.out _ _ (F.out) (λ_=> ?_);clear b K;refine tk 11 (.tuple #[.slice A8 (eE v r n).length c8,(0:Int)]) (F.out) ?_;go_simp;refine tk 12 (.slice A8 (eE v r n).length c8) (F.out) ?_;go_simp;refine tk 13 (.int .i64 0) (F.out) ?_;go_simp;refine tk 14 (.pointer (some ⟨P,0,none⟩)) (F.out) ?_;go_simp;refine tk 15 (.pointer (some ⟨P,3,none⟩)) (F.out) ?_;go_simp;refine rd1 16 λK b=> ?_;go_simp;have aU:=hid ((cK w8 ⟨P,3,none⟩ (.slice A8 (eE v r n).length c8) w.heap.size (by show w.heap.size≠P;omega)).trans F.out);refine b.out _ _ (aU.out) (λ_=> ?_);clear b K;refine be (by kernel_rfl) ?_ _;go_simp;obtain⟨aV,aY⟩:=aT.out;go_wp2;go_end0;exact⟨rfl,_,_,aV,aS.out.trans aY⟩
end
end Go.Proofs.YtkhmicndehlneaaGreatDoor
