/- Part 10 of the walks and plain laws that this claim uses, joined. Conditions: as each theorem states. -/
import Derived.Laws.Externs
import Derived.Lib.AppendStr
import Derived.Lib.OthersKept
import Derived.Lib.OwnKind
import Derived.Lib.UnsafeStr
import Derived.Test.YtkhmicndehlneaaGreatDoorYhe
import Derived.Test.YtkhmicndehlneaaGreatDoorYhi
namespace Go.Proofs.YtkhmicndehlneaaGreatDoor
set_option maxRecDepth 100000
set_option maxHeartbeats 16000000
set_option linter.unusedVariables false
section
open Go.RowKit Go.Lib Go.Sort
attribute [local go_sem ↓] Go.wp_at_zero Go.wp_at_succ
structure DcSt (w0:World) (b R O:Nat) (T:TypeId) (zc oc:Array Value) (s:ByteArray) (bad:Bool) (w:World):Prop where
 rdr:Rdr w b s bad
 res:w.heap[R]? =some (.cells zc T (0,0))
 obj:w.heap[O]? =some (.cells oc T (0,0))
 bel:Below w0.heap.size w0 w
 nb:w0.heap.size<=b
 nR:w0.heap.size<=R
 nO:w0.heap.size<=O
 Rb:R<b
 bO:b<O
section
variable {w0 w w' : World} {b R O : Nat} {T : TypeId} {zc oc : Array Value} {s s' : ByteArray} {bad bad' : Bool}
theorem DcSt.call (h:DcSt w0 b R O T zc oc s bad w) (hr:Rdr w' b s' bad') (hg:w.grownBy w' (some b)):DcSt w0 b R O T zc oc s' bad' w':=
 ⟨hr,(hg.block R (lt_of_block h.res) (by intro e;cases e;have:=h.Rb;omega)).trans h.res,(hg.block O (lt_of_block h.obj) (by intro e;cases e;have:=h.bO;omega)).trans h.obj,h.bel.grown hg h.bel.size (λk e=>by cases e;exact h.nb),h.nb,h.nR,h.nO,h.Rb,h.bO⟩
theorem DcSt.put (h:DcSt w0 b R O T zc oc s bad w) (c:Array Value):DcSt w0 b R O T zc c s bad (w.setRow O c):=by
 have h1:=h.Rb;have h2:=h.bO;exact⟨(setRow_other w O b c (by omega)).trans h.rdr,(setRow_other w O R c (by omega)).trans h.res,aM _ h.obj,Below.setRow' h.bel h.nO _,h.nb,h.nR,h.nO,h.Rb,h.bO⟩
theorem DcSt.cell (h:DcSt w0 b R O T zc oc s bad w) (i:Nat):w.cell? ⟨O,i,none⟩=oc[i]? :=aD _ _ _ _ _ _ h.obj
end
theorem vec_own {w:World} {B:Nat} {A:Option Addr} {c:Nat} {xs:List Int} {E:TypeId} (h:w.ownsRow B E 1 (.slice A xs.length c) xs.length (xs.flatMap iE)):VecS w (λk=>B<=k) A xs:=by
 refine jU h λk j hk hj=> ?_;rw[gG (s:=1) (λ_=>rfl) xs k j 0 hk hj];rcases j with _|j
 ·rfl
 ·omega
theorem ops_own {w:World} {B:Nat} {A:Option Addr} {c:Nat} {L:List (Gop×OpX)} {S:Nat->Prop} {E:TypeId} (h:w.ownsRow B E 18 (.slice A (L.map Prod.fst).length c) (L.map Prod.fst).length (L.flatMap opC_)) (hg:∀p∈L,OpGood w S p) (hS:∀k,S k->B<=k):OpsS w (λk=>B<=k) A (L.map Prod.fst):=by
 have hl:(L.map Prod.fst).length=L.length:=by simp
 have hgd:∀k,(L.map Prod.fst).getD k (opO 0 .zero)=(L.getD k (opO 0 .zero,⟨none,0,none,0⟩)).1:=λk=>by
  rw[ae,ae,cT];cases L[k]? <;>rfl
 refine⟨λk=>(L.getD k (opO 0 .zero,⟨none,0,none,0⟩)).2,jU h λk j hk hj=> ?_,λk hk=> ?_⟩
 ·rw[gG (s:=18) (λ_=>rfl) L k j (opO 0 .zero,⟨none,0,none,0⟩) (by omega) hj,hgd];unfold opC_;rw[dz,Array.getD_eq_getD_getElem?];have:j<(opA (L.getD k (opO 0 .zero,⟨none,0,none,0⟩)).1 (L.getD k (opO 0 .zero,⟨none,0,none,0⟩)).2).size:=hj;rw[dh this];rfl
 ·rw[hgd];have hk':k<L.length:=by omega
  have hm:L.getD k (opO 0 .zero,⟨none,0,none,0⟩)∈L:=by
   rw[ae,an hk'];exact bU hk'
  exact(hg _ hm).1.sub λb _ hb=>hS b hb
def DecQ (r:Option Grp) (w:World) (e:Ending) (w':World):Prop:=Below w.heap.size w w'∧match r with
 |none=>e= .returned (.tuple #[.agg #[(0:Int),(0:Int),(0:Int),.slice none 0 0,(0:Int),(0:Int),.slice none 0 0],(80:Int)])
 |some g=>∃dA dc oA oc,e= .returned (.tuple #[.agg (grA g dA dc oA oc),(0:Int)])∧GrIn w' (λk=>w.heap.size<=k) g dA dc oA oc∧∀o∈g.ops,o.text.size<=1000000∧o.name.size<=1000000
theorem DecQ.no {r:Option Grp} (h:r=none) {w w':World} (hb:Below w.heap.size w w'):DecQ r w (.returned (.tuple #[.agg #[(0:Int),(0:Int),(0:Int),.slice none 0 0,(0:Int),(0:Int),.slice none 0 0],(80:Int)])) w':=by
 subst h;exact⟨hb,rfl⟩
theorem decode_any (s:ByteArray) (w:World) (hs:s.size<=1000000) (hTb:Tabs w):
  Calls Tryz.prog 44 #[s] w λe w'=>DecQ (decZ s.data.toList) w e w':=by
 obtain⟨r,hr⟩:∃r,r=decZ s.data.toList:=⟨_,rfl⟩;rw[<-hr];have HRR:=hid hr;have HTb:=hid hTb;clear hr hTb;have HW0:=hid (bn (n:=w.heap.size+1) (w.alloc (.cells #[(0:Int),(0:Int),(0:Int),.slice none 0 0,(0:Int),(0:Int),.slice none 0 0] 45)) (.cells #[s,false] 133) (by simp));have HW1:=hid ((ax (w.alloc (.cells #[(0:Int),(0:Int),(0:Int),.slice none 0 0,(0:Int),(0:Int),.slice none 0 0] 45)) (.cells #[s,false] 133) w.heap.size (by simp)).trans (am w _));have HB0:=hid (show Below w.heap.size w ((w.alloc (.cells #[(0:Int),(0:Int),(0:Int),.slice none 0 0,(0:Int),(0:Int),.slice none 0 0] 45)).alloc (.cells #[s,false] 133)) from((ag _ _).alloc (aa _) _).alloc (by simp) _);go_enter Tryz.func44,Tryz.ntmps44;go_wp2_with fail;generalize hV:(w.alloc (.cells #[(0:Int),(0:Int),(0:Int),.slice none 0 0,(0:Int),(0:Int),.slice none 0 0] 45)).alloc (.cells #[s,false] 133)=V0 at *;clear hV;refine(ky (w.heap.size+1) s false V0 hs HW0.out).mono ?_;rintro e y1 ⟨⟨t1,r1⟩,v,s1,bad1,rfl,hv,hR1,hg1,hd1⟩;obtain rfl:v= .agg #[t1,r1]:=hv;have hs1:=eB hd1 hs;have HD1:=hid hd1;have hlt0:=lt_of_block HW0.out;have hlt1:w.heap.size+1<y1.heap.size:=by have:=hg1.size;omega
 have HY1:=hid ((hg1.block w.heap.size (by omega) (by intro e;injection e with e;omega)).trans HW1.out);have HB1:=hid (HB0.out.grown hg1 HB0.out.size (λk e=>by cases e;omega));have HR1:=hid hR1;clear hd1 hg1 hR1;go_upto_region 3 with(first|(refine bM rfl _ _ _ rfl _ _ _ _ rfl ?_ rfl ?_ ?_ ?_ ?_;(focus(simp;done));kernel_rfl;rfl;rfl))
 have HT1:DcSt w (w.heap.size+1) w.heap.size y1.heap.size 45 #[(0:Int),(0:Int),(0:Int),.slice none 0 0,(0:Int),(0:Int),.slice none 0 0] #[t1,r1,(0:Int),.slice none 0 0,(0:Int),(0:Int),.slice none 0 0] s1 bad1 (y1.alloc (.cells #[t1,r1,(0:Int),.slice none 0 0,(0:Int),(0:Int),.slice none 0 0] 45)):=
  ⟨HR1.out.kept (bi y1 _ none) (by simp),(ax _ _ _ (by omega)).trans HY1.out,am _ _,HB1.out.alloc (by omega) _,by omega,aa _,by omega,by omega,by omega⟩
 generalize hV:y1.alloc (.cells #[t1,r1,(0:Int),.slice none 0 0,(0:Int),(0:Int),.slice none 0 0] 45)=V1 at *;clear hV HR1 HY1 HB1 HB0 HW0 HW1;have HS1:=hid HT1;clear HT1;go_wp2_with fail;refine(fX (w.heap.size+1) s1 bad1 V1 hs1 HS1.out.rdr).mono ?_;rintro e y2 ⟨n,v,s2,bad2,rfl,⟨rfl,hn⟩,hR2,hg2,hd2⟩;have hs2:=eB hd2 hs1;have HU2:=hid (HS1.out.call hR2 hg2);have HD2:=hid hd2;have HN:=hid hn;clear hn;clear hR2 hg2 hd2;go_upto_region 4 with(first|(refine dE rfl _ _ _ rfl y1.heap.size 2 _ _ #[t1,r1,n,.slice none 0 0,(0:Int),(0:Int),.slice none 0 0] _ rfl HU2.out.obj rfl ?_ ?_ ?_ rfl ?_;kernel_rfl;exact bJ rfl;rfl));have HT2:=HU2.out.put #[t1,r1,n,.slice none 0 0,(0:Int),(0:Int),.slice none 0 0];generalize hV:y2.setRow y1.heap.size #[t1,r1,n,.slice none 0 0,(0:Int),(0:Int),.slice none 0 0]=V2 at *;clear hV;have HS2:=hid HT2;clear HT2 HU2;go_wp2_with fail;refine(rmany_int (w.heap.size+1) s2 bad2 V2 hs2 HS2.out.rdr).mono ?_;rintro e y3 ⟨dv,v,s3,bad3,rfl,hP,hR3,hg3,hd3⟩;obtain⟨⟨dA,dc,rfl⟩,hO,hl,hx⟩:=hP;have hs3:=eB hd3 hs2;have HU3:=hid (HS2.out.call hR3 hg3);have HD3:=hid hd3;have hlO:=lt_of_block HS2.out.obj;have hdc:=kB hO;have hV:=vec_own hO;have HDX:=hid hx;have HDC:=hid (And.intro hdc hl);clear hx hO hdc hl
 have HCv3:=hid ((hV.sub (T:=λk=>y1.heap.size<k) (λk _ h=>by have h:V2.heap.size<=k:=h;show y1.heap.size<k;omega)).agr (Agr.setRow y3 y1.heap.size #[t1,r1,n,.slice dA dv.length dc,(0:Int),(0:Int),.slice none 0 0] (by show ¬y1.heap.size<y1.heap.size;omega)));clear hR3 hg3 hd3;go_upto_region 5 with(first|(refine dE rfl _ _ _ rfl y1.heap.size 3 _ _ #[t1,r1,n,.slice dA dv.length dc,(0:Int),(0:Int),.slice none 0 0] _ rfl HU3.out.obj rfl ?_ ?_ ?_ rfl ?_;kernel_rfl;exact bJ rfl;rfl));have HT3:=HU3.out.put #[t1,r1,n,.slice dA dv.length dc,(0:Int),(0:Int),.slice none 0 0];generalize hV:y3.setRow y1.heap.size #[t1,r1,n,.slice dA dv.length dc,(0:Int),(0:Int),.slice none 0 0]=V3 at *;clear hV;have HS3:=hid HT3;clear HT3 HU3;clear hV;go_wp2_with fail;refine(ky (w.heap.size+1) s3 bad3 V3 hs3 HS3.out.rdr).mono ?_;rintro e y4 ⟨⟨ut,ur⟩,v,s4,bad4,rfl,hv,hR4,hg4,hd4⟩;obtain rfl:v= .agg #[ut,ur]:=hv;have hs4:=eB hd4 hs3;have HU4:=hid (HS3.out.call hR4 hg4);have HD4:=hid hd4;have HCv4:=hid ((HCv3.out.agr (Agr.grown hg4 (λg e hS=>by cases e;have hS:y1.heap.size<w.heap.size+1:=hS;omega))).agr (Agr.setRow y4 y1.heap.size #[t1,r1,n,.slice dA dv.length dc,ut,ur,.slice none 0 0] (by show ¬y1.heap.size<y1.heap.size;omega)));clear hR4 hg4 hd4;clear HCv3
 go_upto_region 6 with(first|(refine dE rfl _ _ _ rfl y1.heap.size 4 _ _ #[t1,r1,n,.slice dA dv.length dc,ut,ur,.slice none 0 0] _ rfl HU4.out.obj rfl ?_ ?_ ?_ rfl ?_;kernel_rfl;exact bJ rfl;rfl));have HT4:=HU4.out.put #[t1,r1,n,.slice dA dv.length dc,ut,ur,.slice none 0 0];generalize hV:y4.setRow y1.heap.size #[t1,r1,n,.slice dA dv.length dc,ut,ur,.slice none 0 0]=V4 at *;clear hV;have HS4:=hid HT4;clear HT4 HU4;go_wp2_with fail;refine(rmany_op (w.heap.size+1) s4 bad4 V4 hs4 HS4.out.rdr).mono ?_;rintro e y5 ⟨ops,v,s5,bad5,rfl,hP,hR5,hg5,hd5⟩;obtain⟨OL,OS,hOL,⟨oA,oc,rfl⟩,hO,hl,hgood,hold⟩:=hP;have hs5:=eB hd5 hs4;have HU5:=hid (HS4.out.call hR5 hg5);have HD5:=hid hd5;have hlO2:=lt_of_block HS4.out.obj;have hoc:=kB hO;subst hOL;have hV2:=ops_own hO hgood (λk h=>(hold k h).1);have HOC:=hid (And.intro hoc hl);have HTX:=hid (show ∀o∈OL.map Prod.fst,o.text.size<=1000000∧o.name.size<=1000000 from λo ho=>by obtain⟨p,hp,rfl⟩:=bj.1 ho;exact⟨(hgood p hp).2.2,(hgood p hp).2.1⟩);clear hO hgood hold hoc hl;generalize OL.map Prod.fst=ops at *;have HCv5:=hid ((HCv4.out.agr (Agr.grown hg5 (λg e hS=>by cases e;have hS:y1.heap.size<w.heap.size+1:=hS;omega))).agr (Agr.setRow y5 y1.heap.size #[t1,r1,n,.slice dA dv.length dc,ut,ur,.slice oA ops.length oc] (by show ¬y1.heap.size<y1.heap.size;omega)))
 have HCo5:=hid ((hV2.sub (T:=λk=>y1.heap.size<k) (λk _ h=>by have h:V4.heap.size<=k:=h;show y1.heap.size<k;omega)).agr (Agr.setRow y5 y1.heap.size #[t1,r1,n,.slice dA dv.length dc,ut,ur,.slice oA ops.length oc] (by show ¬y1.heap.size<y1.heap.size;omega)));clear hR5 hg5 hd5;clear HCv4;go_upto_region 7 with(first|(refine dE rfl _ _ _ rfl y1.heap.size 6 _ _ #[t1,r1,n,.slice dA dv.length dc,ut,ur,.slice oA ops.length oc] _ rfl HU5.out.obj rfl ?_ ?_ ?_ rfl ?_;kernel_rfl;exact bJ rfl;rfl));have HT5:=HU5.out.put #[t1,r1,n,.slice dA dv.length dc,ut,ur,.slice oA ops.length oc];generalize hV:y5.setRow y1.heap.size #[t1,r1,n,.slice dA dv.length dc,ut,ur,.slice oA ops.length oc]=V5 at *;clear hV;have HS5:=hid HT5;clear HT5 HU5;clear hV2;have HRD:=hid (RdIs.grp HD1.out HD2.out HD3.out HD4.out HD5.out);have HDZ:=hid (decZ_of HRD.out);have hn1:0<=n:=HN.out.1;have hn2:n<9223372036854775808:=HN.out.2;have hI:GrIn V5 (λk=>y1.heap.size<k) ⟨⟨t1,r1⟩,n,dv,⟨ut,ur⟩,ops⟩ dA dc oA oc:=⟨HCv5.out,HCo5.out,HDC.out.1.1,HOC.out.1.1,HDC.out.1.2,HOC.out.1.2,(show i63 n from⟨by omega,by omega⟩),λx hx=>(by have h1:0<=x:=(HDX.out x hx).1;have h2:x<9223372036854775808:=(HDX.out x hx).2;exact⟨by omega,by omega⟩)⟩;have HI:=hid hI;clear hI hn1 hn2 HD1 HD2 HD3 HD4 HD5 HCv5 HCo5 HRD;have b1:=HS5.out.rdr.c1;have b0:=HS5.out.rdr.c0
 have hno:∀(W:World),Below w.heap.size w W->r=none->DecQ r w (.returned (.tuple #[.agg #[(0:Int),(0:Int),(0:Int),.slice none 0 0,(0:Int),(0:Int),.slice none 0 0],(80:Int)])) W:=λW h1 h2=>DecQ.no h2 h1;have HNO:=hid hno;clear hno;cases bad5 with
 |true=>
  obtain rfl:r=none:=by rw[HRR.out,HDZ.out];simp
  go_wp2_with (first|(refine da rfl _ _ _ rfl w.heap.size _ _ #[(0:Int),(0:Int),(0:Int),.slice none 0 0,(0:Int),(0:Int),.slice none 0 0] rfl rfl HS5.out.res ?_ ?_ ?_ ?_;kernel_rfl;rfl;rfl));have HZ:=hid (aM #[(0:Int),(0:Int),(0:Int),.slice none 0 0,(0:Int),(0:Int),.slice none 0 0] HS5.out.res);have z0:=cw0 HZ.out;have z1:=cw1 HZ.out;have z2:=cw2 HZ.out;have z3:=cw3 HZ.out;have z4:=cw4 HZ.out;have z5:=cw5 HZ.out;have z6:=cw6 HZ.out;refine bB (v:= .tuple #[.agg #[(0:Int),(0:Int),(0:Int),.slice none 0 0,(0:Int),(0:Int),.slice none 0 0],(80:Int)]) (by simp[results,Tryz.results44,go_sem,z0,z1,z2,z3,z4,z5,z6]) rfl ?_;exact HNO.out _ (Below.setRow' HS5.out.bel (aa _) _) (by first|rfl|trivial)
 | false=>
  by_cases hse:s5.data.toList=[]
  ·obtain rfl:s5=⟨#[]⟩:=gm.1 hse;have hck:=check_any ⟨⟨t1,r1⟩,n,dv,⟨ut,ur⟩,ops⟩ dA dc oA oc (λk=>y1.heap.size<k) V5 HI.out (λo ho=>by have:=(HTX.out o ho).1;omega) (HTb.out.below HS5.out.bel);have HDZ2:=hid (show r=if chkB ⟨⟨t1,r1⟩,n,dv,⟨ut,ur⟩,ops⟩=true then some ⟨⟨t1,r1⟩,n,dv,⟨ut,ur⟩,ops⟩ else none by rw[HRR.out,HDZ.out];simp);clear HDZ;have a0:V5.cell? ⟨y1.heap.size,0,none⟩=some (.int .i64 t1):=by rw[HS5.out.cell];rfl
   have a1:V5.cell? ⟨y1.heap.size,1,none⟩=some (.int .i64 r1):=by rw[HS5.out.cell];rfl
   have a2:V5.cell? ⟨y1.heap.size,2,none⟩=some (.int .i64 n):=by rw[HS5.out.cell];rfl
   have a3:V5.cell? ⟨y1.heap.size,3,none⟩=some (.slice dA dv.length dc):=by rw[HS5.out.cell];rfl
   have a4:V5.cell? ⟨y1.heap.size,4,none⟩=some (.int .i64 ut):=by rw[HS5.out.cell];rfl
   have a5:V5.cell? ⟨y1.heap.size,5,none⟩=some (.int .i64 ur):=by rw[HS5.out.cell];rfl
   have a6:V5.cell? ⟨y1.heap.size,6,none⟩=some (.slice oA ops.length oc):=by rw[HS5.out.cell];rfl
   cases hcb:chkB ⟨⟨t1,r1⟩,n,dv,⟨ut,ur⟩,ops⟩ with
   | false=>
    rw[hcb] at hck;obtain rfl:r=none:=by rw[HDZ2.out,hcb];rfl
    have HCK:Hid (Calls Tryz.prog 48 #[.agg #[t1,r1,n,.slice dA dv.length dc,ut,ur,.slice oA ops.length oc]] V5 λe w'=>e= .returned (.int .i64 80)∧Below V5.heap.size V5 w'):=hck;clear hck hcb
    go_upto_region 8 with(first
     |(refine cu rfl _ _ rfl y1.heap.size _ _ _ rfl HS5.out.obj aH rfl ?_ ?_;kernel_rfl)
     |(go_at_call 48;refine HCK.out.mono ?_;rintro e w6 ⟨rfl,hB6⟩))
    have HS6:=hid ((hB6.block w.heap.size (lt_of_block HS5.out.res)).trans HS5.out.res);have HB6:=hid (HS5.out.bel.trans (hB6.mono HS5.out.bel.size));clear hB6;go_wp2_with (first|(refine da rfl _ _ _ rfl w.heap.size _ _ #[(0:Int),(0:Int),(0:Int),.slice none 0 0,(0:Int),(0:Int),.slice none 0 0] rfl rfl HS6.out ?_ ?_ ?_ ?_;kernel_rfl;rfl;rfl));have HZ:=hid (aM #[(0:Int),(0:Int),(0:Int),.slice none 0 0,(0:Int),(0:Int),.slice none 0 0] HS6.out);have z0:=cw0 HZ.out;have z1:=cw1 HZ.out;have z2:=cw2 HZ.out;have z3:=cw3 HZ.out;have z4:=cw4 HZ.out;have z5:=cw5 HZ.out;have z6:=cw6 HZ.out;refine bB (v:= .tuple #[.agg #[(0:Int),(0:Int),(0:Int),.slice none 0 0,(0:Int),(0:Int),.slice none 0 0],(80:Int)]) (by simp[results,Tryz.results44,go_sem,z0,z1,z2,z3,z4,z5,z6]) rfl ?_;exact HNO.out _ (Below.setRow' HB6.out (aa _) _) (by first|rfl|trivial)
   | true=>
    rw[hcb] at hck;obtain rfl:r=some ⟨⟨t1,r1⟩,n,dv,⟨ut,ur⟩,ops⟩:=by rw[HDZ2.out,hcb];rfl
    have HCK:Hid (Calls Tryz.prog 48 #[.agg #[t1,r1,n,.slice dA dv.length dc,ut,ur,.slice oA ops.length oc]] V5 λe w'=>e= .returned (.int .i64 0)∧Below V5.heap.size V5 w'):=hck;clear hck hcb
    go_upto_region 9 with(first
     |(refine cu rfl _ _ rfl y1.heap.size _ _ _ rfl HS5.out.obj aH rfl ?_ ?_;kernel_rfl)
     |(go_at_call 48;refine HCK.out.mono ?_;rintro e w6 ⟨rfl,hB6⟩))
    have HS6:=hid ((hB6.block w.heap.size (lt_of_block HS5.out.res)).trans HS5.out.res);have HO6:=hid ((hB6.block y1.heap.size (lt_of_block HS5.out.obj)).trans HS5.out.obj);have HI6:=hid (HI.out.agr (Agr.below hB6));have HB6:=hid (HS5.out.bel.trans (hB6.mono HS5.out.bel.size));clear hB6
    go_wp2_with (first
     |(refine lA HO6 aH ?_)
     |(refine da rfl _ _ _ rfl w.heap.size _ _ #[t1,r1,n,.slice dA dv.length dc,ut,ur,.slice oA ops.length oc] rfl rfl HS6.out ?_ ?_ ?_ ?_;kernel_rfl;rfl;rfl))
    have HZ:=hid (aM #[t1,r1,n,.slice dA dv.length dc,ut,ur,.slice oA ops.length oc] HS6.out);have z0:=cw0 HZ.out;have z1:=cw1 HZ.out;have z2:=cw2 HZ.out;have z3:=cw3 HZ.out;have z4:=cw4 HZ.out;have z5:=cw5 HZ.out;have z6:=cw6 HZ.out;refine bB (v:= .tuple #[.agg #[t1,r1,n,.slice dA dv.length dc,ut,ur,.slice oA ops.length oc],(0:Int)]) (by simp[results,Tryz.results44,go_sem,z0,z1,z2,z3,z4,z5,z6]) rfl ?_;refine⟨Below.setRow' HB6.out (aa _) _,dA,dc,oA,oc,rfl,(HI6.out.agr (Agr.setRow _ w.heap.size _ (by show ¬y1.heap.size<w.heap.size;omega))).sub (λk _ h=>by have h:y1.heap.size<k:=h;omega),HTX.out⟩
  ·obtain rfl:r=none:=by rw[HRR.out,HDZ.out];simp[hse]
   have q1:¬s5.toList=[]:=by rw[str_nil];exact hse
   have q2:s5.toList.isEmpty=false:=by rw[List.isEmpty_eq_false_iff];exact q1
   clear hse;go_wp2_with (first|(refine da rfl _ _ _ rfl w.heap.size _ _ #[(0:Int),(0:Int),(0:Int),.slice none 0 0,(0:Int),(0:Int),.slice none 0 0] rfl rfl HS5.out.res ?_ ?_ ?_ ?_;kernel_rfl;rfl;rfl));have HZ:=hid (aM #[(0:Int),(0:Int),(0:Int),.slice none 0 0,(0:Int),(0:Int),.slice none 0 0] HS5.out.res);have z0:=cw0 HZ.out;have z1:=cw1 HZ.out;have z2:=cw2 HZ.out;have z3:=cw3 HZ.out;have z4:=cw4 HZ.out;have z5:=cw5 HZ.out;have z6:=cw6 HZ.out;refine bB (v:= .tuple #[.agg #[(0:Int),(0:Int),(0:Int),.slice none 0 0,(0:Int),(0:Int),.slice none 0 0],(80:Int)]) (by simp[results,Tryz.results44,go_sem,z0,z1,z2,z3,z4,z5,z6]) rfl ?_;exact HNO.out _ (Below.setRow' HS5.out.bel (aa _) _) (by first|rfl|trivial)
end
section
section
open Go.RowKit Go.Lib Go.Sort
theorem sizeBld:(Tryz.prog.info? 187).map (·.size)=some 2:=by kernel_rfl
theorem liesBld:liesAt Tryz.prog Tryz.prog.depth 189 (2 / Tryz.prog.cellsOf 189) 0 187 1=true:=by kernel_rfl
def Wrt (w:World) (B b:Nat) (l:List UInt8):Prop:=IsBuilder 189 5 B b (byteCells l) w
theorem copy_fresh (b:Nat) (w:World) (h0:w.cell? ⟨b,0,none⟩=some (.pointer none)) (hsh:w.shape? b=some (189,2)) (hfz:w.frozen? ⟨b,0,none⟩=false):
  Calls Tryz.prog 180 #[.pointer (some ⟨b,0,none⟩)] w λe w'=>e= .returned (.tuple #[])∧w'=w.setCell ⟨b,0,none⟩ (.pointer (some ⟨b,0,none⟩)):=by
 obtain⟨j,hj,hjs⟩:=Option.map_eq_some_iff.1 sizeBld;go_enter Tryz.func180,Tryz.ntmps180;go_wp2;rw[Lib.run_to_unsafe w ⟨b,0,none⟩ Tryz.underlying185 Tryz.underlying255 hj (by rw[hjs];decide) hsh (Nat.zero_lt_succ 1)];simp only[Result.andThen];rw[Oper.upon_value];go_wp2;rw[run_callFunc_extern Tryz.func203 (by kernel_rfl) (by kernel_rfl) (by kernel_rfl) (e:=Extern.AbiNoEscape.same) (by kernel_rfl)];rw[Lib.run_noEscape];simp only[Result.andThen];rw[Oper.upon_value];go_wp2;rw[Lib.run_from_unsafe w ⟨b,0,none⟩ Tryz.underlying255 Tryz.underlying185 hj hsh liesBld];simp only[Result.andThen];rw[Oper.upon_value];go_wp2;go_end0;exact⟨rfl,rfl⟩
theorem copy_used (b:Nat) (w:World) (h0:w.cell? ⟨b,0,none⟩=some (.pointer (some ⟨b,0,none⟩))):
  Calls Tryz.prog 180 #[.pointer (some ⟨b,0,none⟩)] w λe w'=>e= .returned (.tuple #[])∧w'=w:=by
 obtain⟨j,hj,hjs⟩:=Option.map_eq_some_iff.1 sizeBld;go_enter Tryz.func180,Tryz.ntmps180;go_wp2;rw[Lib.run_neq_ptr_same w _ Tryz.underlying185 hj];go_wp2;go_end0;exact⟨rfl,rfl⟩
theorem copy_any (B b:Nat) (l:List UInt8) (w:World) (h:Wrt w B b l):
  Calls Tryz.prog 180 #[.pointer (some ⟨b,0,none⟩)] w λe w'=>e= .returned (.tuple #[])∧BuilderAt 189 5 B b (.pointer (some ⟨b,0,none⟩)) (byteCells l) w'∧Below B w w'∧OthersKept 5 (some b) w w':=by
 rcases h with h|h
 ·refine(copy_fresh b w h.cell0 h.shape h.frozen0).mono ?_;rintro e w' ⟨rfl,rfl⟩;exact⟨rfl,h.used _,(ag B w).setCell (p:=⟨b,0,none⟩) h.1 _,(OthersKept.refl _ _ w).setCell ⟨b,0,none⟩ rfl _⟩
 ·refine(copy_used b w h.cell0).mono ?_;rintro e w' ⟨rfl,rfl⟩;exact⟨rfl,h,ag B _,OthersKept.refl _ _ _⟩
theorem infoB8:(Tryz.prog.info? 5).map (λi=>(i.zero,i.size,i.bytes))=some (some (.int .u8 0),1,1):=by kernel_rfl
theorem strC (s:ByteArray):strCells s=byteCells s.data.toList:=rfl
theorem byteC_app (l m:List UInt8):byteCells l++byteCells m=byteCells (l++m):=by unfold byteCells;rw[bq]
def WrQ (B b:Nat) (l:List UInt8) (w:World) (w':World):Prop:=Wrt w' B b l∧Below B w w'∧OthersKept 5 (some b) w w'
theorem wstr_any (B b:Nat) (l:List UInt8) (s:ByteArray) (w:World) (h:Wrt w B b l) (hlen:l.length+s.size<=140737488355328) (hBw:B<=w.heap.size):
  Calls Tryz.prog 132 #[.pointer (some ⟨b,0,none⟩),s] w λe w'=>e= .returned (.tuple #[.int .i64 s.size,.nilIface])∧WrQ B b (l++s.data.toList) w w':=by
 obtain⟨i0,hi,hz0,hz1,hz2⟩:=bD infoB8;have hbl:(byteCells l).length=l.length:=byteCells_length l;go_enter Tryz.func132,Tryz.ntmps132;go_wp2_with (go_at_call 180;refine(copy_any B b l _ h).mono ?_);rintro e w1 ⟨rfl,h1,hb1,hk1⟩;obtain⟨hB,v,hbk,hown,hne⟩:=h1;have c0:w1.cell? ⟨b,0,none⟩=some (.pointer (some ⟨b,0,none⟩)):=by rw[Lib.cell_of_heap hbk];rfl
 have c1:w1.cell? ⟨b,1,none⟩=some v:=by rw[Lib.cell_of_heap hbk];rfl
 go_wp2_with (at_builtin;refine Lib.wpList_append_own_string _ rfl _ _ 23 9 rfl B 5 i0 dD gn hi hz0 hz1 hz2 _ _ _ rfl hown s rfl ?c3 ?c4 ?c5 ?_)
 case c3=>unfold maxLen;omega
 case c4=>omega
 case c5=>have:=hb1.size;omega
 intro v' w2 hown' hgrow _;have hlt:b<w1.heap.size:=lt_of_block hbk;have hb2:w2.heap[b]? =some (.cells #[.pointer (some ⟨b,0,none⟩),v] 189 (0,0)):=by
  rw[hgrow.block b hlt (λe=>hne e.symm)];exact hbk
 have d0:w2.cell? ⟨b,0,none⟩=some (.pointer (some ⟨b,0,none⟩)):=by rw[Lib.cell_of_heap hb2];rfl
 have d1:w2.cell? ⟨b,1,none⟩=some v:=by rw[Lib.cell_of_heap hb2];rfl
 have f1:w2.frozen? ⟨b,1,none⟩=false:=Lib.frozen_of_heap hb2 1;have HO:=hid hown';have HOK:=hid (hk1.grown hgrow (Lib.ownsRowF_kind (World.ownsRowF_of hown)));clear hown';obtain⟨ao,n',cap,rfl⟩:∃ao n' cap,v'= .slice ao n' cap:=by
  rcases HO.out.2 with⟨hv,_⟩|⟨g,cap,cur,hv,_⟩
  ·exact⟨_,_,_,hv⟩
  ·exact⟨_,_,_,hv⟩
 go_wp2;go_ret2;refine⟨rfl,.inr ?_,?_,?_⟩
 ·have hq:l.length+s.size=(byteCells l++strCells s).length:=by rw[al,Lib.strCells_length,hbl]
  have:=Lib.BuilderAt.put (T:=189) (e:=5) hB hb2 (bs':=byteCells l++strCells s) (hq ▸ HO.out) (by decide);rw[strC,byteC_app] at this;exact this
 ·exact(hb1.grown hgrow (by have:=hb1.size;omega) (λk hk=>(hown.lt k hk).1)).setCell (p:=⟨b,1,none⟩) hB _
 ·exact HOK.out.setCell ⟨b,1,none⟩ rfl _
theorem cells8:Tryz.prog.cellsOf 5=1:=by kernel_rfl
theorem wstring_any (B b:Nat) (l:List UInt8) (w:World) (h:Wrt w B b l) (h0:l≠[]):
  Calls Tryz.prog 134 #[.pointer (some ⟨b,0,none⟩)] w λe w'=>e= .returned (.string ⟨l.toArray⟩)∧Below B w w':=by
 obtain⟨p,hB,v,hbk,hown,hne⟩:∃p,BuilderAt 189 5 B b p (byteCells l) w:=by
  rcases h with h|h
  ·exact⟨_,h⟩
  ·exact⟨_,h⟩
 have hl0:l.length≠0:=by simpa using h0
 rw[byteCells_length] at hown;obtain⟨g,cap,cur,rfl,hbg,hg,hnc,hcm,hcs,htake⟩:∃g cap cur,v= .slice (some ⟨g,0,none⟩) l.length cap∧B<=g∧w.heap[g]? =some (.cells cur 5 (0,0))∧l.length<=cap∧cap<=maxLen∧cur.size=cap*1∧cur.toList.take (l.length*1)=byteCells l:=by
  rcases hown.2 with⟨_,hz⟩|⟨g,cap,cur,hv,r⟩
  ·exact absurd hz hl0
  ·exact⟨g,cap,cur,hv,r⟩
 have c1:w.drew.cell? ⟨b,1,none⟩=some (.slice (some ⟨g,0,none⟩) l.length cap):=by
  have:w.drew.heap[b]? =some (.cells #[p,.slice (some ⟨g,0,none⟩) l.length cap] 189 (0,0)):=hbk;rw[cell_of_heap this];rfl
 have hSD:(Builtin.unsafeSliceData_ #[23] 242 #[.slice (some ⟨g,0,none⟩) l.length cap]).run Tryz.prog w.drew= .ok (.pointer (some ⟨g,0,none⟩)) w.drew:=
  Lib.run_unsafeSliceData_row _ _ _ _ _ _ (by omega)
 have hUS:(Builtin.unsafeString_ #[242,3] 9 #[.pointer (some ⟨g,0,none⟩),.int .i64 l.length]).run Tryz.prog w.drew= .ok (.string ⟨l.toArray⟩) (w.drew.freeze ⟨g,0,none⟩ l.length):=by
  refine Lib.run_unsafeString_row w.drew 242 3 9 5 Tryz.underlying242 cells8 g cur.size (by have hg':w.drew.heap[g]? =some (.cells cur 5 (0,0)):=hg;simp[World.shape?,hg']) l h0 (by omega) (by unfold maxLen at hcm;omega) ?_;intro j x hx;have:=hown.cells (g:=g) rfl j (.int .u8 x.toNat) (by simp[byteCells,hx]);exact this
 clear hl0;go_enter Tryz.func134,Tryz.ntmps134;go_wp2;go_region
 all_goals(go_wp2;go_ret;exact⟨rfl,Lib.below_freeze (Below.drew (ag B w)) (p:=⟨g,0,none⟩) hbg _⟩)
section
variable {B b : Nat} {l m : List UInt8} {w w1 w2 : World}
theorem WrQ.trans (h:WrQ B b l w w1) (k:WrQ B b m w1 w2):WrQ B b m w w2:=⟨k.1,h.2.1.trans k.2.1,h.2.2.trans k.2.2⟩
theorem Wrt.pt (h:Wrt w B b l):B<=b∧b<w.heap.size:=by
 rcases h with h|h
 ·exact⟨h.1,h.lt⟩
 ·exact⟨h.1,h.lt⟩
theorem BuilderAt.alloc' {T e:TypeId} {p:Value} {bs:List Value} (h:BuilderAt T e B b p bs w) (o:Obj):BuilderAt T e B b p bs (w.alloc o):=by
 have hl:=BuilderAt.lt h;obtain⟨h1,v,h2,h3,h4⟩:=h;exact⟨h1,v,(ax w o b hl).trans h2,h3.alloc o,h4⟩
theorem Wrt.alloc (h:Wrt w B b l) (o:Obj):Wrt (w.alloc o) B b l:=by
 rcases h with h|h
 ·exact .inl (BuilderAt.alloc' h o)
 ·exact .inr (BuilderAt.alloc' h o)
theorem BuilderAt.below' {T e:TypeId} {p:Value} {bs:List Value} (h:BuilderAt T e B b p bs w) (hb:Below w.heap.size w w1):BuilderAt T e B b p bs w1:=by
 have hl:=BuilderAt.lt h;obtain⟨h1,v,h2,h3,h4⟩:=h;exact⟨h1,v,(hb.block b hl).trans h2,h3.kept (row:=none) (dg hb) (by cases hv:v.ownBlock<;>simp),h4⟩
theorem Wrt.below (h:Wrt w B b l) (hb:Below w.heap.size w w1):Wrt w1 B b l:=by
 rcases h with h|h
 ·exact .inl (BuilderAt.below' h hb)
 ·exact .inr (BuilderAt.below' h hb)
theorem OthersKept.below' {e:TypeId} {bo:Option Nat} {a:World} (h:OthersKept e bo a w) (hb:Below w.heap.size w w1):OthersKept e bo a w1:=λk o hk hne ho=>by
 have h1:=h k o hk hne ho
 exact(hb.block k (lt_of_block h1)).trans h1
theorem WrQ.alloc (h:WrQ B b l w w1) (hB:B<=w1.heap.size) (o:Obj):WrQ B b l w (w1.alloc o):=⟨h.1.alloc o,h.2.1.alloc hB o,h.2.2.alloc o⟩
theorem WrQ.below (h:WrQ B b l w w1) (hb:Below w1.heap.size w1 w2):WrQ B b l w w2:=⟨h.1.below hb,h.2.1.trans (hb.mono (aL (aL h.1.pt.1 (Nat.le_of_lt h.1.pt.2)) (aa _))),OthersKept.below' h.2.2 hb⟩
theorem WrQ.refl (h:Wrt w B b l):WrQ B b l w w:=⟨h,ag _ _,OthersKept.refl _ _ _⟩
end
end
section
open Go.RowKit Go.Lib Go.Sort
theorem natv_any (x:Int) (h:x<9223372036854775808) (w:World):
  Calls Tryz.prog 179 #[x] w λe w'=>∃c:Int,e= .returned (.tuple #[.string ⟨(natZ x).toArray⟩,c])∧Below w.heap.size w w':=by
 by_cases h0:0<=x
 ·refine(nat_ok x h0 h w).mono ?_;rintro e w' ⟨rfl,hB⟩;exact⟨0,by rw[gK h0];rfl,hB⟩
 ·refine(nat_bad x (by omega) w).mono ?_;rintro e w' ⟨rfl,rfl⟩;refine⟨1,?_,ag _ _⟩;unfold natZ;rw[aJ (by omega)]
def intsA (xs:List Int):Array Value:=(xs.map (Value.int .i64)).toArray
theorem eV (B b:Nat) (l:List UInt8) (g:Nat) (xs:List Int) (cap:Nat) (w:World) (hx:∀x∈xs,x<9223372036854775808) (hl:l.length+10*xs.length<=140737488355328) (hn:xs.length<=100) (hW:Wrt w B b l) (hg:w.heap[g]? =some (.cells (intsA xs) 3 (0,0))) (hgb:g≠b):
  Calls Tryz.prog 131 #[.pointer (some ⟨b,0,none⟩),.slice (some ⟨g,0,none⟩) xs.length cap] w λe w'=>e= .returned (.tuple #[])∧WrQ B b (l++xs.flatMap natZ) w w':=by
 have HW:=hid (WrQ.refl hW);have HX:=hid hx;have HG:=hid hg;have hpt:=hW.pt;clear hW hx hg;obtain⟨n,hnn⟩:∃n,n=xs.length:=⟨_,rfl⟩;rw[<-hnn] at hl hn ⊢;have HN:=hid hnn;clear hnn;go_enter Tryz.func131,Tryz.ntmps131;go_wp2;go_loopw [10] (λi wr=>∃k:Nat,k<=n∧i= .int .i64 k∧Hid (WrQ B b (l++(xs.take k).flatMap natZ) w wr)) (λi _=>n-(RowKit.intOf i).toNat)
 case atStart=>exact⟨0,by omega,rfl,hid (by rw[iu,List.flatMap_nil,fV];exact HW.out)⟩
 case round=>
  obtain⟨k,hk,rfl,HQ⟩:=hrel;by_cases hlt:k<n
  ·have hkx:k<xs.length:=by have:=HN.out;omega
   have hgr:=HQ.out.2.2 g _ HG.out (by intro e;cases e;exact hgb rfl) (by intro c fz e;injection e with _ e _;exact absurd e (by decide));obtain⟨x,hxe⟩:∃x,x=xs[k]:=⟨_,rfl⟩;have hc:wr.cell? ⟨g,k,none⟩=some (.int .i64 x):=by
    rw[crw hgr,hxe];simp[intsA,hkx]
   have hxb:=HX.out x (by rw[hxe];exact bU _);have hzl:(natZ x).length<=10:=cZ hxb;have HZL:Hid ((⟨(natZ x).toArray⟩:ByteArray).size=(natZ x).length):=hid (by simp[ByteArray.size]);have hpl:(l++(xs.take k).flatMap natZ).length<=l.length+10*k:=by
    have h1:=gM (z:=natZ) (c:=10) (l:=xs.take k) λy hy=>cZ (HX.out y (dQ hy));have h2:(xs.take k).length<=k:=List.length_take_le _ _;have h3:10*(xs.take k).length<=10*k:=iS _ h2;rw[al];omega
   have HT:Hid ((l++(xs.take k).flatMap natZ)++natZ x=l++(xs.take (k+1)).flatMap natZ):=by
    show _=_;rw[cv hkx,aI,bP,hxe,aG]
   have hC:=natv_any x hxb;clear hxe hgr hkx;obtain⟨P,hP⟩:∃P,P=l++(xs.take k).flatMap natZ:=⟨_,rfl⟩;rw[<-hP] at hpl;have HP:=hid hP;have HCC:=hid hC;clear hP hC;go_wp2_with fail;refine(HCC.out _).mono ?_;rintro e w1 ⟨c,rfl,hB1⟩;have HQ1:=hid ((show WrQ B b P w wr by rw[HP.out];exact HQ.out).below hB1);clear hB1;go_wp2_with fail;refine(wstr_any B b P _ w1 HQ1.out.1 (by rw[HZL.out];omega) (by have:=HQ1.out.1.pt;omega)).mono ?_;rintro e w2 ⟨rfl,hq2⟩;have HQ2:=hid (HQ1.out.trans hq2);clear hq2;go_wp2;go_roundw
   case rel=>exact⟨k+1,by omega,by go_num,hid (by rw[<-HT.out,<-HP.out];exact HQ2.out)⟩
   case measure=>simp[RowKit.intOf];omega
  ·obtain rfl:k=n:=by omega
   go_wp2;go_end0;exact⟨rfl,by rw[HN.out,aK] at HQ;exact HQ⟩
theorem iy (B b:Nat) (l:List UInt8) (x:Gid) (w:World) (hx:x.s.t<9223372036854775808∧x.s.r<9223372036854775808∧x.i<9223372036854775808) (hl:l.length+30<=140737488355328) (hW:Wrt w B b l):
  Calls Tryz.prog 181 #[.pointer (some ⟨b,0,none⟩),idV x] w λe w'=>e= .returned (.tuple #[])∧WrQ B b (l++idZ x) w w':=by
 obtain⟨⟨t,r⟩,i⟩:=x;show Calls _ _ #[.pointer (some ⟨b,0,none⟩),.agg #[t,r,i]] w _;have hpt:=hW.pt;have HQ:=hid (((WrQ.refl hW).alloc (by omega) (.cells #[t,r,i] 108)).alloc (by simp;omega) (.cells (intsA [t,r,i]) 3));have HG:=hid (bn (n:=w.heap.size+1) (w.alloc (.cells #[t,r,i] 108)) (.cells (intsA [t,r,i]) 3) (by simp));have HX:=hid hx;clear hW hx;go_enter Tryz.func181,Tryz.ntmps181;go_wp2_with fail;refine(eV B b l (w.heap.size+1) [t,r,i] 3 _ (by have:=HX.out;simp only[bY,eZ,or_false];rintro x (rfl|rfl|rfl);exact this.1;exact this.2.1;exact this.2.2) (by simp;omega) (by simp) HQ.out.1 HG.out (by omega)).mono ?_;rintro e w' ⟨rfl,hq⟩;have HQ2:=hid (HQ.out.trans hq);clear hq;go_wp2;go_end0;refine⟨rfl,?_⟩;have:=HQ2.out;have e:idZ ⟨⟨t,r⟩,i⟩=[t,r,i].flatMap natZ:=by simp[idZ,aG]
 rw[e];exact this
end
section
open Go.RowKit Go.Lib Go.Sort
attribute [local go_sem ↓] Go.wp_at_zero Go.wp_at_succ
theorem WrQ.obj {B b:Nat} {l:List UInt8} {w w1:World} {O:Nat} {c:Array Value} {T:TypeId} (h:WrQ B b l w w1) (ho:w.heap[O]? =some (.cells c T (0,0))) (hb:O≠b) (hT:T≠5):w1.heap[O]? =some (.cells c T (0,0)):=
 h.2.2 O _ ho (by intro e;cases e;exact hb rfl) (by intro c' fz e;injection e with _ e _;exact hT e)
theorem bytesv_any (t:ByteArray) (hs:t.size<=1000000) (w:World):
  Calls Tryz.prog 135 #[t] w λe w'=>∃P:ByteArray,e= .returned (.string P)∧P.data.toList=gl t∧P.size<=1000010∧Below w.heap.size w w':=by
 refine(bytes1_any t (by omega) w).mono ?_;rintro e w' ⟨rfl,hB⟩;have e1:(putS t.size++t).data.toList=gl t:=by
  rw[ByteArray.data_append,Array.toList_append];rfl
 refine⟨_,rfl,e1,?_,hB⟩;have e2:(putS t.size++t).size=(putS t.size++t).data.toList.length:=by simp
 have h2:=eD (s:=t) (by omega);rw[e2,e1];omega
theorem okD.b {x:Gid} (h:okD x):x.s.t<9223372036854775808∧x.s.r<9223372036854775808∧x.i<9223372036854775808:=⟨h.1.1.2,h.1.2.2,h.2.2⟩
theorem wop_0 (B b:Nat) (l:List UInt8) (nt nr ni pt pr pi:Int) (name:ByteArray) (dir:Bool) (dots:List Gst) (at_ ar ai et er ei:Int) (text:ByteArray) (elems:List Gid) (xd:Option Addr) (xdc:Nat) (xe:Option Addr) (xec:Nat) (w:World)
  (hok:okO ⟨0,⟨⟨nt,nr⟩,ni⟩,⟨⟨pt,pr⟩,pi⟩,name,dir,dots,⟨⟨at_,ar⟩,ai⟩,⟨⟨et,er⟩,ei⟩,text,elems⟩) (hdl:dots.length<=200) (hel:elems.length<=2000) (hnl:name.size<=1000000) (htl:text.size<=1000000) (hl:l.length+3000000<=140737488355328) (hW:Wrt w B b l) (hIn:OpIn w (λk=>k<B) ⟨0,⟨⟨nt,nr⟩,ni⟩,⟨⟨pt,pr⟩,pi⟩,name,dir,dots,⟨⟨at_,ar⟩,ai⟩,⟨⟨et,er⟩,ei⟩,text,elems⟩ ⟨xd,xdc,xe,xec⟩):
  Calls Tryz.prog 133 #[.pointer (some ⟨b,0,none⟩),.agg #[(0:Int),nt,nr,ni,pt,pr,pi,name,dir,.slice xd dots.length xdc,at_,ar,ai,et,er,ei,text,.slice xe elems.length xec]] w λe w'=>e= .returned (.tuple #[])∧WrQ B b (l++opZ ⟨0,⟨⟨nt,nr⟩,ni⟩,⟨⟨pt,pr⟩,pi⟩,name,dir,dots,⟨⟨at_,ar⟩,ai⟩,⟨⟨et,er⟩,ei⟩,text,elems⟩) w w':=by
 obtain⟨-,-,-,okn,okp,-,okd,oka,oke,-,okel⟩:=hok;simp only at okn okp okd oka oke okel;have hpt:=hW.pt;have HIn:=hid hIn;have HQ0:=hid ((WrQ.refl hW).alloc (by omega) (.cells #[(0:Int),nt,nr,ni,pt,pr,pi,name,dir,.slice xd dots.length xdc,at_,ar,ai,et,er,ei,text,.slice xe elems.length xec] 125));have HA:=hid (am w (.cells #[(0:Int),nt,nr,ni,pt,pr,pi,name,dir,.slice xd dots.length xdc,at_,ar,ai,et,er,ei,text,.slice xe elems.length xec] 125));have HOn:=hid okn.b;have HOp:=hid okp.b;have HOd:=hid okd;have HOa:=hid oka.b;have HOe:=hid oke.b;have HOl:=hid okel;have hz1:=d6 okn;have hz2:=d6 okp;have hz3:=d6 oka;have hz4:=d6 oke;have hbn:=eD (s:=name) (by omega);have hbt:=eD (s:=text) (by omega);clear hW hIn okn okp okd oka oke okel;obtain⟨z1,hz1e⟩:∃z,z=idZ ⟨⟨nt,nr⟩,ni⟩:=⟨_,rfl⟩;obtain⟨z2,hz2e⟩:∃z,z=idZ ⟨⟨pt,pr⟩,pi⟩:=⟨_,rfl⟩;obtain⟨z3,hz3e⟩:∃z,z=idZ ⟨⟨at_,ar⟩,ai⟩:=⟨_,rfl⟩;obtain⟨z4,hz4e⟩:∃z,z=idZ ⟨⟨et,er⟩,ei⟩:=⟨_,rfl⟩;rw[<-hz1e] at hz1;rw[<-hz2e] at hz2;rw[<-hz3e] at hz3;rw[<-hz4e] at hz4;have HZ1:=hid hz1e;have HZ2:=hid hz2e;have HZ3:=hid hz3e;have HZ4:=hid hz4e;clear hz1e hz2e hz3e hz4e;go_enter Tryz.func133,Tryz.ntmps133;have hlk:(natZ 0).length<=10:=cZ (by decide);go_wp2_with fail;have HK1:=hid (HQ0.out.alloc (by have:=HQ0.out.1.pt;omega) (.cells #[(0:Int)] 3))
 refine(eV B b l (w.heap.size+1) [0] 1 _ (by intro y hy;simp at hy;subst hy;decide) (by simp;omega) (by simp) (by exact HK1.out.1) (by exact bn _ _ (by simp)) (by have:=HQ0.out.1.pt;omega)).mono ?_;rintro e y1 ⟨rfl,hq⟩;have HQ1:=hid (show WrQ B b (l++natZ 0) w y1 by have:=HK1.out.trans (by exact hq);simpa using this);have HA1:=hid (WrQ.obj hq ((ax _ _ _ (lt_of_block HA.out)).trans HA.out) (by omega) (by decide));clear hq HK1;have c1_1:=cw1 HA1.out;have c2_1:=cw2 HA1.out;have c3_1:=cw3 HA1.out;go_wp2_with fail;refine(iy B b (l++natZ 0) ⟨⟨nt,nr⟩,ni⟩ _ HOn.out (by simp;omega) HQ1.out.1).mono ?_;rintro e y2 ⟨rfl,hq⟩;have HQ2:=hid (show WrQ B b ((l++natZ 0)++z1) w y2 by have:=HQ1.out.trans hq;rw[<-HZ1.out] at this;exact this);have HA2:=hid (hq.obj HA1.out (by omega) (by decide));clear hq;have c0_2:=cw0 HA2.out;have c9_2:=cw9 HA2.out;have c17_2:=cw17 HA2.out;have c4_2:=cw4 HA2.out;have c5_2:=cw5 HA2.out;have c6_2:=cw6 HA2.out;go_wp2_with fail;refine(iy B b ((l++natZ 0)++z1) ⟨⟨pt,pr⟩,pi⟩ _ HOp.out (by simp;omega) HQ2.out.1).mono ?_;rintro e y3 ⟨rfl,hq⟩;have HQ3:=hid (show WrQ B b (((l++natZ 0)++z1)++z2) w y3 by have:=HQ2.out.trans hq;rw[<-HZ2.out] at this;exact this);have HA3:=hid (hq.obj HA2.out (by omega) (by decide));clear hq;have c7_3:=cw7 HA3.out;have c0_3:=cw0 HA3.out;have c8_3:=cw8 HA3.out;go_upto_region 7 with(fail)
 go_region_with (first
  |(go_at_call 135;refine(bytesv_any name hnl _).mono ?_;rintro e v4 ⟨P,rfl,hP,hPs,hBv⟩;have HP:=hid hP;have HV4:=hid (HQ3.out.below ⟨hBv.os,hBv.tape,hBv.output,hBv.size,hBv.block⟩);have HVA4:=bK hBv HA3;clear hP hBv)
  |(go_at_call 132;refine(wstr_any B b (((l++natZ 0)++z1)++z2) P _ (by exact HV4.out.1) (by simp;omega) (by have:=HV4.out.1.pt;omega)).mono ?_;rintro e y4 ⟨rfl,hq⟩;have HQ4:=hid (show WrQ B b ((((l++natZ 0)++z1)++z2)++gl name) w y4 by have:=HV4.out.trans (by exact hq);rw[HP.out] at this;exact this);have HA4:=hid (WrQ.obj hq HVA4.out (by omega) (by decide));clear hq))
 have c0_4:=cw0 HA4.out;have c8_4:=cw8 HA4.out;cases dir with
 |false=>
  go_wp2_with fail;have HK5:=hid (HQ4.out.alloc (by have:=HQ4.out.1.pt;omega) (.cells #[(0:Int)] 3));refine(eV B b ((((l++natZ 0)++z1)++z2)++gl name) y4.heap.size [0] 1 _ (by intro y hy;simp at hy;subst hy;decide) (by simp;omega) (by simp) (by exact HK5.out.1) (by exact bn _ _ (by simp)) (by have:=HQ4.out.1.pt;omega)).mono ?_;rintro e y5 ⟨rfl,hq⟩;have HQ5:=hid (show WrQ B b (((((l++natZ 0)++z1)++z2)++gl name)++natZ 0) w y5 by have:=HK5.out.trans (by exact hq);simpa using this);have HA5:=hid (WrQ.obj hq ((ax _ _ _ (lt_of_block HA4.out)).trans HA4.out) (by omega) (by decide));clear hq HK5;go_wp2;go_end0;refine⟨rfl,?_⟩;have:=HQ5.out;rw[HZ1.out,HZ2.out] at this;simpa[opZ,aG] using this
 |true=>
  go_wp2_with fail;have HK5:=hid (HQ4.out.alloc (by have:=HQ4.out.1.pt;omega) (.cells #[(1:Int)] 3));refine(eV B b ((((l++natZ 0)++z1)++z2)++gl name) y4.heap.size [1] 1 _ (by intro y hy;simp at hy;subst hy;decide) (by simp;omega) (by simp) (by exact HK5.out.1) (by exact bn _ _ (by simp)) (by have:=HQ4.out.1.pt;omega)).mono ?_;rintro e y5 ⟨rfl,hq⟩;have HQ5:=hid (show WrQ B b (((((l++natZ 0)++z1)++z2)++gl name)++natZ 1) w y5 by have:=HK5.out.trans (by exact hq);simpa using this);have HA5:=hid (WrQ.obj hq ((ax _ _ _ (lt_of_block HA4.out)).trans HA4.out) (by omega) (by decide));clear hq HK5;go_wp2;go_end0;refine⟨rfl,?_⟩;have:=HQ5.out;rw[HZ1.out,HZ2.out] at this;simpa[opZ,aG] using this
theorem wop_1 (B b:Nat) (l:List UInt8) (nt nr ni pt pr pi:Int) (name:ByteArray) (dir:Bool) (dots:List Gst) (at_ ar ai et er ei:Int) (text:ByteArray) (elems:List Gid) (xd:Option Addr) (xdc:Nat) (xe:Option Addr) (xec:Nat) (w:World)
  (hok:okO ⟨1,⟨⟨nt,nr⟩,ni⟩,⟨⟨pt,pr⟩,pi⟩,name,dir,dots,⟨⟨at_,ar⟩,ai⟩,⟨⟨et,er⟩,ei⟩,text,elems⟩) (hdl:dots.length<=200) (hel:elems.length<=2000) (hnl:name.size<=1000000) (htl:text.size<=1000000) (hl:l.length+3000000<=140737488355328) (hW:Wrt w B b l) (hIn:OpIn w (λk=>k<B) ⟨1,⟨⟨nt,nr⟩,ni⟩,⟨⟨pt,pr⟩,pi⟩,name,dir,dots,⟨⟨at_,ar⟩,ai⟩,⟨⟨et,er⟩,ei⟩,text,elems⟩ ⟨xd,xdc,xe,xec⟩):
  Calls Tryz.prog 133 #[.pointer (some ⟨b,0,none⟩),.agg #[(1:Int),nt,nr,ni,pt,pr,pi,name,dir,.slice xd dots.length xdc,at_,ar,ai,et,er,ei,text,.slice xe elems.length xec]] w λe w'=>e= .returned (.tuple #[])∧WrQ B b (l++opZ ⟨1,⟨⟨nt,nr⟩,ni⟩,⟨⟨pt,pr⟩,pi⟩,name,dir,dots,⟨⟨at_,ar⟩,ai⟩,⟨⟨et,er⟩,ei⟩,text,elems⟩) w w':=by
 obtain⟨-,-,-,okn,okp,-,okd,oka,oke,-,okel⟩:=hok;simp only at okn okp okd oka oke okel;have hpt:=hW.pt;have HIn:=hid hIn;have HQ0:=hid ((WrQ.refl hW).alloc (by omega) (.cells #[(1:Int),nt,nr,ni,pt,pr,pi,name,dir,.slice xd dots.length xdc,at_,ar,ai,et,er,ei,text,.slice xe elems.length xec] 125));have HA:=hid (am w (.cells #[(1:Int),nt,nr,ni,pt,pr,pi,name,dir,.slice xd dots.length xdc,at_,ar,ai,et,er,ei,text,.slice xe elems.length xec] 125));have HOn:=hid okn.b;have HOp:=hid okp.b;have HOd:=hid okd;have HOa:=hid oka.b;have HOe:=hid oke.b;have HOl:=hid okel;have hz1:=d6 okn;have hz2:=d6 okp;have hz3:=d6 oka;have hz4:=d6 oke;have hbn:=eD (s:=name) (by omega);have hbt:=eD (s:=text) (by omega);clear hW hIn okn okp okd oka oke okel;obtain⟨z1,hz1e⟩:∃z,z=idZ ⟨⟨nt,nr⟩,ni⟩:=⟨_,rfl⟩;obtain⟨z2,hz2e⟩:∃z,z=idZ ⟨⟨pt,pr⟩,pi⟩:=⟨_,rfl⟩;obtain⟨z3,hz3e⟩:∃z,z=idZ ⟨⟨at_,ar⟩,ai⟩:=⟨_,rfl⟩;obtain⟨z4,hz4e⟩:∃z,z=idZ ⟨⟨et,er⟩,ei⟩:=⟨_,rfl⟩;rw[<-hz1e] at hz1;rw[<-hz2e] at hz2;rw[<-hz3e] at hz3;rw[<-hz4e] at hz4;have HZ1:=hid hz1e;have HZ2:=hid hz2e;have HZ3:=hid hz3e;have HZ4:=hid hz4e;clear hz1e hz2e hz3e hz4e;go_enter Tryz.func133,Tryz.ntmps133;have hlk:(natZ 1).length<=10:=cZ (by decide);go_wp2_with fail;have HK1:=hid (HQ0.out.alloc (by have:=HQ0.out.1.pt;omega) (.cells #[(1:Int)] 3))
 refine(eV B b l (w.heap.size+1) [1] 1 _ (by intro y hy;simp at hy;subst hy;decide) (by simp;omega) (by simp) (by exact HK1.out.1) (by exact bn _ _ (by simp)) (by have:=HQ0.out.1.pt;omega)).mono ?_;rintro e y1 ⟨rfl,hq⟩;have HQ1:=hid (show WrQ B b (l++natZ 1) w y1 by have:=HK1.out.trans (by exact hq);simpa using this);have HA1:=hid (WrQ.obj hq ((ax _ _ _ (lt_of_block HA.out)).trans HA.out) (by omega) (by decide));clear hq HK1;have c1_1:=cw1 HA1.out;have c2_1:=cw2 HA1.out;have c3_1:=cw3 HA1.out;go_wp2_with fail;refine(iy B b (l++natZ 1) ⟨⟨nt,nr⟩,ni⟩ _ HOn.out (by simp;omega) HQ1.out.1).mono ?_;rintro e y2 ⟨rfl,hq⟩;have HQ2:=hid (show WrQ B b ((l++natZ 1)++z1) w y2 by have:=HQ1.out.trans hq;rw[<-HZ1.out] at this;exact this);have HA2:=hid (hq.obj HA1.out (by omega) (by decide));clear hq;have c0_2:=cw0 HA2.out;have c9_2:=cw9 HA2.out;have c17_2:=cw17 HA2.out;have c4_2:=cw4 HA2.out;have c5_2:=cw5 HA2.out;have c6_2:=cw6 HA2.out;go_wp2_with fail;refine(iy B b ((l++natZ 1)++z1) ⟨⟨pt,pr⟩,pi⟩ _ HOp.out (by simp;omega) HQ2.out.1).mono ?_;rintro e y3 ⟨rfl,hq⟩;have HQ3:=hid (show WrQ B b (((l++natZ 1)++z1)++z2) w y3 by have:=HQ2.out.trans hq;rw[<-HZ2.out] at this;exact this);have HA3:=hid (hq.obj HA2.out (by omega) (by decide));clear hq;have c7_3:=cw7 HA3.out;have c0_3:=cw0 HA3.out;have c8_3:=cw8 HA3.out;go_upto_region 7 with(fail)
 go_region_with (first
  |(go_at_call 135;refine(bytesv_any name hnl _).mono ?_;rintro e v4 ⟨P,rfl,hP,hPs,hBv⟩;have HP:=hid hP;have HV4:=hid (HQ3.out.below ⟨hBv.os,hBv.tape,hBv.output,hBv.size,hBv.block⟩);have HVA4:=bK hBv HA3;clear hP hBv)
  |(go_at_call 132;refine(wstr_any B b (((l++natZ 1)++z1)++z2) P _ (by exact HV4.out.1) (by simp;omega) (by have:=HV4.out.1.pt;omega)).mono ?_;rintro e y4 ⟨rfl,hq⟩;have HQ4:=hid (show WrQ B b ((((l++natZ 1)++z1)++z2)++gl name) w y4 by have:=HV4.out.trans (by exact hq);rw[HP.out] at this;exact this);have HA4:=hid (WrQ.obj hq HVA4.out (by omega) (by decide));clear hq))
 have c0_4:=cw0 HA4.out;have c8_4:=cw8 HA4.out;go_wp2;go_end0;refine⟨rfl,?_⟩;have:=HQ4.out;rw[HZ1.out,HZ2.out] at this;simpa[opZ,aG] using this
theorem wop_2 (B b:Nat) (l:List UInt8) (nt nr ni pt pr pi:Int) (name:ByteArray) (dir:Bool) (dots:List Gst) (at_ ar ai et er ei:Int) (text:ByteArray) (elems:List Gid) (xd:Option Addr) (xdc:Nat) (xe:Option Addr) (xec:Nat) (w:World)
  (hok:okO ⟨2,⟨⟨nt,nr⟩,ni⟩,⟨⟨pt,pr⟩,pi⟩,name,dir,dots,⟨⟨at_,ar⟩,ai⟩,⟨⟨et,er⟩,ei⟩,text,elems⟩) (hdl:dots.length<=200) (hel:elems.length<=2000) (hnl:name.size<=1000000) (htl:text.size<=1000000) (hl:l.length+3000000<=140737488355328) (hW:Wrt w B b l) (hIn:OpIn w (λk=>k<B) ⟨2,⟨⟨nt,nr⟩,ni⟩,⟨⟨pt,pr⟩,pi⟩,name,dir,dots,⟨⟨at_,ar⟩,ai⟩,⟨⟨et,er⟩,ei⟩,text,elems⟩ ⟨xd,xdc,xe,xec⟩):
  Calls Tryz.prog 133 #[.pointer (some ⟨b,0,none⟩),.agg #[(2:Int),nt,nr,ni,pt,pr,pi,name,dir,.slice xd dots.length xdc,at_,ar,ai,et,er,ei,text,.slice xe elems.length xec]] w λe w'=>e= .returned (.tuple #[])∧WrQ B b (l++opZ ⟨2,⟨⟨nt,nr⟩,ni⟩,⟨⟨pt,pr⟩,pi⟩,name,dir,dots,⟨⟨at_,ar⟩,ai⟩,⟨⟨et,er⟩,ei⟩,text,elems⟩) w w':=by
 obtain⟨-,-,-,okn,okp,-,okd,oka,oke,-,okel⟩:=hok;simp only at okn okp okd oka oke okel;have hpt:=hW.pt;have HIn:=hid hIn;have HQ0:=hid ((WrQ.refl hW).alloc (by omega) (.cells #[(2:Int),nt,nr,ni,pt,pr,pi,name,dir,.slice xd dots.length xdc,at_,ar,ai,et,er,ei,text,.slice xe elems.length xec] 125));have HA:=hid (am w (.cells #[(2:Int),nt,nr,ni,pt,pr,pi,name,dir,.slice xd dots.length xdc,at_,ar,ai,et,er,ei,text,.slice xe elems.length xec] 125));have HOn:=hid okn.b;have HOp:=hid okp.b;have HOd:=hid okd;have HOa:=hid oka.b;have HOe:=hid oke.b;have HOl:=hid okel;have hz1:=d6 okn;have hz2:=d6 okp;have hz3:=d6 oka;have hz4:=d6 oke;have hbn:=eD (s:=name) (by omega);have hbt:=eD (s:=text) (by omega);clear hW hIn okn okp okd oka oke okel;obtain⟨z1,hz1e⟩:∃z,z=idZ ⟨⟨nt,nr⟩,ni⟩:=⟨_,rfl⟩;obtain⟨z2,hz2e⟩:∃z,z=idZ ⟨⟨pt,pr⟩,pi⟩:=⟨_,rfl⟩;obtain⟨z3,hz3e⟩:∃z,z=idZ ⟨⟨at_,ar⟩,ai⟩:=⟨_,rfl⟩;obtain⟨z4,hz4e⟩:∃z,z=idZ ⟨⟨et,er⟩,ei⟩:=⟨_,rfl⟩;rw[<-hz1e] at hz1;rw[<-hz2e] at hz2;rw[<-hz3e] at hz3;rw[<-hz4e] at hz4;have HZ1:=hid hz1e;have HZ2:=hid hz2e;have HZ3:=hid hz3e;have HZ4:=hid hz4e;clear hz1e hz2e hz3e hz4e;go_enter Tryz.func133,Tryz.ntmps133;have hlk:(natZ 2).length<=10:=cZ (by decide);go_wp2_with fail;have HK1:=hid (HQ0.out.alloc (by have:=HQ0.out.1.pt;omega) (.cells #[(2:Int)] 3))
 refine(eV B b l (w.heap.size+1) [2] 1 _ (by intro y hy;simp at hy;subst hy;decide) (by simp;omega) (by simp) (by exact HK1.out.1) (by exact bn _ _ (by simp)) (by have:=HQ0.out.1.pt;omega)).mono ?_;rintro e y1 ⟨rfl,hq⟩;have HQ1:=hid (show WrQ B b (l++natZ 2) w y1 by have:=HK1.out.trans (by exact hq);simpa using this);have HA1:=hid (WrQ.obj hq ((ax _ _ _ (lt_of_block HA.out)).trans HA.out) (by omega) (by decide));clear hq HK1;have c1_1:=cw1 HA1.out;have c2_1:=cw2 HA1.out;have c3_1:=cw3 HA1.out;go_wp2_with fail;refine(iy B b (l++natZ 2) ⟨⟨nt,nr⟩,ni⟩ _ HOn.out (by simp;omega) HQ1.out.1).mono ?_;rintro e y2 ⟨rfl,hq⟩;have HQ2:=hid (show WrQ B b ((l++natZ 2)++z1) w y2 by have:=HQ1.out.trans hq;rw[<-HZ1.out] at this;exact this);have HA2:=hid (hq.obj HA1.out (by omega) (by decide));clear hq;have c0_2:=cw0 HA2.out;have c9_2:=cw9 HA2.out;have c17_2:=cw17 HA2.out;go_wp2_with fail;have HK3:=hid (HQ2.out.alloc (by have:=HQ2.out.1.pt;omega) (.cells #[(dots.length:Int)] 3));refine(eV B b ((l++natZ 2)++z1) y2.heap.size [(dots.length:Int)] 1 _ (by intro y hy;simp at hy;subst hy;omega) (by simp;omega) (by simp) (by exact HK3.out.1) (by exact bn _ _ (by simp)) (by have:=HQ2.out.1.pt;omega)).mono ?_;rintro e y3 ⟨rfl,hq⟩;have HQ3:=hid (show WrQ B b (((l++natZ 2)++z1)++natZ dots.length) w y3 by have:=HK3.out.trans (by exact hq);simpa using this)
 have HA3:=hid (WrQ.obj hq ((ax _ _ _ (lt_of_block HA2.out)).trans HA2.out) (by omega) (by decide));clear hq HK3;have c9_3:=cw9 HA3.out;have c17_3:=cw17 HA3.out;have c0_3:=cw0 HA3.out;have hzk:(natZ (dots.length:Int)).length<=10:=cZ (by omega);obtain⟨n,hn⟩:∃n,n=dots.length:=⟨_,rfl⟩;obtain⟨P,hP⟩:∃P,P=(((l++natZ 2)++z1)++natZ dots.length):=⟨_,rfl⟩;have hPl:P.length<=l.length+50:=by rw[hP];simp;omega
 have HP:=hid hP;have HN:=hid hn;clear hP;rw[<-hn] at hdl c9_3;clear hn hzk hlk;have HQS:=hid (show WrQ B b P w y3 by rw[HP.out];exact HQ3.out);have hN:(dots.length:Int)=(n:Int):=by rw[HN.out]
 try rw[hN]
 clear hN;go_upto_region 16 with(fail);go_loopw [54] (λi wr=>∃j:Nat,j<=n∧i= .int .i64 j∧Hid (WrQ B b (P++(dots.take j).flatMap stZ) w wr)) (λi _=>n-(RowKit.intOf i).toNat)
 case atStart=>exact⟨0,by omega,rfl,hid (by rw[iu,List.flatMap_nil,fV];exact HQS.out)⟩
 case round=>
  obtain⟨j,hj,rfl,HR⟩:=hrel;by_cases hlt:j<n
  ·have hjl:j<dots.length:=by have:=HN.out;omega
   obtain⟨ab,ao,rfl,-,hab,d0,d1⟩:=StsS.at_ (RowG.agr HIn.out.dots ⟨HR.out.2.1.size,λk hk _=>HR.out.2.1.block k hk⟩) (k:=j) hjl;obtain⟨x,hx⟩:∃x,x=dots.getD j .zero:=⟨_,rfl⟩;simp only[<-hx] at d0 d1;have hxm:x∈dots:=by rw[hx,ae,an hjl];exact bU hjl
   have hxo:=HOd.out.2 x hxm;have HT:=hid (show(P++(dots.take j).flatMap stZ)++stZ x=P++(dots.take (j+1)).flatMap stZ by rw[cv hjl,aI,bP,hx,ae,an hjl,aG];rfl);have hpl:(P++(dots.take j).flatMap stZ).length<=P.length+20*n:=by
    have h1:=gM (z:=stZ) (c:=20) (l:=dots.take j) λy hy=>stZ_le (HOd.out.2 y (dQ hy));have h2:(dots.take j).length<=n:=by have:=List.length_take_le j dots;omega
    have h3:20*(dots.take j).length<=20*n:=iS _ h2;rw[al];omega
   have hxb:x.t<9223372036854775808∧x.r<9223372036854775808:=⟨hxo.1.2,hxo.2.2⟩;obtain⟨xt,xr⟩:=x;simp only at d0 d1 hxb;obtain⟨P2,hP2⟩:∃P2,P2=P++(dots.take j).flatMap stZ:=⟨_,rfl⟩;rw[<-hP2] at hpl;have HP2:=hid hP2;have HB2:=hid hxb;clear hP2 hx hxm hxo hjl hxb;have HR2:=hid (show WrQ B b P2 w wr by rw[HP2.out];exact HR.out);have HK:=hid ((HR2.out.alloc (by have:=HR2.out.1.pt;omega) (.cells #[xt,xr] 42)).alloc (by have:=HR2.out.1.pt;simp;omega) (.cells (intsA [xt,xr]) 3));go_wp2_with fail;refine(eV B b P2 (wr.heap.size+1) [xt,xr] 2 _ (by have:=HB2.out;simp only[bY,eZ,or_false];rintro x (rfl|rfl);exact this.1;exact this.2) (by simp;omega) (by simp) HK.out.1 (bn _ _ (by simp)) (by have:=HR2.out.1.pt;omega)).mono ?_;rintro e w3 ⟨rfl,hq⟩;have HQ9:=hid (show WrQ B b (P2++stZ ⟨xt,xr⟩) w w3 by have:=HK.out.trans hq;simpa[stZ] using this);clear hq;go_wp2;go_roundw
   case rel=>exact⟨j+1,by omega,by go_num,hid (by rw[<-HT.out,<-HP2.out];exact HQ9.out)⟩
   case measure=>simp[RowKit.intOf];omega
  ·obtain rfl:j=n:=by omega
   go_wp2;go_end0;refine⟨rfl,?_⟩;have:=HR.out;rw[HN.out,aK,HP.out,HZ1.out] at this;simpa[opZ,aG] using this
theorem wop_3 (B b:Nat) (l:List UInt8) (nt nr ni pt pr pi:Int) (name:ByteArray) (dir:Bool) (dots:List Gst) (at_ ar ai et er ei:Int) (text:ByteArray) (elems:List Gid) (xd:Option Addr) (xdc:Nat) (xe:Option Addr) (xec:Nat) (w:World)
  (hok:okO ⟨3,⟨⟨nt,nr⟩,ni⟩,⟨⟨pt,pr⟩,pi⟩,name,dir,dots,⟨⟨at_,ar⟩,ai⟩,⟨⟨et,er⟩,ei⟩,text,elems⟩) (hdl:dots.length<=200) (hel:elems.length<=2000) (hnl:name.size<=1000000) (htl:text.size<=1000000) (hl:l.length+3000000<=140737488355328) (hW:Wrt w B b l) (hIn:OpIn w (λk=>k<B) ⟨3,⟨⟨nt,nr⟩,ni⟩,⟨⟨pt,pr⟩,pi⟩,name,dir,dots,⟨⟨at_,ar⟩,ai⟩,⟨⟨et,er⟩,ei⟩,text,elems⟩ ⟨xd,xdc,xe,xec⟩):
  Calls Tryz.prog 133 #[.pointer (some ⟨b,0,none⟩),.agg #[(3:Int),nt,nr,ni,pt,pr,pi,name,dir,.slice xd dots.length xdc,at_,ar,ai,et,er,ei,text,.slice xe elems.length xec]] w λe w'=>e= .returned (.tuple #[])∧WrQ B b (l++opZ ⟨3,⟨⟨nt,nr⟩,ni⟩,⟨⟨pt,pr⟩,pi⟩,name,dir,dots,⟨⟨at_,ar⟩,ai⟩,⟨⟨et,er⟩,ei⟩,text,elems⟩) w w':=by
 obtain⟨-,-,-,okn,okp,-,okd,oka,oke,-,okel⟩:=hok;simp only at okn okp okd oka oke okel;have hpt:=hW.pt;have HIn:=hid hIn;have HQ0:=hid ((WrQ.refl hW).alloc (by omega) (.cells #[(3:Int),nt,nr,ni,pt,pr,pi,name,dir,.slice xd dots.length xdc,at_,ar,ai,et,er,ei,text,.slice xe elems.length xec] 125));have HA:=hid (am w (.cells #[(3:Int),nt,nr,ni,pt,pr,pi,name,dir,.slice xd dots.length xdc,at_,ar,ai,et,er,ei,text,.slice xe elems.length xec] 125));have HOn:=hid okn.b;have HOp:=hid okp.b;have HOd:=hid okd;have HOa:=hid oka.b;have HOe:=hid oke.b;have HOl:=hid okel;have hz1:=d6 okn;have hz2:=d6 okp;have hz3:=d6 oka;have hz4:=d6 oke;have hbn:=eD (s:=name) (by omega);have hbt:=eD (s:=text) (by omega);clear hW hIn okn okp okd oka oke okel;obtain⟨z1,hz1e⟩:∃z,z=idZ ⟨⟨nt,nr⟩,ni⟩:=⟨_,rfl⟩;obtain⟨z2,hz2e⟩:∃z,z=idZ ⟨⟨pt,pr⟩,pi⟩:=⟨_,rfl⟩;obtain⟨z3,hz3e⟩:∃z,z=idZ ⟨⟨at_,ar⟩,ai⟩:=⟨_,rfl⟩;obtain⟨z4,hz4e⟩:∃z,z=idZ ⟨⟨et,er⟩,ei⟩:=⟨_,rfl⟩;rw[<-hz1e] at hz1;rw[<-hz2e] at hz2;rw[<-hz3e] at hz3;rw[<-hz4e] at hz4;have HZ1:=hid hz1e;have HZ2:=hid hz2e;have HZ3:=hid hz3e;have HZ4:=hid hz4e;clear hz1e hz2e hz3e hz4e;go_enter Tryz.func133,Tryz.ntmps133;have hlk:(natZ 3).length<=10:=cZ (by decide);go_wp2_with fail;have HK1:=hid (HQ0.out.alloc (by have:=HQ0.out.1.pt;omega) (.cells #[(3:Int)] 3))
 refine(eV B b l (w.heap.size+1) [3] 1 _ (by intro y hy;simp at hy;subst hy;decide) (by simp;omega) (by simp) (by exact HK1.out.1) (by exact bn _ _ (by simp)) (by have:=HQ0.out.1.pt;omega)).mono ?_;rintro e y1 ⟨rfl,hq⟩;have HQ1:=hid (show WrQ B b (l++natZ 3) w y1 by have:=HK1.out.trans (by exact hq);simpa using this);have HA1:=hid (WrQ.obj hq ((ax _ _ _ (lt_of_block HA.out)).trans HA.out) (by omega) (by decide));clear hq HK1;have c1_1:=cw1 HA1.out;have c2_1:=cw2 HA1.out;have c3_1:=cw3 HA1.out;go_wp2_with fail;refine(iy B b (l++natZ 3) ⟨⟨nt,nr⟩,ni⟩ _ HOn.out (by simp;omega) HQ1.out.1).mono ?_;rintro e y2 ⟨rfl,hq⟩;have HQ2:=hid (show WrQ B b ((l++natZ 3)++z1) w y2 by have:=HQ1.out.trans hq;rw[<-HZ1.out] at this;exact this);have HA2:=hid (hq.obj HA1.out (by omega) (by decide));clear hq;have c0_2:=cw0 HA2.out;have c9_2:=cw9 HA2.out;have c17_2:=cw17 HA2.out;have c10_2:=cw10 HA2.out;have c11_2:=cw11 HA2.out;have c12_2:=cw12 HA2.out;go_wp2_with fail;refine(iy B b ((l++natZ 3)++z1) ⟨⟨at_,ar⟩,ai⟩ _ HOa.out (by simp;omega) HQ2.out.1).mono ?_;rintro e y3 ⟨rfl,hq⟩;have HQ3:=hid (show WrQ B b (((l++natZ 3)++z1)++z3) w y3 by have:=HQ2.out.trans hq;rw[<-HZ3.out] at this;exact this);have HA3:=hid (hq.obj HA2.out (by omega) (by decide));clear hq;have c13_3:=cw13 HA3.out;have c14_3:=cw14 HA3.out;have c15_3:=cw15 HA3.out;go_wp2_with fail;refine(iy B b (((l++natZ 3)++z1)++z3) ⟨⟨et,er⟩,ei⟩ _ HOe.out (by simp;omega) HQ3.out.1).mono ?_
 rintro e y4 ⟨rfl,hq⟩;have HQ4:=hid (show WrQ B b ((((l++natZ 3)++z1)++z3)++z4) w y4 by have:=HQ3.out.trans hq;rw[<-HZ4.out] at this;exact this);have HA4:=hid (hq.obj HA3.out (by omega) (by decide));clear hq;have c16_4:=cw16 HA4.out;go_upto_region 23 with(fail)
 go_region_with (first
  |(go_at_call 135;refine(bytesv_any text htl _).mono ?_;rintro e v5 ⟨P,rfl,hP,hPs,hBv⟩;have HP:=hid hP;have HV5:=hid (HQ4.out.below ⟨hBv.os,hBv.tape,hBv.output,hBv.size,hBv.block⟩);have HVA5:=bK hBv HA4;clear hP hBv)
  |(go_at_call 132;refine(wstr_any B b ((((l++natZ 3)++z1)++z3)++z4) P _ (by exact HV5.out.1) (by simp;omega) (by have:=HV5.out.1.pt;omega)).mono ?_;rintro e y5 ⟨rfl,hq⟩;have HQ5:=hid (show WrQ B b (((((l++natZ 3)++z1)++z3)++z4)++gl text) w y5 by have:=HV5.out.trans (by exact hq);rw[HP.out] at this;exact this);have HA5:=hid (WrQ.obj hq HVA5.out (by omega) (by decide));clear hq))
 have c0_5:=cw0 HA5.out;go_wp2;go_end0;refine⟨rfl,?_⟩;have:=HQ5.out;rw[HZ1.out,HZ3.out,HZ4.out] at this;simpa[opZ,aG] using this
theorem wop_4 (B b:Nat) (l:List UInt8) (nt nr ni pt pr pi:Int) (name:ByteArray) (dir:Bool) (dots:List Gst) (at_ ar ai et er ei:Int) (text:ByteArray) (elems:List Gid) (xd:Option Addr) (xdc:Nat) (xe:Option Addr) (xec:Nat) (w:World)
  (hok:okO ⟨4,⟨⟨nt,nr⟩,ni⟩,⟨⟨pt,pr⟩,pi⟩,name,dir,dots,⟨⟨at_,ar⟩,ai⟩,⟨⟨et,er⟩,ei⟩,text,elems⟩) (hdl:dots.length<=200) (hel:elems.length<=2000) (hnl:name.size<=1000000) (htl:text.size<=1000000) (hl:l.length+3000000<=140737488355328) (hW:Wrt w B b l) (hIn:OpIn w (λk=>k<B) ⟨4,⟨⟨nt,nr⟩,ni⟩,⟨⟨pt,pr⟩,pi⟩,name,dir,dots,⟨⟨at_,ar⟩,ai⟩,⟨⟨et,er⟩,ei⟩,text,elems⟩ ⟨xd,xdc,xe,xec⟩):
  Calls Tryz.prog 133 #[.pointer (some ⟨b,0,none⟩),.agg #[(4:Int),nt,nr,ni,pt,pr,pi,name,dir,.slice xd dots.length xdc,at_,ar,ai,et,er,ei,text,.slice xe elems.length xec]] w λe w'=>e= .returned (.tuple #[])∧WrQ B b (l++opZ ⟨4,⟨⟨nt,nr⟩,ni⟩,⟨⟨pt,pr⟩,pi⟩,name,dir,dots,⟨⟨at_,ar⟩,ai⟩,⟨⟨et,er⟩,ei⟩,text,elems⟩) w w':=by
 obtain⟨-,-,-,okn,okp,-,okd,oka,oke,-,okel⟩:=hok;simp only at okn okp okd oka oke okel;have hpt:=hW.pt;have HIn:=hid hIn;have HQ0:=hid ((WrQ.refl hW).alloc (by omega) (.cells #[(4:Int),nt,nr,ni,pt,pr,pi,name,dir,.slice xd dots.length xdc,at_,ar,ai,et,er,ei,text,.slice xe elems.length xec] 125));have HA:=hid (am w (.cells #[(4:Int),nt,nr,ni,pt,pr,pi,name,dir,.slice xd dots.length xdc,at_,ar,ai,et,er,ei,text,.slice xe elems.length xec] 125));have HOn:=hid okn.b;have HOp:=hid okp.b;have HOd:=hid okd;have HOa:=hid oka.b;have HOe:=hid oke.b;have HOl:=hid okel;have hz1:=d6 okn;have hz2:=d6 okp;have hz3:=d6 oka;have hz4:=d6 oke;have hbn:=eD (s:=name) (by omega);have hbt:=eD (s:=text) (by omega);clear hW hIn okn okp okd oka oke okel;obtain⟨z1,hz1e⟩:∃z,z=idZ ⟨⟨nt,nr⟩,ni⟩:=⟨_,rfl⟩;obtain⟨z2,hz2e⟩:∃z,z=idZ ⟨⟨pt,pr⟩,pi⟩:=⟨_,rfl⟩;obtain⟨z3,hz3e⟩:∃z,z=idZ ⟨⟨at_,ar⟩,ai⟩:=⟨_,rfl⟩;obtain⟨z4,hz4e⟩:∃z,z=idZ ⟨⟨et,er⟩,ei⟩:=⟨_,rfl⟩;rw[<-hz1e] at hz1;rw[<-hz2e] at hz2;rw[<-hz3e] at hz3;rw[<-hz4e] at hz4;have HZ1:=hid hz1e;have HZ2:=hid hz2e;have HZ3:=hid hz3e;have HZ4:=hid hz4e;clear hz1e hz2e hz3e hz4e;go_enter Tryz.func133,Tryz.ntmps133;have hlk:(natZ 4).length<=10:=cZ (by decide);go_wp2_with fail;have HK1:=hid (HQ0.out.alloc (by have:=HQ0.out.1.pt;omega) (.cells #[(4:Int)] 3))
 refine(eV B b l (w.heap.size+1) [4] 1 _ (by intro y hy;simp at hy;subst hy;decide) (by simp;omega) (by simp) (by exact HK1.out.1) (by exact bn _ _ (by simp)) (by have:=HQ0.out.1.pt;omega)).mono ?_;rintro e y1 ⟨rfl,hq⟩;have HQ1:=hid (show WrQ B b (l++natZ 4) w y1 by have:=HK1.out.trans (by exact hq);simpa using this);have HA1:=hid (WrQ.obj hq ((ax _ _ _ (lt_of_block HA.out)).trans HA.out) (by omega) (by decide));clear hq HK1;have c1_1:=cw1 HA1.out;have c2_1:=cw2 HA1.out;have c3_1:=cw3 HA1.out;go_wp2_with fail;refine(iy B b (l++natZ 4) ⟨⟨nt,nr⟩,ni⟩ _ HOn.out (by simp;omega) HQ1.out.1).mono ?_;rintro e y2 ⟨rfl,hq⟩;have HQ2:=hid (show WrQ B b ((l++natZ 4)++z1) w y2 by have:=HQ1.out.trans hq;rw[<-HZ1.out] at this;exact this);have HA2:=hid (hq.obj HA1.out (by omega) (by decide));clear hq;have c0_2:=cw0 HA2.out;have c9_2:=cw9 HA2.out;have c17_2:=cw17 HA2.out;go_wp2_with fail;have HK3:=hid (HQ2.out.alloc (by have:=HQ2.out.1.pt;omega) (.cells #[(elems.length:Int)] 3));refine(eV B b ((l++natZ 4)++z1) y2.heap.size [(elems.length:Int)] 1 _ (by intro y hy;simp at hy;subst hy;omega) (by simp;omega) (by simp) (by exact HK3.out.1) (by exact bn _ _ (by simp)) (by have:=HQ2.out.1.pt;omega)).mono ?_;rintro e y3 ⟨rfl,hq⟩;have HQ3:=hid (show WrQ B b (((l++natZ 4)++z1)++natZ elems.length) w y3 by have:=HK3.out.trans (by exact hq);simpa using this)
 have HA3:=hid (WrQ.obj hq ((ax _ _ _ (lt_of_block HA2.out)).trans HA2.out) (by omega) (by decide));clear hq HK3;have c9_3:=cw9 HA3.out;have c17_3:=cw17 HA3.out;have c0_3:=cw0 HA3.out;have hzk:(natZ (elems.length:Int)).length<=10:=cZ (by omega);obtain⟨n,hn⟩:∃n,n=elems.length:=⟨_,rfl⟩;obtain⟨P,hP⟩:∃P,P=(((l++natZ 4)++z1)++natZ elems.length):=⟨_,rfl⟩;have hPl:P.length<=l.length+50:=by rw[hP];simp;omega
 have HP:=hid hP;have HN:=hid hn;clear hP;rw[<-hn] at hel c17_3;clear hn hzk hlk;have HQS:=hid (show WrQ B b P w y3 by rw[HP.out];exact HQ3.out);have hN:(elems.length:Int)=(n:Int):=by rw[HN.out]
 try rw[hN]
 clear hN;go_upto_region 27 with(fail);go_loopw [94] (λi wr=>∃j:Nat,j<=n∧i= .int .i64 j∧Hid (WrQ B b (P++(elems.take j).flatMap idZ) w wr)) (λi _=>n-(RowKit.intOf i).toNat)
 case atStart=>exact⟨0,by omega,rfl,hid (by rw[iu,List.flatMap_nil,fV];exact HQS.out)⟩
 case round=>
  obtain⟨j,hj,rfl,HR⟩:=hrel;by_cases hlt:j<n
  ·have hjl:j<elems.length:=by have:=HN.out;omega
   obtain⟨ab,ao,rfl,-,hab,d0,d1,d2⟩:=IdsS.at_ (RowG.agr HIn.out.elems ⟨HR.out.2.1.size,λk hk _=>HR.out.2.1.block k hk⟩) (k:=j) hjl;obtain⟨x,hx⟩:∃x,x=elems.getD j .zero:=⟨_,rfl⟩;simp only[<-hx] at d0 d1 d2;have hxm:x∈elems:=by rw[hx,ae,an hjl];exact bU hjl
   have hxo:=HOl.out.2 x hxm;have HT:=hid (show(P++(elems.take j).flatMap idZ)++idZ x=P++(elems.take (j+1)).flatMap idZ by rw[cv hjl,aI,bP,hx,ae,an hjl,aG];rfl);have hpl:(P++(elems.take j).flatMap idZ).length<=P.length+30*n:=by
    have h1:=gM (z:=idZ) (c:=30) (l:=elems.take j) λy hy=>d6 (HOl.out.2 y (dQ hy));have h2:(elems.take j).length<=n:=by have:=List.length_take_le j elems;omega
    have h3:30*(elems.take j).length<=30*n:=iS _ h2;rw[al];omega
   have hxb:=hxo.b;obtain⟨⟨xt,xr⟩,xi⟩:=x;simp only at d0 d1 d2 hxb;obtain⟨P2,hP2⟩:∃P2,P2=P++(elems.take j).flatMap idZ:=⟨_,rfl⟩;rw[<-hP2] at hpl;have HP2:=hid hP2;have HB2:=hid hxb;clear hP2 hx hxm hxo hjl hxb;have HR2:=hid (show WrQ B b P2 w wr by rw[HP2.out];exact HR.out);have HK:=hid (HR2.out.alloc (by have:=HR2.out.1.pt;omega) (.cells #[xt,xr,xi] 108));go_wp2_with fail;refine(iy B b P2 ⟨⟨xt,xr⟩,xi⟩ _ HB2.out (by omega) HK.out.1).mono ?_;rintro e w3 ⟨rfl,hq⟩;have HQ9:=hid (HK.out.trans hq);clear hq;go_wp2;go_roundw
   case rel=>exact⟨j+1,by omega,by go_num,hid (by rw[<-HT.out,<-HP2.out];exact HQ9.out)⟩
   case measure=>simp[RowKit.intOf];omega
  ·obtain rfl:j=n:=by omega
   go_wp2;go_end0;refine⟨rfl,?_⟩;have:=HR.out;rw[HN.out,aK,HP.out,HZ1.out] at this;simpa[opZ,aG] using this
theorem wop_any (B b:Nat) (l:List UInt8) (o:Gop) (x:OpX) (w:World) (hok:okO o) (hdl:o.dots.length<=200) (hel:o.elems.length<=2000) (hnl:o.name.size<=1000000) (htl:o.text.size<=1000000) (hl:l.length+3000000<=140737488355328) (hW:Wrt w B b l) (hIn:OpIn w (λk=>k<B) o x):
  Calls Tryz.prog 133 #[.pointer (some ⟨b,0,none⟩),.agg (opA o x)] w λe w'=>e= .returned (.tuple #[])∧WrQ B b (l++opZ o) w w':=by
 obtain⟨kind,⟨⟨nt,nr⟩,ni⟩,⟨⟨pt,pr⟩,pi⟩,name,dir,dots,⟨⟨at_,ar⟩,ai⟩,⟨⟨et,er⟩,ei⟩,text,elems⟩:=o;obtain⟨xd,xdc,xe,xec⟩:=x;have h0:0<=kind:=hok.1;have h4:kind<=4:=hok.2.1;by_cases k0:kind=0
 ·subst k0;exact wop_0 B b l nt nr ni pt pr pi name dir dots at_ ar ai et er ei text elems xd xdc xe xec w hok hdl hel hnl htl hl hW hIn
 by_cases k1:kind=1
 ·subst k1;exact wop_1 B b l nt nr ni pt pr pi name dir dots at_ ar ai et er ei text elems xd xdc xe xec w hok hdl hel hnl htl hl hW hIn
 by_cases k2:kind=2
 ·subst k2;exact wop_2 B b l nt nr ni pt pr pi name dir dots at_ ar ai et er ei text elems xd xdc xe xec w hok hdl hel hnl htl hl hW hIn
 by_cases k3:kind=3
 ·subst k3;exact wop_3 B b l nt nr ni pt pr pi name dir dots at_ ar ai et er ei text elems xd xdc xe xec w hok hdl hel hnl htl hl hW hIn
 obtain rfl:kind=4:=by omega
 exact wop_4 B b l nt nr ni pt pr pi name dir dots at_ ar ai et er ei text elems xd xdc xe xec w hok hdl hel hnl htl hl hW hIn
end
end
end Go.Proofs.YtkhmicndehlneaaGreatDoor
