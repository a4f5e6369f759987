/- Part 31 of the walks and plain laws that this claim uses, joined. Conditions: as each theorem states. -/
import Derived.Test.YtkhmicndehlneaaGreatDoorYbD
namespace Go.Proofs.YtkhmicndehlneaaGreatDoor
set_option maxRecDepth 100000
set_option maxHeartbeats 16000000
set_option linter.unusedVariables false
section
open Go.RowKit Go.Lib Go.Sort
attribute [local go_sem ↓] Go.wp_at_zero Go.wp_at_succ
theorem and_lowJ (n:Int) (M:Nat) (hM:M<4611686018427387904):∃m:Nat,bits .and .i64 n (M:Int)=(m:Int)∧m<=M:=by
 have a:(BitVec.ofInt 64 n &&& BitVec.ofInt 64 (M:Int)).toNat<=M:=by
  rw[BitVec.toNat_and,ofInt_63 M (by omega)];exact Nat.and_le_right
 refine⟨(BitVec.ofInt 64 n &&& BitVec.ofInt 64 (M:Int)).toNat,?_,a⟩;show IntKind.i64.wrap ((BitVec.ofInt 64 n &&& BitVec.ofInt 64 (M:Int)).toNat:Int)=_;rw[bz];omega
def EndsR (w:World) (A:Option Addr) (D:List Grp) (n:Nat):Prop:=∀i,i<n->∃b o,A=some ⟨b,o,none⟩∧b<w.heap.size∧w.cell? ⟨b,o+i,none⟩=some (.int .i64 ((catR (D.take (i+1))).size:Nat))
theorem ends_row {w:World} {B n:Nat} {v:Value} {D:List Grp} (h:w.ownsRow B 3 1 v n (endsR D n)):∃A c,v= .slice A n c∧EndsR w A D n:=by
 rcases h.2 with⟨e1,e2⟩|⟨g,cap,cur,rfl,h1,h2,h3,h4,h5,h6⟩
 ·exact⟨none,0,by rw[e1,e2],λi b=>by omega⟩
 ·refine⟨_,_,rfl,λi b=>⟨_,_,rfl,lt_of_block h2,?_⟩⟩;rw[bN,aD _ _ _ _ _ _ h2];have a:=congrArg (λl:List Value=>l[i]?) h6;simp only[cm,dz] at a;rw[aJ (by omega)] at a;rw[a];unfold endsR;rw[cT,iU b];rfl
theorem EndsR.below {w w':World} {A:Option Addr} {D:List Grp} {n:Nat} (h:EndsR w A D n) (hB:Below w.heap.size w w'):EndsR w' A D n:=λi hi=>by
 obtain⟨b,o,e,hb,h1⟩:=h i hi
 exact⟨b,o,e,bC hb hB.size,(aS (w:=w) (w':=w') (a:=⟨b,o+i,none⟩) (hB.block b hb)).trans h1⟩
theorem rowgr_take {w:World} {A:Option Addr} {N:List (Grp×GrX)} (h:RowGr w A N) (k:Nat):RowGr w A (N.take k):=λi hi=>by
 rw[aP] at hi
 obtain⟨b,o,e,h1,h2,h3⟩:=h i (by omega)
 refine⟨b,o,e,h1,h2,λj hj=> ?_⟩
 have e2:(N.take k).getD i gp0=N.getD i gp0:=by rw[ae,ae,cm,aJ (by omega)]
 show _=some ((grL ((N.take k).getD i gp0).1 ((N.take k).getD i gp0).2).getD j undef)
 rw[e2]
 exact h3 j hj
theorem journalback_card (D:List Doo) (dA:Option Addr) (dc:Nat) (P:List Int) (pA:Option Addr) (pc:Nat) (cut:Int) (W:World) (hc0:D.length<=dc) (hm0:dc<=maxLen) (hR:RowF W (Here W) dA 6 doC do0 D) (hD:∀x∈D,doOk x) (hc1:P.length<=pc) (hm1:pc<=maxLen) (hP:RowF W (Here W) pA 1 u8L 0 P) (hb:∀q∈P,0<=q∧q<=255) (hcut:(Lit.int .i64 cut).wf=true) (htab:Tabs W):
  Calls Tryz.prog 3 #[.slice dA D.length dc,.slice pA P.length pc,cut] W λe w'=>e= .returned (.bool true)∧Below W.heap.size W w':=by
 have r:=hid htab;have aZ:=hid (λw1 (h:Below W.heap.size W w1)=>delivered_any D dA dc P pA pc (Here W) (Here W) w1 hD (by unfold maxLen at hm0;omega) (hR.below h) (hP.below h) hb (by unfold maxLen at hm1;omega));clear hc0 hm0 hR hD hc1 hm1 hP hb htab;obtain⟨m1,A,l1⟩:=and_lowJ cut 65535 (by decide);replace A:bits .and .i64 cut 65535=(m1:Int):=A;have af:=hid A;clear A;go_enter Tryz.func3,Tryz.ntmps3
 go_upto_region 5 with(first
  |(go_at_call 11;refine(aZ.out w1 ag.out).mono ?_;rintro e w2 ⟨N,nA,nc,rfl,ah,hj,ai,aj,ak,al⟩;have a0:=hid ah;have E:=hid hj;have F:=hid ai;have H:=hid aj;have a1:=hid ak;have am:=bT ag al;clear ah hj ai aj ak al)
  |(go_at_call 10;refine(awake25_any W r.out).mono ?_;rintro e w1 ⟨rfl,an⟩;have ag:=hid an;clear an))
 obtain⟨G,B⟩:∃X,X=N.map Prod.fst:=⟨_,rfl⟩;obtain⟨s,I⟩:∃X,X=catR G:=⟨_,rfl⟩;rw[<-B] at E;have bv:s.size<=33000:=by rw[I];exact E.out.size
 have ao:N.length=G.length:=by rw[B,aQ]
 have bt:=E.out.len;have J:=hid (records_any nA nc N (λ_=>True) w2 (by omega) (by rw[<-B,<-I];omega) F.out H.out a1.out (r.out.below am.out));rw[<-B,<-I] at J;have HG:=hid B;have HS:=hid I;have ap:=hid ao;have bw:N.length<=30:=by omega
 clear B I ao
 go_upto_region 7 with(first
  |(go_at_call 12;refine J.out.mono ?_;rintro e w3 ⟨v3,rfl,M,O⟩;rw[ap.out] at M;obtain⟨eA,ec,rfl,aq⟩:=ends_row M;have HE:=hid aq;have Q:=hid O;have a2:=bT am O;clear M aq O)
  |(go_at_call 14;refine(jb _).mono ?_;rintro e w4 ⟨v,rfl,R,t⟩;obtain⟨TA,tc,rfl,T⟩:=tab25 R;have a3:=hid T;have a4:=bT Q t;have aW:=hid t;have ar:=bT a2 t;clear R T t)
  |(go_at_call 13;refine(recover_any TA tc s w4 (by omega) a3.out.2 (r.out.below ar.out)).mono ?_;rintro e w5 ⟨b5,r5,L,A5,c5,au,av,rfl,aw,ax,a5,u⟩;have U:=bT a4 u;have aX:=bT aW u;have a6:=bT ar u;have ay:=hid au;have az:=hid av;have a7:=hid (RowGr.own aw);have a8:=hid ax;clear au av aw ax a5 u))
 have g:=ay.out;rw[HS.out] at g;obtain⟨aA,aB⟩:=E.out.all g;rw[aB,Nat.sub_zero];have aD:=hid (show L.map Prod.fst=N.map Prod.fst by rw[az.out,aA,HG.out]);have a9:=hid (show L.length<=1000000 by have h9:=congrArg List.length aD.out;rw[aQ,aQ] at h9;omega);clear g aA aB ay az;have e2:((s.size:Int) != (s.size:Int))=false:=bne_self_eq_false _;go_upto_region 9 with(go_at_call 15;refine(sameall_any L N A5 nA c5 nc (λk=>w4.heap.size<=k) (λ_=>True) w5 a9.out a7.out a8.out (F.out.below U.out) (λp hp=>(H.out p hp).agr (Agr.below U.out)) aD.out).mono ?_;rintro e w6 ⟨rfl,d⟩;have bx:=bT U d;have ba:=bT a6 d;have bb:=bT aX d;clear d);obtain⟨c,hk⟩:∃k,k=m1 % (s.size+1):=⟨_,rfl⟩;have q1:(m1:Int) % ((s.size:Int)+1)=(c:Int):=by rw[hk];simp
 have bc:c<=s.size:=by have:=fv m1 (show 0<s.size+1 by omega);omega
 have q3:(((s.size:Int)+1) == 0)=false:=by rw[aV];omega
 have q4:IntKind.i64.wrap ((s.size:Int)+1)=(s.size:Int)+1:=by rw[bz];omega
 have q5:(c:Int)<=(s.size:Int):=by omega
 have q6:(0:Int)<=(c:Int):=by omega
 have A:=af.out;have aE:G.length=N.length:=ap.out.symm;have bd:=hid aE;clear hk aE af l1 e2;go_wp2;rw[q1];clear q1 q3 q4 A;have bA:=hid (HE.out);obtain⟨n,hn⟩:∃n,n=G.length:=⟨_,rfl⟩;have V:=hid hn;rw[<-hn] at HE ⊢;have bu:n<=30:=by omega
 clear hn;go_loopw [15,16,17] (λa b i wr=>∃m:Nat,m<=n∧i= .int .i64 m∧a= .int .i64 (gD G c m:Nat)∧b= .int .i64 (jT G c m:Nat)∧Hid (Below W.heap.size W wr)∧Hid (Below w3.heap.size w3 wr)) (λ_ _ i _=>n-(RowKit.intOf i).toNat)
 case atStart=>exact⟨0,by omega,rfl,rfl,rfl,ba,hid (bb.out)⟩
 case round=>
  obtain⟨m,hm,rfl,rfl,rfl,Y,w⟩:=hrel;by_cases bf:m<n
  ·obtain⟨eb,eo,rfl,bB,bg⟩:=(HE.out.below w.out) m bf;obtain⟨z,Z⟩:∃z,z=(catR (G.take (m+1))).size:=⟨_,rfl⟩;rw[<-Z] at bg;have hw:IntKind.i64.wrap ((m:Int)+1)=(m:Int)+1:=by rw[bz];omega
   have i1:(0:Int)<=(m:Int):=by omega
   have i2:(m:Int)<(n:Int):=by omega
   by_cases f:z<=c
   ·have t1:(z:Int)<=(c:Int):=by omega
    have HW:=hid (show gD G c (m+1)=m+1∧jT G c (m+1)=z by rw[gD,jT,<-Z,aJ f,aJ f];exact⟨rfl,rfl⟩);clear Z f;go_wp2;go_quiet (fail);go_wp2;go_roundw
    case rel=>exact⟨m+1,by omega,by go_num,by rw[HW.out.1];go_num,by rw[HW.out.2],hid (fI Y.out _),hid (fI w.out _)⟩
    case measure=>simp[RowKit.intOf];omega
   ·have t1:¬(z:Int)<=(c:Int):=by omega
    have HW:=hid (show gD G c (m+1)=gD G c m∧jT G c (m+1)=jT G c m by rw[gD,jT,<-Z,aC f,aC f];exact⟨rfl,rfl⟩);clear Z f;go_wp2;go_roundw
    case rel=>exact⟨m+1,by omega,by go_num,by rw[HW.out.1],by rw[HW.out.2],Y,w⟩
    case measure=>simp[RowKit.intOf];omega
  ·obtain rfl:m=n:=by omega
   have i2:¬(m:Int)<(m:Int):=by omega
   obtain⟨j,y⟩:∃x,x=gD G c m:=⟨_,rfl⟩;obtain⟨C,ab⟩:∃x,x=jT G c m:=⟨_,rfl⟩;rw[<-y,<-ab];have bh:j<=N.length:=by rw[y];have:=(whole_spec G c m).1;have:=V.out;have:=bd.out;omega
   have bi:=hid (show Below w2.heap.size w2 wr from Q.out.trans (w.out.mono Q.out.size));have bj:=hid y;have bk:=hid ab;clear y ab;go_upto_region 16 with fail;refine aR (S:=λ_=>True) (by kernel_rfl) ?_
   try(change wpAnyH _ _ _ _ _ _ _ _ (World.drew _))
   refine tk 1 (.string s) (trivial) ?_;go_simp;refine tk 2 (.int .i64 (c:Int)) (trivial) ?_;go_simp;refine tk 3 (.string (s.extract 0 c)) (trivial) ?_;go_simp;refine rd1 0 λK hK=> ?_;go_simp;have aF:Below wr.heap.size wr wr.drew:=⟨rfl,rfl,rfl,aa _,λ_ _=>rfl⟩;refine(jb wr.drew).mono ?_;rintro e w8 ⟨v,rfl,R,aG⟩;obtain⟨TB,tb,rfl,T⟩:=tab25 R;have bl:=hid T;have l:=aF.trans aG;have aH:=bT Y l;have bm:=bT bi l;clear l aF aG T R;go_simp;refine hK.out _ _ (trivial) (λ_=> ?_);clear hK K;refine rd1 4 λK hK=> ?_;go_simp;refine(recover_any TB tb (s.extract 0 c) w8 (by rw[cI];omega) bl.out.2 (r.out.below aH.out)).mono ?_;rintro e w9 ⟨b6,r6,o,A6,c6,ac,aI,rfl,aK,aL,bn,d⟩;rw[HS.out] at ac;obtain⟨aM,aN⟩:=E.out.cut (by rw[<-HS.out];exact bc) ac;have bo:=hid (show o.map Prod.fst=G.take (gD G c G.length) by rw[aI,aM]);have bp:=hid (show(s.extract 0 c).size-r6.size=C by rw[HS.out,aN,<-V.out];exact bk.out.symm);have bq:=hid (RowGr.own aK);have br:=hid aL;have aO:=bT aH d;have aS:=bT bm d;clear aM aN ac aI aK aL bn d;rw[bp.out];go_simp;refine hK.out _ _ (trivial) (λ_=> ?_);clear hK K;refine tk 5 (.tuple #[.slice A6 o.length c6,(C:Int),(0:Int)]) (trivial) ?_;go_simp;refine tk 6 (.slice A6 o.length c6) (trivial) ?_;go_simp;refine tk 7 (.int .i64 (C:Int)) (trivial) ?_;go_simp;refine tk 8 (.int .i64 0) (trivial) ?_;go_simp;refine tk 9 (.slice A6 o.length c6) (trivial) ?_
   go_simp;refine tk 10 (.int .i64 (C:Int)) (trivial) ?_;go_simp;refine tk 11 (.int .i64 0) (trivial) ?_;go_simp;refine be (by kernel_rfl) ?_ _;go_simp;have e3:((C:Int) == (C:Int))=true:=beq_self_eq_true _;have j1:(0:Int)<=(j:Int):=by omega
   have j2:(j:Int)<=(nc:Int):=by have:=a0.out;omega
   have aT:RowGr w9 nA (N.take j):=rowgr_take ((F.out.below aS.out)) j;have ad:o.map Prod.fst=(N.take j).map Prod.fst:=by rw[bo.out,List.map_take,<-HG.out,bj.out,<-V.out]
   have aU:o.length<=1000000:=by have h9:=congrArg List.length ad;rw[aQ,aQ,aP] at h9;omega
   have ae:=sameall_any o (N.take j) A6 nA c6 nc (λk=>w8.heap.size<=k) (λ_=>True) w9 aU bq.out br.out aT (λp hp=>(H.out p (dQ hp)).agr (Agr.below aS.out)) ad;rw[aP,Nat.min_eq_left bh] at ae;have bs:=hid ae;clear ae aT ad aU;go_wp2_with (go_at_call 15;refine bs.out.mono ?_;rintro e bC ⟨rfl,aY⟩);go_ret;exact⟨rfl,aO.out.trans (aY.mono aO.out.size)⟩
end
end Go.Proofs.YtkhmicndehlneaaGreatDoor
