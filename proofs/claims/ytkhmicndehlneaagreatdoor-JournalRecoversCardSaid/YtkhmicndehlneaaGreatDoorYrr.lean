/- Part 18 of the walks and plain laws that this claim uses, joined. Conditions: as each theorem states. -/
import Derived.Test.YtkhmicndehlneaaGreatDoorYrq
namespace Go.Proofs.YtkhmicndehlneaaGreatDoor
set_option maxRecDepth 100000
set_option maxHeartbeats 16000000
set_option linter.unusedVariables false
section
open Go.RowKit Go.Lib Go.Sort
attribute [local go_sem ↓] Go.wp_at_zero Go.wp_at_succ
structure CdSt (w0:World) (b R O:Nat) (T:TypeId) (zc oc:Array Value) (s:ByteArray) (bad:Bool) (w:World):Prop where
 rdr:Cur w b s bad
 res:w.heap[R]? =some (.cells zc T (0,0))
 obj:w.heap[O]? =some (.cells oc T (0,0))
 bel:Below w0.heap.size w0 w
 nR:w0.heap.size<=R
 Rb:R<b
 bO:b<O
section
variable {w0 w w' : World} {b R O : Nat} {T : TypeId} {zc oc : Array Value} {s s' : ByteArray} {bad bad' : Bool}
theorem CdSt.call (h:CdSt w0 b R O T zc oc s bad w) (hr:Cur w' b s' bad') (hg:w.grownBy w' (some b)):CdSt w0 b R O T zc oc s' bad' w':=
 ⟨hr,(hg.block R (lt_of_block h.res) (by intro e;cases e;have:=h.Rb;omega)).trans h.res,(hg.block O (lt_of_block h.obj) (by intro e;cases e;have:=h.bO;omega)).trans h.obj,h.bel.grown hg h.bel.size (λk e=>by cases e;have:=h.nR;have:=h.Rb;omega),h.nR,h.Rb,h.bO⟩
theorem CdSt.keep (h:CdSt w0 b R O T zc oc s bad w) {r:Option Nat} (a:w.grownBy w' r) (d:∀g,r=some g->O<g):CdSt w0 b R O T zc oc s bad w':=by
 have f:=h.Rb;have i:=h.bO;have j:=h.nR;have c:∀k,k<=O->some k≠r:=λk l e=>by have:=d k e.symm;omega
 exact⟨h.rdr.kept a (λe=>c b (by omega) e.symm),(a.block R (lt_of_block h.res) (c R (by omega))).trans h.res,(a.block O (lt_of_block h.obj) (c O (by omega))).trans h.obj,h.bel.grown a h.bel.size (λk e=>by have:=d k e;omega),h.nR,h.Rb,h.bO⟩
theorem CdSt.put (h:CdSt w0 b R O T zc oc s bad w) (c:Array Value):CdSt w0 b R O T zc c s bad (w.setRow O c):=by
 have a:=h.Rb;have d:=h.bO;have e:=h.nR;exact⟨(setRow_other w O b c (by omega)).trans h.rdr,(setRow_other w O R c (by omega)).trans h.res,aF _ h.obj,Below.setRow' h.bel (by omega) _,h.nR,h.Rb,h.bO⟩
theorem CdSt.set (h:CdSt w0 b R O T zc oc s bad w) (i:Nat) (v:Value) (c:Array Value) (a:oc.setIfInBounds i v=c):CdSt w0 b R O T zc c s bad (w.setCell ⟨O,i,none⟩ v):=by
 have d:=h.Rb;have f:=h.bO;have g:=h.nR;refine⟨(bB _ _ _ _ (by show b≠O;omega)).trans h.rdr,(bB _ _ _ _ (by show R≠O;omega)).trans h.res,?_,h.bel.grown (di O i v) h.bel.size (λk e=>by cases e;omega),h.nR,h.Rb,h.bO⟩;have:=h.obj;simp[World.setCell,bY,this,a]
theorem CdSt.rest (h:CdSt w0 b R O T zc oc s bad w) (a:ByteArray):CdSt w0 b R O T zc oc a bad (w.setCell ⟨b,0,none⟩ (.string a)):=by
 have c:=h.Rb;have d:=h.bO;have f:=h.nR;exact⟨h.rdr.set0 a,(bB _ _ _ _ (by show R≠b;omega)).trans h.res,(bB _ _ _ _ (by show O≠b;omega)).trans h.obj,h.bel.grown (di b 0 _) h.bel.size (λk e=>by cases e;omega),h.nR,h.Rb,h.bO⟩
theorem CdSt.cell (h:CdSt w0 b R O T zc oc s bad w) (i:Nat):w.cell? ⟨O,i,none⟩=oc[i]? :=aG _ _ _ _ _ _ h.obj
end
theorem OpsAt.setc {B:Nat} {v:Value} {L:List (Gop×OpX)} {S:Nat->Prop} {w:World} (h:OpsAt B v L S w) {b i:Nat} (hb:b<B) (u:Value):OpsAt B v L S (w.setCell ⟨b,i,none⟩ u):=
 ⟨λp hp=>(h.good p hp).agr ⟨by simp,λk hk _=>bB _ _ _ _ (by show k≠b;have:=(h.old k hk).1;omega)⟩,λk hk=>by have:=h.old k hk;simpa using this⟩
theorem Agr.setCell {S:Nat->Prop} (w:World) (g i:Nat) (v:Value) (h:¬S g):Agr S w (w.setCell ⟨g,i,none⟩ v):=⟨by simp[World.setCell],λb hb _=>bB _ _ _ _ (λe:b=g=>h (e ▸ hb))⟩
theorem nats_flat (a:List Nat):(a.map λ(m:Nat)=>(m:Int)).flatMap ip=a.map λ(m:Nat)=>Value.int .i64 (m:Int):=by
 induction a with
 |nil=>rfl
 |cons m a ih=>rw[List.map_cons,cG,ih,List.map_cons];rfl
theorem vec_nats {w:World} {B:Nat} {A:Option Addr} {c:Nat} {a:List Nat} {E:TypeId} (h:w.ownsRow B E 1 (.slice A a.length c) a.length (a.map λ(m:Nat)=>Value.int .i64 (m:Int))):VecS w (λk=>B<=k) A (a.map λ(m:Nat)=>(m:Int)):=by
 rw[<-nats_flat] at h;refine vec_own (c:=c) (E:=E) ?_;rw[aV];exact h
theorem cdecode_any (s:ByteArray) (w:World) (hs:s.size<=1000000):
  Calls Tryz.prog 75 #[s] w λe w'=>DecQ (decZ s.data.toList) w e w':=by
 obtain⟨r,hr⟩:∃r,r=decZ s.data.toList:=⟨_,rfl⟩;rw[<-hr];obtain⟨i0,hi,cn,co,cp⟩:=bx infoOp;have ap:=hid hr;clear hr
 have bp:=hid (show CdSt w (w.heap.size+1) w.heap.size (w.heap.size+1+1) 45 #[(0:Int),(0:Int),(0:Int),.slice none 0 0,(0:Int),(0:Int),.slice none 0 0] #[(0:Int),(0:Int),(0:Int),.slice none 0 0,(0:Int),(0:Int),.slice none 0 0] s false (((w.alloc (.cells #[(0:Int),(0:Int),(0:Int),.slice none 0 0,(0:Int),(0:Int),.slice none 0 0] 45)).alloc (.cells #[s,false] 183)).alloc (.cells #[(0:Int),(0:Int),(0:Int),.slice none 0 0,(0:Int),(0:Int),.slice none 0 0] 45)) from by
  refine⟨?_,?_,?_,(((ag _ _).alloc (aa _) _).alloc (by simp) _).alloc (by simp;omega) _,aa _,by omega,by omega⟩
  ·exact(ax _ _ _ (by simp)).trans (bu _ _ (by simp))
  ·exact(ax _ _ _ (by simp;omega)).trans ((ax _ _ _ (by simp)).trans (an w _))
  ·exact bu _ _ (by simp))
 go_enter Tryz.func75,Tryz.ntmps75;go_wp2_with fail;generalize hV:((w.alloc (.cells #[(0:Int),(0:Int),(0:Int),.slice none 0 0,(0:Int),(0:Int),.slice none 0 0] 45)).alloc (.cells #[s,false] 183)).alloc (.cells #[(0:Int),(0:Int),(0:Int),.slice none 0 0,(0:Int),(0:Int),.slice none 0 0] 45)=V0 at *;clear hV;skip;refine(kN (w.heap.size+1) s false V0 hs bp.o.rdr).mono ?_;rintro e y1 ⟨⟨f,l⟩,v,s1,cg,rfl,hv,bq,br,aP⟩;obtain rfl:v= .agg #[f,l]:=hv;have bs:=cL aP hs;have aT:=hid (bp.o.call bq br);have aH:=hid aP;clear bq br aP;go_upto_region 4 with(first|(refine bV rfl _ _ _ rfl (w.heap.size+1+1) 0 _ _ #[f,l,(0:Int),.slice none 0 0,(0:Int),(0:Int),.slice none 0 0] _ rfl aT.o.obj rfl ?_ ?_ ?_ rfl ?_;kernel_rfl;exact aR rfl;rfl));have bt:=hid (aT.o.put #[f,l,(0:Int),.slice none 0 0,(0:Int),(0:Int),.slice none 0 0]);generalize hV:y1.setRow (w.heap.size+1+1) #[f,l,(0:Int),.slice none 0 0,(0:Int),(0:Int),.slice none 0 0]=V1 at *;clear hV aT;go_wp2_with fail;refine(ig (w.heap.size+1) s1 cg V1 bs bt.o.rdr).mono ?_;rintro e y2 ⟨n,v,s2,aA,rfl,⟨rfl,hn⟩,bv,bw,aW⟩;have cq:=cL aW bs;have aX:=hid (bt.o.call bv bw);have aL:=hid aW;have HN:=hid hn;clear hn;clear bv bw aW
 go_upto_region 5 with(first|(refine bV rfl _ _ _ rfl (w.heap.size+1+1) 2 _ _ #[f,l,n,.slice none 0 0,(0:Int),(0:Int),.slice none 0 0] _ rfl aX.o.obj rfl ?_ ?_ ?_ rfl ?_;kernel_rfl;exact aR rfl;rfl));have N:=hid (aX.o.put #[f,l,n,.slice none 0 0,(0:Int),(0:Int),.slice none 0 0]);generalize hV:y2.setRow (w.heap.size+1+1) #[f,l,n,.slice none 0 0,(0:Int),(0:Int),.slice none 0 0]=V2 at *;clear hV aX;have bz:∀(W:World),Below w.heap.size w W->r=none->DecQ r w (.returned (.tuple #[.agg #[(0:Int),(0:Int),(0:Int),.slice none 0 0,(0:Int),(0:Int),.slice none 0 0],(80:Int)])) W:=λW h1 h2=>DecQ.no h2 h1;have au:=hid bz;clear bz;have aE:=hid (reftakenats_own s2 cq V2);have b0:=N.o.rdr.c0;have b1:=N.o.rdr.c1;have aB:=hid (λv l3 b3 (h:RdIs (eG intR) s2.data.toList aA v l3 b3) (hb:b3=true)=>decZ_lost aH.o aL.o h hb);cases D:Vr.takeNats s2.data.toList with
 |err ce=>
  obtain rfl:r=none:=by rw[ap.o];exact aB.o [] [] true (RdIs.nonats D aA []) rfl
  have f:((ce:Int) != 0)=true:=by rw[cM];have:=takeNats_pos D;omega
  rw[D] at aE;clear D;go_wp2_with fail;refine aE.o.mono ?_;rintro e y3 ⟨rfl,av⟩;have cr:=hid (N.o.bel.trans (av.mono N.o.bel.size));have bA:=hid ((av.block w.heap.size (lt_of_block N.o.res)).trans N.o.res);clear av;go_wp2_with (first|(refine bW rfl _ _ _ rfl w.heap.size _ _ #[(0:Int),(0:Int),(0:Int),.slice none 0 0,(0:Int),(0:Int),.slice none 0 0] rfl rfl bA.o ?_ ?_ ?_ ?_;kernel_rfl;rfl;rfl));have d:=hid (aF #[(0:Int),(0:Int),(0:Int),.slice none 0 0,(0:Int),(0:Int),.slice none 0 0] bA.o);have O:=cw0 d.o;have R:=cw1 d.o;have U:=cw2 d.o;have X:=cw3 d.o;have Y:=cw4 d.o;have Z:=cw5 d.o;have z6:=cw6 d.o;refine aU (v:= .tuple #[.agg #[(0:Int),(0:Int),(0:Int),.slice none 0 0,(0:Int),(0:Int),.slice none 0 0],(80:Int)]) (by simp[results,go_sem,O,R,U,X,Y,Z,z6]) rfl ?_;exact au.o _ (Below.setRow' cr.o (aa _) _) (by first|rfl|trivial)
 | ok t rest=>
  rw[D] at aE;go_wp2_with fail;refine aE.o.mono ?_;rintro e y3 ⟨u,y,rfl,aY,av⟩;obtain⟨s3,aD⟩:∃q:ByteArray,q=⟨rest.toArray⟩:=⟨_,rfl⟩;rw[<-aD];have bB:s3.size<=1000000:=by have h1:=takeNats_le D;have h2:s2.data.toList.length=s2.size:=(by simp);rw[aD,size_mkB];omega
  have aZ:s3.data.toList=rest:=by rw[aD]
  have P:=hid (show CdSt w (w.heap.size+1) w.heap.size (w.heap.size+1+1) 45 #[(0:Int),(0:Int),(0:Int),.slice none 0 0,(0:Int),(0:Int),.slice none 0 0] #[f,l,n,.slice none 0 0,(0:Int),(0:Int),.slice none 0 0] s2 aA y3 from N.o.keep (dB (r:=none) av) (by simp));have b1:=P.o.rdr.c1;have b0:=P.o.rdr.c0;have f0:=P.o.rdr.f 0;have ch:w.heap.size+1+1<V2.heap.size:=lt_of_block N.o.obj;have cO:t.length<=1000000:=by have h1:=(Vr.takeNats_back D).2.1;have h2:s2.data.toList.length=s2.size:=(by simp);omega
  cases aA with
  |true=>
   obtain rfl:r=none:=by rw[ap.o];exact aB.o _ _ true (RdIs.nats D true) rfl
   clear D;go_wp2_with (first|(refine bW rfl _ _ _ rfl w.heap.size _ _ #[(0:Int),(0:Int),(0:Int),.slice none 0 0,(0:Int),(0:Int),.slice none 0 0] rfl rfl P.o.res ?_ ?_ ?_ ?_;kernel_rfl;rfl;rfl));have d:=hid (aF #[(0:Int),(0:Int),(0:Int),.slice none 0 0,(0:Int),(0:Int),.slice none 0 0] P.o.res);have O:=cw0 d.o;have R:=cw1 d.o;have U:=cw2 d.o;have X:=cw3 d.o;have Y:=cw4 d.o;have Z:=cw5 d.o;have z6:=cw6 d.o;refine aU (v:= .tuple #[.agg #[(0:Int),(0:Int),(0:Int),.slice none 0 0,(0:Int),(0:Int),.slice none 0 0],(80:Int)]) (by simp[results,go_sem,O,R,U,X,Y,Z,z6]) rfl ?_;exact au.o _ (Below.setRow' P.o.bel (aa _) _) (by first|rfl|trivial)
  | false=>
   have a7:=hid (show RdIs (eG intR) s2.data.toList false (t.map λ(m:Nat)=>(m:Int)) s3.data.toList false by rw[aZ];exact RdIs.nats D false);have bC:=fw aY;have bE:=hid bC;have cs:=hid (show ∀x∈(t.map λ(m:Nat)=>(m:Int)),i63 x from λx hx=>by obtain⟨m,hm,rfl⟩:=bN.1 hx;have:=(Vr.takeNats_back D).2.2 m hm;exact⟨by omega,by omega⟩);have bF:=hid ((vec_nats aY).sub (T:=λk=>w.heap.size+1+1<k) (λk _ h=>by have h:V2.heap.size<=k:=h;show w.heap.size+1+1<k;omega));have a8:=hid ((P.o.rest s3).put #[f,l,n,.slice u t.length y,(0:Int),(0:Int),.slice none 0 0]);have bG:=hid ((bF.o.agr (Agr.setCell y3 (w.heap.size+1) 0 (.string s3) (by show ¬w.heap.size+1+1<w.heap.size+1;omega))).agr (Agr.setRow _ (w.heap.size+1+1) #[f,l,n,.slice u t.length y,(0:Int),(0:Int),.slice none 0 0] (by show ¬w.heap.size+1+1<w.heap.size+1+1;omega)));have bH:=hid (P.o.rest s3);clear D aE aY av aD aZ bC bF aB N;go_upto_region 10 with(first|(refine bV rfl _ _ _ rfl (w.heap.size+1+1) 3 _ _ #[f,l,n,.slice u t.length y,(0:Int),(0:Int),.slice none 0 0] _ rfl bH.o.obj rfl ?_ ?_ ?_ rfl ?_;kernel_rfl;exact aR rfl;rfl));generalize hV:(y3.setCell ⟨w.heap.size+1,0,none⟩ (.string s3)).setRow (w.heap.size+1+1) #[f,l,n,.slice u t.length y,(0:Int),(0:Int),.slice none 0 0]=V3 at *;clear hV P bH b0 b1 f0 ch;go_wp2_with fail;refine(kN (w.heap.size+1) s3 false V3 bB a8.o.rdr).mono ?_
   rintro e y4 ⟨⟨z,A⟩,v,s4,ci,rfl,hv,aG,F,aw⟩;obtain rfl:v= .agg #[z,A]:=hv;have bI:=cL aw bB;have a9:=hid (a8.o.call aG F);have ba:=hid aw;have bK:=hid ((bG.o.agr (Agr.grown F (λg e hS=>by cases e;have hS:w.heap.size+1+1<w.heap.size+1:=hS;omega))).agr (Agr.setRow y4 (w.heap.size+1+1) #[f,l,n,.slice u t.length y,z,A,.slice none 0 0] (by show ¬w.heap.size+1+1<w.heap.size+1+1;omega)));clear aG F aw bG;go_upto_region 11 with(first|(refine bV rfl _ _ _ rfl (w.heap.size+1+1) 4 _ _ #[f,l,n,.slice u t.length y,z,A,.slice none 0 0] _ rfl a9.o.obj rfl ?_ ?_ ?_ rfl ?_;kernel_rfl;exact aR rfl;rfl));have bb:=hid (a9.o.put #[f,l,n,.slice u t.length y,z,A,.slice none 0 0]);generalize hV:y4.setRow (w.heap.size+1+1) #[f,l,n,.slice u t.length y,z,A,.slice none 0 0]=V4 at *;clear hV a9 a8;go_wp2_with fail;refine(ig (w.heap.size+1) s4 ci V4 bI bb.o.rdr).mono ?_;rintro e y5 ⟨n0,v,s5,bc,rfl,⟨rfl,bd⟩,bL,be,bf⟩;obtain⟨m,rfl⟩:=dU bd.1;have hm:m<9223372036854775808:=by have:=bd.2;omega
   have cR:=cL bf bI;have bM:=hid (bb.o.call bL be);have bg:=hid bf;have bO:=hid (bK.o.agr (Agr.grown be (λg e hS=>by cases e;have hS:w.heap.size+1+1<w.heap.size+1:=hS;omega)));have cP:=lt_of_block bM.o.obj;clear bL be bf bK bb bd;obtain⟨B,hB⟩:∃B,B=y5.heap.size:=⟨_,rfl⟩;have ct:=hid (show VecS y5 (λk=>w.heap.size+1+1<k∧k<B) u (t.map λ(m:Nat)=>(m:Int)) from bO.o.sub (λk hk h=>⟨h,by omega⟩));have bP:w.heap.size+1+1<B:=by omega
   clear bO;go_wp2;go_loopw [10] (λi wr=>∃(k:Nat) (V:Value) (L:List (Gop×OpX)) (s':ByteArray) (aj:Bool) (S:Nat->Prop),i= .int .i64 k∧k<=m∧wr.ownsRow B 125 18 V L.length (L.flatMap opC_)∧Hid (CdSt w (w.heap.size+1) w.heap.size (w.heap.size+1+1) 45 #[(0:Int),(0:Int),(0:Int),.slice none 0 0,(0:Int),(0:Int),.slice none 0 0] #[f,l,n,.slice u t.length y,z,A,V] s' aj wr)∧Hid (ManyAt opR m s5.data.toList bc (m-k) (L.map Prod.fst) s'.data.toList aj)∧Hid (OpsAt B V L S wr)∧B<=wr.heap.size∧Hid (VecS wr (λk=>w.heap.size+1+1<k∧k<B) u (t.map λ(m:Nat)=>(m:Int)))) (λi _=>m-(RowKit.intOf i).toNat)
   case atStart=>exact⟨0,.slice none 0 0,[],s5,bc,λ_=>False,rfl,aq _,⟨rfl,.inl ⟨rfl,rfl⟩⟩,bM,hid ManyAt.start,hid ⟨λp hp=>(by cases hp),λk hk=>hk.elim⟩,by omega,ct⟩
   case round=>
    obtain⟨k,V,L,s',aj,S,rfl,hk,hO,j,HM,HP,cj,HV⟩:=hrel;have cu:=HM.o.le;have bh:=HM.o.few;have cv:s5.data.toList.length=s5.size:=by simp
    have cw:s'.data.toList.length=s'.size:=by simp
    have cx:(L.map Prod.fst).length=L.length:=by simp
    have cS:L.length<=1000001:=by split at bh<;>omega
    have cy:s'.size<=1000000:=by omega
    have c1:=j.o.rdr.c1;clear cu bh cv cw cx;by_cases cT:k<m
    ·have i5:(k:Int)<(m:Int):=by omega
     have i6:decide ((k:Int)<(m:Int))=true:=aI i5;cases aj with
     |true=>
      obtain⟨M,K,rfl⟩:=bU hO;have ay:=hid (RdIs.grp aH.o aL.o a7.o ba.o (RdIs.many bg.o (by rw[bX];exact HM.o.done (.inl rfl))));have ak:=hid (decZ_of ay.o);obtain rfl:r=none:=by rw[ap.o,ak.o];simp
      clear HM HP hO;go_wp2_with (first|(refine bW rfl _ _ _ rfl w.heap.size _ _ #[(0:Int),(0:Int),(0:Int),.slice none 0 0,(0:Int),(0:Int),.slice none 0 0] rfl rfl j.o.res ?_ ?_ ?_ ?_;kernel_rfl;rfl;rfl));have d:=hid (aF #[(0:Int),(0:Int),(0:Int),.slice none 0 0,(0:Int),(0:Int),.slice none 0 0] j.o.res);have O:=cw0 d.o;have R:=cw1 d.o;have U:=cw2 d.o;have X:=cw3 d.o;have Y:=cw4 d.o;have Z:=cw5 d.o;have z6:=cw6 d.o;refine aU (v:= .tuple #[.agg #[(0:Int),(0:Int),(0:Int),.slice none 0 0,(0:Int),(0:Int),.slice none 0 0],(80:Int)]) (by simp[results,go_sem,O,R,U,X,Y,Z,z6]) rfl ?_;exact au.o _ (Below.setRow' j.o.bel (aa _) _) (by first|rfl|trivial)
     | false=>
      have HC:=hid (cop_any (w.heap.size+1) s' false wr.drew cy (by exact j.o.rdr));have bQ:=hid (λg e=>(hO.lt g e).1);have cz:=hid (λg e=>(hO.lt g e).2);have cA:=hid (show V.ownBlock≠some (w.heap.size+1) from λe=>by have:=(hO.lt _ e).1;omega);have cB:=hid hO;have d0:wr.cell? ⟨w.heap.size+1+1,6,none⟩=some V:=by rw[j.o.cell];rfl
      have O:w.heap.size+1+1<wr.heap.size:=by omega
      have em:m-k=(m-(k+1))+1:=by omega
      have aM:=HM.o;rw[em] at aM;have aM:=hid aM;clear hO em;go_upto_region 15 with fail
      go_region_law
       (first
        |(go_simp;go_at_call 130;refine HC.o.mono ?_;rintro e w2 ⟨⟨G,⟨⟨nt,nr⟩,ni⟩,⟨⟨pt,pr⟩,pi⟩,H,ab,I,⟨⟨ac,ar⟩,ai⟩,⟨⟨et,er⟩,ei⟩,J,C⟩,v2,cC,bo,rfl,⟨⟨xd,ad,xe,ae⟩,hv,bR,bS,bT⟩,aG,F,aw⟩;obtain rfl:v2= .agg #[G,nt,nr,ni,pt,pr,pi,H,ab,.slice xd I.length ad,ac,ar,ai,et,er,ei,J,.slice xe C.length ae]:=hv;replace F:wr.grownBy w2 (some (w.heap.size+1)):=bZ (⟨rfl,rfl,rfl,aa _,λ_ _ _=>rfl⟩:wr.grownBy wr.drew (some (w.heap.size+1))) F;have bY:=hid (j.o.call aG F);have cD:=hid (cB.o.kept F (.inr cA.o));have ck:=hid aw;have cQ:=F.size;have b2:=hid F;have cE:=hid bR;have b4:=hid (And.intro bS bT);have b5:=hid (bY.o.keep (aQ w2 (.cells #[G,nt,nr,ni,pt,pr,pi,H,ab,.slice xd I.length ad,ac,ar,ai,et,er,ei,J,.slice xe C.length ae] 125) none) (by simp));have d5:w2.cell? ⟨w.heap.size+1+1,6,none⟩=some V:=(by rw[bY.o.cell];rfl);have cU:(w2.alloc (.cells #[G,nt,nr,ni,pt,pr,pi,H,ab,.slice xd I.length ad,ac,ar,ai,et,er,ei,J,.slice xe C.length ae] 125)).cell? ⟨w.heap.size+1+1,6,none⟩=some V:=(by rw[b5.o.cell];rfl);clear aG F aw bR bS bT)
        |(refine ds _ (by rfl) _ _ 43 (by rfl) B 125 i0 (.agg #[(0:Int),(0:Int),(0:Int),(0:Int),(0:Int),(0:Int),(0:Int),.string ⟨#[]⟩,false,.slice none 0 0,(0:Int),(0:Int),(0:Int),(0:Int),(0:Int),(0:Int),.string ⟨#[]⟩,.slice none 0 0]) 18 192 Tryz.underlying43 hi cn co cp rfl (by decide) V L.length _ (by rfl) (by exact cD.o.alloc _) ⟨w2.heap.size,0,none⟩ 1 1 [G,nt,nr,ni,pt,pr,pi,H,ab,.slice xd I.length ad,ac,ar,ai,et,er,ei,J,.slice xe C.length ae] (by rfl) rfl (by exact dH _ _ _) (by exact fx (c:=#[G,nt,nr,ni,pt,pr,pi,H,ab,.slice xd I.length ad,ac,ar,ai,et,er,ei,J,.slice xe C.length ae]) rfl) (by decide) (by unfold maxLen;omega) (by omega) (by simp;omega) (w2.heap.size+1) (by simp) ?_;intro g af w3 aN ah b6 _;have bi:=hid (b5.o.keep ah (λg e=>by have:=bQ.o g e;omega));have d6:w3.cell? ⟨w.heap.size+1+1,6,none⟩=some V:=(by rw[bi.o.cell];rfl);have f6:w3.frozen? ⟨w.heap.size+1+1,6,none⟩=false:=aS _ _ _ _ _ bi.o.obj;have cF:=hid aN;have b7:=hid ah;have cG:=hid b6;have cl:=ah.size;clear aN ah b6))
      all_goals
       have am:=hid (bi.o.set 6 (.slice (some ⟨g,0,none⟩) (L.length+1) af) #[f,l,n,.slice u t.length y,z,A,.slice (some ⟨g,0,none⟩) (L.length+1) af] rfl);have bj:=hid (ownsRow_setCell_below (a:=⟨w.heap.size+1+1,6,none⟩) cF.o bP (.slice (some ⟨g,0,none⟩) (L.length+1) af));have cm:B<=(w3.setCell ⟨w.heap.size+1+1,6,none⟩ (.slice (some ⟨g,0,none⟩) (L.length+1) af)).heap.size:=by simp at cl ⊢;omega
       obtain⟨S',b8⟩:=OpsAt.next (o:=⟨G,⟨⟨nt,nr⟩,ni⟩,⟨⟨pt,pr⟩,pi⟩,H,ab,I,⟨⟨ac,ar⟩,ai⟩,⟨⟨et,er⟩,ei⟩,J,C⟩) (x:=⟨xd,ad,xe,ae⟩) (v':= .slice (some ⟨g,0,none⟩) (L.length+1) af) HP.o cj (show w.heap.size+1<B by omega) cz.o b2.o cE.o b4.o.1 b4.o.2 b7.o (cG.o.imp (λh=>h.symm) (λh=>by rw[h];simp;rfl));have cH:=hid (b8.setc (b:=w.heap.size+1+1) (i:=6) bP (.slice (some ⟨g,0,none⟩) (L.length+1) af));have b9:=hid (((HV.o.agr (Agr.grown b2.o (λg e hS=>by cases e;have:=hS.1;omega))).agr (Agr.grown (row:=none) (aQ w2 (.cells #[G,nt,nr,ni,pt,pr,pi,H,ab,.slice xd I.length ad,ac,ar,ai,et,er,ei,J,.slice xe C.length ae] 125) none) (by simp))).agr (Agr.grown b7.o (λg e hS=>by have:=bQ.o g e;have:=hS.2;omega)));have cI:=hid (b9.o.agr (Agr.setCell w3 (w.heap.size+1+1) 6 (.slice (some ⟨g,0,none⟩) (L.length+1) af) (by show ¬(w.heap.size+1+1<w.heap.size+1+1∧_);omega)));clear b8 b9;go_wp2;go_roundw
       case rel=>exact⟨k+1,.slice (some ⟨g,0,none⟩) (L.length+1) af,L++[(⟨G,⟨⟨nt,nr⟩,ni⟩,⟨⟨pt,pr⟩,pi⟩,H,ab,I,⟨⟨ac,ar⟩,ai⟩,⟨⟨et,er⟩,ei⟩,J,C⟩,⟨xd,ad,xe,ae⟩)],cC,bo,S',by go_num,by omega,by rw[al,aK,bJ];exact bj.o,am,hid (by rw[bD];exact aM.o.next opT ck.o),cH,cm,cI⟩
       case measure=>simp[RowKit.intOf];omega
    ·obtain rfl:k=m:=by omega
     have i5:¬(k:Int)<(k:Int):=by omega
     have i6:decide ((k:Int)<(k:Int))=false:=aC i5;cases aj with
     |true=>
      obtain⟨M,K,rfl⟩:=bU hO;have ay:=hid (RdIs.grp aH.o aL.o a7.o ba.o (RdIs.many bg.o (by rw[bX];exact HM.o.done (.inl rfl))));have ak:=hid (decZ_of ay.o);obtain rfl:r=none:=by rw[ap.o,ak.o];simp
      clear HM HP hO;go_wp2_with (first|(refine bW rfl _ _ _ rfl w.heap.size _ _ #[(0:Int),(0:Int),(0:Int),.slice none 0 0,(0:Int),(0:Int),.slice none 0 0] rfl rfl j.o.res ?_ ?_ ?_ ?_;kernel_rfl;rfl;rfl));have d:=hid (aF #[(0:Int),(0:Int),(0:Int),.slice none 0 0,(0:Int),(0:Int),.slice none 0 0] j.o.res);have O:=cw0 d.o;have R:=cw1 d.o;have U:=cw2 d.o;have X:=cw3 d.o;have Y:=cw4 d.o;have Z:=cw5 d.o;have z6:=cw6 d.o;refine aU (v:= .tuple #[.agg #[(0:Int),(0:Int),(0:Int),.slice none 0 0,(0:Int),(0:Int),.slice none 0 0],(80:Int)]) (by simp[results,go_sem,O,R,U,X,Y,Z,z6]) rfl ?_;exact au.o _ (Below.setRow' j.o.bel (aa _) _) (by first|rfl|trivial)
     | false=>
      obtain⟨M,K,rfl⟩:=bU hO;have ay:=hid (RdIs.grp aH.o aL.o a7.o ba.o (RdIs.many bg.o (by rw[bX];exact HM.o.done (.inr (iQ _)))));have ak:=hid (decZ_of ay.o);have bk:=fw hO;have ca:OpsS wr (λk=>B<=k) M (L.map Prod.fst):=ops_own (c:=K) (E:=125) (by rw[aV];exact hO) HP.o.good (λk h=>(HP.o.old k h).1);have cb:=hid (show(L.map Prod.fst).length=L.length by simp);have cc:=hid (show ∀o∈L.map Prod.fst,o.text.size<=1000000∧o.name.size<=1000000 from λo ho=>by obtain⟨p,hp,rfl⟩:=bN.1 ho;exact⟨(HP.o.good p hp).2.2,(HP.o.good p hp).2.1⟩);have cJ:0<=n:=HN.o.1;have cK:n<9223372036854775808:=HN.o.2;have HI:=hid (show GrIn wr (λk=>w.heap.size+1+1<k) ⟨⟨f,l⟩,n,(t.map λ(m:Nat)=>(m:Int)),⟨z,A⟩,L.map Prod.fst⟩ u y M K from⟨HV.o.sub (λk _ h=>h.1),ca.sub (λk _ h=>by have h:B<=k:=h;show w.heap.size+1+1<k;omega),by show(t.map λ(m:Nat)=>(m:Int)).length<=y;rw[aV];exact bE.o.1,by show(L.map Prod.fst).length<=K;rw[cb.o];exact bk.1,bE.o.2,bk.2,(show i63 n from⟨by omega,by omega⟩),cs.o⟩);clear hO bk ca HP HM cJ cK ay HV;have b1:=j.o.rdr.c1;have b0:=j.o.rdr.c0;by_cases aO:s'.data.toList=[]
      ·obtain rfl:s'=⟨#[]⟩:=eb.1 aO;have ao:=refchk_any ⟨⟨f,l⟩,n,(t.map λ(m:Nat)=>(m:Int)),⟨z,A⟩,L.map Prod.fst⟩ u y M K (λk=>w.heap.size+1+1<k) wr HI.o (λ_ o ho=>(cc.o o ho).1);have bl:=hid (show r=if chkB ⟨⟨f,l⟩,n,(t.map λ(m:Nat)=>(m:Int)),⟨z,A⟩,L.map Prod.fst⟩=true then some ⟨⟨f,l⟩,n,(t.map λ(m:Nat)=>(m:Int)),⟨z,A⟩,L.map Prod.fst⟩ else none by rw[ap.o,ak.o];simp);clear ak;have a0:wr.cell? ⟨w.heap.size+1+1,0,none⟩=some (.int .i64 f):=by rw[j.o.cell];rfl
       have a1:wr.cell? ⟨w.heap.size+1+1,1,none⟩=some (.int .i64 l):=by rw[j.o.cell];rfl
       have a2:wr.cell? ⟨w.heap.size+1+1,2,none⟩=some (.int .i64 n):=by rw[j.o.cell];rfl
       have a3:wr.cell? ⟨w.heap.size+1+1,3,none⟩=some (.slice u t.length y):=by rw[j.o.cell];rfl
       have a4:wr.cell? ⟨w.heap.size+1+1,4,none⟩=some (.int .i64 z):=by rw[j.o.cell];rfl
       have a5:wr.cell? ⟨w.heap.size+1+1,5,none⟩=some (.int .i64 A):=by rw[j.o.cell];rfl
       have a6:wr.cell? ⟨w.heap.size+1+1,6,none⟩=some (.slice M L.length K):=by rw[j.o.cell];rfl
       have cf:=hid (show grA ⟨⟨f,l⟩,n,(t.map λ(m:Nat)=>(m:Int)),⟨z,A⟩,L.map Prod.fst⟩ u y M K=#[.int .i64 f,.int .i64 l,.int .i64 n,.slice u t.length y,.int .i64 z,.int .i64 A,.slice M L.length K] by show grA ⟨⟨f,l⟩,n,(t.map λ(m:Nat)=>(m:Int)),⟨z,A⟩,L.map Prod.fst⟩ u y M K=_;unfold grA;rw[cb.o,aV]);rw[cf.o] at ao;cases az:chkB ⟨⟨f,l⟩,n,(t.map λ(m:Nat)=>(m:Int)),⟨z,A⟩,L.map Prod.fst⟩ with
       | false=>
        rw[az] at ao;obtain rfl:r=none:=by rw[bl.o,az];rfl
        have bm:Hid (Calls Tryz.prog 54 #[.agg #[f,l,n,.slice u t.length y,z,A,.slice M L.length K]] wr λe w'=>e= .returned (.int .i64 80)∧Below wr.heap.size wr w'):=ao;clear ao az
        go_upto_region 17 with(first
         |(refine cd rfl _ _ rfl (w.heap.size+1+1) _ _ _ rfl j.o.obj aJ rfl ?_ ?_;kernel_rfl)
         |(go_at_call 54;refine bm.o.mono ?_;rintro e w6 ⟨rfl,Q⟩))
        have am:=hid ((Q.block w.heap.size (lt_of_block j.o.res)).trans j.o.res);have bn:=hid (j.o.bel.trans (Q.mono j.o.bel.size));clear Q;go_wp2_with (first|(refine bW rfl _ _ _ rfl w.heap.size _ _ #[(0:Int),(0:Int),(0:Int),.slice none 0 0,(0:Int),(0:Int),.slice none 0 0] rfl rfl am.o ?_ ?_ ?_ ?_;kernel_rfl;rfl;rfl));have d:=hid (aF #[(0:Int),(0:Int),(0:Int),.slice none 0 0,(0:Int),(0:Int),.slice none 0 0] am.o);have O:=cw0 d.o;have R:=cw1 d.o;have U:=cw2 d.o;have X:=cw3 d.o;have Y:=cw4 d.o;have Z:=cw5 d.o;have z6:=cw6 d.o;refine aU (v:= .tuple #[.agg #[(0:Int),(0:Int),(0:Int),.slice none 0 0,(0:Int),(0:Int),.slice none 0 0],(80:Int)]) (by simp[results,go_sem,O,R,U,X,Y,Z,z6]) rfl ?_;exact au.o _ (Below.setRow' bn.o (aa _) _) (by first|rfl|trivial)
       | true=>
        rw[az] at ao;obtain rfl:r=some ⟨⟨f,l⟩,n,(t.map λ(m:Nat)=>(m:Int)),⟨z,A⟩,L.map Prod.fst⟩:=by rw[bl.o,az];rfl
        have bm:Hid (Calls Tryz.prog 54 #[.agg #[f,l,n,.slice u t.length y,z,A,.slice M L.length K]] wr λe w'=>e= .returned (.int .i64 0)∧Below wr.heap.size wr w'):=ao;clear ao az
        go_upto_region 18 with(first
         |(refine cd rfl _ _ rfl (w.heap.size+1+1) _ _ _ rfl j.o.obj aJ rfl ?_ ?_;kernel_rfl)
         |(go_at_call 54;refine bm.o.mono ?_;rintro e w6 ⟨rfl,Q⟩))
        have am:=hid ((Q.block w.heap.size (lt_of_block j.o.res)).trans j.o.res);have bj:=hid ((Q.block (w.heap.size+1+1) (lt_of_block j.o.obj)).trans j.o.obj);have cN:=hid (HI.o.agr (Agr.below Q));have bn:=hid (j.o.bel.trans (Q.mono j.o.bel.size));clear Q
        go_wp2_with (first
         |(refine lA bj aJ ?_)
         |(refine bW rfl _ _ _ rfl w.heap.size _ _ #[f,l,n,.slice u t.length y,z,A,.slice M L.length K] rfl rfl am.o ?_ ?_ ?_ ?_;kernel_rfl;rfl;rfl))
        have d:=hid (aF #[f,l,n,.slice u t.length y,z,A,.slice M L.length K] am.o);have O:=cw0 d.o;have R:=cw1 d.o;have U:=cw2 d.o;have X:=cw3 d.o;have Y:=cw4 d.o;have Z:=cw5 d.o;have z6:=cw6 d.o;refine aU (v:= .tuple #[.agg #[f,l,n,.slice u t.length y,z,A,.slice M L.length K],(0:Int)]) (by simp[results,go_sem,O,R,U,X,Y,Z,z6]) rfl ?_;refine⟨Below.setRow' bn.o (aa _) _,u,y,M,K,by rw[cf.o],(cN.o.agr (Agr.setRow _ w.heap.size _ (by show ¬w.heap.size+1+1<w.heap.size;omega))).sub (λk _ h=>by have h:w.heap.size+1+1<k:=h;omega),cc.o⟩
      ·obtain rfl:r=none:=by rw[ap.o,ak.o];simp[aO]
       have q1:¬s'.toList=[]:=by rw[kD];exact aO
       have q2:s'.toList.isEmpty=false:=by rw[List.isEmpty_eq_false_iff];exact q1
       clear aO;go_wp2_with (first|(refine bW rfl _ _ _ rfl w.heap.size _ _ #[(0:Int),(0:Int),(0:Int),.slice none 0 0,(0:Int),(0:Int),.slice none 0 0] rfl rfl j.o.res ?_ ?_ ?_ ?_;kernel_rfl;rfl;rfl));have d:=hid (aF #[(0:Int),(0:Int),(0:Int),.slice none 0 0,(0:Int),(0:Int),.slice none 0 0] j.o.res);have O:=cw0 d.o;have R:=cw1 d.o;have U:=cw2 d.o;have X:=cw3 d.o;have Y:=cw4 d.o;have Z:=cw5 d.o;have z6:=cw6 d.o;refine aU (v:= .tuple #[.agg #[(0:Int),(0:Int),(0:Int),.slice none 0 0,(0:Int),(0:Int),.slice none 0 0],(80:Int)]) (by simp[results,go_sem,O,R,U,X,Y,Z,z6]) rfl ?_;exact au.o _ (Below.setRow' j.o.bel (aa _) _) (by first|rfl|trivial)
structure RecBt (P:Nat) (s:ByteArray) (w wr:World) (b:Bx) (r:ByteArray):Prop where
 rcv:∀b2 r2,Rec Crc.tab b r b2 r2->Rec Crc.tab Bx.new s b2 r2
 ok:BxOk b
 wt:b.wait=[]
 len:b.done.length+r.size<=s.size
 txt:∀g∈b.done++b.wait,shortG g
 low:Below w.heap.size w wr
 box:∃X S,RbIn w.heap.size P S b.done b.wait X wr
def RecR (s:ByteArray) (w:World) (e:Ending) (w':World):Prop:=∃(b2:Bx) (r2:ByteArray) (L:List (Grp×GrX)) (A':Option Addr) (c':Nat),Rec Crc.tab Bx.new s b2 r2∧L.map Prod.fst=b2.done∧e= .returned (.tuple #[.slice A' L.length c',((s.size-r2.size:Nat):Int),(0:Int)])∧RowGr w' A' L∧(∀p∈L,GrG w' (λ_=>True) p)∧Below w.heap.size w w'
theorem RecBt.below {P:Nat} {s r:ByteArray} {w wr w':World} {b:Bx} (h:RecBt P s w wr b r) (a:Below wr.heap.size wr w'):RecBt P s w w' b r:=by
 obtain⟨X,S,c⟩:=h.box;exact⟨h.rcv,h.ok,h.wt,h.len,h.txt,h.low.trans (a.mono h.low.size),X,S,c.below a⟩
structure RecBh (P:Nat) (s:ByteArray) (w wr:World) (b:Bx):Prop where
 ok:BxOk b
 txt:∀g∈b.done++b.wait,shortG g
 low:Below w.heap.size w wr
 box:∃X S,RbIn w.heap.size P S b.done b.wait X wr
theorem RecBh.fin {P:Nat} {s d:ByteArray} {w wr:World} {b:Bx} (h:RecBh P s w wr b) (g:Rec Crc.tab Bx.new s b d):∃(L:List (Grp×GrX)) (A:Option Addr) (c:Nat),wr.cell? ⟨P,0,none⟩=some (.slice A L.length c)∧RecR s w (.returned (.tuple #[.slice A L.length c,((s.size-d.size:Nat):Int),(0:Int)])) wr:=by
 obtain⟨X,S,a⟩:=h.box;obtain⟨A,c,e⟩:=bU a.done;have f:=a.done;rw[e] at f;exact⟨X.L,A,c,by rw[a.cell,<-e];rfl,b,d,X.L,A,c,g,a.dl,rfl,RowGr.own f,λp i=>(a.good p (aD.2 (.inl i))).sub λ_ _ _=>trivial,h.low⟩
theorem RecBt.half {P:Nat} {s r:ByteArray} {w wr:World} {b:Bx} (h:RecBt P s w wr b r):RecBh P s w wr b:=⟨h.ok,h.txt,h.low,h.box⟩
theorem RecBt.hear {P:Nat} {s r:ByteArray} {w wr w1:World} {b:Bx} (h:RecBt P s w wr b r) (B:s.size<=90000) (p:Grp×GrX) (f:chkB p.1=true) (i:Below wr.heap.size wr w1) (q:GrG w1 (λk=>wr.heap.size<=k) p) (j:shortG p.1):
  Calls Tryz.prog 34 #[.pointer (some ⟨P,0,none⟩),.agg (grA p.1 p.2.dA p.2.dc p.2.oA p.2.oc)] w1 λe w'=>e= .returned (.tuple #[.int .i64 ((du b p.1).2.1:Nat),.int .i64 (du b p.1).2.2])∧RecBh P s w w' (du b p.1).1:=by
 have l:=h.below i;obtain⟨X,S,c⟩:=h.box;have t:=c.below i;have u:=h.len;have d:RbIn w.heap.size P (λk=>S k∨(wr.heap.size<=k∧k<w1.heap.size)) b.done b.wait X w1:=t.sup (λk a=> .inl a) (λk a=>a.imp id (λh=>⟨h.2,λv=>by have:=(c.own_lt v).2;omega⟩));have m:GrG w1 (λk=>S k∨(wr.heap.size<=k∧k<w1.heap.size)) p:=q.sub λk a h=> .inr ⟨h,a⟩;have A:b.wait.length=0:=by rw[h.wt];rfl
 refine(rbhear_any d ⟨h.ok,h.txt,by omega⟩ p.1 p.2 m j (by omega) (by omega) f).mono ?_;rintro e w' ⟨rfl,x,n,o⟩;refine⟨rfl,hearB_ok h.ok _,λg y=> ?_,l.low.trans (o.gr.below l.low.size λk a=>(d.own_lt a).1),x,_,n⟩;rcases hearB_mem b p.1 g y with z|rfl
 ·exact h.txt g z
 ·exact j
theorem refrecover_bad (A:Option Addr) (m a:Nat) (b:m≠256) (s:ByteArray) (w:World):
  Calls Tryz.prog 40 #[.slice A m a,s] w λe w'=>e= .returned (.tuple #[.slice none 0 0,(0:Int),(1:Int)])∧w'=w:=by
 have c:((m:Int) != 256)=true:=by rw[cM];omega
 go_enter Tryz.func40,Tryz.ntmps40;go_wp2;go_ret3;exact⟨rfl,rfl⟩
theorem refrecover_any (A:Option Addr) (ap:Nat) (s:ByteArray) (w:World) (hs:s.size<=90000) (Z:TabRow w A Crc.tab):
  Calls Tryz.prog 40 #[.slice A 256 ap,s] w λe w'=>RecR s w e w':=by
 have aD:=hid (λW (hB:Below w.heap.size w W)=>Z.go hB);have J:=hid hs;have aq:=an w (.cells #[.slice none 0 0,.slice none 0 0] 65);have ar:Below w.heap.size w (w.alloc (.cells #[.slice none 0 0,.slice none 0 0] 65)):=(ag _ _).alloc (aa _) _;have aF:=hid (show RecBt w.heap.size s w (w.alloc (.cells #[.slice none 0 0,.slice none 0 0] 65)) Bx.new s from⟨λb2 r2 h=>h,BxOk.new,rfl,by show 0+s.size<=s.size;omega,λg hg=>(by cases hg),ar,(RbAt.new (gs:=[]) (B:=w.heap.size) aq (aa _) (λg hg=>by cases hg)).box.elim λX h=>h.elim λS h=>⟨X,S,h.1⟩⟩);clear Z hs aq ar;go_enter Tryz.func40,Tryz.ntmps40;go_upto_region 5 with fail;generalize w.alloc (.cells #[.slice none 0 0,.slice none 0 0] 65)=w0 at *
 try go_step3
 go_loopg [8] s.size (λgr u wr=>∃(b:Bx) (r:ByteArray),u= .string r∧Hid (r.size=gr)∧Hid (RecBt w.heap.size s w wr b r))
 case atStart=>exact⟨Bx.new,s,rfl,hid rfl,aF⟩
 case round=>
  obtain⟨b,r,rfl,aG,a⟩:=hrel;have V:=hid (show r.size<=s.size by have:=a.o.len;omega);have K:=hid (refnext_any A ap Crc.tab tabIs r (by have:=V.o;have:=J.o;omega) wr (aD.o wr a.o.low));cases D:fE Crc.tab r with
  |err c=>
   rw[D] at K;have c0:((c:Int) != 0)=true:=by rw[cM];have:=next_errne D;omega
   have E:=hid (a.o.rcv b r (.stop1 D));clear D;go_upto_region 7 with(go_at_call 74;refine K.o.mono ?_;rintro e Y ⟨rfl,d⟩;have L:=hid (a.o.below d);have G:=hid d;clear d);have ab:=hid L.o.half;obtain⟨L9,A9,c9,i,j⟩:=ab.o.fin E.o;have M:=hid j;have au:=hid i;have N:=hid (show IntKind.i64.wrap ((s.size:Int)-(r.size:Int))=((s.size-r.size:Nat):Int) by have:=V.o;have:=J.o;rw[bH];omega);have av:=i;have aw:=N.o;clear j i;go_wp2
   try rw[dV]
   go_ret3;exact M.o
  | ok x r2=>
   rw[D] at K;have ax:=kK D;have ay:x.size<=90000∧r2.size<r.size:=by
    have h9:=congrArg ByteArray.size ax.1;rw[aX,iv,aX] at h9;have:=a.o.len;have:=J.o;exact⟨by omega,by omega⟩
   have az:=hid ay;have ac:=hid D;have O:=hid (λW=>cdecode_any x W (by omega));clear ax ay D;cases H:decZ x.data.toList with
   | none=>
    rw[H] at O;have E:=hid (a.o.rcv b r (.stop2 ac.o H));clear H
    go_upto_region 10 with(first
     |(go_at_call 74;refine K.o.mono ?_;rintro e Y ⟨rfl,d⟩;have L:=hid (a.o.below d);have G:=hid d;clear d)
     |(go_at_call 75;refine(O.o Y).mono ?_;rintro e p ⟨F,rfl⟩;have aH:=hid (L.o.below F);clear F)
     |(refine bR rfl _ _ _ rfl _ _ _ _ rfl ?_ rfl ?_ ?_ ?_ ?_;(focus(simp;done));kernel_rfl;rfl;rfl))
    have aI:=hid (aH.o.below ((ag p.heap.size p).alloc (aa _) (.cells #[(0:Int),(0:Int),(0:Int),.slice none 0 0,(0:Int),(0:Int),.slice none 0 0] 45)));generalize hW:p.alloc (.cells #[(0:Int),(0:Int),(0:Int),.slice none 0 0,(0:Int),(0:Int),.slice none 0 0] 45)=W at *;clear hW;have ab:=hid aI.o.half;obtain⟨L9,A9,c9,i,j⟩:=ab.o.fin E.o;have M:=hid j;have au:=hid i;have N:=hid (show IntKind.i64.wrap ((s.size:Int)-(r.size:Int))=((s.size-r.size:Nat):Int) by have:=V.o;have:=J.o;rw[bH];omega);have av:=i;have aw:=N.o;clear j i;go_wp2
    try rw[dV]
    go_ret3;exact M.o
   | some g=>
    rw[H] at O;obtain⟨g,hg⟩:∃q,q=g:=⟨_,rfl⟩;subst hg;have aA:=hid H;have aB:=(enc_dec H).2.1;clear H;obtain⟨⟨t,k⟩,n,u,⟨l,m⟩,f⟩:=g;have HB:=hid (λ(x:GrX) (w1:World)=>a.o.hear (w1:=w1) J.o (⟨⟨t,k⟩,n,u,⟨l,m⟩,f⟩,x) aB);dsimp only at HB;clear aB;obtain⟨hn,ad⟩:∃q,q=(du b ⟨⟨t,k⟩,n,u,⟨l,m⟩,f⟩).2.1:=⟨_,rfl⟩;obtain⟨he,aC⟩:∃q,q=(du b ⟨⟨t,k⟩,n,u,⟨l,m⟩,f⟩).2.2:=⟨_,rfl⟩;have ae:=hid ad;rw[<-ad,<-aC] at HB;clear ad aC;by_cases af:hn=1
    ·subst af;have aE:=hid (hear_one a.o.wt ae.o.symm);have E:=hid (λb2 r3 h=>a.o.rcv b2 r3 (.go ac.o aA.o ae.o.symm h))
     go_upto_region 11 with(first
      |(go_at_call 74;refine K.o.mono ?_;rintro e Y ⟨rfl,d⟩;have L:=hid (a.o.below d);have G:=hid d;clear d)
      |(go_at_call 75;refine(O.o Y).mono ?_;rintro e p ⟨F,v,y,z,C,ah,P,Q⟩;obtain rfl:e= .returned (.tuple #[.agg #[t,k,n,.slice v u.length y,l,m,.slice z f.length C],(0:Int)]):=ah;have R:=bT G F;have ai:=hid (P.sub λq _ hq=>aP G.o.size hq);have aj:=hid Q;clear F P Q)
      |(refine bR rfl _ _ _ rfl _ _ _ _ rfl ?_ rfl ?_ ?_ ?_ ?_;(focus(simp;done));kernel_rfl;rfl;rfl))
     have T:=R.o.alloc R.o.size (.cells #[t,k,n,.slice v u.length y,l,m,.slice z f.length C] 45);have ak:=hid (an p (.cells #[t,k,n,.slice v u.length y,l,m,.slice z f.length C] 45));have am:=hid (ai.o.agr (Agr.below ((ag p.heap.size p).alloc (aa _) (.cells #[t,k,n,.slice v u.length y,l,m,.slice z f.length C] 45))));generalize hW:p.alloc (.cells #[t,k,n,.slice v u.length y,l,m,.slice z f.length C] 45)=W at *;clear hW;have ao:=hid (HB.o ⟨v,y,z,C⟩ W T am.o (λo ho=>(aj.o o ho).1));clear T
     go_wp2_with (first
      |(refine lA ak aJ ?_)
      |(go_at_call 34;refine ao.o.mono ?_;rintro e w5 ⟨rfl,U⟩;have I:=hid U;clear U))
     go_roundg r2.size
     case measure=>have:=az.o;have:=aG.o;omega
     case rel=>
      have hd:=aE.o.2.2.2;have hx:=az.o;have hr:=a.o.len;rw[hd] at I E;refine⟨b.put ⟨⟨t,k⟩,n,u,⟨l,m⟩,f⟩,r2,rfl,hid rfl,hid ⟨E.o,I.o.ok,a.o.wt,?_,I.o.txt,I.o.low,I.o.box⟩⟩;show(b.done++[_]).length+r2.size<=s.size;rw[al,dC];omega
    ·have E:=hid (a.o.rcv (du b ⟨⟨t,k⟩,n,u,⟨l,m⟩,f⟩).1 r (.stop3 ac.o aA.o (by rw[<-ae.o];exact af)));have j1:((hn:Int) != 1)=true:=by rw[cM];omega
     go_upto_region 11 with(first
      |(go_at_call 74;refine K.o.mono ?_;rintro e Y ⟨rfl,d⟩;have L:=hid (a.o.below d);have G:=hid d;clear d)
      |(go_at_call 75;refine(O.o Y).mono ?_;rintro e p ⟨F,v,y,z,C,ah,P,Q⟩;obtain rfl:e= .returned (.tuple #[.agg #[t,k,n,.slice v u.length y,l,m,.slice z f.length C],(0:Int)]):=ah;have R:=bT G F;have ai:=hid (P.sub λq _ hq=>aP G.o.size hq);have aj:=hid Q;clear F P Q)
      |(refine bR rfl _ _ _ rfl _ _ _ _ rfl ?_ rfl ?_ ?_ ?_ ?_;(focus(simp;done));kernel_rfl;rfl;rfl))
     have T:=R.o.alloc R.o.size (.cells #[t,k,n,.slice v u.length y,l,m,.slice z f.length C] 45);have ak:=hid (an p (.cells #[t,k,n,.slice v u.length y,l,m,.slice z f.length C] 45));have am:=hid (ai.o.agr (Agr.below ((ag p.heap.size p).alloc (aa _) (.cells #[t,k,n,.slice v u.length y,l,m,.slice z f.length C] 45))));generalize hW:p.alloc (.cells #[t,k,n,.slice v u.length y,l,m,.slice z f.length C] 45)=W at *;clear hW;have ao:=hid (HB.o ⟨v,y,z,C⟩ W T am.o (λo ho=>(aj.o o ho).1));clear T
     go_upto_region 13 with(first
      |(refine lA ak aJ ?_)
      |(go_at_call 34;refine ao.o.mono ?_;rintro e w5 ⟨rfl,U⟩;have I:=hid U;clear U))
     obtain⟨L9,A9,c9,i,j⟩:=I.o.fin E.o;have M:=hid j;have au:=hid i;have N:=hid (show IntKind.i64.wrap ((s.size:Int)-(r.size:Int))=((s.size-r.size:Nat):Int) by have:=V.o;have:=J.o;rw[bH];omega);have av:=i;have aw:=N.o;clear j i;go_wp2
     try rw[dV]
     go_ret3;exact M.o
end
section
open Go.RowKit Go.Lib Go.Sort
section
variable {α : Type}
def RowF (w:World) (S:Nat->Prop) (A:Option Addr) (s:Nat) (f:α->List Value) (z:α) (L:List α):Prop:=RowG w S A L.length s (λk j=>(f (L.getD k z)).getD j undef)
variable {w w' : World} {S T : Nat → Prop} {A : Option Addr} {s : Nat} {f : α → List Value} {z : α} {L : List α}
theorem RowF.range (h:RowF w S A s f z L) (c:∀x,(f x).length=s) {k:Nat} (d:k<L.length):∃b o,A=some ⟨b,o,none⟩∧S b∧b<w.heap.size∧w.rangeAt b (o+k*s) (f (L.getD k z)):=by
 obtain⟨b,o,e,g,i,l⟩:=h k d;refine⟨b,o,e,g,i,λj v a=> ?_⟩;have m:j<s:=by rw[<-c (L.getD k z)];exact(eD.1 a).1
 rw[l j m];show some ((f (L.getD k z)).getD j undef)=some v;rw[ae,a];rfl
theorem RowF.agr (h:RowF w S A s f z L) (ha:Agr S w w'):RowF w' S A s f z L:=RowG.agr h ha
theorem RowF.below (h:RowF w S A s f z L) (ha:Below w.heap.size w w'):RowF w' S A s f z L:=RowG.agr h (Agr.below ha)
theorem RowF.sub (h:RowF w S A s f z L) (hs:∀b,b<w.heap.size->S b->T b):RowF w T A s f z L:=RowG.sub h hs
theorem RowF.nil {c:Option Addr}:RowF w S c s f z ([]:List α):=λk hk=>absurd hk (da k)
theorem RowF.own {B E:Nat} {c:Nat} (a:∀x,(f x).length=s) (h:w.ownsRow B E s (.slice A L.length c) L.length (L.flatMap f)):RowF w (λk=>B<=k) A s f z L:=by
 refine jY h λk j d b=> ?_;rw[gD (s:=s) a L k j z d b];have:j<(f (L.getD k z)).length:=by rw[a];exact b
 generalize f (L.getD k z)=q at *;rw[aw this,ae,aw this];rfl
theorem own_block {B E n c:Nat} {a:List Value} (h:w.ownsRow B E s (.slice A n c) n a) (b:0<n):∃g cur,A=some ⟨g,0,none⟩∧B<=g∧w.heap[g]? =some (.cells cur E (0,0))∧n<=c∧c<=maxLen∧cur.size=c*s∧cur.toList.take (n*s)=a:=by
 rcases h.2 with⟨e1,e2⟩|⟨g,cap,cur,e1,e2,e3,e4,e5,e6,e7⟩
 ·omega
 ·cases e1;exact⟨g,cur,rfl,e2,e3,e4,e5,e6,e7⟩
theorem ki {B E c:Nat} (a:∀x,(f x).length=s) (h:w.ownsRow B E s (.slice A L.length c) L.length (L.flatMap f)) {k:Nat} (b:k<L.length) (z:α):∃g,A=some ⟨g,0,none⟩∧B<=g∧g<w.heap.size∧w.rangeAt g (k*s) (f (L.getD k z)):=by
 obtain⟨g,p,rfl,n,d,-,-,q,e⟩:=own_block h (by omega);refine⟨g,rfl,n,lt_of_block d,λj v i=> ?_⟩;have o:j<s:=by rw[<-a (L.getD k z)];exact(eD.1 i).1
 have l:k*s+j<L.length*s:=by
  have:(k+1)*s<=L.length*s:=eP s b;rw[Nat.add_mul,Nat.one_mul] at this;omega
 rw[crw d,<-ee];have m:=gD (s:=s) a L k j z b o;rw[<-e,dx,aN l] at m;rw[m];exact i
theorem eJ {B E n c:Nat} {b:List Value} (h:w.ownsRow B E s (.slice A n c) n b) {k:Nat} (l:k<n):∃g,A=some ⟨g,0,none⟩∧w.there g (k*s) s:=by
 obtain⟨g,d,rfl,m,a,o,-,e,f⟩:=own_block h (by omega);refine⟨g,rfl,λj p=>⟨?_,aS _ _ _ _ _ a⟩⟩;have i:k*s+j<c*s:=by
  have:(k+1)*s<=c*s:=eP s (by omega);rw[Nat.add_mul,Nat.one_mul] at this;omega
 rw[crw a,dG (by omega)];rfl
theorem putL_size':∀(vs:List Value) (o:Nat) (c:Array Value),(putL c o vs).size=c.size
 | [],_,_=>rfl
 |v::vs,o,c=>by rw[putL,putL_size' vs];simp
theorem putL_get':∀(vs:List Value) (o:Nat) (c:Array Value) (i:Nat),o+vs.length<=c.size->(putL c o vs)[i]? =if o<=i∧i<o+vs.length then vs[i-o]? else c[i]?
 | [],o,c,i,h=>by rw[putL,aE (by simp)]
 | v::vs,o,c,i,h=>by
  have hl:(v::vs).length=vs.length+1:=rfl
  rw[putL,putL_get' vs (o+1) _ i (by simp;omega)]
  by_cases h1:o+1<=i∧i<o+1+vs.length
  ·rw[aN h1,aN (by omega)]
   obtain⟨k,rfl⟩:∃k,i=o+1+k:=⟨i-(o+1),by omega⟩
   rw[show o+1+k-(o+1)=k by omega,show o+1+k-o=k+1 by omega]
   rfl
  ·rw[aE h1]
   by_cases h2:i=o
   ·subst h2
    rw[aN (by omega),iQ,Array.getElem?_setIfInBounds_self_of_lt (by omega)]
    rfl
   ·rw[aE (by omega),Array.getElem?_setIfInBounds_ne (λe=>h2 e.symm)]
theorem own_put {B E c:Nat} (d:∀x,(f x).length=s) (q:0<s) {g:Nat} (h:w.ownsRow B E s (.slice (some ⟨g,0,none⟩) L.length c) L.length (L.flatMap f)) {k:Nat} (K:k<L.length) (y:α):
  (w.setCells g (k*s) (f y)).ownsRow B E s (.slice (some ⟨g,0,none⟩) (L.set k y).length c) (L.set k y).length ((L.set k y).flatMap f)∧w.grownBy (w.setCells g (k*s) (f y)) (some g):=by
 obtain⟨N,n,e,G,t,H,I,o,u⟩:=own_block h (by omega);cases e;have p:∀M:List α,(M.flatMap f).length=M.length*s:=λM=>by
  induction M with
  |nil=>simp
  |cons x M ih=>rw[cG,al,ih,d,bQ,Nat.add_mul,Nat.one_mul,Nat.add_comm]
 have v:k*s+s<=c*s:=by
  have:(k+1)*s<=c*s:=eP s (by omega);rw[Nat.add_mul,Nat.one_mul] at this;omega
 rw[fu g E _ _ n w t];refine⟨⟨by rw[p],.inr ⟨g,c,putL n (k*s) (f y),rfl,G,aF _ t,by rw[dj];exact H,I,by rw[putL_size',o],?_⟩⟩,rfl,rfl,rfl,by simp[World.setRow],λi _ r=> ?_⟩
 ·apply List.ext_getElem?;intro i;rw[dx,ee,dj];by_cases m:i<L.length*s
  ·rw[aN m,putL_get' _ _ _ _ (by rw[d,o];exact v),d];have z:i / s<L.length:=(Nat.div_lt_iff_lt_mul q).2 m;have O:=Nat.div_add_mod i s;have A:=fO i q;have j:i=i / s*s+i % s:=by rw[Nat.mul_comm];omega
   have C:=gD (s:=s) d (L.set k y) (i / s) (i % s) y (by rw[dj];exact z) A;rw[<-j] at C;rw[C];by_cases l:i / s=k
   ·have J:i=k*s+i % s:=by rw[<-l];exact j
    rw[aN (by omega),l,ae,gP (by omega)];show(f y)[i-k*s]? =(f y)[i % s]?;congr 1;omega
   ·have D:¬(k*s<=i∧i<k*s+s):=λ⟨a,b⟩=>l (by
     have:=(Nat.div_eq_iff q).2 ⟨a,by omega⟩
     exact this)
    rw[aE D];have F:=gD (s:=s) d L (i / s) (i % s) y z A;rw[<-j,<-u,dx,aN m,ee] at F;rw[F,ae,ae,iB (by omega)]
  ·rw[aE m,cz (by rw[p,dj];omega)]
 ·have r:i≠g:=λe=>r (by rw[e]);exact setRow_other _ _ _ _ r
theorem flat_len (a:∀x,(f x).length=s) (M:List α):(M.flatMap f).length=M.length*s:=by
 induction M with
 |nil=>simp
 |cons x M ih=>rw[cG,al,ih,a,bQ,Nat.add_mul,Nat.one_mul,Nat.add_comm]
theorem dQ {L:List α} {k:Nat} (h:k<L.length) (z:α):L.take (k+1)=L.take k++[L.getD k z]:=by
 rw[List.take_add_one,aw h,ae,aw h];rfl
theorem cg {L:List α} {k:Nat} (h:k<L.length) (z:α):L.getD k z∈L:=by
 rw[ae,aw h];exact ch h
end
section
variable {α : Type} {w : World} {A : Option Addr} {s : Nat} {f : α → List Value} {L : List α}
theorem cZ {B E c n:Nat} (a:∀x,(f x).length=s) (b:n=L.length) (h:w.ownsRow B E s (.slice A n c) n (L.flatMap f)) {k:Nat} (d:k<n) (z:α):∃g,A=some ⟨g,0,none⟩∧B<=g∧g<w.heap.size∧w.rangeAt g (k*s) (f (L.getD k z)):=by
 subst b;exact ki a h d z
theorem eX {B E c n:Nat} (a:∀x,(f x).length=s) (b:0<s) (d:n=L.length) {g:Nat} (h:w.ownsRow B E s (.slice (some ⟨g,0,none⟩) n c) n (L.flatMap f)) {k:Nat} (e:k<n) (y:α):
  (w.setCells g (k*s) (f y)).ownsRow B E s (.slice (some ⟨g,0,none⟩) n c) n ((L.set k y).flatMap f)∧w.grownBy (w.setCells g (k*s) (f y)) (some g):=by
 subst d;have:=own_put a b h e y;rwa[dj] at this
theorem cT {B E c n:Nat} {z:α} (a:∀x,(f x).length=s) (b:n=L.length) (h:w.ownsRow B E s (.slice A n c) n (L.flatMap f)):RowF w (λk=>B<=k) A s f z L:=by
 subst b;exact RowF.own a h
end
section
variable {P : Program} {ops : Array Oper} {o : Oper} {a : Act} {w : World} {K : Act → World → Prop} {Q : Exit → Act → World → Prop} {E : Prop}
theorem bI (f:o.guard=none) (c:TypeId) (x:Operand) (g:o.op= .load c x) (b off:Nat) (i:a.eval x= .pointer (some ⟨b,off,none⟩)) (e:List Value) (d:TypeDesc) (j:w.rangeAt b off e)
  (k:P.underlying c=some d) (l:d.isRow=true) (m:(P.info? c).map (·.size)=some e.length) (h:K (a.put o.dst (.agg e.toArray)) w):if Region.wanted o (yielded ops a.tmps)=true then Oper.wp P o a w K Q else E:=by
 rw[aN (by simp[Region.wanted,f])];exact wp_load_mid c x g b off i e d j k l m h
theorem cY (e:o.guard=none) (d:TypeId) (x y:Operand) (f:o.op= .store d x y) (b off:Nat) (c:Array Value) (g:a.eval x= .pointer (some ⟨b,off,none⟩)) (i:a.eval y= .agg c)
  (j:w.there b off c.size) (k:(P.info? d).map (·.size)=some c.size) (l:c.all (·.oneCell')=true) (h:K (a.put o.dst undef) (w.setCells b off c.toList)):if Region.wanted o (yielded ops a.tmps)=true then Oper.wp P o a w K Q else E:=by
 rw[aN (by simp[Region.wanted,e])];exact wp_store_mid d x y f b off c g i j k l h
end
def slid {α:Type} (L:List α) (x:α) (k:Nat):List α:=L.take k++x::L.drop k
theorem eW {α:Type} (L:List α) (x:α) (k:Nat):(slid L x k).length=L.length+1:=by
 unfold slid;rw[al,bQ,bf,cb];omega
theorem jB {α:Type} (L:List α) (x:α):slid L x L.length=L++[x]:=by unfold slid;rw[aO,List.drop_length]
theorem kE {α:Type} {L:List α} {x z:α} {k:Nat} (h:k<=L.length):(slid L x k).getD k z=x:=by
 unfold slid;rw[ae,dy (by rw[bf];omega),bf,show k-min k L.length=0 by omega];rfl
theorem jz {α:Type} {L:List α} {x z:α} {k:Nat} (h:k+1<=L.length):(slid L x (k+1)).getD k z=L.getD k z:=by
 unfold slid;rw[ae,eE (by rw[bf];omega),dx,aN (by omega),ae]
theorem it {α:Type} {L:List α} {x z:α} {k:Nat} (h:k+1<=L.length):((slid L x (k+1)).set (k+1) (L.getD k z)).set k x=slid L x k:=by
 apply List.ext_getElem?;intro i;have a:(slid L x (k+1)).length=L.length+1:=eW _ _ _;have b:L.drop k=L.getD k z::L.drop (k+1):=by
  rw[iS (by omega),ae,aw (by omega)];rfl
 by_cases c:i=k
 ·subst c;rw[gP (by rw[dj,a];omega)];unfold slid;rw[dy (by rw[bf];omega),bf,show i-min i L.length=0 by omega];rfl
 ·rw[iB (λe=>c e.symm)];by_cases d:i=k+1
  ·subst d;rw[gP (by rw[a];omega)];unfold slid;rw[dy (by rw[bf];omega),bf,show k+1-min k L.length=1 by omega,b];rfl
  ·rw[iB (λe=>d e.symm)];unfold slid;rcases cJ i k with f|f
   ·rw[eE (by rw[bf];omega),eE (by rw[bf];omega),dx,dx,aN (by omega),aN f]
   ·rw[dy (by rw[bf];omega),dy (by rw[bf];omega),bf,bf,b];rw[show i-min (k+1) L.length=(i-k-2)+1 by omega,show i-min k L.length=(i-k-2)+1+1 by omega];rfl
structure Dt where
 n:Gid
 b:Gst
structure Plc where
 n:Gid
 p:Gid
 name:ByteArray
 dir:Bool
structure Told where
 a:Gid
 p:Plc
structure Hd where
 s:Gst
 u:Gst
structure Elt where
 id:Gid
 af:Gid
 pc:ByteArray
structure Rn where
 af:Gid
 el:Gid
 tx:ByteArray
structure Itm where
 n:Gid
 path:ByteArray
 dir:Bool
 back:Bool
def dt0:Dt:=⟨.zero,.zero⟩
def plc0:Plc:=⟨.zero,.zero,⟨#[]⟩,false⟩
def fI:Told:=⟨.zero,plc0⟩
def hd0:Hd:=⟨.zero,.zero⟩
def elt0:Elt:=⟨.zero,.zero,⟨#[]⟩⟩
def rn0:Rn:=⟨.zero,.zero,⟨#[]⟩⟩
def itm0:Itm:=⟨.zero,⟨#[]⟩,false,false⟩
def stL (s:Gst):List Value:=[.int .i64 s.t,.int .i64 s.r]
def idL (x:Gid):List Value:=[.int .i64 x.s.t,.int .i64 x.s.r,.int .i64 x.i]
def dtL (d:Dt):List Value:=[.int .i64 d.n.s.t,.int .i64 d.n.s.r,.int .i64 d.n.i,.int .i64 d.b.t,.int .i64 d.b.r]
def plcL (p:Plc):List Value:=[.int .i64 p.n.s.t,.int .i64 p.n.s.r,.int .i64 p.n.i,.int .i64 p.p.s.t,.int .i64 p.p.s.r,.int .i64 p.p.i,.string p.name,.bool p.dir]
def toldL (p:Told):List Value:=[.int .i64 p.a.s.t,.int .i64 p.a.s.r,.int .i64 p.a.i,.int .i64 p.p.n.s.t,.int .i64 p.p.n.s.r,.int .i64 p.p.n.i,.int .i64 p.p.p.s.t,.int .i64 p.p.p.s.r,.int .i64 p.p.p.i,.string p.p.name,.bool p.p.dir]
def hdL (h:Hd):List Value:=[.int .i64 h.s.t,.int .i64 h.s.r,.int .i64 h.u.t,.int .i64 h.u.r]
def eltL (e:Elt):List Value:=[.int .i64 e.id.s.t,.int .i64 e.id.s.r,.int .i64 e.id.i,.int .i64 e.af.s.t,.int .i64 e.af.s.r,.int .i64 e.af.i,.string e.pc]
def rnL (e:Rn):List Value:=[.int .i64 e.af.s.t,.int .i64 e.af.s.r,.int .i64 e.af.i,.int .i64 e.el.s.t,.int .i64 e.el.s.r,.int .i64 e.el.i,.string e.tx]
def itmL (p:Itm):List Value:=[.int .i64 p.n.s.t,.int .i64 p.n.s.r,.int .i64 p.n.i,.string p.path,.bool p.dir,.bool p.back]
def Dt.eqb (a b:Dt):Bool:=a.n.eqb b.n && a.b.eqb b.b
theorem eq_dt (a b i p q c d j s t:Int) (v:Bool) (h:Dt.eqb ⟨⟨⟨a,b⟩,i⟩,⟨p,q⟩⟩ ⟨⟨⟨c,d⟩,j⟩,⟨s,t⟩⟩=v) (w:World):(binOp .eql 163 (.agg #[a,b,i,p,q]) (.agg #[c,d,j,s,t])).run Tryz.prog w= .ok (.bool v) w:=by
 subst h;go_simp;simp only[Dt.eqb,Gid.eqb,Gst.eqb];by_cases e:a=c<;>by_cases f:b=d<;>by_cases g:i=j<;>by_cases k:p=s<;>by_cases l:q=t<;>simp[e,f,g,k,l]
def ixI:Option Nat->Int
 |none=> -1
 |some k=>(k:Int)
theorem ix_some {α:Type} {L:List α} {p:α->Bool} {k:Nat} {z:α} (a:k<L.length) (h:p (L.getD k z)=true) (b:∀j,j<k->p (L.getD j z)=false):L.findIdx? p=some k:=by
 rw[List.findIdx?_eq_some_iff_getElem];rw[ae,aw a] at h;refine⟨a,h,λj c=> ?_⟩;have:=b j c;rw[ae,aw (by omega)] at this;simpa using this
theorem ix_none {α:Type} {L:List α} {p:α->Bool} {z:α} (b:∀j,j<L.length->p (L.getD j z)=false):L.findIdx? p=none:=by
 rw[List.findIdx?_eq_none_iff];intro x c;obtain⟨j,a,rfl⟩:=dX.1 c;have:=b j a;rw[ae,aw a] at this;exact this
theorem any_yes {α:Type} {L:List α} {p:α->Bool} {k:Nat} {z:α} (hk:k<L.length) (h:p (L.getD k z)=true):L.any p=true:=eQ.2 ⟨_,cg hk z,h⟩
theorem any_no {α:Type} {L:List α} {p:α->Bool} {z:α} (b:∀j,j<L.length->p (L.getD j z)=false):L.any p=false:=by
 rw[List.any_eq_false];intro x c;obtain⟨j,a,rfl⟩:=dX.1 c;have:=b j a;rw[ae,aw a] at this;rw[show L[j]=(some L[j]).getD z from rfl,this];decide
end
end Go.Proofs.YtkhmicndehlneaaGreatDoor
