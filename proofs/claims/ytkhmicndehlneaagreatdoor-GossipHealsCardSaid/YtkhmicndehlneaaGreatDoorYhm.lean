/- Part 13 of the walks and plain laws that this claim uses, joined. Conditions: as each theorem states. -/
import Derived.Test.YtkhmicndehlneaaGreatDoorYhl
namespace Go.Proofs.YtkhmicndehlneaaGreatDoor
set_option maxRecDepth 100000
set_option maxHeartbeats 16000000
set_option linter.unusedVariables false
section
open Go.RowKit Go.Lib Go.Sort
attribute [local go_sem ↓] Go.wp_at_zero Go.wp_at_succ
def askV (v:List Int):Value:=if vecB v=true then .tuple #[.string ⟨(63::jZ v).toArray⟩,(0:Int)] else .tuple #[.string ⟨#[]⟩,(1:Int)]
def tellV (g:Grp):Value:=if chkB g=true then .tuple #[.string ⟨(33::grpZ g).toArray⟩,(0:Int)] else .tuple #[.string ⟨#[]⟩,(80:Int)]
theorem cat_ask (S:ByteArray) (v:List Int) (h:S.data.toList=jZ v):(⟨#[63]⟩:ByteArray)++S=⟨(63::jZ v).toArray⟩:=by
 apply fD;rw[ByteArray.data_append];apply eH.1;rw[Array.toList_append,h];rfl
theorem cat_tell (l:List UInt8):(⟨#[33]⟩:ByteArray)++(⟨l.toArray⟩:ByteArray)=⟨(33::l).toArray⟩:=by
 apply fD;rw[ByteArray.data_append];apply eH.1;rw[Array.toList_append];rfl
theorem drop1 (s:ByteArray) (b:UInt8) (l:List UInt8) (h:s.data.toList=b::l):(s.extract 1 s.size).data.toList=l:=by
 have hs:s.size=l.length+1:=by rw[ByteArray.size,<-Array.length_toList,h];rfl
 rw[gT,iw,fS,h,hs];simp
theorem ask_any (v:List Int) (A:Option Addr) (c:Nat) (w:World) (hc0:v.length<=c) (hl:c<=9223372036854775807) (hR:VecR w A v) (hi:∀x∈v,i63 x):
  Calls Tryz.prog 36 #[.slice A v.length c] w λe w'=>e= .returned (askV v)∧Below w.heap.size w w':=by
 have HV:=hid (vector_any A c v w hc0 (by omega) hR);cases hv:vecB v with
 |false=>
  obtain⟨ev,hev⟩:∃x,x=askV v:=⟨_,rfl⟩;rw[<-hev];obtain rfl:ev= .tuple #[.string ⟨#[]⟩,(1:Int)]:=by rw[hev];unfold askV;rw[aC (by rw[hv];decide)]
  have HVV:=hid hv;clear hv hev hR hi;go_enter Tryz.func36,Tryz.ntmps36;go_wp2_with fail;refine HV.out.mono ?_;rw[HVV.out];rintro e w1 ⟨rfl,rfl⟩;go_wp2;go_ret2;exact⟨rfl,ag _ _⟩
 | true=>
  obtain⟨n1,n2⟩:=vecB_nn hv
  have HN:=hid (nats_ok A v.length c (λi=>v.getD i 0) (by omega) (λi hi'=>by
   have hm:v.getD i 0∈v:=by rw[ae,an hi'];exact bU hi'
   exact⟨n1 _ hm,(hi _ hm).2⟩) w hR)
  obtain⟨Z,hZ⟩:∃Z,Z=natsS (λi=>v.getD i 0) v.length:=⟨_,rfl⟩;have hZl:Z.data.toList=jZ v:=by rw[hZ];exact natsS_Z v n1
  have hzs:Z.size<=1000:=by
   have h1:Z.data.toList.length=Z.size:=by simp
   have h2:=gM (z:=natZ) (l:=v) λx hx=>cZ (hi x hx).2;have h3:(natZ (v.length:Int)).length<=10:=cZ (by omega);rw[hZl] at h1;unfold jZ at h1;rw[al] at h1;omega
  have hc2:¬maxLen<1+Z.size:=by unfold maxLen;omega
  obtain⟨ev,hev⟩:∃x,x=askV v:=⟨_,rfl⟩;rw[<-hev];obtain rfl:ev= .tuple #[.string ((⟨#[63]⟩:ByteArray)++Z),(0:Int)]:=by rw[hev];unfold askV;rw[aJ hv,cat_ask Z v hZl]
  have HVV:=hid hv;have HZ:=hid hZ;clear hv hev hR hi hZ hZl n1;go_enter Tryz.func36,Tryz.ntmps36;go_wp2_with fail;refine HV.out.mono ?_;rw[HVV.out];rintro e w1 ⟨rfl,rfl⟩;go_wp2_with fail;refine HN.out.mono ?_;rw[<-HZ.out];rintro e w2 ⟨rfl,hB⟩;go_wp2;go_ret2;exact⟨rfl,hB⟩
theorem tell_any (g:Grp) (dA:Option Addr) (dc:Nat) (oA:Option Addr) (oc:Nat) (S:Nat->Prop) (w:World) (hI:GrIn w S g dA dc oA oc) (hT1:∀o∈g.ops,o.text.size<9223372036854775807) (hTx:g.ops.length<=200->∀o∈g.ops,o.text.size<=1000000) (hTb:Tabs w):
  Calls Tryz.prog 65 #[.agg (grA g dA dc oA oc)] w λe w'=>e= .returned (tellV g)∧Below w.heap.size w w':=by
 have hE:∀W,Below w.heap.size w W->Calls Tryz.prog 76 #[.agg (grA g dA dc oA oc)] W λe w'=>e= .returned (encV g)∧Below W.heap.size W w':=λW hB=>encode_any g dA dc oA oc S W (hI.agr (Agr.below hB)) hT1 hTx (hTb.below hB);have HFIT:=hid (fit_of hI);have HB0:=hid (show Below w.heap.size w (w.alloc (.cells (grA g dA dc oA oc) 45)) from(ag _ _).alloc (aa _) _);cases hc:chkB g with
 |false=>
  obtain⟨ev,hev⟩:∃x,x=tellV g:=⟨_,rfl⟩;rw[<-hev];obtain rfl:ev= .tuple #[.string ⟨#[]⟩,(80:Int)]:=by rw[hev];unfold tellV;rw[aC (by rw[hc];decide)]
  rw[encV_no hc] at hE;obtain⟨⟨t,r⟩,n,v,⟨ut,ur⟩,ops⟩:=g;have HE:Hid (∀W,Below w.heap.size w W->Calls Tryz.prog 76 #[.agg #[t,r,n,.slice dA v.length dc,ut,ur,.slice oA ops.length oc]] W λe w'=>e= .returned (.tuple #[.string ⟨#[]⟩,(80:Int)])∧Below W.heap.size W w'):=hid hE;show Calls _ _ #[.agg #[t,r,n,.slice dA v.length dc,ut,ur,.slice oA ops.length oc]] _ _;clear hc hev hE hI hT1 hTx hTb;go_enter Tryz.func65,Tryz.ntmps65;go_wp2_with (first|(go_at_call 76;refine(HE.out _ HB0.out).mono ?_;rintro e w1 ⟨rfl,hB1⟩));go_ret2;exact⟨rfl,HB0.out.trans (hB1.mono (by simp))⟩
 | true=>
  obtain⟨Z,hZ⟩:∃Z:ByteArray,Z=⟨(grpZ g).toArray⟩:=⟨_,rfl⟩;have hzs:Z.size<=300+(61000+140737488355328)*200:=by
   have h1:Z.data.toList.length=Z.size:=by simp
   have h2:=grpZ_le HFIT.out hc (M:=140737488355328) (λo ho=>by have:=hTx (chk_sho hc).1 o ho;omega);have h3:Z.data.toList=grpZ g:=by rw[hZ]
   rw[h3] at h1;omega
  have hc2:¬maxLen<1+Z.size:=by unfold maxLen;omega
  obtain⟨ev,hev⟩:∃x,x=tellV g:=⟨_,rfl⟩;rw[<-hev];obtain rfl:ev= .tuple #[.string ((⟨#[33]⟩:ByteArray)++Z),(0:Int)]:=by rw[hev];unfold tellV;rw[aJ hc,hZ,cat_tell]
  rw[encV_ok hc,<-hZ] at hE;obtain⟨⟨t,r⟩,n,v,⟨ut,ur⟩,ops⟩:=g;have HE:Hid (∀W,Below w.heap.size w W->Calls Tryz.prog 76 #[.agg #[t,r,n,.slice dA v.length dc,ut,ur,.slice oA ops.length oc]] W λe w'=>e= .returned (.tuple #[Z,(0:Int)])∧Below W.heap.size W w'):=hid hE;show Calls _ _ #[.agg #[t,r,n,.slice dA v.length dc,ut,ur,.slice oA ops.length oc]] _ _;clear hc hev hE hI hT1 hTx hTb hZ hzs;go_enter Tryz.func65,Tryz.ntmps65;go_wp2_with (first|(go_at_call 76;refine(HE.out _ HB0.out).mono ?_;rintro e w1 ⟨rfl,hB1⟩));go_ret2;exact⟨rfl,HB0.out.trans (hB1.mono (by simp))⟩
def VcQ (r:Option (List Int)) (w:World) (e:Ending) (w':World):Prop:=Below w.heap.size w w'∧match r with
 |some v=>∃A c,e= .returned (.tuple #[.slice A v.length c,true])∧VecR w' A v∧v.length<=c∧c<=1000000
 |none=>e= .returned (.tuple #[.slice none 0 0,false])
theorem VcQ.no {r:Option (List Int)} (h:r=none) {w w':World} (hb:Below w.heap.size w w'):VcQ r w (.returned (.tuple #[.slice none 0 0,false])) w':=by subst h;exact⟨hb,rfl⟩
theorem VcQ.yes {r:Option (List Int)} {v:List Int} (h:r=some v) {w w':World} (hb:Below w.heap.size w w') {A:Option Addr} {n c:Nat} (hn:n=v.length) (h1:VecR w' A v) (h2:v.length<=c) (h3:c<=1000000):VcQ r w (.returned (.tuple #[.slice A n c,true])) w':=by subst h;subst hn;exact⟨hb,A,c,rfl,h1,h2,h3⟩
theorem takeN_ne:∀(n:Nat) (l:List UInt8),Vr.takeN n l≠ .err 0
 |0,l=>by intro h;cases h
 | n+1,l=>by
  intro h
  cases h1:Vr.take l with
  |err d=>rw[Vr.takeN_err h1] at h;cases h;exact err_ne h1 rfl
  | ok m q=>
   rw[Vr.takeN_ok h1] at h
   cases h2:Vr.takeN n q with
   |err d=>rw[h2] at h;cases d with
    |zero=>exact takeN_ne n q h2
    |succ d=>cases h
   |ok ns r=>rw[h2] at h;cases h
theorem gvector_any (s:ByteArray) (w:World) (hs:s.size<=1000000):
  Calls Tryz.prog 73 #[s] w λe w'=>VcQ (vecZ s.data.toList) w e w':=by
 have HT:=hid (takenats_cap s hs w);obtain⟨r,hr⟩:∃r,r=vecZ s.data.toList:=⟨_,rfl⟩;rw[<-hr];cases ht:Vr.takeNats s.data.toList with
 | err c=>
  have hc:c≠0:=by
   intro e;subst e;unfold Vr.takeNats at ht;cases h1:Vr.take s.data.toList with
   |err d=>rw[h1] at ht;cases ht;exact err_ne h1 rfl
   |ok n q=>
    rw[h1] at ht;simp only at ht;split at ht
    ·cases ht
    ·exact takeN_ne _ _ ht
  have HNO:=hid (λw'=>@VcQ.no r (by rw[hr];unfold vecZ;rw[ht]) w w');have t1:((c:Int) != 0)=true:=by rw[eM];omega
  have HTE:=hid ht;clear ht hr hc;go_enter Tryz.func73,Tryz.ntmps73;go_wp2_with fail;refine HT.out.mono ?_;rw[HTE.out];rintro e w1 ⟨rfl,hB⟩;have HB:=hid hB;clear hB;go_upto_region 2 with fail;refine bF ?_
  repeat(any_goals(first|go_big_quiet_step (fail)|quiet_step (fail)))
  refine qz λwq hBq=> ?_;go_wp2;go_ret2;exact HNO.out _ (HB.out.trans (hBq.mono HB.out.size))
 | ok ns q=>
  obtain⟨v,hv⟩:∃v:List Int,v=ns.map λ(n:Nat)=>(n:Int):=⟨_,rfl⟩;have hvl:ns.length=v.length:=by rw[hv,aQ]
  have HTE:=hid ht;have HVL:=hid hvl
  have HRV:=hid (show r=if q=[]∧vecB v=true then some v else none by
   rw[hr];unfold vecZ;rw[ht,hv];cases q with
   |nil=>simp
   |cons a l=>simp)
  have HIF:=hid (show ∀i,intsF ns i= .int .i64 (v.getD i 0) from λi=>by
   rw[hv];unfold intsF;congr 1;simp only[ae,cT]
   cases ns[i]? <;>rfl)
  clear ht hr hv;by_cases hq:q=[]
  ·subst hq;go_enter Tryz.func73,Tryz.ntmps73;go_wp2_with fail;refine HT.out.mono ?_;rw[HTE.out];rintro e w1 ⟨A,cap,rfl,hR,hB,hcap,hmx⟩;rw[hvl] at hcap hR ⊢;have hR2:VecR w1 A v:=λk hk=>by
    obtain⟨ad,h1,h2,h3⟩:=hR k hk;exact⟨ad,h1,h2,by rw[h3,HIF.out]⟩
   have HR:=hid hR2;have HB:=hid hB;have cV:=λd1 os=>Calls.regrown_same (vector_any A cap v (grow (redrawn w1 d1) os) hcap (by omega) (hR2.regrown d1 os));clear hB hR hR2 hvl;go_upto_region 2 with fail;cases hb:vecB v with
   |false=>
    rw[hb] at cV;have HNO:=hid (λw'=>@VcQ.no r (by rw[HRV.out,hb];simp) w w');clear hb;refine bF ?_
    repeat(any_goals(first|go_big_quiet_step (with_reducible exact cV _ _)|quiet_step (with_reducible exact cV _ _)))
    refine qz λwq hBq=> ?_;go_wp2;go_ret2;exact HNO.out _ (HB.out.trans (hBq.mono HB.out.size))
   |true=>
    rw[hb] at cV;have HYES:=hid (show r=some v by rw[HRV.out,hb];simp);clear hb;refine bF ?_
    repeat(any_goals(first|go_big_quiet_step (with_reducible exact cV _ _)|quiet_step (with_reducible exact cV _ _)))
    refine qz λwq hBq=> ?_;go_wp2;go_ret2;exact VcQ.yes HYES.out (HB.out.trans (hBq.mono HB.out.size)) rfl (HR.out.below hBq) hcap hmx
  ·have HNO:=hid (λw'=>@VcQ.no r (by rw[HRV.out];simp[hq]) w w');obtain⟨Z,hZ⟩:∃Z:ByteArray,Z=⟨q.toArray⟩:=⟨_,rfl⟩;have q1:¬Z.toList=[]:=by rw[str_nil,hZ];exact hq
   have q2:Z.toList.isEmpty=false:=by rw[List.isEmpty_eq_false_iff];exact q1
   have q3:(Z.toList == [])=false:=by rw[aV];exact q1
   have HZ:=hid hZ;clear hZ hq hvl;go_enter Tryz.func73,Tryz.ntmps73;go_wp2_with fail;refine HT.out.mono ?_;rw[HTE.out];rintro e w1 ⟨A,cap,rfl,hR,hB,hcap,hmx⟩;rw[<-HZ.out];have HB:=hid hB;clear hB hR;go_upto_region 2 with fail;refine bF ?_
   repeat(any_goals(first|go_big_quiet_step (fail)|quiet_step (fail)))
   refine qz λwq hBq=> ?_;go_wp2;go_ret2;exact HNO.out _ (HB.out.trans (hBq.mono HB.out.size))
theorem below_drew (w:World) {n:Nat} (h:n<=w.heap.size):Below n w w.drew:=⟨rfl,rfl,rfl,aa _,λ_ _=>rfl⟩
theorem readZ_cons (b:UInt8) (l:List UInt8):readZ (b::l)=if b.toNat=33 then (match decZ l with
      |some g=> .tell g
      |none=> .err 80)
    else if b.toNat=63 then (match vecZ l with
      |some v=> .ask v
      |none=> .err 11)
    else .err 11:=rfl
theorem setRow_eq {w:World} {g:Nat} {T:TypeId} {c:Array Value} (h:w.heap[g]? =some (.cells c T (0,0))):w.setRow g c=w:=(fk g T [] 0 c w h).symm
def ReadQ (r:RG) (w:World) (e:Ending) (w':World):Prop:=Below w.heap.size w w'∧match r with
 | .ask v=>∃A c,e= .returned (.tuple #[true,.slice A v.length c,.agg #[(0:Int),(0:Int),(0:Int),.slice none 0 0,(0:Int),(0:Int),.slice none 0 0],(0:Int)])∧VecR w' A v∧v.length<=c∧c<=1000000
 | .tell g=>∃dA dc oA oc,e= .returned (.tuple #[false,.slice none 0 0,.agg (grA g dA dc oA oc),(0:Int)])∧GrIn w' (λk=>w.heap.size<=k) g dA dc oA oc∧∀o∈g.ops,o.text.size<=1000000∧o.name.size<=1000000
 | .err c=>e= .returned (.tuple #[false,.slice none 0 0,.agg #[(0:Int),(0:Int),(0:Int),.slice none 0 0,(0:Int),(0:Int),.slice none 0 0],c])
theorem ReadQ.err_ {r:RG} {c:Int} (h:r= .err c) {w w':World} (hb:Below w.heap.size w w'):ReadQ r w (.returned (.tuple #[false,.slice none 0 0,.agg #[(0:Int),(0:Int),(0:Int),.slice none 0 0,(0:Int),(0:Int),.slice none 0 0],c])) w':=by subst h;exact⟨hb,rfl⟩
theorem read_any (s:ByteArray) (w:World) (hs:s.size<=1000000) (hTb:Tabs w):
  Calls Tryz.prog 37 #[s] w λe w'=>ReadQ (readZ s.data.toList) w e w':=by
 obtain⟨r,hr⟩:∃r,r=readZ s.data.toList:=⟨_,rfl⟩;rw[<-hr];have HTb:=hid hTb;clear hTb;obtain⟨W0,hW0⟩:∃W,W=w.alloc (.cells #[(0:Int),(0:Int),(0:Int),.slice none 0 0,(0:Int),(0:Int),.slice none 0 0] 45):=⟨_,rfl⟩;have HW0:=hid hW0;have HA0:=hid (show W0.heap[w.heap.size]? =some (.cells #[(0:Int),(0:Int),(0:Int),.slice none 0 0,(0:Int),(0:Int),.slice none 0 0] 45 (0,0)) by rw[hW0];exact am _ _);have HB0:=hid (show Below w.heap.size w W0 by rw[hW0];exact(ag _ _).alloc (aa _) _);have hz0:W0.heap.size=w.heap.size+1:=by rw[hW0];simp
 have HZ0:=hid hz0;clear hW0 hz0;cases hl:s.data.toList with
 |nil=>
  have HR:=hid (show r= .err 11 by rw[hr,hl];rfl);obtain rfl:s=⟨#[]⟩:=gm.1 hl;clear hr hl hs;go_enter Tryz.func37,Tryz.ntmps37;go_upto_region 2 with fail;rw[<-HW0.out];have g0:=cw0 HA0.out;have g1:=cw1 HA0.out;have g2:=cw2 HA0.out;have g3:=cw3 HA0.out;have g4:=cw4 HA0.out;have g5:=cw5 HA0.out;have g6:=cw6 HA0.out;refine wp_region_any (by kernel_rfl) ?_
  try(change wpAny _ _ _ _ _ _ _ (World.drew _))
  refine wpAny_take (i:=1) (v:= .bool false) rfl (by kernel_rfl) (by kernel_rfl) (by kernel_rfl) (λ_ _ _ h=>h) (Or.inl ⟨by rfl,λw=>by go_simp⟩) ?_;go_simp;refine wpAny_take (i:=2) (v:= .slice none 0 0) rfl (by kernel_rfl) (by kernel_rfl) (by kernel_rfl) (λ_ _ _ h=>h) (Or.inl ⟨by rfl,λw=>by go_simp⟩) ?_;go_simp;refine wpAny_ready (rs:=[0]) (by kernel_rfl) (by simp) ?_;refine AllReady.cons rfl (λK hK=> ?_) AllReady.nil;go_simp;refine hK _ _ ?_;clear hK K;refine wpAny_ready (rs:=[3]) (by kernel_rfl) (by simp) ?_;refine AllReady.cons rfl (λK hK=> ?_) AllReady.nil;rw[aJ (by rfl)];refine jF 45 _ _ rfl w.heap.size 45 #[(0:Int),(0:Int),(0:Int),.slice none 0 0,(0:Int),(0:Int),.slice none 0 0] #[(0:Int),(0:Int),(0:Int),.slice none 0 0,(0:Int),(0:Int),.slice none 0 0] rfl rfl (show W0.drew.heap[w.heap.size]? =_ from HA0.out) (by kernel_rfl) rfl rfl ?_;rw[setRow_eq (show W0.drew.heap[w.heap.size]? =_ from HA0.out)];refine hK _ _ ?_;clear hK K;refine wpAny_take (i:=4) (v:= .int .i64 11) rfl (by kernel_rfl) (by kernel_rfl) (by kernel_rfl) (λ_ _ _ h=>h) (Or.inl ⟨by rfl,λw=>by go_simp⟩) ?_;go_simp;refine wpAny_done (by kernel_rfl) ?_ _;go_simp;go_wp2;refine bB (v:= .tuple #[false,.slice none 0 0,.agg #[(0:Int),(0:Int),(0:Int),.slice none 0 0,(0:Int),(0:Int),.slice none 0 0],(11:Int)]) (by simp[results,Tryz.results37,go_sem,g0,g1,g2,g3,g4,g5,g6]) rfl ?_;exact ReadQ.err_ HR.out (HB0.out.trans (below_drew W0 HB0.out.size))
 | cons b l=>
  have h0:0<s.size:=by rw[ByteArray.size,<-Array.length_toList,hl];simp
  have hb0:s[0]=b:=by
   have:s.data.toList[0]'(by rw[hl];simp)=b:=by simp only[hl];rfl
   rw[<-this];rfl
  have q1:¬s.toList=[]:=by rw[str_nil,hl];simp
  have q2:s.toList.isEmpty=false:=by rw[List.isEmpty_eq_false_iff];exact q1
  have q3:(s.toList == [])=false:=by rw[aV];exact q1
  have hd1:=drop1 s b l hl;have hes:(s.extract 1 s.size).size<=1000000:=by rw[cI];omega
  have h1s:(1:Int)<=(s.size:Int):=by omega
  have HES:=hid hes;have HD1:=hid hd1;clear hes hd1;have hbl:b.toNat<256:=b.toNat_lt;by_cases h33:b.toNat=33
  ·have t33:((s[0].toNat:Int) == 33)=true:=by rw[ce,hb0];omega
   cases hdz:decZ l with
   |none=>
    have HR:=hid (show r= .err 80 by rw[hr,hl];rw[readZ_cons,aJ h33,hdz]);have HDZ:=hid (show decZ (s.extract 1 s.size).data.toList=none by rw[HD1.out];exact hdz);clear hr hl hb0 hdz h33 hbl;go_enter Tryz.func37,Tryz.ntmps37;go_wp2_with fail;rw[<-HW0.out];refine(decode_any (s.extract 1 s.size) W0 HES.out (HTb.out.below HB0.out)).mono ?_;rintro e w1 hq;obtain⟨hB1,rfl⟩:=DecQ.none HDZ.out hq;have HA1:=bK hB1 HA0;have HB1:=bT HB0 hB1;clear hB1 hq;go_upto_region 6 with(first|(refine da rfl _ _ _ rfl w.heap.size _ _ #[(0:Int),(0:Int),(0:Int),.slice none 0 0,(0:Int),(0:Int),.slice none 0 0] rfl rfl HA1.out ?_ ?_ ?_ ?_;kernel_rfl;rfl;rfl));rw[setRow_eq HA1.out];have g0:=cw0 HA1.out;have g1:=cw1 HA1.out;have g2:=cw2 HA1.out;have g3:=cw3 HA1.out;have g4:=cw4 HA1.out;have g5:=cw5 HA1.out;have g6:=cw6 HA1.out;refine wp_region_any (by kernel_rfl) ?_
    try(change wpAny _ _ _ _ _ _ _ (World.drew _))
    refine wpAny_take (i:=1) (v:= .int .i64 80) rfl (by kernel_rfl) (by kernel_rfl) (by kernel_rfl) (λ_ _ _ h=>h) (Or.inl ⟨by rfl,λw=>by go_simp⟩) ?_;go_simp;refine wpAny_take (i:=2) (v:= .bool false) rfl (by kernel_rfl) (by kernel_rfl) (by kernel_rfl) (λ_ _ _ h=>h) (Or.inl ⟨by rfl,λw=>by go_simp⟩) ?_;go_simp;refine wpAny_take (i:=3) (v:= .slice none 0 0) rfl (by kernel_rfl) (by kernel_rfl) (by kernel_rfl) (λ_ _ _ h=>h) (Or.inl ⟨by rfl,λw=>by go_simp⟩) ?_;go_simp;refine wpAny_ready (rs:=[0]) (by kernel_rfl) (by simp) ?_;refine AllReady.cons rfl (λK hK=> ?_) AllReady.nil;go_simp;refine hK _ _ ?_;clear hK K;refine wpAny_ready (rs:=[4]) (by kernel_rfl) (by simp) ?_;refine AllReady.cons rfl (λK hK=> ?_) AllReady.nil;rw[aJ (by rfl)];refine jF 45 _ _ rfl w.heap.size 45 #[(0:Int),(0:Int),(0:Int),.slice none 0 0,(0:Int),(0:Int),.slice none 0 0] #[(0:Int),(0:Int),(0:Int),.slice none 0 0,(0:Int),(0:Int),.slice none 0 0] rfl rfl (show w1.drew.heap[w.heap.size]? =_ from HA1.out) (by kernel_rfl) rfl rfl ?_;rw[setRow_eq (show w1.drew.heap[w.heap.size]? =_ from HA1.out)];refine hK _ _ ?_;clear hK K;refine wpAny_take (i:=5) (v:= .int .i64 80) rfl (by kernel_rfl) (by kernel_rfl) (by kernel_rfl) (λ_ _ _ h=>h) (Or.inl ⟨by rfl,λw=>by go_simp⟩) ?_;go_simp;refine wpAny_done (by kernel_rfl) ?_ _;go_simp;go_wp2
    refine bB (v:= .tuple #[false,.slice none 0 0,.agg #[(0:Int),(0:Int),(0:Int),.slice none 0 0,(0:Int),(0:Int),.slice none 0 0],(80:Int)]) (by simp[results,Tryz.results37,go_sem,g0,g1,g2,g3,g4,g5,g6]) rfl ?_;exact ReadQ.err_ HR.out (HB1.out.trans (below_drew w1 HB1.out.size))
   |some g=>
    have HR:=hid (show r= .tell g by rw[hr,hl];rw[readZ_cons,aJ h33,hdz]);have HDZ:=hid (show decZ (s.extract 1 s.size).data.toList=some g by rw[HD1.out];exact hdz);clear hr hl hb0 hdz h33 hbl;go_enter Tryz.func37,Tryz.ntmps37;go_wp2_with fail;rw[<-HW0.out];refine(decode_any (s.extract 1 s.size) W0 HES.out (HTb.out.below HB0.out)).mono ?_;rintro e w1 hq;obtain⟨hB1,dA,dc,oA,oc,he,hI1,hT1⟩:=DecQ.some HDZ.out hq;have HA1:=bK hB1 HA0;have HB1:=bT HB0 hB1;have HI1:=hid hI1;have HT1:=hid hT1;clear hB1 hq hI1 hT1;obtain⟨⟨t,r_⟩,n,v,⟨ut,ur⟩,ops⟩:=g;obtain rfl:e= .returned (.tuple #[.agg #[t,r_,n,.slice dA v.length dc,ut,ur,.slice oA ops.length oc],(0:Int)]):=he;go_upto_region 6 with(first|(refine da rfl _ _ _ rfl w.heap.size _ _ #[t,r_,n,.slice dA v.length dc,ut,ur,.slice oA ops.length oc] rfl rfl HA1.out ?_ ?_ ?_ ?_;kernel_rfl;rfl;rfl));generalize hV:w1.setRow w.heap.size #[t,r_,n,.slice dA v.length dc,ut,ur,.slice oA ops.length oc]=V;have HAV:=hid (show V.heap[w.heap.size]? =some (.cells #[t,r_,n,.slice dA v.length dc,ut,ur,.slice oA ops.length oc] 45 (0,0)) by rw[<-hV];exact aM _ HA1.out);have HBV:=hid (show Below w.heap.size w V by rw[<-hV];exact Below.setRow' HB1.out (aa _) _)
    have HIV:=hid (show GrIn V (λk=>w.heap.size<=k) ⟨⟨t,r_⟩,n,v,⟨ut,ur⟩,ops⟩ dA dc oA oc by rw[<-hV];exact(HI1.out.agr (Agr.setRow w1 w.heap.size _ (by show ¬W0.heap.size<=w.heap.size;rw[HZ0.out];omega))).sub (λk _ h=>by have h:W0.heap.size<=k:=h;show w.heap.size<=k;rw[HZ0.out] at h;omega));clear hV;have g0:=cw0 HAV.out;have g1:=cw1 HAV.out;have g2:=cw2 HAV.out;have g3:=cw3 HAV.out;have g4:=cw4 HAV.out;have g5:=cw5 HAV.out;have g6:=cw6 HAV.out;refine wp_region_any (by kernel_rfl) ?_
    try(change wpAny _ _ _ _ _ _ _ (World.drew _))
    refine wpAny_take (i:=1) (v:= .int .i64 0) rfl (by kernel_rfl) (by kernel_rfl) (by kernel_rfl) (λ_ _ _ h=>h) (Or.inl ⟨by rfl,λw=>by go_simp⟩) ?_;go_simp;refine wpAny_take (i:=2) (v:= .bool false) rfl (by kernel_rfl) (by kernel_rfl) (by kernel_rfl) (λ_ _ _ h=>h) (Or.inl ⟨by rfl,λw=>by go_simp⟩) ?_;go_simp;refine wpAny_take (i:=3) (v:= .slice none 0 0) rfl (by kernel_rfl) (by kernel_rfl) (by kernel_rfl) (λ_ _ _ h=>h) (Or.inl ⟨by rfl,λw=>by go_simp⟩) ?_;go_simp;refine wpAny_ready (rs:=[0]) (by kernel_rfl) (by simp) ?_;refine AllReady.cons rfl (λK hK=> ?_) AllReady.nil;go_simp;refine hK _ _ ?_;clear hK K;refine wpAny_ready (rs:=[4]) (by kernel_rfl) (by simp) ?_;refine AllReady.cons rfl (λK hK=> ?_) AllReady.nil;rw[aJ (by rfl)];refine jF 45 _ _ rfl w.heap.size 45 #[t,r_,n,.slice dA v.length dc,ut,ur,.slice oA ops.length oc] #[t,r_,n,.slice dA v.length dc,ut,ur,.slice oA ops.length oc] rfl rfl (show V.drew.heap[w.heap.size]? =_ from HAV.out) (by kernel_rfl) rfl rfl ?_;rw[setRow_eq (show V.drew.heap[w.heap.size]? =_ from HAV.out)];refine hK _ _ ?_;clear hK K;refine wpAny_take (i:=5) (v:= .int .i64 0) rfl (by kernel_rfl) (by kernel_rfl) (by kernel_rfl) (λ_ _ _ h=>h) (Or.inl ⟨by rfl,λw=>by go_simp⟩) ?_;go_simp;refine wpAny_done (by kernel_rfl) ?_ _;go_simp;go_wp2;refine bB (v:= .tuple #[false,.slice none 0 0,.agg #[t,r_,n,.slice dA v.length dc,ut,ur,.slice oA ops.length oc],(0:Int)]) (by simp[results,Tryz.results37,go_sem,g0,g1,g2,g3,g4,g5,g6]) rfl ?_
    rw[HR.out];exact⟨HBV.out.trans (below_drew V HBV.out.size),dA,dc,oA,oc,rfl,HIV.out.agr ⟨aa _,λ_ _ _=>rfl⟩,HT1.out⟩
  ·have t33:((s[0].toNat:Int) == 33)=false:=by rw[aV,hb0];omega
   by_cases h63:b.toNat=63
   ·have t63:((s[0].toNat:Int) == 63)=true:=by rw[ce,hb0];omega
    cases hvz:vecZ l with
    |none=>
     have HR:=hid (show r= .err 11 by rw[hr,hl];rw[readZ_cons,aC h33,aJ h63,hvz]);have HVZ:=hid (show vecZ (s.extract 1 s.size).data.toList=none by rw[HD1.out];exact hvz);clear hr hl hb0 hvz h33 h63 hbl;go_enter Tryz.func37,Tryz.ntmps37;go_wp2_with fail;rw[<-HW0.out];refine(gvector_any (s.extract 1 s.size) W0 HES.out).mono ?_;rw[HVZ.out];rintro e w1 ⟨hB1,rfl⟩;have HA1:=bK hB1 HA0;have HB1:=bT HB0 hB1;clear hB1;go_upto_region 11 with fail;have g0:=cw0 HA1.out;have g1:=cw1 HA1.out;have g2:=cw2 HA1.out;have g3:=cw3 HA1.out;have g4:=cw4 HA1.out;have g5:=cw5 HA1.out;have g6:=cw6 HA1.out;refine wp_region_any (by kernel_rfl) ?_
     try(change wpAny _ _ _ _ _ _ _ (World.drew _))
     refine wpAny_take (i:=1) (v:= .bool false) rfl (by kernel_rfl) (by kernel_rfl) (by kernel_rfl) (λ_ _ _ h=>h) (Or.inl ⟨by rfl,λw=>by go_simp⟩) ?_;go_simp;refine wpAny_take (i:=2) (v:= .slice none 0 0) rfl (by kernel_rfl) (by kernel_rfl) (by kernel_rfl) (λ_ _ _ h=>h) (Or.inl ⟨by rfl,λw=>by go_simp⟩) ?_;go_simp;refine wpAny_ready (rs:=[0]) (by kernel_rfl) (by simp) ?_;refine AllReady.cons rfl (λK hK=> ?_) AllReady.nil;go_simp;refine hK _ _ ?_;clear hK K;refine wpAny_ready (rs:=[3]) (by kernel_rfl) (by simp) ?_;refine AllReady.cons rfl (λK hK=> ?_) AllReady.nil;rw[aJ (by rfl)];refine jF 45 _ _ rfl w.heap.size 45 #[(0:Int),(0:Int),(0:Int),.slice none 0 0,(0:Int),(0:Int),.slice none 0 0] #[(0:Int),(0:Int),(0:Int),.slice none 0 0,(0:Int),(0:Int),.slice none 0 0] rfl rfl (show w1.drew.heap[w.heap.size]? =_ from HA1.out) (by kernel_rfl) rfl rfl ?_;rw[setRow_eq (show w1.drew.heap[w.heap.size]? =_ from HA1.out)];refine hK _ _ ?_;clear hK K;refine wpAny_take (i:=4) (v:= .int .i64 11) rfl (by kernel_rfl) (by kernel_rfl) (by kernel_rfl) (λ_ _ _ h=>h) (Or.inl ⟨by rfl,λw=>by go_simp⟩) ?_;go_simp;refine wpAny_done (by kernel_rfl) ?_ _;go_simp;go_wp2;refine bB (v:= .tuple #[false,.slice none 0 0,.agg #[(0:Int),(0:Int),(0:Int),.slice none 0 0,(0:Int),(0:Int),.slice none 0 0],(11:Int)]) (by simp[results,Tryz.results37,go_sem,g0,g1,g2,g3,g4,g5,g6]) rfl ?_;exact ReadQ.err_ HR.out (HB1.out.trans (below_drew w1 HB1.out.size))
    |some v=>
     have HR:=hid (show r= .ask v by rw[hr,hl];rw[readZ_cons,aC h33,aJ h63,hvz]);have HVZ:=hid (show vecZ (s.extract 1 s.size).data.toList=some v by rw[HD1.out];exact hvz);clear hr hl hb0 hvz h33 h63 hbl;go_enter Tryz.func37,Tryz.ntmps37;go_wp2_with fail;rw[<-HW0.out];refine(gvector_any (s.extract 1 s.size) W0 HES.out).mono ?_;rw[HVZ.out];rintro e w1 ⟨hB1,A,c,rfl,hR1,hc1,hc2⟩;have HA1:=bK hB1 HA0;have HB1:=bT HB0 hB1;have HR1:=hid hR1;clear hB1 hR1;go_upto_region 10 with fail;have g0:=cw0 HA1.out;have g1:=cw1 HA1.out;have g2:=cw2 HA1.out;have g3:=cw3 HA1.out;have g4:=cw4 HA1.out;have g5:=cw5 HA1.out;have g6:=cw6 HA1.out;refine wp_region_any (by kernel_rfl) ?_
     try(change wpAny _ _ _ _ _ _ _ (World.drew _))
     refine wpAny_take (i:=0) (v:= .slice A v.length c) rfl (by kernel_rfl) (by kernel_rfl) (by kernel_rfl) (λ_ _ _ h=>h) (Or.inl ⟨by rfl,λw=>by go_simp⟩) ?_;go_simp;refine wpAny_take (i:=2) (v:= .bool true) rfl (by kernel_rfl) (by kernel_rfl) (by kernel_rfl) (λ_ _ _ h=>h) (Or.inl ⟨by rfl,λw=>by go_simp⟩) ?_;go_simp;refine wpAny_take (i:=3) (v:= .slice A v.length c) rfl (by kernel_rfl) (by kernel_rfl) (by kernel_rfl) (λ_ _ _ h=>h) (Or.inl ⟨by rfl,λw=>by go_simp⟩) ?_;go_simp;refine wpAny_ready (rs:=[1]) (by kernel_rfl) (by simp) ?_;refine AllReady.cons rfl (λK hK=> ?_) AllReady.nil;go_simp;refine hK _ _ ?_;clear hK K;refine wpAny_ready (rs:=[4]) (by kernel_rfl) (by simp) ?_;refine AllReady.cons rfl (λK hK=> ?_) AllReady.nil;rw[aJ (by rfl)];refine jF 45 _ _ rfl w.heap.size 45 #[(0:Int),(0:Int),(0:Int),.slice none 0 0,(0:Int),(0:Int),.slice none 0 0] #[(0:Int),(0:Int),(0:Int),.slice none 0 0,(0:Int),(0:Int),.slice none 0 0] rfl rfl (show w1.drew.heap[w.heap.size]? =_ from HA1.out) (by kernel_rfl) rfl rfl ?_;rw[setRow_eq (show w1.drew.heap[w.heap.size]? =_ from HA1.out)];refine hK _ _ ?_;clear hK K;refine wpAny_take (i:=5) (v:= .int .i64 0) rfl (by kernel_rfl) (by kernel_rfl) (by kernel_rfl) (λ_ _ _ h=>h) (Or.inl ⟨by rfl,λw=>by go_simp⟩) ?_;go_simp;refine wpAny_done (by kernel_rfl) ?_ _;go_simp;go_wp2
     refine bB (v:= .tuple #[true,.slice A v.length c,.agg #[(0:Int),(0:Int),(0:Int),.slice none 0 0,(0:Int),(0:Int),.slice none 0 0],(0:Int)]) (by simp[results,Tryz.results37,go_sem,g0,g1,g2,g3,g4,g5,g6]) rfl ?_;rw[HR.out];exact⟨HB1.out.trans (below_drew w1 HB1.out.size),A,c,rfl,HR1.out,hc1,hc2⟩
   ·have t63:((s[0].toNat:Int) == 63)=false:=by rw[aV,hb0];omega
    have HR:=hid (show r= .err 11 by rw[hr,hl];rw[readZ_cons,aC h33,aC h63]);clear hr hl hb0 h33 h63 hbl;go_enter Tryz.func37,Tryz.ntmps37;go_upto_region 11 with fail;rw[<-HW0.out];have g0:=cw0 HA0.out;have g1:=cw1 HA0.out;have g2:=cw2 HA0.out;have g3:=cw3 HA0.out;have g4:=cw4 HA0.out;have g5:=cw5 HA0.out;have g6:=cw6 HA0.out;refine wp_region_any (by kernel_rfl) ?_
    try(change wpAny _ _ _ _ _ _ _ (World.drew _))
    refine wpAny_take (i:=1) (v:= .bool false) rfl (by kernel_rfl) (by kernel_rfl) (by kernel_rfl) (λ_ _ _ h=>h) (Or.inl ⟨by rfl,λw=>by go_simp⟩) ?_;go_simp;refine wpAny_take (i:=2) (v:= .slice none 0 0) rfl (by kernel_rfl) (by kernel_rfl) (by kernel_rfl) (λ_ _ _ h=>h) (Or.inl ⟨by rfl,λw=>by go_simp⟩) ?_;go_simp;refine wpAny_ready (rs:=[0]) (by kernel_rfl) (by simp) ?_;refine AllReady.cons rfl (λK hK=> ?_) AllReady.nil;go_simp;refine hK _ _ ?_;clear hK K;refine wpAny_ready (rs:=[3]) (by kernel_rfl) (by simp) ?_;refine AllReady.cons rfl (λK hK=> ?_) AllReady.nil;rw[aJ (by rfl)];refine jF 45 _ _ rfl w.heap.size 45 #[(0:Int),(0:Int),(0:Int),.slice none 0 0,(0:Int),(0:Int),.slice none 0 0] #[(0:Int),(0:Int),(0:Int),.slice none 0 0,(0:Int),(0:Int),.slice none 0 0] rfl rfl (show W0.drew.heap[w.heap.size]? =_ from HA0.out) (by kernel_rfl) rfl rfl ?_;rw[setRow_eq (show W0.drew.heap[w.heap.size]? =_ from HA0.out)];refine hK _ _ ?_;clear hK K;refine wpAny_take (i:=4) (v:= .int .i64 11) rfl (by kernel_rfl) (by kernel_rfl) (by kernel_rfl) (λ_ _ _ h=>h) (Or.inl ⟨by rfl,λw=>by go_simp⟩) ?_;go_simp;refine wpAny_done (by kernel_rfl) ?_ _;go_simp;go_wp2;refine bB (v:= .tuple #[false,.slice none 0 0,.agg #[(0:Int),(0:Int),(0:Int),.slice none 0 0,(0:Int),(0:Int),.slice none 0 0],(11:Int)]) (by simp[results,Tryz.results37,go_sem,g0,g1,g2,g3,g4,g5,g6]) rfl ?_;exact ReadQ.err_ HR.out (HB0.out.trans (below_drew W0 HB0.out.size))
theorem ReadQ.ask {l:List UInt8} {v:List Int} (h:readZ l= .ask v) {w w':World} {e:Ending} (hq:ReadQ (readZ l) w e w'):Below w.heap.size w w'∧∃A c,e= .returned (.tuple #[true,.slice A v.length c,.agg #[(0:Int),(0:Int),(0:Int),.slice none 0 0,(0:Int),(0:Int),.slice none 0 0],(0:Int)])∧VecR w' A v∧v.length<=c∧c<=1000000:=by
 rw[h] at hq;exact hq
theorem ReadQ.tell {l:List UInt8} {g:Grp} (h:readZ l= .tell g) {w w':World} {e:Ending} (hq:ReadQ (readZ l) w e w'):Below w.heap.size w w'∧∃dA dc oA oc,e= .returned (.tuple #[false,.slice none 0 0,.agg (grA g dA dc oA oc),(0:Int)])∧GrIn w' (λk=>w.heap.size<=k) g dA dc oA oc∧∀o∈g.ops,o.text.size<=1000000∧o.name.size<=1000000:=by
 rw[h] at hq;exact hq
theorem ReadQ.err {l:List UInt8} {c:Int} (h:readZ l= .err c) {w w':World} {e:Ending} (hq:ReadQ (readZ l) w e w'):Below w.heap.size w w'∧e= .returned (.tuple #[false,.slice none 0 0,.agg #[(0:Int),(0:Int),(0:Int),.slice none 0 0,(0:Int),(0:Int),.slice none 0 0],c]):=by
 rw[h] at hq;exact hq
theorem read_ask {v:List Int} (h:vecB v=true) (hb:∀x∈v,x<9223372036854775808):readZ (63::jZ v)= .ask v:=by
 rw[readZ_cons,aC (by decide),aJ (by decide),vec_num h hb]
theorem read_tell {g:Grp} (hf:fitG g) (h:chkB g=true):readZ (33::grpZ g)= .tell g:=by
 rw[readZ_cons,aJ (by decide),dec_enc hf h]
theorem read_x:readZ (⟨#[120]⟩:ByteArray).data.toList= .err 11:=by
 show readZ [120]=_;rw[readZ_cons,aC (by decide),aC (by decide)]
theorem vec21:vecB [2,1]=true:=by decide
theorem num21:jZ [2,1]=[2,2,1]:=by
 simp[jZ,natZ,uvarint_small (show 1<128 by decide),uvarint_small (show 2<128 by decide)]
theorem awake23_any (w:World) (hTb:Tabs w):
  Calls Tryz.prog 30 #[] w λe w'=>e= .returned (.bool true)∧Below w.heap.size w w':=by
 have HTb:=hid hTb;clear hTb;obtain⟨B1,hB1⟩:∃B:ByteArray,B=⟨(63::jZ [2,1]).toArray⟩:=⟨_,rfl⟩;have hl1:B1.toList=[63,2,2,1]:=by rw[hB1,eS,num21]
 obtain⟨B2,hB2⟩:∃B:ByteArray,B=⟨(33::grpZ firstG).toArray⟩:=⟨_,rfl⟩
 have HAK:=hid (show ∀(a:Nat) (W:World),VecR W (some ⟨a,0,none⟩) [2,1]->Calls Tryz.prog 36 #[.slice (some ⟨a,0,none⟩) 2 2] W λe w'=>e= .returned (.tuple #[B1,(0:Int)])∧Below W.heap.size W w' from λa W h=>by
  have:=ask_any [2,1] (some ⟨a,0,none⟩) 2 W (by decide) (by decide) h (λx hx=>by simp at hx;rcases hx with rfl|rfl<;>exact⟨by decide,by decide⟩);unfold askV at this;rw[aJ vec21,<-hB1] at this
  exact this)
 have HTL:=hid (show ∀(a:Nat) (S:Nat->Prop) (W:World),GrIn W S firstG none 0 (some ⟨a,0,none⟩) 1->Tabs W->Calls Tryz.prog 65 #[.agg #[(1:Int),(1:Int),(1:Int),.slice none 0 0,(0:Int),(0:Int),.slice (some ⟨a,0,none⟩) 1 1]] W λe w'=>e= .returned (.tuple #[B2,(0:Int)])∧Below W.heap.size W w' from λa S W h1 h2=>by
  have hfo1:∀o∈firstG.ops,o=firstO:=λo ho=>by simpa[firstG] using ho
  have:=tell_any firstG none 0 (some ⟨a,0,none⟩) 1 S W h1 (λo ho=>by rw[hfo1 o ho];decide) (λ_ o ho=>by rw[hfo1 o ho];decide) h2;unfold tellV at this;rw[aJ first_chk,<-hB2] at this
  exact this)
 have HRD:=hid (show readZ B2.data.toList= .tell firstG by rw[hB2];exact read_tell first_fit first_chk);have HBs:=hid (show B2.size<=1000000 by rw[hB2,first_bytes];simp[ByteArray.size]);clear hB1 hB2;go_enter Tryz.func30,Tryz.ntmps30;go_wp2_with fail;have hV0:VecR (w.alloc (.cells #[(2:Int),(1:Int)] 3)) (some ⟨w.heap.size,0,none⟩) [2,1]:=λk hk=>by
  refine⟨⟨w.heap.size,0,none⟩,rfl,by simp,?_⟩;rw[jm,aD _ _ _ _ _ _ (am w (.cells #[(2:Int),(1:Int)] 3))]
  match k,hk with
  |0,_=>rfl
  |1,_=>rfl
 refine(HAK.out w.heap.size _ hV0).mono ?_;rintro e w0 ⟨rfl,hB0⟩;have HB0:=hid (show Below w.heap.size w w0 from((ag _ _).alloc (aa _) _).trans (hB0.mono (by simp)));clear hB0 hV0;go_wp2_with fail;refine(firstg_any w0).mono ?_;rintro e w1 ⟨a1,rfl,hI1,hB1⟩;have HI1:=hid hI1;have HB1:=bT HB0 hB1;clear hI1 hB1;go_wp2_with fail;refine(HTL.out a1 _ w1 HI1.out (HTb.out.below HB1.out)).mono ?_;rintro e w2 ⟨rfl,hB2⟩;have HB2:=bT HB1 hB2;clear hB2;go_wp2_with fail;refine(read_any B2 w2 HBs.out (HTb.out.below HB2.out)).mono ?_;rintro e w3 hq;obtain⟨hB3,dA,dc,oA,oc,he,hI3,-⟩:=ReadQ.tell HRD.out hq;obtain rfl:e= .returned (.tuple #[false,.slice none 0 0,.agg #[(1:Int),(1:Int),(1:Int),.slice dA 0 dc,(0:Int),(0:Int),.slice oA 1 oc],(0:Int)]):=he;have HI3:=hid hI3;have HB3:=bT HB2 hB3;clear hI3 hB3 hq;go_wp2_with fail;refine(read_any (⟨#[120]⟩:ByteArray) _ (by decide) (HTb.out.below (HB3.out.alloc HB3.out.size _))).mono ?_;rintro e w4 hq;obtain⟨hB4,rfl⟩:=ReadQ.err read_x hq;have HC4:=hid ((hB4.block w3.heap.size (by simp)).trans (am w3 (.cells #[(1:Int),(1:Int),(1:Int),.slice dA 0 dc,(0:Int),(0:Int),.slice oA 1 oc] 45)));have HI4:=hid (HI3.out.agr (Agr.below (((ag w3.heap.size w3).alloc (aa _) (.cells #[(1:Int),(1:Int),(1:Int),.slice dA 0 dc,(0:Int),(0:Int),.slice oA 1 oc] 45)).trans (hB4.mono (by simp)))))
 have HB4:=hid ((HB3.out.alloc HB3.out.size (.cells #[(1:Int),(1:Int),(1:Int),.slice dA 0 dc,(0:Int),(0:Int),.slice oA 1 oc] 45)).trans (hB4.mono (by have:=HB3.out.size;simp;omega)));have hlt4:w3.heap.size<w4.heap.size:=lt_of_block HC4.out;clear hB4 hq;go_upto_region 5 with(fail);generalize hW:w4.alloc (.cells #[(0:Int),(0:Int),(0:Int),.slice none 0 0,(0:Int),(0:Int),.slice none 0 0] 45)=W;have HCW:=hid (show W.heap[w3.heap.size]? =some (.cells #[(1:Int),(1:Int),(1:Int),.slice dA 0 dc,(0:Int),(0:Int),.slice oA 1 oc] 45 (0,0)) by rw[<-hW];exact(ax _ _ _ hlt4).trans HC4.out);have HBW:=hid (show Below w.heap.size w W by rw[<-hW];exact HB4.out.alloc HB4.out.size _);have HIW:=hid (show GrIn W (λk=>w2.heap.size<=k) firstG dA dc oA oc by rw[<-hW];exact HI4.out.agr (Agr.below ((ag _ _).alloc (aa _) _)));clear hW;have g0:=cw0 HCW.out;have g1:=cw1 HCW.out;have g2:=cw2 HCW.out;have g3:=cw3 HCW.out;have g4:=cw4 HCW.out;have g5:=cw5 HCW.out;have g6:=cw6 HCW.out;refine wp_region_any (by kernel_rfl) ?_
 try(change wpAny _ _ _ _ _ _ _ (World.drew _))
 refine wpAny_take (i:=0) (v:= .int .i64 0) rfl (by kernel_rfl) (by kernel_rfl) (by kernel_rfl) (λ_ _ _ h=>h) (Or.inl ⟨by rfl,λw=>by go_simp⟩) ?_;go_simp;refine wpAny_take (i:=1) (v:= .bool true) rfl (by kernel_rfl) (by kernel_rfl) (by kernel_rfl) (λ_ _ _ h=>h) (Or.inl ⟨by rfl,λw=>by go_simp⟩) ?_;go_simp;refine wpAny_take (i:=2) (v:= .bool true) rfl (by kernel_rfl) (by kernel_rfl) (by kernel_rfl) (λ_ _ _ h=>h) (Or.inl ⟨by rfl,λw=>by go_simp⟩) ?_;go_simp;refine wpAny_take (i:=3) (v:= .string B1) rfl (by kernel_rfl) (by kernel_rfl) (by kernel_rfl) (λ_ _ _ h=>h) (Or.inl ⟨by rfl,λw=>by go_simp⟩) ?_;go_simp;refine wpAny_take (i:=4) (v:= .bool true) rfl (by kernel_rfl) (by kernel_rfl) (by kernel_rfl) (λ_ _ _ h=>h) (Or.inl ⟨by rfl,λw=>by go_simp⟩) ?_;go_simp;refine wpAny_take (i:=5) (v:= .bool true) rfl (by kernel_rfl) (by kernel_rfl) (by kernel_rfl) (λ_ _ _ h=>h) (Or.inl ⟨by rfl,λw=>by go_simp⟩) ?_;go_simp;refine wpAny_take (i:=6) (v:= .bool true) rfl (by kernel_rfl) (by kernel_rfl) (by kernel_rfl) (λ_ _ _ h=>h) (Or.inl ⟨by rfl,λw=>by go_simp⟩) ?_;go_simp;refine wpAny_take (i:=7) (v:= .int .i64 0) rfl (by kernel_rfl) (by kernel_rfl) (by kernel_rfl) (λ_ _ _ h=>h) (Or.inl ⟨by rfl,λw=>by go_simp⟩) ?_;go_simp;refine wpAny_take (i:=8) (v:= .bool true) rfl (by kernel_rfl) (by kernel_rfl) (by kernel_rfl) (λ_ _ _ h=>h) (Or.inl ⟨by rfl,λw=>by go_simp⟩) ?_;go_simp
 refine wpAny_take (i:=9) (v:= .bool true) rfl (by kernel_rfl) (by kernel_rfl) (by kernel_rfl) (λ_ _ _ h=>h) (Or.inl ⟨by rfl,λw=>by go_simp⟩) ?_;go_simp;refine wpAny_take (i:=10) (v:= .bool true) rfl (by kernel_rfl) (by kernel_rfl) (by kernel_rfl) (λ_ _ _ h=>h) (Or.inl ⟨by rfl,λw=>by go_simp⟩) ?_;go_simp;refine wpAny_take (i:=11) (v:= .int .i64 0) rfl (by kernel_rfl) (by kernel_rfl) (by kernel_rfl) (λ_ _ _ h=>h) (Or.inl ⟨by rfl,λw=>by go_simp⟩) ?_;go_simp;refine wpAny_take (i:=12) (v:= .bool true) rfl (by kernel_rfl) (by kernel_rfl) (by kernel_rfl) (λ_ _ _ h=>h) (Or.inl ⟨by rfl,λw=>by go_simp⟩) ?_;go_simp;refine wpAny_take (i:=13) (v:= .bool true) rfl (by kernel_rfl) (by kernel_rfl) (by kernel_rfl) (λ_ _ _ h=>h) (Or.inl ⟨by rfl,λw=>by go_simp⟩) ?_;go_simp;refine wpAny_take (i:=14) (v:= .bool true) rfl (by kernel_rfl) (by kernel_rfl) (by kernel_rfl) (λ_ _ _ h=>h) (Or.inl ⟨by rfl,λw=>by go_simp⟩) ?_;go_simp;clear hl1;refine wpAny_ready (rs:=[15,16]) (by kernel_rfl) (by simp) ?_;refine AllReady.cons rfl (λK hK=> ?_) (AllReady.cons rfl (λK hK=> ?_) AllReady.nil)
 ·go_simp;refine hK _ _ ?_;clear hK K;refine wpAny_ready (rs:=[16]) (by kernel_rfl) (by simp) ?_;refine AllReady.cons rfl (λK hK=> ?_) AllReady.nil;go_simp;refine(firstg_any _).mono ?_;rintro e v1 ⟨a2,rfl,hI5,hB5⟩;have HB5:=hid (show Below W.heap.size W v1 from⟨hB5.os,hB5.tape,hB5.output,hB5.size,hB5.block⟩);have HC5:=bK HB5.out HCW;have HI5:=hid hI5;have HI6:=hid (HIW.out.agr (Agr.below HB5.out));clear hI5 hB5;go_simp;refine hK _ _ ?_;clear hK K;refine wpAny_ready (rs:=[17]) (by kernel_rfl) (by simp) ?_;refine AllReady.cons rfl (λK hK=> ?_) AllReady.nil;go_simp;refine(same_first dA oA dc oc a2 _ _ v1 HI6.out HI5.out).mono ?_;rintro e v2 ⟨rfl,hB6⟩;have HB6:=bT HB5 hB6;clear hB6;go_simp;refine hK _ _ ?_;clear hK K;refine wpAny_take (i:=18) (v:= .bool true) rfl (by kernel_rfl) (by kernel_rfl) (by kernel_rfl) (λ_ _ _ h=>h) (Or.inl ⟨by rfl,λw=>by go_simp⟩) ?_;go_simp;refine wpAny_take (i:=19) (v:= .bool true) rfl (by kernel_rfl) (by kernel_rfl) (by kernel_rfl) (λ_ _ _ h=>h) (Or.inl ⟨by rfl,λw=>by go_simp⟩) ?_;go_simp;refine wpAny_take (i:=20) (v:= .int .i64 11) rfl (by kernel_rfl) (by kernel_rfl) (by kernel_rfl) (λ_ _ _ h=>h) (Or.inl ⟨by rfl,λw=>by go_simp⟩) ?_;go_simp;refine wpAny_take (i:=21) (v:= .bool true) rfl (by kernel_rfl) (by kernel_rfl) (by kernel_rfl) (λ_ _ _ h=>h) (Or.inl ⟨by rfl,λw=>by go_simp⟩) ?_;go_simp;refine wpAny_take (i:=22) (v:= .bool true) rfl (by kernel_rfl) (by kernel_rfl) (by kernel_rfl) (λ_ _ _ h=>h) (Or.inl ⟨by rfl,λw=>by go_simp⟩) ?_;go_simp
  refine wpAny_take (i:=23) (v:= .bool true) rfl (by kernel_rfl) (by kernel_rfl) (by kernel_rfl) (λ_ _ _ h=>h) (Or.inl ⟨by rfl,λw=>by go_simp⟩) ?_;go_simp;refine wpAny_done (by kernel_rfl) ?_ _;go_simp;go_wp2;go_ret;exact⟨rfl,HBW.out.trans (HB6.out.mono HBW.out.size)⟩
 ·go_simp;refine(firstg_any _).mono ?_;rintro e v1 ⟨a2,rfl,hI5,hB5⟩;have HB5:=hid (show Below W.heap.size W v1 from⟨hB5.os,hB5.tape,hB5.output,hB5.size,hB5.block⟩);have HC5:=bK HB5.out HCW;have HI5:=hid hI5;have HI6:=hid (HIW.out.agr (Agr.below HB5.out));clear hI5 hB5;go_simp;refine hK _ _ ?_;clear hK K;have p0:=cw0 HC5.out;have p1:=cw1 HC5.out;have p2:=cw2 HC5.out;have p3:=cw3 HC5.out;have p4:=cw4 HC5.out;have p5:=cw5 HC5.out;have p6:=cw6 HC5.out;refine wpAny_ready (rs:=[15]) (by kernel_rfl) (by simp) ?_;refine AllReady.cons rfl (λK hK=> ?_) AllReady.nil;go_simp;refine hK _ _ ?_;clear hK K;refine wpAny_ready (rs:=[17]) (by kernel_rfl) (by simp) ?_;refine AllReady.cons rfl (λK hK=> ?_) AllReady.nil;go_simp;refine(same_first dA oA dc oc a2 _ _ v1 HI6.out HI5.out).mono ?_;rintro e v2 ⟨rfl,hB6⟩;have HB6:=bT HB5 hB6;clear hB6;go_simp;refine hK _ _ ?_;clear hK K;refine wpAny_take (i:=18) (v:= .bool true) rfl (by kernel_rfl) (by kernel_rfl) (by kernel_rfl) (λ_ _ _ h=>h) (Or.inl ⟨by rfl,λw=>by go_simp⟩) ?_;go_simp;refine wpAny_take (i:=19) (v:= .bool true) rfl (by kernel_rfl) (by kernel_rfl) (by kernel_rfl) (λ_ _ _ h=>h) (Or.inl ⟨by rfl,λw=>by go_simp⟩) ?_;go_simp;refine wpAny_take (i:=20) (v:= .int .i64 11) rfl (by kernel_rfl) (by kernel_rfl) (by kernel_rfl) (λ_ _ _ h=>h) (Or.inl ⟨by rfl,λw=>by go_simp⟩) ?_;go_simp;refine wpAny_take (i:=21) (v:= .bool true) rfl (by kernel_rfl) (by kernel_rfl) (by kernel_rfl) (λ_ _ _ h=>h) (Or.inl ⟨by rfl,λw=>by go_simp⟩) ?_;go_simp
  refine wpAny_take (i:=22) (v:= .bool true) rfl (by kernel_rfl) (by kernel_rfl) (by kernel_rfl) (λ_ _ _ h=>h) (Or.inl ⟨by rfl,λw=>by go_simp⟩) ?_;go_simp;refine wpAny_take (i:=23) (v:= .bool true) rfl (by kernel_rfl) (by kernel_rfl) (by kernel_rfl) (λ_ _ _ h=>h) (Or.inl ⟨by rfl,λw=>by go_simp⟩) ?_;go_simp;refine wpAny_done (by kernel_rfl) ?_ _;go_simp;go_wp2;go_ret;exact⟨rfl,HBW.out.trans (HB6.out.mono HBW.out.size)⟩
end
section
section
open Go.RowKit Go.Lib Go.Sort
structure GX where
 n:Int
 dA:Option Addr
 dn:Nat
 dc:Nat
 ut:Int
 ur:Int
 oA:Option Addr
 on:Nat
 oc:Nat
def gxV (g:Gst) (x:GX):Value:= .agg #[.int .i64 g.t,.int .i64 g.r,.int .i64 x.n,.slice x.dA x.dn x.dc,.int .i64 x.ut,.int .i64 x.ur,.slice x.oA x.on x.oc]
theorem ez (t r i:Int) (w:World):
  Calls Tryz.prog 191 #[.agg #[t,r,i]] w λe w'=>e= .returned (.bool (Gid.none ⟨⟨t,r⟩,i⟩))∧Below w.heap.size w w':=by
 have he:=eJ t r i 0 0 0 (Gid.none ⟨⟨t,r⟩,i⟩) rfl;generalize Gid.none ⟨⟨t,r⟩,i⟩=v at *;go_enter Tryz.func191,Tryz.ntmps191;go_wp2;go_ret;exact⟨rfl,(ag _ _).alloc (aa _) _⟩
theorem gy (g:Gst) (y:GX) (x:Gid) (k:Nat) (w:World):
  Calls Tryz.prog 161 #[gxV g y,idV x,.int .i64 k] w λe w'=>e= .returned (.bool (cL g x k))∧Below w.heap.size w w':=by
 obtain⟨⟨t,r⟩,i⟩:=x;obtain⟨gt,gr⟩:=g;obtain⟨n,dA,dn,dc,ut,ur,oA,on,oc⟩:=y;show Calls _ _ #[.agg #[gt,gr,n,.slice dA dn dc,ut,ur,.slice oA on oc],.agg #[t,r,i],_] _ _;obtain⟨ans,ha⟩:∃a,a=cL ⟨gt,gr⟩ ⟨⟨t,r⟩,i⟩ k:=⟨_,rfl⟩;rw[<-ha];have HV:=hid ha;clear ha;cases hR:Gid.right ⟨⟨t,r⟩,i⟩ with
 |false=>
  obtain rfl:ans=false:=by rw[HV.out];simp[cL,hR]
  have HR:=hid hR;clear hR;go_enter Tryz.func161,Tryz.ntmps161;go_wp2_with fail;refine(fY _ _ _ _).mono ?_;rw[HR.out];rintro e w1 ⟨rfl,hB⟩;go_wp2;go_ret;exact⟨rfl,(((ag _ _).alloc (aa _) _).alloc (by simp) _).trans (hB.mono (by simp;omega))⟩
 |true=>
 have HR:=hid hR;clear hR;obtain⟨l,hl⟩:∃l,l=Gst.lt ⟨t,r⟩ ⟨gt,gr⟩:=⟨_,rfl⟩;have HL:=hid hl;clear hl;go_enter Tryz.func161,Tryz.ntmps161;go_wp2_with fail;refine(fY _ _ _ _).mono ?_;rw[HR.out];rintro e w1 ⟨rfl,hB⟩;have g0:w1.cell? ⟨w.heap.size,0,none⟩=some (.int .i64 gt):=by rw[hB.cell (by simp;omega)];go_simp
 have g1:w1.cell? ⟨w.heap.size,1,none⟩=some (.int .i64 gr):=by rw[hB.cell (by simp;omega)];go_simp
 have c0:w1.cell? ⟨w.heap.size+1,0,none⟩=some (.int .i64 t):=by rw[hB.cell (by simp)];go_simp
 have c1:w1.cell? ⟨w.heap.size+1,1,none⟩=some (.int .i64 r):=by rw[hB.cell (by simp)];go_simp
 have c2:w1.cell? ⟨w.heap.size+1,2,none⟩=some (.int .i64 i):=by rw[hB.cell (by simp)];go_simp
 have hBB:=(((ag w.heap.size w).alloc (aa _) (.cells #[gt,gr,n,.slice dA dn dc,ut,ur,.slice oA on oc] 45)).alloc (by simp) (.cells #[t,r,i] 108)).trans (hB.mono (by simp;omega));clear hB;go_wp2_with fail;refine(eN _ _ _ _ _).mono ?_;rw[<-HL.out];rintro e w2 ⟨rfl,hB2⟩;have hs:=hBB.size;have l0:=eK g0;have l1:=eK c0;have g0':w2.cell? ⟨w.heap.size,0,none⟩=some (.int .i64 gt):=(hB2.cell (p:=⟨w.heap.size,0,none⟩) l0).trans g0;have g1':w2.cell? ⟨w.heap.size,1,none⟩=some (.int .i64 gr):=(hB2.cell (p:=⟨w.heap.size,1,none⟩) l0).trans g1;have c0':w2.cell? ⟨w.heap.size+1,0,none⟩=some (.int .i64 t):=(hB2.cell (p:=⟨w.heap.size+1,0,none⟩) l1).trans c0;have c1':w2.cell? ⟨w.heap.size+1,1,none⟩=some (.int .i64 r):=(hB2.cell (p:=⟨w.heap.size+1,1,none⟩) l1).trans c1;have c2':w2.cell? ⟨w.heap.size+1,2,none⟩=some (.int .i64 i):=(hB2.cell (p:=⟨w.heap.size+1,2,none⟩) l1).trans c2;have hB3:=hBB.trans (hB2.mono hs);clear hBB hB2 g0 g1 c0 c1 c2 l0 l1 hs;cases l with
 |true=>
  obtain rfl:ans=true:=by rw[HV.out];simp[cL,HR.out,<-HL.out]
  go_wp2;go_ret;exact⟨rfl,hB3⟩
 | false=>
  cases hE:Gst.eqb ⟨t,r⟩ ⟨gt,gr⟩ with
  |false=>
   have he:=eq_st t r gt gr false hE;obtain rfl:ans=false:=by rw[HV.out];simp[cL,HR.out,<-HL.out,hE]
   clear hE;go_wp2;go_ret;exact⟨rfl,hB3⟩
  |true=>
   have he:=eq_st t r gt gr true hE;obtain rfl:ans=decide (i<k):=by rw[HV.out];simp[cL,HR.out,<-HL.out,hE]
   clear hE;go_wp2;go_ret;exact⟨rfl,hB3⟩
theorem jP (g:Gst) (y:GX) (x:Gid) (k:Nat) (w:World):
  Calls Tryz.prog 158 #[gxV g y,idV x,.int .i64 k] w λe w'=>e= .returned (.bool (du g x k))∧Below w.heap.size w w':=by
 obtain⟨⟨t,r⟩,i⟩:=x;obtain⟨gt,gr⟩:=g;obtain⟨n,dA,dn,dc,ut,ur,oA,on,oc⟩:=y;show Calls _ _ #[.agg #[gt,gr,n,.slice dA dn dc,ut,ur,.slice oA on oc],.agg #[t,r,i],_] _ _;obtain⟨ans,ha⟩:∃a,a=du ⟨gt,gr⟩ ⟨⟨t,r⟩,i⟩ k:=⟨_,rfl⟩;rw[<-ha];have HV:=hid ha;clear ha;have hAh:=λw=>gy ⟨gt,gr⟩ ⟨n,dA,dn,dc,ut,ur,oA,on,oc⟩ ⟨⟨t,r⟩,i⟩ k w;have HAh:=hid hAh;clear hAh;obtain⟨b,hb⟩:∃b,b=Gid.none ⟨⟨t,r⟩,i⟩:=⟨_,rfl⟩;have HB:=hid hb;clear hb;go_enter Tryz.func158,Tryz.ntmps158;go_wp2_with fail;refine(ez _ _ _ _).mono ?_;rw[<-HB.out];rintro e w1 ⟨rfl,hB⟩;have hBB:=(((ag w.heap.size w).alloc (aa _) (.cells #[gt,gr,n,.slice dA dn dc,ut,ur,.slice oA on oc] 45)).alloc (by simp) (.cells #[t,r,i] 108)).trans (hB.mono (by simp;omega));cases b with
 |true=>
  obtain rfl:ans=true:=by rw[HV.out];simp[du,<-HB.out]
  go_wp2;go_ret;exact⟨rfl,hBB⟩
 |false=>
  obtain rfl:ans=cL ⟨gt,gr⟩ ⟨⟨t,r⟩,i⟩ k:=by rw[HV.out];simp[du,<-HB.out]
  have g0:w1.cell? ⟨w.heap.size,0,none⟩=some (.int .i64 gt):=by rw[hB.cell (by simp;omega)];go_simp
  have g1:w1.cell? ⟨w.heap.size,1,none⟩=some (.int .i64 gr):=by rw[hB.cell (by simp;omega)];go_simp
  have g2:w1.cell? ⟨w.heap.size,2,none⟩=some (.int .i64 n):=by rw[hB.cell (by simp;omega)];go_simp
  have g3:w1.cell? ⟨w.heap.size,3,none⟩=some (.slice dA dn dc):=by rw[hB.cell (by simp;omega)];go_simp
  have g4:w1.cell? ⟨w.heap.size,4,none⟩=some (.int .i64 ut):=by rw[hB.cell (by simp;omega)];go_simp
  have g5:w1.cell? ⟨w.heap.size,5,none⟩=some (.int .i64 ur):=by rw[hB.cell (by simp;omega)];go_simp
  have g6:w1.cell? ⟨w.heap.size,6,none⟩=some (.slice oA on oc):=by rw[hB.cell (by simp;omega)];go_simp
  have c0:w1.cell? ⟨w.heap.size+1,0,none⟩=some (.int .i64 t):=by rw[hB.cell (by simp)];go_simp
  have c1:w1.cell? ⟨w.heap.size+1,1,none⟩=some (.int .i64 r):=by rw[hB.cell (by simp)];go_simp
  have c2:w1.cell? ⟨w.heap.size+1,2,none⟩=some (.int .i64 i):=by rw[hB.cell (by simp)];go_simp
  clear hB;go_wp2_with fail;refine(HAh.out _).mono ?_;rintro e w2 ⟨rfl,hB2⟩;go_wp2;go_ret;exact⟨rfl,hBB.trans (hB2.mono hBB.size)⟩
end
section
open Go.RowKit Go.Lib Go.Sort
theorem refdots_any (g:Gst) (y:GX) (A:Option Addr) (c:Nat) (l:List Gst) (S:Nat->Prop) (w:World) (hl:l.length<=9223372036854775807) (hA:StsS w S A l):
  Calls Tryz.prog 162 #[gxV g y,.slice A l.length c] w λe w'=>e= .returned (.bool (il g l))∧Below w.heap.size w w':=by
 obtain⟨gt,gr⟩:=g;obtain⟨n',dA,dn,dc,ut,ur,oA,on,oc⟩:=y;show Calls _ _ #[.agg #[gt,gr,n',.slice dA dn dc,ut,ur,.slice oA on oc],_] _ _;have HA:=hid hA;obtain⟨n,hn⟩:∃n,n=l.length:=⟨_,rfl⟩;obtain⟨ans,hans⟩:∃r,r=il ⟨gt,gr⟩ l:=⟨_,rfl⟩;rw[<-hn] at hl ⊢;rw[<-hans];have HN:=hid hn;have HV:=hid hans;clear hA hn hans;obtain⟨W0,hW0⟩:∃W0,W0=w.alloc (.cells #[gt,gr,n',.slice dA dn dc,ut,ur,.slice oA on oc] 45):=⟨_,rfl⟩;have hB0:Below w.heap.size w W0:=by subst hW0;exact(ag _ _).alloc (aa _) _
 have hG:W0.heap[w.heap.size]? =some (.cells #[gt,gr,n',.slice dA dn dc,ut,ur,.slice oA on oc] 45 (0,0)):=by subst hW0;exact am _ _
 have g0:=cw0 hG;have g1:=cw1 hG;have HW:=hid hW0;have HG0:=hid g0;have HG1:=hid g1;have hsz:=eK g0;clear hW0 hG g0 g1;go_enter Tryz.func162,Tryz.ntmps162;go_wp2;rw[<-HW.out];go_loopw [5] (λi wr=>∃k:Nat,k<=n∧i= .int .i64 k∧Hid (∀i,i<k->dotB ⟨gt,gr⟩ l i=true)∧Below W0.heap.size W0 wr) (λi _=>n-(RowKit.intOf i).toNat)
 case atStart=>exact⟨0,by omega,rfl,λi hi=>absurd hi (by omega),ag _ _⟩
 case round=>
  obtain⟨j,hj,rfl,HK,hBr⟩:=hrel;have hBw:Below w.heap.size w wr:=hB0.trans (hBr.mono hB0.size);by_cases hlt:j<n
  ·obtain⟨ab,ao,rfl,-,hab,c0,c1⟩:=StsS.at_ (RowG.agr HA.out (Agr.below hBw)) (k:=j) (by have:=HN.out;omega);obtain⟨x,hx⟩:∃x,x=l.getD j .zero:=⟨_,rfl⟩;rw[<-hx] at c0 c1;have HX:=hid hx;clear hx;obtain⟨xt,xr⟩:=x;simp only at c0 c1;have kt:=aj ((hBr.cell (p:=⟨w.heap.size,0,none⟩) hsz).trans HG0.out);have kr:=aj ((hBr.cell (p:=⟨w.heap.size,1,none⟩) hsz).trans HG1.out);have x0:=aj c0;have x1:=aj c1;have cR:=λd os=>ay (gw xt xr (grow (redrawn wr d) os));have cC:=λd os=>ay (eN gt gr xt xr (grow (redrawn wr d) os));have bad:dotB ⟨gt,gr⟩ l j=false->ans=false:=λh=>by
    rw[HV.out];unfold il;rw[fl (by rw[<-HN.out];exact hlt) h];rfl
   have HBad:=hid bad;clear bad c0 c1;cases hR:Gst.right ⟨xt,xr⟩ with
   |false=>
    rw[hR] at cR;obtain rfl:ans=false:=HBad.out (by unfold dotB;rw[<-HX.out,hR];rfl);clear hR cC;go_wp2;refine rqb ?_
    repeat(any_goals(first|go_big_quiet_step (with_reducible exact cR _ _)|quiet_step (with_reducible exact cR _ _)))
    refine qz λwq hBq=> ?_;go_wp2;go_ret;exact⟨rfl,hBw.trans (hBq.mono hBw.size)⟩
   | true=>
    rw[hR] at cR;have HR:=hid hR;clear hR;cases hG:Gst.lt ⟨gt,gr⟩ ⟨xt,xr⟩ with
    |true=>
     rw[hG] at cC;obtain rfl:ans=false:=HBad.out (by unfold dotB;rw[<-HX.out,hG,HR.out];rfl);clear hG;go_wp2;refine rqb ?_
     repeat(any_goals(first|go_big_quiet_step (with_reducible first|exact cR _ _|exact cC _ _)|quiet_step (with_reducible first|exact cR _ _|exact cC _ _)))
     refine qz λwq hBq=> ?_;go_wp2;go_ret;exact⟨rfl,hBw.trans (hBq.mono hBw.size)⟩
    | false=>
     rw[hG] at cC;have HG:=hid hG;clear hG;by_cases hj0:j=0
     ·have b1:decide (0<j)=false:=by rw[aU];omega
      have HK2:Hid (∀i,i<j+1->dotB ⟨gt,gr⟩ l i=true):=λi hi=>by
       obtain rfl:i=j:=by omega
       unfold dotB;rw[<-HX.out,HG.out,HR.out];simp[hj0]
      clear hj0;go_wp2;refine rqb ?_
      repeat(any_goals(first|go_big_quiet_step (with_reducible first|exact cR _ _|exact cC _ _)|quiet_step (with_reducible first|exact cR _ _|exact cC _ _)))
      refine qz λwq hBq=> ?_;go_wp2;go_roundw
      case rel=>exact⟨j+1,by omega,by go_num,HK2,hBr.trans (hBq.mono hBr.size)⟩
      case measure=>simp[RowKit.intOf];omega
     ·obtain⟨m,hm⟩:∃m,m+1=j:=⟨j-1,by omega⟩;obtain⟨ab2,ao2,e2,-,-,d0,d1⟩:=StsS.at_ (RowG.agr HA.out (Agr.below hBw)) (k:=m) (by have:=HN.out;omega);injection e2 with e2;injection e2 with e3 e4;subst e3 e4;obtain⟨y,hy⟩:∃y,y=l.getD m .zero:=⟨_,rfl⟩;rw[<-hy] at d0 d1;have HY:=hid hy;clear hy;obtain⟨yt,yr⟩:=y;simp only at d0 d1;have y0:=aj d0;have y1:=aj d1;have cD:=λd os=>ay (eN yt yr xt xr (grow (redrawn wr d) os));have b1:decide (0<j)=true:=by rw[ak];omega
      have b2:(j:Int)-1=(m:Int):=by omega
      have b3:(0:Int)<=(m:Int):=by omega
      have b4:(m:Int)<(n:Int):=by omega
      have b5:IntKind.i64.wrap ((j:Int)-1)=(m:Int):=by rw[b2];exact ds _ (by omega)
      have b6:m=j-1:=by omega
      have HM:=hid b6;clear b6 hm hj0 d0 d1;cases hL:Gst.lt ⟨yt,yr⟩ ⟨xt,xr⟩ with
      | false=>
       rw[hL] at cD
       obtain rfl:ans=false:=HBad.out (by
        unfold dotB;rw[<-HX.out,HG.out,HR.out,<-HM.out,<-HY.out,hL];have:¬j=0:=λe=>by rw[e] at b1;simp at b1
        simp[this])
       clear hL;go_wp2;refine rqb ?_
       repeat(any_goals(first|go_big_quiet_step (with_reducible first|exact cR _ _|exact cC _ _|exact cD _ _)|quiet_step (with_reducible first|exact cR _ _|exact cC _ _|exact cD _ _)))
       refine qz λwq hBq=> ?_;go_wp2;go_ret;exact⟨rfl,hBw.trans (hBq.mono hBw.size)⟩
      | true=>
       rw[hL] at cD;have HK2:Hid (∀i,i<j+1->dotB ⟨gt,gr⟩ l i=true):=λi hi=>by
        rcases cj i j with h|h
        ·exact HK.out i h
        ·obtain rfl:i=j:=by omega
         unfold dotB;rw[<-HX.out,HG.out,HR.out,<-HM.out,<-HY.out,hL];simp
       clear hL;go_wp2;refine rqb ?_
       repeat(any_goals(first|go_big_quiet_step (with_reducible first|exact cR _ _|exact cC _ _|exact cD _ _)|quiet_step (with_reducible first|exact cR _ _|exact cC _ _|exact cD _ _)))
       refine qz λwq hBq=> ?_;clear b5;go_wp2;go_roundw
       case rel=>exact⟨j+1,by omega,by go_num,HK2,hBr.trans (hBq.mono hBr.size)⟩
       case measure=>simp[RowKit.intOf];omega
  ·obtain rfl:j=n:=by omega
   have hv:ans=decide (j<=200):=by
    rw[HV.out];unfold il;rw[ed (λi hi=>HK.out i (by have:=HN.out;omega)),<-HN.out];rfl
   by_cases h2:j<=200
   ·obtain rfl:ans=true:=by rw[hv];exact aN h2
    have t1:(j:Int)<=200:=by omega
    clear hv;go_wp2;go_ret;exact⟨rfl,hBw⟩
   ·obtain rfl:ans=false:=by rw[hv];exact aE h2
    have t1:¬(j:Int)<=200:=by omega
    clear hv;go_wp2;go_ret;exact⟨rfl,hBw⟩
theorem refelems_any (g:Gst) (y:GX) (k:Nat) (A:Option Addr) (c:Nat) (l:List Gid) (S:Nat->Prop) (w:World) (hl:l.length<=9223372036854775807) (hA:IdsS w S A l):
  Calls Tryz.prog 164 #[gxV g y,.slice A l.length c,.int .i64 k] w λe w'=>e= .returned (.bool (fQ g l k))∧Below w.heap.size w w':=by
 obtain⟨gt,gr⟩:=g;obtain⟨n',dA,dn,dc,ut,ur,oA,on,oc⟩:=y;have cA0:=λx w=>gy ⟨gt,gr⟩ ⟨n',dA,dn,dc,ut,ur,oA,on,oc⟩ x k w;have HCA:=hid cA0;clear cA0;show Calls _ _ #[.agg #[gt,gr,n',.slice dA dn dc,ut,ur,.slice oA on oc],_,_] _ _;have HA:=hid hA;obtain⟨n,hn⟩:∃n,n=l.length:=⟨_,rfl⟩;obtain⟨ans,hans⟩:∃r,r=fQ ⟨gt,gr⟩ l k:=⟨_,rfl⟩;rw[<-hn] at hl ⊢;rw[<-hans];have HN:=hid hn;have HV:=hid hans;clear hA hn hans;obtain⟨W0,hW0⟩:∃W0,W0=w.alloc (.cells #[gt,gr,n',.slice dA dn dc,ut,ur,.slice oA on oc] 45):=⟨_,rfl⟩;have hB0:Below w.heap.size w W0:=by subst hW0;exact(ag _ _).alloc (aa _) _
 have hG:W0.heap[w.heap.size]? =some (.cells #[gt,gr,n',.slice dA dn dc,ut,ur,.slice oA on oc] 45 (0,0)):=by subst hW0;exact am _ _
 have HW:=hid hW0;have HG:=hid hG;have hsz:w.heap.size<W0.heap.size:=by subst hW0;simp
 clear hW0 hG;go_enter Tryz.func164,Tryz.ntmps164;go_wp2;rw[<-HW.out];go_loopw [7] (λi wr=>∃j:Nat,j<=n∧i= .int .i64 j∧Hid (∀i,i<j->ib ⟨gt,gr⟩ l k i=true)∧Below W0.heap.size W0 wr) (λi _=>n-(RowKit.intOf i).toNat)
 case atStart=>exact⟨0,by omega,rfl,λi hi=>absurd hi (by omega),ag _ _⟩
 case round=>
  obtain⟨j,hj,rfl,HK,hBr⟩:=hrel;have hBw:Below w.heap.size w wr:=hB0.trans (hBr.mono hB0.size);by_cases hlt:j<n
  ·obtain⟨ab,ao,rfl,-,hab,c0,c1,c2⟩:=IdsS.at_ (RowG.agr HA.out (Agr.below hBw)) (k:=j) (by have:=HN.out;omega);obtain⟨x,hx⟩:∃x,x=l.getD j .zero:=⟨_,rfl⟩;rw[<-hx] at c0 c1 c2;have HX:=hid hx;clear hx;obtain⟨⟨xt,xr⟩,xi⟩:=x;simp only at c0 c1 c2;have hGr:=(hBr.block _ hsz).trans HG.out;have k0:=rg0 hGr;have k1:=rg1 hGr;have k2:=rg2 hGr;have k3:=rg3 hGr;have k4:=rg4 hGr;have k5:=rg5 hGr;have k6:=rg6 hGr;have x0:=aj c0;have x1:=aj c1;have x2:=aj c2;have cA:∀d os,Calls Tryz.prog 161 #[.agg #[gt,gr,n',.slice dA dn dc,ut,ur,.slice oA on oc],.agg #[xt,xr,xi],.int .i64 k] (grow (redrawn wr d) os) λe w''=>e= .returned (.bool (cL ⟨gt,gr⟩ ⟨⟨xt,xr⟩,xi⟩ k))∧∃p:Regrown,w''=grow (redrawn wr p.d) p.os:=λd os=>
    ay (HCA.out ⟨⟨xt,xr⟩,xi⟩ _)
   have bad:ib ⟨gt,gr⟩ l k j=false->ans=false:=λh=>by
    rw[HV.out];unfold fQ;rw[fl (by rw[<-HN.out];exact hlt) h];rfl
   have HBad:=hid bad;clear bad hGr c0 c1 c2;cases hR:cL ⟨gt,gr⟩ ⟨⟨xt,xr⟩,xi⟩ k with
   |false=>
    rw[hR] at cA;obtain rfl:ans=false:=HBad.out (by unfold ib;rw[<-HX.out,hR];rfl);clear hR;go_wp2;refine rqb ?_
    repeat(any_goals(first|go_big_quiet_step (with_reducible exact cA _ _)|quiet_step (with_reducible exact cA _ _)))
    refine qz λwq hBq=> ?_;go_wp2;go_ret;exact⟨rfl,hBw.trans (hBq.mono hBw.size)⟩
   | true=>
    rw[hR] at cA;have HR:=hid hR;clear hR;by_cases hj0:j=0
    ·have b1:decide (0<j)=false:=by rw[aU];omega
     have HK2:Hid (∀i,i<j+1->ib ⟨gt,gr⟩ l k i=true):=λi hi=>by
      obtain rfl:i=j:=by omega
      unfold ib;rw[<-HX.out,HR.out];simp[hj0]
     clear hj0;go_wp2;refine rqb ?_
     repeat(any_goals(first|go_big_quiet_step (with_reducible exact cA _ _)|quiet_step (with_reducible exact cA _ _)))
     refine qz λwq hBq=> ?_;go_wp2;go_roundw
     case rel=>exact⟨j+1,by omega,by go_num,HK2,hBr.trans (hBq.mono hBr.size)⟩
     case measure=>simp[RowKit.intOf];omega
    ·obtain⟨m,hm⟩:∃m,m+1=j:=⟨j-1,by omega⟩;obtain⟨ab2,ao2,e2,-,-,d0,d1,d2⟩:=IdsS.at_ (RowG.agr HA.out (Agr.below hBw)) (k:=m) (by have:=HN.out;omega);injection e2 with e2;injection e2 with e3 e4;subst e3 e4;obtain⟨y,hy⟩:∃y,y=l.getD m .zero:=⟨_,rfl⟩;rw[<-hy] at d0 d1 d2;have HY:=hid hy;clear hy;obtain⟨⟨yt,yr⟩,yi⟩:=y;simp only at d0 d1 d2;have y0:=aj d0;have y1:=aj d1;have y2:=aj d2;have cD:=λd os=>ay (gx yt yr yi xt xr xi (grow (redrawn wr d) os));have hd:=jW ⟨⟨yt,yr⟩,yi⟩ ⟨⟨xt,xr⟩,xi⟩;have b1:decide (0<j)=true:=by rw[ak];omega
     have b2:(j:Int)-1=(m:Int):=by omega
     have b3:(0:Int)<=(m:Int):=by omega
     have b4:(m:Int)<(n:Int):=by omega
     have b5:IntKind.i64.wrap ((j:Int)-1)=(m:Int):=by rw[b2];exact ds _ (by omega)
     have b6:m=j-1:=by omega
     have HM:=hid b6;clear b6 hm hj0 d0 d1 d2;cases hL:Gid.lt ⟨⟨yt,yr⟩,yi⟩ ⟨⟨xt,xr⟩,xi⟩ with
     | false=>
      rw[hL] at hd
      obtain rfl:ans=false:=HBad.out (by
       unfold ib;rw[<-HX.out,HR.out,<-HM.out,<-HY.out,hL];have:¬j=0:=λe=>by rw[e] at b1;simp at b1
       simp[this])
      clear hL;go_wp2;refine rqb ?_
      repeat(any_goals(first|go_big_quiet_step (with_reducible first|exact cA _ _|exact cD _ _)|quiet_step (with_reducible first|exact cA _ _|exact cD _ _)))
      refine qz λwq hBq=> ?_;go_wp2;go_ret;exact⟨rfl,hBw.trans (hBq.mono hBw.size)⟩
     | true=>
      rw[hL] at hd;have HK2:Hid (∀i,i<j+1->ib ⟨gt,gr⟩ l k i=true):=λi hi=>by
       rcases cj i j with h|h
       ·exact HK.out i h
       ·obtain rfl:i=j:=by omega
        unfold ib;rw[<-HX.out,HR.out,<-HM.out,<-HY.out,hL];simp
      clear hL;go_wp2;refine rqb ?_
      repeat(any_goals(first|go_big_quiet_step (with_reducible first|exact cA _ _|exact cD _ _)|quiet_step (with_reducible first|exact cA _ _|exact cD _ _)))
      refine qz λwq hBq=> ?_;clear b5;go_wp2;go_roundw
      case rel=>exact⟨j+1,by omega,by go_num,HK2,hBr.trans (hBq.mono hBr.size)⟩
      case measure=>simp[RowKit.intOf];omega
  ·obtain rfl:j=n:=by omega
   have hv:ans=(decide (1<=j) && decide (j<=2000)):=by
    rw[HV.out];unfold fQ;rw[ed (λi hi=>HK.out i (by have:=HN.out;omega)),<-HN.out];rfl
   by_cases h1:1<=j
   ·have t0:(1:Int)<=(j:Int):=by omega
    by_cases h2:j<=2000
    ·obtain rfl:ans=true:=by rw[hv];simp[h1,h2]
     have t1:(j:Int)<=2000:=by omega
     clear hv;go_wp2;go_ret;exact⟨rfl,hBw⟩
    ·obtain rfl:ans=false:=by rw[hv];simp;omega
     have t1:¬(j:Int)<=2000:=by omega
     clear hv;go_wp2;go_ret;exact⟨rfl,hBw⟩
   ·obtain rfl:ans=false:=by rw[hv];simp;omega
    have t1:¬(1:Int)<=(j:Int):=by omega
    clear hv;go_wp2;go_ret;exact⟨rfl,hBw⟩
end
end
end Go.Proofs.YtkhmicndehlneaaGreatDoor
