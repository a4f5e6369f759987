/- Part 30 of the walks and plain laws that this claim uses, joined. Conditions: as each theorem states. -/
import Derived.Test.YtkhmicndehlneaaGreatDoorYrC
namespace Go.Proofs.YtkhmicndehlneaaGreatDoor
set_option maxRecDepth 100000
set_option maxHeartbeats 16000000
set_option linter.unusedVariables false
section
open Go.RowKit Go.Lib Go.Sort
attribute [local go_sem ↓] Go.wp_at_zero Go.wp_at_succ
theorem natsB_Z (v:List Int) (h0:∀x∈v,0<=x):∀k,k<=v.length->natsB (λi=>v.getD i 0) k=(v.take k).flatMap natZ
 |0,_=>by simp[natsB]
 |k+1,hk=>by
  have hkl:k<v.length:=by omega
  have e:v.getD k 0=v[k]:=by rw[ae,aw hkl];rfl
  rw[natsB_succ,natsB_Z v h0 k (by omega),cW hkl,aK,bJ,gH (h0 _ (ch hkl)),e]
theorem natsS_Z (v:List Int) (a:∀x∈v,0<=x):(natsS (λi=>v.getD i 0) v.length).data.toList=kj v:=by
 unfold natsS kj;have b:natZ (v.length:Int)=uvarint v.length:=by rw[gH (by omega)];rfl
 rw[b];show uvarint v.length++natsB _ _=_;rw[natsB_Z v a v.length (aa _),aO]
def encV (g:Grp):Value:=if chkB g=true then .tuple #[.string ⟨(grpZ g).toArray⟩,(0:Int)] else .tuple #[.string ⟨#[]⟩,(80:Int)]
theorem fit_of {w:World} {S:Nat->Prop} {g:Grp} {b c:Option Addr} {d f:Nat} (a:GrIn w S g b d c f):fitG g:=by
 obtain⟨X,r,h⟩:=a.ops;refine⟨by have:=a.dle;have:=a.dmax;unfold maxLen at this;omega,λx i=>(a.din x i).2,λo j=> ?_⟩;obtain⟨k,l,e⟩:=jS (z:=opO 0 .zero) j;have:=h k l;rw[e] at this;have s:=this.dle;have t:=this.ele;have m:=this.dmax;have n:=this.emax;have p:=this.name;have q:=this.text;unfold maxLen at m n p q;exact⟨by unfold okB;omega,by unfold okB;omega,by omega,by omega⟩
theorem encode_any (g:Grp) (D:Option Addr) (E:Nat) (F:Option Addr) (G:Nat) (S:Nat->Prop) (w:World) (hI:GrIn w S g D E F G) (aB:∀o∈g.ops,o.text.size<9223372036854775807) (aC:g.ops.length<=200->∀o∈g.ops,o.text.size<=1000000) (aD:Tabs w):
  Calls Tryz.prog 76 #[.agg (grA g D E F G)] w λe w'=>e= .returned (encV g)∧Below w.heap.size w w':=by
 obtain⟨a,ha⟩:∃a,a=chkB g:=⟨_,rfl⟩;have aE:∀W,Below w.heap.size w W->Calls Tryz.prog 48 #[.agg (grA g D E F G)] W λe w'=>e= .returned (.int .i64 (if a=true then 0 else 80))∧Below W.heap.size W w':=λW hB=>by
  rw[ha];exact check_any g D E F G S W (hI.agr (Agr.below hB)) aB (aD.below hB)
 have L:=hid aE;have HA:=hid ha;have HI:=hid hI;have aF:=hid aC;obtain⟨ev,ab⟩:∃ev,ev=encV g:=⟨_,rfl⟩;rw[<-ab];have aG:=hid ab;clear aE ha hI aC aB aD ab;obtain⟨⟨t,r⟩,n,v,⟨q,s⟩,ops⟩:=g;show Calls _ _ #[.agg #[t,r,n,.slice D v.length E,q,s,.slice F ops.length G]] _ _;have N:=hid (show Below w.heap.size w (w.alloc (.cells #[t,r,n,.slice D v.length E,q,s,.slice F ops.length G] 45)) from(ag _ _).alloc (aa _) _);cases a with
 |false=>
  have HC:Hid (∀W,Below w.heap.size w W->Calls Tryz.prog 48 #[.agg #[t,r,n,.slice D v.length E,q,s,.slice F ops.length G]] W λe w'=>e= .returned (.int .i64 80)∧Below W.heap.size W w'):=L.o;obtain rfl:ev= .tuple #[.string ⟨#[]⟩,(80:Int)]:=by rw[aG.o];unfold encV;rw[<-HA.o];rfl
  clear L;go_enter Tryz.func76,Tryz.ntmps76;go_wp2_with (go_at_call 48;refine(HC.o _ N.o).mono ?_;rintro e b ⟨rfl,B⟩);go_ret2;exact⟨rfl,N.o.trans (B.mono (by simp))⟩
 | true=>
  have HC:Hid (∀W,Below w.heap.size w W->Calls Tryz.prog 48 #[.agg #[t,r,n,.slice D v.length E,q,s,.slice F ops.length G]] W λe w'=>e= .returned (.int .i64 0)∧Below W.heap.size W w'):=L.o;obtain rfl:ev= .tuple #[.string ⟨(grpZ ⟨⟨t,r⟩,n,v,⟨q,s⟩,ops⟩).toArray⟩,(0:Int)]:=by rw[aG.o];unfold encV;rw[<-HA.o];rfl
  clear L;have ac:=fit_of HI.o;have d:=hid (chk_ok ac HA.o.symm);have C:=hid (chk_sho HA.o.symm);have bp:v.length<=16:=C.o.2.1;have a2:ops.length<=200:=C.o.1;clear ac;go_enter Tryz.func76,Tryz.ntmps76;go_upto_region 4 with(go_at_call 48;refine(HC.o _ N.o).mono ?_;rintro e b ⟨rfl,B⟩);have a3:=hid ((B.block w.heap.size (by simp)).trans (an w _));have a4:=hid (N.o.trans (B.mono (by simp)));have aZ:w.heap.size<b.heap.size:=by have:=B.size;simp at this;omega
  have a5:=hid (show WrQ b.heap.size b.heap.size [] (b.alloc (.cells #[.pointer none,.slice none 0 0] 189)) (b.alloc (.cells #[.pointer none,.slice none 0 0] 189)) from WrQ.refl (fresh_isBuilder _ _ b));have H:=hid ((ax b (.cells #[.pointer none,.slice none 0 0] 189) _ aZ).trans a3.o);clear B;go_upto_region 5 with(fail);generalize hW:b.alloc (.cells #[.pointer none,.slice none 0 0] 189)=W at *;have bq:b.heap.size<W.heap.size:=by rw[<-hW];simp
  have ad:=hid (show Below w.heap.size w W by rw[<-hW];exact a4.o.alloc (by omega) _);clear hW;have br:=cw0 H.o;have bs:=cw1 H.o;have bt:=cw2 H.o;have aH:=stZ_le d.o.1;have aI:=dz d.o.2.1.2;simp only at aH aI;go_wp2_with fail;have J:=hid (a5.o.alloc (by omega) (.cells #[t,r,n] 3));refine(fd b.heap.size b.heap.size [] W.heap.size [t,r,n] 3 _ (by have h1:=d.o.1.1.2;have K:=d.o.1.2.2;have h3:=d.o.2.1.2;simp only[dh,fj,or_false];rintro x (rfl|rfl|rfl)<;>assumption) (by simp) (by simp) (by exact J.o.1) (by exact bu _ _ rfl) (by omega)).mono ?_;rintro e w2 ⟨rfl,u⟩;have af:=hid (show WrQ b.heap.size b.heap.size (stZ ⟨t,r⟩++natZ n) W w2 by have:=J.o.trans (by exact u);simpa[stZ,aM] using this);have aJ:=hid (WrQ.obj af.o H.o (by omega) (by decide));clear u J;have bl:=cw3 aJ.o;have aL:=HI.o.agr (Agr.below (ad.o.trans (af.o.2.1.mono (by omega))));have I:=hid aL.deps.vec;clear aL;have aN:=hid (λi (hi:i<v.length)=>d.o.2.2.1.2 (v.getD i 0) (by rw[ae,aw hi];exact ch hi));go_wp2_with fail;refine(nats_ok D v.length E (λi=>v.getD i 0) (by omega) (λi hi=>⟨(aN.o i hi).1,(aN.o i hi).2⟩) w2 I.o).mono ?_;rintro e w3 ⟨rfl,ah⟩;have aj:=hid (natsS_Z v λx Y=>(d.o.2.2.1.2 x Y).1);obtain⟨V,hV⟩:∃V,V=natsS (λi=>v.getD i 0) v.length:=⟨_,rfl⟩;rw[<-hV] at aj ⊢;clear hV
  have ak:=hid (af.o.below ah);have a6:=bK ah aJ;clear ah;have a7:(kj v).length<=170:=by
   have h1:=gJ (z:=natZ) (c:=10) (l:=v) λx Y=>dz (d.o.2.2.1.2 x Y).2;have K:(natZ v.length).length<=10:=dz (by omega);unfold kj;rw[al];omega
  have a8:=hid (show V.size=(kj v).length by rw[<-aj.o];simp);go_wp2_with fail;refine(wstr_any b.heap.size b.heap.size (stZ ⟨t,r⟩++natZ n) V w3 ak.o.1 (by rw[a8.o,al];omega) (by have:=ak.o.1.pt;omega)).mono ?_;rintro e w4 ⟨rfl,u⟩;have ao:=hid (show WrQ b.heap.size b.heap.size ((stZ ⟨t,r⟩++natZ n)++kj v) W w4 by have:=ak.o.trans u;rw[aj.o] at this;exact this);have ap:=hid (WrQ.obj u a6.o (by omega) (by decide));clear u;have bm:=cw4 ap.o;have bn:=cw5 ap.o;have bo:=cw6 ap.o;have aP:=stZ_le d.o.2.2.2.1;simp only at aP;go_wp2_with fail;have J:=hid (ao.o.alloc (by have:=ao.o.1.pt;omega) (.cells #[q,s,(ops.length:Int)] 3));refine(fd b.heap.size b.heap.size ((stZ ⟨t,r⟩++natZ n)++kj v) w4.heap.size [q,s,(ops.length:Int)] 3 _ (by have h1:=d.o.2.2.2.1.1.2;have K:=d.o.2.2.2.1.2.2;simp only[dh,fj,or_false];rintro x (rfl|rfl|rfl);exact h1;exact K;omega) (by simp only[al];simp;omega) (by simp) (by exact J.o.1) (by exact bu _ _ rfl) (by have:=ao.o.1.pt;omega)).mono ?_;rintro e w5 ⟨rfl,u⟩;have aQ:=hid (show WrQ b.heap.size b.heap.size (((stZ ⟨t,r⟩++natZ n)++kj v)++(stZ ⟨q,s⟩++natZ ops.length)) W w5 by have:=J.o.trans (by exact u);simpa[stZ,aM] using this);have a9:=hid (WrQ.obj aQ.o H.o (by omega) (by decide));clear u J;have a0:=cw6 a9.o
  have ba:(natZ (ops.length:Int)).length<=10:=dz (by omega);obtain⟨P,hP⟩:∃P,P=((stZ ⟨t,r⟩++natZ n)++kj v)++(stZ ⟨q,s⟩++natZ ops.length):=⟨_,rfl⟩;have bv:P.length<=300:=by rw[hP];simp only[al];omega
  have HP:=hid (show P++ops.flatMap opZ=grpZ ⟨⟨t,r⟩,n,v,⟨q,s⟩,ops⟩ by rw[hP];simp[grpZ,stZ]);have bb:=hid (show P≠[] by intro e;have h1:1<=(natZ (ops.length:Int)).length:=(by rw[gH (by omega)];exact uvarint_pos _);have K:=congrArg List.length (hP.symm.trans e);simp only[al,fY] at K;omega);have bc:=hid (show WrQ b.heap.size b.heap.size P W w5 by rw[hP];exact aQ.o);clear hP ba aH aI aP a7;obtain⟨m,hm⟩:∃m,m=ops.length:=⟨_,rfl⟩;have HM:=hid hm;rw[<-hm] at a0 a2;clear hm;have hN:(ops.length:Int)=(m:Int):=by rw[HM.o]
  try rw[hN]
  clear hN;obtain⟨X,aR,aS⟩:=HI.o.ops;have bd:=hid aR;have be:=hid aS;clear aR aS;go_upto_region 10 with(fail);go_loopw [54] (λi wr=>∃j:Nat,j<=m∧i= .int .i64 j∧Hid (WrQ b.heap.size b.heap.size (P++(ops.take j).flatMap opZ) W wr)) (λi _=>m-(RowKit.intOf i).toNat)
  case atStart=>exact⟨0,by omega,rfl,hid (by rw[iz,List.flatMap_nil,g8];exact bc.o)⟩
  case round=>
   obtain⟨j,hj,rfl,HR⟩:=hrel;by_cases bw:j<m
   ·have A:j<ops.length:=by have:=HM.o;omega
    have aq:=hid (ad.o.trans (HR.o.2.1.mono (by omega)));obtain⟨h,p,rfl,hS,bx,f⟩:=(RowG.agr bd.o (Agr.below aq.o)) j A;have O:=be.o j A;obtain⟨o,ho⟩:∃o,o=ops.getD j (opO 0 .zero):=⟨_,rfl⟩;obtain⟨x,Y⟩:∃x,x=X j:=⟨_,rfl⟩;rw[<-ho] at O;simp only[<-ho,<-Y] at O f;have Q:o∈ops:=by rw[ho,ae,aw A];exact ch A
    have HT:=hid (show(P++(ops.take j).flatMap opZ)++opZ o=P++(ops.take (j+1)).flatMap opZ by rw[cW A,aK,bJ,ho,ae,aw A,aM];rfl);have bf:(P++(ops.take j).flatMap opZ).length<=300+1061000*200:=by
     have h1:=gJ (z:=opZ) (c:=1061000) (l:=ops.take j) λy hy=>opZ_le (M:=1000000) (d.o.2.2.2.2.2 y (ew hy)) (C.o.2.2 y (ew hy)) (aF.o C.o.1 y (ew hy));have K:(ops.take j).length<=200:=by have:=List.length_take_le j ops;omega
     have h3:1061000*(ops.take j).length<=1061000*200:=iZ _ K;rw[al];omega
    obtain⟨P2,au⟩:∃P2,P2=P++(ops.take j).flatMap opZ:=⟨_,rfl⟩;rw[<-au] at bf;have aT:=hid au;have I:=hid (show WrQ b.heap.size b.heap.size P2 W wr by rw[aT.o];exact HR.o);have R:=C.o.2.2 o Q;have aU:∀c,OpIn (wr.alloc c) (λk=>k<b.heap.size) o x:=λc=>
     ((O.sub (T:=λk=>k<w.heap.size) (λk hk _=>hk)).agr (Agr.below (aq.o.alloc aq.o.size c))).sub (λk _ hk=>by have hk:k<w.heap.size:=hk;show k<b.heap.size;omega)
    have av:=λc=>wop_any b.heap.size b.heap.size P2 o x (wr.alloc c) (d.o.2.2.2.2.2 o Q) R.dots R.elems (by have:=R.name;omega) (aF.o C.o.1 o Q) (by omega) (I.o.1.alloc c) (aU c);clear aU O ho Y au Q A R;obtain⟨z,hz⟩:∃z,z=opZ o:=⟨_,rfl⟩;rw[<-hz] at HT;simp only[<-hz] at av;clear hz;obtain⟨ay,⟨⟨nt,nr⟩,ni⟩,⟨⟨pt,pr⟩,pi⟩,az,aV,aA,⟨⟨aW,ar⟩,ai⟩,⟨⟨et,er⟩,ei⟩,text,U⟩:=o;obtain⟨xd,aX,xe,aY⟩:=x;have bg:Hid (∀c,Calls Tryz.prog 133 #[.pointer (some ⟨b.heap.size,0,none⟩),.agg #[ay,nt,nr,ni,pt,pr,pi,az,aV,.slice xd aA.length aX,aW,ar,ai,et,er,ei,text,.slice xe U.length aY]] (wr.alloc c) λe w'=>e= .returned (.tuple #[])∧WrQ b.heap.size b.heap.size (P2++z) (wr.alloc c) w'):=hid av;clear av;have c0:wr.cell? ⟨h,p+j*18,none⟩=some (.int .i64 ay):=f 0 (by omega);have c1:wr.cell? ⟨h,p+j*18+1,none⟩=some (.int .i64 nt):=f 1 (by omega);have c2:wr.cell? ⟨h,p+j*18+2,none⟩=some (.int .i64 nr):=f 2 (by omega);have c3:wr.cell? ⟨h,p+j*18+3,none⟩=some (.int .i64 ni):=f 3 (by omega);have c4:wr.cell? ⟨h,p+j*18+4,none⟩=some (.int .i64 pt):=f 4 (by omega);have c5:wr.cell? ⟨h,p+j*18+5,none⟩=some (.int .i64 pr):=f 5 (by omega);have c6:wr.cell? ⟨h,p+j*18+6,none⟩=some (.int .i64 pi):=f 6 (by omega);have c7:wr.cell? ⟨h,p+j*18+7,none⟩=some (.string az):=f 7 (by omega);have c8:wr.cell? ⟨h,p+j*18+8,none⟩=some (.bool aV):=f 8 (by omega)
    have c9:wr.cell? ⟨h,p+j*18+9,none⟩=some (.slice xd aA.length aX):=f 9 (by omega);have bz:wr.cell? ⟨h,p+j*18+10,none⟩=some (.int .i64 aW):=f 10 (by omega);have bA:wr.cell? ⟨h,p+j*18+11,none⟩=some (.int .i64 ar):=f 11 (by omega);have bB:wr.cell? ⟨h,p+j*18+12,none⟩=some (.int .i64 ai):=f 12 (by omega);have bC:wr.cell? ⟨h,p+j*18+13,none⟩=some (.int .i64 et):=f 13 (by omega);have bD:wr.cell? ⟨h,p+j*18+14,none⟩=some (.int .i64 er):=f 14 (by omega);have bE:wr.cell? ⟨h,p+j*18+15,none⟩=some (.int .i64 ei):=f 15 (by omega);have bF:wr.cell? ⟨h,p+j*18+16,none⟩=some (.string text):=f 16 (by omega);have bG:wr.cell? ⟨h,p+j*18+17,none⟩=some (.slice xe U.length aY):=f 17 (by omega);clear f
    go_wp2_with (first
     |(go_at_call 133;refine(bg.o _).mono ?_;rintro e w9 ⟨rfl,u⟩;have bh:=hid ((I.o.alloc (by have:=I.o.1.pt;omega) _).trans (by exact u));clear u)
     |(refine bR rfl _ _ _ rfl _ _ _ _ rfl ?_ rfl ?_ ?_ ?_ ?_;(focus(simp;done));kernel_rfl;rfl;rfl)
     |(refine dF rfl _ _ rfl _ _ _ _ rfl ?_ am rfl ?_ ?_;(focus(simp;done));kernel_rfl))
    go_roundw
    case rel=>exact⟨j+1,by omega,by go_num,hid (by rw[<-HT.o,<-aT.o];exact bh.o)⟩
    case measure=>simp[RowKit.intOf];omega
   ·obtain rfl:j=m:=by omega
    have HF:=hid (show WrQ b.heap.size b.heap.size (grpZ ⟨⟨t,r⟩,n,v,⟨q,s⟩,ops⟩) W wr by have:=HR.o;rw[HM.o,aO,HP.o] at this;exact this);have bi:=hid (show grpZ ⟨⟨t,r⟩,n,v,⟨q,s⟩,ops⟩≠[] by rw[<-HP.o];intro e;exact bb.o (List.append_eq_nil_iff.1 e).1);obtain⟨Z,hZ⟩:∃Z,Z=grpZ ⟨⟨t,r⟩,n,v,⟨q,s⟩,ops⟩:=⟨_,rfl⟩;have HZ:=hid hZ;have bj:=hid (show WrQ b.heap.size b.heap.size Z W wr by rw[hZ];exact HF.o);have a1:=hid (show Z≠[] by rw[hZ];exact bi.o);clear hZ;go_wp2_with (go_at_call 134;refine(wstring_any b.heap.size b.heap.size Z wr bj.o.1 a1.o).mono ?_;rintro e w9 ⟨rfl,bk⟩);go_ret2;exact⟨by have hz:=HZ.o;subst hz;rfl,ad.o.trans ((HF.o.2.1.trans (by exact bk)).mono (by omega))⟩
end
end Go.Proofs.YtkhmicndehlneaaGreatDoor
