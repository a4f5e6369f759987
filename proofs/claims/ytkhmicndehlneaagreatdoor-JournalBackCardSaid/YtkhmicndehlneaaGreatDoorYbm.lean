/- Part 13 of the walks and plain laws that this claim uses, joined. Conditions: as each theorem states. -/
import Derived.Deep.LoopGhost
import Derived.Lib.SliceRun
import Derived.WalkMore
import Derived.Test.YtkhmicndehlneaaGreatDoorYbl
namespace Go.Proofs.YtkhmicndehlneaaGreatDoor
set_option maxRecDepth 100000
set_option maxHeartbeats 16000000
set_option linter.unusedVariables false
section
open Go.RowKit Go.Lib Go.Sort
theorem putL_size:∀(vs:List Value) (o:Nat) (c:Array Value),(putL c o vs).size=c.size
 | [],_,_=>rfl
 |v::vs,o,c=>by rw[putL,putL_size vs];simp
theorem putL_get:∀(vs:List Value) (o:Nat) (c:Array Value) (i:Nat),o+vs.length<=c.size->(putL c o vs)[i]? =if o<=i∧i<o+vs.length then vs[i-o]? else c[i]?
 | [],o,c,i,h=>by rw[putL,aC (by simp)]
 | v::vs,o,c,i,h=>by
  have hl:(v::vs).length=vs.length+1:=rfl
  rw[putL,putL_get vs (o+1) _ i (by simp;omega)]
  by_cases h1:o+1<=i∧i<o+1+vs.length
  ·rw[aJ h1,aJ (by omega)]
   obtain⟨k,rfl⟩:∃k,i=o+1+k:=⟨i-(o+1),by omega⟩
   rw[show o+1+k-(o+1)=k by omega,show o+1+k-o=k+1 by omega]
   rfl
  ·rw[aC h1]
   by_cases h2:i=o
   ·subst h2
    rw[aJ (by omega),Nat.sub_self,Array.getElem?_setIfInBounds_self_of_lt (by omega)]
    rfl
   ·rw[aC (by omega),Array.getElem?_setIfInBounds_ne (λe=>h2 e.symm)]
theorem run_clear_elem {P:Program} (w:World) (t e ty:TypeId) (z:Value) (ht:P.underlying t=some (.slice e)) (hv:∀w,(zeroValue e).run P w= .ok z w) (h1:∀v∈z.cells.toList,v.oneCell'=true) (b o c:Nat)
  (hc:∀j,j<z.cells.size->(w.cell? ⟨b,o+j,none⟩).isSome=true) (hf:∀j,j<z.cells.size->w.frozen? ⟨b,o+j,none⟩=false):
  (Builtin.clear_ #[t] ty #[.slice (some ⟨b,o,none⟩) 1 c]).run P w= .ok (.tuple #[]) (w.setCells b o z.cells.toList):=by
 have f:(Builtin.zeroCells z.cells 1).toList=z.cells.toList:=by
  simp[Builtin.zeroCells];apply List.ext_getElem
  ·simp
  ·intro i h1 d;simp at h1 d;simp[iK d];exact getElem!_pos z.cells i d
 have a:=run_storeCells_cells (P:=P) b o z.cells.toList 0 w (by simpa using hc) (by simpa using hf) h1;simp only[Nat.add_zero] at a;simp[Builtin.clear_,run_underlying ht,hv,f,a]
theorem ki (M:List (Grp×GrX)) (k:Nat):(M.drop k).flatMap grC_=(M.flatMap grC_).drop (k*7):=by
 induction M generalizing k with
 |nil=>simp
 | cons x a ih=>
  cases k with
  |zero=>simp
  |succ k=>
   rw[List.drop_succ_cons,ih,cW,show(k+1)*7=(grC_ x).length+k*7 from by show _=7+k*7;omega,List.drop_append];simp
theorem flat_take (M:List (Grp×GrX)) (k:Nat):(M.take k).flatMap grC_=(M.flatMap grC_).take (k*7):=by
 induction M generalizing k with
 |nil=>simp
 | cons x a ih=>
  cases k with
  |zero=>simp
  |succ k=>
   rw[List.take_succ_cons,cW,ih,cW,show(k+1)*7=(grC_ x).length+k*7 from by show _=7+k*7;omega,List.take_append];simp;exact(di (Nat.le_add_right _ _)).symm
theorem flat_erase (M:List (Grp×GrX)) (k:Nat):(M.eraseIdx k).flatMap grC_=(M.flatMap grC_).take (k*7)++(M.flatMap grC_).drop ((k+1)*7):=by
 rw[gu,aI,flat_take,ki]
end
section
open Go.RowKit Go.Lib Go.Sort
attribute [local go_sem ↓] Go.wp_at_zero Go.wp_at_succ
theorem zeroGr (w:World):(zeroValue 45).run Tryz.prog w= .ok (.agg #[(0:Int),(0:Int),(0:Int),.slice none 0 0,(0:Int),(0:Int),.slice none 0 0]) w:=by kernel_rfl
theorem bxdelete_any {B:Nat} {wv:Value} {M:List (Grp×GrX)} {w:World} (k:Nat) (hO:w.ownsRow B 45 7 wv M.length (M.flatMap grC_)) (hk:k<M.length) (hl:M.length<=1000000):
  Calls Tryz.prog 100 #[wv,(k:Int),.int .i64 ((k:Int)+1)] w λe w'=>∃wv',e= .returned wv'∧w'.ownsRow B 45 7 wv' (M.eraseIdx k).length ((M.eraseIdx k).flatMap grC_)∧w.grownBy w' wv.ownBlock∧wv'.ownBlock=wv.ownBlock:=by
 obtain⟨i0,D,am,aa,an⟩:=bD ia;obtain⟨p,H⟩:∃p,M.length=p+1:=⟨M.length-1,by omega⟩;have f:(M.flatMap grC_).length=(p+1)*7:=by rw[kD,H]
 have t:(M.eraseIdx k).length=p:=by rw[List.length_eraseIdx,aJ hk,H];rfl
 rw[H] at hO hk hl;rcases hO.2 with⟨-,h0⟩|⟨g,cap,cur,rfl,hBg,hg,hnc,hcm,hsz,htk⟩
 ·omega
 have ak:cap<=9223372036854775807:=by unfold maxLen at hcm;omega
 have ab:=lt_of_block hg;obtain⟨q,hq⟩:∃q,k+q=p:=⟨p-k,by omega⟩;obtain⟨a,b⟩:∃l:List Value,l=(M.drop (k+1)).flatMap grC_:=⟨_,rfl⟩;have m:a.length=q*7:=by rw[b,kD,bI,H];congr 1;omega
 have P:∀j,a[j]? =if j<q*7 then cur[(k+1)*7+j]? else none:=λj=>by
  rw[b,ki,jC,<-htk,cm,dz];by_cases h:j<q*7
  ·rw[aJ h,aJ (by omega)]
  ·rw[aC h,aC (by omega)]
 obtain⟨E,Q,I⟩:∃E:Addr,(cap=k+1->E=⟨g,0,none⟩)∧(¬cap=k+1->E=⟨g,(k+1)*7,none⟩):=by
  by_cases o:cap=k+1
  ·exact⟨_,λ_=>rfl,λh=>absurd o h⟩
  ·exact⟨_,λh=>absurd h o,λ_=>rfl⟩
 have J:∀j u,a[j]? =some u->w.drew.cell? (E.add j)=some u:=λj u F=>by
  have r:j<q*7:=by have:=(ep.1 F).1;omega
  rw[I (by omega),Addr.add_mid];show w.cell? _=_;rw[crw hg];rw[P,aJ r] at F;exact F
 have R:∀u∈a,u.oneCell'=true:=λu F=>by
  rw[b] at F;obtain⟨x,-,hx⟩:=dI.1 F;exact iO x u hx
 obtain⟨d,y⟩:∃c,c=putL cur (0+k*7) a:=⟨_,rfl⟩;have s:d.size=cap*7:=by rw[y,putL_size,hsz]
 have z:w.drew.setCells g (0+k*7) a=w.drew.setRow g d:=by rw[fk g 45 a _ cur w.drew hg,y]
 obtain⟨G,A⟩:∃c,c=putL d (p*7) [(0:Int),(0:Int),(0:Int),.slice none 0 0,(0:Int),(0:Int),.slice none 0 0]:=⟨_,rfl⟩;have n:(w.drew.setRow g d).heap[g]? =some (.cells d 45 (0,0)):=aM d (show w.drew.heap[g]? =_ from hg);have C:(w.drew.setRow g d).setCells g (p*7) [(0:Int),(0:Int),(0:Int),.slice none 0 0,(0:Int),(0:Int),.slice none 0 0]=(w.drew.setRow g d).setRow g G:=by rw[fk g 45 _ _ d _ n,A]
 have hz:∀W,(zeroValue 45).run Tryz.prog W= .ok (.agg #[(0:Int),(0:Int),(0:Int),.slice none 0 0,(0:Int),(0:Int),.slice none 0 0]) W:=zeroGr;have L:∀U,(Builtin.clear_ #[25] U #[.slice (some ⟨g,p*7,none⟩) 1 (cap-p)]).run Tryz.prog (w.drew.setRow g d)= .ok (.tuple #[]) ((w.drew.setRow g d).setRow g G):=λU=>by
  rw[<-C];refine run_clear_elem _ _ 45 U _ bV hz (λv hv=>fw (c:=#[(0:Int),(0:Int),(0:Int),.slice none 0 0,(0:Int),(0:Int),.slice none 0 0]) rfl v hv) g (p*7) (cap-p) (λj r=> ?_) (λj r=>aW _ _ _ _ _ n);have r:j<7:=r;rw[crw n,dh (by omega)];rfl
 have N:((w.drew.setRow g d).setRow g G).ownsRow B 45 7 (.slice (some ⟨g,0,none⟩) p cap) (M.eraseIdx k).length ((M.eraseIdx k).flatMap grC_)∧w.grownBy ((w.drew.setRow g d).setRow g G) (some g):=by
  refine⟨⟨kD _,.inr ⟨g,cap,G,by rw[t],hBg,aM G n,by omega,hcm,by rw[A,putL_size,s],?_⟩⟩,rfl,rfl,rfl,by simp[World.setRow],λi _ D=> ?_⟩
  ·rw[t];apply List.ext_getElem?;intro i;rw[cm,dz,flat_erase];by_cases h:i<p*7
   ·rw[aJ h,A,putL_get _ _ _ _ (by rw[s];show p*7+7<=_;omega),aC (by omega),y,putL_get _ _ _ _ (by rw[hsz,m];omega)];by_cases h2:i<k*7
    ·rw[aC (by omega),es (by rw[aP,f];omega),cm,aJ h2,<-htk,cm,aJ (by omega),dz]
    ·rw[aJ (by rw[m];omega),cY (by rw[aP,f];omega),aP,f,<-ki,<-b];congr 1;omega
   ·rw[aC h,ck (by rw[al,aP,bI,f];omega)]
  ·have D:i≠g:=λe=>D (by rw[e]);rw[setRow_other _ _ _ _ D,setRow_other _ _ _ _ D];rfl
 have T:∀j,j<a.length->(w.drew.cell? ⟨g,0+k*7+j,none⟩).isSome=true∧w.drew.frozen? ⟨g,0+k*7+j,none⟩=false:=λj r=>by
  rw[m] at r;refine⟨?_,aW _ _ _ _ _ (show w.drew.heap[g]? =_ from hg)⟩;show(w.cell? _).isSome=true;rw[crw hg,dh (by omega)];rfl
 have ac:=hid Q;have ae:=hid I;have HQ:=hid hq;have af:=hid (show p+1-(k+1)=q by omega);have X:=hid J;have ag:=hid m;have ah:=hid R;have ai:=hid T;have Y:=hid z;have Z:=hid L;have O:=hid N;have ao:=hid t;have j1:(0:Int)<=(k:Int):=by omega
 have j2:(k:Int)<=(k:Int)+1:=by omega
 have j3:(k:Int)<=(p:Int):=by omega
 have j4:(p:Int)+1<=(cap:Int):=by omega
 have j5:(0:Int)<=(k:Int)+1:=by omega
 have j6:((k:Int) == (k:Int)+1)=false:=by rw[aV];omega
 have j7:(k:Int)<=(cap:Int):=by omega
 have j8:((k:Int)+1).toNat=k+1:=by omega
 have j9:(k:Int)<=(p:Int)+1:=by omega
 have ap:(k:Int)+1<=(cap:Int):=by omega
 have aq:(k:Int)+1<=(p:Int)+1:=by omega
 have ar:(0:Int)<=(p:Int):=by omega
 have au:(p:Int)<=(p:Int)+1:=by omega
 have av:¬cap=p:=by omega
 have aw:((p:Int)+1).toNat=p+1:=by omega
 have ax:(p:Int)<=(cap:Int):=by omega
 have aj:k+q<=cap:=by omega
 clear hO Q I hq J m R T z L N t f htk hg hsz H b P y s C A n hz ab hBg hnc hk;go_enter Tryz.func100,Tryz.ntmps100;go_upto_region 5 with fail;refine aR (S:=λ_=>True) (by kernel_rfl) ?_
 try(change wpAnyH _ _ _ _ _ _ _ _ (World.drew _))
 refine tk 0 (.slice (some ⟨g,0,none⟩) (p+1) cap) (trivial) ?_;go_simp;refine tk 1 (.int .i64 (k:Int)) (trivial) ?_;go_simp;refine tk 2 (.slice (some ⟨g,0,none⟩) k cap) (trivial) ?_;go_simp;refine tk 3 (.slice (some ⟨g,0,none⟩) (p+1) cap) (trivial) ?_;go_simp;refine tk 4 (.int .i64 ((k:Int)+1)) (trivial) ?_;go_simp;refine tk2 5 (.slice (some E) q (cap-(k+1))) rfl (Or.inl ⟨by rfl,λW' ay=>by(rw[<-af.out];rcases cw (cap=k+1) with o|o;(focus(rw[ac.out o];go_simp;(try omega);(try simp)));(rw[ae.out o];go_simp;(try simp[o])))⟩) (trivial) ?_;go_simp;refine rd1 6 λK hK=> ?_;refine step_append_room (by rfl) _ _ 25 (by rfl) 45 i0 7 bV D aa g 0 k cap (by rfl) E q (cap-(k+1)) a (by rfl) ag.out X.out ah.out aj ai.out ?_;rw[Y.out,HQ.out];refine hK.out _ _ (trivial) (λ_=> ?_);clear hK K;refine tk 7 (.slice (some ⟨g,0,none⟩) p cap) (trivial) ?_;go_simp;refine be (by kernel_rfl) ?_ _;go_simp;generalize hV:w.drew.setRow g d=V at *;clear hV;go_wp2;rw[Z.out];simp only[Result.andThen];rw[Oper.upon_value];go_wp2;go_ret;exact⟨_,rfl,O.out.1,O.out.2,rfl⟩
def bestI:Option Nat->Int
 |none=> -1
 |some k=>(k:Int)
theorem BxOk.step {b:Bx} (h:BxOk b) {k:Nat} (hb:eU b.v b.wait b.wait.length=some k) (ho:oldB b.v (b.wait.getD k gz)=false):BxOk (Bx.put ⟨b.done,b.wait.eraseIdx k,b.v⟩ (b.wait.getD k gz)):=by
 obtain⟨c,f⟩:=gH hb;refine(h.drop k).put (h.chk _ (au.2 (.inr (gf c)))) f ho λx a=> ?_;have d:=h.apart;rw[bq,dK] at d;rcases au.1 a with a|a
 ·exact λe=>d.2.2 _ (bj.2 ⟨x,a,rfl⟩) _ (bj.2 ⟨_,gf c,rfl⟩) e
 ·exact erase_ne c d.2.1 x a
theorem map_erase {α β:Type} (f:α->β) (l:List α) (k:Nat):(l.eraseIdx k).map f=(l.map f).eraseIdx k:=by rw[gu,gu,bq,List.map_take,List.map_drop]
theorem kg (M:List (Grp×GrX)) (wt:List Grp) (h:M.map Prod.fst=wt) (k:Nat):(M.getD k gp0).1=wt.getD k gz:=by
 subst h;rw[ae,ae,cT];cases M[k]? <;>rfl
theorem getD_memP {M:List (Grp×GrX)} {k:Nat} (hk:k<M.length):M.getD k gp0∈M:=by
 rw[ae,an hk];exact bU hk
theorem chk_dl {g:Grp} (h:chkB g=true):g.deps.length<=1000:=by
 simp only[chkB,gC,ap] at h;have:=(vecB_nn h.1.1.2).2;omega
theorem bxdrain_any {B P:Nat} {S:Nat->Prop} {b:Bx} {X:BoxX} {w:World} (h:BoxIn B P S b.done b.done b.wait b.v X w) (hok:BxOk b) (hwl:b.wait.length<=1000) (hlen:b.done.length+b.wait.length<=1000000):
  Calls Tryz.prog 52 #[.pointer (some ⟨P,0,none⟩)] w λe w'=>e= .returned (.int .i64 ((bQ b.wait.length b).2:Nat))∧∃X' S',BoxIn B P S' (bQ b.wait.length b).1.done (bQ b.wait.length b).1.done (bQ b.wait.length b).1.wait (bQ b.wait.length b).1.v X' w'∧BTo P X S w X' S' w':=by
 obtain⟨R,hR⟩:∃R,R=bQ b.wait.length b:=⟨_,rfl⟩;rw[<-hR];have bh:=hid hR;have H0:=hid h;have bi:=hid hok;obtain⟨m,hm⟩:∃m,m=b.wait.length:=⟨_,rfl⟩;have HM:=hid hm;have bd:=hid hlen;have bF:m<=1000:=by omega
 clear h hok hR hm hwl hlen;go_enter Tryz.func52,Tryz.ntmps52;go_wp2;go_step3;go_wp2;go_step3;go_wp2;go_loopg [3] m (λg c wr=>∃(o:Bx) (nk:Nat) (A:BoxX) (Sk:Nat->Prop),c= .int .i64 nk∧o.wait.length=g∧nk+g<=m∧Hid (BoxIn B P Sk o.done o.done o.wait o.v A wr)∧Hid (BTo P X S w A Sk wr)∧Hid (BxOk o)∧Hid (R=((bQ o.wait.length o).1,(bQ o.wait.length o).2+nk))∧Hid (o.done.length+o.wait.length<=1000000))
 case atStart=>exact⟨b,0,X,S,rfl,HM.out.symm,by omega,H0,hid BTo.refl,bi,hid (by rw[bh.out];rfl),bd⟩
 case round=>
  obtain⟨o,nk,A,Sk,rfl,aC,bJ,HB,HT,HK,HE,HL⟩:=hrel;generalize gk=T at *;have bG:T<=1000:=by omega
  have G:=hid aC;obtain⟨wA,wc,ai⟩:=bZ HB.out.wait;have av:A.M.length=T:=by rw[HB.out.wlen,aC]
  rw[av] at ai;have K:=hid av;have ak:=hid ai;have ap:=hid (show RowGr wr wA A.M from RowGr.own (c:=wc) (by have:=HB.out.wait;rw[ai,<-av] at this;exact this));have p1:wr.cell? ⟨P,1,none⟩=some (.slice wA T wc):=by rw[HB.out.cell,ai];rfl
  clear ai aC av;generalize wr=wo at *;go_wp2;go_loopg [4,13] T (λg2 c i wx=>∃(k:Nat) (z:Int),k+g2=T∧i= .int .i64 k∧c= .int .i64 z∧Hid (z=bestI (eU o.v o.wait k))∧Hid (Below wo.heap.size wo wx))
  case atStart=>exact⟨0,-1,by omega,rfl,rfl,hid rfl,hid (ag _ _)⟩
  case round=>
   obtain⟨k,z,bL,rfl,rfl,HZ,ab⟩:=hrel;have E:=hid (HB.out.below ab.out);by_cases aD:k<T
   ·obtain⟨g3,rfl⟩:∃g3,gk=g3+1:=⟨gk-1,by omega⟩;obtain⟨U,Y,rfl,bj,s⟩:=RowGr.range (RowGr.below ap.out ab.out) (k:=k) (by rw[K.out];exact aD);have i1:(0:Int)<=(k:Int):=by omega
    have i2:(k:Int)<(T:Int):=by omega
    obtain⟨p,L⟩:∃p,p=A.M.getD k gp0:=⟨_,rfl⟩;have aF:=hid (show GrG wr Sk p by rw[L];exact E.out.good _ (au.2 (.inr (getD_memP (by rw[K.out];exact aD)))));have N:=hid (show p.1=o.wait.getD k gz by rw[L];exact kg _ _ E.out.wl k);have a0:=hid (show p.1.deps.length<=1000 from chk_dl (HK.out.chk _ (by rw[N.out];exact au.2 (.inr (gf (by rw[G.out];exact aD))))));rw[<-L] at s;clear L;obtain⟨D,x⟩:=p;obtain⟨aw,aq⟩:∃b,b=fp o.v D:=⟨_,rfl⟩;have aG:=hid (show ∀W,Below wr.heap.size wr W->Calls Tryz.prog 50 #[.pointer (some ⟨P,0,none⟩),.agg (grA D x.dA x.dc x.oA x.oc)] W λe w'=>e= .returned (.bool aw)∧Below W.heap.size W w' from λW hB=>by rw[aq];exact bxready_any (E.out.below hB) D x (aF.out.agr (Agr.below hB)) a0.out);have ac:=hid (show eU o.v o.wait (k+1)=if aw && behB o.wait D (eU o.v o.wait k) then some k else eU o.v o.wait k by rw[aq,show D=o.wait.getD k gz from N.out];rfl);clear aq a0;obtain⟨⟨t,r⟩,n,u,⟨ut,ur⟩,H⟩:=D;obtain⟨dA,dc,oA,oc⟩:=x;have aI:=hid (show wr.rangeAt U (Y+k*7) [.int .i64 t,.int .i64 r,.int .i64 n,.slice dA u.length dc,.int .i64 ut,.int .i64 ur,.slice oA H.length oc] from s);have be:Hid (∀W,Below wr.heap.size wr W->Calls Tryz.prog 50 #[.pointer (some ⟨P,0,none⟩),.agg #[t,r,n,.slice dA u.length dc,ut,ur,.slice oA H.length oc]] W λe w'=>e= .returned (.bool aw)∧Below W.heap.size W w'):=aG;clear s aG
    go_upto_region 6 with(first
     |(refine lM aI aH ?_)
     |(refine bM rfl _ _ _ rfl _ _ _ _ rfl ?_ rfl ?_ ?_ ?_ ?_;(focus(simp;done));kernel_rfl;rfl;rfl))
    have I:Below wr.heap.size wr (wr.alloc (.cells #[t,r,n,.slice dA u.length dc,ut,ur,.slice oA H.length oc] 45)):=(ag _ _).alloc (aa _) _;have HC:=hid (am wr (.cells #[t,r,n,.slice dA u.length dc,ut,ur,.slice oA H.length oc] 45));generalize hW:wr.alloc (.cells #[t,r,n,.slice dA u.length dc,ut,ur,.slice oA H.length oc] 45)=W at *;clear hW;have aK:=hid I;have bl:=hid ((E.out.below I).cell 1);clear I;have x0:=rg0 HC.out;have x1:=rg1 HC.out;have x2:=rg2 HC.out;have x3:=rg3 HC.out;have x4:=rg4 HC.out;have x5:=rg5 HC.out;have x6:=rg6 HC.out;have cA:=λd os=>ay (be.out (grow (redrawn W d) os) (bx_grow aK.out aK.out.size d os));have an:=bT ab aK.out;cases aw with
    |false=>
     refine rqb ?_
     repeat(any_goals(first|go_big_quiet_step (with_reducible exact cA _ _)|quiet_step (with_reducible exact cA _ _)))
     refine qz λwq O=> ?_;go_wp2;go_roundg g3
     case measure=>omega
     case rel=>exact⟨k+1,z,by omega,by go_num,rfl,hid (by rw[ac.out];simpa using HZ.out),bT an O⟩
    | true=>
     cases C:eU o.v o.wait k with
     |none=>
      obtain rfl:z= -1:=by rw[HZ.out,C];rfl
      rw[C] at ac;refine rqb ?_
      repeat(any_goals(first|go_big_quiet_step (with_reducible exact cA _ _)|quiet_step (with_reducible exact cA _ _)))
      refine qz λwq O=> ?_;go_wp2;go_roundg g3
      case measure=>omega
      case rel=>exact⟨k+1,(k:Int),by omega,by go_num,rfl,hid (by rw[ac.out];simp[behB,bestI]),bT an O⟩
     | some j=>
      obtain rfl:z=(j:Int):=by rw[HZ.out,C];rfl
      rw[C] at ac;have ad:=(gH C).1;obtain⟨bN,bO,bm,bH,F⟩:=RowGr.range (RowGr.below ap.out an.out) (k:=j) (by rw[K.out];omega);cases bm;obtain⟨q,hq⟩:∃q,q=A.M.getD j gp0:=⟨_,rfl⟩;have bn:=hid (show q.1=o.wait.getD j gz by rw[hq];exact kg _ _ E.out.wl j);rw[<-hq] at F;clear hq C;obtain⟨gb,y⟩:=q;obtain⟨⟨t2,r2⟩,n2,u2,⟨bP,bR⟩,bI⟩:=gb;obtain⟨bS,bU,bV,bW⟩:=y;have y0:=aj (w:=W) (a:=⟨U,Y+j*7,none⟩) (v:= .int .i64 t2) (F 0 _ rfl);have y1:=aj (w:=W) (a:=⟨U,Y+j*7+1,none⟩) (v:= .int .i64 r2) (F 1 _ rfl);have pp:=aj (w:=W) (a:=⟨P,1,none⟩) (v:= .slice (some ⟨U,Y,none⟩) T wc) (by rw[bl.out,ak.out];rfl);have i3:(0:Int)<=(j:Int):=by omega
      have i4:(j:Int)<(T:Int):=by omega
      have i5:¬(j:Int)<0:=by omega
      have i6:decide ((j:Int)<0)=false:=aE i5;obtain⟨zc,aL⟩:∃zc,zc=cmpS (⟨t,r⟩:Gst) ⟨t2,r2⟩:=⟨_,rfl⟩;have a1:=hid (show decide (zc<0)=(⟨t,r⟩:Gst).lt ⟨t2,r2⟩ by rw[aL];exact cmpS_lt _ _);have cC:=λd os=>ay (show Calls Tryz.prog 93 #[.agg #[t,r],.agg #[t2,r2]] (grow (redrawn W d) os) λe w'=>e= .returned (.int .i64 zc)∧Below (grow (redrawn W d) os).heap.size (grow (redrawn W d) os) w' by rw[aL];exact cmp_any t r t2 r2 _);have a2:=hid (show behB o.wait ⟨⟨t,r⟩,n,u,⟨ut,ur⟩,H⟩ (some j)=(⟨t,r⟩:Gst).lt ⟨t2,r2⟩ by show(⟨t,r⟩:Gst).lt (o.wait.getD j gz).s=_;rw[<-bn.out]);clear aL F;by_cases a3:zc<0
      ·have aM:decide (zc<0)=true:=aN a3;have HY:=hid (show behB o.wait ⟨⟨t,r⟩,n,u,⟨ut,ur⟩,H⟩ (some j)=true by rw[a2.out,<-a1.out,aM]);refine rqb ?_
       repeat(any_goals(first|go_big_quiet_step (with_reducible first|exact cA _ _|exact cC _ _)|quiet_step (with_reducible first|exact cA _ _|exact cC _ _)))
       refine qz λwq O=> ?_;go_wp2;go_roundg g3
       case measure=>omega
       case rel=>exact⟨k+1,(k:Int),by omega,by go_num,rfl,hid (by rw[ac.out];rw[HY.out];rfl),bT an O⟩
      ·have aM:decide (zc<0)=false:=aE a3;have HY:=hid (show behB o.wait ⟨⟨t,r⟩,n,u,⟨ut,ur⟩,H⟩ (some j)=false by rw[a2.out,<-a1.out,aM]);refine rqb ?_
       repeat(any_goals(first|go_big_quiet_step (with_reducible first|exact cA _ _|exact cC _ _)|quiet_step (with_reducible first|exact cA _ _|exact cC _ _)))
       refine qz λwq O=> ?_;go_wp2;go_roundg g3
       case measure=>omega
       case rel=>exact⟨k+1,(j:Int),by omega,by go_num,rfl,hid (by rw[ac.out];rw[HY.out];rfl),bT an O⟩
   ·have bo:k=T:=by omega
    subst bo;have i2:¬(k:Int)<(k:Int):=by omega
    have bX:decide ((k:Int)<(k:Int))=false:=aE i2;cases C:eU o.v o.wait k with
    |none=>
     obtain rfl:z= -1:=by rw[HZ.out,C];rfl
     have ae:=gj (f:=o.wait.length) (b:=o) (by rw[G.out];exact C);have bp:=hid (show R=(o,nk) by rw[HE.out,ae];simp);clear C ae;go_wp2
     try rw[eW]
     go_ret;rw[bp.out];exact⟨rfl,A,Sk,E.out,HT.out.trans (BTo.of_below ab.out)⟩
    | some j=>
     obtain rfl:z=(j:Int):=by rw[HZ.out,C];rfl
     obtain⟨ad,-⟩:=gH C;obtain⟨f,hf⟩:∃f,k=f+1:=⟨k-1,by omega⟩;have HF:=hid hf;clear hf;obtain⟨U,Y,rfl,bj,s⟩:=RowGr.range (RowGr.below ap.out ab.out) (k:=j) (by rw[K.out];exact ad);have i3:(0:Int)<=(j:Int):=by omega
     have i4:(j:Int)<(k:Int):=by omega
     have i5:¬(j:Int)<0:=by omega
     have i6:decide ((j:Int)<0)=false:=aE i5;obtain⟨p,L⟩:∃p,p=A.M.getD j gp0:=⟨_,rfl⟩;have aF:=hid (show GrG wr Sk p by rw[L];exact E.out.good _ (au.2 (.inr (getD_memP (by rw[K.out];exact ad)))));have N:=hid (show p.1=o.wait.getD j gz by rw[L];exact kg _ _ E.out.wl j);have bq:=hid (show chkB p.1=true from HK.out.chk _ (by rw[N.out];exact au.2 (.inr (gf (by rw[G.out];exact ad)))));rw[<-L] at s;clear L;obtain⟨D,x⟩:=p;obtain⟨od,a4⟩:∃b,b=oldB o.v D:=⟨_,rfl⟩;have ax:=hid (show oldB o.v (o.wait.getD j gz)=od by rw[a4,show D=o.wait.getD j gz from N.out]);have aO:=hid (show eU o.v o.wait o.wait.length=some j by rw[G.out];exact C);have a5:(o.wait.eraseIdx j).length=f:=by rw[List.length_eraseIdx,aJ (by rw[G.out];exact ad),G.out,HF.out];rfl
     have af:=hid a5;have br:=hid (show(A.M.eraseIdx j).map Prod.fst=o.wait.eraseIdx j by rw[<-E.out.wl];exact map_erase _ _ _);clear C a5;obtain⟨Z,ao⟩:∃l,l=grL D x:=⟨_,rfl⟩;have aP:Z.length=7:=by rw[ao];rfl
     have bs:=hid ao;have aQ:=hid aP;have bt:=hid (show Z.toArray.toList.all (·.oneCell')=true by rw[ao];rfl);rw[<-ao] at s;have aI:=hid s;clear ao aP s a4;have Q:=hid (show(Tryz.prog.info? 45).map (·.size)=some Z.length by rw[aQ.out];kernel_rfl);have pp:wr.cell? ⟨P,1,none⟩=some (.slice (some ⟨U,Y,none⟩) k wc):=by rw[E.out.cell,ak.out];rfl
     go_upto_region 12 with(first
      |(refine ii rfl _ _ rfl U (Y+j*7) rfl Z _ aI.out aH rfl Q.out ?_)
      |(refine bM rfl _ _ _ rfl _ _ _ _ rfl ?_ rfl Q.out ?_ bt.out ?_;(focus(simp;done));(focus(simp[aQ.out];done))))
     have I:Below wr.heap.size wr (wr.alloc (.cells Z.toArray 45)):=(ag _ _).alloc (aa _) _;have a6:=hid (am wr (.cells Z.toArray 45));generalize hW:wr.alloc (.cells Z.toArray 45)=W at *;clear hW;have J:=hid (E.out.below I);have bu:=hid ((HT.out.trans (BTo.of_below ab.out)).trans (BTo.of_below I));have bv:=hid (aF.out.agr (Agr.below I));have bw:wr.heap.size<W.heap.size:=lt_of_block a6.out;have a7:=hid (λq hq=>(E.out.own_lt (k:=q) hq).2);have pw:W.cell? ⟨P,1,none⟩=some (.slice (some ⟨U,Y,none⟩) k wc):=by rw[J.out.cell,ak.out];rfl
     have bf:=hid (show Calls Tryz.prog 100 #[.slice (some ⟨U,Y,none⟩) k wc,(j:Int),.int .i64 ((j:Int)+1)] W λe w'=>∃az,e= .returned az∧w'.ownsRow B 45 7 az (A.M.eraseIdx j).length ((A.M.eraseIdx j).flatMap grC_)∧W.grownBy w' A.wv.ownBlock∧az.ownBlock=A.wv.ownBlock by
      have:=bxdelete_any (B:=B) (wv:=A.wv) (M:=A.M) (w:=W) j J.out.wait (by rw[K.out];exact ad) (by rw[K.out];omega);rw[ak.out] at this ⊢
      exact this)
     clear I pp;go_wp2_with fail;refine bf.out.mono ?_;rintro e w5 ⟨az,rfl,aR,aA,aS⟩;obtain⟨A5,c5,rfl⟩:=bZ aR;have a8:some P≠A.wv.ownBlock:=λe=>J.out.wP e.symm;have aT:=(aA.block P (lt_of_block J.out.obj) a8).trans J.out.obj;have q5:w5.cell? ⟨P,1,none⟩=some (.slice (some ⟨U,Y,none⟩) k wc):=by rw[crw aT,ak.out];rfl
     have f5:w5.frozen? ⟨P,1,none⟩=false:=aW _ _ _ _ _ aT;have a9:=hid ((aA.block wr.heap.size bw (λe=>by have:=a7.out _ (.inr (.inr (.inr e.symm)));omega)).trans a6.out);have bx:=hid (a7.out P (.inl rfl));have aU:=hid (J.out.wset (ag _ _) aA aR (.inl aS) (λp L=>J.out.good p (au.2 (.inr (List.eraseIdx_subset L)))));clear aR aA aS a8 aT;go_upto_region 13 with fail;have aV:=hid ((cK w5 ⟨P,1,none⟩ (.slice A5 (A.M.eraseIdx j).length c5) wr.heap.size (by show wr.heap.size≠P;have:=bx.out;omega)).trans a9.out);obtain⟨aX,aY⟩:=aU.out;rw[br.out] at aX;generalize hV:w5.setCell ⟨P,1,none⟩ (.slice A5 (A.M.eraseIdx j).length c5)=V at *;clear hV q5 f5 aU a9;generalize bz:({ A with wv:= .slice A5 (A.M.eraseIdx j).length c5,M:=A.M.eraseIdx j }:BoxX)=X2 at *;clear bz;have aZ:=hid aX;have ba:=hid (bu.out.trans aY);have bA:=hid (bv.out.agr (aY.gr.agr (λi _ hs=>(J.out.sep i hs).2)));clear aX aY;have ar:=hid (bxold_any (S2:=Sk) aZ.out D x);have bb:=hid (show Z.toArray=grA D x.dA x.dc x.oA x.oc by rw[bs.out];rfl);rw[<-bb.out] at ar;have aB:=hid (show Calls Tryz.prog 95 #[.pointer (some ⟨P,0,none⟩),.agg Z.toArray] V λe w'=>e= .returned (.bool od)∧Below V.heap.size V w' by have h1:=ar.out;rw[show oldB o.v D=od from by rw[show D=o.wait.getD j gz from N.out];exact ax.out] at h1;exact h1);clear ar;cases od with
     | true=>
      have ae:=gR (f:=f) aO.out ax.out
      go_wp2_with (first
       |(refine cu rfl _ _ rfl wr.heap.size _ _ _ rfl aV.out aH rfl Q.out ?_)
       |(go_at_call 95;refine aB.out.mono ?_;rintro e w7 ⟨rfl,ah⟩))
      go_roundg f
      case measure=>have:=HF.out;omega
      case rel=>exact⟨⟨o.done,o.wait.eraseIdx j,o.v⟩,nk,X2,Sk,rfl,af.out,by have:=HF.out;omega,hid (aZ.out.below ah),hid (ba.out.trans (BTo.of_below ah)),hid (HK.out.drop j),hid (by rw[HE.out,G.out,HF.out,ae];show _=((bQ (o.wait.eraseIdx j).length _).1,_);rw[af.out]),hid (by have h1:=HL.out;show o.done.length+(o.wait.eraseIdx j).length<=1000000;rw[af.out];rw[G.out] at h1;have:=HF.out;omega)⟩
     | false=>
      have ae:=gi (f:=f) aO.out ax.out;have bB:=hid (HK.out.step aO.out ax.out)
      have bg:=hid (show ∀W7,Below V.heap.size V W7->Calls Tryz.prog 51 #[.pointer (some ⟨P,0,none⟩),.agg Z.toArray] W7 λe w'=>e= .returned (.tuple #[])∧∃X' S',BoxIn B P S' (o.done++[D]) (o.done++[D]) (o.wait.eraseIdx j) (eE o.v D.s.r D.n) X' w'∧BTo P X2 Sk W7 X' S' w' from λW7 hB=>by
       rw[bb.out]
       exact bxdeliver_any (aZ.out.below hB) D x (bA.out.agr (Agr.below hB)) (eC bq.out).1 (by have:=HL.out;omega) (by have:=HL.out;omega))
      go_wp2_with (first
       |(refine cu rfl _ _ rfl wr.heap.size _ _ _ rfl aV.out aH rfl Q.out ?_)
       |(refine cu rfl _ _ rfl wr.heap.size _ _ _ rfl bC.out aH rfl Q.out ?_)
       |(go_at_call 95;refine aB.out.mono ?_;rintro e w7 ⟨rfl,ah⟩;have bc:=hid ah;have bC:=bK ah aV;clear ah)
       |(go_at_call 51;refine(bg.out w7 bc.out).mono ?_;rintro e w8 ⟨rfl,X8,S8,bD,bE⟩))
      go_roundg f
      case measure=>have:=HF.out;omega
      case rel=>exact⟨Bx.put ⟨o.done,o.wait.eraseIdx j,o.v⟩ (o.wait.getD j gz),nk+1,X8,S8,by go_num,af.out,by have:=HF.out;omega,hid (by rw[<-show D=o.wait.getD j gz from N.out];exact bD),hid ((ba.out.trans (BTo.of_below bc.out)).trans bE),bB,hid (by rw[HE.out,G.out,HF.out,ae];show _=((bQ (o.wait.eraseIdx j).length _).1,(bQ (o.wait.eraseIdx j).length _).2+(nk+1));rw[af.out,Nat.add_comm nk 1,<-Nat.add_assoc]),hid (by have h1:=HL.out;show(o.done++[o.wait.getD j gz]).length+(o.wait.eraseIdx j).length<=1000000;rw[af.out,al,dy];rw[G.out] at h1;have:=HF.out;omega)⟩
theorem drainF_len:∀(f:Nat) (b:Bx),(bQ f b).1.wait.length<=b.wait.length∧(bQ f b).1.done.length+(bQ f b).1.wait.length<=b.done.length+b.wait.length
 |0,b=>⟨aa _,aa _⟩
 | f+1,b=>by
  cases hb:eU b.v b.wait b.wait.length with
  |none=>rw[gj hb];exact⟨aa _,aa _⟩
  | some k=>
   have hk:=(gH hb).1
   have hl:(b.wait.eraseIdx k).length=b.wait.length-1:=by rw[List.length_eraseIdx,aJ hk]
   cases ho:oldB b.v (b.wait.getD k gz) with
   |true=>
    rw[gR hb ho]
    have:=drainF_len f ⟨b.done,b.wait.eraseIdx k,b.v⟩
    simp only[hl] at this
    omega
   |false=>
    rw[gi hb ho]
    have:=drainF_len f (Bx.put ⟨b.done,b.wait.eraseIdx k,b.v⟩ (b.wait.getD k gz))
    simp only[Bx.put,al,dy,hl] at this
    simp only[Bx.put]
    omega
theorem drainF_cnt:∀(f:Nat) (b:Bx),(bQ f b).2<=f
 |0,b=>aa _
 | f+1,b=>by
  cases hb:eU b.v b.wait b.wait.length with
  |none=>rw[gj hb];exact aq _
  |some k=>
   cases ho:oldB b.v (b.wait.getD k gz) with
   |true=>rw[gR hb ho];exact Nat.le_succ_of_le (drainF_cnt f _)
   |false=>rw[gi hb ho];exact Nat.succ_le_succ (drainF_cnt f _)
theorem bf {W:World} {g:Nat} {l:List Value} {T:TypeId} (h:W.heap[g]? =some (.cells l.toArray T (0,0))):W.rangeAt g 0 l:=λj v hv=>by
 rw[bN,aD _ _ _ _ _ _ h,List.getElem?_toArray];exact hv
theorem bxhear_any {B P:Nat} {S:Nat->Prop} {b:Bx} {X:BoxX} {w:World} (h:BoxIn B P S b.done b.done b.wait b.v X w) (hok:BxOk b) (g:Grp) (x:GrX) (hG:GrG w S (g,x)) (hT1:∀o∈g.ops,o.text.size<9223372036854775807) (hTb:Tabs w) (hwl:b.wait.length<=100) (hlen:b.done.length+b.wait.length<=999999):
  Calls Tryz.prog 20 #[.pointer (some ⟨P,0,none⟩),.agg (grA g x.dA x.dc x.oA x.oc)] w λe w'=>e= .returned (.tuple #[.int .i64 ((bS b g).2.1:Nat),.int .i64 (bS b g).2.2])∧∃X' S',BoxIn B P S' (bS b g).1.done (bS b g).1.done (bS b g).1.wait (bS b g).1.v X' w'∧BTo P X S w X' S' w':=by
 obtain⟨i0,hi,a6,a7,a8⟩:=bD ia;obtain⟨R,Y⟩:∃R,R=bS b g:=⟨_,rfl⟩;rw[<-Y];obtain⟨C,ai⟩:∃l,l=grL g x:=⟨_,rfl⟩;have ak:=hid (show grA g x.dA x.dc x.oA x.oc=C.toArray by rw[ai];rfl);have av:=hid (show C.length=7 by rw[ai];rfl);have a9:=hid (show ∀u∈C,u.oneCell'=true by rw[ai];exact iO (g,x));have aw:=hid ai;have a:=hid (show(Tryz.prog.info? 45).map (·.size)=some C.length by rw[av.out];kernel_rfl);have ay:Below w.heap.size w (w.alloc (.cells C.toArray 45)):=(ag _ _).alloc (aa _) _;have HC:=hid (am w (.cells C.toArray 45));have Z:=hid (λW (M:Below w.heap.size w W)=>check_any g x.dA x.dc x.oA x.oc S W (GrIn.agr hG (Agr.below M)) hT1 (hTb.below M));have HX:=hid h;have aQ:=hid hok;have az:=hid hG;rw[ak.out] at Z ⊢;clear hT1 hTb ai;have G:=hid ay;have ba:=hid (h.below ay);have aS:=hid (λq hq=>(h.own_lt (k:=q) hq).2);clear ay h hok hG;cases i:chkB g with
 | false=>
  obtain rfl:R=(b,0,80):=by rw[Y];unfold bS;rw[aJ i]
  rw[i] at Z;have Q:Hid (∀W,Below w.heap.size w W->Calls Tryz.prog 48 #[.agg C.toArray] W λe w'=>e= .returned (.int .i64 80)∧Below W.heap.size W w'):=Z;clear Z i Y;go_enter Tryz.func20,Tryz.ntmps20;go_upto_region 1 with fail;generalize hW:w.alloc (.cells C.toArray 45)=W at *;clear hW
  go_wp2_with (first
   |(refine cu rfl _ _ rfl w.heap.size _ _ _ rfl HC.out aH rfl a.out ?_)
   |(go_at_call 48;refine(Q.out _ G.out).mono ?_;rintro e w1 ⟨rfl,c⟩))
  go_ret2;exact⟨rfl,X,S,ba.out.below c,(BTo.of_below G.out).trans (BTo.of_below c)⟩
 | true=>
  rw[i] at Z;have Q:Hid (∀W,Below w.heap.size w W->Calls Tryz.prog 48 #[.agg C.toArray] W λe w'=>e= .returned (.int .i64 0)∧Below W.heap.size W w'):=Z;clear Z;have ac:=(eC i).1;obtain⟨kn,H⟩:∃k,k=iQ b g:=⟨_,rfl⟩
  have an:=hid (λW (M:Below w.heap.size w W)=>(show Calls Tryz.prog 49 #[.pointer (some ⟨P,0,none⟩),.agg C.toArray] W λe w'=>e= .returned (.bool kn)∧Below W.heap.size W w' by
   rw[H,<-ak.out];exact bxknown_any (S2:=S) (HX.out.below M) g x (λd hd=>(eC (aQ.out.chk d (au.2 (.inl hd)))).1) ac (by omega)))
  cases kn with
  | true=>
   obtain rfl:R=(b,0,210):=by rw[Y];unfold bS;rw[aC (by rw[i];decide),aJ H.symm]
   clear i H Y ac;go_enter Tryz.func20,Tryz.ntmps20;go_upto_region 1 with fail;generalize hW:w.alloc (.cells C.toArray 45)=W at *;clear hW
   go_wp2_with (first
    |(refine cu rfl _ _ rfl w.heap.size _ _ _ rfl HC.out aH rfl a.out ?_)
    |(refine cu rfl _ _ rfl w.heap.size _ _ _ rfl I.out aH rfl a.out ?_)
    |(go_at_call 48;refine(Q.out _ G.out).mono ?_;rintro e w1 ⟨rfl,c⟩;have I:=bK c HC;have A:=bT G c;clear c)
    |(go_at_call 49;refine(an.out _ A.out).mono ?_;rintro e w2 ⟨rfl,m⟩))
   go_ret2;exact⟨rfl,X,S,(HX.out.below A.out).below m,(BTo.of_below A.out).trans (BTo.of_below m)⟩
  | false=>
   obtain⟨ae,af⟩:=not_known H.symm;have ao:=chk_dl i;obtain⟨rd,T⟩:∃r,r=fp b.v g:=⟨_,rfl⟩
   have aA:=hid (λW (M:Below w.heap.size w W)=>(show Calls Tryz.prog 50 #[.pointer (some ⟨P,0,none⟩),.agg C.toArray] W λe w'=>e= .returned (.bool rd)∧Below W.heap.size W w' by
    rw[T,<-ak.out];exact bxready_any (HX.out.below M) g x (az.out.agr (Agr.below M)) ao))
   cases rd with
   | true=>
    obtain⟨D,hD⟩:∃D,D=bQ b.wait.length (b.put g):=⟨_,rfl⟩;obtain rfl:R=(D.1,D.2+1,0):=by rw[Y,hD];unfold bS;rw[aC (by rw[i];decide),aC (by rw[<-H];decide),aJ T.symm]
    have a2:=hid (aQ.out.put i T.symm ae af)
    have bb:=hid (λW (M:Below w.heap.size w W)=>(show Calls Tryz.prog 51 #[.pointer (some ⟨P,0,none⟩),.agg C.toArray] W λe w'=>e= .returned (.tuple #[])∧∃X' S',BoxIn B P S' (b.done++[g]) (b.done++[g]) b.wait (eE b.v g.s.r g.n) X' w'∧BTo P X S W X' S' w' by
     rw[<-ak.out];exact bxdeliver_any (HX.out.below M) g x (az.out.agr (Agr.below M)) ac (by omega) (by omega)))
    have aU:=hid (λX1 S1 W (bc:BoxIn B P S1 (b.done++[g]) (b.done++[g]) b.wait (eE b.v g.s.r g.n) X1 W)=>(show Calls Tryz.prog 52 #[.pointer (some ⟨P,0,none⟩)] W λe w'=>e= .returned (.int .i64 (D.2:Nat))∧∃X' S',BoxIn B P S' D.1.done D.1.done D.1.wait D.1.v X' w'∧BTo P X1 S1 W X' S' w' by
     rw[hD];exact bxdrain_any (b:=b.put g) bc a2.out (by show b.wait.length<=1000;omega) (by show(b.done++[g]).length+b.wait.length<=_;rw[al,dy];omega)))
    obtain⟨nd,aB⟩:∃n,n=D.2:=⟨_,rfl⟩;have bs:nd<=1000000:=by rw[aB,hD];exact aL (drainF_cnt _ _) (by omega)
    rw[<-aB] at aU ⊢;clear i H Y ac ae af T ao aB hD;go_enter Tryz.func20,Tryz.ntmps20;go_upto_region 1 with fail;generalize hW:w.alloc (.cells C.toArray 45)=W at *;clear hW
    go_wp2_with (first
     |(refine cu rfl _ _ rfl w.heap.size _ _ _ rfl HC.out aH rfl a.out ?_)
     |(refine cu rfl _ _ rfl w.heap.size _ _ _ rfl I.out aH rfl a.out ?_)
     |(refine cu rfl _ _ rfl w.heap.size _ _ _ rfl ab.out aH rfl a.out ?_)
     |(refine cu rfl _ _ rfl w.heap.size _ _ _ rfl J.out aH rfl a.out ?_)
     |(go_at_call 48;refine(Q.out _ G.out).mono ?_;rintro e w1 ⟨rfl,c⟩;have I:=bK c HC;have A:=bT G c;clear c)
     |(go_at_call 49;refine(an.out _ A.out).mono ?_;rintro e w2 ⟨rfl,m⟩;have ab:=bK m I;have U:=bT A m;clear m)
     |(go_at_call 50;refine(aA.out _ U.out).mono ?_;rintro e f ⟨rfl,L⟩;have J:=bK L ab;have E:=bT U L;clear L)
     |(go_at_call 51;refine(bb.out _ E.out).mono ?_;rintro e w4 ⟨rfl,X4,S4,aV,aY⟩;have bd:=hid aV;have bg:=hid ((BTo.of_below E.out).trans aY);clear aV aY)
     |(go_at_call 52;refine(aU.out X4 S4 _ bd.out).mono ?_;rintro e w5 ⟨rfl,X5,S5,bh,bi⟩))
    go_ret2;exact⟨by rw[Int.natCast_add,Int.add_comm];rfl,X5,S5,bh,bg.out.trans bi⟩
   | false=>
    have hw:b.wait.length=X.M.length:=HX.out.wlen.symm;obtain⟨wA,wc,aD⟩:=bZ HX.out.wait;have ad:=hid aD;by_cases V:100<=b.wait.length
    ·obtain rfl:R=(b,0,211):=by rw[Y];unfold bS;rw[aC (by rw[i];decide),aC (by rw[<-H];decide),aC (by rw[<-T];decide),aJ V]
     have aF:=hid (λW (M:Below w.heap.size w W)=>(show W.cell? ⟨P,1,none⟩=some (.slice wA X.M.length wc) by rw[(HX.out.below M).cell,ad.out];rfl));have i1:(100:Int)<=(X.M.length:Int):=by omega
     clear i H Y ac ae af T ao hw aD V;go_enter Tryz.func20,Tryz.ntmps20;go_upto_region 1 with fail;generalize hW:w.alloc (.cells C.toArray 45)=W at *;clear hW
     go_wp2_with (first
      |(refine cu rfl _ _ rfl w.heap.size _ _ _ rfl HC.out aH rfl a.out ?_)
      |(refine cu rfl _ _ rfl w.heap.size _ _ _ rfl I.out aH rfl a.out ?_)
      |(refine cu rfl _ _ rfl w.heap.size _ _ _ rfl ab.out aH rfl a.out ?_)
      |(go_at_call 48;refine(Q.out _ G.out).mono ?_;rintro e w1 ⟨rfl,c⟩;have I:=bK c HC;have A:=bT G c;clear c)
      |(go_at_call 49;refine(an.out _ A.out).mono ?_;rintro e w2 ⟨rfl,m⟩;have ab:=bK m I;have U:=bT A m;clear m)
      |(go_at_call 50;refine(aA.out _ U.out).mono ?_;rintro e f ⟨rfl,L⟩;have E:=bT U L;have p3:=aF.out _ E.out;clear L))
     go_ret2;exact⟨rfl,X,S,HX.out.below E.out,BTo.of_below E.out⟩
    ·obtain rfl:R=(⟨b.done,b.wait++[g],b.v⟩,0,0):=by rw[Y];unfold bS;rw[aC (by rw[i];decide),aC (by rw[<-H];decide),aC (by rw[<-T];decide),aC V]
     have aF:=hid (λW (M:Below w.heap.size w W)=>(show W.cell? ⟨P,1,none⟩=some (.slice wA X.M.length wc) by rw[(HX.out.below M).cell,ad.out];rfl));have i1:¬(100:Int)<=(X.M.length:Int):=by omega
     have bt:decide ((100:Int)<=(X.M.length:Int))=false:=aE i1;have bu:X.M.length<=100:=by omega
     clear i H Y ac ae af T ao hw aD V;go_enter Tryz.func20,Tryz.ntmps20;go_upto_region 1 with fail;generalize hW:w.alloc (.cells C.toArray 45)=W at *;clear hW
     go_upto_region 11 with(first
      |(refine cu rfl _ _ rfl w.heap.size _ _ _ rfl HC.out aH rfl a.out ?_)
      |(refine cu rfl _ _ rfl w.heap.size _ _ _ rfl I.out aH rfl a.out ?_)
      |(refine cu rfl _ _ rfl w.heap.size _ _ _ rfl ab.out aH rfl a.out ?_)
      |(go_at_call 48;refine(Q.out _ G.out).mono ?_;rintro e w1 ⟨rfl,c⟩;have I:=bK c HC;have A:=bT G c;clear c)
      |(go_at_call 49;refine(an.out _ A.out).mono ?_;rintro e w2 ⟨rfl,m⟩;have ab:=bK m I;have U:=bT A m;clear m)
      |(go_at_call 50;refine(aA.out _ U.out).mono ?_;rintro e f ⟨rfl,L⟩;have J:=bK L ab;have E:=bT U L;have p3:=aF.out _ E.out;clear L))
     have N:=hid (HX.out.below E.out);have bj:=hid (az.out.agr (Agr.below E.out));have bk:w.heap.size<f.heap.size:=lt_of_block J.out;have aZ:P<f.heap.size:=lt_of_block N.out.obj;have bv:P<w.heap.size:=aS.out P (.inl rfl);have bw:B<=P:=N.out.hP;obtain⟨⟨t,r⟩,n,u,⟨s,z⟩,ops⟩:=g;obtain⟨dA,dc,oA,oc⟩:=x;have bl:C=[.int .i64 t,.int .i64 r,.int .i64 n,.slice dA u.length dc,.int .i64 s,.int .i64 z,.slice oA ops.length oc]:=aw.out;subst bl;have aw:=hid (show[.int .i64 t,.int .i64 r,.int .i64 n,.slice dA u.length dc,.int .i64 s,.int .i64 z,.slice oA ops.length oc]=grC_ (⟨⟨t,r⟩,n,u,⟨s,z⟩,ops⟩,⟨dA,dc,oA,oc⟩) from rfl);refine aR (S:=λw'=>w'.heap[w.heap.size]? =some (.cells ([t,r,n,.slice dA u.length dc,s,z,.slice oA ops.length oc]:List Value).toArray 45 (0,0))) (by kernel_rfl) ?_
     try(change wpAnyH _ _ _ _ _ _ _ _ (World.drew _))
     refine tk 0 (.pointer (some ⟨P,0,none⟩)) ((show f.drew.heap[w.heap.size]? =_ from J.out)) ?_;go_simp;refine tk 1 (.pointer (some ⟨P,0,none⟩)) ((show f.drew.heap[w.heap.size]? =_ from J.out)) ?_;go_simp;refine tk 2 (.pointer (some ⟨P,0,none⟩)) ((show f.drew.heap[w.heap.size]? =_ from J.out)) ?_;go_simp;refine tk 3 (.pointer (some ⟨P,1,none⟩)) ((show f.drew.heap[w.heap.size]? =_ from J.out)) ?_;go_simp;refine tk2 5 (.agg ([t,r,n,.slice dA u.length dc,s,z,.slice oA ops.length oc]:List Value).toArray) rfl (aT (by rfl) _ _ rfl w.heap.size 0 rfl [t,r,n,.slice dA u.length dc,s,z,.slice oA ops.length oc] _ (λW' bm=>bf bm) aH rfl a.out) ((show f.drew.heap[w.heap.size]? =_ from J.out)) ?_;go_simp;have aG:=hid (show Below f.heap.size f (f.alloc (.cells ([t,r,n,.slice dA u.length dc,s,z,.slice oA ops.length oc]:List Value).toArray 45)).drew from⟨rfl,rfl,rfl,by simp,λk hk=>ax _ _ _ hk⟩);have ap:=hid (show(f.alloc (.cells ([t,r,n,.slice dA u.length dc,s,z,.slice oA ops.length oc]:List Value).toArray 45)).drew.heap[w.heap.size]? =_ from(ax f (.cells ([t,r,n,.slice dA u.length dc,s,z,.slice oA ops.length oc]:List Value).toArray 45) _ bk).trans J.out);have a0:=hid (N.out.wait.alloc (.cells ([t,r,n,.slice dA u.length dc,s,z,.slice oA ops.length oc]:List Value).toArray 45))
     have bn:=hid (λ(j:Nat) (y:Value) (h:([t,r,n,.slice dA u.length dc,s,z,.slice oA ops.length oc]:List Value)[j]? =some y)=>dH f [t,r,n,.slice dA u.length dc,s,z,.slice oA ops.length oc] 45 j y h);have aj:(f.alloc (.cells ([t,r,n,.slice dA u.length dc,s,z,.slice oA ops.length oc]:List Value).toArray 45)).drew.heap.size=f.heap.size+1:=by show(f.alloc _).heap.size=_;simp
     have bx:(f.alloc (.cells ([t,r,n,.slice dA u.length dc,s,z,.slice oA ops.length oc]:List Value).toArray 45)).drew.cell? ⟨P,1,none⟩=some (.slice wA X.M.length wc):=by show(f.alloc _).cell? _=_;rw[crw ((ax f (.cells ([t,r,n,.slice dA u.length dc,s,z,.slice oA ops.length oc]:List Value).toArray 45) P aZ).trans N.out.obj),ad.out];rfl
     have a3:([t,r,n,.slice dA u.length dc,s,z,.slice oA ops.length oc]:List Value).length=1*7:=av.out;rw[ad.out] at a0;refine dp (rs:=[4,6]) (by kernel_rfl) (by simp) ?_;refine aX rfl (λK F=> ?_) (aX rfl (λK F=> ?_) cX)
     focus
      go_simp;refine F.out _ _ ((show f.drew.heap[w.heap.size]? =_ from J.out)) (λ_=> ?_);clear F K;refine rd1 6 λK F=> ?_;go_simp;refine F.out _ _ (ap.out) (λ_=> ?_);clear F K
     rotate_left
     focus
      go_simp;refine F.out _ _ (ap.out) (λ_=> ?_);clear F K;refine rd1 4 λK F=> ?_;go_simp;refine F.out _ _ (ap.out) (λ_=> ?_);clear F K
     all_goals
      refine rd1 7 λK F=> ?_;refine dW _ (by rfl) _ _ 25 (by rfl) B 45 i0 (.agg #[(0:Int),(0:Int),(0:Int),.slice none 0 0,(0:Int),(0:Int),.slice none 0 0]) 7 88 bV hi a6 a7 a8 rfl (by decide) (.slice wA X.M.length wc) X.M.length _ (by rfl) (by exact a0.out) ⟨f.heap.size,0,none⟩ 1 1 [t,r,n,.slice dA u.length dc,s,z,.slice oA ops.length oc] (by rfl) a3 (by exact bn.out) a9.out (by decide) (by unfold maxLen;omega) (by omega) (by rw[aj];omega) (f.heap.size+1) aj ?_;intro gq aK w5 ah O aM a4;rw[<-ad.out] at O aM;have aN:some w.heap.size≠X.wv.ownBlock:=λe=>by have:=aS.out _ (.inr (.inr (.inr e.symm)));omega
      have aq:=hid ((O.block w.heap.size (by rw[aj];omega) aN).trans ap.out);have a1:some P≠X.wv.ownBlock:=λe=>N.out.wP e.symm;have aP:=(O.block P (by rw[aj];omega) a1).trans ((aG.out.block P aZ).trans N.out.obj);have d5:w5.cell? ⟨P,1,none⟩=some (.slice wA X.M.length wc):=by rw[crw aP,ad.out];rfl
      have f5:w5.frozen? ⟨P,1,none⟩=false:=aW _ _ _ _ _ aP;have ar:w5.ownsRow B 45 7 (.slice (some ⟨gq,0,none⟩) (X.M.length+1) aK) (X.M++[((⟨⟨t,r⟩,n,u,⟨s,z⟩,ops⟩:Grp),(⟨dA,dc,oA,oc⟩:GrX))]).length ((X.M++[((⟨⟨t,r⟩,n,u,⟨s,z⟩,ops⟩:Grp),(⟨dA,dc,oA,oc⟩:GrX))]).flatMap grC_):=by rw[al,aI,bP];rw[aw.out] at ah;exact ah
      have a5:=hid (N.out.wset (wv':= .slice (some ⟨gq,0,none⟩) (X.M.length+1) aK) (M':=X.M++[((⟨⟨t,r⟩,n,u,⟨s,z⟩,ops⟩:Grp),(⟨dA,dc,oA,oc⟩:GrX))]) aG.out O ar (aM.elim (λe=> .inl (by rw[e];rfl)) (λe=> .inr (by rw[e,aj];rfl))) (λp hp=>by rcases au.1 hp with hp|hp;exact N.out.good p (au.2 (.inr hp));rw[aO] at hp;rw[hp];exact bj.out));clear ah ar O aM aN a1 a4 aP;refine F.out _ _ (aq.out) (λ_=> ?_);clear F K;refine tk 8 (.pointer (some ⟨P,0,none⟩)) (aq.out) ?_;go_simp;refine tk 9 (.pointer (some ⟨P,1,none⟩)) (aq.out) ?_;go_simp;refine rd1 10 λK F=> ?_;go_simp;have bo:=hid ((cK w5 ⟨P,1,none⟩ (.slice (some ⟨gq,0,none⟩) (X.M.length+1) aK) w.heap.size (by show w.heap.size≠P;omega)).trans aq.out);refine F.out _ _ (bo.out) (λ_=> ?_);clear F K;refine be (by kernel_rfl) ?_ _;go_simp;obtain⟨bp,br⟩:=a5.out;go_wp2;go_ret2;refine⟨rfl,_,S,?_,(BTo.of_below E.out).trans br⟩;have:=bp;rw[bq,N.out.wl] at this;exact this
def boxN (w:World):BoxX:=⟨.slice none 0 0,.slice none 0 0,none,0,w.heap.size,[],[]⟩
theorem BoxIn.made {w w':World} {S:Nat->Prop} {B:Nat} (hB:B<=w.heap.size) (hS:∀k,S k->k<w.heap.size)
  (hw:w'=(w.alloc (.map #[] 0)).alloc (.cells #[.slice none 0 0,.slice none 0 0,.map (some w.heap.size),.slice none 0 0] 89)):
  BoxIn B (w.heap.size+1) S [] [] [] [] (boxN w) w':=by
 subst hw;have a:(w.alloc (.map #[] 0)).heap.size=w.heap.size+1:=by simp
 refine⟨?_,aF _ _ _ _,aF _ _ _ _,rfl,rfl,?_,RowG.zero,aa _,aq _,aq _,(λp c=>by cases c),by omega,hB,(by show w.heap.size+1≠w.heap.size;omega),(λe=>by cases e),(λe=>by cases e),(λe=>by cases e),(λe=>by cases e),(λg e=>by cases e),λk b=>⟨?_,?_⟩⟩
 ·have:=am (w.alloc (.map #[] 0)) (.cells #[.slice none 0 0,.slice none 0 0,.map (some w.heap.size),.slice none 0 0] 89);rw[a] at this;exact this
 ·exact(World.ownsMap_made w Tryz.prog 42 unitElem).kept (bi _ _ none) (by simp)
 ·have:=hS k b;simp;omega
 ·have:=hS k b;rintro(h|h|h|h)
  ·omega
  ·have h:k=w.heap.size:=h;omega
  ·cases h
  ·cases h
theorem bxnew_any (w:World):Calls Tryz.prog 18 #[] w λe w'=>e= .returned (.pointer (some ⟨w.heap.size+1,0,none⟩))∧w'=(w.alloc (.map #[] 0)).alloc (.cells #[.slice none 0 0,.slice none 0 0,.map (some w.heap.size),.slice none 0 0] 89):=by
 have a:(w.alloc (.map #[] 0)).heap.size=w.heap.size+1:=by simp
 have c:=hid a;clear a;have b:=@run_makeMap Tryz.prog;go_enter Tryz.func18,Tryz.ntmps18;go_wp2;go_ret;exact⟨rfl,rfl⟩
theorem clonegr_any (A:Option Addr) (n c:Nat) (xs:List Value) (w:World) (hx:xs.length=n*7) (h0:A=none->n=0) (hc:∀ad,A=some ad->∀j u,xs[j]? =some u->w.cell? (ad.add j)=some u) (h1:∀u∈xs,u.oneCell'=true) (hl:n<=1000000):
  Calls Tryz.prog 53 #[.slice A n c] w λe w'=>∃A' c',e= .returned (.slice A' n c')∧w'.ownsRow w.heap.size 45 7 (.slice A' n c') n xs∧Below w.heap.size w w':=by
 obtain⟨m,o,h,i,l⟩:=bD ia;have v:∀(w:World) (a:Option Addr) (n c g c':Nat),(binOp .eql 25 (.slice a n c) (.slice none g c')).run Tryz.prog w= .ok (.bool a.isNone) w:=λw a n c g c'=>Lib.run_eql_slice_nil w _ _ a n c g c' bV;cases A with
 |none=>
  obtain rfl:=h0 rfl;obtain rfl:xs=[]:=ci.1 (by omega);clear h0 hc h1 hx;go_enter Tryz.func53,Tryz.ntmps53;go_wp2;go_ret;exact⟨_,_,rfl,aF _ _ _ _,ag _ _⟩
 |some ad=>
  have p:=hid (hc ad rfl);have q:=hid h1;have r:=hid hx;clear h0 hc h1 hx;have x:∀w,Sem.run Tryz.prog (underlying 25) w= .ok (TypeDesc.slice 45) w:=run_underlying bV;go_enter Tryz.func53,Tryz.ntmps53;go_wp2_with (at_builtin;refine bu _ rfl _ _ 25 rfl w.heap.size 45 m (.agg #[(0:Int),(0:Int),(0:Int),.slice none 0 0,(0:Int),(0:Int),.slice none 0 0]) 7 88 bV o h i l rfl (by decide) _ _ _ rfl (World.ownsRow_made w #[] 0 (aa _) (aq _) rfl) ad n c xs rfl r.out (λj u s=>Lib.cell?_alloc_some _ (p.out j u s)) q.out (by unfold maxLen;omega) (by omega) (by simp) ?_;intro y z b d t);go_ret;obtain⟨A',c',rfl⟩:=bZ b;rw[bN] at b ⊢;exact⟨_,_,rfl,by simpa using b,((ag _ w).alloc (aa _) _).grown d (by simp) (by intro k f;have f:some w.heap.size=some k:=f;injection f with f;omega)⟩
theorem row_at {w:World} {B E s n:Nat} {A:Option Addr} {c:Nat} {xs:List Value} (h:w.ownsRow B E s (.slice A n c) n xs):(A=none->n=0)∧∀ad,A=some ad->∀j u,xs[j]? =some u->w.cell? (ad.add j)=some u:=by
 rcases h.2 with⟨e,rfl⟩|⟨g,cap,cur,e,-,hg,-,-,-,htk⟩
 ·cases e;exact⟨λ_=>rfl,(λad e=>by cases e)⟩
 ·cases e;refine⟨(λe=>by cases e),λad e j u a=> ?_⟩;cases e;rw[Addr.add_mid,bN,aD _ _ _ _ _ _ hg,<-dz];rw[<-htk,cm] at a;split at a
  ·exact a
  ·cases a
theorem row_cap {w:World} {B E s n c:Nat} {A:Option Addr} {xs:List Value} (h:w.ownsRow B E s (.slice A n c) n xs):n<=c:=by
 rcases h.2 with⟨e,rfl⟩|⟨g,cap,cur,e,-,-,h3,-⟩
 ·exact aq _
 ·cases e;exact h3
theorem bxdone_any {B P:Nat} {S:Nat->Prop} {dn mp wt:List Grp} {v:List Int} {X:BoxX} {w:World} (h:BoxIn B P S dn mp wt v X w) (hl:dn.length<=1000000):
  Calls Tryz.prog 21 #[.pointer (some ⟨P,0,none⟩)] w λe w'=>∃A c,e= .returned (.slice A dn.length c)∧w'.ownsRow w.heap.size 45 7 (.slice A X.L.length c) X.L.length (X.L.flatMap grC_)∧Below w.heap.size w w':=by
 obtain⟨g,i,b⟩:=bZ h.done;have d:=h.done;rw[b] at d;have a:=row_at d;have j:X.L.length=dn.length:=h.dlen;have k:=hid (clonegr_any g X.L.length i (X.L.flatMap grC_) w (kD _) a.1 a.2 (λu l=>by obtain⟨x,-,a⟩:=dI.1 l;exact iO x u a) (by omega));have n:w.cell? ⟨P,0,none⟩=some (.slice g X.L.length i):=by rw[h.cell,<-b];rfl
 rw[<-j];clear h d a b hl j;go_enter Tryz.func21,Tryz.ntmps21;go_wp2_with (go_at_call 53;refine k.out.mono ?_;rintro e o ⟨p,q,rfl,f,m⟩);go_ret;exact⟨_,_,rfl,f,m⟩
theorem getD_fst' (L:List (Grp×GrX)) (k:Nat):(L.getD k gp0).1=(L.map Prod.fst).getD k gz:=by
 rw[ae,ae,cT];cases L[k]? <;>rfl
theorem aheadV_take:∀(l:List Grp) (v u:List Int),dM v l=some u->∀j,j<l.length->∃x,dM v (l.take j)=some x∧chkB (l.getD j gz)=true∧covB x (l.getD j gz).deps=true∧atV x (l.getD j gz).s.r=(l.getD j gz).n-1∧dM v (l.take (j+1))=some (eE x (l.getD j gz).s.r (l.getD j gz).n)
 | [],v,u,h,j,hj=>absurd hj (cG _)
 | g::l,v,u,h,0,hj=>by
  rw[dM] at h
  split at h
  ·rename_i c
   simp only[ap,ak] at c
   refine⟨v,rfl,c.1.1,c.1.2,c.2,?_⟩
   show dM v (g::l.take 0)=_
   rw[dM,aJ (by simp[c.1.1,c.1.2,c.2])]
   rw[iu];rfl
  ·cases h
 | g::l,v,u,h,j+1,hj=>by
  rw[dM] at h
  split at h
  ·rename_i c
   obtain⟨x,h1,h2,h3,h4,h5⟩:=aheadV_take l _ u h j (by simpa using hj)
   refine⟨x,?_,h2,h3,h4,?_⟩
   ·show dM v (g::l.take j)=_
    rw[dM,aJ c];exact h1
   ·show dM v (g::l.take (j+1))=_
    rw[dM,aJ c];exact h5
  ·cases h
end
end Go.Proofs.YtkhmicndehlneaaGreatDoor
