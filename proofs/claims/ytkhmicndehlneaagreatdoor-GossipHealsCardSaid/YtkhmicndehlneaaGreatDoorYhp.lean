/- Part 16 of the walks and plain laws that this claim uses, joined. Conditions: as each theorem states. -/
import Derived.Deep.AppendLies
import Derived.Deep.LoopGhost
import Derived.Deep.RegionLaw
import Derived.Laws.CopyOwn
import Derived.Lib.SliceRun
import Derived.WalkMore
import Derived.Test.YtkhmicndehlneaaGreatDoorYho
namespace Go.Proofs.YtkhmicndehlneaaGreatDoor
set_option maxRecDepth 100000
set_option maxHeartbeats 16000000
set_option linter.unusedVariables false
section
open Go.RowKit Go.Lib Go.Sort
attribute [local go_sem ↓] Go.wp_at_zero Go.wp_at_succ
theorem setV_len (v:List Int) (r n:Int):(setV v r n).length=max v.length r.toNat:=by unfold setV;simp
theorem vecS_plain {w:World} {S:Nat->Prop} {A:Option Addr} {xs:List Int} (h:VecS w S A xs):VecS w S A (bW xs):=λk hk=>by
 obtain⟨b,o,e,hS,hb,hc⟩:=h k (bC hk (pv_len xs))
 exact⟨b,o,e,hS,hb,λj hj=>by rw[hc j hj];simp only[pv_getD]⟩
theorem take_int (l:List Int) (k:Nat) (h:k<l.length):(l.take (k+1)).flatMap iE=(l.take k).flatMap iE++iE (l.getD k 0):=by
 rw[cv h,aI];have:l.getD k 0=l[k]:=by rw[ae,an h];rfl
 rw[this];simp
def WithQ (r:List Int) (w:World) (e:Ending) (w':World):Prop:=Below w.heap.size w w'∧∃A c,e= .returned (.tuple #[.slice A r.length c,(0:Int)])∧VecS w' (λk=>w.heap.size<=k) A r∧r.length<=c∧c<=maxLen
theorem refwith_any (A:Option Addr) (c:Nat) (v:List Int) (r n:Int) (w:World) (hv:v.length<=1000) (hr1:1<=r) (hr2:r<=16) (hA:VecR w A v):
  Calls Tryz.prog 56 #[.slice A v.length c,r,n] w λe w'=>WithQ (eE v r n) w e w':=by
 obtain⟨xs,hxs⟩:∃xs,xs=setV v r n:=⟨_,rfl⟩;have HW:=hid (show eE v r n=bW xs by rw[hxs];rfl);have hxl:xs.length=max v.length r.toNat:=by rw[hxs,setV_len]
 have HXG:=hid (show ∀k:Nat,xs.getD k 0=if (k:Int)+1=r then n else v.getD k 0 from λk=>by rw[hxs];exact setV_getD v r n k hr1);obtain⟨m,hm⟩:∃m,m=xs.length:=⟨_,rfl⟩;have hml:m<=1000:=by omega
 have HM:=hid (show m=max v.length r.toNat by rw[hm,hxl]);have HXL:=hid hm;have HA:=hid hA;rw[HW.out];obtain⟨i0,hi,hz0,hz1,hz2⟩:=bD infointC_;have t1:¬r<1:=by omega
 have t2:¬16<r:=by omega
 have t3:decide (r<1)=false:=aE t1;have t4:decide (16<r)=false:=aE t2;clear hxs hxl hm hA;go_enter Tryz.func56,Tryz.ntmps56;by_cases hlt0:(v.length:Int)<r
 all_goals
  go_wp2_with fail;clear t3 t4;go_loopw [8,9] (λo i wr=>∃k:Nat,i= .int .i64 ((k:Int)+1)∧k<=m∧wr.ownsRow w.heap.size 3 1 o k ((xs.take k).flatMap iE)∧Hid (Below w.heap.size w wr)) (λ_ i _=>m+1-(RowKit.intOf i).toNat)
  case atStart=>exact⟨0,by go_num,aq _,⟨rfl,.inl ⟨rfl,rfl⟩⟩,hid (ag _ _)⟩
  case round=>
   obtain⟨k,rfl,hk,hO,HB⟩:=hrel;have tU:(v.length:Int)<r->((k:Int)+1<=r↔k<m):=λh=>by have:=HM.out;omega
   have tV:¬(v.length:Int)<r->((k:Int)+1<=(v.length:Int)↔k<m):=λh=>by have:=HM.out;omega
   by_cases hlt:k<m
   ·first
     |(have tt:=(tU hlt0).2 hlt)
     |(have tt:=(tV (Int.not_lt.2 hlt0)).2 hlt)
    have td:=aN tt;have HTK:=hid (take_int xs k (by rw[<-HXL.out];exact hlt));have HBO:=hid (λg e=>(hO.lt g e).1);have HO1:=hid hO;have hsz:=HB.out.size;clear hO tU tV;by_cases hkr:(k:Int)+1=r
    ·have s1:((k:Int)+1 == r)=true:=by rw[ce];exact hkr
     have HX:=hid (show xs.getD k 0=n by rw[HXG.out,aJ hkr]);have HKR:=hid hkr;clear hkr;go_wp2_with (at_builtin;refine bu _ rfl _ _ 27 rfl w.heap.size 3 i0 (.int .i64 0) 1 8 Tryz.underlying27 hi hz0 hz1 hz2 rfl (by decide) _ _ _ rfl (by exact HO1.out.alloc _) ⟨wr.heap.size,0,none⟩ 1 1 (iE n) rfl rfl (by exact dH _ _ _) (by exact ocintC_ _) (by unfold maxLen;omega) (by omega) (by simp;omega) ?_;intro v' w3 hown' hgrow _;have HO3:=hid hown';have HG3:=hid hgrow;clear hown' hgrow);go_roundw
     case rel=>exact⟨k+1,by go_num,by omega,by rw[HTK.out,HX.out];exact HO3.out,hid ((HB.out.alloc HB.out.size _).grown HG3.out (HB.out.alloc HB.out.size _).size (λg e=>HBO.out g e))⟩
     case measure=>simp[RowKit.intOf];omega
    ·have s1:((k:Int)+1 == r)=false:=by rw[aV];exact hkr
     have HX:=hid (show xs.getD k 0=v.getD k 0 by rw[HXG.out,aC hkr]);have CA:=fh A c v ((k:Int)+1) wr (by omega) (HA.out.below HB.out);rw[show atV v ((k:Int)+1)=v.getD k 0 from kG] at CA;obtain⟨y,hy⟩:∃y,y=v.getD k 0:=⟨_,rfl⟩;rw[<-hy] at CA;have HY:=hid hy;have HCA:=hid CA;clear hkr CA hy;go_wp2_with fail;refine HCA.out.mono ?_;rintro e w1 ⟨rfl,rfl⟩;go_wp2_with (at_builtin;refine bu _ rfl _ _ 27 rfl w.heap.size 3 i0 (.int .i64 0) 1 8 Tryz.underlying27 hi hz0 hz1 hz2 rfl (by decide) _ _ _ rfl (by exact HO1.out.alloc _) ⟨w1.heap.size,0,none⟩ 1 1 (iE y) rfl rfl (by exact dH _ _ _) (by exact ocintC_ _) (by unfold maxLen;omega) (by omega) (by simp;omega) ?_;intro v' w3 hown' hgrow _;have HO3:=hid hown';have HG3:=hid hgrow;clear hown' hgrow);go_roundw
     case rel=>exact⟨k+1,by go_num,by omega,by rw[HTK.out,HX.out,<-HY.out];exact HO3.out,hid ((HB.out.alloc HB.out.size _).grown HG3.out (HB.out.alloc HB.out.size _).size (λg e=>HBO.out g e))⟩
     case measure=>simp[RowKit.intOf];omega
   ·obtain rfl:k=m:=by omega
    first
     |(have tt:¬((k:Int)+1<=r):=λh=>hlt ((tU hlt0).1 h))
     |(have tt:¬((k:Int)+1<=(v.length:Int)):=λh=>hlt ((tV (Int.not_lt.2 hlt0)).1 h))
    have td:=aE tt;obtain⟨o,oc,rfl⟩:=bZ hO;have hO2:wr.ownsRow w.heap.size 3 1 (.slice o xs.length oc) xs.length (xs.flatMap iE):=by
     have:=hO;rw[HXL.out,aK] at this;exact this
    have hVS:=vec_own hO2;have hcap:=kB hO2;have HVS:=hid hVS;have HCP:=hid hcap;have hcl:oc<=9223372036854775807:=by have:=hcap.2;unfold maxLen at this;omega
    have HPL:=hid (show Calls Tryz.prog 105 #[.slice o k oc] wr λe w'=>e= .returned (.slice o (bW xs).length oc)∧w'=wr by have:=kz o oc xs wr hcap.1 (by omega) hVS.vec;rw[<-HXL.out] at this;exact this);clear hO hO2 hVS hcap hlt tU tV;go_wp2_with fail;refine HPL.out.mono ?_;rintro e w1 ⟨rfl,rfl⟩;go_wp2;go_ret2;exact⟨HB.out,o,oc,rfl,vecS_plain HVS.out,by have:=pv_len xs;have:=HCP.out.1;omega,HCP.out.2⟩
theorem withV_len (v:List Int) (r n:Int) (h:v.length<=16) (hr:r<=16):(eE v r n).length<=16:=by
 have:=pv_len (setV v r n);have h2:=setV_len v r n;unfold eE;omega
end
section
open Go.RowKit Go.Lib Go.Sort
theorem ki (M:List (Grp×GrX)) (k:Nat):(M.drop k).flatMap grC_=(M.flatMap grC_).drop (k*7):=by
 induction M generalizing k with
 |nil=>simp
 | cons x xs ih=>
  cases k with
  |zero=>simp
  |succ k=>
   rw[List.drop_succ_cons,ih,cW,show(k+1)*7=(grC_ x).length+k*7 from by show _=7+k*7;omega,List.drop_append];simp
theorem flat_take (M:List (Grp×GrX)) (k:Nat):(M.take k).flatMap grC_=(M.flatMap grC_).take (k*7):=by
 induction M generalizing k with
 |nil=>simp
 | cons x xs ih=>
  cases k with
  |zero=>simp
  |succ k=>
   rw[List.take_succ_cons,cW,ih,cW,show(k+1)*7=(grC_ x).length+k*7 from by show _=7+k*7;omega,List.take_append];simp;exact(di (Nat.le_add_right _ _)).symm
theorem flat_erase (M:List (Grp×GrX)) (k:Nat):(M.eraseIdx k).flatMap grC_=(M.flatMap grC_).take (k*7)++(M.flatMap grC_).drop ((k+1)*7):=by
 rw[gu,aI,flat_take,ki]
end
section
open Go.RowKit Go.Lib Go.Sort
attribute [local go_sem ↓] Go.wp_at_zero Go.wp_at_succ
def bestI:Option Nat->Int
 |none=> -1
 |some k=>(k:Int)
theorem BxOk.step {b:Bx} (h:BxOk b) {k:Nat} (hb:eU b.v b.wait b.wait.length=some k) (ho:oldB b.v (b.wait.getD k gz)=false):BxOk (Bx.put ⟨b.done,b.wait.eraseIdx k,b.v⟩ (b.wait.getD k gz)):=by
 obtain⟨hk,hr⟩:=gH hb;refine(h.drop k).put (h.chk _ (au.2 (.inr (gf hk)))) hr ho λx hx=> ?_;have hn:=h.apart;rw[bq,dK] at hn;rcases au.1 hx with hx|hx
 ·exact λe=>hn.2.2 _ (bj.2 ⟨x,hx,rfl⟩) _ (bj.2 ⟨_,gf hk,rfl⟩) e
 ·exact erase_ne hk hn.2.1 x hx
theorem map_erase {α β:Type} (f:α->β) (l:List α) (k:Nat):(l.eraseIdx k).map f=(l.map f).eraseIdx k:=by rw[gu,gu,bq,List.map_take,List.map_drop]
theorem kg (M:List (Grp×GrX)) (wt:List Grp) (h:M.map Prod.fst=wt) (k:Nat):(M.getD k gp0).1=wt.getD k gz:=by
 subst h;rw[ae,ae,cT];cases M[k]? <;>rfl
theorem getD_memP {M:List (Grp×GrX)} {k:Nat} (hk:k<M.length):M.getD k gp0∈M:=by
 rw[ae,an hk];exact bU hk
theorem chk_dl {g:Grp} (h:chkB g=true):g.deps.length<=1000:=by
 simp only[chkB,gC,ap] at h;have:=(vecB_nn h.1.1.2).2;omega
theorem bf {W:World} {g:Nat} {l:List Value} {T:TypeId} (h:W.heap[g]? =some (.cells l.toArray T (0,0))):W.rangeAt g 0 l:=λj v hv=>by
 rw[bN,aD _ _ _ _ _ _ h,List.getElem?_toArray];exact hv
theorem row_at {w:World} {B E s n:Nat} {A:Option Addr} {c:Nat} {xs:List Value} (h:w.ownsRow B E s (.slice A n c) n xs):(A=none->n=0)∧∀ad,A=some ad->∀j u,xs[j]? =some u->w.cell? (ad.add j)=some u:=by
 rcases h.2 with⟨e,rfl⟩|⟨g,cap,cur,e,-,hg,-,-,-,htk⟩
 ·cases e;exact⟨λ_=>rfl,(λad e=>by cases e)⟩
 ·cases e;refine⟨(λe=>by cases e),λad e j u hj=> ?_⟩;cases e;rw[Addr.add_mid,bN,aD _ _ _ _ _ _ hg,<-dz];rw[<-htk,cm] at hj;split at hj
  ·exact hj
  ·cases hj
theorem row_cap {w:World} {B E s n c:Nat} {A:Option Addr} {xs:List Value} (h:w.ownsRow B E s (.slice A n c) n xs):n<=c:=by
 rcases h.2 with⟨e,rfl⟩|⟨g,cap,cur,e,-,-,h3,-⟩
 ·exact aq _
 ·cases e;exact h3
end
section
section
open Go.RowKit Go.Lib Go.Sort
attribute [local go_sem ↓] Go.wp_at_zero Go.wp_at_succ
def missL (v:List Int) (L:List (Grp×GrX)):List (Grp×GrX):=L.filter (λp=> !oldB v p.1)
theorem missL_map (v:List Int) (L:List (Grp×GrX)):(missL v L).map Prod.fst=(L.map Prod.fst).filter (λg=> !oldB v g):=by
 unfold missL;rw[List.filter_map];rfl
theorem missL_succ {v:List Int} {L:List (Grp×GrX)} {k:Nat} (h:k<L.length):missL v (L.take (k+1))=missL v (L.take k)++(if oldB v (L.getD k gp0).1=true then [] else [L.getD k gp0]):=by
 unfold missL;rw[List.take_add_one,jD,an h,ae,an h];congr 1;cases e:oldB v L[k].1<;>simp[e]
end
end
section
open Go.RowKit Go.Lib Go.Sort
section
variable {α : Type}
def RowF (w:World) (S:Nat->Prop) (A:Option Addr) (s:Nat) (f:α->List Value) (z:α) (L:List α):Prop:=RowG w S A L.length s (λk j=>(f (L.getD k z)).getD j undef)
variable {w w' : World} {S T : Nat → Prop} {A : Option Addr} {s : Nat} {f : α → List Value} {z : α} {L : List α}
theorem RowF.range (h:RowF w S A s f z L) (hf:∀x,(f x).length=s) {k:Nat} (hk:k<L.length):∃b o,A=some ⟨b,o,none⟩∧S b∧b<w.heap.size∧w.rangeAt b (o+k*s) (f (L.getD k z)):=by
 obtain⟨b,o,e,hS,hb,hc⟩:=h k hk;refine⟨b,o,e,hS,hb,λj v hv=> ?_⟩;have hj:j<s:=by rw[<-hf (L.getD k z)];exact(ep.1 hv).1
 rw[hc j hj];show some ((f (L.getD k z)).getD j undef)=some v;rw[ae,hv];rfl
theorem RowF.agr (h:RowF w S A s f z L) (ha:Agr S w w'):RowF w' S A s f z L:=RowG.agr h ha
theorem RowF.below (h:RowF w S A s f z L) (ha:Below w.heap.size w w'):RowF w' S A s f z L:=RowG.agr h (Agr.below ha)
theorem RowF.sub (h:RowF w S A s f z L) (hs:∀b,b<w.heap.size->S b->T b):RowF w T A s f z L:=RowG.sub h hs
theorem RowF.nil {c:Option Addr}:RowF w S c s f z ([]:List α):=λk hk=>absurd hk (cG k)
theorem RowF.own {B E:Nat} {c:Nat} (hf:∀x,(f x).length=s) (h:w.ownsRow B E s (.slice A L.length c) L.length (L.flatMap f)):RowF w (λk=>B<=k) A s f z L:=by
 refine jU h λk j hk hj=> ?_;rw[gG (s:=s) hf L k j z hk hj];have:j<(f (L.getD k z)).length:=by rw[hf];exact hj
 generalize f (L.getD k z)=q at *;rw[an this,ae,an this];rfl
theorem own_block {B E n c:Nat} {xs:List Value} (h:w.ownsRow B E s (.slice A n c) n xs) (h0:0<n):∃g cur,A=some ⟨g,0,none⟩∧B<=g∧w.heap[g]? =some (.cells cur E (0,0))∧n<=c∧c<=maxLen∧cur.size=c*s∧cur.toList.take (n*s)=xs:=by
 rcases h.2 with⟨e1,e2⟩|⟨g,cap,cur,e1,e2,e3,e4,e5,e6,e7⟩
 ·omega
 ·cases e1;exact⟨g,cur,rfl,e2,e3,e4,e5,e6,e7⟩
theorem jY {B E c:Nat} (hf:∀x,(f x).length=s) (h:w.ownsRow B E s (.slice A L.length c) L.length (L.flatMap f)) {k:Nat} (hk:k<L.length) (z:α):∃g,A=some ⟨g,0,none⟩∧B<=g∧g<w.heap.size∧w.rangeAt g (k*s) (f (L.getD k z)):=by
 obtain⟨g,cur,rfl,hB,hg,-,-,hsz,htk⟩:=own_block h (by omega);refine⟨g,rfl,hB,lt_of_block hg,λj v hv=> ?_⟩;have hj:j<s:=by rw[<-hf (L.getD k z)];exact(ep.1 hv).1
 have hlt:k*s+j<L.length*s:=by
  have:(k+1)*s<=L.length*s:=fd s hk;rw[Nat.add_mul,Nat.one_mul] at this;omega
 rw[crw hg,<-dz];have h9:=gG (s:=s) hf L k j z hk hj;rw[<-htk,cm,aJ hlt] at h9;rw[h9];exact hv
theorem ey {B E n c:Nat} {xs:List Value} (h:w.ownsRow B E s (.slice A n c) n xs) {k:Nat} (hk:k<n):∃g,A=some ⟨g,0,none⟩∧w.there g (k*s) s:=by
 obtain⟨g,cur,rfl,hB,hg,h1,-,hsz,htk⟩:=own_block h (by omega);refine⟨g,rfl,λj hj=>⟨?_,aW _ _ _ _ _ hg⟩⟩;have hlt:k*s+j<c*s:=by
  have:(k+1)*s<=c*s:=fd s (by omega);rw[Nat.add_mul,Nat.one_mul] at this;omega
 rw[crw hg,dh (by omega)];rfl
theorem putL_size':∀(vs:List Value) (o:Nat) (c:Array Value),(putL c o vs).size=c.size
 | [],_,_=>rfl
 |v::vs,o,c=>by rw[putL,putL_size' vs];simp
theorem putL_get':∀(vs:List Value) (o:Nat) (c:Array Value) (i:Nat),o+vs.length<=c.size->(putL c o vs)[i]? =if o<=i∧i<o+vs.length then vs[i-o]? else c[i]?
 | [],o,c,i,h=>by rw[putL,aC (by simp)]
 | v::vs,o,c,i,h=>by
  have hl:(v::vs).length=vs.length+1:=rfl
  rw[putL,putL_get' vs (o+1) _ i (by simp;omega)]
  by_cases h1:o+1<=i∧i<o+1+vs.length
  ·rw[aJ h1,aJ (by omega)]
   obtain⟨k,rfl⟩:∃k,i=o+1+k:=⟨i-(o+1),by omega⟩
   rw[show o+1+k-(o+1)=k by omega,show o+1+k-o=k+1 by omega]
   rfl
  ·rw[aC h1]
   by_cases h2:i=o
   ·subst h2
    rw[aJ (by omega),Nat.sub_self,Array.getElem?_setIfInBounds_self_of_lt (by omega)]
    rfl
   ·rw[aC (by omega),Array.getElem?_setIfInBounds_ne (λe=>h2 e.symm)]
theorem own_put {B E c:Nat} (hf:∀x,(f x).length=s) (hs:0<s) {g:Nat} (h:w.ownsRow B E s (.slice (some ⟨g,0,none⟩) L.length c) L.length (L.flatMap f)) {k:Nat} (hk:k<L.length) (y:α):
  (w.setCells g (k*s) (f y)).ownsRow B E s (.slice (some ⟨g,0,none⟩) (L.set k y).length c) (L.set k y).length ((L.set k y).flatMap f)∧w.grownBy (w.setCells g (k*s) (f y)) (some g):=by
 obtain⟨g',cur,e,hB,hg,h1,h2,hsz,htk⟩:=own_block h (by omega);cases e;have hfl:∀M:List α,(M.flatMap f).length=M.length*s:=λM=>by
  induction M with
  |nil=>simp
  |cons x M ih=>rw[cW,al,ih,hf,bG,Nat.add_mul,Nat.one_mul,Nat.add_comm]
 have hkc:k*s+s<=c*s:=by
  have:(k+1)*s<=c*s:=fd s (by omega);rw[Nat.add_mul,Nat.one_mul] at this;omega
 rw[fk g E _ _ cur w hg];refine⟨⟨by rw[hfl],.inr ⟨g,c,putL cur (k*s) (f y),rfl,hB,aM _ hg,by rw[cM];exact h1,h2,by rw[putL_size',hsz],?_⟩⟩,rfl,rfl,rfl,by simp[World.setRow],λi _ hn=> ?_⟩
 ·apply List.ext_getElem?;intro i;rw[cm,dz,cM];by_cases hi:i<L.length*s
  ·rw[aJ hi,putL_get' _ _ _ _ (by rw[hf,hsz];exact hkc),hf];have hq:i / s<L.length:=(Nat.div_lt_iff_lt_mul hs).2 hi;have hd:=Nat.div_add_mod i s;have hm:=fv i hs;have hd2:i=i / s*s+i % s:=by rw[Nat.mul_comm];omega
   have e1:=gG (s:=s) hf (L.set k y) (i / s) (i % s) y (by rw[cM];exact hq) hm;rw[<-hd2] at e1;rw[e1];by_cases hik:i / s=k
   ·have hd3:i=k*s+i % s:=by rw[<-hik];exact hd2
    rw[aJ (by omega),hik,ae,gS (by omega)];show(f y)[i-k*s]? =(f y)[i % s]?;congr 1;omega
   ·have hne:¬(k*s<=i∧i<k*s+s):=λ⟨a,b⟩=>hik (by
     have:=(Nat.div_eq_iff hs).2 ⟨a,by omega⟩
     exact this)
    rw[aC hne];have e2:=gG (s:=s) hf L (i / s) (i % s) y hq hm;rw[<-hd2,<-htk,cm,aJ hi,dz] at e2;rw[e2,ae,ae,iv (by omega)]
  ·rw[aC hi,ck (by rw[hfl,cM];omega)]
 ·have hn:i≠g:=λe=>hn (by rw[e]);exact setRow_other _ _ _ _ hn
theorem flat_len (hf:∀x,(f x).length=s) (M:List α):(M.flatMap f).length=M.length*s:=by
 induction M with
 |nil=>simp
 |cons x M ih=>rw[cW,al,ih,hf,bG,Nat.add_mul,Nat.one_mul,Nat.add_comm]
theorem dF {L:List α} {k:Nat} (h:k<L.length) (z:α):L.take (k+1)=L.take k++[L.getD k z]:=by
 rw[List.take_add_one,an h,ae,an h];rfl
theorem bL {L:List α} {k:Nat} (h:k<L.length) (z:α):L.getD k z∈L:=by
 rw[ae,an h];exact bU h
end
section
variable {α : Type} {w : World} {A : Option Addr} {s : Nat} {f : α → List Value} {L : List α}
theorem cz {B E c n:Nat} (hf:∀x,(f x).length=s) (hn:n=L.length) (h:w.ownsRow B E s (.slice A n c) n (L.flatMap f)) {k:Nat} (hk:k<n) (z:α):∃g,A=some ⟨g,0,none⟩∧B<=g∧g<w.heap.size∧w.rangeAt g (k*s) (f (L.getD k z)):=by
 subst hn;exact jY hf h hk z
theorem eP {B E c n:Nat} (hf:∀x,(f x).length=s) (hs:0<s) (hn:n=L.length) {g:Nat} (h:w.ownsRow B E s (.slice (some ⟨g,0,none⟩) n c) n (L.flatMap f)) {k:Nat} (hk:k<n) (y:α):
  (w.setCells g (k*s) (f y)).ownsRow B E s (.slice (some ⟨g,0,none⟩) n c) n ((L.set k y).flatMap f)∧w.grownBy (w.setCells g (k*s) (f y)) (some g):=by
 subst hn;have:=own_put hf hs h hk y;rwa[cM] at this
theorem ct {B E c n:Nat} {z:α} (hf:∀x,(f x).length=s) (hn:n=L.length) (h:w.ownsRow B E s (.slice A n c) n (L.flatMap f)):RowF w (λk=>B<=k) A s f z L:=by
 subst hn;exact RowF.own hf h
end
section
variable {P : Program} {ops : Array Oper} {o : Oper} {a : Act} {w : World} {K : Act → World → Prop} {Q : Exit → Act → World → Prop} {E : Prop}
theorem bA (hgd:o.guard=none) (ty:TypeId) (x:Operand) (ho:o.op= .load ty x) (b off:Nat) (hx:a.eval x= .pointer (some ⟨b,off,none⟩)) (cs:List Value) (d:TypeDesc) (hc:w.rangeAt b off cs)
  (hu:P.underlying ty=some d) (hd:d.isRow=true) (hi:(P.info? ty).map (·.size)=some cs.length) (h:K (a.put o.dst (.agg cs.toArray)) w):if Region.wanted o (yielded ops a.tmps)=true then Oper.wp P o a w K Q else E:=by
 rw[aJ (by simp[Region.wanted,hgd])];exact wp_load_mid ty x ho b off hx cs d hc hu hd hi h
theorem cy (hgd:o.guard=none) (ty:TypeId) (x y:Operand) (ho:o.op= .store ty x y) (b off:Nat) (cells:Array Value) (hx:a.eval x= .pointer (some ⟨b,off,none⟩)) (hy:a.eval y= .agg cells)
  (ht:w.there b off cells.size) (hi:(P.info? ty).map (·.size)=some cells.size) (h1:cells.all (·.oneCell')=true) (h:K (a.put o.dst undef) (w.setCells b off cells.toList)):if Region.wanted o (yielded ops a.tmps)=true then Oper.wp P o a w K Q else E:=by
 rw[aJ (by simp[Region.wanted,hgd])];exact wp_store_mid ty x y ho b off cells hx hy ht hi h1 h
end
def slid {α:Type} (L:List α) (x:α) (k:Nat):List α:=L.take k++x::L.drop k
theorem eO {α:Type} (L:List α) (x:α) (k:Nat):(slid L x k).length=L.length+1:=by
 unfold slid;rw[al,bG,aP,bI];omega
theorem ju {α:Type} (L:List α) (x:α):slid L x L.length=L++[x]:=by unfold slid;rw[aK,List.drop_length]
theorem ku {α:Type} {L:List α} {x z:α} {k:Nat} (h:k<=L.length):(slid L x k).getD k z=x:=by
 unfold slid;rw[ae,cY (by rw[aP];omega),aP,show k-min k L.length=0 by omega];rfl
theorem js {α:Type} {L:List α} {x z:α} {k:Nat} (h:k+1<=L.length):(slid L x (k+1)).getD k z=L.getD k z:=by
 unfold slid;rw[ae,es (by rw[aP];omega),cm,aJ (by omega),ae]
theorem ip {α:Type} {L:List α} {x z:α} {k:Nat} (h:k+1<=L.length):((slid L x (k+1)).set (k+1) (L.getD k z)).set k x=slid L x k:=by
 apply List.ext_getElem?;intro i;have hl:(slid L x (k+1)).length=L.length+1:=eO _ _ _;have e2:L.drop k=L.getD k z::L.drop (k+1):=by
  rw[iM (by omega),ae,an (by omega)];rfl
 by_cases h1:i=k
 ·subst h1;rw[gS (by rw[cM,hl];omega)];unfold slid;rw[cY (by rw[aP];omega),aP,show i-min i L.length=0 by omega];rfl
 ·rw[iv (λe=>h1 e.symm)];by_cases h2:i=k+1
  ·subst h2;rw[gS (by rw[hl];omega)];unfold slid;rw[cY (by rw[aP];omega),aP,show k+1-min k L.length=1 by omega,e2];rfl
  ·rw[iv (λe=>h2 e.symm)];unfold slid;rcases cj i k with h3|h3
   ·rw[es (by rw[aP];omega),es (by rw[aP];omega),cm,cm,aJ (by omega),aJ h3]
   ·rw[cY (by rw[aP];omega),cY (by rw[aP];omega),aP,aP,e2];rw[show i-min (k+1) L.length=(i-k-2)+1 by omega,show i-min k L.length=(i-k-2)+1+1 by omega];rfl
structure Dt where
 n:Gid
 b:Gst
structure Plc where
 n:Gid
 p:Gid
 name:ByteArray
 dir:Bool
structure Told where
 a:Gid
 p:Plc
structure Hd where
 s:Gst
 u:Gst
structure Elt where
 id:Gid
 af:Gid
 pc:ByteArray
structure Rn where
 af:Gid
 el:Gid
 tx:ByteArray
structure Itm where
 n:Gid
 path:ByteArray
 dir:Bool
 back:Bool
def dt0:Dt:=⟨.zero,.zero⟩
def plc0:Plc:=⟨.zero,.zero,⟨#[]⟩,false⟩
def fE:Told:=⟨.zero,plc0⟩
def hd0:Hd:=⟨.zero,.zero⟩
def elt0:Elt:=⟨.zero,.zero,⟨#[]⟩⟩
def rn0:Rn:=⟨.zero,.zero,⟨#[]⟩⟩
def itm0:Itm:=⟨.zero,⟨#[]⟩,false,false⟩
def stL (s:Gst):List Value:=[.int .i64 s.t,.int .i64 s.r]
def idL (x:Gid):List Value:=[.int .i64 x.s.t,.int .i64 x.s.r,.int .i64 x.i]
def dtL (d:Dt):List Value:=[.int .i64 d.n.s.t,.int .i64 d.n.s.r,.int .i64 d.n.i,.int .i64 d.b.t,.int .i64 d.b.r]
def plcL (p:Plc):List Value:=[.int .i64 p.n.s.t,.int .i64 p.n.s.r,.int .i64 p.n.i,.int .i64 p.p.s.t,.int .i64 p.p.s.r,.int .i64 p.p.i,.string p.name,.bool p.dir]
def toldL (p:Told):List Value:=[.int .i64 p.a.s.t,.int .i64 p.a.s.r,.int .i64 p.a.i,.int .i64 p.p.n.s.t,.int .i64 p.p.n.s.r,.int .i64 p.p.n.i,.int .i64 p.p.p.s.t,.int .i64 p.p.p.s.r,.int .i64 p.p.p.i,.string p.p.name,.bool p.p.dir]
def hdL (h:Hd):List Value:=[.int .i64 h.s.t,.int .i64 h.s.r,.int .i64 h.u.t,.int .i64 h.u.r]
def eltL (e:Elt):List Value:=[.int .i64 e.id.s.t,.int .i64 e.id.s.r,.int .i64 e.id.i,.int .i64 e.af.s.t,.int .i64 e.af.s.r,.int .i64 e.af.i,.string e.pc]
def rnL (e:Rn):List Value:=[.int .i64 e.af.s.t,.int .i64 e.af.s.r,.int .i64 e.af.i,.int .i64 e.el.s.t,.int .i64 e.el.s.r,.int .i64 e.el.i,.string e.tx]
def itmL (p:Itm):List Value:=[.int .i64 p.n.s.t,.int .i64 p.n.s.r,.int .i64 p.n.i,.string p.path,.bool p.dir,.bool p.back]
def Dt.eqb (a b:Dt):Bool:=a.n.eqb b.n && a.b.eqb b.b
theorem eq_dt (a b i p q c d j s t:Int) (v:Bool) (h:Dt.eqb ⟨⟨⟨a,b⟩,i⟩,⟨p,q⟩⟩ ⟨⟨⟨c,d⟩,j⟩,⟨s,t⟩⟩=v) (w:World):(binOp .eql 163 (.agg #[a,b,i,p,q]) (.agg #[c,d,j,s,t])).run Tryz.prog w= .ok (.bool v) w:=by
 subst h;go_simp;simp only[Dt.eqb,Gid.eqb,Gst.eqb];by_cases h1:a=c<;>by_cases h2:b=d<;>by_cases h3:i=j<;>by_cases h4:p=s<;>by_cases h5:q=t<;>simp[h1,h2,h3,h4,h5]
def ixI:Option Nat->Int
 |none=> -1
 |some k=>(k:Int)
theorem ix_some {α:Type} {L:List α} {p:α->Bool} {k:Nat} {z:α} (hk:k<L.length) (h:p (L.getD k z)=true) (hn:∀j,j<k->p (L.getD j z)=false):L.findIdx? p=some k:=by
 rw[List.findIdx?_eq_some_iff_getElem];rw[ae,an hk] at h;refine⟨hk,h,λj hj=> ?_⟩;have:=hn j hj;rw[ae,an (by omega)] at this;simpa using this
theorem ix_none {α:Type} {L:List α} {p:α->Bool} {z:α} (hn:∀j,j<L.length->p (L.getD j z)=false):L.findIdx? p=none:=by
 rw[List.findIdx?_eq_none_iff];intro x hx;obtain⟨j,hj,rfl⟩:=dj.1 hx;have:=hn j hj;rw[ae,an hj] at this;exact this
theorem any_yes {α:Type} {L:List α} {p:α->Bool} {k:Nat} {z:α} (hk:k<L.length) (h:p (L.getD k z)=true):L.any p=true:=dV.2 ⟨_,bL hk z,h⟩
theorem any_no {α:Type} {L:List α} {p:α->Bool} {z:α} (hn:∀j,j<L.length->p (L.getD j z)=false):L.any p=false:=by
 rw[List.any_eq_false];intro x hx;obtain⟨j,hj,rfl⟩:=dj.1 hx;have:=hn j hj;rw[ae,an hj] at this;rw[show L[j]=(some L[j]).getD z from rfl,this];decide
end
section
open Go.RowKit Go.Lib Go.Sort
attribute [local go_sem ↓] Go.wp_at_zero Go.wp_at_succ
theorem hasstamp_any (L:List Gst) (A:Option Addr) (c:Nat) (x:Gst) (S:Nat->Prop) (w:World) (hl:L.length<=1000000) (hR:RowF w S A 2 stL .zero L):
  Calls Tryz.prog 109 #[.slice A L.length c,.agg (stL x).toArray] w λe w'=>e= .returned (.bool (L.any (λy=>y.eqb x)))∧Below w.heap.size w w':=by
 obtain⟨ans,hans⟩:∃q,q=(L.any (λy=>y.eqb x)):=⟨_,rfl⟩;rw[<-hans];have HANS:=hid hans;clear hans;obtain⟨xt,xr⟩:=x;have hb0:Below w.heap.size w (w.alloc (.cells #[xt,xr] 42)):=(ag _ _).alloc (aa _) _;have HC:=hid (am w (.cells #[xt,xr] 42));have hs0:(w.alloc (.cells #[xt,xr] 42)).heap.size=w.heap.size+1:=by simp
 have HS:=hid hs0;have HB:=hid hb0;have HR:=hid hR;clear hb0 hR hs0;show Calls _ _ #[.slice A L.length c,.agg #[xt,xr]] _ _;go_enter Tryz.func109,Tryz.ntmps109;go_upto_region 2 with(fail);generalize hW0:w.alloc (.cells #[xt,xr] 42)=W0 at *;clear hW0;go_loopw [5] (λi wr=>∃k:Nat,i= .int .i64 k∧k<=L.length∧Hid (Below W0.heap.size W0 wr)∧Hid (∀j,j<k->(λy:Gst=>y.eqb ⟨xt,xr⟩) (L.getD j .zero)=false)) (λi _=>L.length-(RowKit.intOf i).toNat)
 case atStart=>exact⟨0,rfl,aq _,hid (ag _ _),hid (λj hj=>absurd hj (cG j))⟩
 case round=>
  obtain⟨k,rfl,hk,HBr,HK⟩:=hrel;have HBw:=bT HB HBr.out;by_cases hlt:k<L.length
  ·obtain⟨rb,ro,rfl,-,hrb,hrange⟩:=(HR.out.below HBw.out).range (λ_=>rfl) hlt;have i0:(0:Int)<=(k:Int):=by omega
   have i1:(k:Int)<(L.length:Int):=by omega
   obtain⟨p,hp⟩:∃p,p=L.getD k .zero:=⟨_,rfl⟩;rw[<-hp] at hrange;obtain⟨b,hb⟩:∃b,b=(λy:Gst=>y.eqb ⟨xt,xr⟩) p:=⟨_,rfl⟩;have HP:=hid (show(λy:Gst=>y.eqb ⟨xt,xr⟩) (L.getD k .zero)=b by rw[<-hp,hb]);clear hp;obtain⟨t,r⟩:=p;have q1:=eq_st t r xt xr b hb.symm;have HCr:=hid ((HBr.out.block w.heap.size (by rw[HS.out];omega)).trans HC.out);have x0:=rg0 HCr.out;have x1:=rg1 HCr.out;have y0:=aj (w:=wr) (a:=⟨rb,ro+k*2,none⟩) (v:= .int .i64 t) (hrange 0 _ rfl);have y1:=aj (w:=wr) (a:=⟨rb,ro+k*2+1,none⟩) (v:= .int .i64 r) (hrange 1 _ rfl);clear hrange hb;cases b with
   |true=>
    go_upto_region 4 with(fail);refine rqb ?_
    repeat(any_goals(first|go_big_quiet_step (fail)|quiet_step (fail)))
    refine qz λwq hBq=> ?_;go_wp2;go_ret;exact⟨by rw[HANS.out,any_yes hlt HP.out];rfl,HBw.out.trans (hBq.mono HBw.out.size)⟩
   |false=>
    have HK2:=hid (show ∀j,j<k+1->(λy:Gst=>y.eqb ⟨xt,xr⟩) (L.getD j .zero)=false from λj hj=>if h:j<k then HK.out j h else (by(obtain rfl:j=k:=(by omega));exact HP.out));go_upto_region 4 with(fail);refine rqb ?_
    repeat(any_goals(first|go_big_quiet_step (fail)|quiet_step (fail)))
    refine qz λwq hBq=> ?_;go_wp2;go_roundw
    case rel=>exact⟨k+1,by go_num,by omega,bT HBr hBq,HK2⟩
    case measure=>(simp[RowKit.intOf];omega)
  ·obtain rfl:k=L.length:=by omega
   have i1:¬(L.length:Int)<(L.length:Int):=by omega
   go_wp2;go_ret;exact⟨by rw[HANS.out,any_no HK.out];rfl,HBw.out⟩
theorem hasid_any (L:List Gid) (A:Option Addr) (c:Nat) (x:Gid) (S:Nat->Prop) (w:World) (hl:L.length<=1000000) (hR:RowF w S A 3 idL .zero L):
  Calls Tryz.prog 173 #[.slice A L.length c,.agg (idL x).toArray] w λe w'=>e= .returned (.bool (L.any (λy=>y.eqb x)))∧Below w.heap.size w w':=by
 obtain⟨ans,hans⟩:∃q,q=(L.any (λy=>y.eqb x)):=⟨_,rfl⟩;rw[<-hans];have HANS:=hid hans;clear hans;obtain⟨⟨xt,xr⟩,xi⟩:=x;have hb0:Below w.heap.size w (w.alloc (.cells #[xt,xr,xi] 108)):=(ag _ _).alloc (aa _) _;have HC:=hid (am w (.cells #[xt,xr,xi] 108));have hs0:(w.alloc (.cells #[xt,xr,xi] 108)).heap.size=w.heap.size+1:=by simp
 have HS:=hid hs0;have HB:=hid hb0;have HR:=hid hR;clear hb0 hR hs0;show Calls _ _ #[.slice A L.length c,.agg #[xt,xr,xi]] _ _;go_enter Tryz.func173,Tryz.ntmps173;go_upto_region 2 with(fail);generalize hW0:w.alloc (.cells #[xt,xr,xi] 108)=W0 at *;clear hW0;go_loopw [5] (λi wr=>∃k:Nat,i= .int .i64 k∧k<=L.length∧Hid (Below W0.heap.size W0 wr)∧Hid (∀j,j<k->(λy:Gid=>y.eqb ⟨⟨xt,xr⟩,xi⟩) (L.getD j .zero)=false)) (λi _=>L.length-(RowKit.intOf i).toNat)
 case atStart=>exact⟨0,rfl,aq _,hid (ag _ _),hid (λj hj=>absurd hj (cG j))⟩
 case round=>
  obtain⟨k,rfl,hk,HBr,HK⟩:=hrel;have HBw:=bT HB HBr.out;by_cases hlt:k<L.length
  ·obtain⟨rb,ro,rfl,-,hrb,hrange⟩:=(HR.out.below HBw.out).range (λ_=>rfl) hlt;have i0:(0:Int)<=(k:Int):=by omega
   have i1:(k:Int)<(L.length:Int):=by omega
   obtain⟨p,hp⟩:∃p,p=L.getD k .zero:=⟨_,rfl⟩;rw[<-hp] at hrange;obtain⟨b,hb⟩:∃b,b=(λy:Gid=>y.eqb ⟨⟨xt,xr⟩,xi⟩) p:=⟨_,rfl⟩;have HP:=hid (show(λy:Gid=>y.eqb ⟨⟨xt,xr⟩,xi⟩) (L.getD k .zero)=b by rw[<-hp,hb]);clear hp;obtain⟨⟨t,r⟩,n⟩:=p;have q1:=eJ t r n xt xr xi b hb.symm;have HCr:=hid ((HBr.out.block w.heap.size (by rw[HS.out];omega)).trans HC.out);have x0:=rg0 HCr.out;have x1:=rg1 HCr.out;have x2:=rg2 HCr.out;have y0:=aj (w:=wr) (a:=⟨rb,ro+k*3,none⟩) (v:= .int .i64 t) (hrange 0 _ rfl);have y1:=aj (w:=wr) (a:=⟨rb,ro+k*3+1,none⟩) (v:= .int .i64 r) (hrange 1 _ rfl);have y2:=aj (w:=wr) (a:=⟨rb,ro+k*3+2,none⟩) (v:= .int .i64 n) (hrange 2 _ rfl);clear hrange hb;cases b with
   |true=>
    go_upto_region 4 with(fail);refine rqb ?_
    repeat(any_goals(first|go_big_quiet_step (fail)|quiet_step (fail)))
    refine qz λwq hBq=> ?_;go_wp2;go_ret;exact⟨by rw[HANS.out,any_yes hlt HP.out];rfl,HBw.out.trans (hBq.mono HBw.out.size)⟩
   |false=>
    have HK2:=hid (show ∀j,j<k+1->(λy:Gid=>y.eqb ⟨⟨xt,xr⟩,xi⟩) (L.getD j .zero)=false from λj hj=>if h:j<k then HK.out j h else (by(obtain rfl:j=k:=(by omega));exact HP.out));go_upto_region 4 with(fail);refine rqb ?_
    repeat(any_goals(first|go_big_quiet_step (fail)|quiet_step (fail)))
    refine qz λwq hBq=> ?_;go_wp2;go_roundw
    case rel=>exact⟨k+1,by go_num,by omega,bT HBr hBq,HK2⟩
    case measure=>(simp[RowKit.intOf];omega)
  ·obtain rfl:k=L.length:=by omega
   have i1:¬(L.length:Int)<(L.length:Int):=by omega
   go_wp2;go_ret;exact⟨by rw[HANS.out,any_no HK.out];rfl,HBw.out⟩
theorem hasdot_any (L:List Dt) (A:Option Addr) (c:Nat) (x:Dt) (S:Nat->Prop) (w:World) (hl:L.length<=1000000) (hR:RowF w S A 5 dtL dt0 L):
  Calls Tryz.prog 174 #[.slice A L.length c,.agg (dtL x).toArray] w λe w'=>e= .returned (.bool (L.any (λy=>y.eqb x)))∧Below w.heap.size w w':=by
 obtain⟨ans,hans⟩:∃q,q=(L.any (λy=>y.eqb x)):=⟨_,rfl⟩;rw[<-hans];have HANS:=hid hans;clear hans;obtain⟨⟨⟨xt,xr⟩,xi⟩,⟨xu,xv⟩⟩:=x;have hb0:Below w.heap.size w (w.alloc (.cells #[xt,xr,xi,xu,xv] 163)):=(ag _ _).alloc (aa _) _;have HC:=hid (am w (.cells #[xt,xr,xi,xu,xv] 163));have hs0:(w.alloc (.cells #[xt,xr,xi,xu,xv] 163)).heap.size=w.heap.size+1:=by simp
 have HS:=hid hs0;have HB:=hid hb0;have HR:=hid hR;clear hb0 hR hs0;show Calls _ _ #[.slice A L.length c,.agg #[xt,xr,xi,xu,xv]] _ _;go_enter Tryz.func174,Tryz.ntmps174;go_upto_region 2 with(fail);generalize hW0:w.alloc (.cells #[xt,xr,xi,xu,xv] 163)=W0 at *;clear hW0;go_loopw [5] (λi wr=>∃k:Nat,i= .int .i64 k∧k<=L.length∧Hid (Below W0.heap.size W0 wr)∧Hid (∀j,j<k->(λy:Dt=>y.eqb ⟨⟨⟨xt,xr⟩,xi⟩,⟨xu,xv⟩⟩) (L.getD j dt0)=false)) (λi _=>L.length-(RowKit.intOf i).toNat)
 case atStart=>exact⟨0,rfl,aq _,hid (ag _ _),hid (λj hj=>absurd hj (cG j))⟩
 case round=>
  obtain⟨k,rfl,hk,HBr,HK⟩:=hrel;have HBw:=bT HB HBr.out;by_cases hlt:k<L.length
  ·obtain⟨rb,ro,rfl,-,hrb,hrange⟩:=(HR.out.below HBw.out).range (λ_=>rfl) hlt;have i0:(0:Int)<=(k:Int):=by omega
   have i1:(k:Int)<(L.length:Int):=by omega
   obtain⟨p,hp⟩:∃p,p=L.getD k dt0:=⟨_,rfl⟩;rw[<-hp] at hrange;obtain⟨b,hb⟩:∃b,b=(λy:Dt=>y.eqb ⟨⟨⟨xt,xr⟩,xi⟩,⟨xu,xv⟩⟩) p:=⟨_,rfl⟩;have HP:=hid (show(λy:Dt=>y.eqb ⟨⟨⟨xt,xr⟩,xi⟩,⟨xu,xv⟩⟩) (L.getD k dt0)=b by rw[<-hp,hb]);clear hp;obtain⟨⟨⟨t,r⟩,n⟩,⟨bt,br⟩⟩:=p;have q1:=eq_dt t r n bt br xt xr xi xu xv b hb.symm;have HCr:=hid ((HBr.out.block w.heap.size (by rw[HS.out];omega)).trans HC.out);have x0:=rg0 HCr.out;have x1:=rg1 HCr.out;have x2:=rg2 HCr.out;have x3:=rg3 HCr.out;have x4:=rg4 HCr.out;have y0:=aj (w:=wr) (a:=⟨rb,ro+k*5,none⟩) (v:= .int .i64 t) (hrange 0 _ rfl);have y1:=aj (w:=wr) (a:=⟨rb,ro+k*5+1,none⟩) (v:= .int .i64 r) (hrange 1 _ rfl);have y2:=aj (w:=wr) (a:=⟨rb,ro+k*5+2,none⟩) (v:= .int .i64 n) (hrange 2 _ rfl);have y3:=aj (w:=wr) (a:=⟨rb,ro+k*5+3,none⟩) (v:= .int .i64 bt) (hrange 3 _ rfl);have y4:=aj (w:=wr) (a:=⟨rb,ro+k*5+4,none⟩) (v:= .int .i64 br) (hrange 4 _ rfl);clear hrange hb;cases b with
   |true=>
    go_upto_region 4 with(fail);refine rqb ?_
    repeat(any_goals(first|go_big_quiet_step (fail)|quiet_step (fail)))
    refine qz λwq hBq=> ?_;go_wp2;go_ret;exact⟨by rw[HANS.out,any_yes hlt HP.out];rfl,HBw.out.trans (hBq.mono HBw.out.size)⟩
   |false=>
    have HK2:=hid (show ∀j,j<k+1->(λy:Dt=>y.eqb ⟨⟨⟨xt,xr⟩,xi⟩,⟨xu,xv⟩⟩) (L.getD j dt0)=false from λj hj=>if h:j<k then HK.out j h else (by(obtain rfl:j=k:=(by omega));exact HP.out));go_upto_region 4 with(fail);refine rqb ?_
    repeat(any_goals(first|go_big_quiet_step (fail)|quiet_step (fail)))
    refine qz λwq hBq=> ?_;go_wp2;go_roundw
    case rel=>exact⟨k+1,by go_num,by omega,bT HBr hBq,HK2⟩
    case measure=>(simp[RowKit.intOf];omega)
  ·obtain rfl:k=L.length:=by omega
   have i1:¬(L.length:Int)<(L.length:Int):=by omega
   go_wp2;go_ret;exact⟨by rw[HANS.out,any_no HK.out];rfl,HBw.out⟩
theorem gX (L:List Plc) (A:Option Addr) (c:Nat) (x:Gid) (S:Nat->Prop) (w:World) (hl:L.length<=1000000) (hR:RowF w S A 8 plcL plc0 L):
  Calls Tryz.prog 169 #[.slice A L.length c,.agg (idL x).toArray] w λe w'=>e= .returned (.int .i64 (ixI (L.findIdx? (λy=>y.n.eqb x))))∧Below w.heap.size w w':=by
 obtain⟨ans,hans⟩:∃q,q=(ixI (L.findIdx? (λy=>y.n.eqb x))):=⟨_,rfl⟩;rw[<-hans];have HANS:=hid hans;clear hans;obtain⟨⟨xt,xr⟩,xi⟩:=x;have hb0:Below w.heap.size w (w.alloc (.cells #[xt,xr,xi] 108)):=(ag _ _).alloc (aa _) _;have HC:=hid (am w (.cells #[xt,xr,xi] 108));have hs0:(w.alloc (.cells #[xt,xr,xi] 108)).heap.size=w.heap.size+1:=by simp
 have HS:=hid hs0;have HB:=hid hb0;have HR:=hid hR;clear hb0 hR hs0;show Calls _ _ #[.slice A L.length c,.agg #[xt,xr,xi]] _ _;go_enter Tryz.func169,Tryz.ntmps169;go_upto_region 2 with(fail);generalize hW0:w.alloc (.cells #[xt,xr,xi] 108)=W0 at *;clear hW0;go_loopw [5] (λi wr=>∃k:Nat,i= .int .i64 k∧k<=L.length∧Hid (Below W0.heap.size W0 wr)∧Hid (∀j,j<k->(λy:Plc=>y.n.eqb ⟨⟨xt,xr⟩,xi⟩) (L.getD j plc0)=false)) (λi _=>L.length-(RowKit.intOf i).toNat)
 case atStart=>exact⟨0,rfl,aq _,hid (ag _ _),hid (λj hj=>absurd hj (cG j))⟩
 case round=>
  obtain⟨k,rfl,hk,HBr,HK⟩:=hrel;have HBw:=bT HB HBr.out;by_cases hlt:k<L.length
  ·obtain⟨rb,ro,rfl,-,hrb,hrange⟩:=(HR.out.below HBw.out).range (λ_=>rfl) hlt;have i0:(0:Int)<=(k:Int):=by omega
   have i1:(k:Int)<(L.length:Int):=by omega
   obtain⟨p,hp⟩:∃p,p=L.getD k plc0:=⟨_,rfl⟩;rw[<-hp] at hrange;obtain⟨b,hb⟩:∃b,b=(λy:Plc=>y.n.eqb ⟨⟨xt,xr⟩,xi⟩) p:=⟨_,rfl⟩;have HP:=hid (show(λy:Plc=>y.n.eqb ⟨⟨xt,xr⟩,xi⟩) (L.getD k plc0)=b by rw[<-hp,hb]);clear hp;obtain⟨⟨⟨t,r⟩,n⟩,pp,pn,pd⟩:=p;have q1:=eJ t r n xt xr xi b hb.symm;have HCr:=hid ((HBr.out.block w.heap.size (by rw[HS.out];omega)).trans HC.out);have x0:=rg0 HCr.out;have x1:=rg1 HCr.out;have x2:=rg2 HCr.out;have y0:=aj (w:=wr) (a:=⟨rb,ro+k*8,none⟩) (v:= .int .i64 t) (hrange 0 _ rfl);have y1:=aj (w:=wr) (a:=⟨rb,ro+k*8+1,none⟩) (v:= .int .i64 r) (hrange 1 _ rfl);have y2:=aj (w:=wr) (a:=⟨rb,ro+k*8+2,none⟩) (v:= .int .i64 n) (hrange 2 _ rfl);clear hrange hb;cases b with
   |true=>
    go_upto_region 4 with(fail);refine rqb ?_
    repeat(any_goals(first|go_big_quiet_step (fail)|quiet_step (fail)))
    refine qz λwq hBq=> ?_;go_wp2;go_ret;exact⟨by rw[HANS.out,ix_some hlt HP.out HK.out];rfl,HBw.out.trans (hBq.mono HBw.out.size)⟩
   |false=>
    have HK2:=hid (show ∀j,j<k+1->(λy:Plc=>y.n.eqb ⟨⟨xt,xr⟩,xi⟩) (L.getD j plc0)=false from λj hj=>if h:j<k then HK.out j h else (by(obtain rfl:j=k:=(by omega));exact HP.out));go_upto_region 4 with(fail);refine rqb ?_
    repeat(any_goals(first|go_big_quiet_step (fail)|quiet_step (fail)))
    refine qz λwq hBq=> ?_;go_wp2;go_roundw
    case rel=>exact⟨k+1,by go_num,by omega,bT HBr hBq,HK2⟩
    case measure=>(simp[RowKit.intOf];omega)
  ·obtain rfl:k=L.length:=by omega
   have i1:¬(L.length:Int)<(L.length:Int):=by omega
   go_wp2;go_ret;exact⟨by rw[HANS.out,ix_none HK.out];rfl,HBw.out⟩
theorem bv {w:World} {b o:Nat} {pre mid post:List Value} (h:w.rangeAt b o (pre++(mid++post))):w.rangeAt b (o+pre.length) mid:=λj v hv=>by
 have:=h (pre.length+j) v (by rw[cY (by omega),show pre.length+j-pre.length=j by omega,es (ep.1 hv).1];exact hv)
 rwa[Nat.add_assoc]
theorem cd {w w':World} {b o:Nat} {cs:List Value} (h:w.rangeAt b o cs) (hb:b<w.heap.size) (hB:Below w.heap.size w w'):w'.rangeAt b o cs:=λj v hv=>(aS (w:=w) (w':=w') (a:=⟨b,o+j,none⟩) (hB.block b hb)).trans (h j v hv)
theorem info_st:(Tryz.prog.info? 42).map (λi=>(i.zero,i.size,i.bytes))=some (some (.agg #[(0:Int),(0:Int)]),2,16):=by kernel_rfl
theorem info_id:(Tryz.prog.info? 108).map (λi=>(i.zero,i.size,i.bytes))=some (some (.agg #[(0:Int),(0:Int),(0:Int)]),3,24):=by kernel_rfl
theorem oc_idL (x:Gid):∀u∈idL x,u.oneCell'=true:=fw (c:=(idL x).toArray) rfl
theorem info_dt:(Tryz.prog.info? 163).map (λi=>(i.zero,i.size,i.bytes))=some (some (.agg #[(0:Int),(0:Int),(0:Int),(0:Int),(0:Int)]),5,40):=by kernel_rfl
theorem info_plc:(Tryz.prog.info? 161).map (λi=>(i.zero,i.size,i.bytes))=some (some (.agg #[(0:Int),(0:Int),(0:Int),(0:Int),(0:Int),(0:Int),.string ⟨#[]⟩,false]),8,72):=by kernel_rfl
theorem info_told:(Tryz.prog.info? 228).map (λi=>(i.zero,i.size,i.bytes))=some (some (.agg #[(0:Int),(0:Int),(0:Int),(0:Int),(0:Int),(0:Int),(0:Int),(0:Int),(0:Int),.string ⟨#[]⟩,false]),11,96):=by kernel_rfl
theorem info_hd:(Tryz.prog.info? 224).map (λi=>(i.zero,i.size,i.bytes))=some (some (.agg #[(0:Int),(0:Int),(0:Int),(0:Int)]),4,32):=by kernel_rfl
theorem info_elt:(Tryz.prog.info? 169).map (λi=>(i.zero,i.size,i.bytes))=some (some (.agg #[(0:Int),(0:Int),(0:Int),(0:Int),(0:Int),(0:Int),.string ⟨#[]⟩]),7,64):=by kernel_rfl
theorem info_rn:(Tryz.prog.info? 238).map (λi=>(i.zero,i.size,i.bytes))=some (some (.agg #[(0:Int),(0:Int),(0:Int),(0:Int),(0:Int),(0:Int),.string ⟨#[]⟩]),7,64):=by kernel_rfl
theorem info_itm:(Tryz.prog.info? 110).map (λi=>(i.zero,i.size,i.bytes))=some (some (.agg #[(0:Int),(0:Int),(0:Int),.string ⟨#[]⟩,false,false]),6,48):=by kernel_rfl
def hdOf (p:Grp×GrX):Hd:=⟨p.1.s,p.1.u⟩
theorem heads_any (L:List (Grp×GrX)) (A:Option Addr) (c:Nat) (w:World) (hl:L.length<=100000) (hR:RowGr w A L):
  Calls Tryz.prog 108 #[.slice A L.length c] w λe w'=>∃A' c',e= .returned (.slice A' L.length c')∧w'.ownsRow w.heap.size 224 4 (.slice A' L.length c') L.length ((L.map hdOf).flatMap hdL)∧Below w.heap.size w w':=by
 obtain⟨i0,hi,hz0,hz1,hz2⟩:=bD info_hd;have HR:=hid hR;clear hR;go_enter Tryz.func108,Tryz.ntmps108;go_upto_region 3 with fail;go_loopw [3,4] (λo i wr=>∃(k:Nat) (A':Option Addr) (c':Nat),k<=L.length∧i= .int .i64 k∧o= .slice A' k c'∧Hid (wr.ownsRow w.heap.size 224 4 (.slice A' k c') k (((L.take k).map hdOf).flatMap hdL))∧Hid (Below w.heap.size w wr)) (λo i _=>L.length-(RowKit.intOf i).toNat)
 case atStart=>exact⟨0,none,0,aq _,rfl,rfl,hid (aF _ _ _ _),hid (ag _ _)⟩
 case round=>
  obtain⟨k,A',c',hk,rfl,rfl,HO,HBr⟩:=hrel;by_cases hlt:k<L.length
  ·have i1:(0:Int)<=(k:Int):=by omega
   have i2:(k:Int)<(L.length:Int):=by omega
   obtain⟨rb,ro,rfl,hrb,hrange⟩:=HR.out.range hlt;have htk:L.take (k+1)=L.take k++[L.getD k gp0]:=dF hlt gp0;generalize L.getD k gp0=p at *;obtain⟨⟨⟨t,r⟩,n,dv,⟨ut,ur⟩,ops⟩,⟨dA,dc,oA,oc⟩⟩:=p;have HRW:=hid (λW (hB:Below w.heap.size w W)=>show W.rangeAt rb (ro+k*7) [t,r,n,.slice dA dv.length dc,ut,ur,.slice oA ops.length oc] from cd hrange hrb hB);have HRG:=hid (HRW.out wr HBr.out);have HTK:=hid htk;have hsz:=HBr.out.size;clear hrange hrb htk;go_upto_region 5 with fail;refine aR (S:=λw'=>w'.rangeAt rb (ro+k*7) [t,r,n,.slice dA dv.length dc,ut,ur,.slice oA ops.length oc]) (by kernel_rfl) ?_
   try(change wpAnyH _ _ _ _ _ _ _ _ (World.drew _))
   refine tk 0 (.slice A' k c') ((show wr.drew.rangeAt _ _ _ from HRG.out)) ?_;go_simp;refine tk 1 (.slice (some ⟨rb,ro,none⟩) L.length c) ((show wr.drew.rangeAt _ _ _ from HRG.out)) ?_;go_simp;refine tk 2 (.int .i64 (k:Int)) ((show wr.drew.rangeAt _ _ _ from HRG.out)) ?_;go_simp;refine tk 3 (.pointer (some ⟨rb,ro+k*7,none⟩)) ((show wr.drew.rangeAt _ _ _ from HRG.out)) ?_;go_simp;refine tk 4 (.pointer (some ⟨rb,ro+k*7,none⟩)) ((show wr.drew.rangeAt _ _ _ from HRG.out)) ?_;go_simp;refine tk2 5 (.agg #[t,r]) rfl (aT (by rfl) _ _ rfl rb (ro+k*7) rfl [t,r] _ (λW' hW'=>bv (pre:=[]) (mid:=[t,r]) (post:=[n,.slice dA dv.length dc,ut,ur,.slice oA ops.length oc]) (hW')) cb rfl (by kernel_rfl)) ((show wr.drew.rangeAt _ _ _ from HRG.out)) ?_;go_simp;refine tk 6 (.slice (some ⟨rb,ro,none⟩) L.length c) ((show wr.drew.rangeAt _ _ _ from HRG.out)) ?_;go_simp;refine tk 7 (.int .i64 (k:Int)) ((show wr.drew.rangeAt _ _ _ from HRG.out)) ?_;go_simp;refine tk 8 (.pointer (some ⟨rb,ro+k*7,none⟩)) ((show wr.drew.rangeAt _ _ _ from HRG.out)) ?_;go_simp;refine tk 9 (.pointer (some ⟨rb,ro+k*7+4,none⟩)) ((show wr.drew.rangeAt _ _ _ from HRG.out)) ?_;go_simp;refine tk2 10 (.agg #[ut,ur]) rfl (aT (by rfl) _ _ rfl rb (ro+k*7+4) rfl [ut,ur] _ (λW' hW'=>bv (pre:=[t,r,n,.slice dA dv.length dc]) (mid:=[ut,ur]) (post:=[.slice oA ops.length oc]) (hW')) cb rfl (by kernel_rfl)) ((show wr.drew.rangeAt _ _ _ from HRG.out)) ?_;go_simp
   refine tk 11 (.agg #[t,r,ut,ur]) ((show wr.drew.rangeAt _ _ _ from HRG.out)) ?_;go_simp;have hsA:(wr.alloc (.cells #[t,r,ut,ur] 224)).drew.heap.size=wr.heap.size+1:=by show(wr.alloc _).heap.size=_;simp
   have HDN:=hid (HO.out.alloc (.cells #[t,r,ut,ur] 224));have HNC:=hid (λ(j:Nat) (y:Value) (h:([t,r,ut,ur]:List Value)[j]? =some y)=>dH wr [t,r,ut,ur] 224 j y h);have HOC:=hid (show ∀u∈([t,r,ut,ur]:List Value),u.oneCell'=true from fw (c:=#[t,r,ut,ur]) rfl);have HBA:=hid ((HBr.out.alloc HBr.out.size (.cells #[t,r,ut,ur] 224)).drew);refine rd1 12 λK hK=> ?_;go_simp;refine hK.out _ _ (HRW.out _ HBA.out) (λ_=> ?_);clear hK K;refine rd1 13 λK hK=> ?_;refine dW _ (by rfl) _ _ 157 (by rfl) w.heap.size 224 i0 (.agg #[(0:Int),(0:Int),(0:Int),(0:Int)]) 4 32 Tryz.underlying157 hi hz0 hz1 hz2 rfl (by decide) (.slice A' k c') k _ (by rfl) (by exact HDN.out) ⟨wr.heap.size,0,none⟩ 1 1 [t,r,ut,ur] (by rfl) (by rfl) (by exact HNC.out) HOC.out (by decide) (by unfold maxLen;omega) (by omega) (by rw[hsA];have:=HBr.out.size;omega) (wr.heap.size+1) hsA ?_;intro gq cap w5 hown1 hgrow hat hlt3;have HO5:=hid hown1;have HB5:=hid (HBA.out.grown hgrow (by rw[hsA];have:=HBr.out.size;omega) (λb hb=>(HO.out.lt b hb).1));clear hown1 hgrow hat hlt3;refine hK.out _ _ (HRW.out _ HB5.out) (λ_=> ?_);clear hK K;refine tk 14 (.slice (some ⟨gq,0,none⟩) (k+1) cap) (HRW.out _ HB5.out) ?_;go_simp;refine be (by kernel_rfl) ?_ _;go_simp;go_wp2;go_roundw
   case rel=>exact⟨k+1,some ⟨gq,0,none⟩,cap,by omega,by go_num,rfl,hid (by rw[HTK.out,bq,aI];exact HO5.out),HB5⟩
   case measure=>(simp[RowKit.intOf];omega)
  ·obtain rfl:k=L.length:=by omega
   have i2:¬(L.length:Int)<(L.length:Int):=by omega
   have HO9:=hid (show wr.ownsRow w.heap.size 224 4 (.slice A' L.length c') L.length ((L.map hdOf).flatMap hdL) by have h9:=HO.out;rw[aK] at h9;exact h9);go_wp2;go_ret;exact⟨A',c',rfl,HO9.out,HBr.out⟩
def dY {α:Type} (p:α->Bool) (z:α) (L:List α):Nat->Nat
 |0=>0
 |n+1=>if p (L.getD n z) then dY p z L n else n+1
def insB {α:Type} (p:α->Bool) (z:α) (L:List α) (x:α):List α:=slid L x (dY p z L L.length)
theorem insIx_le {α:Type} (p:α->Bool) (z:α) (L:List α):∀n,dY p z L n<=n
 |0=>aa _
 |n+1=>by
  unfold dY
  split
  ·have:=insIx_le p z L n;omega
  ·exact aa _
theorem ge {α:Type} {p:α->Bool} {z:α} {L:List α} {n:Nat} (h:n=0∨∃q,n=q+1∧p (L.getD q z)=false):dY p z L n=n:=by
 rcases h with rfl|⟨q,rfl,h⟩
 ·rfl
 ·unfold dY;rw[h];rfl
theorem iF {α:Type} {p:α->Bool} {z:α} {L:List α} {q:Nat} (h:p (L.getD q z)=true):dY p z L (q+1)=dY p z L q:=by
 rw[dY,aJ h]
theorem j0 {α:Type} (p:α->Bool) (z:α) (L:List α) (x:α):(insB p z L x).length=L.length+1:=eO _ _ _
def stepH (out:List Hd) (x:Hd):List Hd:=if out.any (λy=>y.s.eqb x.s)=true then out else insB (λy=>y.s.lt x.s) hd0 out x
def jH (l:List Hd):List Hd:=l.foldl stepH []
theorem stepH_len (out:List Hd) (x:Hd):(stepH out x).length<=out.length+1:=by
 unfold stepH;split
 ·omega
 ·rw[j0];exact aa _
theorem eL {α β:Type} (f:β->α->β) (b:β) {l:List α} {k:Nat} (hk:k<l.length) (z:α):(l.take (k+1)).foldl f b=f ((l.take k).foldl f b) (l.getD k z):=by
 rw[dF hk z,List.foldl_append];rfl
theorem sortH_len:∀(l:List Hd) (out:List Hd),(l.foldl stepH out).length<=out.length+l.length
 | [],out=>aa _
 |x::l,out=>by
  have h1:=sortH_len l (stepH out x)
  have h2:=stepH_len out x
  rw[dU,bG];omega
theorem sortedh_any (L:List Hd) (A:Option Addr) (c:Nat) (S:Nat->Prop) (w:World) (hl:L.length<=100000) (hR:RowF w S A 4 hdL hd0 L):
  Calls Tryz.prog 166 #[.slice A L.length c] w λe w'=>∃A' c',e= .returned (.slice A' (jH L).length c')∧w'.ownsRow w.heap.size 224 4 (.slice A' (jH L).length c') (jH L).length ((jH L).flatMap hdL)∧Below w.heap.size w w':=by
 obtain⟨i0,hi,hz0,hz1,hz2⟩:=bD info_hd;have HR:=hid hR;clear hR;go_enter Tryz.func166,Tryz.ntmps166;go_upto_region 3 with fail;go_loopw [3,4] (λo i wr=>∃(k:Nat) (A':Option Addr) (c' m:Nat) (M:List Hd),k<=L.length∧i= .int .i64 k∧o= .slice A' m c'∧m<=k∧Hid (m=M.length)∧Hid (M=jH (L.take k))∧Hid (wr.ownsRow w.heap.size 224 4 (.slice A' m c') m (M.flatMap hdL))∧Hid (Below w.heap.size w wr)) (λo i _=>L.length-(RowKit.intOf i).toNat)
 case atStart=>exact⟨0,none,0,0,[],aq _,rfl,rfl,aa _,hid rfl,hid rfl,hid (aF _ _ _ _),hid (ag _ _)⟩
 case round=>
  obtain⟨k,A',c',m,M,hk,rfl,rfl,hmk,HML,HM,HO,HBr⟩:=hrel;by_cases hlt:k<L.length
  ·have i1:(0:Int)<=(k:Int):=by omega
   have i2:(k:Int)<(L.length:Int):=by omega
   obtain⟨rb,ro,rfl,-,hrb,hrange⟩:=HR.out.range (λ_=>rfl) hlt;have hst:jH (L.take (k+1))=stepH M (L.getD k hd0):=by rw[HM.out];exact eL _ _ hlt hd0
   generalize L.getD k hd0=p at *;obtain⟨⟨t,r⟩,⟨ut,ur⟩⟩:=p;have HRW:=hid (λW (hB:Below w.heap.size w W)=>show W.rangeAt rb (ro+k*4) [.int .i64 t,.int .i64 r,.int .i64 ut,.int .i64 ur] from cd hrange hrb hB);have HST:=hid hst;have hsz:=HBr.out.size;clear hrange hrb hst;generalize wr=w0 at *;go_upto_region 7 with fail;go_loopw [5,6] (λh i wr=>∃(j:Nat) (b:Bool),j<=m∧i= .int .i64 j∧h= .bool b∧Hid (b=(M.take j).any (λy=>y.s.eqb ⟨t,r⟩))∧Hid (Below w0.heap.size w0 wr)) (λh i _=>m-(RowKit.intOf i).toNat)
   case atStart=>exact⟨0,false,aq _,rfl,rfl,hid rfl,hid (ag _ _)⟩
   case round=>
    obtain⟨j,b,hj,rfl,rfl,HB,HBj⟩:=hrel;have HBw:=hid (HBr.out.trans (HBj.out.mono hsz));have HRG:=hid (HRW.out wr HBw.out);have HOj:=kO HO HBj.out;by_cases hjm:j<m
    ·have j1:(0:Int)<=(j:Int):=by omega
     have j2:(j:Int)<(m:Int):=by omega
     obtain⟨g2,rfl,-,hg2,hr2⟩:=cz (f:=hdL) (λ_=>rfl) HML.out HOj.out hjm hd0;have htk:(M.take (j+1)).any (λy=>y.s.eqb ⟨t,r⟩)=((M.take j).any (λy=>y.s.eqb ⟨t,r⟩) || (M.getD j hd0).s.eqb ⟨t,r⟩):=by rw[dF (by rw[<-HML.out];exact hjm) hd0,jp];simp
     generalize M.getD j hd0=y at *;obtain⟨⟨t2,r2⟩,⟨ut2,ur2⟩⟩:=y;obtain⟨b2,hb2⟩:∃b,b=Gst.eqb ⟨t2,r2⟩ ⟨t,r⟩:=⟨_,rfl⟩;have q1:=eq_st t2 r2 t r b2 hb2.symm;have HTK:=hid (show(M.take (j+1)).any (λy=>y.s.eqb ⟨t,r⟩)=(b || b2) by rw[htk,HB.out,hb2]);have y0:=aj (w:=wr) (a:=⟨g2,j*4,none⟩) (v:= .int .i64 t2) (hr2 0 _ rfl);have y1:=aj (w:=wr) (a:=⟨g2,j*4+1,none⟩) (v:= .int .i64 r2) (hr2 1 _ rfl);have x0:=aj (w:=wr) (a:=⟨rb,ro+k*4,none⟩) (v:= .int .i64 t) (HRG.out 0 _ rfl);have x1:=aj (w:=wr) (a:=⟨rb,ro+k*4+1,none⟩) (v:= .int .i64 r) (HRG.out 1 _ rfl);clear hr2 hb2 htk;cases b with
     |true=>
      go_upto_region 9 with fail;refine rqb ?_
      repeat(any_goals(first|go_big_quiet_step (fail)|quiet_step (fail)))
      refine qz λwq hBq=> ?_;go_wp2;go_roundw
      case rel=>exact⟨j+1,true,by omega,by go_num,rfl,hid (by rw[HTK.out];rfl),bT HBj hBq⟩
      case measure=>(simp[RowKit.intOf];omega)
     |false=>
      go_upto_region 9 with fail;refine rqb ?_
      repeat(any_goals(first|go_big_quiet_step (fail)|quiet_step (fail)))
      refine qz λwq hBq=> ?_;go_wp2;go_roundw
      case rel=>exact⟨j+1,b2,by omega,by go_num,rfl,hid (by rw[HTK.out];rfl),bT HBj hBq⟩
      case measure=>(simp[RowKit.intOf];omega)
    ·obtain rfl:j=m:=by omega
     have j2:¬(j:Int)<(j:Int):=by omega
     have hany:b=M.any (λy=>y.s.eqb ⟨t,r⟩):=by rw[HB.out,HML.out,aK]
     cases b with
     |true=>
      have HS9:=hid (show jH (L.take (k+1))=M by rw[HST.out];unfold stepH;rw[aJ hany.symm]);clear hany;go_wp2;go_roundw
      case rel=>exact⟨k+1,A',c',j,M,by omega,by go_num,rfl,by omega,HML,hid HS9.out.symm,HOj,HBw⟩
      case measure=>(simp[RowKit.intOf];omega)
     | false=>
      have HS9:=hid (show jH (L.take (k+1))=insB (λy=>y.s.lt ⟨t,r⟩) hd0 M ⟨⟨t,r⟩,⟨ut,ur⟩⟩ by rw[HST.out];unfold stepH;rw[aC (by rw[<-hany];decide)]);clear hany;go_upto_region 11 with fail;have hb0j:=HBj.out.size;have HRGq:=hid (show wr.rangeAt rb (ro+k*4) [.int .i64 t,.int .i64 r,.int .i64 ut,.int .i64 ur] from HRG.out);have hszw:=HBw.out.size
      go_upto_region 13 with(first
       |(refine lM HRGq iI ?_)
       |(at_builtin;refine bX _ rfl _ _ 157 rfl w.heap.size 224 i0 (.agg #[(0:Int),(0:Int),(0:Int),(0:Int)]) 4 32 Tryz.underlying157 hi hz0 hz1 hz2 rfl (by decide) (.slice A' j c') j _ rfl (by exact HOj.out.alloc _) ⟨wr.heap.size,0,none⟩ 1 1 [.int .i64 t,.int .i64 r,.int .i64 ut,.int .i64 ur] rfl rfl (λj y h=>dH wr [.int .i64 t,.int .i64 r,.int .i64 ut,.int .i64 ur] 224 j y h) (fw (c:=#[.int .i64 t,.int .i64 r,.int .i64 ut,.int .i64 ur]) rfl) (by decide) (by unfold maxLen;omega) (by omega) (by simp;omega) (wr.heap.size+1) (by simp) ?_;intro gq cap w5 hown hgrow ha hlt5;have HO5:=hid hown;have HB5:=hid ((HBw.out.alloc hszw _).grown hgrow (by simp;omega) (λb hb=>(HOj.out.lt b hb).1));clear hown hgrow ha hlt5))
      clear HOj HBj HBw HB hb0j HRGq hszw;have hm63:j<=100000:=by omega
      have hs9:slid M (⟨⟨t,r⟩,⟨ut,ur⟩⟩:Hd) j=M++[⟨⟨t,r⟩,⟨ut,ur⟩⟩]:=by rw[HML.out];exact ju _ _
      have HO6:=hid (show w5.ownsRow w.heap.size 224 4 (.slice (some ⟨gq,0,none⟩) (j+1) cap) (j+1) ((slid M (⟨⟨t,r⟩,⟨ut,ur⟩⟩:Hd) j).flatMap hdL) by rw[hs9,aI];exact HO5.out);clear hs9 HO5;generalize w5=w6 at *;go_loopw [7] (λi wx=>∃(q:Nat),i= .int .i64 q∧q<=j∧Hid (dY (λy:Hd=>y.s.lt ⟨t,r⟩) hd0 M q=dY (λy:Hd=>y.s.lt ⟨t,r⟩) hd0 M M.length)∧Hid (wx.ownsRow w.heap.size 224 4 (.slice (some ⟨gq,0,none⟩) (j+1) cap) (j+1) ((slid M (⟨⟨t,r⟩,⟨ut,ur⟩⟩:Hd) q).flatMap hdL))∧Hid (Below w.heap.size w wx)) (λi _=>(RowKit.intOf i).toNat)
      case atStart=>exact⟨j,rfl,aa _,hid (by rw[HML.out]),HO6,HB5⟩
      case round=>
       obtain⟨q,rfl,hq,HIX,HOq,HBq⟩:=hrel;by_cases h0:0<q
       ·obtain⟨q,rfl⟩:∃p,q=p+1:=⟨q-1,by omega⟩;have hqm:q+1<=M.length:=by rw[<-HML.out];exact hq
        have hl1:j+1=(slid M (⟨⟨t,r⟩,⟨ut,ur⟩⟩:Hd) (q+1)).length:=by rw[eO,<-HML.out]
        obtain⟨g3,e3,-,hg3,hr3⟩:=cz (f:=hdL) (λ_=>rfl) hl1 HOq.out (k:=q) (by omega) hd0;cases e3;obtain⟨g4,e4,-,-,hr4⟩:=cz (f:=hdL) (λ_=>rfl) hl1 HOq.out (k:=q+1) (by omega) hd0;cases e4;rw[js hqm] at hr3;rw[ku hqm] at hr4;have hsw:=ip (L:=M) (x:=(⟨⟨t,r⟩,⟨ut,ur⟩⟩:Hd)) (z:=hd0) hqm;obtain⟨y,hy⟩:∃y,y=M.getD q hd0:=⟨_,rfl⟩;rw[<-hy] at hr3 hsw;obtain⟨b2,hb2⟩:∃b,b=(λy:Hd=>y.s.lt ⟨t,r⟩) y:=⟨_,rfl⟩;have HPY:=hid (show(λy:Hd=>y.s.lt ⟨t,r⟩) (M.getD q hd0)=b2 by rw[<-hy,hb2]);clear hy;obtain⟨⟨t2,r2⟩,⟨ut2,ur2⟩⟩:=y;have HR3:=hid (show wr.rangeAt gq (q*4) [.int .i64 t2,.int .i64 r2,.int .i64 ut2,.int .i64 ur2] from hr3);have HR4:=hid (show wr.rangeAt gq ((q+1)*4) [.int .i64 t,.int .i64 r,.int .i64 ut,.int .i64 ur] from hr4);have y0:=aj (w:=wr) (a:=⟨gq,q*4,none⟩) (v:= .int .i64 t2) (hr3 0 _ rfl);have y1:=aj (w:=wr) (a:=⟨gq,q*4+1,none⟩) (v:= .int .i64 r2) (hr3 1 _ rfl);have x0:=aj (w:=wr) (a:=⟨gq,(q+1)*4,none⟩) (v:= .int .i64 t) (hr4 0 _ rfl);have x1:=aj (w:=wr) (a:=⟨gq,(q+1)*4+1,none⟩) (v:= .int .i64 r) (hr4 1 _ rfl);have HSW:=hid hsw;have k1:(0:Int)<(q:Int)+1:=by omega
        have k2:(0:Int)<=(q:Int):=by omega
        have k3:(q:Int)<(j:Int)+1:=by omega
        have k4:(q:Int)+1<(j:Int)+1:=by omega
        have k5:(0:Int)<=(q:Int)+1:=by omega
        have k6:IntKind.i64.wrap (q:Int)=(q:Int):=by rw[bz];omega
        have HL1:=hid hl1;have HBF:=λW=>eN t2 r2 t r W;rw[show Gst.lt ⟨t2,r2⟩ ⟨t,r⟩=b2 from hb2.symm] at HBF;have cA:=λd os=>ay (HBF (grow (redrawn wr d) os));clear hr3 hr4 hb2 hsw hl1;cases b2 with
        |false=>
         go_upto_region 13 with fail;refine rqb ?_
         repeat(any_goals(first|go_big_quiet_step (with_reducible exact cA _ _)|quiet_step (with_reducible exact cA _ _)))
         refine qz λwq hBq=> ?_;have HS8:=hid (show jH (L.take (k+1))=slid M (⟨⟨t,r⟩,⟨ut,ur⟩⟩:Hd) (q+1) by rw[HS9.out];unfold insB;rw[<-HIX.out,ge (.inr ⟨q,rfl,HPY.out⟩)]);have HOx:=kO HOq hBq;have HBx:=bT HBq hBq;go_wp2;go_roundw
         case rel=>exact⟨k+1,some ⟨gq,0,none⟩,cap,j+1,_,by omega,by go_num,rfl,by omega,HL1,hid HS8.out.symm,HOx,HBx⟩
         case measure=>(simp[RowKit.intOf];omega)
        | true=>
         go_upto_region 13 with fail;refine rqb ?_
         repeat(any_goals(first|go_big_quiet_step (with_reducible exact cA _ _)|quiet_step (with_reducible exact cA _ _)))
         refine qz λwq hBq=> ?_;have HIX2:=hid (show dY (λy:Hd=>y.s.lt ⟨t,r⟩) hd0 M q=dY (λy:Hd=>y.s.lt ⟨t,r⟩) hd0 M M.length by rw[<-HIX.out,iF HPY.out]);have HR3q:=hid (cd HR3.out hg3 hBq);have HR4q:=hid (cd HR4.out hg3 hBq);have HOq2:=kO HOq hBq;have HBq2:=bT HBq hBq;clear y0 y1 x0 x1 cA HOq hBq;go_upto_region 15 with fail;obtain⟨V1,hV1⟩:∃V,V=wq.drew.setCells gq ((q+1)*4) (#[.int .i64 t2,.int .i64 r2,.int .i64 ut2,.int .i64 ur2]:Array Value).toList:=⟨_,rfl⟩;have hP1:V1.ownsRow w.heap.size 224 4 (.slice (some ⟨gq,0,none⟩) (j+1) cap) (j+1) (((slid M (⟨⟨t,r⟩,⟨ut,ur⟩⟩:Hd) (q+1)).set (q+1) (⟨⟨t2,r2⟩,⟨ut2,ur2⟩⟩:Hd)).flatMap hdL)∧wq.drew.grownBy V1 (some gq):=by rw[hV1];exact eP (f:=hdL) (λ_=>rfl) (by decide) HL1.out (show wq.drew.ownsRow _ _ _ _ _ _ from HOq2.out) (by omega) (⟨⟨t2,r2⟩,⟨ut2,ur2⟩⟩:Hd)
         obtain⟨V2,hV2⟩:∃V,V=V1.setCells gq (q*4) (#[.int .i64 t,.int .i64 r,.int .i64 ut,.int .i64 ur]:Array Value).toList:=⟨_,rfl⟩;have hP2:V2.ownsRow w.heap.size 224 4 (.slice (some ⟨gq,0,none⟩) (j+1) cap) (j+1) ((((slid M (⟨⟨t,r⟩,⟨ut,ur⟩⟩:Hd) (q+1)).set (q+1) (⟨⟨t2,r2⟩,⟨ut2,ur2⟩⟩:Hd)).set q (⟨⟨t,r⟩,⟨ut,ur⟩⟩:Hd)).flatMap hdL)∧V1.grownBy V2 (some gq):=by rw[hV2];exact eP (f:=hdL) (λ_=>rfl) (by decide) (by rw[cM];exact HL1.out) hP1.1 (by omega) (⟨⟨t,r⟩,⟨ut,ur⟩⟩:Hd)
         obtain⟨g5,e5,ht5⟩:=ey (show wq.drew.ownsRow _ _ _ _ _ _ from HOq2.out) (k:=q+1) (by omega);cases e5;obtain⟨g6,e6,ht6⟩:=ey hP1.1 (k:=q) (by omega);cases e6;have HP2:=hid hP2.1;have HG2:=hid (show wq.heap.size<=V2.heap.size∧(Below w.heap.size w wq->w.heap.size<=gq->Below w.heap.size w V2) from⟨aL (show wq.drew.heap.size<=V1.heap.size from hP1.2.size) hP2.2.size,λhb hl=>(hb.drew.grown hP1.2 (by exact hb.size) (λb e=>by cases e;exact hl)).grown hP2.2 (aL hb.size (show wq.drew.heap.size<=V1.heap.size from hP1.2.size)) (λb e=>by cases e;exact hl)⟩);have HV1:=hid hV1;have HV2:=hid hV2;have HT5:=hid ht5;have HT6:=hid ht6;have HAY:=hid (show(#[.int .i64 t2,.int .i64 r2,.int .i64 ut2,.int .i64 ur2]:Array Value).all (·.oneCell')=true by rw[<-cg];rfl);have HAX:=hid (show(#[.int .i64 t,.int .i64 r,.int .i64 ut,.int .i64 ur]:Array Value).all (·.oneCell')=true by rw[<-cg];rfl);clear hP1 hP2 hV1 hV2 ht5 ht6;refine aR (S:=λ_=>True) (by kernel_rfl) ?_
         try(change wpAnyH _ _ _ _ _ _ _ _ (World.drew _))
         refine tk 0 (.slice (some ⟨gq,0,none⟩) (j+1) cap) (trivial) ?_;go_simp;refine tk 1 (.int .i64 ((q:Int)+1)) (trivial) ?_;go_simp;refine tk 2 (.slice (some ⟨gq,0,none⟩) (j+1) cap) (trivial) ?_;go_simp;refine tk 3 (.int .i64 ((q:Int)+1)) (trivial) ?_;go_simp;refine tk 4 (.int .i64 (q:Int)) (trivial) ?_;go_simp;refine tk 5 (.slice (some ⟨gq,0,none⟩) (j+1) cap) (trivial) ?_;go_simp;refine tk 6 (.int .i64 ((q:Int)+1)) (trivial) ?_;go_simp;refine tk 7 (.int .i64 (q:Int)) (trivial) ?_;go_simp;refine tk 8 (.pointer (some ⟨gq,q*4,none⟩)) (trivial) ?_;go_simp;refine tk 10 (.slice (some ⟨gq,0,none⟩) (j+1) cap) (trivial) ?_;go_simp;refine tk 11 (.int .i64 ((q:Int)+1)) (trivial) ?_;go_simp;refine tk 12 (.pointer (some ⟨gq,(q+1)*4,none⟩)) (trivial) ?_;go_simp;refine dp (rs:=[9,13]) (by kernel_rfl) (by simp) ?_;refine aX rfl (λK hK=> ?_) (aX rfl (λK hK=> ?_) cX)
         focus
          refine bA rfl _ _ rfl gq (q*4) rfl [.int .i64 t2,.int .i64 r2,.int .i64 ut2,.int .i64 ur2] _ (show wq.drew.rangeAt _ _ _ from HR3q.out) iI rfl (by kernel_rfl) ?_;refine hK.out _ _ (trivial) (λ_=> ?_);clear hK K;refine rd1 13 λK hK=> ?_;refine bA rfl _ _ rfl gq ((q+1)*4) rfl [.int .i64 t,.int .i64 r,.int .i64 ut,.int .i64 ur] _ (show wq.drew.rangeAt _ _ _ from HR4q.out) iI rfl (by kernel_rfl) ?_;refine hK.out _ _ (trivial) (λ_=> ?_);clear hK K
         rotate_left
         focus
          refine bA rfl _ _ rfl gq ((q+1)*4) rfl [.int .i64 t,.int .i64 r,.int .i64 ut,.int .i64 ur] _ (show wq.drew.rangeAt _ _ _ from HR4q.out) iI rfl (by kernel_rfl) ?_;refine hK.out _ _ (trivial) (λ_=> ?_);clear hK K;refine rd1 9 λK hK=> ?_;refine bA rfl _ _ rfl gq (q*4) rfl [.int .i64 t2,.int .i64 r2,.int .i64 ut2,.int .i64 ur2] _ (show wq.drew.rangeAt _ _ _ from HR3q.out) iI rfl (by kernel_rfl) ?_;refine hK.out _ _ (trivial) (λ_=> ?_);clear hK K
         all_goals
          refine tk 14 (.pointer (some ⟨gq,(q+1)*4,none⟩)) (trivial) ?_;go_simp;refine rd1 15 λK hK=> ?_;refine cy rfl _ _ _ rfl gq ((q+1)*4) #[.int .i64 t2,.int .i64 r2,.int .i64 ut2,.int .i64 ur2] (by rfl) (by rfl) HT5.out (by kernel_rfl) HAY.out ?_;rw[<-HV1.out];refine hK.out _ _ (trivial) (λ_=> ?_);clear hK K;refine tk 16 (.pointer (some ⟨gq,q*4,none⟩)) (trivial) ?_;go_simp;refine rd1 17 λK hK=> ?_;refine cy rfl _ _ _ rfl gq (q*4) #[.int .i64 t,.int .i64 r,.int .i64 ut,.int .i64 ur] (by rfl) (by rfl) HT6.out (by kernel_rfl) HAX.out ?_;rw[<-HV2.out];refine hK.out _ _ (trivial) (λ_=> ?_);clear hK K;refine be (by kernel_rfl) ?_ _;go_simp;go_wp2;go_roundw
          case rel=>exact⟨q,by go_num,by omega,HIX2,hid (by rw[<-HSW.out];exact HP2.out),hid (HG2.out.2 HBq2.out (HOq2.out.lt gq rfl).1)⟩
          case measure=>(simp[RowKit.intOf];try omega)
       ·obtain rfl:q=0:=by omega
        go_upto_region 13 with fail;refine rqb ?_
        repeat(any_goals(first|go_big_quiet_step (fail)|quiet_step (fail)))
        refine qz λwq hBq=> ?_;have HS8:=hid (show jH (L.take (k+1))=slid M (⟨⟨t,r⟩,⟨ut,ur⟩⟩:Hd) 0 by rw[HS9.out];unfold insB;rw[<-HIX.out];rfl);have HL1:=hid (show j+1=(slid M (⟨⟨t,r⟩,⟨ut,ur⟩⟩:Hd) 0).length by rw[eO,<-HML.out]);have HOx:=kO HOq hBq;have HBx:=bT HBq hBq;go_wp2;go_roundw
        case rel=>exact⟨k+1,some ⟨gq,0,none⟩,cap,j+1,_,by omega,by go_num,rfl,by omega,HL1,hid HS8.out.symm,HOx,HBx⟩
        case measure=>(simp[RowKit.intOf];omega)
  ·obtain rfl:k=L.length:=by omega
   have i2:¬(L.length:Int)<(L.length:Int):=by omega
   have HM9:=hid (show M=jH L by have h9:=HM.out;rw[aK] at h9;exact h9);go_wp2;go_ret;refine⟨A',c',by rw[<-HM9.out,<-HML.out];rfl,?_,HBr.out⟩;rw[<-HM9.out,<-HML.out];exact HO.out
end
end Go.Proofs.YtkhmicndehlneaaGreatDoor
