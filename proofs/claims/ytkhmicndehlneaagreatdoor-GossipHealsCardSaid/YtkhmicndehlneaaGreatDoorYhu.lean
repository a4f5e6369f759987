/- Part 21 of the walks and plain laws that this claim uses, joined. Conditions: as each theorem states. -/
import Derived.Test.YtkhmicndehlneaaGreatDoorYht
namespace Go.Proofs.YtkhmicndehlneaaGreatDoor
set_option maxRecDepth 100000
set_option maxHeartbeats 16000000
set_option linter.unusedVariables false
section
open Go.RowKit Go.Lib Go.Sort
attribute [local go_sem ↓] Go.wp_at_zero Go.wp_at_succ
theorem rvecc_any (L:List (Grp×GrX)) (A:Option Addr) (c:Nat) (S:Nat->Prop) (w:World) (hl:L.length<=100000) (hR:RowGr w A L) (hG:∀p∈L,GrG w S p) (hT:∀p∈L,∀o∈p.1.ops,o.text.size<=1000000) (hck:∀p∈L,chkB p.1=true) (hnd:(L.map (·.1.s)).Nodup) (u:List Int) (hu:dM [] (L.map Prod.fst)=some u):
  Calls Tryz.prog 70 #[.slice A L.length c] w λe w'=>∃A' c',e= .returned (.slice A' u.length c')∧VecS w' (λ_=>True) A' u∧u.length<=16∧(u.length<=c'∧c'<=maxLen)∧Below w.heap.size w w':=by
 have HRT:=hid (refrights_any L A c S w hl hR hG hT hck hnd);have HU:=hid hu;have HCK:=hid hck;clear hR hG hT hck hnd hu;go_enter Tryz.func70,Tryz.ntmps70;go_upto_region 4 with(go_at_call 106;refine HRT.out.mono ?_;rintro e w1 ⟨A1,c1,rfl,hown,hB1⟩;have HR1:=hid (RowGr.own hown);have HB1:=hid hB1;clear hown hB1);go_loopw [3,4] (λs i wr=>∃(k:Nat) (v:List Int) (vA:Option Addr) (vc:Nat),k<=L.length∧s= .slice vA v.length vc∧Hid (v.length<=vc∧vc<=maxLen)∧v.length<=16∧VecS wr (λ_=>True) vA v∧Hid (dM [] ((L.map Prod.fst).take k)=some v)∧i= .int .i64 k∧Hid (Below w1.heap.size w1 wr)) (λs i _=>L.length-(RowKit.intOf i).toNat)
 case atStart=>exact⟨0,[],none,0,by omega,rfl,hid ⟨aa _,aq _⟩,by decide,RowG.zero,hid rfl,rfl,hid (ag _ _)⟩
 case round=>
  obtain⟨k,v,vA,vc,hk,rfl,HCC,hv16,hV,HV,rfl,HBr⟩:=hrel;by_cases hlt:k<L.length
  ·have i0:(0:Int)<=(k:Int):=by omega
   have i1:(k:Int)<(L.length:Int):=by omega
   obtain⟨rb,ro,rfl,hrb,hrange⟩:=RowGr.range (RowGr.below HR1.out HBr.out) hlt;have hsz:=HBr.out.size;have hm:L.getD k gp0∈L:=by rw[ae,an hlt];exact bU hlt
   have hch:=HCK.out _ hm;have hgd:=getD_fst' L k;obtain⟨x5,k1,k2,k3,k4,k5⟩:=aheadV_take _ _ _ HU.out k (by rw[aQ];exact hlt);obtain rfl:x5=v:=by rw[HV.out] at k1;exact(Option.some.inj k1).symm
   rw[<-hgd] at k2 k3 k4 k5;generalize L.getD k gp0=p at *;obtain⟨⟨⟨t,r⟩,n,dv,⟨ut,ur⟩,ops⟩,⟨dA,dc,oA,oc⟩⟩:=p;clear hgd hm k1 k3;obtain⟨c1',c2,c3,-⟩:=eC k2;have hr:=right_r c1';have hr1:1<=r:=hr.1;have hr2:r<=16:=hr.2;have hn1:1<=n:=c2;have hn2:n<=1099511627776:=c3;have k4:atV x5 r=n-1:=k4;have K5:=hid (show dM [] ((L.map Prod.fst).take (k+1))=some (eE x5 r n) from k5);have HAT:=hid (λW (hB:Below wr.heap.size wr W)=>fh vA vc x5 r W (by omega) (VecS.vec (RowG.agr hV (Agr.below hB))));have HWI:=hid (λW (hB:Below wr.heap.size wr W)=>refwith_any vA vc x5 r n W (by omega) hr1 hr2 (VecS.vec (RowG.agr hV (Agr.below hB))));rw[k4] at HAT;have q1:max n (n-1)=n:=by omega
   have y1:=aj (hrange 1 _ rfl);have y2:=aj (hrange 2 _ rfl);have HY1:=hid (show wr.cell? ⟨rb,ro+k*7+1,none⟩=some (.int .i64 r) from hrange 1 _ rfl);clear k2 k4 k5 c1' c2 c3 hr hch hrange;have cC:∀d os,Calls Tryz.prog 55 #[.slice vA x5.length vc,r] (grow (redrawn wr d) os) λe w''=>e= .returned (.int .i64 (n-1))∧∃p:Regrown,w''=grow (redrawn wr p.d) p.os:=λd os=>ay ((HAT.out (grow (redrawn wr d) os) (bE wr d os)).mono (by rintro e w' ⟨rfl,rfl⟩;exact⟨rfl,ag _ _⟩));go_upto_region 6 with(fail);refine rqb ?_
   repeat(any_goals(first|go_big_quiet_step (with_reducible exact cC _ _)|quiet_step (with_reducible exact cC _ _)))
   refine qz λwq hBq=> ?_;have z1:=(aS (w:=wr) (w':=wq) (a:=⟨rb,ro+k*7+1,none⟩) (hBq.block rb hrb)).trans HY1.out;have HBq:=hid hBq;clear y1 y2 cC hBq;go_wp2_with (go_at_call 56;refine(HWI.out wq HBq.out).mono ?_;rintro e w9 ⟨hB9,A9,c9,rfl,hv9,hc9,hm9⟩);have hl9:=withV_len x5 r n hv16 hr2;go_roundw
   case rel=>exact⟨k+1,eE x5 r n,A9,c9,by omega,rfl,hid ⟨by omega,by omega⟩,hl9,RowG.sub hv9 (λ_ _ _=>trivial),K5,by go_num,hid (HBr.out.trans ((HBq.out.trans (hB9.mono HBq.out.size)).mono hsz))⟩
   case measure=>(simp[RowKit.intOf];omega)
  ·obtain rfl:k=L.length:=by omega
   have i1:¬(L.length:Int)<(L.length:Int):=by omega
   have hvu:v=u:=by
    have:=HV.out;rw[di (by rw[aQ];exact aa _),HU.out] at this;exact(Option.some.inj this).symm
   subst hvu;go_wp2;go_ret;exact⟨vA,vc,rfl,hV,HCC.out,HB1.out.trans (HBr.out.mono HB1.out.size)⟩
theorem rbvecc_any {B P:Nat} {S:Nat->Prop} {b:Bx} {X:RbX} {w:World} (h:RbIn B P S b.done b.wait X w) (ho:RbOk b):
  Calls Tryz.prog 35 #[.pointer (some ⟨P,0,none⟩)] w λe w'=>∃A' c',e= .returned (.slice A' b.v.length c')∧VecS w' (λ_=>True) A' b.v∧b.v.length<=16∧(b.v.length<=c'∧c'<=maxLen)∧Below w.heap.size w w':=by
 obtain⟨A0,c0,hv⟩:=bZ h.done;have hO:=h.done;rw[hv] at hO;have hln:=ho.len;have hm:∀p∈X.L,p.1∈b.done:=λp hp=>by rw[<-h.dl];exact bj.2 ⟨p,hp,rfl⟩
 have HV:=hid (rvecc_any X.L A0 c0 S w (by rw[h.dlen];omega) (RowGr.own hO) (λp hp=>h.good p (au.2 (.inl hp))) (λp hp=>ho.txt p.1 (au.2 (.inl (hm p hp)))) (λp hp=>ho.ok.chk p.1 (au.2 (.inl (hm p hp)))) (by
  have:=ho.ok.apart;rw[bq,dK] at this;have h1:=this.1;rw[<-h.dl,List.map_map] at h1
  exact h1) b.v (by rw[h.dl];exact ho.ok.ahead))
 have d0:w.cell? ⟨P,0,none⟩=some (.slice A0 X.L.length c0):=by rw[h.cell,<-hv];rfl
 obtain⟨n,hn⟩:∃n,n=X.L.length:=⟨_,rfl⟩;rw[<-hn] at HV d0;clear h hO hv ho hm hln hn;go_enter Tryz.func35,Tryz.ntmps35;go_wp2_with (go_at_call 70;refine HV.out.mono ?_;rintro e w1 ⟨A1,c1,rfl,hv1,hl1,hc1,hB1⟩);go_ret;exact⟨A1,c1,rfl,hv1,hl1,hc1,hB1⟩
end
section
theorem jB {v u:List Int} {g:Grp} {l:List Grp} (h:dM v (g::l)=some u):chkB g=true∧covB v g.deps=true∧atV v g.s.r=g.n-1∧dM (eE v g.s.r g.n) l=some u:=by
 unfold dM at h;split at h
 ·rename_i c;simp only[ap,ak] at c;exact⟨c.1.1,c.1.2,c.2,h⟩
 ·cases h
theorem ahead_mono:∀(l:List Grp) {v u:List Int},dM v l=some u->∀r,atV v r<=atV u r
 | [],v,u,h,r=>by simp only[dM,Option.some.injEq] at h;rw[h];exact gO _
 |g::l,v,u,h,r=>by
  obtain⟨h1,h2,h3,h4⟩:=jB h
  have hr:=(right_r (eC h1).1).1
  have:=ahead_mono l h4 r
  rw[fM _ _ _ _ hr] at this
  split at this
  ·rename_i e;subst e;omega
  ·exact this
theorem ahead_in:∀(l:List Grp) {v u:List Int},dM v l=some u->∀g∈l,atV v g.s.r<g.n∧g.n<=atV u g.s.r
 | [],v,u,h,g,hg=>by cases hg
 | x::l,v,u,h,g,hg=>by
  obtain⟨h1,h2,h3,h4⟩:=jB h
  have hr:=(right_r (eC h1).1).1
  rcases bY.1 hg with rfl|hg
  ·refine⟨by omega,?_⟩
   have:=ahead_mono l h4 g.s.r
   rw[fM _ _ _ _ hr,aJ rfl] at this
   exact this
  ·have:=ahead_in l h4 g hg
   rw[fM _ _ _ _ hr] at this
   refine⟨?_,this.2⟩
   have h5:=this.1
   split at h5
   ·rename_i e;rw[e];omega
   ·exact h5
theorem ahead_all:∀(l:List Grp) {v u:List Int},dM v l=some u->∀r n,atV v r<n->n<=atV u r->∃g∈l,g.s.r=r∧g.n=n
 | [],v,u,h,r,n,h1,h2=>by simp only[dM,Option.some.injEq] at h;subst h;omega
 | x ::l,v,u,h,r,n,h5,h6=>by
  obtain⟨h1,h2,h3,h4⟩:=jB h
  have hr:=(right_r (eC h1).1).1
  by_cases hx:x.s.r=r∧x.n=n
  ·exact⟨x,by simp,hx⟩
  ·have:atV (eE v x.s.r x.n) r<n:=by
    rw[fM _ _ _ _ hr];split
    ·rename_i e;subst e;have:x.n≠n:=λe2=>hx ⟨rfl,e2⟩;omega
    ·exact h5
   obtain⟨g,hg,e⟩:=ahead_all l h4 r n this h6;exact⟨g,by simp[hg],e⟩
theorem ahead_pair:∀(l:List Grp) {v u:List Int},dM v l=some u->l.Pairwise λa b=>a.s.r=b.s.r->a.n<b.n
 | [],v,u,h=>List.Pairwise.nil
 |x::l,v,u,h=>by
  obtain⟨h1,h2,h3,h4⟩:=jB h
  have hr:=(right_r (eC h1).1).1
  refine List.Pairwise.cons (λb hb e=> ?_) (ahead_pair l h4)
  have:=(ahead_in l h4 b hb).1
  rw[fM _ _ _ _ hr,aJ e.symm] at this
  exact this
theorem pair_eq {l:List Grp} (h:l.Pairwise λa b=>a.s.r=b.s.r->a.n<b.n) {x y:Grp} (hx:x∈l) (hy:y∈l) (hr:x.s.r=y.s.r) (hn:x.n=y.n):x=y:=by
 induction h with
 |nil=>cases hx
 | @cons a l h1 h2 ih=>
  rcases bY.1 hx with rfl|hx'
  ·rcases bY.1 hy with rfl|hy'
   ·rfl
   ·have:=h1 y hy' hr;omega
  ·rcases bY.1 hy with rfl|hy'
   ·have:=h1 x hx' hr.symm;omega
   ·exact ih hx' hy'
theorem nodup_eq {l:List Grp} (h:(l.map (·.s)).Nodup) {x y:Grp} (hx:x∈l) (hy:y∈l) (e:x.s=y.s):x=y:=by
 induction l with
 |nil=>cases hx
 | cons a l ih=>
  rw[List.map_cons,List.nodup_cons] at h;rcases bY.1 hx with e1|hx'
  ·rcases bY.1 hy with e2|hy'
   ·rw[e1,e2]
   ·exact absurd (bj.2 ⟨y,hy',by rw[<-e,e1]⟩) h.1
  ·rcases bY.1 hy with e2|hy'
   ·exact absurd (bj.2 ⟨x,hx',by rw[e,e2]⟩) h.1
   ·exact ih h.2 hx' hy'
structure HisG (gs:List Grp):Prop where
 chk:∀g∈gs,chkB g=true
 nd:(gs.map (·.s)).Nodup
 ah:∃V,dM [] gs=some V
theorem HisG.one {gs:List Grp} (h:HisG gs) {x y:Grp} (hx:x∈gs) (hy:y∈gs) (hr:x.s.r=y.s.r) (hn:x.n=y.n):x=y:=by
 obtain⟨V,hV⟩:=h.ah;exact pair_eq (ahead_pair gs hV) hx hy hr hn
structure BxG (gs:List Grp) (b:Bx):Prop where
 ok:BxOk b
 sub:∀g∈b.done++b.wait,g∈gs
theorem atV_nil (r:Int):atV [] r=0:=by unfold atV;split<;>rfl
theorem BxG.old {gs:List Grp} {b:Bx} (h:BxG gs b) (hG:HisG gs) {g:Grp} (hg:g∈gs):oldB b.v g=true↔g∈b.done:=by
 unfold oldB;rw[ak];constructor
 ·intro hn;have h1:=(eC (hG.chk g hg)).2.1;obtain⟨d,hd,e1,e2⟩:=ahead_all b.done h.ok.ahead g.s.r g.n (by rw[atV_nil];omega) hn;rw[hG.one hg (h.sub d (by simp[hd])) e1.symm e2.symm];exact hd
 ·intro hd;exact(ahead_in b.done h.ok.ahead g hd).2
theorem BxG.apart {gs:List Grp} {b:Bx} (h:BxG gs b) {x:Grp} (h1:x∈b.done) (h2:x∈b.wait):False:=by
 have:=h.ok.apart;rw[bq,dK] at this;exact this.2.2 _ (bj.2 ⟨x,h1,rfl⟩) _ (bj.2 ⟨x,h2,rfl⟩) rfl
theorem BxG.known {gs:List Grp} {b:Bx} (h:BxG gs b) (hG:HisG gs) {g:Grp} (hg:g∈gs):iQ b g=true↔g∈b.done++b.wait:=by
 unfold iQ;rw[ch,ch,h.old hG hg,dV,dV,au];constructor
 ·rintro((⟨d,hd,e⟩|h1)|⟨a,ha,e⟩)
  ·rw[Gst.eqb_iff] at e;rw[nodup_eq hG.nd hg (h.sub d (by simp[hd])) e.symm];exact .inl hd
  ·exact .inl h1
  ·refine .inr ?_;unfold fB at e;rw[ch,ap,ak,ak,Gst.eqb_iff] at e;have ha2:=h.sub a (by simp[ha]);rcases e with⟨e1,e2⟩|e
   ·rw[hG.one hg ha2 e1.symm e2.symm];exact ha
   ·rw[nodup_eq hG.nd hg ha2 e.symm];exact ha
 ·rintro(h1|h1)
  ·exact .inl (.inr h1)
  ·refine .inr ⟨g,h1,?_⟩;unfold fB;simp
def drained (b:Bx):Prop:=∀g∈b.wait,fp b.v g=false
theorem mem_split_erase {l:List Grp} {k:Nat} (hk:k<l.length):(l.getD k gz::l.eraseIdx k).Perm l:=by
 have e:l.getD k gz=l[k]:=by simp[ae,hk]
 rw[e];have h1:l.eraseIdx k=l.take k++l.drop (k+1):=by rw[gu]
 rw[h1];have h2:l=l.take k++l[k]::l.drop (k+1):=by
  rw[List.getElem_cons_drop,dx]
 conv=>rhs;rw[h2]
 exact List.perm_middle.symm
theorem drainF_all {gs:List Grp} (hG:HisG gs):∀(f:Nat) (b:Bx),BxG gs b->b.wait.length<=f->BxG gs (bQ f b).1∧drained (bQ f b).1∧((bQ f b).1.done++(bQ f b).1.wait).Perm (b.done++b.wait)∧∃t,(bQ f b).1.done=b.done++t∧t.length=(bQ f b).2
 |0,b,h,hf=>by
  have hw:b.wait=[]:=bR (by omega)
  refine⟨h,λg hg=> ?_,List.Perm.refl _,[],by simp[bQ],rfl⟩
  have hg:g∈b.wait:=hg
  rw[hw] at hg;cases hg
 | f+1,b,h,hf=>by
  cases hb:eU b.v b.wait b.wait.length with
  |none=>
   rw[gj hb]
   refine⟨h,λg hg=> ?_,List.Perm.refl _,[],by simp,rfl⟩
   obtain⟨k,hk,e⟩:=dj.1 hg
   have:=bestN_none hb k hk
   rwa[show b.wait.getD k gz=g by rw[ae,an hk,<-e];rfl] at this
  | some k=>
   obtain⟨hk,hr⟩:=gH hb
   have hm:=gf hk
   have hgs:b.wait.getD k gz∈gs:=h.sub _ (au.2 (.inr hm))
   have ho:oldB b.v (b.wait.getD k gz)=false:=by
    cases e:oldB b.v (b.wait.getD k gz) with
    |false=>rfl
    |true=>exact(h.apart ((h.old hG hgs).1 e) hm).elim
   rw[gi hb ho];have hper:((Bx.put ⟨b.done,b.wait.eraseIdx k,b.v⟩ (b.wait.getD k gz)).done++(Bx.put ⟨b.done,b.wait.eraseIdx k,b.v⟩ (b.wait.getD k gz)).wait).Perm (b.done++b.wait):=by
    show(b.done++[b.wait.getD k gz]++b.wait.eraseIdx k).Perm _;rw[aG];exact(mem_split_erase hk).append_left _
   have hok:BxG gs (Bx.put ⟨b.done,b.wait.eraseIdx k,b.v⟩ (b.wait.getD k gz)):=by
    refine⟨(h.ok.drop k).put (hG.chk _ hgs) hr ho λx hx=> ?_,λg hg=>h.sub g (hper.mem_iff.1 hg)⟩;have hn:=h.ok.apart;rw[bq,dK] at hn;rcases au.1 hx with hx|hx
    ·exact λe=>hn.2.2 _ (bj.2 ⟨x,hx,rfl⟩) _ (bj.2 ⟨_,hm,rfl⟩) e
    ·exact erase_ne hk hn.2.1 x hx
   have hlen:(b.wait.eraseIdx k).length<=f:=by rw[List.length_eraseIdx_of_lt hk];omega
   obtain⟨i1,i2,i3,t,i4,i5⟩:=drainF_all hG f _ hok hlen;refine⟨i1,i2,i3.trans hper,b.wait.getD k gz::t,?_,by simp[i5]⟩;rw[i4];show b.done++[b.wait.getD k gz]++t=_;simp
structure BxH (gs:List Grp) (b:Bx):Prop extends BxG gs b where
 dr:drained b
theorem BxH.new (gs:List Grp):BxH gs Bx.new:=⟨⟨BxOk.new,λg hg=>(by cases hg)⟩,λg hg=>(by cases hg)⟩
theorem nodup_sub {α:Type}:∀(l:List α) {gs:List α},l.Nodup->(∀g∈l,g∈gs)->l.length<=gs.length
 | [],gs,_,_=>aq _
 | a::l,gs,hn,hs=>by
  rw[List.nodup_cons] at hn
  obtain⟨s,t,rfl⟩:=List.append_of_mem (hs a (by simp))
  have:=nodup_sub l (gs:=s++t) hn.2 λg hg=>by
   have h1:=hs g (by simp[hg])
   simp only[au,bY] at h1 ⊢
   rcases h1 with h1|rfl|h1
   ·exact .inl h1
   ·exact absurd hg hn.1
   ·exact .inr h1
  simp only[al,bG] at this ⊢
  omega
theorem nodup_len {gs l:List Grp} (hl:(l.map (·.s)).Nodup) (hs:∀g∈l,g∈gs):l.length<=gs.length:=
 nodup_sub l (List.Pairwise.of_map (·.s) (λa b h e=>h (by rw[e])) hl) hs
theorem BxG.len {gs:List Grp} {b:Bx} (h:BxG gs b):b.done.length+b.wait.length<=gs.length:=by
 rw[<-al];exact nodup_len h.ok.apart h.sub
structure Heard1 (gs:List Grp) (b:Bx) (g:Grp):Prop where
 inv:BxH gs (bS b g).1
 err:(bS b g).2.2=0∨((bS b g).2.2=210∧(bS b g).1=b∧(bS b g).2.1=0∧g∈b.done++b.wait)
 has:g∈(bS b g).1.done++(bS b g).1.wait
 keep:∀x∈b.done++b.wait,x∈(bS b g).1.done++(bS b g).1.wait
 pre:∃t,(bS b g).1.done=b.done++t∧t.length=(bS b g).2.1
 rdy:fp b.v g=true->g∈(bS b g).1.done∧((bS b g).2.2=0->1<=(bS b g).2.1)
 once:b.wait=[]->fp b.v g=true->g∉ b.done->bS b g=(b.put g,1,0)
theorem BxH.hear {gs:List Grp} {b:Bx} (h:BxH gs b) (hG:HisG gs) (hl:gs.length<=99) {g:Grp} (hg:g∈gs):Heard1 gs b g:=by
 have hc:=hG.chk g hg;have hk:=h.toBxG.known hG hg;by_cases hkn:g∈b.done++b.wait
 ·have e:bS b g=(b,0,210):=by unfold bS;rw[aC (by simp[hc]),aJ (hk.2 hkn)]
  refine⟨by rw[e];exact h,.inr ⟨by rw[e],by rw[e],by rw[e],hkn⟩,by rw[e];exact hkn,λx hx=>by rw[e];exact hx,⟨[],by rw[e];simp,by rw[e];rfl⟩,λhr=>⟨?_,λh0=>by rw[e] at h0;cases h0⟩,λhw hr hn=> ?_⟩
  ·rw[e];rcases au.1 hkn with h1|h1
   ·exact h1
   ·rw[h.dr g h1] at hr;cases hr
  ·rw[hw,fV] at hkn;exact absurd hkn hn
 ·have hnk:iQ b g=false:=by
   cases e:iQ b g with
   |false=>rfl
   |true=>exact absurd (hk.1 e) hkn
  obtain⟨ho,hs⟩:=not_known hnk;by_cases hr:fp b.v g=true
  ·have e:bS b g=((bQ b.wait.length (b.put g)).1,(bQ b.wait.length (b.put g)).2+1,0):=by unfold bS;rw[aC (by simp[hc]),aC (by simp[hnk]),aJ hr]
   have hp:BxG gs (b.put g):=⟨h.ok.put hc hr ho hs,λx hx=>by
    simp only[Bx.put,au,aO] at hx;rcases hx with(h1|rfl)|h1
    ·exact h.sub x (by simp[h1])
    ·exact hg
    ·exact h.sub x (by simp[h1])⟩
   obtain⟨i1,i2,i3,t,i4,i5⟩:=drainF_all hG b.wait.length (b.put g) hp (aa _)
   have hin:∀x,x=g∨x∈b.done++b.wait->x∈(bQ b.wait.length (b.put g)).1.done++(bQ b.wait.length (b.put g)).1.wait:=λx hx=>i3.mem_iff.2 (by
    simp only[Bx.put,au,aO] at hx ⊢;rcases hx with h1|h1|h1
    ·exact .inl (.inr h1)
    ·exact .inl (.inl h1)
    ·exact .inr h1)
   refine⟨by rw[e];exact⟨i1,i2⟩,.inl (by rw[e]),by rw[e];exact hin g (.inl rfl),λx hx=>by rw[e];exact hin x (.inr hx),⟨g::t,by rw[e];simp only[i4];simp[Bx.put],by rw[e];simp[i5]⟩,λ_=>⟨?_,λ_=>by rw[e];exact Nat.le_add_left _ _⟩,λhw _ _=> ?_⟩
   ·rw[e];simp only[i4];simp[Bx.put]
   ·rw[e,hw];rfl
  ·have hlen:=h.toBxG.len;have e:bS b g=(⟨b.done,b.wait++[g],b.v⟩,0,0):=by unfold bS;rw[aC (by simp[hc]),aC (by simp[hnk]),aC hr,aC (by omega)]
   refine⟨?_,.inl (by rw[e]),by rw[e];simp,λx hx=> ?_,⟨[],by rw[e];simp,by rw[e];rfl⟩,λh1=>absurd h1 hr,λ_ h1=>absurd h1 hr⟩
   ·refine⟨⟨hearB_ok h.ok g,λx hx=> ?_⟩,?_⟩
    ·rcases hearB_mem b g x hx with h1|rfl
     ·exact h.sub x h1
     ·exact hg
    ·rw[e];intro x hx;have hx:x∈b.wait++[g]:=hx;rcases au.1 hx with h1|h1
     ·exact h.dr x h1
     ·rw[aO] at h1;subst h1;simpa using hr
   ·rw[e];show x∈b.done++(b.wait++[g]);rw[<-aG];exact au.2 (.inl hx)
def gQ (b:Bx) (l:List Grp):Bx:=l.foldl (λb g=>(bS b g).1) b
theorem hearsB_snoc (b:Bx) (l:List Grp) (g:Grp):gQ b (l++[g])=(bS (gQ b l) g).1:=by unfold gQ;rw[List.foldl_append];rfl
theorem hearsB_cons (b:Bx) (g:Grp) (l:List Grp):gQ b (g::l)=gQ (bS b g).1 l:=rfl
def sumB (b:Bx):List Grp->Nat
 | []=>0
 |g::l=>(bS b g).2.1+sumB (bS b g).1 l
theorem BxH.hears {gs:List Grp} (hG:HisG gs) (hl:gs.length<=99):∀(l:List Grp) {b:Bx},BxH gs b->(∀g∈l,g∈gs)->BxH gs (gQ b l)∧(∀x,x∈l∨x∈b.done++b.wait->x∈(gQ b l).done++(gQ b l).wait)∧∃t,(gQ b l).done=b.done++t∧t.length=sumB b l
 | [],b,h,hs=>⟨h,λx hx=>hx.elim (λh=>by cases h) id,[],by simp[gQ],rfl⟩
 | g::l,b,h,hs=>by
  have h1:=h.hear hG hl (hs g (by simp))
  obtain⟨i1,i2,t,i3,i4⟩:=BxH.hears hG hl l h1.inv λx hx=>hs x (by simp[hx])
  obtain⟨t1,j1,j2⟩:=h1.pre
  rw[hearsB_cons]
  refine⟨i1,λx hx=>i2 x ?_,t1++t,by rw[i3,j1];simp,by simp[sumB,j2,i4]⟩
  rcases hx with hx|hx
  ·rcases bY.1 hx with rfl|hx
   ·exact .inr h1.has
   ·exact .inl hx
  ·exact .inr (h1.keep x hx)
theorem ready_pre {gs pre post:List Grp} {g:Grp} (hG:HisG gs) (e:gs=pre++g::post) {b:Bx} (h:BxG gs b) (hp:∀x∈pre,x∈b.done):fp b.v g=true:=by
 obtain⟨V,hV⟩:=hG.ah;rw[e,jR] at hV;cases hu:dM [] pre with
 |none=>rw[hu] at hV;cases hV
 | some u=>
  rw[hu] at hV;obtain⟨-,h2,-,-⟩:=jB (show dM u (g::post)=some V from hV);unfold fp;rw[covB_iff] at h2 ⊢;intro k;refine Int.le_trans (h2 k) ?_;have e1:u.getD k 0=atV u (k+1):=by rw[atV_nat (by omega)];congr 1;omega
  have e2:b.v.getD k 0=atV b.v (k+1):=by rw[atV_nat (by omega)];congr 1;omega
  rw[e1,e2];by_cases h0:0<atV u (k+1)
  ·obtain⟨p,hp1,hp2,hp3⟩:=ahead_all pre hu (k+1) (atV u (k+1)) (by rw[atV_nil];exact h0) (gO _);have:=(ahead_in b.done h.ok.ahead p (hp p hp1)).2;rw[hp2,hp3] at this;exact this
  ·have:=ahead_mono b.done h.ok.ahead (k+1);rw[atV_nil] at this;omega
theorem nodup_of {l:List Grp} (h:(l.map (·.s)).Nodup):l.Nodup:=List.Pairwise.of_map (·.s) (λa b h e=>h (by rw[e])) h
theorem plain_ahead:∀(l:List Grp) {v u:List Int},bW v=v->dM v l=some u->bW u=u
 | [],v,u,hv,h=>by simp only[dM,Option.some.injEq] at h;rw[<-h];exact hv
 |g::l,v,u,hv,h=>plain_ahead l (withV_plain _ _ _) (jB h).2.2.2
theorem told_pre {gs:List Grp} (hG:HisG gs) (hl:gs.length<=99) {b:Bx} (h:BxH gs b):∀(n:Nat) (pre post:List Grp),pre.length=n->gs=pre++post->BxH gs (gQ b (pre.filter λg=> !oldB b.v g))∧∀x∈pre,x∈(gQ b (pre.filter λg=> !oldB b.v g)).done:=by
 intro n;induction n with
 |zero=>intro pre post hq e;rw[bR hq];exact⟨h,λx hx=>(by cases hx)⟩
 | succ n ih=>
  intro pre post hq e;obtain⟨q,y,rfl⟩:∃q y,pre=q++[y]:=by
   rcases List.eq_nil_or_concat pre with rfl|⟨q,y,rfl⟩
   ·cases hq
   ·exact⟨q,y,by simp⟩
  have hqn:q.length=n:=by simpa using hq
  have e2:gs=q++(y::post):=by rw[e];simp
  obtain⟨i1,i2⟩:=ih q (y::post) hqn e2;have hy:y∈gs:=by rw[e2];simp
  rw[jD];by_cases ho:oldB b.v y=true
  ·rw[show[y].filter (λg=> !oldB b.v g)=[] by simp[ho],fV];refine⟨i1,λx hx=> ?_⟩;rcases au.1 hx with h1|h1
   ·exact i2 x h1
   ·rw[aO] at h1;subst h1;obtain⟨-,-,t,e3,-⟩:=BxH.hears hG hl (q.filter λg=> !oldB b.v g) h λg hg=>by rw[e2];exact au.2 (.inl (g7.1 hg).1)
    rw[e3];exact au.2 (.inl ((h.toBxG.old hG hy).1 ho))
  ·rw[show[y].filter (λg=> !oldB b.v g)=[y] by simp[ho],hearsB_snoc];have h1:=i1.hear hG hl hy;refine⟨h1.inv,λx hx=> ?_⟩;rcases au.1 hx with h2|h2
   ·obtain⟨t,e3,-⟩:=h1.pre;rw[e3];exact au.2 (.inl (i2 x h2))
   ·rw[aO] at h2;subst h2;exact(h1.rdy (ready_pre hG e2 i1.toBxG i2)).1
theorem hears_order {gs:List Grp} (hG:HisG gs) (hl:gs.length<=99):∀(n:Nat) (pre post:List Grp),pre.length=n->gs=pre++post->BxH gs (gQ Bx.new pre)∧(gQ Bx.new pre).done=pre∧(gQ Bx.new pre).wait=[]:=by
 intro n;induction n with
 |zero=>intro pre post hq e;rw[bR hq];exact⟨BxH.new gs,rfl,rfl⟩
 | succ n ih=>
  intro pre post hq e;obtain⟨q,y,rfl⟩:∃q y,pre=q++[y]:=by
   rcases List.eq_nil_or_concat pre with rfl|⟨q,y,rfl⟩
   ·cases hq
   ·exact⟨q,y,by simp⟩
  have hqn:q.length=n:=by simpa using hq
  have e2:gs=q++(y::post):=by rw[e];simp
  obtain⟨i1,i2,i3⟩:=ih q (y::post) hqn e2;have hy:y∈gs:=by rw[e2];simp
  have h1:=i1.hear hG hl hy;have hnd:y∉ q:=λhm=>by
   have:=nodup_of hG.nd;rw[e2,dK] at this;exact this.2.2 y hm y (by simp) rfl
  have:=h1.once i3 (ready_pre hG e2 i1.toBxG (λx hx=>by rw[i2];exact hx)) (by rw[i2];exact hnd);rw[hearsB_snoc];refine⟨h1.inv,?_,?_⟩
  ·rw[this];show(gQ Bx.new q).done++[y]=_;rw[i2]
  ·rw[this];exact i3
theorem filter_split {α:Type} (p:α->Bool) (z:α):∀(l:List α) (i:Nat),i<(l.filter p).length->∃pre post,l=pre++(l.filter p).getD i z::post∧(l.filter p).take i=pre.filter p∧p ((l.filter p).getD i z)=true
 | [],i,h=>absurd h (cG i)
 | a ::l,i,h=>by
  by_cases ha:p a=true
  ·rw[List.filter_cons_of_pos ha] at h ⊢
   cases i with
   |zero=>exact⟨[],l,rfl,rfl,ha⟩
   | succ i=>
    obtain⟨pre,post,e1,e2,e3⟩:=filter_split p z l i (by simpa using h)
    refine⟨a::pre,post,?_,?_,?_⟩
    ·show a::l=a::(pre++(l.filter p).getD i z::post)
     rw[<-e1]
    ·rw[List.filter_cons_of_pos ha,<-e2];rfl
    ·exact e3
  ·rw[List.filter_cons_of_neg ha] at h ⊢
   obtain⟨pre,post,e1,e2,e3⟩:=filter_split p z l i h
   refine⟨a::pre,post,?_,?_,e3⟩
   ·show a::l=a::(pre++(l.filter p).getD i z::post)
    rw[<-e1]
   ·rw[List.filter_cons_of_neg ha,<-e2]
theorem told_step {gs:List Grp} (hG:HisG gs) (hl:gs.length<=99) {b:Bx} (h:BxH gs b) {pre post:List Grp} {y:Grp} (e:gs=pre++y::post):
  BxH gs (gQ b (pre.filter λg=> !oldB b.v g))∧fp (gQ b (pre.filter λg=> !oldB b.v g)).v y=true:=by
 obtain⟨i1,i2⟩:=told_pre hG hl h pre.length pre (y::post) rfl e;exact⟨i1,ready_pre hG e i1.toBxG i2⟩
theorem told_done {gs:List Grp} (hG:HisG gs) (hl:gs.length<=99) {b:Bx} (h:BxH gs b) (hw:b.wait=[]):∀(n:Nat) (pre post:List Grp),pre.length=n->gs=pre++post->
  (gQ b (pre.filter λg=> !oldB b.v g)).done=b.done++(pre.filter λg=> !oldB b.v g)∧(gQ b (pre.filter λg=> !oldB b.v g)).wait=[]:=by
 intro n;induction n with
 |zero=>intro pre post hq e;rw[bR hq];exact⟨by simp[gQ],hw⟩
 | succ n ih=>
  intro pre post hq e;obtain⟨q,y,rfl⟩:∃q y,pre=q++[y]:=by
   rcases List.eq_nil_or_concat pre with rfl|⟨q,y,rfl⟩
   ·cases hq
   ·exact⟨q,y,by simp⟩
  have hqn:q.length=n:=by simpa using hq
  have e2:gs=q++(y::post):=by rw[e];simp
  obtain⟨i1,i2⟩:=ih q (y::post) hqn e2;have hy:y∈gs:=by rw[e2];simp
  rw[jD];by_cases ho:oldB b.v y=true
  ·rw[show[y].filter (λg=> !oldB b.v g)=[] by simp[ho],fV];exact⟨i1,i2⟩
  ·obtain⟨j1,j2⟩:=told_step hG hl h e2;have hnd:y∉ (gQ b (q.filter λg=> !oldB b.v g)).done:=λhm=>by
    rw[i1] at hm;rcases au.1 hm with h1|h1
    ·exact ho ((h.toBxG.old hG hy).2 h1)
    ·have:=nodup_of hG.nd;rw[e2,dK] at this;exact this.2.2 y (g7.1 h1).1 y (by simp) rfl
   have h3:=(j1.hear hG hl hy).once i2 j2 hnd;rw[show[y].filter (λg=> !oldB b.v g)=[y] by simp[ho],hearsB_snoc,h3];refine⟨?_,i2⟩;show(gQ b (q.filter λg=> !oldB b.v g)).done++[y]=_;rw[i1,aG]
theorem told_once {gs:List Grp} (hG:HisG gs) (hl:gs.length<=99) {b:Bx} (h:BxH gs b) (hw:b.wait=[]) {pre post:List Grp} {y:Grp} (e:gs=pre++y::post) (ho:oldB b.v y=false):
  bS (gQ b (pre.filter λg=> !oldB b.v g)) y=((gQ b (pre.filter λg=> !oldB b.v g)).put y,1,0):=by
 obtain⟨j1,j2⟩:=told_step hG hl h e;obtain⟨i1,i2⟩:=told_done hG hl h hw pre.length pre (y::post) rfl e;have hy:y∈gs:=by rw[e];simp
 refine(j1.hear hG hl hy).once i2 j2 λhm=> ?_;rw[i1] at hm;rcases au.1 hm with h1|h1
 ·rw[(h.toBxG.old hG hy).2 h1] at ho;cases ho
 ·have:=nodup_of hG.nd;rw[e,dK] at this;exact this.2.2 y (g7.1 h1).1 y (by simp) rfl
theorem BxG.his {gs:List Grp} {b:Bx} (h:BxG gs b):HisG b.done:=by
 have hn:=h.ok.apart;rw[bq,dK] at hn;exact⟨λg hg=>h.ok.chk g (by simp[hg]),hn.1,_,h.ok.ahead⟩
end
section
open Go.RowKit Go.Lib Go.Sort
theorem bxh_small {gs:List Grp} {b:Bx} (h:BxH gs b) (hl:gs.length<=99):b.wait.length<=100∧b.done.length+b.wait.length<=99:=by
 have:=h.toBxG.len;omega
theorem mapg_getD (L:List (Grp×GrX)) (k:Nat):(L.map Prod.fst).getD k gz=(L.getD k gp0).1:=by
 rw[ae,cT,ae];cases L[k]? <;>rfl
theorem take_snocG {G:List Grp} {k:Nat} (h:k<G.length):G.take (k+1)=G.take k++[G.getD k gz]:=by
 rw[List.take_add_one,ae,an h];rfl
theorem hears_next (b:Bx) {G:List Grp} {k:Nat} (h:k<G.length):gQ b (G.take (k+1))=(bS (gQ b (G.take k)) (G.getD k gz)).1:=by rw[take_snocG h,hearsB_snoc]
def NoInt (w:World) (P:Nat):Prop:=∀i z,w.cell? ⟨P,i,none⟩≠some (.int .i64 z)
theorem RowG.off {w:World} {S:Nat->Prop} {A:Option Addr} {n s P:Nat} {f:Nat->Nat->Value} (h:RowG w S A n s f) (hP:NoInt w P) (hs:0<s) (hf:∀k,∃z,f k 0= .int .i64 z):RowG w (λb=>S b∧b≠P) A n s f:=λk hk=>by
 obtain⟨b,o,e,hS,hb,hc⟩:=h k hk
 refine⟨b,o,e,⟨hS,λe2=> ?_⟩,hb,hc⟩
 subst e2
 obtain⟨z,hz⟩:=hf k
 have h9:=hc 0 hs
 rw[hz] at h9
 exact hP _ _ h9
theorem noInt_box {w:World} {P:Nat} {T:TypeId} (h:w.heap[P]? =some (.cells #[.slice none 0 0,.slice none 0 0] T (0,0))):NoInt w P:=λi z=>by
 rw[crw h]
 match i with
 |0=>intro e;cases e
 |1=>intro e;cases e
 |i+2=>intro e;simp at e
theorem RbIn.sup {B P:Nat} {S S':Nat->Prop} {dn wt:List Grp} {X:RbX} {w:World} (h:RbIn B P S dn wt X w) (h1:∀k,S k->S' k) (h2:∀k,S' k->S k∨(k<w.heap.size∧¬OwnR P X k)):RbIn B P S' dn wt X w:=
 ⟨h.obj,h.done,h.wait,h.dl,h.wl,λp hp=>(h.good p hp).sub λk _ hk=>h1 k hk,h.hP,h.dP,h.wP,h.dw,λk hk=>(h2 k hk).elim (h.sep k) id⟩
structure RbAt (B P:Nat) (gs:List Grp) (w1:World) (b:Bx) (wr:World):Prop where
 low:Below B w1 wr
 le:B<=wr.heap.size
 agr:Agr (λk=>k≠P) w1 wr
 his:BxH gs b
 txt:∀g∈gs,∀o∈g.ops,o.text.size<=1000000
 box:∃X S,RbIn B P S b.done b.wait X wr∧∀k,k<w1.heap.size->k≠P->S k
section
variable {B P : Nat} {gs : List Grp} {w1 wr w' : World} {b : Bx}
theorem RbAt.rbok (h:RbAt B P gs w1 b wr) (hl:gs.length<=99):RbOk b:=
 ⟨h.his.ok,λg hg=>h.txt g (h.his.sub g hg),by have:=(bxh_small h.his hl).2;omega⟩
theorem RbAt.below (h:RbAt B P gs w1 b wr) (hb:Below wr.heap.size wr w'):RbAt B P gs w1 b w':=by
 obtain⟨X,S,hX,hS⟩:=h.box;exact⟨h.low.trans (hb.mono h.le),aL h.le hb.size,⟨aL h.agr.1 hb.size,λk hs hk=>(hb.block k (bC hk h.agr.1)).trans (h.agr.2 k hs hk)⟩,h.his,h.txt,X,S,hX.below hb,hS⟩
theorem RbAt.hearX (h:RbAt B P gs w1 b wr) (hG:HisG gs) (hl:gs.length<=99) {X:RbX} {S:Nat->Prop} (hX:RbIn B P S b.done b.wait X wr) (hS:∀k,k<w1.heap.size->k≠P->S k) (p:Grp×GrX) (hp:p.1∈gs) (hI:GrG wr S p):
  Calls Tryz.prog 34 #[.pointer (some ⟨P,0,none⟩),.agg (grA p.1 p.2.dA p.2.dc p.2.oA p.2.oc)] wr λe w'=>e= .returned (.tuple #[.int .i64 ((bS b p.1).2.1:Nat),.int .i64 (bS b p.1).2.2])∧RbAt B P gs w1 (bS b p.1).1 w':=by
 have hs:=bxh_small h.his hl;refine(rbhear_any hX (h.rbok hl) p.1 p.2 hI (h.txt _ hp) hs.1 (by omega) (hG.chk _ hp)).mono ?_;rintro e w' ⟨rfl,X',hX',hTo⟩;refine⟨rfl,h.low.trans (hTo.gr.below h.le λk hk=>(hX.own_lt hk).1),aL h.le hTo.gr.size,⟨aL h.agr.1 hTo.gr.size,λk hs hk=> ?_⟩,(h.his.hear hG hl hp).inv,h.txt,X',S,hX',hS⟩;exact(hTo.gr.block k (bC hk h.agr.1) (hX.sep k (hS k hk hs)).2).trans (h.agr.2 k hs hk)
theorem RbAt.hear (h:RbAt B P gs w1 b wr) (hG:HisG gs) (hl:gs.length<=99) (p:Grp×GrX) (hp:p.1∈gs) (hI:GrG w1 (λk=>k≠P) p):
  Calls Tryz.prog 34 #[.pointer (some ⟨P,0,none⟩),.agg (grA p.1 p.2.dA p.2.dc p.2.oA p.2.oc)] wr λe w'=>e= .returned (.tuple #[.int .i64 ((bS b p.1).2.1:Nat),.int .i64 (bS b p.1).2.2])∧RbAt B P gs w1 (bS b p.1).1 w':=by
 obtain⟨X,S,hX,hS⟩:=h.box;have h1:GrG w1 (λk=>k<w1.heap.size∧k≠P) p:=hI.sub λk hk hn=>⟨hk,hn⟩;exact h.hearX hG hl hX hS p hp ((h1.agr (h.agr.sub λk hk=>hk.2)).sub λk _ hk=>hS k hk.1 hk.2)
theorem RbAt.hearNew (h:RbAt B P gs w1 b wr) (hG:HisG gs) (hl:gs.length<=99) (hb:Below wr.heap.size wr w') (p:Grp×GrX) (hp:p.1∈gs) (hI:GrG w' (λk=>wr.heap.size<=k) p):
  Calls Tryz.prog 34 #[.pointer (some ⟨P,0,none⟩),.agg (grA p.1 p.2.dA p.2.dc p.2.oA p.2.oc)] w' λe w2=>e= .returned (.tuple #[.int .i64 ((bS b p.1).2.1:Nat),.int .i64 (bS b p.1).2.2])∧RbAt B P gs w1 (bS b p.1).1 w2:=by
 obtain⟨X,S,hX,hS⟩:=h.box;have hX2:RbIn B P (λk=>S k∨(wr.heap.size<=k∧k<w'.heap.size)) b.done b.wait X w':=(hX.below hb).sup (λk hk=> .inl hk) (λk hk=>hk.imp id (λh9=>⟨h9.2,λho=>by have:=(hX.own_lt ho).2;omega⟩));exact(h.below hb).hearX hG hl hX2 (λk h1 h2=> .inl (hS k h1 h2)) p hp (hI.sub λk hk h9=> .inr ⟨h9,hk⟩)
theorem RbAt.new (hw:w1.heap[P]? =some (.cells #[.slice none 0 0,.slice none 0 0] 65 (0,0))) (hBP:B<=P) (hT:∀g∈gs,∀o∈g.ops,o.text.size<=1000000):RbAt B P gs w1 Bx.new w1:=by
 refine⟨ag _ _,aL hBP (Nat.le_of_lt (lt_of_block hw)),Agr.refl,BxH.new gs,hT,⟨.slice none 0 0,.slice none 0 0,[],[]⟩,λk=>k<w1.heap.size∧k≠P,⟨hw,aF _ _ _ _,aF _ _ _ _,rfl,rfl,(λp hp=>by cases hp),hBP,(λe=>by cases e),(λe=>by cases e),(λg e=>by cases e),λk hk=>⟨hk.1,?_⟩⟩,λk h1 h2=>⟨h1,h2⟩⟩;rintro(h|h|h)
 ·exact hk.2 h
 ·cases h
 ·cases h
theorem RbAt.done (h:RbAt B P gs w1 b wr):∃(L:List (Grp×GrX)) (A:Option Addr) (c:Nat),wr.cell? ⟨P,0,none⟩=some (.slice A L.length c)∧L.map Prod.fst=b.done∧RowGr wr A L∧(∀p∈L,GrG wr (λ_=>True) p)∧L.length<=c∧c<=maxLen:=by
 obtain⟨X,S,hX,-⟩:=h.box;obtain⟨A,c,hv⟩:=bZ hX.done;have hO:=hX.done;rw[hv] at hO;have hcap:X.L.length<=c∧c<=maxLen:=by
  rcases hO.2 with⟨e1,e2⟩|⟨g,cap,cur,e1,-,-,h4,h5,-⟩
  ·injection e1 with e3 e4 e5;exact⟨by omega,by rw[e5];exact aq _⟩
  ·injection e1 with e3 e4 e5;omega
 exact⟨X.L,A,c,by rw[hX.cell,<-hv];rfl,hX.dl,RowGr.own hO,λp hp=>(hX.good p (au.2 (.inl hp))).sub λ_ _ _=>trivial,hcap⟩
theorem RbAt.vector (h:RbAt B P gs w1 b wr) (hl:gs.length<=99):
  Calls Tryz.prog 35 #[.pointer (some ⟨P,0,none⟩)] wr λe w'=>∃A' c',e= .returned (.slice A' b.v.length c')∧VecS w' (λ_=>True) A' b.v∧b.v.length<=16∧(b.v.length<=c'∧c'<=maxLen)∧Below wr.heap.size wr w':=by
 obtain⟨X,S,hX,-⟩:=h.box;exact rbvecc_any hX (h.rbok hl)
end
end
section
theorem ahead_max:∀(l:List Grp) {v u:List Int},dM v l=some u->(∀r,atV v r<=1099511627776)->∀r,atV u r<=1099511627776
 | [],v,u,h,h1,r=>by simp only[dM,Option.some.injEq] at h;rw[<-h];exact h1 r
 |g::l,v,u,h,h1,r=>by
  obtain⟨c1,c2,c3,c4⟩:=jB h
  have hr:=(right_r (eC c1).1).1
  refine ahead_max l c4 (λq=> ?_) r
  rw[fM _ _ _ _ hr]
  split
  ·exact(eC c1).2.2.1
  ·exact h1 q
theorem atV_suc (v:List Int) (k:Nat):atV v ((k:Int)+1)=v.getD k 0:=by rw[atV_nat (by omega)];congr 1;omega
theorem ahead_vec {l:List Grp} {v:List Int} (h:dM [] l=some v) (hl:v.length<=16):vecB v=true∧∀x∈v,0<=x∧x<=1099511627776:=by
 have h0:∀k,0<=v.getD k 0∧v.getD k 0<=1099511627776:=λk=>by
  rw[<-atV_suc];refine⟨?_,ahead_max l h (λr=>by rw[atV_nil];decide) _⟩;have:=ahead_mono l h ((k:Int)+1);rw[atV_nil] at this;exact this
 have hx:∀x∈v,0<=x∧x<=1099511627776:=λx hx=>by
  obtain⟨k,hk,rfl⟩:=dj.1 hx;have:=h0 k;rwa[ae,an hk] at this
 refine⟨?_,hx⟩;have hp:=plain_ahead l (v:=[]) rfl h;unfold vecB;rw[hp];simp only[ap,dJ,ak];exact⟨⟨λx h9=>(hx x h9).1,hl⟩,trivial⟩
theorem filter_two {α:Type} (p:α->Bool):∀l:List α,(l.filter p).length+(l.filter λx=> !p x).length=l.length
 | []=>rfl
 |a::l=>by
  have:=filter_two p l
  cases h:p a<;>simp[h]<;>omega
theorem heal_len {gs:List Grp} (hG:HisG gs) {b:Bx} (h:BxG gs b):(gs.filter λg=> !oldB b.v g).length+b.done.length=gs.length:=by
 have hd:=h.his.nd;have h1:b.done.length<=(gs.filter λg=>oldB b.v g).length:=nodup_len hd λg hg=>g7.2 ⟨h.sub g (au.2 (.inl hg)),(h.old hG (h.sub g (au.2 (.inl hg)))).2 hg⟩;have h2:(gs.filter λg=>oldB b.v g).length<=b.done.length:=nodup_len ((hG.nd.sublist ((List.filter_sublist (l:=gs)).map _))) λg hg=>(h.old hG (g7.1 hg).1).1 (g7.1 hg).2;have:=filter_two (λg=>oldB b.v g) gs;omega
theorem ahead_app:∀(l m:List Grp) {v u:List Int},dM v (l++m)=some u->∃x,dM v l=some x∧dM x m=some u
 | [],m,v,u,h=>⟨v,rfl,h⟩
 |g::l,m,v,u,h=>by
  rw[List.cons_append] at h
  obtain⟨c1,c2,c3,c4⟩:=jB h
  obtain⟨x,h1,h2⟩:=ahead_app l m c4
  refine⟨x,?_,h2⟩
  unfold dM
  rw[aJ (by rw[c1,c2];simp[c3])]
  exact h1
theorem heal_cov {b c:Bx} (hb:BxOk b) (hc:BxOk c) {t:List Grp} (e:c.done=b.done++t):covB c.v b.v=true:=by
 have h:=hc.ahead;rw[e] at h;obtain⟨x,h1,h2⟩:=ahead_app b.done t h;rw[hb.ahead,Option.some.injEq] at h1;subst h1;refine covB_iff.2 λk=> ?_;rw[<-atV_suc,<-atV_suc];exact ahead_mono t h2 _
structure Heals (gs:List Grp) (v:List Int) (c:Bx):Prop where
 h:BxH gs c
 w:c.wait=[]
 e:c.v=v
theorem heals_of {gs:List Grp} (hG:HisG gs) (hl:gs.length<=99) {b:Bx} (hb:BxH gs b):Heals gs b.v (gQ Bx.new b.done)∧(gQ Bx.new b.done).done=b.done:=by
 have hH:=hb.toBxG.his;have hlen:b.done.length<=99:=by have:=hb.toBxG.len;omega
 obtain⟨-,i2,i3⟩:=hears_order hH hlen b.done.length b.done [] rfl (by simp);have i1:=(BxH.hears hG hl b.done (BxH.new gs) (λg hg=>hb.sub g (au.2 (.inl hg)))).1;refine⟨⟨i1,i3,?_⟩,i2⟩;have h1:=i1.ok.ahead;rw[i2,hb.ok.ahead,Option.some.injEq] at h1;exact h1.symm
theorem Heals.step {gs:List Grp} {v:List Int} {c:Bx} (h:Heals gs v c) (hG:HisG gs) (hl:gs.length<=99) {k:Nat} (hk:k<(gs.filter λg=> !oldB v g).length):
  bS (gQ c ((gs.filter λg=> !oldB v g).take k)) ((gs.filter λg=> !oldB v g).getD k gz)=((gQ c ((gs.filter λg=> !oldB v g).take k)).put ((gs.filter λg=> !oldB v g).getD k gz),1,0):=by
 obtain⟨h1,h2,rfl⟩:=h;obtain⟨pre,post,e1,e2,e3⟩:=filter_split (λg=> !oldB c.v g) gz gs k hk;rw[e2];exact told_once hG hl h1 h2 e1 (by simpa using e3)
theorem Heals.all {gs:List Grp} {v:List Int} {c:Bx} (h:Heals gs v c) (hG:HisG gs) (hl:gs.length<=99):(gQ c (gs.filter λg=> !oldB v g)).done=c.done++gs.filter λg=> !oldB v g:=by
 obtain⟨h1,h2,rfl⟩:=h;exact(told_done hG hl h1 h2 gs.length gs [] rfl (by simp)).1
end
section
open Go.Lib
theorem mkSz (l:List UInt8):(⟨l.toArray⟩:ByteArray).size=l.length:=by simp[ByteArray.size]
theorem opZ_hh {o:Gop} (h:okO o) (s1:o.dots.length<=16) (s2:o.elems.length<=3) (s3:o.text.size<=2) (s4:o.name.size<=1):(opZ o).length<=500:=by
 obtain⟨kind,node,parent,name,dir,dots,after,elem,text,elems⟩:=o;obtain⟨h0,h4,hb,h1,h2,h3,h5,h6,h7,h8,h9⟩:=h;simp only at h0 h4 h1 h2 h3 h5 h6 h7 h8 h9 s1 s2 s3 s4;have e1:(natZ kind).length<=10:=cZ (by omega);have e2:=d6 h1;have e3:=d6 h2;have e4:=eD h3;have e5:=d6 h6;have e6:=d6 h7;have e7:=eD h8;have e8:=gM (z:=stZ) (l:=dots) λx hx=>stZ_le (h5.2 x hx);have e9:=gM (z:=idZ) (l:=elems) λx hx=>d6 (h9.2 x hx);have e10:(natZ dots.length).length<=10:=cZ (by omega);have e11:(natZ elems.length).length<=10:=cZ (by omega);have e12:(natZ (if dir then 1 else 0)).length<=10:=cZ (by split<;>omega);unfold opZ;simp only;split
 ·simp only[al];omega
 ·split
  ·simp only[al];omega
  ·split
   ·simp only[al];omega
   ·split
    ·simp only[al];omega
    ·simp only[al];omega
theorem grpZ_hh {g:Grp} (hf:fitG g) (h:chkB g=true) (h1:g.ops.length<=1) (hs:∀o∈g.ops,o.dots.length<=16∧o.elems.length<=3∧o.text.size<=2∧o.name.size<=1):(grpZ g).length<=1000:=by
 obtain⟨h1,h2,h3,h4,h5⟩:=chk_ok hf h;obtain⟨s1,s2,s3⟩:=chk_sho h;have e1:=cZ h1.1.2;have e2:=cZ h1.2.2;have e3:=cZ h2.2;have e4:=cZ h4.1.2;have e5:=cZ h4.2.2;have e6:(natZ g.ops.length).length<=10:=cZ (by omega);have e7:(natZ g.deps.length).length<=10:=cZ (by omega);have e8:=gM (z:=natZ) (l:=g.deps) λx hx=>cZ (h3.2 x hx).2;have e9:=gM (z:=opZ) (l:=g.ops) λo ho=>opZ_hh (h5.2 o ho) (hs o ho).1 (hs o ho).2.1 (hs o ho).2.2.1 (hs o ho).2.2.2;unfold grpZ jZ;simp only[al];omega
end
section
open Go.RowKit Go.Lib Go.Sort
attribute [local go_sem ↓] Go.wp_at_zero Go.wp_at_succ
def maxV (v u:List Int):List Int:=(List.range (max v.length u.length)).map λk=>max (v.getD k 0) (u.getD k 0)
def iq (v u:List Int):List Int:=bW (maxV v u)
theorem maxV_len (v u:List Int):(maxV v u).length=max v.length u.length:=by unfold maxV;simp
theorem getD_out {v:List Int} {k:Nat} (h:v.length<=k):v.getD k 0=0:=by rw[ae,ck h];rfl
theorem maxV_getD (v u:List Int) (k:Nat):(maxV v u).getD k 0=max (v.getD k 0) (u.getD k 0):=by
 unfold maxV;rw[ae,cT];by_cases h:k<max v.length u.length
 ·rw[iU h];rfl
 ·rw[ck (by simpa using h),Option.map_none,Option.getD_none,getD_out (by omega),getD_out (by omega)];rfl
theorem mergeV_getD (v u:List Int) (k:Nat):(iq v u).getD k 0=max (v.getD k 0) (u.getD k 0):=by unfold iq;rw[pv_getD,maxV_getD]
theorem mergeV_len (v u:List Int):(iq v u).length<=max v.length u.length:=by
 unfold iq;have h1:=pv_len (maxV v u);rw[maxV_len] at h1;exact h1
theorem own_capmax {w:World} {B E s n c:Nat} {A:Option Addr} {xs:List Value} (h:w.ownsRow B E s (.slice A n c) n xs):c<=maxLen:=by
 rcases h.2 with⟨e1,e2⟩|⟨g,cap,cur,e1,e2,e3,e4,e5,e6⟩
 ·cases e1;exact aq _
 ·cases e1;exact e5
theorem refmerge_any (A A2:Option Addr) (c c2:Nat) (v u:List Int) (w:World) (hv:v.length<=1000) (hu:u.length<=1000) (hA:VecR w A v) (hA2:VecR w A2 u):
  Calls Tryz.prog 87 #[.slice A v.length c,.slice A2 u.length c2] w λe w'=>∃A' c',e= .returned (.slice A' (iq v u).length c')∧VecS w' (λk=>w.heap.size<=k) A' (iq v u)∧(iq v u).length<=c'∧c'<=maxLen∧Below w.heap.size w w':=by
 obtain⟨i0,hi,hz0,hz1,hz2⟩:=bD infointC_;obtain⟨xs,hxs⟩:∃xs,xs=maxV v u:=⟨_,rfl⟩;have HMG:=hid (show iq v u=bW xs by rw[hxs];rfl);have HXG:=hid (show ∀k:Nat,xs.getD k 0=max (v.getD k 0) (u.getD k 0) from λk=>by rw[hxs];exact maxV_getD v u k);have hxl:xs.length=max v.length u.length:=by rw[hxs,maxV_len]
 obtain⟨m,hm⟩:∃m,m=xs.length:=⟨_,rfl⟩;have hm1:m<=1000:=by omega
 have e0:max (v.length:Int) (u.length:Int)=(m:Int):=by omega
 have HXL:=hid hm;have HA:=hid hA;have HA2:=hid hA2;rw[HMG.out];clear hxs hxl hm hA hA2;go_enter Tryz.func87,Tryz.ntmps87;go_upto_region 3 with fail;go_loopw [5,6] (λo i wr=>∃(k:Nat) (A':Option Addr) (c':Nat),k<=m∧i= .int .i64 ((k:Int)+1)∧o= .slice A' k c'∧Hid (wr.ownsRow w.heap.size 3 1 (.slice A' k c') k ((xs.take k).flatMap iE))∧Hid (Below w.heap.size w wr)) (λo i _=>m+1-(RowKit.intOf i).toNat)
 case atStart=>exact⟨0,none,0,aq _,by go_num,rfl,hid (aF _ _ _ _),hid (ag _ _)⟩
 case round=>
  obtain⟨k,A',c',hk,rfl,rfl,HO,HBr⟩:=hrel;have hsz:=HBr.out.size;by_cases hlt:k<m
  ·have i1:(k:Int)+1<=(m:Int):=by omega
   have HTK:=hid (take_int xs k (by rw[<-HXL.out];exact hlt));have HCA:=hid (λW (hB:Below w.heap.size w W)=>by have h9:=fh A c v ((k:Int)+1) W (by omega) (HA.out.below hB);rw[show atV v ((k:Int)+1)=v.getD k 0 from kG] at h9;exact h9);have HCB:=hid (λW (hB:Below w.heap.size w W)=>by have h9:=fh A2 c2 u ((k:Int)+1) W (by omega) (HA2.out.below hB);rw[show atV u ((k:Int)+1)=u.getD k 0 from kG] at h9;exact h9);have hx:=HXG.out k;generalize v.getD k 0=a at *;generalize u.getD k 0=b at *;obtain⟨z,hz⟩:∃z,z=max a b:=⟨_,rfl⟩;have e1:max a b=z:=hz.symm;have HX:=hid (show xs.getD k 0=z by rw[hx,hz]);clear hz hx
   go_wp2_with (first
    |(go_at_call 55;refine(HCA.out wr HBr.out).mono ?_;rintro e w' ⟨rfl,rfl⟩)
    |(go_at_call 55;refine(HCB.out _ HBr.out).mono ?_;rintro e w' ⟨rfl,rfl⟩)
    |(at_builtin;refine bu _ rfl _ _ 27 rfl w.heap.size 3 i0 (.int .i64 0) 1 8 Tryz.underlying27 hi hz0 hz1 hz2 rfl (by decide) (.slice A' k c') k _ rfl (by exact HO.out.alloc _) ⟨_,0,none⟩ 1 1 (iE z) rfl rfl (by exact dH _ _ _) (by exact ocintC_ _) (by unfold maxLen;omega) (by omega) (by simp;omega) ?_;intro v' w3 hown' hgrow _;have HO3:=hid hown';have HB3:=hid ((HBr.out.alloc hsz _).grown hgrow (by simp;omega) (λb hb=>(HO.out.lt b hb).1));clear hown' hgrow))
   obtain⟨A9,c9,rfl⟩:=bZ HO3.out;go_roundw
   case rel=>exact⟨k+1,A9,c9,by omega,by go_num,rfl,hid (by rw[HTK.out,HX.out];exact HO3.out),HB3⟩
   case measure=>(simp[RowKit.intOf];omega)
  ·obtain rfl:k=m:=by omega
   have i1:¬(k:Int)+1<=(k:Int):=by omega
   have hO9:wr.ownsRow w.heap.size 3 1 (.slice A' k c') k (xs.flatMap iE):=by have h9:=HO.out;rw[HXL.out,aK,<-HXL.out] at h9;exact h9
   have hO8:=hO9;rw[HXL.out] at hO8;have hvs:=vec_own hO8;have hcap:=row_cap hO9;have HVS:=hid (vecS_plain hvs);have hpl:=pv_len xs;have hxl9:=HXL.out;have HCM:=hid (own_capmax hO9)
   have HPL:=hid (show Calls Tryz.prog 105 #[.slice A' k c'] wr λe w'=>e= .returned (.slice A' (bW xs).length c')∧w'=wr from by
    have h9:=kz A' c' xs wr (by omega) (by omega) (VecS.vec hvs)
    rw[<-HXL.out] at h9;exact h9)
   have HLE:=hid (show(bW xs).length<=c' by omega);clear hO9 hO8 hvs hcap hpl hxl9;go_wp2_with (go_at_call 105;refine HPL.out.mono ?_;rintro e w9 ⟨rfl,rfl⟩);go_ret;exact⟨A',c',rfl,HVS.out,HLE.out,HCM.out,HBr.out⟩
def jX (l:List Gid) (n:Nat):Gid:=l.getD (n % (l.length+1)) .zero
theorem pick_any (L:List Gid) (A:Option Addr) (c:Nat) (q:Nat) (S:Nat->Prop) (w:World) (hl:L.length<=100000) (hq:q<=255) (hR:RowF w S A 3 idL .zero L):
  Calls Tryz.prog 143 #[.slice A L.length c,.int .u8 (q:Int)] w λe w'=>e= .returned (.agg (idL (jX L q)).toArray)∧Below w.heap.size w w':=by
 obtain⟨u,hu⟩:∃u,u=q % (L.length+1):=⟨_,rfl⟩;have hul:u<=L.length:=by have:=fv q (show 0<L.length+1 by omega);omega
 have j1:IntKind.i64.wrap (q:Int)=(q:Int):=by rw[bz];omega
 have j2:((q:Int)).tmod ((L.length:Int)+1)=(u:Int):=by rw[ee (by omega),hu];rfl
 have j3:IntKind.i64.wrap (u:Int)=(u:Int):=by rw[bz];omega
 have j6:¬(L.length:Int)+1=0:=by omega
 have HPK:=hid (show jX L q=L.getD u .zero by unfold jX;rw[hu]);have HR:=hid hR;have HB0:=hid (show Below w.heap.size w (w.alloc (.cells #[(0:Int),(0:Int),(0:Int)] 108)) from(ag _ _).alloc (aa _) _);clear hu hR;rw[HPK.out];by_cases h:u=L.length
 ·have k1:((u:Int) == (L.length:Int))=true:=by rw[ce];omega
  have HZ:=hid (show L.getD u Gid.zero=Gid.zero by rw[ae,ck (by omega)];rfl);rw[HZ.out];go_enter Tryz.func143,Tryz.ntmps143;go_wp2;refine bB (v:= .agg #[(0:Int),(0:Int),(0:Int)]) (by simp[results,Tryz.results143,go_sem]) rfl ?_;exact⟨rfl,HB0.out⟩
 ·have k1:((u:Int) == (L.length:Int))=false:=by rw[aV];omega
  have k2:(0:Int)<=(u:Int):=by omega
  have k3:(u:Int)<(L.length:Int):=by omega
  obtain⟨rb,ro,rfl,-,hrb,hrange⟩:=HR.out.range (λ_=>rfl) (k:=u) (by omega);generalize L.getD u Gid.zero=x at *;obtain⟨⟨t,r⟩,n⟩:=x;have HRG:=hid (cd (show w.rangeAt rb (ro+u*3) [t,r,n] from hrange) hrb HB0.out);clear hrange hrb;go_enter Tryz.func143,Tryz.ntmps143
  go_wp2_with (first
   |(refine lM HRG aw ?_)
   |(refine bM rfl _ _ _ rfl _ _ _ _ rfl ?_ rfl ?_ ?_ ?_ ?_;(focus(simp;done));kernel_rfl;rfl;rfl))
  refine bB (v:= .agg #[t,r,n]) (by simp[results,Tryz.results143,go_sem]) rfl ?_;exact⟨rfl,(ag _ _).alloc (aa _) _⟩
theorem joined_any (L M:List Gid) (A A2:Option Addr) (c c2 B B2:Nat) (w:World) (hl:L.length<=100000) (hl2:M.length<=100000) (hO:w.ownsRow B 108 3 (.slice A L.length c) L.length (L.flatMap idL)) (hO2:w.ownsRow B2 108 3 (.slice A2 M.length c2) M.length (M.flatMap idL)):
  Calls Tryz.prog 144 #[.slice A L.length c,.slice A2 M.length c2] w λe w'=>∃A' c',e= .returned (.slice A' (L++M).length c')∧w'.ownsRow w.heap.size 108 3 (.slice A' (L++M).length c') (L++M).length ((L++M).flatMap idL)∧Below w.heap.size w w':=by
 obtain⟨i0,hi,hz0,hz1,hz2⟩:=bD info_id;have hx:=row_at hO;have hx2:=row_at hO2;have hbb:∀ad,A2=some ad->ad.block<w.heap.size:=λad e=>by
  rcases hO2.2 with⟨e1,e2⟩|⟨g,cap,cur,e1,e2,e3,e4⟩
  ·injection e1 with e5;rw[e5] at e;cases e
  ·injection e1 with e5;rw[e5] at e;injection e with e;rw[<-e];exact lt_of_block e3
 clear hO hO2;have HFL:=hid (flat_len (f:=idL) (s:=3) (λ_=>rfl) L);have HFM:=hid (flat_len (f:=idL) (s:=3) (λ_=>rfl) M);have HUL:=hid (show ∀u∈L.flatMap idL,u.oneCell'=true from λu hu=>by obtain⟨x,-,hx⟩:=dI.1 hu;exact oc_idL x u hx);have HUM:=hid (show ∀u∈M.flatMap idL,u.oneCell'=true from λu hu=>by obtain⟨x,-,hx⟩:=dI.1 hu;exact oc_idL x u hx);cases A with
 | none=>
  have h0:=hx.1 rfl;obtain rfl:L=[]:=ci.1 h0;cases A2 with
  |none=>
   have h1:=hx2.1 rfl;obtain rfl:M=[]:=ci.1 h1;go_enter Tryz.func144,Tryz.ntmps144;go_wp2;go_ret;exact⟨none,0,rfl,aF _ _ _ _,ag _ _⟩
  |some ad2=>
   have HC2:=hid (hx2.2 ad2 rfl);clear hx hx2;go_enter Tryz.func144,Tryz.ntmps144;go_upto_region 3 with fail;go_wp2_with (at_builtin;refine bu _ rfl _ _ 123 rfl w.heap.size 108 i0 (.agg #[(0:Int),(0:Int),(0:Int)]) 3 24 eQ hi hz0 hz1 hz2 rfl (by decide) (.slice none 0 0) 0 _ rfl (by exact(aF w w.heap.size 108 3)) ad2 M.length c2 (M.flatMap idL) rfl HFM.out HC2.out HUM.out (by unfold maxLen;omega) (by omega) (by simp) ?_;intro v' w5 hown hgrow _;have HO5:=hid hown;have HB5:=hid (Below.grown (ag w.heap.size w) hgrow (by simp) (λb hb=>(i9 (aF w w.heap.size 108 3) b hb).1));clear hown hgrow);obtain⟨A9,c9,rfl⟩:=bZ HO5.out;rw[bN] at HO5 ⊢;go_ret;exact⟨A9,c9,rfl,HO5.out,HB5.out⟩
 | some ad=>
  have HC:=hid (hx.2 ad rfl);cases A2 with
  | none=>
   have h1:=hx2.1 rfl;obtain rfl:M=[]:=ci.1 h1;clear hx hx2;go_enter Tryz.func144,Tryz.ntmps144;go_upto_region 3 with(at_builtin;refine bu _ rfl _ _ 123 rfl w.heap.size 108 i0 (.agg #[(0:Int),(0:Int),(0:Int)]) 3 24 eQ hi hz0 hz1 hz2 rfl (by decide) (.slice none 0 0) 0 _ rfl (by exact(aF w w.heap.size 108 3)) ad L.length c (L.flatMap idL) rfl HFL.out HC.out HUL.out (by unfold maxLen;omega) (by omega) (by simp) ?_;intro v' w5 hown hgrow _;have HO5:=hid hown;have HB5:=hid (Below.grown (ag w.heap.size w) hgrow (by simp) (λb hb=>(i9 (aF w w.heap.size 108 3) b hb).1));clear hown hgrow);rw[bN] at HO5;obtain⟨A9,c9,rfl⟩:=bZ HO5.out;have HO6:=hid (show w5.ownsRow w.heap.size 108 3 (.slice A9 L.length c9) L.length ((L++[]).flatMap idL) by rw[fV];exact HO5.out);rcases HO6.out.2 with⟨e1,e2⟩|⟨g,cap,cur,e1,e2,e3,e4,e5,e6⟩
   ·injection e1 with e7 e8 e9;subst e7;have hL:L=[]:=ci.1 e8;subst hL e9;go_wp2;go_ret;exact⟨none,0,rfl,HO6.out,HB5.out⟩
   ·injection e1 with e7 e8 e9;subst e7 e9;have k1:¬c9<L.length:=by omega
    have k2:¬c9<L.length+0:=by omega
    have HU:=hid e4;clear e2 e3 e5 e6 e8;go_wp2;go_ret
    first
     |exact⟨_,c9,rfl,HO6.out,HB5.out⟩
     |(have h9:=HO6.out;refine⟨_,c9,rfl,?_,HB5.out⟩;simpa using h9)
  |some ad2=>
   have HC2:=hid (hx2.2 ad2 rfl);have HBB:=hid (hbb ad2 rfl);clear hx hx2 hbb;go_enter Tryz.func144,Tryz.ntmps144;go_upto_region 3 with(at_builtin;refine bu _ rfl _ _ 123 rfl w.heap.size 108 i0 (.agg #[(0:Int),(0:Int),(0:Int)]) 3 24 eQ hi hz0 hz1 hz2 rfl (by decide) (.slice none 0 0) 0 _ rfl (by exact(aF w w.heap.size 108 3)) ad L.length c (L.flatMap idL) rfl HFL.out HC.out HUL.out (by unfold maxLen;omega) (by omega) (by simp) ?_;intro v' w5 hown hgrow _;have HO5:=hid hown;have HB5:=hid (Below.grown (ag w.heap.size w) hgrow (by simp) (λb hb=>(i9 (aF w w.heap.size 108 3) b hb).1));clear hown hgrow);rw[bN] at HO5;obtain⟨A9,c9,rfl⟩:=bZ HO5.out;have HO6:=hid HO5.out;have HB6:=hid HB5.out;have HC3:=hid (show ∀(j:Nat) (u:Value),(M.flatMap idL)[j]? =some u->w5.cell? (ad2.add j)=some u from λj u hj=>(aS (w:=w) (w':=w5) (a:=ad2.add j) (by rw[show(ad2.add j).block=ad2.block from by unfold Addr.add;split<;>rfl];exact HB5.out.block _ HBB.out)).trans (HC2.out j u hj));generalize w5=w6 at *;clear HO5 HB5 HC HC2 HBB;have hsz6:=HB6.out.size
   go_wp2_with (at_builtin;refine bu _ rfl _ _ 123 rfl w.heap.size 108 i0 (.agg #[(0:Int),(0:Int),(0:Int)]) 3 24 eQ hi hz0 hz1 hz2 rfl (by decide) (.slice A9 L.length c9) L.length _ rfl (by exact HO6.out) ad2 M.length c2 (M.flatMap idL) rfl HFM.out HC3.out HUM.out (by unfold maxLen;omega) (by omega) (by omega) ?_;intro v' w5 hown hgrow _;have HO5:=hid hown;have HB5:=hid (Below.grown HB6.out hgrow (by omega) (λb hb=>(i9 HO6.out b hb).1));clear hown hgrow);obtain⟨A8,c8,rfl⟩:=bZ HO5.out;have HO8:=hid (show w5.ownsRow w.heap.size 108 3 (.slice A8 (L++M).length c8) (L++M).length ((L++M).flatMap idL) by rw[al,aI];exact HO5.out);go_ret;refine⟨A8,c8,?_,?_,HB5.out⟩
   ·first
     |rfl
     |(rw[al];rfl)
     |simp
   ·first
     |exact HO8.out
     |(have h9:=HO8.out;rw[al] at h9;exact h9)
     |(have h9:=HO8.out;simpa using h9)
end
end Go.Proofs.YtkhmicndehlneaaGreatDoor
