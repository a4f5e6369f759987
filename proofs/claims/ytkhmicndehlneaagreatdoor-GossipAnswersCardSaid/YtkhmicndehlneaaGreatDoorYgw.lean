/- Part 23 of the walks and plain laws that this claim uses, joined. Conditions: as each theorem states. -/
import Derived.Test.YtkhmicndehlneaaGreatDoorYgv
namespace Go.Proofs.YtkhmicndehlneaaGreatDoor
set_option maxRecDepth 100000
set_option maxHeartbeats 16000000
set_option linter.unusedVariables false
section
open Go.RowKit Go.Lib Go.Sort
theorem pigeon:∀(n m:Nat) (f:Nat->Nat),(∀i,i<m->f i<n)->(∀i j,i<m->j<m->f i=f j->i=j)->m<=n
 |n,0,_,_,_=>Nat.zero_le _
 |0,m+1,f,h1,_=>absurd (h1 0 (Nat.succ_pos _)) (Nat.not_lt_zero _)
 | n +1,m+1,f,h1,h2=>by
  have h:=pigeon n m (λi=>if f i=n then f m else f i) (λi hi=>by
   have a:=h1 i (by omega);have b:=h1 m (by omega);show(if f i=n then f m else f i)<n;split
   ·rename_i e;have:f m≠n:=λe2=>by have:=h2 i m (by omega) (by omega) (by rw[e,e2]);omega
    omega
   ·omega) (λi j hi hj e=>by
   have e:(if f i=n then f m else f i)=(if f j=n then f m else f j):=e;split at e
   ·rename_i e1;split at e
    ·rename_i e2;exact h2 i j (by omega) (by omega) (by rw[e1,e2])
    ·have:=h2 m j (by omega) (by omega) e;omega
   ·split at e
    ·have:=h2 i m (by omega) (by omega) e;omega
    ·exact h2 i j (by omega) (by omega) e)
  omega
def reach (N:List Plc):Nat->Gid->Prop
 |0,x=>x= .zero
 |m+1,x=>x≠ .zero∧∃k,findP N x=some k∧reach N m (N.getD k plc0).p
def ups (N:List Plc):Nat->Gid->Gid->Prop
 |0,x,y=>x=y
 |s+1,x,y=>∃k,findP N x=some k∧ups N s (N.getD k plc0).p y
theorem reach_one {N:List Plc}:∀{m m':Nat} {x:Gid},reach N m x->reach N m' x->m=m'
 |0,0,_,_,_=>rfl
 |0,m'+1,_,h,h'=>absurd h h'.1
 |m+1,0,_,h,h'=>absurd h' h.1
 |m+1,m'+1,x,⟨_,k,hk,h⟩,⟨_,k',hk',h'⟩=>by
  rw[hk] at hk';cases hk';rw[reach_one h h']
theorem reach_idx {N:List Plc}:∀{m:Nat} {x:Gid},reach N m x->∃g:Nat->Nat,∀i,i<m->∃y,reach N (m-i) y∧findP N y=some (g i)
 |0,_,_=>⟨λ_=>0,λi hi=>absurd hi (Nat.not_lt_zero _)⟩
 | m+1,x,⟨hx,k,hk,h⟩=>by
  obtain⟨g,hg⟩:=reach_idx h;refine⟨λi=>match i with|0=>k|i+1=>g i,λi hi=> ?_⟩;cases i with
  |zero=>exact⟨x,⟨hx,k,hk,h⟩,hk⟩
  |succ i=>
   obtain⟨y,h1,h2⟩:=hg i (by omega);exact⟨y,by rw[show m+1-(i+1)=m-i by omega];exact h1,h2⟩
theorem reach_le {N:List Plc} {m:Nat} {x:Gid} (h:reach N m x):m<=N.length:=by
 obtain⟨g,hg⟩:=reach_idx h;refine pigeon _ _ g (λi hi=> ?_) (λi j hi hj e=> ?_)
 ·obtain⟨y,_,h2⟩:=hg i hi;exact(findP_lt h2).1
 ·obtain⟨y,h1,h2⟩:=hg i hi;obtain⟨y',h1',h2'⟩:=hg j hj;have e1:=(findP_lt h2).2;have e2:=(findP_lt h2').2;rw[e,e2] at e1;rw[e1] at h1';have:=reach_one h1 h1';omega
theorem rooted_reach {N:List Plc} (hz:findP N .zero=none):∀(f:Nat) (x:Gid),rootedF N f x=true->∃m,reach N (m+1) x
 |0,_,h=>by cases h
 | f +1,x,h=>by
  rw[rootedF] at h;cases hk:findP N x with
  |none=>rw[hk] at h;cases h
  | some k=>
   have hx:x≠ .zero:=λe=>by rw[e,hz] at hk;cases hk
   rw[hk] at h;simp only at h;by_cases hp:(N.getD k plc0).p.eqb .zero=true
   ·exact⟨0,hx,k,hk,Gid.eqb_iff.1 hp⟩
   ·rw[if_neg hp] at h;cases hk2:findP N (N.getD k plc0).p with
    |none=>rw[hk2] at h;cases h
    | some k2=>
     rw[hk2] at h;simp only at h;by_cases hd:(N.getD k2 plc0).dir=true
     ·rw[if_pos hd] at h;obtain⟨m,hm⟩:=rooted_reach hz f _ h;exact⟨m+1,hx,k,hk,hm⟩
     ·rw[if_neg hd] at h;cases h
theorem within_ups {N:List Plc} (hz:findP N .zero=none) {y:Gid} (hy:y≠ .zero):∀(f m:Nat) (x:Gid),m<f->reach N m x->withinF N y f x=true->∃s,ups N s x y
 |0,m,x,hm,_,_=>absurd hm (Nat.not_lt_zero _)
 | f +1,m,x,hm,hr,h=>by
  rw[withinF] at h;by_cases e:x.eqb y=true
  ·exact⟨0,Gid.eqb_iff.1 e⟩
  ·rw[if_neg e] at h;cases hk:findP N x with
   |none=>rw[hk] at h;cases h
   | some k=>
    rw[hk] at h;cases m with
    |zero=>rw[show x= .zero from hr,hz] at hk;cases hk
    |succ m=>
     obtain⟨_,k',hk',hr'⟩:=hr;rw[hk] at hk';cases hk';obtain⟨s,hs⟩:=within_ups hz hy f m _ (by omega) hr' h;exact⟨s+1,k,hk,hs⟩
theorem ups_within {N:List Plc} {y:Gid}:∀(s f:Nat) (x:Gid),s<f->ups N s x y->withinF N y f x=true
 |_,0,_,h,_=>absurd h (Nat.not_lt_zero _)
 |0,f+1,x,_,h=>by rw[withinF,if_pos (Gid.eqb_iff.2 h)]
 |s+1,f+1,x,hs,⟨k,hk,h⟩=>by
  rw[withinF];split
  ·rfl
  ·rw[hk];exact ups_within s f _ (by omega) h
theorem ups_tail {N:List Plc} {y:Gid} {k:Nat} (hk:findP N y=some k):∀(s:Nat) (x:Gid),ups N s x y->ups N (s+1) x (N.getD k plc0).p
 |0,x,h=>by have h:x=y:=h;subst h;exact⟨k,hk,rfl⟩
 |s+1,x,⟨k',hk',h⟩=>⟨k',hk',ups_tail hk s _ h⟩
theorem ups_reach {N:List Plc} {y:Gid}:∀(s m:Nat) (x:Gid),(y≠ .zero->True)->reach N m x->findP N .zero=none->ups N s x y->∃r,r+s=m∧reach N r y
 |0,m,x,_,hr,_,h=>by have h:x=y:=h;subst h;exact⟨m,rfl,hr⟩
 |s+1,0,x,_,hr,hz,⟨k,hk,h⟩=>by rw[show x= .zero from hr,hz] at hk;cases hk
 |s+1,m+1,x,t,⟨_,k',hk',hr⟩,hz,⟨k,hk,h⟩=>by
  rw[hk] at hk';cases hk';obtain⟨r,e,h2⟩:=ups_reach s m _ t hr hz h;exact⟨r,by omega,h2⟩
theorem findP_mem {S:List Plc} {p:Plc} (h:p∈S):∃k,findP S p.n=some k:=by
 cases e:findP S p.n with
 |some k=>exact⟨k,rfl⟩
 |none=>
  unfold findP at e;rw[List.findIdx?_eq_none_iff] at e;have:=e p h;rw[show p.n.eqb p.n=true from Gid.eqb_iff.2 rfl] at this;cases this
structure RightR (N:List Plc):Prop where
 one:∀p∈N,∀q∈N,p.n=q.n->p=q
 ok:∀p∈N,p.n.right=true∧nameB p.name=true
theorem RightR.step {N:List Plc} (h:RightR N) (p:Plc):RightR (stepR N p):=by
 unfold stepR;split
 ·rename_i c;simp only[Bool.and_eq_true] at c;obtain⟨⟨c1,c2⟩,c3⟩:=c;have hno:∀q∈N,q.n≠p.n:=λq hq e=>by
   obtain⟨k,hk⟩:=findP_mem hq;rw[e] at hk;rw[hk] at c3;cases c3
  refine⟨λa ha b hb e=> ?_,λa ha=> ?_⟩
  ·rcases List.mem_append.1 ha with ha|ha<;>rcases List.mem_append.1 hb with hb|hb
   ·exact h.one a ha b hb e
   ·rw[List.mem_singleton.1 hb] at e;exact absurd e (hno a ha)
   ·rw[List.mem_singleton.1 ha] at e;exact absurd e.symm (hno b hb)
   ·rw[List.mem_singleton.1 ha,List.mem_singleton.1 hb]
  ·rcases List.mem_append.1 ha with ha|ha
   ·exact h.ok a ha
   ·rw[List.mem_singleton.1 ha];exact⟨c1,c2⟩
 ·exact h
theorem RightR.fold:∀(l:List Plc) {N:List Plc},RightR N->RightR (l.foldl stepR N)
 | [],_,h=>h
 |p::l,_,h=>RightR.fold l (h.step p)
theorem rightP_ok (L:List Plc):RightR (rightP L):=RightR.fold L ⟨λ_ h=>absurd h List.not_mem_nil,λ_ h=>absurd h List.not_mem_nil⟩
theorem RightR.zero {N:List Plc} (h:RightR N):findP N .zero=none:=by
 cases e:findP N .zero with
 |none=>rfl
 |some k=>
  obtain⟨hk,h2⟩:=findP_lt e;have:=(h.ok _ (getD_memF hk plc0)).1;rw[h2] at this;exact absurd this (by decide)
theorem climbs_seen {N:List Plc} {V:List Gid} (h:RightR N) {q:Plc} (hq:q∈N) (hv:V.any (λy=>y.eqb q.n)=true) (hro:rooted N q.n=true) {m:Nat} (hm:reach N m q.n):
  ∀(r s f:Nat) (p:Plc),r+s=m->r<=f+1->p∈N->reach N r p.n->ups N s q.n p.n->climbs (N.filter (isSeen N V)) f p=true
 |0,s,f,p,_,_,hp,hr,_=>by
  have:=(h.ok p hp).1;rw[show p.n= .zero from hr] at this;exact absurd this (by decide)
 | r +1,s,f,p,hrs,hf,hp,⟨hx,k,hk,hr⟩,hu=>by
  obtain⟨hk1,hk2⟩:=findP_lt hk;have hpk:N.getD k plc0=p:=h.one _ (getD_memF hk1 plc0) _ hp hk2;rw[hpk] at hr;by_cases hz:p.p.eqb .zero=true
  ·cases f with
   |zero=>exact hz
   |succ f=>rw[climbs,if_pos hz]
  ·cases r with
   |zero=>exact absurd (Gid.eqb_iff.2 hr) hz
   | succ r=>
    have hr0:=hr;obtain⟨hx2,k2,hk2',hr2⟩:=hr;obtain⟨j1,j2⟩:=findP_lt hk2';have hm2:=getD_memF j1 plc0;have hu2:ups N (s+1) q.n p.p:=by have:=ups_tail hk s _ hu;rw[hpk] at this;exact this
    have hml:=reach_le hm;have hsee:isSeen N V (N.getD k2 plc0)=true:=by
     unfold isSeen;rw[List.any_eq_true];refine⟨q,hq,?_⟩;rw[hv,hro,j2];show withinF N p.p (N.length+1) q.n=true;exact ups_within (s+1) _ _ (by omega) hu2
    have hmem:N.getD k2 plc0∈N.filter (isSeen N V):=List.mem_filter.2 ⟨hm2,hsee⟩;obtain⟨k3,hk3⟩:=findP_mem hmem;obtain⟨l1,l2⟩:=findP_lt hk3;have he:(N.filter (isSeen N V)).getD k3 plc0=N.getD k2 plc0:=h.one _ (List.mem_filter.1 (getD_memF l1 plc0)).1 _ hm2 l2;rw[j2] at hk3;cases f with
    |zero=>omega
    |succ f=>
     rw[climbs,if_neg hz,hk3];show climbs _ f _=true;rw[he];exact climbs_seen h hq hv hro hm (r+1) (s+1) f _ (by omega) (by omega) hm2 (by rw[j2];exact hr0) (by rw[j2];exact hu2)
theorem seen_climbs (L:List Plc) (V:List Gid) (f:Nat) (hf:L.length<=f+1):∀p∈seenP L V,nameB p.name=true∧climbs (seenP L V) f p=true:=by
 intro p hp;have h:=rightP_ok L;have hl:=rightP_len L;unfold seenP at hp ⊢;generalize rightP L=N at *;obtain⟨hp1,hp2⟩:=List.mem_filter.1 hp;refine⟨(h.ok p hp1).2,?_⟩;unfold isSeen at hp2;obtain⟨q,hq,hc⟩:=List.any_eq_true.1 hp2;simp only[Bool.and_eq_true] at hc;obtain⟨⟨hv,hro⟩,hw⟩:=hc;obtain⟨m,hm⟩:=rooted_reach h.zero _ _ hro;have hml:=reach_le hm;have hpz:p.n≠ .zero:=λe=>by have:=(h.ok p hp1).1;rw[e] at this;exact absurd this (by decide)
 obtain⟨s,hs⟩:=within_ups h.zero hpz (N.length+1) (m+1) q.n (by omega) hm hw;obtain⟨r,e,hr⟩:=ups_reach s (m+1) q.n (λ_=>trivial) hm h.zero hs;exact climbs_seen h hq hv hro hm r s f p e (by omega) hp1 hr hs
end
section
open Go.RowKit Go.Lib Go.Sort
attribute [local go_sem ↓] Go.wp_at_zero Go.wp_at_succ
def stepOn (on:List Hd) (x:Hd):List Hd:=if on.any (λy=>y.u.eqb x.s)=true then on else on++[x]
def onH (l:List Hd):List Hd:=(sortH l).foldl stepOn []
def onS (l:List Hd):List Gst:=(onH l).reverse.map (·.s)
theorem stepOn_len (on:List Hd) (x:Hd):(stepOn on x).length<=on.length+1:=by
 unfold stepOn;split
 ·omega
 ·rw[List.length_append,List.length_singleton];exact Nat.le_refl _
theorem foldOn_len:∀(l:List Hd) (out:List Hd),(l.foldl stepOn out).length<=out.length+l.length
 | [],out=>Nat.le_refl _
 |x::l,out=>by
  have h1:=foldOn_len l (stepOn out x);have h2:=stepOn_len out x;rw[List.foldl_cons,List.length_cons];omega
theorem onS_len (l:List Hd):(onS l).length<=l.length:=by
 unfold onS onH;rw[List.length_map,List.length_reverse];have h1:=foldOn_len (sortH l) [];have h2:=sortH_len l [];simp only[List.length_nil,Nat.zero_add] at h1 h2;exact Nat.le_trans h1 h2
theorem rev_step {M:List Hd} {q:Nat} (h:q<M.length):(M.drop q).reverse.map (·.s)=(M.drop (q+1)).reverse.map (·.s)++[(M.getD q hd0).s]:=by
 rw[List.drop_eq_getElem_cons h,List.reverse_cons,List.map_append,List.getD_eq_getElem?_getD,List.getElem?_eq_getElem h];rfl
theorem on_any (L:List Hd) (A:Option Addr) (c:Nat) (S:Nat->Prop) (w:World) (hl:L.length<=100000) (hR:RowF w S A 4 hdL hd0 L):
  Calls Tryz.prog 107 #[.slice A L.length c] w λe w'=>∃A' c',e= .returned (.slice A' (onS L).length c')∧w'.ownsRow w.heap.size 42 2 (.slice A' (onS L).length c') (onS L).length ((onS L).flatMap stL)∧Below w.heap.size w w':=by
 obtain⟨i0,hi,hz0,hz1,hz2⟩:=info_parts info_hd;obtain⟨i1,hi',hy0,hy1,hy2⟩:=info_parts info_st;have HSO:=hid (sortedh_any L A c S w hl hR);have hsl:=sortH_len L [];have HON:=hid (show(onS L).length=(onH L).length by unfold onS;rw[List.length_map,List.length_reverse]);obtain⟨N,hN⟩:∃N,N=sortH L:=⟨_,rfl⟩;obtain⟨R,hR9⟩:∃R,R=onS L:=⟨_,rfl⟩;have HRR:=hid (show R=(N.foldl stepOn []).reverse.map (·.s) by rw[hR9,hN];rfl);rw[<-hR9];rw[<-hN] at HSO;have hNl:N.length<=100000:=by rw[hN];simp only[List.length_nil,Nat.zero_add] at hsl;exact Nat.le_trans hsl hl
 clear hR hR9 hN hsl HON;go_enter Tryz.func107,Tryz.ntmps107;go_upto_region 4 with(go_at_call 166;refine HSO.out.mono ?_;rintro e w1 ⟨A1,c1,rfl,hown1,hB1⟩;have HN1:=hid hown1;have HB1:=hid hB1;clear hown1 hB1);go_loopw [4,5] (λo i wr=>∃(k:Nat) (A':Option Addr) (c' m:Nat) (M:List Hd),k<=N.length∧i= .int .i64 k∧o= .slice A' m c'∧m<=k∧Hid (m=M.length)∧Hid (M=(N.take k).foldl stepOn [])∧Hid (wr.ownsRow w1.heap.size 224 4 (.slice A' m c') m (M.flatMap hdL))∧Hid (Below w1.heap.size w1 wr)) (λo i _=>N.length-(RowKit.intOf i).toNat)
 case atStart=>exact⟨0,none,0,0,[],Nat.zero_le _,rfl,rfl,Nat.le_refl _,hid rfl,hid rfl,hid (World.ownsRow_nil _ _ _ _),hid (Below.refl _ _)⟩
 case round=>
  obtain⟨k,A',c',m,M,hk,rfl,rfl,hmk,HML,HM,HO,HBr⟩:=hrel;by_cases hlt:k<N.length
  ·have i1:(0:Int)<=(k:Int):=by omega
   have i2:(k:Int)<(N.length:Int):=by omega
   obtain⟨rb,rfl,-,hrb,hrange⟩:=own_range (f:=hdL) (λ_=>rfl) HN1.out hlt hd0;have hst:(N.take (k+1)).foldl stepOn []=stepOn M (N.getD k hd0):=by rw[HM.out];exact foldl_take _ _ hlt hd0
   generalize N.getD k hd0=p at *;obtain⟨⟨t,r⟩,⟨ut,ur⟩⟩:=p;have HRW:=hid (λW (hB:Below w1.heap.size w1 W)=>show W.rangeAt rb (k*4) [t,r,ut,ur] from rangeB hrange hrb hB);have HST:=hid hst;have hsz:=HBr.out.size;clear hrange hrb hst;generalize wr=w0 at *;go_upto_region 8 with fail;go_loopw [6,7] (λh i wr=>∃(j:Nat) (b:Bool),j<=m∧i= .int .i64 j∧h= .bool b∧Hid (b=(M.take j).any (λy:Hd=>y.u.eqb ⟨t,r⟩))∧Hid (Below w0.heap.size w0 wr)) (λh i _=>m-(RowKit.intOf i).toNat)
   case atStart=>exact⟨0,false,Nat.zero_le _,rfl,rfl,hid rfl,hid (Below.refl _ _)⟩
   case round=>
    obtain⟨j,b,hj,rfl,rfl,HB,HBj⟩:=hrel;have HBw:=hid (HBr.out.trans (HBj.out.mono hsz));have HOj:=hid (HO.out.kept (gby_below (r:=none) HBj.out) (Classical.em _));by_cases hjm:j<m
    ·have j1:(0:Int)<=(j:Int):=by omega
     have j2:(j:Int)<(m:Int):=by omega
     obtain⟨g2,rfl,-,hg2,hr2⟩:=ownN_range (f:=hdL) (λ_=>rfl) HML.out HOj.out hjm hd0;have htk:(M.take (j+1)).any (λy:Hd=>y.u.eqb ⟨t,r⟩)=((M.take j).any (λy:Hd=>y.u.eqb ⟨t,r⟩) || (λy:Hd=>y.u.eqb ⟨t,r⟩) (M.getD j hd0)):=by rw[takeD_succ (by rw[<-HML.out];exact hjm) hd0,List.any_append];simp
     generalize M.getD j hd0=y at *;obtain⟨⟨t2,r2⟩,⟨ut2,ur2⟩⟩:=y;obtain⟨b2,hb2⟩:∃b,b=(λy:Hd=>y.u.eqb ⟨t,r⟩) ⟨⟨t2,r2⟩,⟨ut2,ur2⟩⟩:=⟨_,rfl⟩;have q1:=eq_st ut2 ur2 t r b2 hb2.symm;have HTK:=hid (show(M.take (j+1)).any (λy:Hd=>y.u.eqb ⟨t,r⟩)=(b || b2) by rw[htk,HB.out,hb2]);have y2:=cell_regrown (hr2 2 _ rfl);have y3:=cell_regrown (hr2 3 _ rfl);have x0:=cell_regrown (w:=wr) (a:=⟨rb,k*4,none⟩) (v:= .int .i64 t) ((HRW.out wr HBw.out) 0 _ rfl);have x1:=cell_regrown (w:=wr) (a:=⟨rb,k*4+1,none⟩) (v:= .int .i64 r) ((HRW.out wr HBw.out) 1 _ rfl);clear hr2 hb2 htk;cases b with
     |true=>
      go_upto_region 10 with fail;refine rqb ?_
      repeat(any_goals(first|go_big_quiet_step (fail)|quiet_step (fail)))
      refine qz λwq hBq=> ?_;go_wp2;go_roundw
      case rel=>exact⟨j+1,true,by omega,by go_num,rfl,hid (by rw[HTK.out];rfl),hid (HBj.out.trans (hBq.mono HBj.out.size))⟩
      case measure=>(simp[RowKit.intOf];omega)
     |false=>
      go_upto_region 10 with fail;refine rqb ?_
      repeat(any_goals(first|go_big_quiet_step (fail)|quiet_step (fail)))
      refine qz λwq hBq=> ?_;go_wp2;go_roundw
      case rel=>exact⟨j+1,b2,by omega,by go_num,rfl,hid (by rw[HTK.out];rfl),hid (HBj.out.trans (hBq.mono HBj.out.size))⟩
      case measure=>(simp[RowKit.intOf];omega)
    ·obtain rfl:j=m:=by omega
     have j2:¬(j:Int)<(j:Int):=by omega
     have hany:b=M.any (λy:Hd=>y.u.eqb ⟨t,r⟩):=by rw[HB.out,HML.out,List.take_length]
     cases b with
     |true=>
      have HS9:=hid (show((N.take (k+1)).foldl stepOn [])=M by rw[HST.out];unfold stepOn;rw[if_pos hany.symm]);clear hany;go_wp2;go_roundw
      case rel=>exact⟨k+1,A',c',j,M,by omega,by go_num,rfl,by omega,HML,hid HS9.out.symm,HOj,HBw⟩
      case measure=>(simp[RowKit.intOf];omega)
     | false=>
      have HS9:=hid (show((N.take (k+1)).foldl stepOn [])=M++[⟨⟨t,r⟩,⟨ut,ur⟩⟩] by rw[HST.out];unfold stepOn;rw[if_neg (by rw[<-hany];decide)]);clear hany;have HRGq:=hid (HRW.out wr HBw.out);have hszw:=HBw.out.size;have hszq:=HBj.out.size
      go_wp2_with (first
       |(refine wpList_load_mid rfl _ _ rfl rb (k*4) rfl [t,r,ut,ur] _ HRGq.out Tryz.underlying224 rfl (by kernel_rfl) ?_)
       |(at_builtin;refine wpList_append_lies _ rfl _ _ 157 rfl w1.heap.size 224 i0 (.agg #[(0:Int),(0:Int),(0:Int),(0:Int)]) 4 32 Tryz.underlying157 hi hz0 hz1 hz2 rfl (by decide) (.slice A' j c') j _ rfl (by exact HOj.out.alloc _) ⟨wr.heap.size,0,none⟩ 1 1 [t,r,ut,ur] rfl rfl (λj y h=>cellsN wr [t,r,ut,ur] 224 j y h) (oc_of (c:=#[t,r,ut,ur]) rfl) (by decide) (by unfold maxLen;omega) (by omega) (by simp;omega) (wr.heap.size+1) (by simp) ?_;intro gq cap w5 hown hgrow ha hlt5;have HO5:=hid hown;have HB5:=hid ((HBw.out.alloc hszw _).grown hgrow (by simp;omega) (λb hb=>(HOj.out.lt b hb).1));clear hown hgrow ha hlt5))
      go_roundw
      case rel=>exact⟨k+1,some ⟨gq,0,none⟩,cap,j+1,_,by omega,by go_num,rfl,by omega,hid (by rw[List.length_append,<-HML.out];rfl),hid HS9.out.symm,hid (by rw[List.flatMap_append];exact HO5.out),HB5⟩
      case measure=>(simp[RowKit.intOf];omega)
  ·obtain rfl:k=N.length:=by omega
   have i2:¬(N.length:Int)<(N.length:Int):=by omega
   have HM9:=hid (show M=N.foldl stepOn [] by have h9:=HM.out;rw[List.take_length] at h9;exact h9);have hm9:m<=100000:=by omega
   generalize wr=w7 at *;go_upto_region 15 with fail;go_loopw [8,9] (λo i wr=>∃(q:Nat) (A9:Option Addr) (c9 n9:Nat),q<=m∧q+n9=m∧i= .int .i64 ((q:Int)-1)∧o= .slice A9 n9 c9∧Hid (wr.ownsRow w7.heap.size 42 2 (.slice A9 n9 c9) n9 (((M.drop q).reverse.map (·.s)).flatMap stL))∧Hid (Below w7.heap.size w7 wr)) (λo i _=>(RowKit.intOf i+1).toNat)
   case atStart=>exact⟨m,none,0,0,Nat.le_refl _,by omega,by go_num,rfl,hid (by rw[HML.out,List.drop_length];exact World.ownsRow_nil _ _ _ _),hid (Below.refl _ _)⟩
   case round=>
    obtain⟨q,A9,c9,n9,hq,hqn,rfl,rfl,HO9,HB9⟩:=hrel;have HBw:=hid (HBr.out.trans (HB9.out.mono HBr.out.size));by_cases h0:0<q
    ·obtain⟨q,rfl⟩:∃p,q=p+1:=⟨q-1,by omega⟩;have hqM:q<M.length:=by rw[<-HML.out];omega
     obtain⟨g2,rfl,-,hg2,hr2⟩:=ownN_range (f:=hdL) (λ_=>rfl) HML.out HO.out (k:=q) (by omega) hd0;have hrs:=rev_step hqM;generalize M.getD q hd0=y at *;obtain⟨⟨t,r⟩,⟨ut,ur⟩⟩:=y;have HRX:=hid (show wr.rangeAt g2 (q*4) [t,r] from range_mid (pre:=[]) (post:=[ut,ur]) (rangeB hr2 hg2 HB9.out));have HRS:=hid hrs;have e0:(((q+1:Nat):Int)-1)=(q:Int):=by omega
     rw[e0];have k1:(0:Int)<=(q:Int):=by omega
     have k2:(q:Int)<(m:Int):=by omega
     have k3:IntKind.i64.wrap ((q:Int)-1)=(q:Int)-1:=by rw[IntKind.wrap_i64];omega
     have hszw:=HB9.out.size;have hn9:n9<=100000:=by omega
     clear hr2 hrs e0
     go_wp2_with (first
      |(refine wpList_load_mid rfl _ _ rfl g2 (q*4) rfl [t,r] _ HRX.out Tryz.underlying42 rfl (by kernel_rfl) ?_)
      |(at_builtin;refine wpList_append_lies _ rfl _ _ 100 rfl w7.heap.size 42 i1 (.agg #[(0:Int),(0:Int)]) 2 16 Tryz.underlying100 hi' hy0 hy1 hy2 rfl (by decide) (.slice A9 n9 c9) n9 _ rfl (by exact HO9.out.alloc _) ⟨wr.heap.size,0,none⟩ 1 1 [t,r] rfl rfl (λj y h=>cellsN wr [t,r] 42 j y h) (oc_of (c:=#[t,r]) rfl) (by decide) (by unfold maxLen;omega) (by omega) (by simp;omega) (wr.heap.size+1) (by simp) ?_;intro gq cap w5 hown hgrow ha hlt5;have HO5:=hid hown;have HB5:=hid ((HB9.out.alloc hszw _).grown hgrow (by simp;omega) (λb hb=>(HO9.out.lt b hb).1));clear hown hgrow ha hlt5))
     go_roundw
     case rel=>exact⟨q,some ⟨gq,0,none⟩,cap,n9+1,by omega,by omega,by go_num,rfl,hid (by rw[HRS.out,List.flatMap_append];exact HO5.out),HB5⟩
     case measure=>(simp[RowKit.intOf];try omega)
    ·obtain rfl:q=0:=by omega
     rw[show(((0:Nat):Int)-1)= -1 by rfl];obtain rfl:n9=m:=by omega
     have HRL:=hid (show R=M.reverse.map (·.s) by rw[HRR.out,HM9.out]);have HRN:=hid (show R.length=n9 by rw[HRL.out,List.length_map,List.length_reverse,HML.out]);have HO8:=hid (show wr.ownsRow w7.heap.size 42 2 (.slice A9 n9 c9) n9 (R.flatMap stL) by rw[HRL.out];exact HO9.out);go_wp2;go_ret;refine⟨A9,c9,by rw[HRN.out];rfl,?_,HB1.out.trans (HBw.out.mono HB1.out.size)⟩;rw[HRN.out];have h9:=HB1.out.size;have h8:=HBr.out.size;rcases HO8.out.2 with⟨e1,e2⟩|⟨g,cap,cur,e1,e2,e3⟩
     ·exact⟨HO8.out.1,.inl ⟨e1,e2⟩⟩
     ·exact⟨HO8.out.1,.inr ⟨g,cap,cur,e1,by omega,e3⟩⟩
end
section
open Go.RowKit Go.Lib Go.Sort
def apart (u v:Value):Prop:=∀g,u.ownBlock=some g->v.ownBlock=some g->False
theorem apart.symm {u v:Value} (h:apart u v):apart v u:=λg a b=>h g b a
theorem apart.kept {u v:Value} (h:apart u v):u.ownBlock=none∨u.ownBlock≠v.ownBlock:=by
 cases e:u.ownBlock with
 |none=>exact .inl rfl
 |some g=>exact .inr λe2=>h g e e2.symm
theorem apart.new {u v:Value} {g n cap N:Nat} (h:apart u v) (hat:u.ownBlock=some g∨g=N) (hv:∀b,v.ownBlock=some b->b<N):apart (.slice (some ⟨g,0,none⟩) n cap) v:=λb e1 e2=>by
 have e1:some g=some b:=e1;cases e1;rcases hat with h1|h1
 ·exact h g h1 e2
 ·have:=hv g e2;omega
theorem apart.nil {v:Value}:apart (.slice none 0 0) v:=λg e _=>by cases e
structure OfI (B sb onb kb:Nat) (onA:Option Addr) (ON:List Gst) (ko:Obj) (so sh sl:Value) (w1 wr:World) (va vt vh vl:Value) (na nt nh nl:Nat) (AT:List Gid) (TL:List Plc) (HV LS:List Dt):Prop where
 ea:na=AT.length
 et:nt=TL.length
 eh:nh=HV.length
 el:nl=LS.length
 oa:wr.ownsRow B 108 3 va na (AT.flatMap idL)
 ot:wr.ownsRow B 161 8 vt nt (TL.flatMap plcL)
 oh:wr.ownsRow B 163 5 vh nh (HV.flatMap dtL)
 ol:wr.ownsRow B 163 5 vl nl (LS.flatMap dtL)
 dat:apart va vt
 dah:apart va vh
 dal:apart va vl
 dth:apart vt vh
 dtl:apart vt vl
 dhl:apart vh vl
 st:wr.heap[sb]? =some (.cells #[so,.slice none 0 0,sh,sl,.slice none 0 0] 105 (0,0))
 on:RowF wr (λb=>b=onb) onA 2 stL Gst.zero ON
 ke:wr.heap[kb]? =some ko
 ka:va.ownBlock≠some kb
 kt:vt.ownBlock≠some kb
 kh:vh.ownBlock≠some kb
 kl:vl.ownBlock≠some kb
 ks:kb≠sb
 bl:Below w1.heap.size w1 wr
 sz:B<=wr.heap.size
 s1:w1.heap.size<=sb
 s2:sb<B
 o1:onb<B
 o2:onb≠sb
section
variable {B sb onb kb : Nat} {onA : Option Addr} {ON : List Gst} {ko : Obj} {so sh sl : Value} {w1 wr w' : World} {va vt vh vl : Value} {na nt nh nl : Nat} {AT : List Gid} {TL : List Plc} {HV LS : List Dt}
theorem ge_none {u:Value} {r:Option Nat} (h:r=none):u.ownBlock=none∨u.ownBlock≠r:=by
 cases e:u.ownBlock with
 |none=>exact .inl rfl
 |some g=>rw[h];exact .inr (by simp)
theorem OfI.below (h:OfI B sb onb kb onA ON ko so sh sl w1 wr va vt vh vl na nt nh nl AT TL HV LS) (hB:Below wr.heap.size wr w'):OfI B sb onb kb onA ON ko so sh sl w1 w' va vt vh vl na nt nh nl AT TL HV LS:=by
 have hg:wr.grownBy w' none:=gby_below hB;refine⟨h.ea,h.et,h.eh,h.el,h.oa.kept hg (ge_none rfl),h.ot.kept hg (ge_none rfl),h.oh.kept hg (ge_none rfl),h.ol.kept hg (ge_none rfl),h.dat,h.dah,h.dal,h.dth,h.dtl,h.dhl,(hB.block _ (lt_of_block h.st)).trans h.st,h.on.below hB,(hB.block _ (lt_of_block h.ke)).trans h.ke,h.ka,h.kt,h.kh,h.kl,h.ks,h.bl.trans (hB.mono (Nat.le_trans h.s1 (Nat.le_of_lt (lt_of_block h.st)))),Nat.le_trans h.sz hB.size,h.s1,h.s2,h.o1,h.o2⟩
theorem OfI.newk (h:OfI B sb onb kb onA ON ko so sh sl w1 wr va vt vh vl na nt nh nl AT TL HV LS) (o:Obj):OfI B sb onb wr.heap.size onA ON o so sh sl w1 (wr.alloc o) va vt vh vl na nt nh nl AT TL HV LS:=by
 have k:=h.below ((Below.refl _ _).alloc (Nat.le_refl _) o);exact⟨k.ea,k.et,k.eh,k.el,k.oa,k.ot,k.oh,k.ol,k.dat,k.dah,k.dal,k.dth,k.dtl,k.dhl,k.st,k.on,heap_alloc_new wr o,λe=>by have:=(h.oa.lt _ e).2;omega,λe=>by have:=(h.ot.lt _ e).2;omega,λe=>by have:=(h.oh.lt _ e).2;omega,λe=>by have:=(h.ol.lt _ e).2;omega,λe=>by have:=lt_of_block h.st;omega,k.bl,k.sz,k.s1,k.s2,k.o1,k.o2⟩
theorem OfI.core (h:OfI B sb onb kb onA ON ko so sh sl w1 wr va vt vh vl na nt nh nl AT TL HV LS) {u:Value} (hu:∀g,u.ownBlock=some g->B<=g) (hk:u.ownBlock≠some kb) (hg:wr.grownBy w' u.ownBlock):
  w'.heap[sb]? =some (.cells #[so,.slice none 0 0,sh,sl,.slice none 0 0] 105 (0,0))∧RowF w' (λb=>b=onb) onA 2 stL Gst.zero ON∧w'.heap[kb]? =some ko∧Below w1.heap.size w1 w'∧B<=w'.heap.size:=by
 refine⟨(hg.block sb (lt_of_block h.st) (λe=>by have:=hu sb e.symm;have:=h.s2;omega)).trans h.st,h.on.agr (Agr.grown hg λg e1 e2=> ?_),(hg.block kb (lt_of_block h.ke) (λe=>hk e.symm)).trans h.ke,h.bl.grown hg h.bl.size (λb e=> ?_),Nat.le_trans h.sz hg.size⟩
 ·have e2:g=onb:=e2;have:=hu g e1;have:=h.o1;omega
 ·have:=hu b e;have:=h.s1;have:=h.s2;omega
theorem new_ne {u:Value} {g n cap N P:Nat} (h:u.ownBlock≠some P) (hat:u.ownBlock=some g∨g=N) (hP:P<N):(Value.slice (some ⟨g,0,none⟩) n cap).ownBlock≠some P:=λe=>by
 have e:some g=some P:=e;cases e;rcases hat with h1|h1
 ·exact h h1
 ·omega
theorem OfI.app_a (h:OfI B sb onb kb onA ON ko so sh sl w1 wr va vt vh vl na nt nh nl AT TL HV LS) {g cap:Nat} (x:Gid) (ho:w'.ownsRow B 108 3 (.slice (some ⟨g,0,none⟩) (na+1) cap) (na+1) (AT.flatMap idL++idL x)) (hg:wr.grownBy w' va.ownBlock) (hat:va.ownBlock=some g∨g=wr.heap.size):
  OfI B sb onb kb onA ON ko so sh sl w1 w' (.slice (some ⟨g,0,none⟩) (na+1) cap) vt vh vl (na+1) nt nh nl (AT++[x]) TL HV LS:=by
 obtain⟨c1,c2,c3,c4,c5⟩:=h.core (λb e=>(h.oa.lt b e).1) h.ka hg
 exact⟨by rw[List.length_append,<-h.ea];rfl,h.et,h.eh,h.el,by rw[List.flatMap_append];simpa using ho,h.ot.kept hg h.dat.symm.kept,h.oh.kept hg h.dah.symm.kept,h.ol.kept hg h.dal.symm.kept,
  h.dat.new hat (λb e=>(h.ot.lt b e).2),h.dah.new hat (λb e=>(h.oh.lt b e).2),h.dal.new hat (λb e=>(h.ol.lt b e).2),h.dth,h.dtl,h.dhl,c1,c2,c3,new_ne h.ka hat (lt_of_block h.ke),h.kt,h.kh,h.kl,h.ks,c4,c5,h.s1,h.s2,h.o1,h.o2⟩
theorem OfI.app_t (h:OfI B sb onb kb onA ON ko so sh sl w1 wr va vt vh vl na nt nh nl AT TL HV LS) {g cap:Nat} (x:Plc) (ho:w'.ownsRow B 161 8 (.slice (some ⟨g,0,none⟩) (nt+1) cap) (nt+1) (TL.flatMap plcL++plcL x)) (hg:wr.grownBy w' vt.ownBlock) (hat:vt.ownBlock=some g∨g=wr.heap.size):
  OfI B sb onb kb onA ON ko so sh sl w1 w' va (.slice (some ⟨g,0,none⟩) (nt+1) cap) vh vl na (nt+1) nh nl AT (TL++[x]) HV LS:=by
 obtain⟨c1,c2,c3,c4,c5⟩:=h.core (λb e=>(h.ot.lt b e).1) h.kt hg
 exact⟨h.ea,by rw[List.length_append,<-h.et];rfl,h.eh,h.el,h.oa.kept hg h.dat.kept,by rw[List.flatMap_append];simpa using ho,h.oh.kept hg h.dth.symm.kept,h.ol.kept hg h.dtl.symm.kept,
  (h.dat.symm.new hat (λb e=>(h.oa.lt b e).2)).symm,h.dah,h.dal,h.dth.new hat (λb e=>(h.oh.lt b e).2),h.dtl.new hat (λb e=>(h.ol.lt b e).2),h.dhl,c1,c2,c3,h.ka,new_ne h.kt hat (lt_of_block h.ke),h.kh,h.kl,h.ks,c4,c5,h.s1,h.s2,h.o1,h.o2⟩
theorem OfI.app_h (h:OfI B sb onb kb onA ON ko so sh sl w1 wr va vt vh vl na nt nh nl AT TL HV LS) {g cap:Nat} (x:Dt) (ho:w'.ownsRow B 163 5 (.slice (some ⟨g,0,none⟩) (nh+1) cap) (nh+1) (HV.flatMap dtL++dtL x)) (hg:wr.grownBy w' vh.ownBlock) (hat:vh.ownBlock=some g∨g=wr.heap.size):
  OfI B sb onb kb onA ON ko so sh sl w1 w' va vt (.slice (some ⟨g,0,none⟩) (nh+1) cap) vl na nt (nh+1) nl AT TL (HV++[x]) LS:=by
 obtain⟨c1,c2,c3,c4,c5⟩:=h.core (λb e=>(h.oh.lt b e).1) h.kh hg
 exact⟨h.ea,h.et,by rw[List.length_append,<-h.eh];rfl,h.el,h.oa.kept hg h.dah.kept,h.ot.kept hg h.dth.kept,by rw[List.flatMap_append];simpa using ho,h.ol.kept hg h.dhl.symm.kept,
  h.dat,(h.dah.symm.new hat (λb e=>(h.oa.lt b e).2)).symm,h.dal,(h.dth.symm.new hat (λb e=>(h.ot.lt b e).2)).symm,h.dtl,h.dhl.new hat (λb e=>(h.ol.lt b e).2),c1,c2,c3,h.ka,h.kt,new_ne h.kh hat (lt_of_block h.ke),h.kl,h.ks,c4,c5,h.s1,h.s2,h.o1,h.o2⟩
theorem OfI.app_l (h:OfI B sb onb kb onA ON ko so sh sl w1 wr va vt vh vl na nt nh nl AT TL HV LS) {g cap:Nat} (x:Dt) (ho:w'.ownsRow B 163 5 (.slice (some ⟨g,0,none⟩) (nl+1) cap) (nl+1) (LS.flatMap dtL++dtL x)) (hg:wr.grownBy w' vl.ownBlock) (hat:vl.ownBlock=some g∨g=wr.heap.size):
  OfI B sb onb kb onA ON ko so sh sl w1 w' va vt vh (.slice (some ⟨g,0,none⟩) (nl+1) cap) na nt nh (nl+1) AT TL HV (LS++[x]):=by
 obtain⟨c1,c2,c3,c4,c5⟩:=h.core (λb e=>(h.ol.lt b e).1) h.kl hg
 exact⟨h.ea,h.et,h.eh,by rw[List.length_append,<-h.el];rfl,h.oa.kept hg h.dal.kept,h.ot.kept hg h.dtl.kept,h.oh.kept hg h.dhl.kept,by rw[List.flatMap_append];simpa using ho,
  h.dat,h.dah,(h.dal.symm.new hat (λb e=>(h.oa.lt b e).2)).symm,h.dth,(h.dtl.symm.new hat (λb e=>(h.ot.lt b e).2)).symm,(h.dhl.symm.new hat (λb e=>(h.oh.lt b e).2)).symm,c1,c2,c3,h.ka,h.kt,h.kh,new_ne h.kl hat (lt_of_block h.ke),h.ks,c4,c5,h.s1,h.s2,h.o1,h.o2⟩
theorem OfI.put (h:OfI B sb onb kb onA ON ko so sh sl w1 wr va vt vh vl na nt nh nl AT TL HV LS) (i:Nat) (v:Value) {so' sh' sl':Value} (hc:(#[so,.slice none 0 0,sh,sl,.slice none 0 0]:Array Value).setIfInBounds i v=#[so',.slice none 0 0,sh',sl',.slice none 0 0]):
  OfI B sb onb kb onA ON ko so' sh' sl' w1 (wr.setCell ⟨sb,i,none⟩ v) va vt vh vl na nt nh nl AT TL HV LS:=by
 have hg:=gby_set (w:=wr) sb i v;have ne:∀{u:Value} {E s n:Nat} {xs:List Value},wr.ownsRow B E s u n xs->u.ownBlock=none∨u.ownBlock≠some sb:=λho=> .inr λe=>by have:=(ho.lt _ e).1;have:=h.s2;omega
 exact⟨h.ea,h.et,h.eh,h.el,h.oa.kept hg (ne h.oa),h.ot.kept hg (ne h.ot),h.oh.kept hg (ne h.oh),h.ol.kept hg (ne h.ol),h.dat,h.dah,h.dal,h.dth,h.dtl,h.dhl,set_obj h.st i v hc,
  h.on.agr (Agr.grown hg λg e1 e2=>by cases e1;exact h.o2 (show sb=onb from e2).symm),(hg.block kb (lt_of_block h.ke) (λe=>by cases e;exact h.ks rfl)).trans h.ke,h.ka,h.kt,h.kh,h.kl,h.ks,h.bl.grown hg h.bl.size (λb e=>by cases e;exact h.s1),Nat.le_trans h.sz hg.size,h.s1,h.s2,h.o1,h.o2⟩
end
def oAt (b:Bool) (s:Gst) (ops:List Gop) (i:Nat):List Gid:=if ((decide ((ops.getD i (opO 0 .zero)).kind=0)) || (decide ((ops.getD i (opO 0 .zero)).kind=1) && b))=true then [⟨s,(i:Int)⟩] else []
def oTl (b:Bool) (ops:List Gop) (i:Nat):List Plc:=if ((decide ((ops.getD i (opO 0 .zero)).kind=0)) || (decide ((ops.getD i (opO 0 .zero)).kind=1) && b))=true then [⟨(ops.getD i (opO 0 .zero)).node,(ops.getD i (opO 0 .zero)).parent,(ops.getD i (opO 0 .zero)).name,(ops.getD i (opO 0 .zero)).dir⟩] else []
def oHv (b:Bool) (s:Gst) (ops:List Gop) (i:Nat):List Dt:=if (b && !(decide ((ops.getD i (opO 0 .zero)).kind=2)))=true then [⟨(ops.getD i (opO 0 .zero)).node,s⟩] else []
def oLs (b:Bool) (ops:List Gop) (i:Nat):List Dt:=if b=true then (ops.getD i (opO 0 .zero)).dots.map (λd=>⟨(ops.getD i (opO 0 .zero)).node,d⟩) else []
def upto {α:Type} (f:Nat->List α) (n:Nat):List α:=(List.range n).flatMap f
theorem upto_succ {α:Type} (f:Nat->List α) (n:Nat):upto f (n+1)=upto f n++f n:=by
 unfold upto;rw[List.range_succ,List.flatMap_append];simp
def onB (ON:List Gst) (s:Gst):Bool:=ON.any (λy=>y.eqb s)
def gAt (ON:List Gst) (L:List (Grp×GrX)) (k:Nat):List Gid:=upto (oAt (onB ON (L.getD k gp0).1.s) (L.getD k gp0).1.s (L.getD k gp0).1.ops) (L.getD k gp0).1.ops.length
def gTl (ON:List Gst) (L:List (Grp×GrX)) (k:Nat):List Plc:=upto (oTl (onB ON (L.getD k gp0).1.s) (L.getD k gp0).1.ops) (L.getD k gp0).1.ops.length
def gHv (ON:List Gst) (L:List (Grp×GrX)) (k:Nat):List Dt:=upto (oHv (onB ON (L.getD k gp0).1.s) (L.getD k gp0).1.s (L.getD k gp0).1.ops) (L.getD k gp0).1.ops.length
def gLs (ON:List Gst) (L:List (Grp×GrX)) (k:Nat):List Dt:=upto (oLs (onB ON (L.getD k gp0).1.s) (L.getD k gp0).1.ops) (L.getD k gp0).1.ops.length
def onG (L:List (Grp×GrX)):List Gst:=onS (L.map hdOf)
def haveL (L:List (Grp×GrX)):List Dt:=upto (gHv (onG L) L) L.length
def lostL (L:List (Grp×GrX)):List Dt:=upto (gLs (onG L) L) L.length
theorem slid_perm {α:Type} (L:List α) (x:α) (k:Nat):(slid L x k).Perm (x::L):=by
 unfold slid;refine List.perm_middle.trans ?_;rw[List.take_append_drop]
theorem insB_perm {α:Type} (p:α->Bool) (z:α) (L:List α) (x:α):(insB p z L x).Perm (x::L):=slid_perm _ _ _
theorem insB_mem {α:Type} {p:α->Bool} {z:α} {L:List α} {x y:α}:y∈insB p z L x↔y=x∨y∈L:=by
 rw[(insB_perm p z L x).mem_iff,List.mem_cons]
theorem stepT_mem {out:List Told} {x y:Told} (h:y∈stepT out x):y=x∨y∈out:=by
 unfold stepT at h;split at h
 ·exact .inr h
 ·exact insB_mem.1 h
theorem sortT_mem':∀(l:List Told) {out:List Told} {y:Told},y∈l.foldl stepT out->y∈l∨y∈out
 | [],out,y,h=> .inr h
 | x::l,out,y,h=>by
  rcases sortT_mem' l h with h1|h1
  ·exact .inl (by simp[h1])
  ·rcases stepT_mem h1 with rfl|h2
   ·exact .inl (by simp)
   ·exact .inr h2
theorem stepP_name {out:List Plc} {x:Told} {p:Plc} (h:p∈stepP out x):p.name=x.p.name∨p∈out:=by
 unfold stepP at h;split at h
 ·exact .inr h
 ·split at h
  ·rcases List.mem_or_eq_of_mem_set h with h1|rfl
   ·exact .inr h1
   ·exact .inl rfl
  ·rcases insB_mem.1 h with rfl|h1
   ·exact .inl rfl
   ·exact .inr h1
theorem foldP_name:∀(l:List Told) {out:List Plc} {p:Plc},p∈l.foldl stepP out->(∃x∈l,p.name=x.p.name)∨p∈out
 | [],out,p,h=> .inr h
 | x::l,out,p,h=>by
  rcases foldP_name l h with⟨y,hy,e⟩|h1
  ·exact .inl ⟨y,by simp[hy],e⟩
  ·rcases stepP_name h1 with e|h2
   ·exact .inl ⟨x,by simp,e⟩
   ·exact .inr h2
theorem replay_name {l:List Told} {p:Plc} (h:p∈replayL l):∃x∈l,p.name=x.p.name:=by
 rcases foldP_name _ h with⟨x,hx,e⟩|h1
 ·rcases sortT_mem' l hx with h2|h2
  ·exact⟨x,h2,e⟩
  ·cases h2
 ·cases h1
theorem made_name {L:List (Grp×GrX)} {P:List Plc} {q:Plc} (h:q∈madeL L P):∃p∈P,q.name=p.name:=by
 unfold madeL at h;rw[List.mem_flatMap] at h;obtain⟨p,hp,h⟩:=h;unfold madeP at h;rw[List.mem_flatMap] at h;obtain⟨g,hg,h⟩:=h;unfold opsM at h;rw[List.mem_map] at h;obtain⟨o,ho,rfl⟩:=h;exact⟨p,hp,rfl⟩
theorem opsM_len (p:Plc) (l:List Gop):(opsM p l).length<=l.length:=by
 unfold opsM;rw[List.length_map];exact List.length_filter_le _ _
theorem madeP_len (p:Plc):∀(L:List (Grp×GrX)),(∀g∈L,g.1.ops.length<=2)->(madeP L p).length<=2*L.length
 | [],_=>Nat.le_refl _
 |g::L,h=>by
  have h1:=madeP_len p L λx hx=>h x (by simp[hx]);have h2:=h g (by simp);have h3:=opsM_len p g.1.ops;unfold madeP at h1 ⊢;rw[List.flatMap_cons,List.length_append,List.length_cons];omega
theorem madeL_len (L:List (Grp×GrX)) (h:∀g∈L,g.1.ops.length<=2):∀(P:List Plc),(madeL L P).length<=2*L.length*P.length
 | []=>Nat.zero_le _
 |p::P=>by
  have h1:=madeL_len L h P;have h2:=madeP_len p L h;unfold madeL at h1 ⊢;rw[List.flatMap_cons,List.length_append,List.length_cons,Nat.mul_add,Nat.mul_one];omega
theorem upto_map {α β:Type} (f:Nat->List α) (g:α->β) (n:Nat):(upto f n).map g=upto (λi=>(f i).map g) n:=by
 unfold upto;rw[List.map_flatMap]
theorem upto_congr {α:Type} {f g:Nat->List α} {n:Nat} (h:∀i,f i=g i):upto f n=upto g n:=by
 have:f=g:=funext h;rw[this]
def oTo (b:Bool) (s:Gst) (ops:List Gop) (i:Nat):List Told:=if ((decide ((ops.getD i (opO 0 .zero)).kind=0)) || (decide ((ops.getD i (opO 0 .zero)).kind=1) && b))=true then [⟨⟨s,(i:Int)⟩,⟨(ops.getD i (opO 0 .zero)).node,(ops.getD i (opO 0 .zero)).parent,(ops.getD i (opO 0 .zero)).name,(ops.getD i (opO 0 .zero)).dir⟩⟩] else []
def gTo (ON:List Gst) (L:List (Grp×GrX)) (k:Nat):List Told:=upto (oTo (onB ON (L.getD k gp0).1.s) (L.getD k gp0).1.s (L.getD k gp0).1.ops) (L.getD k gp0).1.ops.length
theorem gTo_a (ON:List Gst) (L:List (Grp×GrX)) (n:Nat):(upto (gTo ON L) n).map (·.a)=upto (gAt ON L) n:=by
 rw[upto_map];refine upto_congr λi=> ?_;unfold gTo gAt;rw[upto_map];refine upto_congr λj=> ?_;unfold oTo oAt;split<;>rfl
theorem gTo_p (ON:List Gst) (L:List (Grp×GrX)) (n:Nat):(upto (gTo ON L) n).map (·.p)=upto (gTl ON L) n:=by
 rw[upto_map];refine upto_congr λi=> ?_;unfold gTo gTl;rw[upto_map];refine upto_congr λj=> ?_;unfold oTo oTl;split<;>rfl
def toldG (L:List (Grp×GrX)):List Told:=upto (gTo (onG L) L) L.length
def placeG (L:List (Grp×GrX)):List Plc:=madeL L (replayL (toldG L))
def liveG (L:List (Grp×GrX)):List Gid:=liveL (lostL L) (haveL L)
def itemsG (L:List (Grp×GrX)):List Itm:=itemsL (placeG L).length (placeG L) (liveG L)
theorem upto_mem {α:Type} {f:Nat->List α} {n:Nat} {x:α}:x∈upto f n↔∃i,i<n∧x∈f i:=by
 unfold upto;rw[List.mem_flatMap];exact⟨λ⟨i,h1,h2⟩=>⟨i,List.mem_range.1 h1,h2⟩,λ⟨i,h1,h2⟩=>⟨i,List.mem_range.2 h1,h2⟩⟩
theorem toldG_in {ON:List Gst} {L:List (Grp×GrX)} {x:Told} {n:Nat} (hn:n<=L.length) (h:x∈upto (gTo ON L) n):∃g∈L,∃o∈g.1.ops,(o.kind=0∨o.kind=1)∧x.p=⟨o.node,o.parent,o.name,o.dir⟩∧x.a.s=g.1.s:=by
 obtain⟨k,hk,h⟩:=upto_mem.1 h;unfold gTo at h;obtain⟨j,hj,h⟩:=upto_mem.1 h;unfold oTo at h;split at h
 ·rename_i c;rw[List.mem_singleton] at h;subst h;refine⟨L.getD k gp0,getD_memF (by omega) _,(L.getD k gp0).1.ops.getD j (opO 0 .zero),getD_memF hj _,?_,rfl,rfl⟩;simp only[Bool.or_eq_true,Bool.and_eq_true,decide_eq_true_eq] at c;rcases c with c|c
  ·exact .inl c
  ·exact .inr c.1
 ·cases h
theorem opsB_mem9 {s:Gst}:∀(l:List Gop) (k:Nat),opsB s l k=true->∀o∈l,∃q,opB s o q=true
 | [],_,_,o,ho=>by cases ho
 |x::l,k,h,o,ho=>by
  simp only[opsB,Bool.and_eq_true] at h;rcases List.mem_cons.1 ho with rfl|ho
  ·exact⟨k,h.1⟩
  ·exact opsB_mem9 l _ h.2 o ho
theorem chk_op {g:Grp} (h:chkB g=true) {o:Gop} (ho:o∈g.ops):∃q,opB g.s o q=true:=by
 simp only[chkB,Bool.and_eq_true] at h;have h:=h.2;split at h
 ·simp only[Bool.and_eq_true] at h;exact opsB_mem9 _ _ h.2 o ho
 ·simp only[Bool.and_eq_true,decide_eq_true_eq] at h;rw[List.eq_nil_of_length_eq_zero h.2] at ho;cases ho
theorem op_name {s:Gst} {o:Gop} {q:Nat} (h:opB s o q=true) (hk:o.kind=0∨o.kind=1):nameB o.name=true:=by
 simp only[opB,Bool.and_eq_true] at h;have h:=h.2;unfold kindB at h;rcases hk with hk|hk
 ·rw[if_pos hk] at h;simp only[Bool.and_eq_true] at h;exact h.2
 ·rw[if_neg (by omega),if_pos hk] at h;simp only[Bool.and_eq_true] at h;exact h.2
theorem name_size {s:ByteArray} (h:nameB s=true):s.size<=32:=by
 simp only[nameB,Bool.and_eq_true,decide_eq_true_eq] at h;exact h.1.1.1.2
theorem placeG_name {L:List (Grp×GrX)} (hck:∀p∈L,chkB p.1=true) {q:Plc} (h:q∈placeG L):q.name.size<=32:=by
 obtain⟨p,hp,e⟩:=made_name h;obtain⟨x,hx,e2⟩:=replay_name hp;obtain⟨g,hg,o,ho,hk,e3,-⟩:=toldG_in (Nat.le_refl _) hx;obtain⟨c,hc⟩:=chk_op (hck g hg) ho;rw[e,e2,e3];exact name_size (op_name hc hk)
theorem placeG_len {L:List (Grp×GrX)} (hl:L.length<=20) (hlo:∀p∈L,p.1.ops.length<=2) (ht:(toldG L).length<=40):(placeG L).length<=1600:=by
 have h1:=madeL_len L hlo (replayL (toldG L));have h2:=replayL_len (toldG L);have h3:(replayL (toldG L)).length<=40:=Nat.le_trans h2 ht;have h4:2*L.length*(replayL (toldG L)).length<=40*40:=Nat.mul_le_mul (by omega) h3;unfold placeG;omega
theorem items_ok (L:List (Grp×GrX)):∀p∈seenP (placeG L) (liveG L),p.name.size<=1000∧climbs (seenP (placeG L) (liveG L)) (placeG L).length p=true:=λp hp=>by
 obtain⟨h1,h2⟩:=seen_climbs (placeG L) (liveG L) (placeG L).length (by omega) p hp;exact⟨by have:=name_size h1;omega,h2⟩
end
section
open Go.RowKit Go.Lib Go.Sort
attribute [local go_sem ↓] Go.wp_at_zero Go.wp_at_succ
theorem reffind_none (L:List (Grp×GrX)) (A:Option Addr) (c:Nat) (x:Gst) (w:World) (hl:L.length<=1000000) (hR:RowGr w A L) (hn:∀p∈L,p.1.s.eqb x=false):
  Calls Tryz.prog 165 #[.slice A L.length c,.agg #[.int .i64 x.t,.int .i64 x.r]] w λe w'=>e= .returned (.int .i64 (-1))∧Below w.heap.size w w':=by
 obtain⟨xt,xr⟩:=x;have hb0:Below w.heap.size w (w.alloc (.cells #[xt,xr] 42)):=(Below.refl _ _).alloc (Nat.le_refl _) _;have HC:=hid (heap_alloc_new w (.cells #[xt,xr] 42));have hs0:(w.alloc (.cells #[xt,xr] 42)).heap.size=w.heap.size+1:=by simp
 have HS:=hid hs0;have HB:=hid hb0;have HR:=hid hR;have HN:=hid hn;clear hb0 hR hn hs0;show Calls _ _ #[.slice A L.length c,.agg #[xt,xr]] _ _;go_enter Tryz.func165,Tryz.ntmps165;go_upto_region 2 with(fail);generalize hW0:w.alloc (.cells #[xt,xr] 42)=W0 at *;clear hW0;go_loopw [5] (λi wr=>∃k:Nat,i= .int .i64 k∧k<=L.length∧Hid (Below W0.heap.size W0 wr)) (λi _=>L.length-(RowKit.intOf i).toNat)
 case atStart=>exact⟨0,rfl,Nat.zero_le _,hid (Below.refl _ _)⟩
 case round=>
  obtain⟨k,rfl,hk,HBr⟩:=hrel;have HBw:=hid (HB.out.trans (HBr.out.mono HB.out.size));by_cases hlt:k<L.length
  ·obtain⟨rb,ro,rfl,hrb,hrange⟩:=RowGr.range (RowGr.below HR.out HBw.out) hlt;have i0:(0:Int)<=(k:Int):=by omega
   have i1:(k:Int)<(L.length:Int):=by omega
   have hm:L.getD k gp0∈L:=by rw[List.getD_eq_getElem?_getD,List.getElem?_eq_getElem hlt];exact List.getElem_mem hlt
   have hne:=HN.out _ hm;generalize L.getD k gp0=p at *;obtain⟨⟨⟨t,r⟩,n,dv,⟨ut,ur⟩,ops⟩,⟨dA,dc,oA,oc⟩⟩:=p;have q1:=eq_st t r xt xr false hne;have HCr:=hid ((HBr.out.block w.heap.size (by rw[HS.out];omega)).trans HC.out);have x0:=rg0 HCr.out;have x1:=rg1 HCr.out;have y0:=cell_regrown (w:=wr) (a:=⟨rb,ro+k*7,none⟩) (v:= .int .i64 t) (hrange 0 _ rfl);have y1:=cell_regrown (w:=wr) (a:=⟨rb,ro+k*7+1,none⟩) (v:= .int .i64 r) (hrange 1 _ rfl);clear hne hm hrange;go_upto_region 4 with(fail);refine rqb ?_
   repeat(any_goals(first|go_big_quiet_step (fail)|quiet_step (fail)))
   refine qz λwq hBq=> ?_;go_wp2;go_roundw
   case rel=>exact⟨k+1,by go_num,by omega,hid (HBr.out.trans (hBq.mono HBr.out.size))⟩
   case measure=>(simp[RowKit.intOf];omega)
  ·obtain rfl:k=L.length:=by omega
   have i1:¬(L.length:Int)<(L.length:Int):=by omega
   go_wp2;go_ret;exact⟨rfl,HBw.out⟩
theorem flat_take_succ {L:List (Grp×GrX)} {k:Nat} (h:k<L.length):(L.take (k+1)).flatMap grC_=(L.take k).flatMap grC_++grC_ (L.getD k gp0):=by
 rw[List.take_add_one,List.flatMap_append,List.getElem?_eq_getElem h,List.getD_eq_getElem?_getD,List.getElem?_eq_getElem h];simp
theorem refrights_any (L:List (Grp×GrX)) (A:Option Addr) (c:Nat) (S:Nat->Prop) (w:World) (hl:L.length<=100000) (hR:RowGr w A L) (hG:∀p∈L,GrG w S p) (hT:∀p∈L,∀o∈p.1.ops,o.text.size<=1000000) (hck:∀p∈L,chkB p.1=true) (hnd:(L.map (·.1.s)).Nodup):
  Calls Tryz.prog 106 #[.slice A L.length c] w λe w'=>∃A' c',e= .returned (.slice A' L.length c')∧w'.ownsRow w.heap.size 45 7 (.slice A' L.length c') L.length (L.flatMap grC_)∧Below w.heap.size w w':=by
 obtain⟨i0,hi,hz0,hz1,hz2⟩:=info_parts infogrC_;have HR:=hid hR;have HG:=hid hG;have HT:=hid hT;have HCK:=hid hck;have HND:=hid hnd;clear hR hG hT hck hnd;go_enter Tryz.func106,Tryz.ntmps106;go_upto_region 3 with(fail);go_loopw [3,4] (λo i wr=>∃(k:Nat) (A':Option Addr) (c':Nat),k<=L.length∧i= .int .i64 k∧o= .slice A' k c'∧Hid (wr.ownsRow w.heap.size 45 7 (.slice A' k c') k ((L.take k).flatMap grC_))∧Hid (Below w.heap.size w wr)) (λo i _=>L.length-(RowKit.intOf i).toNat)
 case atStart=>exact⟨0,none,0,Nat.zero_le _,rfl,rfl,hid (World.ownsRow_nil _ _ _ _),hid (Below.refl _ _)⟩
 case round=>
  obtain⟨k,A',c',hk,rfl,rfl,HO,HBr⟩:=hrel;by_cases hlt:k<L.length
  ·obtain⟨rb,ro,rfl,hrb,hrange⟩:=RowGr.range (RowGr.below HR.out HBr.out) hlt;have hbw:rb<w.heap.size:=by obtain⟨b',o',e',-,hb',-⟩:=HR.out k hlt;cases e';exact hb'
   have i0':(0:Int)<=(k:Int):=by omega
   have i1:(k:Int)<(L.length:Int):=by omega
   have hsz:=HBr.out.size;have hm:L.getD k gp0∈L:=by rw[List.getD_eq_getElem?_getD,List.getElem?_eq_getElem hlt];exact List.getElem_mem hlt
   have hgood:GrG wr S (L.getD k gp0):=(HG.out _ hm).agr (Agr.below HBr.out);have htx:=HT.out _ hm;have hch:=HCK.out _ hm;have HTK:=hid (flat_take_succ hlt);have hne:∀q∈L.take k,q.1.s.eqb (L.getD k gp0).1.s=false:=λq hq=>by
    cases e:q.1.s.eqb (L.getD k gp0).1.s with
    |false=>rfl
    |true=>
     exfalso;rw[Gst.eqb_iff] at e;obtain⟨j,hj,rfl⟩:=List.getElem_of_mem hq;have hjk:j<k:=by rw[List.length_take] at hj;omega
     rw[List.getElem_take] at e;rw[List.getD_eq_getElem?_getD,List.getElem?_eq_getElem hlt] at e;have hp:=(List.pairwise_iff_getElem.1 HND.out) j k (by rw[List.length_map];omega) (by rw[List.length_map];exact hlt) hjk;rw[List.getElem_map,List.getElem_map] at hp;exact hp e
   have hRt:RowGr wr A' (L.take k):=by
    have hlk:(L.take k).length=k:=by rw[List.length_take];omega
    have:=HO.out;refine RowGr.own (c:=c') (B:=w.heap.size) (E:=45) ?_;rw[hlk];exact this
   have hlk:(L.take k).length=k:=by rw[List.length_take];omega
   generalize L.getD k gp0=p at *;obtain⟨⟨⟨t,r⟩,n,dv,⟨ut,ur⟩,ops⟩,⟨dA,dc,oA,oc⟩⟩:=p;have hch:chkB ⟨⟨t,r⟩,n,dv,⟨ut,ur⟩,ops⟩=true:=hch;have HCC:=hid (vchk_any ⟨⟨t,r⟩,n,dv,⟨ut,ur⟩,ops⟩ dA dc oA oc S wr hgood (λ_=>htx) hch);rw[hch,if_pos rfl] at HCC
   have HFN:=hid (λW (hB:Below wr.heap.size wr W)=>show Calls Tryz.prog 165 #[.slice A' k c',.agg #[t,r]] W λe w'=>e= .returned (.int .i64 (-1))∧Below W.heap.size W w' from by
    have:=reffind_none (L.take k) A' c' ⟨t,r⟩ W (by omega) (RowGr.below hRt hB) hne;rw[hlk] at this
    exact this)
   have y0:wr.cell? ⟨rb,ro+k*7,none⟩=some (.int .i64 t):=hrange 0 _ rfl;have y1:wr.cell? ⟨rb,ro+k*7+1,none⟩=some (.int .i64 r):=hrange 1 _ rfl;have y2:wr.cell? ⟨rb,ro+k*7+2,none⟩=some (.int .i64 n):=hrange 2 _ rfl;have y3:wr.cell? ⟨rb,ro+k*7+3,none⟩=some (.slice dA dv.length dc):=hrange 3 _ rfl;have y4:wr.cell? ⟨rb,ro+k*7+4,none⟩=some (.int .i64 ut):=hrange 4 _ rfl;have y5:wr.cell? ⟨rb,ro+k*7+5,none⟩=some (.int .i64 ur):=hrange 5 _ rfl;have y6:wr.cell? ⟨rb,ro+k*7+6,none⟩=some (.slice oA ops.length oc):=hrange 6 _ rfl;clear hrange hgood htx hch hm hne hRt hlk
   go_upto_region 6 with(first
    |(go_at_call 54;refine HCC.out.mono ?_;rintro e w1 ⟨rfl,hB1⟩;have HB1:=hid hB1;have z0:=(World.cell?_of_block (w:=wr) (w':=w1) (a:=⟨rb,ro+k*7,none⟩) (hB1.block rb (by omega))).trans y0;have z1:=(World.cell?_of_block (w:=wr) (w':=w1) (a:=⟨rb,ro+k*7+1,none⟩) (hB1.block rb (by omega))).trans y1;have z2:=(World.cell?_of_block (w:=wr) (w':=w1) (a:=⟨rb,ro+k*7+2,none⟩) (hB1.block rb (by omega))).trans y2;have z3:=(World.cell?_of_block (w:=wr) (w':=w1) (a:=⟨rb,ro+k*7+3,none⟩) (hB1.block rb (by omega))).trans y3;have z4:=(World.cell?_of_block (w:=wr) (w':=w1) (a:=⟨rb,ro+k*7+4,none⟩) (hB1.block rb (by omega))).trans y4;have z5:=(World.cell?_of_block (w:=wr) (w':=w1) (a:=⟨rb,ro+k*7+5,none⟩) (hB1.block rb (by omega))).trans y5;have z6:=(World.cell?_of_block (w:=wr) (w':=w1) (a:=⟨rb,ro+k*7+6,none⟩) (hB1.block rb (by omega))).trans y6;clear hB1)
    |(go_at_call 165;refine(HFN.out w1 HB1.out).mono ?_;rintro e w2 ⟨rfl,hB2⟩;have HB2:=hid (HB1.out.trans (hB2.mono HB1.out.size));have hs1:=HB1.out.size;have v0:=(World.cell?_of_block (w:=w1) (w':=w2) (a:=⟨rb,ro+k*7,none⟩) (hB2.block rb (by omega))).trans z0;have v1:=(World.cell?_of_block (w:=w1) (w':=w2) (a:=⟨rb,ro+k*7+1,none⟩) (hB2.block rb (by omega))).trans z1;have v2:=(World.cell?_of_block (w:=w1) (w':=w2) (a:=⟨rb,ro+k*7+2,none⟩) (hB2.block rb (by omega))).trans z2;have v3:=(World.cell?_of_block (w:=w1) (w':=w2) (a:=⟨rb,ro+k*7+3,none⟩) (hB2.block rb (by omega))).trans z3;have v4:=(World.cell?_of_block (w:=w1) (w':=w2) (a:=⟨rb,ro+k*7+4,none⟩) (hB2.block rb (by omega))).trans z4;have v5:=(World.cell?_of_block (w:=w1) (w':=w2) (a:=⟨rb,ro+k*7+5,none⟩) (hB2.block rb (by omega))).trans z5;have v6:=(World.cell?_of_block (w:=w1) (w':=w2) (a:=⟨rb,ro+k*7+6,none⟩) (hB2.block rb (by omega))).trans z6;clear hB2))
   have hs2:=HB2.out.size;have HO2:=hid (HO.out.kept (gby_below (r:=none) HB2.out) (Classical.em _));have HBw2:=hid (HBr.out.trans (HB2.out.mono hsz));clear y0 y1 y2 y3 y4 y5 y6 z0 z1 z2 z3 z4 z5 z6;go_wp2_with (at_builtin;refine wpList_append_own _ rfl _ _ 25 rfl w.heap.size 45 i0 (.agg #[(0:Int),(0:Int),(0:Int),.slice none 0 0,(0:Int),(0:Int),.slice none 0 0]) 7 88 Tryz.underlying25 hi hz0 hz1 hz2 rfl (by decide) _ _ _ rfl (by exact HO2.out.alloc _) ⟨w2.heap.size,0,none⟩ 1 1 [t,r,n,.slice dA dv.length dc,ut,ur,.slice oA ops.length oc] rfl rfl (λj y h=>cellsN w2 [t,r,n,.slice dA dv.length dc,ut,ur,.slice oA ops.length oc] 45 j y h) (ocgrC_ (⟨⟨t,r⟩,n,dv,⟨ut,ur⟩,ops⟩,⟨dA,dc,oA,oc⟩)) (by unfold maxLen;omega) (by omega) (by simp;omega) ?_;intro v' w3 hown hgrow hnil);obtain⟨A3,c3,rfl⟩:=row_slice hown;have HO3:=hid (show w3.ownsRow w.heap.size 45 7 (.slice A3 (k+1) c3) (k+1) ((L.take (k+1)).flatMap grC_) by rw[HTK.out];exact hown);have HB3:=hid ((HBw2.out.alloc HBw2.out.size _).grown hgrow (by simp;have:=HBw2.out.size;omega) (λb hb=>HO.out.lt b hb |>.1));clear hown hgrow hnil;go_roundw
   case rel=>exact⟨k+1,A3,c3,by omega,by go_num,rfl,HO3,HB3⟩
   case measure=>(simp[RowKit.intOf];omega)
  ·obtain rfl:k=L.length:=by omega
   have i1:¬(L.length:Int)<(L.length:Int):=by omega
   go_wp2;go_ret;refine⟨A',c',rfl,?_,HBr.out⟩;have:=HO.out;rw[List.take_length] at this;exact this
end
end Go.Proofs.YtkhmicndehlneaaGreatDoor
