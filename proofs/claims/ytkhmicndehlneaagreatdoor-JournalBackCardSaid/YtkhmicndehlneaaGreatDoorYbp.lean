/- Part 16 of the walks and plain laws that this claim uses, joined. Conditions: as each theorem states. -/
import Derived.Test.YtkhmicndehlneaaGreatDoorYbo
namespace Go.Proofs.YtkhmicndehlneaaGreatDoor
set_option maxRecDepth 100000
set_option maxHeartbeats 16000000
set_option linter.unusedVariables false
section
theorem jB {v u:List Int} {g:Grp} {l:List Grp} (h:dM v (g::l)=some u):chkB g=true∧covB v g.deps=true∧atV v g.s.r=g.n-1∧dM (eE v g.s.r g.n) l=some u:=by
 unfold dM at h;split at h
 ·rename_i c;simp only[ap,ak] at c;exact⟨c.1.1,c.1.2,c.2,h⟩
 ·cases h
theorem ahead_mono:∀(l:List Grp) {v u:List Int},dM v l=some u->∀r,atV v r<=atV u r
 | [],v,u,h,r=>by simp only[dM,Option.some.injEq] at h;rw[h];exact gO _
 |g::l,v,u,h,r=>by
  obtain⟨h1,h2,h3,h4⟩:=jB h
  have hr:=(right_r (eC h1).1).1
  have:=ahead_mono l h4 r
  rw[fM _ _ _ _ hr] at this
  split at this
  ·rename_i e;subst e;omega
  ·exact this
theorem ahead_in:∀(l:List Grp) {v u:List Int},dM v l=some u->∀g∈l,atV v g.s.r<g.n∧g.n<=atV u g.s.r
 | [],v,u,h,g,hg=>by cases hg
 | x::l,v,u,h,g,hg=>by
  obtain⟨h1,h2,h3,h4⟩:=jB h
  have hr:=(right_r (eC h1).1).1
  rcases bY.1 hg with rfl|hg
  ·refine⟨by omega,?_⟩
   have:=ahead_mono l h4 g.s.r
   rw[fM _ _ _ _ hr,aJ rfl] at this
   exact this
  ·have:=ahead_in l h4 g hg
   rw[fM _ _ _ _ hr] at this
   refine⟨?_,this.2⟩
   have h5:=this.1
   split at h5
   ·rename_i e;rw[e];omega
   ·exact h5
theorem ahead_all:∀(l:List Grp) {v u:List Int},dM v l=some u->∀r n,atV v r<n->n<=atV u r->∃g∈l,g.s.r=r∧g.n=n
 | [],v,u,h,r,n,h1,h2=>by simp only[dM,Option.some.injEq] at h;subst h;omega
 | x ::l,v,u,h,r,n,h5,h6=>by
  obtain⟨h1,h2,h3,h4⟩:=jB h
  have hr:=(right_r (eC h1).1).1
  by_cases hx:x.s.r=r∧x.n=n
  ·exact⟨x,by simp,hx⟩
  ·have:atV (eE v x.s.r x.n) r<n:=by
    rw[fM _ _ _ _ hr];split
    ·rename_i e;subst e;have:x.n≠n:=λa=>hx ⟨rfl,a⟩;omega
    ·exact h5
   obtain⟨g,b,e⟩:=ahead_all l h4 r n this h6;exact⟨g,by simp[b],e⟩
theorem ahead_pair:∀(l:List Grp) {v u:List Int},dM v l=some u->l.Pairwise λa b=>a.s.r=b.s.r->a.n<b.n
 | [],v,u,h=>List.Pairwise.nil
 |x::l,v,u,h=>by
  obtain⟨h1,h2,h3,h4⟩:=jB h
  have hr:=(right_r (eC h1).1).1
  refine List.Pairwise.cons (λb hb e=> ?_) (ahead_pair l h4)
  have:=(ahead_in l h4 b hb).1
  rw[fM _ _ _ _ hr,aJ e.symm] at this
  exact this
theorem pair_eq {l:List Grp} (h:l.Pairwise λa b=>a.s.r=b.s.r->a.n<b.n) {x y:Grp} (hx:x∈l) (hy:y∈l) (hr:x.s.r=y.s.r) (hn:x.n=y.n):x=y:=by
 induction h with
 |nil=>cases hx
 | @cons a l h1 h2 ih=>
  rcases bY.1 hx with rfl|d
  ·rcases bY.1 hy with rfl|c
   ·rfl
   ·have:=h1 y c hr;omega
  ·rcases bY.1 hy with rfl|c
   ·have:=h1 x d hr.symm;omega
   ·exact ih d c
theorem nodup_eq {l:List Grp} (h:(l.map (·.s)).Nodup) {x y:Grp} (hx:x∈l) (hy:y∈l) (e:x.s=y.s):x=y:=by
 induction l with
 |nil=>cases hx
 | cons a l ih=>
  rw[List.map_cons,List.nodup_cons] at h;rcases bY.1 hx with f|c
  ·rcases bY.1 hy with d|b
   ·rw[f,d]
   ·exact absurd (bj.2 ⟨y,b,by rw[<-e,f]⟩) h.1
  ·rcases bY.1 hy with d|b
   ·exact absurd (bj.2 ⟨x,c,by rw[e,d]⟩) h.1
   ·exact ih h.2 c b
structure HisG (gs:List Grp):Prop where
 chk:∀g∈gs,chkB g=true
 nd:(gs.map (·.s)).Nodup
 ah:∃V,dM [] gs=some V
theorem HisG.one {gs:List Grp} (h:HisG gs) {x y:Grp} (hx:x∈gs) (hy:y∈gs) (hr:x.s.r=y.s.r) (hn:x.n=y.n):x=y:=by
 obtain⟨V,a⟩:=h.ah;exact pair_eq (ahead_pair gs a) hx hy hr hn
structure BxG (gs:List Grp) (b:Bx):Prop where
 ok:BxOk b
 sub:∀g∈b.done++b.wait,g∈gs
theorem atV_nil (r:Int):atV [] r=0:=by unfold atV;split<;>rfl
theorem BxG.old {gs:List Grp} {b:Bx} (h:BxG gs b) (hG:HisG gs) {g:Grp} (hg:g∈gs):oldB b.v g=true↔g∈b.done:=by
 unfold oldB;rw[ak];constructor
 ·intro c;have i:=(eC (hG.chk g hg)).2.1;obtain⟨d,a,e,f⟩:=ahead_all b.done h.ok.ahead g.s.r g.n (by rw[atV_nil];omega) c;rw[hG.one hg (h.sub d (by simp[a])) e.symm f.symm];exact a
 ·intro a;exact(ahead_in b.done h.ok.ahead g a).2
theorem BxG.apart {gs:List Grp} {b:Bx} (h:BxG gs b) {x:Grp} (h1:x∈b.done) (h2:x∈b.wait):False:=by
 have:=h.ok.apart;rw[bq,dK] at this;exact this.2.2 _ (bj.2 ⟨x,h1,rfl⟩) _ (bj.2 ⟨x,h2,rfl⟩) rfl
theorem BxG.known {gs:List Grp} {b:Bx} (h:BxG gs b) (hG:HisG gs) {g:Grp} (hg:g∈gs):iQ b g=true↔g∈b.done++b.wait:=by
 unfold iQ;rw[ch,ch,h.old hG hg,dV,dV,au];constructor
 ·rintro((⟨d,j,e⟩|c)|⟨a,i,e⟩)
  ·rw[Gst.eqb_iff] at e;rw[nodup_eq hG.nd hg (h.sub d (by simp[j])) e.symm];exact .inl j
  ·exact .inl c
  ·refine .inr ?_;unfold fB at e;rw[ch,ap,ak,ak,Gst.eqb_iff] at e;have f:=h.sub a (by simp[i]);rcases e with⟨e1,e2⟩|e
   ·rw[hG.one hg f e1.symm e2.symm];exact i
   ·rw[nodup_eq hG.nd hg f e.symm];exact i
 ·rintro(c|c)
  ·exact .inl (.inr c)
  ·refine .inr ⟨g,c,?_⟩;unfold fB;simp
def drained (b:Bx):Prop:=∀g∈b.wait,fp b.v g=false
theorem mem_split_erase {l:List Grp} {k:Nat} (hk:k<l.length):(l.getD k gz::l.eraseIdx k).Perm l:=by
 have e:l.getD k gz=l[k]:=by simp[hk]
 rw[e];have a:l.eraseIdx k=l.take k++l.drop (k+1):=by rw[gu]
 rw[a];have b:l=l.take k++l[k]::l.drop (k+1):=by
  rw[List.getElem_cons_drop,dx]
 conv=>rhs;rw[b]
 exact List.perm_middle.symm
theorem drainF_all {gs:List Grp} (hG:HisG gs):∀(f:Nat) (b:Bx),BxG gs b->b.wait.length<=f->BxG gs (bQ f b).1∧drained (bQ f b).1∧((bQ f b).1.done++(bQ f b).1.wait).Perm (b.done++b.wait)∧∃t,(bQ f b).1.done=b.done++t∧t.length=(bQ f b).2
 |0,b,h,hf=>by
  have hw:b.wait=[]:=bR (by omega)
  refine⟨h,λg hg=> ?_,List.Perm.refl _,[],by simp[bQ],rfl⟩
  have hg:g∈b.wait:=hg
  rw[hw] at hg;cases hg
 | f+1,b,h,hf=>by
  cases hb:eU b.v b.wait b.wait.length with
  |none=>
   rw[gj hb]
   refine⟨h,λg hg=> ?_,List.Perm.refl _,[],by simp,rfl⟩
   obtain⟨k,hk,e⟩:=dj.1 hg
   have:=bestN_none hb k hk
   rwa[show b.wait.getD k gz=g by rw[ae,an hk,<-e];rfl] at this
  | some k=>
   obtain⟨hk,hr⟩:=gH hb
   have hm:=gf hk
   have hgs:b.wait.getD k gz∈gs:=h.sub _ (au.2 (.inr hm))
   have ho:oldB b.v (b.wait.getD k gz)=false:=by
    cases e:oldB b.v (b.wait.getD k gz) with
    |false=>rfl
    |true=>exact(h.apart ((h.old hG hgs).1 e) hm).elim
   rw[gi hb ho];have a:((Bx.put ⟨b.done,b.wait.eraseIdx k,b.v⟩ (b.wait.getD k gz)).done++(Bx.put ⟨b.done,b.wait.eraseIdx k,b.v⟩ (b.wait.getD k gz)).wait).Perm (b.done++b.wait):=by
    show(b.done++[b.wait.getD k gz]++b.wait.eraseIdx k).Perm _;rw[aG];exact(mem_split_erase hk).append_left _
   have j:BxG gs (Bx.put ⟨b.done,b.wait.eraseIdx k,b.v⟩ (b.wait.getD k gz)):=by
    refine⟨(h.ok.drop k).put (hG.chk _ hgs) hr ho λx c=> ?_,λg hg=>h.sub g (a.mem_iff.1 hg)⟩;have d:=h.ok.apart;rw[bq,dK] at d;rcases au.1 c with c|c
    ·exact λe=>d.2.2 _ (bj.2 ⟨x,c,rfl⟩) _ (bj.2 ⟨_,hm,rfl⟩) e
    ·exact erase_ne hk d.2.1 x c
   have i:(b.wait.eraseIdx k).length<=f:=by rw[List.length_eraseIdx_of_lt hk];omega
   obtain⟨l,m,n,t,o,p⟩:=drainF_all hG f _ j i;refine⟨l,m,n.trans a,b.wait.getD k gz::t,?_,by simp[p]⟩;rw[o];show b.done++[b.wait.getD k gz]++t=_;simp
structure BxH (gs:List Grp) (b:Bx):Prop extends BxG gs b where
 dr:drained b
theorem BxH.new (gs:List Grp):BxH gs Bx.new:=⟨⟨BxOk.new,λg hg=>(by cases hg)⟩,λg hg=>(by cases hg)⟩
theorem nodup_sub {α:Type}:∀(l:List α) {gs:List α},l.Nodup->(∀g∈l,g∈gs)->l.length<=gs.length
 | [],gs,_,_=>aq _
 | a::l,gs,hn,hs=>by
  rw[List.nodup_cons] at hn
  obtain⟨s,t,rfl⟩:=List.append_of_mem (hs a (by simp))
  have:=nodup_sub l (gs:=s++t) hn.2 λg hg=>by
   have h1:=hs g (by simp[hg])
   simp only[au,bY] at h1 ⊢
   rcases h1 with h1|rfl|h1
   ·exact .inl h1
   ·exact absurd hg hn.1
   ·exact .inr h1
  simp only[al,bG] at this ⊢
  omega
theorem nodup_len {gs l:List Grp} (hl:(l.map (·.s)).Nodup) (hs:∀g∈l,g∈gs):l.length<=gs.length:=
 nodup_sub l (List.Pairwise.of_map (·.s) (λa b h e=>h (by rw[e])) hl) hs
theorem BxG.len {gs:List Grp} {b:Bx} (h:BxG gs b):b.done.length+b.wait.length<=gs.length:=by
 rw[<-al];exact nodup_len h.ok.apart h.sub
structure Heard1 (gs:List Grp) (b:Bx) (g:Grp):Prop where
 inv:BxH gs (bS b g).1
 err:(bS b g).2.2=0∨((bS b g).2.2=210∧(bS b g).1=b∧(bS b g).2.1=0∧g∈b.done++b.wait)
 has:g∈(bS b g).1.done++(bS b g).1.wait
 keep:∀x∈b.done++b.wait,x∈(bS b g).1.done++(bS b g).1.wait
 pre:∃t,(bS b g).1.done=b.done++t∧t.length=(bS b g).2.1
 rdy:fp b.v g=true->g∈(bS b g).1.done∧((bS b g).2.2=0->1<=(bS b g).2.1)
 once:b.wait=[]->fp b.v g=true->g∉ b.done->bS b g=(b.put g,1,0)
theorem BxH.hear {gs:List Grp} {b:Bx} (h:BxH gs b) (hG:HisG gs) (hl:gs.length<=99) {g:Grp} (hg:g∈gs):Heard1 gs b g:=by
 have j:=hG.chk g hg;have m:=h.toBxG.known hG hg;by_cases d:g∈b.done++b.wait
 ·have e:bS b g=(b,0,210):=by unfold bS;rw[aC (by simp[j]),aJ (m.2 d)]
  refine⟨by rw[e];exact h,.inr ⟨by rw[e],by rw[e],by rw[e],d⟩,by rw[e];exact d,λx c=>by rw[e];exact c,⟨[],by rw[e];simp,by rw[e];rfl⟩,λf=>⟨?_,λn=>by rw[e] at n;cases n⟩,λl f p=> ?_⟩
  ·rw[e];rcases au.1 d with a|a
   ·exact a
   ·rw[h.dr g a] at f;cases f
  ·rw[l,fV] at d;exact absurd d p
 ·have i:iQ b g=false:=by
   cases e:iQ b g with
   |false=>rfl
   |true=>exact absurd (m.1 e) d
  obtain⟨q,r⟩:=not_known i;by_cases f:fp b.v g=true
  ·have e:bS b g=((bQ b.wait.length (b.put g)).1,(bQ b.wait.length (b.put g)).2+1,0):=by unfold bS;rw[aC (by simp[j]),aC (by simp[i]),aJ f]
   have s:BxG gs (b.put g):=⟨h.ok.put j f q r,λx c=>by
    simp only[Bx.put,au,aO] at c;rcases c with(a|rfl)|a
    ·exact h.sub x (by simp[a])
    ·exact hg
    ·exact h.sub x (by simp[a])⟩
   obtain⟨u,v,w,t,o,y⟩:=drainF_all hG b.wait.length (b.put g) s (aa _)
   have k:∀x,x=g∨x∈b.done++b.wait->x∈(bQ b.wait.length (b.put g)).1.done++(bQ b.wait.length (b.put g)).1.wait:=λx c=>w.mem_iff.2 (by
    simp only[Bx.put,au,aO] at c ⊢;rcases c with a|a|a
    ·exact .inl (.inr a)
    ·exact .inl (.inl a)
    ·exact .inr a)
   refine⟨by rw[e];exact⟨u,v⟩,.inl (by rw[e]),by rw[e];exact k g (.inl rfl),λx c=>by rw[e];exact k x (.inr c),⟨g::t,by rw[e];simp only[o];simp[Bx.put],by rw[e];simp[y]⟩,λ_=>⟨?_,λ_=>by rw[e];exact Nat.le_add_left _ _⟩,λl _ _=> ?_⟩
   ·rw[e];simp only[o];simp[Bx.put]
   ·rw[e,l];rfl
  ·have z:=h.toBxG.len;have e:bS b g=(⟨b.done,b.wait++[g],b.v⟩,0,0):=by unfold bS;rw[aC (by simp[j]),aC (by simp[i]),aC f,aC (by omega)]
   refine⟨?_,.inl (by rw[e]),by rw[e];simp,λx c=> ?_,⟨[],by rw[e];simp,by rw[e];rfl⟩,λa=>absurd a f,λ_ a=>absurd a f⟩
   ·refine⟨⟨hearB_ok h.ok g,λx c=> ?_⟩,?_⟩
    ·rcases hearB_mem b g x c with a|rfl
     ·exact h.sub x a
     ·exact hg
    ·rw[e];intro x c;have c:x∈b.wait++[g]:=c;rcases au.1 c with a|a
     ·exact h.dr x a
     ·rw[aO] at a;subst a;simpa using f
   ·rw[e];show x∈b.done++(b.wait++[g]);rw[<-aG];exact au.2 (.inl c)
def gQ (b:Bx) (l:List Grp):Bx:=l.foldl (λb g=>(bS b g).1) b
theorem hearsB_snoc (b:Bx) (l:List Grp) (g:Grp):gQ b (l++[g])=(bS (gQ b l) g).1:=by unfold gQ;rw[List.foldl_append];rfl
theorem ready_pre {gs pre post:List Grp} {g:Grp} (hG:HisG gs) (e:gs=pre++g::post) {b:Bx} (h:BxG gs b) (hp:∀x∈pre,x∈b.done):fp b.v g=true:=by
 obtain⟨V,a⟩:=hG.ah;rw[e,jR] at a;cases c:dM [] pre with
 |none=>rw[c] at a;cases a
 | some u=>
  rw[c] at a;obtain⟨-,d,-,-⟩:=jB (show dM u (g::post)=some V from a);unfold fp;rw[covB_iff] at d ⊢;intro k;refine Int.le_trans (d k) ?_;have l:u.getD k 0=atV u (k+1):=by rw[atV_nat (by omega)];congr 1;omega
  have m:b.v.getD k 0=atV b.v (k+1):=by rw[atV_nat (by omega)];congr 1;omega
  rw[l,m];by_cases n:0<atV u (k+1)
  ·obtain⟨p,f,i,j⟩:=ahead_all pre c (k+1) (atV u (k+1)) (by rw[atV_nil];exact n) (gO _);have:=(ahead_in b.done h.ok.ahead p (hp p f)).2;rw[i,j] at this;exact this
  ·have:=ahead_mono b.done h.ok.ahead (k+1);rw[atV_nil] at this;omega
theorem nodup_of {l:List Grp} (h:(l.map (·.s)).Nodup):l.Nodup:=List.Pairwise.of_map (·.s) (λa b h e=>h (by rw[e])) h
theorem hears_order {gs:List Grp} (hG:HisG gs) (hl:gs.length<=99):∀(n:Nat) (pre post:List Grp),pre.length=n->gs=pre++post->BxH gs (gQ Bx.new pre)∧(gQ Bx.new pre).done=pre∧(gQ Bx.new pre).wait=[]:=by
 intro n;induction n with
 |zero=>intro pre post a e;rw[bR a];exact⟨BxH.new gs,rfl,rfl⟩
 | succ n ih=>
  intro pre post a e;obtain⟨q,y,rfl⟩:∃q y,pre=q++[y]:=by
   rcases List.eq_nil_or_concat pre with rfl|⟨q,y,rfl⟩
   ·cases a
   ·exact⟨q,y,by simp⟩
  have d:q.length=n:=by simpa using a
  have b:gs=q++(y::post):=by rw[e];simp
  obtain⟨f,c,g⟩:=ih q (y::post) d b;have j:y∈gs:=by rw[b];simp
  have h:=f.hear hG hl j;have i:y∉ q:=λk=>by
   have:=nodup_of hG.nd;rw[b,dK] at this;exact this.2.2 y k y (by simp) rfl
  have:=h.once g (ready_pre hG b f.toBxG (λx l=>by rw[c];exact l)) (by rw[c];exact i);rw[hearsB_snoc];refine⟨h.inv,?_,?_⟩
  ·rw[this];show(gQ Bx.new q).done++[y]=_;rw[c]
  ·rw[this];exact g
theorem BxG.his {gs:List Grp} {b:Bx} (h:BxG gs b):HisG b.done:=by
 have a:=h.ok.apart;rw[bq,dK] at a;exact⟨λg c=>h.ok.chk g (by simp[c]),a.1,_,h.ok.ahead⟩
end
section
open Go.RowKit Go.Lib Go.Sort
theorem bxh_small {gs:List Grp} {b:Bx} (h:BxH gs b) (hl:gs.length<=99):b.wait.length<=100∧b.done.length+b.wait.length<=99:=by
 have:=h.toBxG.len;omega
theorem mapg_getD (L:List (Grp×GrX)) (k:Nat):(L.map Prod.fst).getD k gz=(L.getD k gp0).1:=by
 rw[ae,cT,ae];cases L[k]? <;>rfl
theorem take_snocG {G:List Grp} {k:Nat} (h:k<G.length):G.take (k+1)=G.take k++[G.getD k gz]:=by
 rw[List.take_add_one,ae,an h];rfl
theorem hears_next (b:Bx) {G:List Grp} {k:Nat} (h:k<G.length):gQ b (G.take (k+1))=(bS (gQ b (G.take k)) (G.getD k gz)).1:=by rw[take_snocG h,hearsB_snoc]
def NoInt (w:World) (P:Nat):Prop:=∀i z,w.cell? ⟨P,i,none⟩≠some (.int .i64 z)
theorem RowG.off {w:World} {S:Nat->Prop} {A:Option Addr} {n s P:Nat} {f:Nat->Nat->Value} (h:RowG w S A n s f) (hP:NoInt w P) (hs:0<s) (hf:∀k,∃z,f k 0= .int .i64 z):RowG w (λb=>S b∧b≠P) A n s f:=λk hk=>by
 obtain⟨b,o,e,hS,hb,hc⟩:=h k hk
 refine⟨b,o,e,⟨hS,λe2=> ?_⟩,hb,hc⟩
 subst e2
 obtain⟨z,hz⟩:=hf k
 have h9:=hc 0 hs
 rw[hz] at h9
 exact hP _ _ h9
theorem OpIn.off {w:World} {S:Nat->Prop} {o:Gop} {x:OpX} {P:Nat} (h:OpIn w S o x) (hP:NoInt w P):OpIn w (λb=>S b∧b≠P) o x:=
 ⟨RowG.off h.dots hP (by omega) (λk=>⟨_,rfl⟩),RowG.off h.elems hP (by omega) (λk=>⟨_,rfl⟩),h.dle,h.ele,h.dmax,h.emax,h.name,h.text⟩
theorem GrG.off {w:World} {S:Nat->Prop} {p:Grp×GrX} {P:Nat} (h:GrG w S p) (hP:NoInt w P):GrG w (λb=>S b∧b≠P) p:=by
 obtain⟨a,⟨X,c,d⟩,e,f,g,i,j,l⟩:=h;exact⟨RowG.off a hP (by omega) (λk=>⟨_,rfl⟩),⟨X,RowG.off c hP (by omega) (λk=>⟨_,rfl⟩),λk m=>(d k m).off hP⟩,e,f,g,i,j,l⟩
theorem noInt_box {w:World} {P:Nat} {T:TypeId} (h:w.heap[P]? =some (.cells #[.slice none 0 0,.slice none 0 0] T (0,0))):NoInt w P:=λi z=>by
 rw[crw h]
 match i with
 |0=>intro e;cases e
 |1=>intro e;cases e
 |i+2=>intro e;simp at e
structure RbAt (B P:Nat) (gs:List Grp) (w1:World) (b:Bx) (wr:World):Prop where
 low:Below B w1 wr
 le:B<=wr.heap.size
 agr:Agr (λk=>k≠P) w1 wr
 his:BxH gs b
 txt:∀g∈gs,∀o∈g.ops,o.text.size<=1000000
 box:∃X S,RbIn B P S b.done b.wait X wr∧∀k,k<w1.heap.size->k≠P->S k
section
variable {B P : Nat} {gs : List Grp} {w1 wr w' : World} {b : Bx}
theorem RbAt.rbok (h:RbAt B P gs w1 b wr) (hl:gs.length<=99):RbOk b:=
 ⟨h.his.ok,λg hg=>h.txt g (h.his.sub g hg),by have:=(bxh_small h.his hl).2;omega⟩
theorem RbAt.hearX (h:RbAt B P gs w1 b wr) (hG:HisG gs) (hl:gs.length<=99) {X:RbX} {S:Nat->Prop} (hX:RbIn B P S b.done b.wait X wr) (hS:∀k,k<w1.heap.size->k≠P->S k) (p:Grp×GrX) (hp:p.1∈gs) (hI:GrG wr S p):
  Calls Tryz.prog 34 #[.pointer (some ⟨P,0,none⟩),.agg (grA p.1 p.2.dA p.2.dc p.2.oA p.2.oc)] wr λe w'=>e= .returned (.tuple #[.int .i64 ((bS b p.1).2.1:Nat),.int .i64 (bS b p.1).2.2])∧RbAt B P gs w1 (bS b p.1).1 w':=by
 have d:=bxh_small h.his hl;refine(rbhear_any hX (h.rbok hl) p.1 p.2 hI (h.txt _ hp) d.1 (by omega) (hG.chk _ hp)).mono ?_;rintro e w' ⟨rfl,g,f,a⟩;refine⟨rfl,h.low.trans (a.gr.below h.le λk c=>(hX.own_lt c).1),aL h.le a.gr.size,⟨aL h.agr.1 a.gr.size,λk d c=> ?_⟩,(h.his.hear hG hl hp).inv,h.txt,g,S,f,hS⟩;exact(a.gr.block k (bC c h.agr.1) (hX.sep k (hS k c d)).2).trans (h.agr.2 k d c)
theorem RbAt.hear (h:RbAt B P gs w1 b wr) (hG:HisG gs) (hl:gs.length<=99) (p:Grp×GrX) (hp:p.1∈gs) (hI:GrG w1 (λk=>k≠P) p):
  Calls Tryz.prog 34 #[.pointer (some ⟨P,0,none⟩),.agg (grA p.1 p.2.dA p.2.dc p.2.oA p.2.oc)] wr λe w'=>e= .returned (.tuple #[.int .i64 ((bS b p.1).2.1:Nat),.int .i64 (bS b p.1).2.2])∧RbAt B P gs w1 (bS b p.1).1 w':=by
 obtain⟨X,S,d,c⟩:=h.box;have f:GrG w1 (λk=>k<w1.heap.size∧k≠P) p:=hI.sub λk a g=>⟨a,g⟩;exact h.hearX hG hl d c p hp ((f.agr (h.agr.sub λk a=>a.2)).sub λk _ a=>c k a.1 a.2)
theorem RbAt.new (hw:w1.heap[P]? =some (.cells #[.slice none 0 0,.slice none 0 0] 65 (0,0))) (hBP:B<=P) (hT:∀g∈gs,∀o∈g.ops,o.text.size<=1000000):RbAt B P gs w1 Bx.new w1:=by
 refine⟨ag _ _,aL hBP (Nat.le_of_lt (lt_of_block hw)),Agr.refl,BxH.new gs,hT,⟨.slice none 0 0,.slice none 0 0,[],[]⟩,λk=>k<w1.heap.size∧k≠P,⟨hw,aF _ _ _ _,aF _ _ _ _,rfl,rfl,(λp b=>by cases b),hBP,(λe=>by cases e),(λe=>by cases e),(λg e=>by cases e),λk a=>⟨a.1,?_⟩⟩,λk c d=>⟨c,d⟩⟩;rintro(h|h|h)
 ·exact a.2 h
 ·cases h
 ·cases h
theorem RbAt.done (h:RbAt B P gs w1 b wr):∃(L:List (Grp×GrX)) (A:Option Addr) (c:Nat),wr.cell? ⟨P,0,none⟩=some (.slice A L.length c)∧L.map Prod.fst=b.done∧RowGr wr A L∧(∀p∈L,GrG wr (λ_=>True) p)∧L.length<=c∧c<=maxLen:=by
 obtain⟨X,S,a,-⟩:=h.box;obtain⟨A,c,f⟩:=bZ a.done;have d:=a.done;rw[f] at d;have e:X.L.length<=c∧c<=maxLen:=by
  rcases d.2 with⟨e1,e2⟩|⟨g,cap,cur,e1,-,-,h4,h5,-⟩
  ·injection e1 with j k i;exact⟨by omega,by rw[i];exact aq _⟩
  ·injection e1 with j k i;omega
 exact⟨X.L,A,c,by rw[a.cell,<-f];rfl,a.dl,RowGr.own d,λp l=>(a.good p (au.2 (.inl l))).sub λ_ _ _=>trivial,e⟩
end
section
variable {α : Type}
def RowF (w:World) (S:Nat->Prop) (A:Option Addr) (s:Nat) (f:α->List Value) (z:α) (L:List α):Prop:=RowG w S A L.length s (λk j=>(f (L.getD k z)).getD j undef)
variable {w w' : World} {S T : Nat → Prop} {A : Option Addr} {s : Nat} {f : α → List Value} {z : α} {L : List α}
theorem RowF.range (h:RowF w S A s f z L) (hf:∀x,(f x).length=s) {k:Nat} (hk:k<L.length):∃b o,A=some ⟨b,o,none⟩∧S b∧b<w.heap.size∧w.rangeAt b (o+k*s) (f (L.getD k z)):=by
 obtain⟨b,o,e,c,d,g⟩:=h k hk;refine⟨b,o,e,c,d,λj v a=> ?_⟩;have i:j<s:=by rw[<-hf (L.getD k z)];exact(ep.1 a).1
 rw[g j i];show some ((f (L.getD k z)).getD j undef)=some v;rw[ae,a];rfl
theorem RowF.agr (h:RowF w S A s f z L) (ha:Agr S w w'):RowF w' S A s f z L:=RowG.agr h ha
theorem RowF.below (h:RowF w S A s f z L) (ha:Below w.heap.size w w'):RowF w' S A s f z L:=RowG.agr h (Agr.below ha)
theorem RowF.sub (h:RowF w S A s f z L) (hs:∀b,b<w.heap.size->S b->T b):RowF w T A s f z L:=RowG.sub h hs
theorem RowF.nil {c:Option Addr}:RowF w S c s f z ([]:List α):=λk hk=>absurd hk (cG k)
theorem RowF.own {B E:Nat} {c:Nat} (hf:∀x,(f x).length=s) (h:w.ownsRow B E s (.slice A L.length c) L.length (L.flatMap f)):RowF w (λk=>B<=k) A s f z L:=by
 refine jU h λk j b a=> ?_;rw[gG (s:=s) hf L k j z b a];have:j<(f (L.getD k z)).length:=by rw[hf];exact a
 generalize f (L.getD k z)=q at *;rw[an this,ae,an this];rfl
theorem own_block {B E n c:Nat} {xs:List Value} (h:w.ownsRow B E s (.slice A n c) n xs) (h0:0<n):∃g cur,A=some ⟨g,0,none⟩∧B<=g∧w.heap[g]? =some (.cells cur E (0,0))∧n<=c∧c<=maxLen∧cur.size=c*s∧cur.toList.take (n*s)=xs:=by
 rcases h.2 with⟨e1,e2⟩|⟨g,cap,cur,e1,e2,e3,e4,e5,e6,e7⟩
 ·omega
 ·cases e1;exact⟨g,cur,rfl,e2,e3,e4,e5,e6,e7⟩
theorem jY {B E c:Nat} (hf:∀x,(f x).length=s) (h:w.ownsRow B E s (.slice A L.length c) L.length (L.flatMap f)) {k:Nat} (hk:k<L.length) (z:α):∃g,A=some ⟨g,0,none⟩∧B<=g∧g<w.heap.size∧w.rangeAt g (k*s) (f (L.getD k z)):=by
 obtain⟨g,n,rfl,l,a,-,-,o,b⟩:=own_block h (by omega);refine⟨g,rfl,l,lt_of_block a,λj v d=> ?_⟩;have m:j<s:=by rw[<-hf (L.getD k z)];exact(ep.1 d).1
 have e:k*s+j<L.length*s:=by
  have:(k+1)*s<=L.length*s:=fd s hk;rw[Nat.add_mul,Nat.one_mul] at this;omega
 rw[crw a,<-dz];have i:=gG (s:=s) hf L k j z hk m;rw[<-b,cm,aJ e] at i;rw[i];exact d
theorem ey {B E n c:Nat} {xs:List Value} (h:w.ownsRow B E s (.slice A n c) n xs) {k:Nat} (hk:k<n):∃g,A=some ⟨g,0,none⟩∧w.there g (k*s) s:=by
 obtain⟨g,b,rfl,i,a,l,-,d,e⟩:=own_block h (by omega);refine⟨g,rfl,λj m=>⟨?_,aW _ _ _ _ _ a⟩⟩;have f:k*s+j<c*s:=by
  have:(k+1)*s<=c*s:=fd s (by omega);rw[Nat.add_mul,Nat.one_mul] at this;omega
 rw[crw a,dh (by omega)];rfl
theorem putL_size':∀(vs:List Value) (o:Nat) (c:Array Value),(putL c o vs).size=c.size
 | [],_,_=>rfl
 |v::vs,o,c=>by rw[putL,putL_size' vs];simp
theorem putL_get':∀(vs:List Value) (o:Nat) (c:Array Value) (i:Nat),o+vs.length<=c.size->(putL c o vs)[i]? =if o<=i∧i<o+vs.length then vs[i-o]? else c[i]?
 | [],o,c,i,h=>by rw[putL,aC (by simp)]
 | v::vs,o,c,i,h=>by
  have hl:(v::vs).length=vs.length+1:=rfl
  rw[putL,putL_get' vs (o+1) _ i (by simp;omega)]
  by_cases h1:o+1<=i∧i<o+1+vs.length
  ·rw[aJ h1,aJ (by omega)]
   obtain⟨k,rfl⟩:∃k,i=o+1+k:=⟨i-(o+1),by omega⟩
   rw[show o+1+k-(o+1)=k by omega,show o+1+k-o=k+1 by omega]
   rfl
  ·rw[aC h1]
   by_cases h2:i=o
   ·subst h2
    rw[aJ (by omega),Nat.sub_self,Array.getElem?_setIfInBounds_self_of_lt (by omega)]
    rfl
   ·rw[aC (by omega),Array.getElem?_setIfInBounds_ne (λe=>h2 e.symm)]
theorem own_put {B E c:Nat} (hf:∀x,(f x).length=s) (hs:0<s) {g:Nat} (h:w.ownsRow B E s (.slice (some ⟨g,0,none⟩) L.length c) L.length (L.flatMap f)) {k:Nat} (hk:k<L.length) (y:α):
  (w.setCells g (k*s) (f y)).ownsRow B E s (.slice (some ⟨g,0,none⟩) (L.set k y).length c) (L.set k y).length ((L.set k y).flatMap f)∧w.grownBy (w.setCells g (k*s) (f y)) (some g):=by
 obtain⟨I,m,e,D,q,F,G,n,r⟩:=own_block h (by omega);cases e;have o:∀M:List α,(M.flatMap f).length=M.length*s:=λM=>by
  induction M with
  |nil=>simp
  |cons x M ih=>rw[cW,al,ih,hf,bG,Nat.add_mul,Nat.one_mul,Nat.add_comm]
 have t:k*s+s<=c*s:=by
  have:(k+1)*s<=c*s:=fd s (by omega);rw[Nat.add_mul,Nat.one_mul] at this;omega
 rw[fk g E _ _ m w q];refine⟨⟨by rw[o],.inr ⟨g,c,putL m (k*s) (f y),rfl,D,aM _ q,by rw[cM];exact F,G,by rw[putL_size',n],?_⟩⟩,rfl,rfl,rfl,by simp[World.setRow],λi _ p=> ?_⟩
 ·apply List.ext_getElem?;intro i;rw[cm,dz,cM];by_cases l:i<L.length*s
  ·rw[aJ l,putL_get' _ _ _ _ (by rw[hf,n];exact t),hf];have u:i / s<L.length:=(Nat.div_lt_iff_lt_mul hs).2 l;have J:=Nat.div_add_mod i s;have v:=fv i hs;have d:i=i / s*s+i % s:=by rw[Nat.mul_comm];omega
   have z:=gG (s:=s) hf (L.set k y) (i / s) (i % s) y (by rw[cM];exact u) v;rw[<-d] at z;rw[z];by_cases j:i / s=k
   ·have H:i=k*s+i % s:=by rw[<-j];exact d
    rw[aJ (by omega),j,ae,gS (by omega)];show(f y)[i-k*s]? =(f y)[i % s]?;congr 1;omega
   ·have A:¬(k*s<=i∧i<k*s+s):=λ⟨a,b⟩=>j (by
     have:=(Nat.div_eq_iff hs).2 ⟨a,by omega⟩
     exact this)
    rw[aC A];have C:=gG (s:=s) hf L (i / s) (i % s) y u v;rw[<-d,<-r,cm,aJ l,dz] at C;rw[C,ae,ae,iv (by omega)]
  ·rw[aC l,ck (by rw[o,cM];omega)]
 ·have p:i≠g:=λe=>p (by rw[e]);exact setRow_other _ _ _ _ p
theorem flat_len (hf:∀x,(f x).length=s) (M:List α):(M.flatMap f).length=M.length*s:=by
 induction M with
 |nil=>simp
 |cons x M ih=>rw[cW,al,ih,hf,bG,Nat.add_mul,Nat.one_mul,Nat.add_comm]
theorem dF {L:List α} {k:Nat} (h:k<L.length) (z:α):L.take (k+1)=L.take k++[L.getD k z]:=by
 rw[List.take_add_one,an h,ae,an h];rfl
theorem bL {L:List α} {k:Nat} (h:k<L.length) (z:α):L.getD k z∈L:=by
 rw[ae,an h];exact bU h
end
section
variable {α : Type} {w : World} {A : Option Addr} {s : Nat} {f : α → List Value} {L : List α}
theorem cz {B E c n:Nat} (hf:∀x,(f x).length=s) (hn:n=L.length) (h:w.ownsRow B E s (.slice A n c) n (L.flatMap f)) {k:Nat} (hk:k<n) (z:α):∃g,A=some ⟨g,0,none⟩∧B<=g∧g<w.heap.size∧w.rangeAt g (k*s) (f (L.getD k z)):=by
 subst hn;exact jY hf h hk z
theorem eP {B E c n:Nat} (hf:∀x,(f x).length=s) (hs:0<s) (hn:n=L.length) {g:Nat} (h:w.ownsRow B E s (.slice (some ⟨g,0,none⟩) n c) n (L.flatMap f)) {k:Nat} (hk:k<n) (y:α):
  (w.setCells g (k*s) (f y)).ownsRow B E s (.slice (some ⟨g,0,none⟩) n c) n ((L.set k y).flatMap f)∧w.grownBy (w.setCells g (k*s) (f y)) (some g):=by
 subst hn;have:=own_put hf hs h hk y;rwa[cM] at this
theorem ct {B E c n:Nat} {z:α} (hf:∀x,(f x).length=s) (hn:n=L.length) (h:w.ownsRow B E s (.slice A n c) n (L.flatMap f)):RowF w (λk=>B<=k) A s f z L:=by
 subst hn;exact RowF.own hf h
end
section
variable {P : Program} {ops : Array Oper} {o : Oper} {a : Act} {w : World} {K : Act → World → Prop} {Q : Exit → Act → World → Prop} {E : Prop}
theorem bA (hgd:o.guard=none) (ty:TypeId) (x:Operand) (ho:o.op= .load ty x) (b off:Nat) (hx:a.eval x= .pointer (some ⟨b,off,none⟩)) (cs:List Value) (d:TypeDesc) (hc:w.rangeAt b off cs)
  (hu:P.underlying ty=some d) (hd:d.isRow=true) (hi:(P.info? ty).map (·.size)=some cs.length) (h:K (a.put o.dst (.agg cs.toArray)) w):if Region.wanted o (yielded ops a.tmps)=true then Oper.wp P o a w K Q else E:=by
 rw[aJ (by simp[Region.wanted,hgd])];exact wp_load_mid ty x ho b off hx cs d hc hu hd hi h
theorem cy (hgd:o.guard=none) (ty:TypeId) (x y:Operand) (ho:o.op= .store ty x y) (b off:Nat) (cells:Array Value) (hx:a.eval x= .pointer (some ⟨b,off,none⟩)) (hy:a.eval y= .agg cells)
  (ht:w.there b off cells.size) (hi:(P.info? ty).map (·.size)=some cells.size) (h1:cells.all (·.oneCell')=true) (h:K (a.put o.dst undef) (w.setCells b off cells.toList)):if Region.wanted o (yielded ops a.tmps)=true then Oper.wp P o a w K Q else E:=by
 rw[aJ (by simp[Region.wanted,hgd])];exact wp_store_mid ty x y ho b off cells hx hy ht hi h1 h
end
def slid {α:Type} (L:List α) (x:α) (k:Nat):List α:=L.take k++x::L.drop k
theorem eO {α:Type} (L:List α) (x:α) (k:Nat):(slid L x k).length=L.length+1:=by
 unfold slid;rw[al,bG,aP,bI];omega
theorem ju {α:Type} (L:List α) (x:α):slid L x L.length=L++[x]:=by unfold slid;rw[aK,List.drop_length]
theorem ku {α:Type} {L:List α} {x z:α} {k:Nat} (h:k<=L.length):(slid L x k).getD k z=x:=by
 unfold slid;rw[ae,cY (by rw[aP];omega),aP,show k-min k L.length=0 by omega];rfl
theorem js {α:Type} {L:List α} {x z:α} {k:Nat} (h:k+1<=L.length):(slid L x (k+1)).getD k z=L.getD k z:=by
 unfold slid;rw[ae,es (by rw[aP];omega),cm,aJ (by omega),ae]
theorem ip {α:Type} {L:List α} {x z:α} {k:Nat} (h:k+1<=L.length):((slid L x (k+1)).set (k+1) (L.getD k z)).set k x=slid L x k:=by
 apply List.ext_getElem?;intro i;have a:(slid L x (k+1)).length=L.length+1:=eO _ _ _;have b:L.drop k=L.getD k z::L.drop (k+1):=by
  rw[iM (by omega),ae,an (by omega)];rfl
 by_cases c:i=k
 ·subst c;rw[gS (by rw[cM,a];omega)];unfold slid;rw[cY (by rw[aP];omega),aP,show i-min i L.length=0 by omega];rfl
 ·rw[iv (λe=>c e.symm)];by_cases d:i=k+1
  ·subst d;rw[gS (by rw[a];omega)];unfold slid;rw[cY (by rw[aP];omega),aP,show k+1-min k L.length=1 by omega,b];rfl
  ·rw[iv (λe=>d e.symm)];unfold slid;rcases cj i k with f|f
   ·rw[es (by rw[aP];omega),es (by rw[aP];omega),cm,cm,aJ (by omega),aJ f]
   ·rw[cY (by rw[aP];omega),cY (by rw[aP];omega),aP,aP,b];rw[show i-min (k+1) L.length=(i-k-2)+1 by omega,show i-min k L.length=(i-k-2)+1+1 by omega];rfl
structure Dt where
 n:Gid
 b:Gst
structure Plc where
 n:Gid
 p:Gid
 name:ByteArray
 dir:Bool
structure Told where
 a:Gid
 p:Plc
structure Hd where
 s:Gst
 u:Gst
structure Elt where
 id:Gid
 af:Gid
 pc:ByteArray
structure Rn where
 af:Gid
 el:Gid
 tx:ByteArray
structure Itm where
 n:Gid
 path:ByteArray
 dir:Bool
 back:Bool
def dt0:Dt:=⟨.zero,.zero⟩
def plc0:Plc:=⟨.zero,.zero,⟨#[]⟩,false⟩
def fE:Told:=⟨.zero,plc0⟩
def hd0:Hd:=⟨.zero,.zero⟩
def elt0:Elt:=⟨.zero,.zero,⟨#[]⟩⟩
def rn0:Rn:=⟨.zero,.zero,⟨#[]⟩⟩
def itm0:Itm:=⟨.zero,⟨#[]⟩,false,false⟩
def stL (s:Gst):List Value:=[.int .i64 s.t,.int .i64 s.r]
def idL (x:Gid):List Value:=[.int .i64 x.s.t,.int .i64 x.s.r,.int .i64 x.i]
def dtL (d:Dt):List Value:=[.int .i64 d.n.s.t,.int .i64 d.n.s.r,.int .i64 d.n.i,.int .i64 d.b.t,.int .i64 d.b.r]
def plcL (p:Plc):List Value:=[.int .i64 p.n.s.t,.int .i64 p.n.s.r,.int .i64 p.n.i,.int .i64 p.p.s.t,.int .i64 p.p.s.r,.int .i64 p.p.i,.string p.name,.bool p.dir]
def toldL (p:Told):List Value:=[.int .i64 p.a.s.t,.int .i64 p.a.s.r,.int .i64 p.a.i,.int .i64 p.p.n.s.t,.int .i64 p.p.n.s.r,.int .i64 p.p.n.i,.int .i64 p.p.p.s.t,.int .i64 p.p.p.s.r,.int .i64 p.p.p.i,.string p.p.name,.bool p.p.dir]
def hdL (h:Hd):List Value:=[.int .i64 h.s.t,.int .i64 h.s.r,.int .i64 h.u.t,.int .i64 h.u.r]
def eltL (e:Elt):List Value:=[.int .i64 e.id.s.t,.int .i64 e.id.s.r,.int .i64 e.id.i,.int .i64 e.af.s.t,.int .i64 e.af.s.r,.int .i64 e.af.i,.string e.pc]
def rnL (e:Rn):List Value:=[.int .i64 e.af.s.t,.int .i64 e.af.s.r,.int .i64 e.af.i,.int .i64 e.el.s.t,.int .i64 e.el.s.r,.int .i64 e.el.i,.string e.tx]
def itmL (p:Itm):List Value:=[.int .i64 p.n.s.t,.int .i64 p.n.s.r,.int .i64 p.n.i,.string p.path,.bool p.dir,.bool p.back]
def Dt.eqb (a b:Dt):Bool:=a.n.eqb b.n && a.b.eqb b.b
theorem eq_dt (a b i p q c d j s t:Int) (v:Bool) (h:Dt.eqb ⟨⟨⟨a,b⟩,i⟩,⟨p,q⟩⟩ ⟨⟨⟨c,d⟩,j⟩,⟨s,t⟩⟩=v) (w:World):(binOp .eql 163 (.agg #[a,b,i,p,q]) (.agg #[c,d,j,s,t])).run Tryz.prog w= .ok (.bool v) w:=by
 subst h;go_simp;simp only[Dt.eqb,Gid.eqb,Gst.eqb];by_cases e:a=c<;>by_cases f:b=d<;>by_cases g:i=j<;>by_cases k:p=s<;>by_cases l:q=t<;>simp[e,f,g,k,l]
def ixI:Option Nat->Int
 |none=> -1
 |some k=>(k:Int)
theorem ix_some {α:Type} {L:List α} {p:α->Bool} {k:Nat} {z:α} (hk:k<L.length) (h:p (L.getD k z)=true) (hn:∀j,j<k->p (L.getD j z)=false):L.findIdx? p=some k:=by
 rw[List.findIdx?_eq_some_iff_getElem];rw[ae,an hk] at h;refine⟨hk,h,λj a=> ?_⟩;have:=hn j a;rw[ae,an (by omega)] at this;simpa using this
theorem ix_none {α:Type} {L:List α} {p:α->Bool} {z:α} (hn:∀j,j<L.length->p (L.getD j z)=false):L.findIdx? p=none:=by
 rw[List.findIdx?_eq_none_iff];intro x b;obtain⟨j,a,rfl⟩:=dj.1 b;have:=hn j a;rw[ae,an a] at this;exact this
theorem any_yes {α:Type} {L:List α} {p:α->Bool} {k:Nat} {z:α} (hk:k<L.length) (h:p (L.getD k z)=true):L.any p=true:=dV.2 ⟨_,bL hk z,h⟩
theorem any_no {α:Type} {L:List α} {p:α->Bool} {z:α} (hn:∀j,j<L.length->p (L.getD j z)=false):L.any p=false:=by
 rw[List.any_eq_false];intro x b;obtain⟨j,a,rfl⟩:=dj.1 b;have:=hn j a;rw[ae,an a] at this;rw[show L[j]=(some L[j]).getD z from rfl,this];decide
end
section
open Go.RowKit Go.Lib Go.Sort
attribute [local go_sem ↓] Go.wp_at_zero Go.wp_at_succ
theorem hasstamp_any (L:List Gst) (A:Option Addr) (c:Nat) (x:Gst) (S:Nat->Prop) (w:World) (hl:L.length<=1000000) (hR:RowF w S A 2 stL .zero L):
  Calls Tryz.prog 109 #[.slice A L.length c,.agg (stL x).toArray] w λe w'=>e= .returned (.bool (L.any (λy=>y.eqb x)))∧Below w.heap.size w w':=by
 obtain⟨V,l⟩:∃q,q=(L.any (λy=>y.eqb x)):=⟨_,rfl⟩;rw[<-l];have n:=hid l;clear l;obtain⟨f,g⟩:=x;have u:Below w.heap.size w (w.alloc (.cells #[f,g] 42)):=(ag _ _).alloc (aa _) _;have O:=hid (am w (.cells #[f,g] 42));have z:(w.alloc (.cells #[f,g] 42)).heap.size=w.heap.size+1:=by simp
 have P:=hid z;have Q:=hid u;have R:=hid hR;clear u hR z;show Calls _ _ #[.slice A L.length c,.agg #[f,g]] _ _;go_enter Tryz.func109,Tryz.ntmps109;go_upto_region 2 with(fail);generalize F:w.alloc (.cells #[f,g] 42)=G at *;clear F;go_loopw [5] (λi wr=>∃k:Nat,i= .int .i64 k∧k<=L.length∧Hid (Below G.heap.size G wr)∧Hid (∀j,j<k->(λy:Gst=>y.eqb ⟨f,g⟩) (L.getD j .zero)=false)) (λi _=>L.length-(RowKit.intOf i).toNat)
 case atStart=>exact⟨0,rfl,aq _,hid (ag _ _),hid (λj H=>absurd H (cG j))⟩
 case round=>
  obtain⟨k,rfl,X,o,I⟩:=hrel;have m:=bT Q o.out;by_cases B:k<L.length
  ·obtain⟨J,K,rfl,-,W,d⟩:=(R.out.below m.out).range (λ_=>rfl) B;have Y:(0:Int)<=(k:Int):=by omega
   have T:(k:Int)<(L.length:Int):=by omega
   obtain⟨p,D⟩:∃p,p=L.getD k .zero:=⟨_,rfl⟩;rw[<-D] at d;obtain⟨b,E⟩:∃b,b=(λy:Gst=>y.eqb ⟨f,g⟩) p:=⟨_,rfl⟩;have M:=hid (show(λy:Gst=>y.eqb ⟨f,g⟩) (L.getD k .zero)=b by rw[<-D,E]);clear D;obtain⟨t,r⟩:=p;have Z:=eq_st t r f g b E.symm;have C:=hid ((o.out.block w.heap.size (by rw[P.out];omega)).trans O.out);have x0:=rg0 C.out;have x1:=rg1 C.out;have y0:=aj (w:=wr) (a:=⟨J,K+k*2,none⟩) (v:= .int .i64 t) (d 0 _ rfl);have y1:=aj (w:=wr) (a:=⟨J,K+k*2+1,none⟩) (v:= .int .i64 r) (d 1 _ rfl);clear d E;cases b with
   |true=>
    go_upto_region 4 with(fail);refine rqb ?_
    repeat(any_goals(first|go_big_quiet_step (fail)|quiet_step (fail)))
    refine qz λU s=> ?_;go_wp2;go_ret;exact⟨by rw[n.out,any_yes B M.out];rfl,m.out.trans (s.mono m.out.size)⟩
   |false=>
    have N:=hid (show ∀j,j<k+1->(λy:Gst=>y.eqb ⟨f,g⟩) (L.getD j .zero)=false from λj H=>if h:j<k then I.out j h else (by(obtain rfl:j=k:=(by omega));exact M.out));go_upto_region 4 with(fail);refine rqb ?_
    repeat(any_goals(first|go_big_quiet_step (fail)|quiet_step (fail)))
    refine qz λU s=> ?_;go_wp2;go_roundw
    case rel=>exact⟨k+1,by go_num,by omega,bT o s,N⟩
    case measure=>(simp[RowKit.intOf];omega)
  ·obtain rfl:k=L.length:=by omega
   have T:¬(L.length:Int)<(L.length:Int):=by omega
   go_wp2;go_ret;exact⟨by rw[n.out,any_no I.out];rfl,m.out⟩
theorem hasid_any (L:List Gid) (A:Option Addr) (c:Nat) (x:Gid) (S:Nat->Prop) (w:World) (hl:L.length<=1000000) (hR:RowF w S A 3 idL .zero L):
  Calls Tryz.prog 173 #[.slice A L.length c,.agg (idL x).toArray] w λe w'=>e= .returned (.bool (L.any (λy=>y.eqb x)))∧Below w.heap.size w w':=by
 obtain⟨X,m⟩:∃q,q=(L.any (λy=>y.eqb x)):=⟨_,rfl⟩;rw[<-m];have s:=hid m;clear m;obtain⟨⟨f,g⟩,l⟩:=x;have C:Below w.heap.size w (w.alloc (.cells #[f,g,l] 108)):=(ag _ _).alloc (aa _) _;have Q:=hid (am w (.cells #[f,g,l] 108));have D:(w.alloc (.cells #[f,g,l] 108)).heap.size=w.heap.size+1:=by simp
 have R:=hid D;have T:=hid C;have U:=hid hR;clear C hR D;show Calls _ _ #[.slice A L.length c,.agg #[f,g,l]] _ _;go_enter Tryz.func173,Tryz.ntmps173;go_upto_region 2 with(fail);generalize J:w.alloc (.cells #[f,g,l] 108)=K at *;clear J;go_loopw [5] (λi wr=>∃k:Nat,i= .int .i64 k∧k<=L.length∧Hid (Below K.heap.size K wr)∧Hid (∀j,j<k->(λy:Gid=>y.eqb ⟨⟨f,g⟩,l⟩) (L.getD j .zero)=false)) (λi _=>L.length-(RowKit.intOf i).toNat)
 case atStart=>exact⟨0,rfl,aq _,hid (ag _ _),hid (λj M=>absurd M (cG j))⟩
 case round=>
  obtain⟨k,rfl,Z,u,N⟩:=hrel;have o:=bT T u.out;by_cases E:k<L.length
  ·obtain⟨F,G,rfl,-,Y,d⟩:=(U.out.below o.out).range (λ_=>rfl) E;have i0:(0:Int)<=(k:Int):=by omega
   have V:(k:Int)<(L.length:Int):=by omega
   obtain⟨p,H⟩:∃p,p=L.getD k .zero:=⟨_,rfl⟩;rw[<-H] at d;obtain⟨b,I⟩:∃b,b=(λy:Gid=>y.eqb ⟨⟨f,g⟩,l⟩) p:=⟨_,rfl⟩;have O:=hid (show(λy:Gid=>y.eqb ⟨⟨f,g⟩,l⟩) (L.getD k .zero)=b by rw[<-H,I]);clear H;obtain⟨⟨t,r⟩,n⟩:=p;have q1:=eJ t r n f g l b I.symm;have z:=hid ((u.out.block w.heap.size (by rw[R.out];omega)).trans Q.out);have x0:=rg0 z.out;have x1:=rg1 z.out;have x2:=rg2 z.out;have y0:=aj (w:=wr) (a:=⟨F,G+k*3,none⟩) (v:= .int .i64 t) (d 0 _ rfl);have y1:=aj (w:=wr) (a:=⟨F,G+k*3+1,none⟩) (v:= .int .i64 r) (d 1 _ rfl);have y2:=aj (w:=wr) (a:=⟨F,G+k*3+2,none⟩) (v:= .int .i64 n) (d 2 _ rfl);clear d I;cases b with
   |true=>
    go_upto_region 4 with(fail);refine rqb ?_
    repeat(any_goals(first|go_big_quiet_step (fail)|quiet_step (fail)))
    refine qz λW B=> ?_;go_wp2;go_ret;exact⟨by rw[s.out,any_yes E O.out];rfl,o.out.trans (B.mono o.out.size)⟩
   |false=>
    have P:=hid (show ∀j,j<k+1->(λy:Gid=>y.eqb ⟨⟨f,g⟩,l⟩) (L.getD j .zero)=false from λj M=>if h:j<k then N.out j h else (by(obtain rfl:j=k:=(by omega));exact O.out));go_upto_region 4 with(fail);refine rqb ?_
    repeat(any_goals(first|go_big_quiet_step (fail)|quiet_step (fail)))
    refine qz λW B=> ?_;go_wp2;go_roundw
    case rel=>exact⟨k+1,by go_num,by omega,bT u B,P⟩
    case measure=>(simp[RowKit.intOf];omega)
  ·obtain rfl:k=L.length:=by omega
   have V:¬(L.length:Int)<(L.length:Int):=by omega
   go_wp2;go_ret;exact⟨by rw[s.out,any_no N.out];rfl,o.out⟩
theorem hasdot_any (L:List Dt) (A:Option Addr) (c:Nat) (x:Dt) (S:Nat->Prop) (w:World) (hl:L.length<=1000000) (hR:RowF w S A 5 dtL dt0 L):
  Calls Tryz.prog 174 #[.slice A L.length c,.agg (dtL x).toArray] w λe w'=>e= .returned (.bool (L.any (λy=>y.eqb x)))∧Below w.heap.size w w':=by
 obtain⟨ab,u⟩:∃q,q=(L.any (λy=>y.eqb x)):=⟨_,rfl⟩;rw[<-u];have B:=hid u;clear u;obtain⟨⟨⟨f,g⟩,l⟩,⟨m,o⟩⟩:=x;have G:Below w.heap.size w (w.alloc (.cells #[f,g,l,m,o] 163)):=(ag _ _).alloc (aa _) _;have V:=hid (am w (.cells #[f,g,l,m,o] 163));have H:(w.alloc (.cells #[f,g,l,m,o] 163)).heap.size=w.heap.size+1:=by simp
 have W:=hid H;have X:=hid G;have Y:=hid hR;clear G hR H;show Calls _ _ #[.slice A L.length c,.agg #[f,g,l,m,o]] _ _;go_enter Tryz.func174,Tryz.ntmps174;go_upto_region 2 with(fail);generalize M:w.alloc (.cells #[f,g,l,m,o] 163)=N at *;clear M;go_loopw [5] (λi wr=>∃k:Nat,i= .int .i64 k∧k<=L.length∧Hid (Below N.heap.size N wr)∧Hid (∀j,j<k->(λy:Dt=>y.eqb ⟨⟨⟨f,g⟩,l⟩,⟨m,o⟩⟩) (L.getD j dt0)=false)) (λi _=>L.length-(RowKit.intOf i).toNat)
 case atStart=>exact⟨0,rfl,aq _,hid (ag _ _),hid (λj O=>absurd O (cG j))⟩
 case round=>
  obtain⟨k,rfl,hk,C,P⟩:=hrel;have z:=bT X C.out;by_cases I:k<L.length
  ·obtain⟨D,E,rfl,-,ac,d⟩:=(Y.out.below z.out).range (λ_=>rfl) I;have i0:(0:Int)<=(k:Int):=by omega
   have Z:(k:Int)<(L.length:Int):=by omega
   obtain⟨p,J⟩:∃p,p=L.getD k dt0:=⟨_,rfl⟩;rw[<-J] at d;obtain⟨b,K⟩:∃b,b=(λy:Dt=>y.eqb ⟨⟨⟨f,g⟩,l⟩,⟨m,o⟩⟩) p:=⟨_,rfl⟩;have Q:=hid (show(λy:Dt=>y.eqb ⟨⟨⟨f,g⟩,l⟩,⟨m,o⟩⟩) (L.getD k dt0)=b by rw[<-J,K]);clear J;obtain⟨⟨⟨t,r⟩,n⟩,⟨R,T⟩⟩:=p;have q1:=eq_dt t r n R T f g l m o b K.symm;have s:=hid ((C.out.block w.heap.size (by rw[W.out];omega)).trans V.out);have x0:=rg0 s.out;have x1:=rg1 s.out;have x2:=rg2 s.out;have x3:=rg3 s.out;have x4:=rg4 s.out;have y0:=aj (w:=wr) (a:=⟨D,E+k*5,none⟩) (v:= .int .i64 t) (d 0 _ rfl);have y1:=aj (w:=wr) (a:=⟨D,E+k*5+1,none⟩) (v:= .int .i64 r) (d 1 _ rfl);have y2:=aj (w:=wr) (a:=⟨D,E+k*5+2,none⟩) (v:= .int .i64 n) (d 2 _ rfl);have y3:=aj (w:=wr) (a:=⟨D,E+k*5+3,none⟩) (v:= .int .i64 R) (d 3 _ rfl);have y4:=aj (w:=wr) (a:=⟨D,E+k*5+4,none⟩) (v:= .int .i64 T) (d 4 _ rfl);clear d K;cases b with
   |true=>
    go_upto_region 4 with(fail);refine rqb ?_
    repeat(any_goals(first|go_big_quiet_step (fail)|quiet_step (fail)))
    refine qz λwq F=> ?_;go_wp2;go_ret;exact⟨by rw[B.out,any_yes I Q.out];rfl,z.out.trans (F.mono z.out.size)⟩
   |false=>
    have U:=hid (show ∀j,j<k+1->(λy:Dt=>y.eqb ⟨⟨⟨f,g⟩,l⟩,⟨m,o⟩⟩) (L.getD j dt0)=false from λj O=>if h:j<k then P.out j h else (by(obtain rfl:j=k:=(by omega));exact Q.out));go_upto_region 4 with(fail);refine rqb ?_
    repeat(any_goals(first|go_big_quiet_step (fail)|quiet_step (fail)))
    refine qz λwq F=> ?_;go_wp2;go_roundw
    case rel=>exact⟨k+1,by go_num,by omega,bT C F,U⟩
    case measure=>(simp[RowKit.intOf];omega)
  ·obtain rfl:k=L.length:=by omega
   have Z:¬(L.length:Int)<(L.length:Int):=by omega
   go_wp2;go_ret;exact⟨by rw[B.out,any_no P.out];rfl,z.out⟩
theorem gX (L:List Plc) (A:Option Addr) (c:Nat) (x:Gid) (S:Nat->Prop) (w:World) (hl:L.length<=1000000) (hR:RowF w S A 8 plcL plc0 L):
  Calls Tryz.prog 169 #[.slice A L.length c,.agg (idL x).toArray] w λe w'=>e= .returned (.int .i64 (ixI (L.findIdx? (λy=>y.n.eqb x))))∧Below w.heap.size w w':=by
 obtain⟨X,m⟩:∃q,q=(ixI (L.findIdx? (λy=>y.n.eqb x))):=⟨_,rfl⟩;rw[<-m];have s:=hid m;clear m;obtain⟨⟨f,g⟩,l⟩:=x;have C:Below w.heap.size w (w.alloc (.cells #[f,g,l] 108)):=(ag _ _).alloc (aa _) _;have Q:=hid (am w (.cells #[f,g,l] 108));have D:(w.alloc (.cells #[f,g,l] 108)).heap.size=w.heap.size+1:=by simp
 have R:=hid D;have T:=hid C;have U:=hid hR;clear C hR D;show Calls _ _ #[.slice A L.length c,.agg #[f,g,l]] _ _;go_enter Tryz.func169,Tryz.ntmps169;go_upto_region 2 with(fail);generalize K:w.alloc (.cells #[f,g,l] 108)=M at *;clear K;go_loopw [5] (λi wr=>∃k:Nat,i= .int .i64 k∧k<=L.length∧Hid (Below M.heap.size M wr)∧Hid (∀j,j<k->(λy:Plc=>y.n.eqb ⟨⟨f,g⟩,l⟩) (L.getD j plc0)=false)) (λi _=>L.length-(RowKit.intOf i).toNat)
 case atStart=>exact⟨0,rfl,aq _,hid (ag _ _),hid (λj N=>absurd N (cG j))⟩
 case round=>
  obtain⟨k,rfl,Z,u,F⟩:=hrel;have o:=bT T u.out;by_cases E:k<L.length
  ·obtain⟨G,H,rfl,-,Y,d⟩:=(U.out.below o.out).range (λ_=>rfl) E;have i0:(0:Int)<=(k:Int):=by omega
   have V:(k:Int)<(L.length:Int):=by omega
   obtain⟨p,I⟩:∃p,p=L.getD k plc0:=⟨_,rfl⟩;rw[<-I] at d;obtain⟨b,J⟩:∃b,b=(λy:Plc=>y.n.eqb ⟨⟨f,g⟩,l⟩) p:=⟨_,rfl⟩;have O:=hid (show(λy:Plc=>y.n.eqb ⟨⟨f,g⟩,l⟩) (L.getD k plc0)=b by rw[<-I,J]);clear I;obtain⟨⟨⟨t,r⟩,n⟩,pp,pn,pd⟩:=p;have q1:=eJ t r n f g l b J.symm;have z:=hid ((u.out.block w.heap.size (by rw[R.out];omega)).trans Q.out);have x0:=rg0 z.out;have x1:=rg1 z.out;have x2:=rg2 z.out;have y0:=aj (w:=wr) (a:=⟨G,H+k*8,none⟩) (v:= .int .i64 t) (d 0 _ rfl);have y1:=aj (w:=wr) (a:=⟨G,H+k*8+1,none⟩) (v:= .int .i64 r) (d 1 _ rfl);have y2:=aj (w:=wr) (a:=⟨G,H+k*8+2,none⟩) (v:= .int .i64 n) (d 2 _ rfl);clear d J;cases b with
   |true=>
    go_upto_region 4 with(fail);refine rqb ?_
    repeat(any_goals(first|go_big_quiet_step (fail)|quiet_step (fail)))
    refine qz λW B=> ?_;go_wp2;go_ret;exact⟨by rw[s.out,ix_some E O.out F.out];rfl,o.out.trans (B.mono o.out.size)⟩
   |false=>
    have P:=hid (show ∀j,j<k+1->(λy:Plc=>y.n.eqb ⟨⟨f,g⟩,l⟩) (L.getD j plc0)=false from λj N=>if h:j<k then F.out j h else (by(obtain rfl:j=k:=(by omega));exact O.out));go_upto_region 4 with(fail);refine rqb ?_
    repeat(any_goals(first|go_big_quiet_step (fail)|quiet_step (fail)))
    refine qz λW B=> ?_;go_wp2;go_roundw
    case rel=>exact⟨k+1,by go_num,by omega,bT u B,P⟩
    case measure=>(simp[RowKit.intOf];omega)
  ·obtain rfl:k=L.length:=by omega
   have V:¬(L.length:Int)<(L.length:Int):=by omega
   go_wp2;go_ret;exact⟨by rw[s.out,ix_none F.out];rfl,o.out⟩
theorem bv {w:World} {b o:Nat} {pre mid post:List Value} (h:w.rangeAt b o (pre++(mid++post))):w.rangeAt b (o+pre.length) mid:=λj v hv=>by
 have:=h (pre.length+j) v (by rw[cY (by omega),show pre.length+j-pre.length=j by omega,es (ep.1 hv).1];exact hv)
 rwa[Nat.add_assoc]
theorem cd {w w':World} {b o:Nat} {cs:List Value} (h:w.rangeAt b o cs) (hb:b<w.heap.size) (hB:Below w.heap.size w w'):w'.rangeAt b o cs:=λj v hv=>(aS (w:=w) (w':=w') (a:=⟨b,o+j,none⟩) (hB.block b hb)).trans (h j v hv)
theorem info_st:(Tryz.prog.info? 42).map (λi=>(i.zero,i.size,i.bytes))=some (some (.agg #[(0:Int),(0:Int)]),2,16):=by kernel_rfl
theorem info_id:(Tryz.prog.info? 108).map (λi=>(i.zero,i.size,i.bytes))=some (some (.agg #[(0:Int),(0:Int),(0:Int)]),3,24):=by kernel_rfl
theorem oc_idL (x:Gid):∀u∈idL x,u.oneCell'=true:=fw (c:=(idL x).toArray) rfl
theorem info_dt:(Tryz.prog.info? 163).map (λi=>(i.zero,i.size,i.bytes))=some (some (.agg #[(0:Int),(0:Int),(0:Int),(0:Int),(0:Int)]),5,40):=by kernel_rfl
theorem info_plc:(Tryz.prog.info? 161).map (λi=>(i.zero,i.size,i.bytes))=some (some (.agg #[(0:Int),(0:Int),(0:Int),(0:Int),(0:Int),(0:Int),.string ⟨#[]⟩,false]),8,72):=by kernel_rfl
theorem info_told:(Tryz.prog.info? 228).map (λi=>(i.zero,i.size,i.bytes))=some (some (.agg #[(0:Int),(0:Int),(0:Int),(0:Int),(0:Int),(0:Int),(0:Int),(0:Int),(0:Int),.string ⟨#[]⟩,false]),11,96):=by kernel_rfl
theorem info_hd:(Tryz.prog.info? 224).map (λi=>(i.zero,i.size,i.bytes))=some (some (.agg #[(0:Int),(0:Int),(0:Int),(0:Int)]),4,32):=by kernel_rfl
theorem info_elt:(Tryz.prog.info? 169).map (λi=>(i.zero,i.size,i.bytes))=some (some (.agg #[(0:Int),(0:Int),(0:Int),(0:Int),(0:Int),(0:Int),.string ⟨#[]⟩]),7,64):=by kernel_rfl
theorem info_rn:(Tryz.prog.info? 238).map (λi=>(i.zero,i.size,i.bytes))=some (some (.agg #[(0:Int),(0:Int),(0:Int),(0:Int),(0:Int),(0:Int),.string ⟨#[]⟩]),7,64):=by kernel_rfl
theorem info_itm:(Tryz.prog.info? 110).map (λi=>(i.zero,i.size,i.bytes))=some (some (.agg #[(0:Int),(0:Int),(0:Int),.string ⟨#[]⟩,false,false]),6,48):=by kernel_rfl
def hdOf (p:Grp×GrX):Hd:=⟨p.1.s,p.1.u⟩
theorem heads_any (L:List (Grp×GrX)) (A:Option Addr) (c:Nat) (w:World) (hl:L.length<=100000) (hR:RowGr w A L):
  Calls Tryz.prog 108 #[.slice A L.length c] w λe w'=>∃A' c',e= .returned (.slice A' L.length c')∧w'.ownsRow w.heap.size 224 4 (.slice A' L.length c') L.length ((L.map hdOf).flatMap hdL)∧Below w.heap.size w w':=by
 obtain⟨i0,hi,U,V,X⟩:=bD info_hd;have HR:=hid hR;clear hR;go_enter Tryz.func108,Tryz.ntmps108;go_upto_region 3 with fail;go_loopw [3,4] (λo i wr=>∃(k:Nat) (A':Option Addr) (c':Nat),k<=L.length∧i= .int .i64 k∧o= .slice A' k c'∧Hid (wr.ownsRow w.heap.size 224 4 (.slice A' k c') k (((L.take k).map hdOf).flatMap hdL))∧Hid (Below w.heap.size w wr)) (λo i _=>L.length-(RowKit.intOf i).toNat)
 case atStart=>exact⟨0,none,0,aq _,rfl,rfl,hid (aF _ _ _ _),hid (ag _ _)⟩
 case round=>
  obtain⟨k,A',c',hk,rfl,rfl,R,g⟩:=hrel;by_cases M:k<L.length
  ·have i1:(0:Int)<=(k:Int):=by omega
   have i2:(k:Int)<(L.length:Int):=by omega
   obtain⟨l,m,rfl,N,q⟩:=HR.out.range M;have O:L.take (k+1)=L.take k++[L.getD k gp0]:=dF M gp0;generalize L.getD k gp0=p at *;obtain⟨⟨⟨t,r⟩,n,F,⟨d,f⟩,s⟩,⟨G,H,I,J⟩⟩:=p;have v:=hid (λW (hB:Below w.heap.size w W)=>show W.rangeAt l (m+k*7) [t,r,n,.slice G F.length H,d,f,.slice I s.length J] from cd q N hB);have a:=hid (v.out wr g.out);have Y:=hid O;have af:=g.out.size;clear q N O;go_upto_region 5 with fail;refine aR (S:=λw'=>w'.rangeAt l (m+k*7) [t,r,n,.slice G F.length H,d,f,.slice I s.length J]) (by kernel_rfl) ?_
   try(change wpAnyH _ _ _ _ _ _ _ _ (World.drew _))
   refine tk 0 (.slice A' k c') ((show wr.drew.rangeAt _ _ _ from a.out)) ?_;go_simp;refine tk 1 (.slice (some ⟨l,m,none⟩) L.length c) ((show wr.drew.rangeAt _ _ _ from a.out)) ?_;go_simp;refine tk 2 (.int .i64 (k:Int)) ((show wr.drew.rangeAt _ _ _ from a.out)) ?_;go_simp;refine tk 3 (.pointer (some ⟨l,m+k*7,none⟩)) ((show wr.drew.rangeAt _ _ _ from a.out)) ?_;go_simp;refine tk 4 (.pointer (some ⟨l,m+k*7,none⟩)) ((show wr.drew.rangeAt _ _ _ from a.out)) ?_;go_simp;refine tk2 5 (.agg #[t,r]) rfl (aT (by rfl) _ _ rfl l (m+k*7) rfl [t,r] _ (λW' B=>bv (pre:=[]) (mid:=[t,r]) (post:=[n,.slice G F.length H,d,f,.slice I s.length J]) (B)) cb rfl (by kernel_rfl)) ((show wr.drew.rangeAt _ _ _ from a.out)) ?_;go_simp;refine tk 6 (.slice (some ⟨l,m,none⟩) L.length c) ((show wr.drew.rangeAt _ _ _ from a.out)) ?_;go_simp;refine tk 7 (.int .i64 (k:Int)) ((show wr.drew.rangeAt _ _ _ from a.out)) ?_;go_simp;refine tk 8 (.pointer (some ⟨l,m+k*7,none⟩)) ((show wr.drew.rangeAt _ _ _ from a.out)) ?_;go_simp;refine tk 9 (.pointer (some ⟨l,m+k*7+4,none⟩)) ((show wr.drew.rangeAt _ _ _ from a.out)) ?_;go_simp;refine tk2 10 (.agg #[d,f]) rfl (aT (by rfl) _ _ rfl l (m+k*7+4) rfl [d,f] _ (λW' B=>bv (pre:=[t,r,n,.slice G F.length H]) (mid:=[d,f]) (post:=[.slice I s.length J]) (B)) cb rfl (by kernel_rfl)) ((show wr.drew.rangeAt _ _ _ from a.out)) ?_;go_simp
   refine tk 11 (.agg #[t,r,d,f]) ((show wr.drew.rangeAt _ _ _ from a.out)) ?_;go_simp;have C:(wr.alloc (.cells #[t,r,d,f] 224)).drew.heap.size=wr.heap.size+1:=by show(wr.alloc _).heap.size=_;simp
   have Z:=hid (R.out.alloc (.cells #[t,r,d,f] 224));have aa:=hid (λ(j:Nat) (y:Value) (h:([t,r,d,f]:List Value)[j]? =some y)=>dH wr [t,r,d,f] 224 j y h);have ab:=hid (show ∀u∈([t,r,d,f]:List Value),u.oneCell'=true from fw (c:=#[t,r,d,f]) rfl);have P:=hid ((g.out.alloc g.out.size (.cells #[t,r,d,f] 224)).drew);refine rd1 12 λK D=> ?_;go_simp;refine D.out _ _ (v.out _ P.out) (λ_=> ?_);clear D K;refine rd1 13 λK D=> ?_;refine dW _ (by rfl) _ _ 157 (by rfl) w.heap.size 224 i0 (.agg #[(0:Int),(0:Int),(0:Int),(0:Int)]) 4 32 Tryz.underlying157 hi U V X rfl (by decide) (.slice A' k c') k _ (by rfl) (by exact Z.out) ⟨wr.heap.size,0,none⟩ 1 1 [t,r,d,f] (by rfl) (by rfl) (by exact aa.out) ab.out (by decide) (by unfold maxLen;omega) (by omega) (by rw[C];have:=g.out.size;omega) (wr.heap.size+1) C ?_;intro gq Q w5 x z ac T;have ad:=hid x;have E:=hid (P.out.grown z (by rw[C];have:=g.out.size;omega) (λb hb=>(R.out.lt b hb).1));clear x z ac T;refine D.out _ _ (v.out _ E.out) (λ_=> ?_);clear D K;refine tk 14 (.slice (some ⟨gq,0,none⟩) (k+1) Q) (v.out _ E.out) ?_;go_simp;refine be (by kernel_rfl) ?_ _;go_simp;go_wp2;go_roundw
   case rel=>exact⟨k+1,some ⟨gq,0,none⟩,Q,by omega,by go_num,rfl,hid (by rw[Y.out,bq,aI];exact ad.out),E⟩
   case measure=>(simp[RowKit.intOf];omega)
  ·obtain rfl:k=L.length:=by omega
   have i2:¬(L.length:Int)<(L.length:Int):=by omega
   have ae:=hid (show wr.ownsRow w.heap.size 224 4 (.slice A' L.length c') L.length ((L.map hdOf).flatMap hdL) by have h9:=R.out;rw[aK] at h9;exact h9);go_wp2;go_ret;exact⟨A',c',rfl,ae.out,g.out⟩
end
end Go.Proofs.YtkhmicndehlneaaGreatDoor
