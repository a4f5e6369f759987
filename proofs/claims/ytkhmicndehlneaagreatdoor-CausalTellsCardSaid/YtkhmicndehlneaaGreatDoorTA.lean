/- Part 27 of the walks and plain laws that this claim uses, joined. Conditions: as each theorem states. -/
import Derived.Test.YtkhmicndehlneaaGreatDoorTy
namespace Go.Proofs.YtkhmicndehlneaaGreatDoor
set_option maxRecDepth 100000
set_option maxHeartbeats 16000000
section
set_option linter.unusedVariables false
theorem ahead_cons {v u:List Int} {g:Grp} {l:List Grp} (h:aheadV v (g::l)=some u):chkB g=true∧covB v g.deps=true∧atV v g.s.r=g.n-1∧aheadV (withV v g.s.r g.n) l=some u:=by
 unfold aheadV at h
 split at h
 ·rename_i c
  simp only[Bool.and_eq_true,decide_eq_true_eq] at c
  exact⟨c.1.1,c.1.2,c.2,h⟩
 ·cases h
theorem ahead_mono:∀(l:List Grp) {v u:List Int},aheadV v l=some u→∀r,atV v r≤atV u r
 | [],v,u,h,r=>by simp only[aheadV,Option.some.injEq] at h;rw[h];exact Int.le_refl _
 |g::l,v,u,h,r=>by
  obtain⟨h1,h2,h3,h4⟩:=ahead_cons h
  have hr:=(right_r (chk_right h1).1).1
  have:=ahead_mono l h4 r
  rw[atV_with _ _ _ _ hr] at this
  split at this
  ·rename_i e;subst e;omega
  ·exact this
theorem ahead_in:∀(l:List Grp) {v u:List Int},aheadV v l=some u→∀g∈l,atV v g.s.r<g.n∧g.n≤atV u g.s.r
 | [],v,u,h,g,hg=>by cases hg
 | x::l,v,u,h,g,hg=>by
  obtain⟨h1,h2,h3,h4⟩:=ahead_cons h
  have hr:=(right_r (chk_right h1).1).1
  rcases List.mem_cons.1 hg with rfl|hg
  ·refine⟨by omega,?_⟩
   have:=ahead_mono l h4 g.s.r
   rw[atV_with _ _ _ _ hr,if_pos rfl] at this
   exact this
  ·have:=ahead_in l h4 g hg
   rw[atV_with _ _ _ _ hr] at this
   refine⟨?_,this.2⟩
   have h5:=this.1
   split at h5
   ·rename_i e;rw[e];omega
   ·exact h5
theorem ahead_all:∀(l:List Grp) {v u:List Int},aheadV v l=some u→∀r n,atV v r<n→n≤atV u r→∃g∈l,g.s.r=r∧g.n=n
 | [],v,u,h,r,n,h1,h2=>by simp only[aheadV,Option.some.injEq] at h;subst h;omega
 | x ::l,v,u,h,r,n,h5,h6=>by
  obtain⟨h1,h2,h3,h4⟩:=ahead_cons h
  have hr:=(right_r (chk_right h1).1).1
  by_cases hx:x.s.r=r∧x.n=n
  ·exact⟨x,by simp,hx⟩
  ·have:atV (withV v x.s.r x.n) r<n:=by
    rw[atV_with _ _ _ _ hr]
    split
    ·rename_i e;subst e
     have:x.n≠n:=fun e2=>hx ⟨rfl,e2⟩
     omega
    ·exact h5
   obtain⟨g,hg,e⟩:=ahead_all l h4 r n this h6
   exact⟨g,by simp[hg],e⟩
theorem ahead_pair:∀(l:List Grp) {v u:List Int},aheadV v l=some u→l.Pairwise fun a b=>a.s.r=b.s.r→a.n<b.n
 | [],v,u,h=>List.Pairwise.nil
 |x::l,v,u,h=>by
  obtain⟨h1,h2,h3,h4⟩:=ahead_cons h
  have hr:=(right_r (chk_right h1).1).1
  refine List.Pairwise.cons (fun b hb e=> ?_) (ahead_pair l h4)
  have:=(ahead_in l h4 b hb).1
  rw[atV_with _ _ _ _ hr,if_pos e.symm] at this
  exact this
theorem pair_eq {l:List Grp} (h:l.Pairwise fun a b=>a.s.r=b.s.r→a.n<b.n) {x y:Grp} (hx:x∈l) (hy:y∈l) (hr:x.s.r=y.s.r) (hn:x.n=y.n):x=y:=by
 induction h with
 |nil=>cases hx
 | @cons a l h1 h2 ih=>
  rcases List.mem_cons.1 hx with rfl|hx'
  ·rcases List.mem_cons.1 hy with rfl|hy'
   ·rfl
   ·have:=h1 y hy' hr;omega
  ·rcases List.mem_cons.1 hy with rfl|hy'
   ·have:=h1 x hx' hr.symm;omega
   ·exact ih hx' hy'
theorem nodup_eq {l:List Grp} (h:(l.map (·.s)).Nodup) {x y:Grp} (hx:x∈l) (hy:y∈l) (e:x.s=y.s):x=y:=by
 induction l with
 |nil=>cases hx
 | cons a l ih=>
  rw[List.map_cons,List.nodup_cons] at h
  rcases List.mem_cons.1 hx with e1|hx'
  ·rcases List.mem_cons.1 hy with e2|hy'
   ·rw[e1,e2]
   ·exact absurd (List.mem_map.2 ⟨y,hy',by rw[←e,e1]⟩) h.1
  ·rcases List.mem_cons.1 hy with e2|hy'
   ·exact absurd (List.mem_map.2 ⟨x,hx',by rw[e,e2]⟩) h.1
   ·exact ih h.2 hx' hy'
structure HisG (gs:List Grp):Prop where
 chk:∀g∈gs,chkB g=true
 nd:(gs.map (·.s)).Nodup
 ah:∃V,aheadV [] gs=some V
theorem HisG.one {gs:List Grp} (h:HisG gs) {x y:Grp} (hx:x∈gs) (hy:y∈gs) (hr:x.s.r=y.s.r) (hn:x.n=y.n):x=y:=by
 obtain⟨V,hV⟩:=h.ah
 exact pair_eq (ahead_pair gs hV) hx hy hr hn
structure BxG (gs:List Grp) (b:Bx):Prop where
 ok:BxOk b
 sub:∀g∈b.done++b.wait,g∈gs
theorem atV_nil (r:Int):atV [] r=0:=by unfold atV;split<;>rfl
theorem BxG.old {gs:List Grp} {b:Bx} (h:BxG gs b) (hG:HisG gs) {g:Grp} (hg:g∈gs):oldB b.v g=true↔g∈b.done:=by
 unfold oldB
 rw[decide_eq_true_eq]
 constructor
 ·intro hn
  have h1:=(chk_right (hG.chk g hg)).2.1
  obtain⟨d,hd,e1,e2⟩:=ahead_all b.done h.ok.ahead g.s.r g.n (by rw[atV_nil];omega) hn
  rw[hG.one hg (h.sub d (by simp[hd])) e1.symm e2.symm]
  exact hd
 ·intro hd
  exact(ahead_in b.done h.ok.ahead g hd).2
theorem BxG.apart {gs:List Grp} {b:Bx} (h:BxG gs b) {x:Grp} (h1:x∈b.done) (h2:x∈b.wait):False:=by
 have:=h.ok.apart
 rw[List.map_append,List.nodup_append] at this
 exact this.2.2 _ (List.mem_map.2 ⟨x,h1,rfl⟩) _ (List.mem_map.2 ⟨x,h2,rfl⟩) rfl
theorem BxG.known {gs:List Grp} {b:Bx} (h:BxG gs b) (hG:HisG gs) {g:Grp} (hg:g∈gs):knownB b g=true↔g∈b.done++b.wait:=by
 unfold knownB
 rw[Bool.or_eq_true,Bool.or_eq_true,h.old hG hg,List.any_eq_true,List.any_eq_true,List.mem_append]
 constructor
 ·rintro((⟨d,hd,e⟩|h1)|⟨a,ha,e⟩)
  ·rw[Gst.eqb_iff] at e
   rw[nodup_eq hG.nd hg (h.sub d (by simp[hd])) e.symm]
   exact .inl hd
  ·exact .inl h1
  ·refine .inr ?_
   unfold clashB at e
   rw[Bool.or_eq_true,Bool.and_eq_true,decide_eq_true_eq,decide_eq_true_eq,Gst.eqb_iff] at e
   have ha2:=h.sub a (by simp[ha])
   rcases e with⟨e1,e2⟩|e
   ·rw[hG.one hg ha2 e1.symm e2.symm];exact ha
   ·rw[nodup_eq hG.nd hg ha2 e.symm];exact ha
 ·rintro(h1|h1)
  ·exact .inl (.inr h1)
  ·refine .inr ⟨g,h1,?_⟩
   unfold clashB
   simp
def drained (b:Bx):Prop:=∀g∈b.wait,readyB b.v g=false
theorem mem_split_erase {l:List Grp} {k:Nat} (hk:k<l.length):(l.getD k gz::l.eraseIdx k).Perm l:=by
 have e:l.getD k gz=l[k]:=by simp[List.getD_eq_getElem?_getD,hk]
 rw[e]
 have h1:l.eraseIdx k=l.take k++l.drop (k+1):=by rw[List.eraseIdx_eq_take_drop_succ]
 rw[h1]
 have h2:l=l.take k++l[k]::l.drop (k+1):=by
  rw[List.getElem_cons_drop,List.take_append_drop]
 conv=>rhs;rw[h2]
 exact List.perm_middle.symm
theorem drainF_all {gs:List Grp} (hG:HisG gs):∀(f:Nat) (b:Bx),BxG gs b→b.wait.length≤f→BxG gs (drainF f b).1∧drained (drainF f b).1∧((drainF f b).1.done++(drainF f b).1.wait).Perm (b.done++b.wait)∧∃t,(drainF f b).1.done=b.done++t∧t.length=(drainF f b).2
 |0,b,h,hf=>by
  have hw:b.wait=[]:=List.eq_nil_of_length_eq_zero (by omega)
  refine⟨h,fun g hg=> ?_,List.Perm.refl _,[],by simp[drainF],rfl⟩
  have hg:g∈b.wait:=hg
  rw[hw] at hg;cases hg
 | f+1,b,h,hf=>by
  cases hb:bestN b.v b.wait b.wait.length with
  |none=>
   rw[drainF_none hb]
   refine⟨h,fun g hg=> ?_,List.Perm.refl _,[],by simp,rfl⟩
   obtain⟨k,hk,e⟩:=List.mem_iff_getElem.1 hg
   have:=bestN_none hb k hk
   rwa[show b.wait.getD k gz=g by rw[List.getD_eq_getElem?_getD,List.getElem?_eq_getElem hk,←e];rfl] at this
  | some k=>
   obtain⟨hk,hr⟩:=bestN_lt hb
   have hm:=getD_mem hk
   have hgs:b.wait.getD k gz∈gs:=h.sub _ (List.mem_append.2 (.inr hm))
   have ho:oldB b.v (b.wait.getD k gz)=false:=by
    cases e:oldB b.v (b.wait.getD k gz) with
    |false=>rfl
    |true=>exact(h.apart ((h.old hG hgs).1 e) hm).elim
   rw[drainF_put hb ho]
   have hper:((Bx.put ⟨b.done,b.wait.eraseIdx k,b.v⟩ (b.wait.getD k gz)).done++(Bx.put ⟨b.done,b.wait.eraseIdx k,b.v⟩ (b.wait.getD k gz)).wait).Perm (b.done++b.wait):=by
    show(b.done++[b.wait.getD k gz]++b.wait.eraseIdx k).Perm _
    rw[List.append_assoc]
    exact(mem_split_erase hk).append_left _
   have hok:BxG gs (Bx.put ⟨b.done,b.wait.eraseIdx k,b.v⟩ (b.wait.getD k gz)):=by
    refine⟨(h.ok.drop k).put (hG.chk _ hgs) hr ho fun x hx=> ?_,fun g hg=>h.sub g (hper.mem_iff.1 hg)⟩
    have hn:=h.ok.apart
    rw[List.map_append,List.nodup_append] at hn
    rcases List.mem_append.1 hx with hx|hx
    ·exact fun e=>hn.2.2 _ (List.mem_map.2 ⟨x,hx,rfl⟩) _ (List.mem_map.2 ⟨_,hm,rfl⟩) e
    ·exact erase_ne hk hn.2.1 x hx
   have hlen:(b.wait.eraseIdx k).length≤f:=by rw[List.length_eraseIdx_of_lt hk];omega
   obtain⟨i1,i2,i3,t,i4,i5⟩:=drainF_all hG f _ hok hlen
   refine⟨i1,i2,i3.trans hper,b.wait.getD k gz::t,?_,by simp[i5]⟩
   rw[i4]
   show b.done++[b.wait.getD k gz]++t=_
   simp
structure BxH (gs:List Grp) (b:Bx):Prop extends BxG gs b where
 dr:drained b
theorem BxH.new (gs:List Grp):BxH gs Bx.new:=⟨⟨BxOk.new,fun g hg=>(by cases hg)⟩,fun g hg=>(by cases hg)⟩
theorem nodup_sub {α:Type}:∀(l:List α) {gs:List α},l.Nodup→(∀g∈l,g∈gs)→l.length≤gs.length
 | [],gs,_,_=>Nat.zero_le _
 | a::l,gs,hn,hs=>by
  rw[List.nodup_cons] at hn
  obtain⟨s,t,rfl⟩:=List.append_of_mem (hs a (by simp))
  have:=nodup_sub l (gs:=s++t) hn.2 fun g hg=>by
   have h1:=hs g (by simp[hg])
   simp only[List.mem_append,List.mem_cons] at h1 ⊢
   rcases h1 with h1|rfl|h1
   ·exact .inl h1
   ·exact absurd hg hn.1
   ·exact .inr h1
  simp only[List.length_append,List.length_cons] at this ⊢
  omega
theorem nodup_len {gs l:List Grp} (hl:(l.map (·.s)).Nodup) (hs:∀g∈l,g∈gs):l.length≤gs.length:=
 nodup_sub l (List.Pairwise.of_map (·.s) (fun a b h e=>h (by rw[e])) hl) hs
theorem BxG.len {gs:List Grp} {b:Bx} (h:BxG gs b):b.done.length+b.wait.length≤gs.length:=by
 rw[←List.length_append];exact nodup_len h.ok.apart h.sub
structure Heard1 (gs:List Grp) (b:Bx) (g:Grp):Prop where
 inv:BxH gs (hearB b g).1
 err:(hearB b g).2.2=0∨((hearB b g).2.2=210∧(hearB b g).1=b∧(hearB b g).2.1=0∧g∈b.done++b.wait)
 has:g∈(hearB b g).1.done++(hearB b g).1.wait
 keep:∀x∈b.done++b.wait,x∈(hearB b g).1.done++(hearB b g).1.wait
 pre:∃t,(hearB b g).1.done=b.done++t∧t.length=(hearB b g).2.1
 rdy:readyB b.v g=true→g∈(hearB b g).1.done∧((hearB b g).2.2=0→1≤(hearB b g).2.1)
 once:b.wait=[]→readyB b.v g=true→g∉ b.done→hearB b g=(b.put g,1,0)
theorem BxH.hear {gs:List Grp} {b:Bx} (h:BxH gs b) (hG:HisG gs) (hl:gs.length≤99) {g:Grp} (hg:g∈gs):Heard1 gs b g:=by
 have hc:=hG.chk g hg
 have hk:=h.toBxG.known hG hg
 by_cases hkn:g∈b.done++b.wait
 ·have e:hearB b g=(b,0,210):=by unfold hearB;rw[if_neg (by simp[hc]),if_pos (hk.2 hkn)]
  refine⟨by rw[e];exact h,.inr ⟨by rw[e],by rw[e],by rw[e],hkn⟩,by rw[e];exact hkn,fun x hx=>by rw[e];exact hx,⟨[],by rw[e];simp,by rw[e];rfl⟩,fun hr=>⟨?_,fun h0=>by rw[e] at h0;cases h0⟩,fun hw hr hn=> ?_⟩
  ·rw[e]
   rcases List.mem_append.1 hkn with h1|h1
   ·exact h1
   ·rw[h.dr g h1] at hr;cases hr
  ·rw[hw,List.append_nil] at hkn;exact absurd hkn hn
 ·have hnk:knownB b g=false:=by
   cases e:knownB b g with
   |false=>rfl
   |true=>exact absurd (hk.1 e) hkn
  obtain⟨ho,hs⟩:=not_known hnk
  by_cases hr:readyB b.v g=true
  ·have e:hearB b g=((drainF b.wait.length (b.put g)).1,(drainF b.wait.length (b.put g)).2+1,0):=by unfold hearB;rw[if_neg (by simp[hc]),if_neg (by simp[hnk]),if_pos hr]
   have hp:BxG gs (b.put g):=⟨h.ok.put hc hr ho hs,fun x hx=>by
    simp only[Bx.put,List.mem_append,List.mem_singleton] at hx
    rcases hx with(h1|rfl)|h1
    ·exact h.sub x (by simp[h1])
    ·exact hg
    ·exact h.sub x (by simp[h1])⟩
   obtain⟨i1,i2,i3,t,i4,i5⟩:=drainF_all hG b.wait.length (b.put g) hp (Nat.le_refl _)
   have hin:∀x,x=g∨x∈b.done++b.wait→x∈(drainF b.wait.length (b.put g)).1.done++(drainF b.wait.length (b.put g)).1.wait:=fun x hx=>i3.mem_iff.2 (by
    simp only[Bx.put,List.mem_append,List.mem_singleton] at hx ⊢
    rcases hx with h1|h1|h1
    ·exact .inl (.inr h1)
    ·exact .inl (.inl h1)
    ·exact .inr h1)
   refine⟨by rw[e];exact⟨i1,i2⟩,.inl (by rw[e]),by rw[e];exact hin g (.inl rfl),fun x hx=>by rw[e];exact hin x (.inr hx),⟨g::t,by rw[e];simp only[i4];simp[Bx.put],by rw[e];simp[i5]⟩,fun _=>⟨?_,fun _=>by rw[e];exact Nat.le_add_left _ _⟩,fun hw _ _=> ?_⟩
   ·rw[e];simp only[i4];simp[Bx.put]
   ·rw[e,hw];rfl
  ·have hlen:=h.toBxG.len
   have e:hearB b g=(⟨b.done,b.wait++[g],b.v⟩,0,0):=by unfold hearB;rw[if_neg (by simp[hc]),if_neg (by simp[hnk]),if_neg hr,if_neg (by omega)]
   refine⟨?_,.inl (by rw[e]),by rw[e];simp,fun x hx=> ?_,⟨[],by rw[e];simp,by rw[e];rfl⟩,fun h1=>absurd h1 hr,fun _ h1=>absurd h1 hr⟩
   ·refine⟨⟨hearB_ok h.ok g,fun x hx=> ?_⟩,?_⟩
    ·rcases hearB_mem b g x hx with h1|rfl
     ·exact h.sub x h1
     ·exact hg
    ·rw[e]
     intro x hx
     have hx:x∈b.wait++[g]:=hx
     rcases List.mem_append.1 hx with h1|h1
     ·exact h.dr x h1
     ·rw[List.mem_singleton] at h1;subst h1;simpa using hr
   ·rw[e]
    show x∈b.done++(b.wait++[g])
    rw[←List.append_assoc];exact List.mem_append.2 (.inl hx)
def hearsB (b:Bx) (l:List Grp):Bx:=l.foldl (fun b g=>(hearB b g).1) b
theorem hearsB_snoc (b:Bx) (l:List Grp) (g:Grp):hearsB b (l++[g])=(hearB (hearsB b l) g).1:=by unfold hearsB;rw[List.foldl_append];rfl
theorem hearsB_cons (b:Bx) (g:Grp) (l:List Grp):hearsB b (g::l)=hearsB (hearB b g).1 l:=rfl
def sumB (b:Bx):List Grp→Nat
 | []=>0
 |g::l=>(hearB b g).2.1+sumB (hearB b g).1 l
theorem BxH.hears {gs:List Grp} (hG:HisG gs) (hl:gs.length≤99):∀(l:List Grp) {b:Bx},BxH gs b→(∀g∈l,g∈gs)→BxH gs (hearsB b l)∧(∀x,x∈l∨x∈b.done++b.wait→x∈(hearsB b l).done++(hearsB b l).wait)∧∃t,(hearsB b l).done=b.done++t∧t.length=sumB b l
 | [],b,h,hs=>⟨h,fun x hx=>hx.elim (fun h=>by cases h) id,[],by simp[hearsB],rfl⟩
 | g::l,b,h,hs=>by
  have h1:=h.hear hG hl (hs g (by simp))
  obtain⟨i1,i2,t,i3,i4⟩:=BxH.hears hG hl l h1.inv fun x hx=>hs x (by simp[hx])
  obtain⟨t1,j1,j2⟩:=h1.pre
  rw[hearsB_cons]
  refine⟨i1,fun x hx=>i2 x ?_,t1++t,by rw[i3,j1];simp,by simp[sumB,j2,i4]⟩
  rcases hx with hx|hx
  ·rcases List.mem_cons.1 hx with rfl|hx
   ·exact .inr h1.has
   ·exact .inl hx
  ·exact .inr (h1.keep x hx)
theorem ready_pre {gs pre post:List Grp} {g:Grp} (hG:HisG gs) (e:gs=pre++g::post) {b:Bx} (h:BxG gs b) (hp:∀x∈pre,x∈b.done):readyB b.v g=true:=by
 obtain⟨V,hV⟩:=hG.ah
 rw[e,aheadV_append] at hV
 cases hu:aheadV [] pre with
 |none=>rw[hu] at hV;cases hV
 | some u=>
  rw[hu] at hV
  obtain⟨-,h2,-,-⟩:=ahead_cons (show aheadV u (g::post)=some V from hV)
  unfold readyB
  rw[covB_iff] at h2 ⊢
  intro k
  refine Int.le_trans (h2 k) ?_
  have e1:u.getD k 0=atV u (k+1):=by rw[atV_nat (by omega)];congr 1;omega
  have e2:b.v.getD k 0=atV b.v (k+1):=by rw[atV_nat (by omega)];congr 1;omega
  rw[e1,e2]
  by_cases h0:0<atV u (k+1)
  ·obtain⟨p,hp1,hp2,hp3⟩:=ahead_all pre hu (k+1) (atV u (k+1)) (by rw[atV_nil];exact h0) (Int.le_refl _)
   have:=(ahead_in b.done h.ok.ahead p (hp p hp1)).2
   rw[hp2,hp3] at this
   exact this
  ·have:=ahead_mono b.done h.ok.ahead (k+1)
   rw[atV_nil] at this
   omega
theorem wait_none {gs:List Grp} {b:Bx} (h:BxG gs b) (ha:∀g∈gs,g∈b.done):b.wait=[]:=by
 cases hw:b.wait with
 |nil=>rfl
 |cons x l=>
  have hx:x∈b.wait:=by rw[hw];simp
  exact(h.apart (ha x (h.sub x (by simp[hx]))) hx).elim
theorem nodup_of {l:List Grp} (h:(l.map (·.s)).Nodup):l.Nodup:=List.Pairwise.of_map (·.s) (fun a b h e=>h (by rw[e])) h
theorem plain_ahead:∀(l:List Grp) {v u:List Int},plainV v=v→aheadV v l=some u→plainV u=u
 | [],v,u,hv,h=>by simp only[aheadV,Option.some.injEq] at h;rw[←h];exact hv
 |g::l,v,u,hv,h=>plain_ahead l (withV_plain _ _ _) (ahead_cons h).2.2.2
theorem vec_same {gs:List Grp} (hG:HisG gs) {a b:Bx} (ha:BxG gs a) (hb:BxG gs b) (h1:∀g∈gs,g∈a.done) (h2:∀g∈gs,g∈b.done):a.v=b.v:=by
 refine pv_ext (plain_ahead _ rfl ha.ok.ahead) (plain_ahead _ rfl hb.ok.ahead) fun k=> ?_
 have le:∀{x y:Bx},BxG gs x→BxG gs y→(∀g∈gs,g∈y.done)→x.v.getD k 0≤y.v.getD k 0:=by
  intro x y hx hy h2
  have e1:x.v.getD k 0=atV x.v (k+1):=by rw[atV_nat (by omega)];congr 1;omega
  have e2:y.v.getD k 0=atV y.v (k+1):=by rw[atV_nat (by omega)];congr 1;omega
  rw[e1,e2]
  by_cases h0:0<atV x.v (k+1)
  ·obtain⟨p,hp1,hp2,hp3⟩:=ahead_all x.done hx.ok.ahead (k+1) (atV x.v (k+1)) (by rw[atV_nil];exact h0) (Int.le_refl _)
   have:=(ahead_in y.done hy.ok.ahead p (h2 p (hx.sub p (by simp[hp1])))).2
   rw[hp2,hp3] at this
   exact this
  ·have:=ahead_mono y.done hy.ok.ahead (k+1)
   rw[atV_nil] at this
   omega
 exact Int.le_antisymm (le ha hb h2) (le hb ha h1)
theorem told_pre {gs:List Grp} (hG:HisG gs) (hl:gs.length≤99) {b:Bx} (h:BxH gs b):∀(n:Nat) (pre post:List Grp),pre.length=n→gs=pre++post→BxH gs (hearsB b (pre.filter fun g=> !oldB b.v g))∧∀x∈pre,x∈(hearsB b (pre.filter fun g=> !oldB b.v g)).done:=by
 intro n
 induction n with
 |zero=>intro pre post hq e;rw[List.eq_nil_of_length_eq_zero hq];exact⟨h,fun x hx=>(by cases hx)⟩
 | succ n ih=>
  intro pre post hq e
  obtain⟨q,y,rfl⟩:∃q y,pre=q++[y]:=by
   rcases List.eq_nil_or_concat pre with rfl|⟨q,y,rfl⟩
   ·cases hq
   ·exact⟨q,y,by simp⟩
  have hqn:q.length=n:=by simpa using hq
  have e2:gs=q++(y::post):=by rw[e];simp
  obtain⟨i1,i2⟩:=ih q (y::post) hqn e2
  have hy:y∈gs:=by rw[e2];simp
  rw[List.filter_append]
  by_cases ho:oldB b.v y=true
  ·rw[show[y].filter (fun g=> !oldB b.v g)=[] by simp[ho],List.append_nil]
   refine⟨i1,fun x hx=> ?_⟩
   rcases List.mem_append.1 hx with h1|h1
   ·exact i2 x h1
   ·rw[List.mem_singleton] at h1;subst h1
    obtain⟨-,-,t,e3,-⟩:=BxH.hears hG hl (q.filter fun g=> !oldB b.v g) h fun g hg=>by rw[e2];exact List.mem_append.2 (.inl (List.mem_filter.1 hg).1)
    rw[e3]
    exact List.mem_append.2 (.inl ((h.toBxG.old hG hy).1 ho))
  ·rw[show[y].filter (fun g=> !oldB b.v g)=[y] by simp[ho],hearsB_snoc]
   have h1:=i1.hear hG hl hy
   refine⟨h1.inv,fun x hx=> ?_⟩
   rcases List.mem_append.1 hx with h2|h2
   ·obtain⟨t,e3,-⟩:=h1.pre
    rw[e3];exact List.mem_append.2 (.inl (i2 x h2))
   ·rw[List.mem_singleton] at h2;subst h2
    exact(h1.rdy (ready_pre hG e2 i1.toBxG i2)).1
theorem hears_order {gs:List Grp} (hG:HisG gs) (hl:gs.length≤99):∀(n:Nat) (pre post:List Grp),pre.length=n→gs=pre++post→BxH gs (hearsB Bx.new pre)∧(hearsB Bx.new pre).done=pre∧(hearsB Bx.new pre).wait=[]:=by
 intro n
 induction n with
 |zero=>intro pre post hq e;rw[List.eq_nil_of_length_eq_zero hq];exact⟨BxH.new gs,rfl,rfl⟩
 | succ n ih=>
  intro pre post hq e
  obtain⟨q,y,rfl⟩:∃q y,pre=q++[y]:=by
   rcases List.eq_nil_or_concat pre with rfl|⟨q,y,rfl⟩
   ·cases hq
   ·exact⟨q,y,by simp⟩
  have hqn:q.length=n:=by simpa using hq
  have e2:gs=q++(y::post):=by rw[e];simp
  obtain⟨i1,i2,i3⟩:=ih q (y::post) hqn e2
  have hy:y∈gs:=by rw[e2];simp
  have h1:=i1.hear hG hl hy
  have hnd:y∉ q:=fun hm=>by
   have:=nodup_of hG.nd
   rw[e2,List.nodup_append] at this
   exact this.2.2 y hm y (by simp) rfl
  have:=h1.once i3 (ready_pre hG e2 i1.toBxG (fun x hx=>by rw[i2];exact hx)) (by rw[i2];exact hnd)
  rw[hearsB_snoc]
  refine⟨h1.inv,?_,?_⟩
  ·rw[this];show(hearsB Bx.new q).done++[y]=_;rw[i2]
  ·rw[this];exact i3
theorem filter_split {α:Type} (p:α→Bool) (z:α):∀(l:List α) (i:Nat),i<(l.filter p).length→∃pre post,l=pre++(l.filter p).getD i z::post∧(l.filter p).take i=pre.filter p∧p ((l.filter p).getD i z)=true
 | [],i,h=>absurd h (Nat.not_lt_zero i)
 | a ::l,i,h=>by
  by_cases ha:p a=true
  ·rw[List.filter_cons_of_pos ha] at h ⊢
   cases i with
   |zero=>exact⟨[],l,rfl,rfl,ha⟩
   | succ i=>
    obtain⟨pre,post,e1,e2,e3⟩:=filter_split p z l i (by simpa using h)
    refine⟨a::pre,post,?_,?_,?_⟩
    ·show a::l=a::(pre++(l.filter p).getD i z::post)
     rw[←e1]
    ·rw[List.filter_cons_of_pos ha,←e2];rfl
    ·exact e3
  ·rw[List.filter_cons_of_neg ha] at h ⊢
   obtain⟨pre,post,e1,e2,e3⟩:=filter_split p z l i h
   refine⟨a::pre,post,?_,?_,e3⟩
   ·show a::l=a::(pre++(l.filter p).getD i z::post)
    rw[←e1]
   ·rw[List.filter_cons_of_neg ha,←e2]
theorem told_step {gs:List Grp} (hG:HisG gs) (hl:gs.length≤99) {b:Bx} (h:BxH gs b) {pre post:List Grp} {y:Grp} (e:gs=pre++y::post):
  BxH gs (hearsB b (pre.filter fun g=> !oldB b.v g))∧readyB (hearsB b (pre.filter fun g=> !oldB b.v g)).v y=true:=by
 obtain⟨i1,i2⟩:=told_pre hG hl h pre.length pre (y::post) rfl e
 exact⟨i1,ready_pre hG e i1.toBxG i2⟩
end
section
open Go.RowKit Go.Lib Go.Sort
set_option linter.unusedVariables false
structure Vok (V v:List Int):Prop where
 pl:plainV v=v
 len:v.length≤3
 le:∀r,0≤atV v r∧atV v r≤atV V r
structure HOk (n:Nat) (gs:List (Grp×GrX)) (kn:List (List Int)) (V:List Int):Prop where
 chk:∀p∈gs,chkB p.1=true
 nd:(gs.map (·.1.s)).Nodup
 ah:aheadV [] (gs.map Prod.fst)=some V
 len:gs.length≤n
 one:∀p∈gs,p.1.ops.length≤1
 sml:∀p∈gs,∀o∈p.1.ops,o.dots.length≤16∧o.elems.length≤3∧o.text.size≤2∧o.name.size≤1
 r3:∀p∈gs,p.1.s.r≤3∧p.1.deps.length≤3∧p.1.s.t≤n∧p.1.n≤n
 vn:∀r,atV V r≤n
 kl:kn.length=3
 kv:∀i,i<3→Vok V (kn.getD i [])
 ko:∀i:Nat,i<3→atV (kn.getD i []) ((i:Int)+1)=atV V ((i:Int)+1)
theorem atV_getD {v:List Int} {k:Nat}:atV v ((k:Int)+1)=v.getD k 0:=by rw[atV_nat (by omega)];congr 1;omega
theorem HOk.new:HOk 0 [] [[],[],[]] []:=by
 refine⟨fun p h=>(by cases h),List.nodup_nil,rfl,Nat.le_refl _,fun p h=>(by cases h),fun p h=>(by cases h),fun p h=>(by cases h),fun r=>by rw[atV_nil];exact Int.le_refl _,rfl,fun i hi=> ?_,fun i hi=> ?_⟩
 ·have e:([[],[],[]]:List (List Int)).getD i []=[]:=by rcases(show i=0∨i=1∨i=2 by omega) with rfl|rfl|rfl<;>rfl
  rw[e]
  exact⟨rfl,Nat.zero_le _,fun r=>by rw[atV_nil];exact⟨Int.le_refl _,Int.le_refl _⟩⟩
 ·have e:([[],[],[]]:List (List Int)).getD i []=[]:=by rcases(show i=0∨i=1∨i=2 by omega) with rfl|rfl|rfl<;>rfl
  rw[e]
theorem Vok.merge {V v u:List Int} (hv:Vok V v) (hu:Vok V u):Vok V (mergeV v u):=by
 refine⟨pv_pv _,by have:=mergeV_len v u;have:=hv.len;have:=hu.len;omega,fun r=> ?_⟩
 have e:atV (mergeV v u) r=max (atV v r) (atV u r):=by
  unfold atV
  split
  ·rfl
  ·exact mergeV_getD _ _ _
 have h1:=hv.le r
 have h2:=hu.le r
 rw[e];omega
theorem Vok.merge_at {V v u:List Int} (hv:Vok V v) (hu:Vok V u) {r:Int} (h:atV v r=atV V r):atV (mergeV v u) r=atV V r:=by
 have e:atV (mergeV v u) r=max (atV v r) (atV u r):=by
  unfold atV
  split
  ·rfl
  ·exact mergeV_getD _ _ _
 have h2:=hu.le r
 rw[e];omega
theorem latT_ge (L:List (Grp×GrX)):0≤latT L∧∀p∈L,p.1.s.t≤latT L:=by
 have:∀(L:List (Grp×GrX)) (t:Int),t≤L.foldl (fun t p=>max t p.1.s.t) t∧∀p∈L,p.1.s.t≤L.foldl (fun t p=>max t p.1.s.t) t:=by
  intro L
  induction L with
  |nil=>exact fun t=>⟨Int.le_refl _,fun p h=>(by cases h)⟩
  |cons q L ih=>
   intro t
   obtain⟨h1,h2⟩:=ih (max t q.1.s.t)
   rw[List.foldl_cons]
   refine⟨by omega,fun p hp=> ?_⟩
   rcases List.mem_cons.1 hp with rfl|hp
   ·omega
   ·exact h2 p hp
 exact this L 0
theorem latT_le {L:List (Grp×GrX)} {m:Int} (h0:0≤m) (h:∀p∈L,p.1.s.t≤m):latT L≤m:=by
 have:∀(L:List (Grp×GrX)) (t:Int),t≤m→(∀p∈L,p.1.s.t≤m)→L.foldl (fun t p=>max t p.1.s.t) t≤m:=by
  intro L
  induction L with
  |nil=>exact fun t ht _=>ht
  |cons q L ih=>
   intro t ht h
   rw[List.foldl_cons]
   exact ih _ (by have:=h q (by simp);omega) fun p hp=>h p (by simp[hp])
 exact this L 0 h0 h
def nextS16 (L:List (Grp×GrX)) (i:Nat):Gst:=⟨latT L+1,(i:Int)+1⟩
theorem HOk.known {n:Nat} {gs:List (Grp×GrX)} {kn:List (List Int)} {V v:List Int} (h:HOk n gs kn V) (hn:n<16) {i:Nat} (hi:i<3):KnG (knownL v gs) (nextS16 (knownL v gs) i):=by
 have hm:∀p∈knownL v gs,p∈gs:=fun p hp=>knownL_mem hp
 obtain⟨l0,l1⟩:=latT_ge (knownL v gs)
 have l2:=latT_le (L:=knownL v gs) (m:=(n:Int)) (by omega) fun p hp=>(h.r3 p (hm p hp)).2.2.1
 refine⟨fun p hp=>h.chk p (hm p hp),?_,fun p hp=> ?_,?_,?_,fun p hp=>h.one p (hm p hp),fun p hp o ho=> ?_⟩
 ·exact((List.filter_sublist (l:=gs)).map _).nodup h.nd
 ·have:=l1 p hp
  unfold nextS16 Gst.lt
  simp only[Bool.or_eq_true,decide_eq_true_eq]
  left;omega
 ·unfold nextS16 Gst.right
  simp only[Bool.and_eq_true,decide_eq_true_eq]
  omega
 ·have:=knownL_len v gs;have:=h.len;omega
 ·have:=h.sml p (hm p hp) o ho;exact⟨this.1,this.2.2.1⟩
structure NextG (L:List (Grp×GrX)) (s:Gst) (u:Gst) (ops:List Gop):Prop where
 how:(u= .zero∧∃o,ops=[o]∧OpOk s o)∨(ops=[]∧∃p∈L,u=p.1.s)
theorem next_chk {n:Nat} {gs:List (Grp×GrX)} {kn:List (List Int)} {V v:List Int} (h:HOk n gs kn V) (hn:n<16) {i:Nat} (hi:i<3) (hv:Vok V v) {u:Gst} {ops:List Gop} (hN:NextG (knownL v gs) (nextS16 (knownL v gs) i) u ops):
  chkB ⟨nextS16 (knownL v gs) i,atV v ((i:Int)+1)+1,v,u,ops⟩=true:=by
 have hk:=h.known (v:=v) hn hi
 have h1:=hv.le ((i:Int)+1)
 have h2:=h.vn ((i:Int)+1)
 unfold chkB
 rw[Bool.and_eq_true]
 constructor
 ·unfold headB vecB
  simp only[Bool.and_eq_true,decide_eq_true_eq,List.all_eq_true]
  refine⟨⟨⟨⟨hk.sr,by omega⟩,by omega⟩,⟨⟨fun x hx=> ?_,by have:=hv.len;omega⟩,by rw[hv.pl]⟩⟩,?_⟩
  ·obtain⟨k,hk,rfl⟩:=List.mem_iff_getElem.1 hx
   have:=(hv.le ((k:Int)+1)).1
   rw[atV_getD,List.getD_eq_getElem?_getD,List.getElem?_eq_getElem hk] at this
   exact this
  ·show atV v ((i:Int)+1)=_
   omega
 ·rcases hN.how with⟨rfl,o,rfl,ho⟩|⟨rfl,p,hp,rfl⟩
  ·rw[if_pos (by rfl)]
   simp[opsB,ho.ok]
  ·have hr:=(chk_right (hk.chk p hp)).1
   rw[if_neg (by
    intro e
    rw[Gst.eqb_iff] at e
    have e:p.1.s= .zero:=e
    rw[e] at hr
    cases hr)]
   simp only[Bool.and_eq_true,decide_eq_true_eq]
   exact⟨⟨hr,hk.lt p hp⟩,rfl⟩
theorem HOk.next {n:Nat} {gs:List (Grp×GrX)} {kn:List (List Int)} {V v:List Int} (h:HOk n gs kn V) (hn:n<16) {i:Nat} (hi:i<3) (hv:Vok V v) (hvo:atV v ((i:Int)+1)=atV V ((i:Int)+1)) {u:Gst} {ops:List Gop} (hN:NextG (knownL v gs) (nextS16 (knownL v gs) i) u ops) (x:GrX):
  HOk (n+1) (gs++[(⟨nextS16 (knownL v gs) i,atV v ((i:Int)+1)+1,v,u,ops⟩,x)]) (kn.set i (withV v ((i:Int)+1) (atV v ((i:Int)+1)+1))) (withV V ((i:Int)+1) (atV v ((i:Int)+1)+1)):=by
 have hck:=next_chk h hn hi hv hN
 have hk:=h.known (v:=v) hn hi
 obtain⟨l0,l1⟩:=latT_ge (knownL v gs)
 have l2:=latT_le (L:=knownL v gs) (m:=(n:Int)) (by omega) fun p hp=>(h.r3 p (knownL_mem hp)).2.2.1
 have h1:=hv.le ((i:Int)+1)
 have h2:=h.vn ((i:Int)+1)
 have hr1:(1:Int)≤(i:Int)+1:=by omega
 have hsub:∀{P:Grp×GrX→Prop},(∀p∈gs,P p)→P (⟨nextS16 (knownL v gs) i,atV v ((i:Int)+1)+1,v,u,ops⟩,x)→∀p∈gs++[(⟨nextS16 (knownL v gs) i,atV v ((i:Int)+1)+1,v,u,ops⟩,x)],P p:=by
  intro P a b p hp
  rcases List.mem_append.1 hp with hp|hp
  ·exact a p hp
  ·rw[List.mem_singleton] at hp;subst hp;exact b
 refine⟨hsub h.chk hck,?_,?_,by rw[List.length_append];have:=h.len;simp;omega,hsub h.one ?_,hsub h.sml ?_,hsub (fun p hp=> ?_) ?_,fun r=> ?_,by rw[List.length_set];exact h.kl,fun j hj=> ?_,fun j hj=> ?_⟩
 ·rw[List.map_append,List.nodup_append]
  refine⟨h.nd,by simp,fun a ha b hb e=> ?_⟩
  simp only[List.map_cons,List.map_nil,List.mem_singleton] at hb
  subst hb
  obtain⟨p,hp,rfl⟩:=List.mem_map.1 ha
  have h3:=(ahead_in _ h.ah p.1 (List.mem_map.2 ⟨p,hp,rfl⟩)).2
  have e1:p.1.s.r=(i:Int)+1:=by have e:p.1.s=nextS16 (knownL v gs) i:=e;rw[e];rfl
  have e2:p.1.s.t=latT (knownL v gs)+1:=by have e:p.1.s=nextS16 (knownL v gs) i:=e;rw[e];rfl
  have hin:p∈knownL v gs:=by
   unfold knownL
   rw[List.mem_filter]
   refine⟨hp,?_⟩
   unfold oldB
   rw[decide_eq_true_eq,e1,hvo,←e1]
   exact h3
  have:=l1 p hin
  omega
 ·rw[List.map_append]
  have:=aheadV_snoc h.ah hck (covB_iff.2 fun k=>by have:=(hv.le ((k:Int)+1)).2;rwa[atV_getD,atV_getD] at this) (by show atV V ((i:Int)+1)=_;rw[←hvo];show _=atV v ((i:Int)+1)+1-1;omega)
  exact this
 ·rcases hN.how with⟨rfl,o,rfl,ho⟩|⟨rfl,p,hp,rfl⟩
  ·exact Nat.le_refl _
  ·exact Nat.zero_le _
 ·rcases hN.how with⟨rfl,o,rfl,ho⟩|⟨rfl,p,hp,rfl⟩
  ·intro o' ho'
   have ho':o'∈[o]:=ho'
   rw[List.mem_singleton] at ho'
   subst ho'
   exact⟨ho.dl,ho.el,ho.tl,ho.nl⟩
  ·intro o' ho';cases ho'
 ·have:=h.r3 p hp
  refine⟨this.1,this.2.1,by have:=this.2.2.1;omega,by have:=this.2.2.2;omega⟩
 ·refine⟨?_,hv.len,?_,?_⟩
  ·show(i:Int)+1≤3;omega
  ·show latT (knownL v gs)+1≤((n+1:Nat):Int);omega
  ·show atV v ((i:Int)+1)+1≤((n+1:Nat):Int);omega
 ·rw[atV_with _ _ _ _ hr1]
  split
  ·omega
  ·have:=h.vn r;omega
 ·have hle:∀r,atV V r≤atV (withV V ((i:Int)+1) (atV v ((i:Int)+1)+1)) r:=fun r=>by
   rw[atV_with _ _ _ _ hr1]
   split
   ·rename_i e;subst e;omega
   ·exact Int.le_refl _
  by_cases hji:j=i
  ·subst hji
   rw[List.getD_eq_getElem?_getD,List.getElem?_set_self (by rw[h.kl];exact hj)]
   refine⟨withV_plain _ _ _,?_,fun r=> ?_⟩
   ·show(withV v _ _).length≤3
    have h5:=pv_len (setV v ((j:Int)+1) (atV v ((j:Int)+1)+1))
    have h6:(setV v ((j:Int)+1) (atV v ((j:Int)+1)+1)).length=max v.length ((j:Int)+1).toNat:=by unfold setV;simp
    have h7:=hv.len
    unfold withV
    omega
   ·show 0≤atV (withV v _ _) r∧atV (withV v _ _) r≤_
    rw[atV_with _ _ _ _ hr1,atV_with _ _ _ _ hr1]
    have:=hv.le r
    split<;>omega
  ·rw[List.getD_eq_getElem?_getD,List.getElem?_set_ne (fun e=>hji e.symm),←List.getD_eq_getElem?_getD]
   have:=h.kv j hj
   exact⟨this.pl,this.len,fun r=>⟨(this.le r).1,Int.le_trans (this.le r).2 (hle r)⟩⟩
 ·by_cases hji:j=i
  ·subst hji
   rw[List.getD_eq_getElem?_getD,List.getElem?_set_self (by rw[h.kl];exact hj)]
   show atV (withV v _ _) _=_
   rw[atV_with _ _ _ _ hr1,atV_with _ _ _ _ hr1,if_pos rfl,if_pos rfl]
  ·rw[List.getD_eq_getElem?_getD,List.getElem?_set_ne (fun e=>hji e.symm),←List.getD_eq_getElem?_getD,atV_with _ _ _ _ hr1,if_neg (by omega)]
   exact h.ko j hj
theorem HOk.his {n:Nat} {gs:List (Grp×GrX)} {kn:List (List Int)} {V:List Int} (h:HOk n gs kn V):HisG (gs.map Prod.fst):=by
 refine⟨fun g hg=> ?_,?_,V,h.ah⟩
 ·obtain⟨p,hp,rfl⟩:=List.mem_map.1 hg
  exact h.chk p hp
 ·rw[List.map_map];exact h.nd
end
end Go.Proofs.YtkhmicndehlneaaGreatDoor
