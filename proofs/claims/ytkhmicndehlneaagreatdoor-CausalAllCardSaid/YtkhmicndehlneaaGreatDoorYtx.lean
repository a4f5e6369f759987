/- Part 24 of the walks and plain laws that this claim uses, joined. Conditions: as each theorem states. -/
import Derived.Test.YtkhmicndehlneaaGreatDoorYtw
namespace Go.Proofs.YtkhmicndehlneaaGreatDoor
set_option maxRecDepth 100000
set_option maxHeartbeats 16000000
section
set_option linter.unusedVariables false
theorem ahead_cons {v u:List Int} {g:Grp} {l:List Grp} (h:aheadV v (g::l)=some u):chkB g=true∧covB v g.deps=true∧atV v g.s.r=g.n-1∧aheadV (withV v g.s.r g.n) l=some u:=by
 unfold aheadV at h
 split at h
 ·rename_i c
  simp only[Bool.and_eq_true,decide_eq_true_eq] at c
  exact⟨c.1.1,c.1.2,c.2,h⟩
 ·cases h
theorem ahead_mono:∀(l:List Grp) {v u:List Int},aheadV v l=some u→∀r,atV v r≤atV u r
 | [],v,u,h,r=>by simp only[aheadV,Option.some.injEq] at h;rw[h];exact Int.le_refl _
 |g::l,v,u,h,r=>by
  obtain⟨h1,h2,h3,h4⟩:=ahead_cons h
  have hr:=(right_r (chk_right h1).1).1
  have:=ahead_mono l h4 r
  rw[atV_with _ _ _ _ hr] at this
  split at this
  ·rename_i e;subst e;omega
  ·exact this
theorem ahead_in:∀(l:List Grp) {v u:List Int},aheadV v l=some u→∀g∈l,atV v g.s.r<g.n∧g.n≤atV u g.s.r
 | [],v,u,h,g,hg=>by cases hg
 | x::l,v,u,h,g,hg=>by
  obtain⟨h1,h2,h3,h4⟩:=ahead_cons h
  have hr:=(right_r (chk_right h1).1).1
  rcases List.mem_cons.1 hg with rfl|hg
  ·refine⟨by omega,?_⟩
   have:=ahead_mono l h4 g.s.r
   rw[atV_with _ _ _ _ hr,if_pos rfl] at this
   exact this
  ·have:=ahead_in l h4 g hg
   rw[atV_with _ _ _ _ hr] at this
   refine⟨?_,this.2⟩
   have h5:=this.1
   split at h5
   ·rename_i e;rw[e];omega
   ·exact h5
theorem ahead_all:∀(l:List Grp) {v u:List Int},aheadV v l=some u→∀r n,atV v r<n→n≤atV u r→∃g∈l,g.s.r=r∧g.n=n
 | [],v,u,h,r,n,h1,h2=>by simp only[aheadV,Option.some.injEq] at h;subst h;omega
 | x ::l,v,u,h,r,n,h5,h6=>by
  obtain⟨h1,h2,h3,h4⟩:=ahead_cons h
  have hr:=(right_r (chk_right h1).1).1
  by_cases hx:x.s.r=r∧x.n=n
  ·exact⟨x,by simp,hx⟩
  ·have:atV (withV v x.s.r x.n) r<n:=by
    rw[atV_with _ _ _ _ hr]
    split
    ·rename_i e;subst e
     have:x.n≠n:=fun e2=>hx ⟨rfl,e2⟩
     omega
    ·exact h5
   obtain⟨g,hg,e⟩:=ahead_all l h4 r n this h6
   exact⟨g,by simp[hg],e⟩
theorem ahead_pair:∀(l:List Grp) {v u:List Int},aheadV v l=some u→l.Pairwise fun a b=>a.s.r=b.s.r→a.n<b.n
 | [],v,u,h=>List.Pairwise.nil
 |x::l,v,u,h=>by
  obtain⟨h1,h2,h3,h4⟩:=ahead_cons h
  have hr:=(right_r (chk_right h1).1).1
  refine List.Pairwise.cons (fun b hb e=> ?_) (ahead_pair l h4)
  have:=(ahead_in l h4 b hb).1
  rw[atV_with _ _ _ _ hr,if_pos e.symm] at this
  exact this
theorem pair_eq {l:List Grp} (h:l.Pairwise fun a b=>a.s.r=b.s.r→a.n<b.n) {x y:Grp} (hx:x∈l) (hy:y∈l) (hr:x.s.r=y.s.r) (hn:x.n=y.n):x=y:=by
 induction h with
 |nil=>cases hx
 | @cons a l h1 h2 ih=>
  rcases List.mem_cons.1 hx with rfl|hx'
  ·rcases List.mem_cons.1 hy with rfl|hy'
   ·rfl
   ·have:=h1 y hy' hr;omega
  ·rcases List.mem_cons.1 hy with rfl|hy'
   ·have:=h1 x hx' hr.symm;omega
   ·exact ih hx' hy'
theorem nodup_eq {l:List Grp} (h:(l.map (·.s)).Nodup) {x y:Grp} (hx:x∈l) (hy:y∈l) (e:x.s=y.s):x=y:=by
 induction l with
 |nil=>cases hx
 | cons a l ih=>
  rw[List.map_cons,List.nodup_cons] at h
  rcases List.mem_cons.1 hx with e1|hx'
  ·rcases List.mem_cons.1 hy with e2|hy'
   ·rw[e1,e2]
   ·exact absurd (List.mem_map.2 ⟨y,hy',by rw[←e,e1]⟩) h.1
  ·rcases List.mem_cons.1 hy with e2|hy'
   ·exact absurd (List.mem_map.2 ⟨x,hx',by rw[e,e2]⟩) h.1
   ·exact ih h.2 hx' hy'
structure HisG (gs:List Grp):Prop where
 chk:∀g∈gs,chkB g=true
 nd:(gs.map (·.s)).Nodup
 ah:∃V,aheadV [] gs=some V
theorem HisG.one {gs:List Grp} (h:HisG gs) {x y:Grp} (hx:x∈gs) (hy:y∈gs) (hr:x.s.r=y.s.r) (hn:x.n=y.n):x=y:=by
 obtain⟨V,hV⟩:=h.ah
 exact pair_eq (ahead_pair gs hV) hx hy hr hn
structure BxG (gs:List Grp) (b:Bx):Prop where
 ok:BxOk b
 sub:∀g∈b.done++b.wait,g∈gs
theorem atV_nil (r:Int):atV [] r=0:=by unfold atV;split<;>rfl
theorem BxG.old {gs:List Grp} {b:Bx} (h:BxG gs b) (hG:HisG gs) {g:Grp} (hg:g∈gs):oldB b.v g=true↔g∈b.done:=by
 unfold oldB
 rw[decide_eq_true_eq]
 constructor
 ·intro hn
  have h1:=(chk_right (hG.chk g hg)).2.1
  obtain⟨d,hd,e1,e2⟩:=ahead_all b.done h.ok.ahead g.s.r g.n (by rw[atV_nil];omega) hn
  rw[hG.one hg (h.sub d (by simp[hd])) e1.symm e2.symm]
  exact hd
 ·intro hd
  exact(ahead_in b.done h.ok.ahead g hd).2
theorem BxG.apart {gs:List Grp} {b:Bx} (h:BxG gs b) {x:Grp} (h1:x∈b.done) (h2:x∈b.wait):False:=by
 have:=h.ok.apart
 rw[List.map_append,List.nodup_append] at this
 exact this.2.2 _ (List.mem_map.2 ⟨x,h1,rfl⟩) _ (List.mem_map.2 ⟨x,h2,rfl⟩) rfl
theorem BxG.known {gs:List Grp} {b:Bx} (h:BxG gs b) (hG:HisG gs) {g:Grp} (hg:g∈gs):knownB b g=true↔g∈b.done++b.wait:=by
 unfold knownB
 rw[Bool.or_eq_true,Bool.or_eq_true,h.old hG hg,List.any_eq_true,List.any_eq_true,List.mem_append]
 constructor
 ·rintro((⟨d,hd,e⟩|h1)|⟨a,ha,e⟩)
  ·rw[Gst.eqb_iff] at e
   rw[nodup_eq hG.nd hg (h.sub d (by simp[hd])) e.symm]
   exact .inl hd
  ·exact .inl h1
  ·refine .inr ?_
   unfold clashB at e
   rw[Bool.or_eq_true,Bool.and_eq_true,decide_eq_true_eq,decide_eq_true_eq,Gst.eqb_iff] at e
   have ha2:=h.sub a (by simp[ha])
   rcases e with⟨e1,e2⟩|e
   ·rw[hG.one hg ha2 e1.symm e2.symm];exact ha
   ·rw[nodup_eq hG.nd hg ha2 e.symm];exact ha
 ·rintro(h1|h1)
  ·exact .inl (.inr h1)
  ·refine .inr ⟨g,h1,?_⟩
   unfold clashB
   simp
def drained (b:Bx):Prop:=∀g∈b.wait,readyB b.v g=false
theorem mem_split_erase {l:List Grp} {k:Nat} (hk:k<l.length):(l.getD k gz::l.eraseIdx k).Perm l:=by
 have e:l.getD k gz=l[k]:=by simp[List.getD_eq_getElem?_getD,hk]
 rw[e]
 have h1:l.eraseIdx k=l.take k++l.drop (k+1):=by rw[List.eraseIdx_eq_take_drop_succ]
 rw[h1]
 have h2:l=l.take k++l[k]::l.drop (k+1):=by
  rw[List.getElem_cons_drop,List.take_append_drop]
 conv=>rhs;rw[h2]
 exact List.perm_middle.symm
theorem drainF_all {gs:List Grp} (hG:HisG gs):∀(f:Nat) (b:Bx),BxG gs b→b.wait.length≤f→BxG gs (drainF f b).1∧drained (drainF f b).1∧((drainF f b).1.done++(drainF f b).1.wait).Perm (b.done++b.wait)∧∃t,(drainF f b).1.done=b.done++t∧t.length=(drainF f b).2
 |0,b,h,hf=>by
  have hw:b.wait=[]:=List.eq_nil_of_length_eq_zero (by omega)
  refine⟨h,fun g hg=> ?_,List.Perm.refl _,[],by simp[drainF],rfl⟩
  have hg:g∈b.wait:=hg
  rw[hw] at hg;cases hg
 | f+1,b,h,hf=>by
  cases hb:bestN b.v b.wait b.wait.length with
  |none=>
   rw[drainF_none hb]
   refine⟨h,fun g hg=> ?_,List.Perm.refl _,[],by simp,rfl⟩
   obtain⟨k,hk,e⟩:=List.mem_iff_getElem.1 hg
   have:=bestN_none hb k hk
   rwa[show b.wait.getD k gz=g by rw[List.getD_eq_getElem?_getD,List.getElem?_eq_getElem hk,←e];rfl] at this
  | some k=>
   obtain⟨hk,hr⟩:=bestN_lt hb
   have hm:=getD_mem hk
   have hgs:b.wait.getD k gz∈gs:=h.sub _ (List.mem_append.2 (.inr hm))
   have ho:oldB b.v (b.wait.getD k gz)=false:=by
    cases e:oldB b.v (b.wait.getD k gz) with
    |false=>rfl
    |true=>exact(h.apart ((h.old hG hgs).1 e) hm).elim
   rw[drainF_put hb ho]
   have hper:((Bx.put ⟨b.done,b.wait.eraseIdx k,b.v⟩ (b.wait.getD k gz)).done++(Bx.put ⟨b.done,b.wait.eraseIdx k,b.v⟩ (b.wait.getD k gz)).wait).Perm (b.done++b.wait):=by
    show(b.done++[b.wait.getD k gz]++b.wait.eraseIdx k).Perm _
    rw[List.append_assoc]
    exact(mem_split_erase hk).append_left _
   have hok:BxG gs (Bx.put ⟨b.done,b.wait.eraseIdx k,b.v⟩ (b.wait.getD k gz)):=by
    refine⟨(h.ok.drop k).put (hG.chk _ hgs) hr ho fun x hx=> ?_,fun g hg=>h.sub g (hper.mem_iff.1 hg)⟩
    have hn:=h.ok.apart
    rw[List.map_append,List.nodup_append] at hn
    rcases List.mem_append.1 hx with hx|hx
    ·exact fun e=>hn.2.2 _ (List.mem_map.2 ⟨x,hx,rfl⟩) _ (List.mem_map.2 ⟨_,hm,rfl⟩) e
    ·exact erase_ne hk hn.2.1 x hx
   have hlen:(b.wait.eraseIdx k).length≤f:=by rw[List.length_eraseIdx_of_lt hk];omega
   obtain⟨i1,i2,i3,t,i4,i5⟩:=drainF_all hG f _ hok hlen
   refine⟨i1,i2,i3.trans hper,b.wait.getD k gz::t,?_,by simp[i5]⟩
   rw[i4]
   show b.done++[b.wait.getD k gz]++t=_
   simp
structure BxH (gs:List Grp) (b:Bx):Prop extends BxG gs b where
 dr:drained b
theorem BxH.new (gs:List Grp):BxH gs Bx.new:=⟨⟨BxOk.new,fun g hg=>(by cases hg)⟩,fun g hg=>(by cases hg)⟩
theorem nodup_sub {α:Type}:∀(l:List α) {gs:List α},l.Nodup→(∀g∈l,g∈gs)→l.length≤gs.length
 | [],gs,_,_=>Nat.zero_le _
 | a::l,gs,hn,hs=>by
  rw[List.nodup_cons] at hn
  obtain⟨s,t,rfl⟩:=List.append_of_mem (hs a (by simp))
  have:=nodup_sub l (gs:=s++t) hn.2 fun g hg=>by
   have h1:=hs g (by simp[hg])
   simp only[List.mem_append,List.mem_cons] at h1 ⊢
   rcases h1 with h1|rfl|h1
   ·exact .inl h1
   ·exact absurd hg hn.1
   ·exact .inr h1
  simp only[List.length_append,List.length_cons] at this ⊢
  omega
theorem nodup_len {gs l:List Grp} (hl:(l.map (·.s)).Nodup) (hs:∀g∈l,g∈gs):l.length≤gs.length:=
 nodup_sub l (List.Pairwise.of_map (·.s) (fun a b h e=>h (by rw[e])) hl) hs
theorem BxG.len {gs:List Grp} {b:Bx} (h:BxG gs b):b.done.length+b.wait.length≤gs.length:=by
 rw[←List.length_append];exact nodup_len h.ok.apart h.sub
structure Heard1 (gs:List Grp) (b:Bx) (g:Grp):Prop where
 inv:BxH gs (hearB b g).1
 err:(hearB b g).2.2=0∨((hearB b g).2.2=210∧(hearB b g).1=b∧(hearB b g).2.1=0∧g∈b.done++b.wait)
 has:g∈(hearB b g).1.done++(hearB b g).1.wait
 keep:∀x∈b.done++b.wait,x∈(hearB b g).1.done++(hearB b g).1.wait
 pre:∃t,(hearB b g).1.done=b.done++t∧t.length=(hearB b g).2.1
 rdy:readyB b.v g=true→g∈(hearB b g).1.done∧((hearB b g).2.2=0→1≤(hearB b g).2.1)
 once:b.wait=[]→readyB b.v g=true→g∉ b.done→hearB b g=(b.put g,1,0)
theorem BxH.hear {gs:List Grp} {b:Bx} (h:BxH gs b) (hG:HisG gs) (hl:gs.length≤99) {g:Grp} (hg:g∈gs):Heard1 gs b g:=by
 have hc:=hG.chk g hg
 have hk:=h.toBxG.known hG hg
 by_cases hkn:g∈b.done++b.wait
 ·have e:hearB b g=(b,0,210):=by unfold hearB;rw[if_neg (by simp[hc]),if_pos (hk.2 hkn)]
  refine⟨by rw[e];exact h,.inr ⟨by rw[e],by rw[e],by rw[e],hkn⟩,by rw[e];exact hkn,fun x hx=>by rw[e];exact hx,⟨[],by rw[e];simp,by rw[e];rfl⟩,fun hr=>⟨?_,fun h0=>by rw[e] at h0;cases h0⟩,fun hw hr hn=> ?_⟩
  ·rw[e]
   rcases List.mem_append.1 hkn with h1|h1
   ·exact h1
   ·rw[h.dr g h1] at hr;cases hr
  ·rw[hw,List.append_nil] at hkn;exact absurd hkn hn
 ·have hnk:knownB b g=false:=by
   cases e:knownB b g with
   |false=>rfl
   |true=>exact absurd (hk.1 e) hkn
  obtain⟨ho,hs⟩:=not_known hnk
  by_cases hr:readyB b.v g=true
  ·have e:hearB b g=((drainF b.wait.length (b.put g)).1,(drainF b.wait.length (b.put g)).2+1,0):=by unfold hearB;rw[if_neg (by simp[hc]),if_neg (by simp[hnk]),if_pos hr]
   have hp:BxG gs (b.put g):=⟨h.ok.put hc hr ho hs,fun x hx=>by
    simp only[Bx.put,List.mem_append,List.mem_singleton] at hx
    rcases hx with(h1|rfl)|h1
    ·exact h.sub x (by simp[h1])
    ·exact hg
    ·exact h.sub x (by simp[h1])⟩
   obtain⟨i1,i2,i3,t,i4,i5⟩:=drainF_all hG b.wait.length (b.put g) hp (Nat.le_refl _)
   have hin:∀x,x=g∨x∈b.done++b.wait→x∈(drainF b.wait.length (b.put g)).1.done++(drainF b.wait.length (b.put g)).1.wait:=fun x hx=>i3.mem_iff.2 (by
    simp only[Bx.put,List.mem_append,List.mem_singleton] at hx ⊢
    rcases hx with h1|h1|h1
    ·exact .inl (.inr h1)
    ·exact .inl (.inl h1)
    ·exact .inr h1)
   refine⟨by rw[e];exact⟨i1,i2⟩,.inl (by rw[e]),by rw[e];exact hin g (.inl rfl),fun x hx=>by rw[e];exact hin x (.inr hx),⟨g::t,by rw[e];simp only[i4];simp[Bx.put],by rw[e];simp[i5]⟩,fun _=>⟨?_,fun _=>by rw[e];exact Nat.le_add_left _ _⟩,fun hw _ _=> ?_⟩
   ·rw[e];simp only[i4];simp[Bx.put]
   ·rw[e,hw];rfl
  ·have hlen:=h.toBxG.len
   have e:hearB b g=(⟨b.done,b.wait++[g],b.v⟩,0,0):=by unfold hearB;rw[if_neg (by simp[hc]),if_neg (by simp[hnk]),if_neg hr,if_neg (by omega)]
   refine⟨?_,.inl (by rw[e]),by rw[e];simp,fun x hx=> ?_,⟨[],by rw[e];simp,by rw[e];rfl⟩,fun h1=>absurd h1 hr,fun _ h1=>absurd h1 hr⟩
   ·refine⟨⟨hearB_ok h.ok g,fun x hx=> ?_⟩,?_⟩
    ·rcases hearB_mem b g x hx with h1|rfl
     ·exact h.sub x h1
     ·exact hg
    ·rw[e]
     intro x hx
     have hx:x∈b.wait++[g]:=hx
     rcases List.mem_append.1 hx with h1|h1
     ·exact h.dr x h1
     ·rw[List.mem_singleton] at h1;subst h1;simpa using hr
   ·rw[e]
    show x∈b.done++(b.wait++[g])
    rw[←List.append_assoc];exact List.mem_append.2 (.inl hx)
def hearsB (b:Bx) (l:List Grp):Bx:=l.foldl (fun b g=>(hearB b g).1) b
theorem hearsB_snoc (b:Bx) (l:List Grp) (g:Grp):hearsB b (l++[g])=(hearB (hearsB b l) g).1:=by unfold hearsB;rw[List.foldl_append];rfl
theorem hearsB_cons (b:Bx) (g:Grp) (l:List Grp):hearsB b (g::l)=hearsB (hearB b g).1 l:=rfl
def sumB (b:Bx):List Grp→Nat
 | []=>0
 |g::l=>(hearB b g).2.1+sumB (hearB b g).1 l
theorem BxH.hears {gs:List Grp} (hG:HisG gs) (hl:gs.length≤99):∀(l:List Grp) {b:Bx},BxH gs b→(∀g∈l,g∈gs)→BxH gs (hearsB b l)∧(∀x,x∈l∨x∈b.done++b.wait→x∈(hearsB b l).done++(hearsB b l).wait)∧∃t,(hearsB b l).done=b.done++t∧t.length=sumB b l
 | [],b,h,hs=>⟨h,fun x hx=>hx.elim (fun h=>by cases h) id,[],by simp[hearsB],rfl⟩
 | g::l,b,h,hs=>by
  have h1:=h.hear hG hl (hs g (by simp))
  obtain⟨i1,i2,t,i3,i4⟩:=BxH.hears hG hl l h1.inv fun x hx=>hs x (by simp[hx])
  obtain⟨t1,j1,j2⟩:=h1.pre
  rw[hearsB_cons]
  refine⟨i1,fun x hx=>i2 x ?_,t1++t,by rw[i3,j1];simp,by simp[sumB,j2,i4]⟩
  rcases hx with hx|hx
  ·rcases List.mem_cons.1 hx with rfl|hx
   ·exact .inr h1.has
   ·exact .inl hx
  ·exact .inr (h1.keep x hx)
theorem ready_pre {gs pre post:List Grp} {g:Grp} (hG:HisG gs) (e:gs=pre++g::post) {b:Bx} (h:BxG gs b) (hp:∀x∈pre,x∈b.done):readyB b.v g=true:=by
 obtain⟨V,hV⟩:=hG.ah
 rw[e,aheadV_append] at hV
 cases hu:aheadV [] pre with
 |none=>rw[hu] at hV;cases hV
 | some u=>
  rw[hu] at hV
  obtain⟨-,h2,-,-⟩:=ahead_cons (show aheadV u (g::post)=some V from hV)
  unfold readyB
  rw[covB_iff] at h2 ⊢
  intro k
  refine Int.le_trans (h2 k) ?_
  have e1:u.getD k 0=atV u (k+1):=by rw[atV_nat (by omega)];congr 1;omega
  have e2:b.v.getD k 0=atV b.v (k+1):=by rw[atV_nat (by omega)];congr 1;omega
  rw[e1,e2]
  by_cases h0:0<atV u (k+1)
  ·obtain⟨p,hp1,hp2,hp3⟩:=ahead_all pre hu (k+1) (atV u (k+1)) (by rw[atV_nil];exact h0) (Int.le_refl _)
   have:=(ahead_in b.done h.ok.ahead p (hp p hp1)).2
   rw[hp2,hp3] at this
   exact this
  ·have:=ahead_mono b.done h.ok.ahead (k+1)
   rw[atV_nil] at this
   omega
theorem done_all {gs:List Grp} (hG:HisG gs) {b:Bx} (h:BxH gs b) (ha:∀g∈gs,g∈b.done++b.wait):∀g∈gs,g∈b.done:=by
 have:∀pre post,gs=pre++post→∀x∈pre,x∈b.done:=by
  intro pre
  induction hq:pre.length generalizing pre with
  |zero=>intro post _ x hx;rw[List.eq_nil_of_length_eq_zero hq] at hx;cases hx
  | succ n ih=>
   intro post e x hx
   obtain⟨q,y,rfl⟩:∃q y,pre=q++[y]:=by
    rcases List.eq_nil_or_concat pre with rfl|⟨q,y,rfl⟩
    ·cases hq
    ·exact⟨q,y,by simp⟩
   have hqn:q.length=n:=by simpa using hq
   have e2:gs=q++(y::post):=by rw[e];simp
   have hqd:=ih q hqn (y::post) e2
   rcases List.mem_append.1 hx with h1|h1
   ·exact hqd x h1
   ·rw[List.mem_singleton] at h1;subst h1
    have hr:=ready_pre hG e2 h.toBxG hqd
    rcases List.mem_append.1 (ha x (by rw[e2];simp)) with h2|h2
    ·exact h2
    ·rw[h.dr x h2] at hr;cases hr
 exact fun g hg=>this gs [] (by simp) g hg
theorem wait_none {gs:List Grp} {b:Bx} (h:BxG gs b) (ha:∀g∈gs,g∈b.done):b.wait=[]:=by
 cases hw:b.wait with
 |nil=>rfl
 |cons x l=>
  have hx:x∈b.wait:=by rw[hw];simp
  exact(h.apart (ha x (h.sub x (by simp[hx]))) hx).elim
theorem nodup_of {l:List Grp} (h:(l.map (·.s)).Nodup):l.Nodup:=List.Pairwise.of_map (·.s) (fun a b h e=>h (by rw[e])) h
theorem done_perm {gs:List Grp} (hG:HisG gs) {b:Bx} (h:BxG gs b) (ha:∀g∈gs,g∈b.done):b.done.Perm gs:=by
 have h1:(b.done.map (·.s)).Nodup:=by
  have:=h.ok.apart
  rw[List.map_append,List.nodup_append] at this
  exact this.1
 exact(List.perm_ext_iff_of_nodup (nodup_of h1) (nodup_of hG.nd)).2 fun x=>⟨fun hx=>h.sub x (by simp[hx]),fun hx=>ha x hx⟩
end
section
open Go.RowKit Go.Lib Go.Sort
set_option linter.unusedVariables false
structure Vok (V v:List Int):Prop where
 pl:plainV v=v
 len:v.length≤3
 le:∀r,0≤atV v r∧atV v r≤atV V r
structure HOk (n:Nat) (gs:List (Grp×GrX)) (kn:List (List Int)) (V:List Int):Prop where
 chk:∀p∈gs,chkB p.1=true
 nd:(gs.map (·.1.s)).Nodup
 ah:aheadV [] (gs.map Prod.fst)=some V
 len:gs.length≤n
 one:∀p∈gs,p.1.ops.length≤1
 sml:∀p∈gs,∀o∈p.1.ops,o.dots.length≤16∧o.elems.length≤3∧o.text.size≤2∧o.name.size≤1
 r3:∀p∈gs,p.1.s.r≤3∧p.1.deps.length≤3∧p.1.s.t≤n∧p.1.n≤n
 vn:∀r,atV V r≤n
 kl:kn.length=3
 kv:∀i,i<3→Vok V (kn.getD i [])
 ko:∀i:Nat,i<3→atV (kn.getD i []) ((i:Int)+1)=atV V ((i:Int)+1)
theorem atV_getD {v:List Int} {k:Nat}:atV v ((k:Int)+1)=v.getD k 0:=by rw[atV_nat (by omega)];congr 1;omega
theorem HOk.new:HOk 0 [] [[],[],[]] []:=by
 refine⟨fun p h=>(by cases h),List.nodup_nil,rfl,Nat.le_refl _,fun p h=>(by cases h),fun p h=>(by cases h),fun p h=>(by cases h),fun r=>by rw[atV_nil];exact Int.le_refl _,rfl,fun i hi=> ?_,fun i hi=> ?_⟩
 ·have e:([[],[],[]]:List (List Int)).getD i []=[]:=by rcases(show i=0∨i=1∨i=2 by omega) with rfl|rfl|rfl<;>rfl
  rw[e]
  exact⟨rfl,Nat.zero_le _,fun r=>by rw[atV_nil];exact⟨Int.le_refl _,Int.le_refl _⟩⟩
 ·have e:([[],[],[]]:List (List Int)).getD i []=[]:=by rcases(show i=0∨i=1∨i=2 by omega) with rfl|rfl|rfl<;>rfl
  rw[e]
theorem Vok.merge {V v u:List Int} (hv:Vok V v) (hu:Vok V u):Vok V (mergeV v u):=by
 refine⟨pv_pv _,by have:=mergeV_len v u;have:=hv.len;have:=hu.len;omega,fun r=> ?_⟩
 have e:atV (mergeV v u) r=max (atV v r) (atV u r):=by
  unfold atV
  split
  ·rfl
  ·exact mergeV_getD _ _ _
 have h1:=hv.le r
 have h2:=hu.le r
 rw[e];omega
theorem Vok.merge_at {V v u:List Int} (hv:Vok V v) (hu:Vok V u) {r:Int} (h:atV v r=atV V r):atV (mergeV v u) r=atV V r:=by
 have e:atV (mergeV v u) r=max (atV v r) (atV u r):=by
  unfold atV
  split
  ·rfl
  ·exact mergeV_getD _ _ _
 have h2:=hu.le r
 rw[e];omega
theorem latT_ge (L:List (Grp×GrX)):0≤latT L∧∀p∈L,p.1.s.t≤latT L:=by
 have:∀(L:List (Grp×GrX)) (t:Int),t≤L.foldl (fun t p=>max t p.1.s.t) t∧∀p∈L,p.1.s.t≤L.foldl (fun t p=>max t p.1.s.t) t:=by
  intro L
  induction L with
  |nil=>exact fun t=>⟨Int.le_refl _,fun p h=>(by cases h)⟩
  |cons q L ih=>
   intro t
   obtain⟨h1,h2⟩:=ih (max t q.1.s.t)
   rw[List.foldl_cons]
   refine⟨by omega,fun p hp=> ?_⟩
   rcases List.mem_cons.1 hp with rfl|hp
   ·omega
   ·exact h2 p hp
 exact this L 0
theorem latT_le {L:List (Grp×GrX)} {m:Int} (h0:0≤m) (h:∀p∈L,p.1.s.t≤m):latT L≤m:=by
 have:∀(L:List (Grp×GrX)) (t:Int),t≤m→(∀p∈L,p.1.s.t≤m)→L.foldl (fun t p=>max t p.1.s.t) t≤m:=by
  intro L
  induction L with
  |nil=>exact fun t ht _=>ht
  |cons q L ih=>
   intro t ht h
   rw[List.foldl_cons]
   exact ih _ (by have:=h q (by simp);omega) fun p hp=>h p (by simp[hp])
 exact this L 0 h0 h
def nextS16 (L:List (Grp×GrX)) (i:Nat):Gst:=⟨latT L+1,(i:Int)+1⟩
theorem HOk.known {n:Nat} {gs:List (Grp×GrX)} {kn:List (List Int)} {V v:List Int} (h:HOk n gs kn V) (hn:n<16) {i:Nat} (hi:i<3):KnG (knownL v gs) (nextS16 (knownL v gs) i):=by
 have hm:∀p∈knownL v gs,p∈gs:=fun p hp=>knownL_mem hp
 obtain⟨l0,l1⟩:=latT_ge (knownL v gs)
 have l2:=latT_le (L:=knownL v gs) (m:=(n:Int)) (by omega) fun p hp=>(h.r3 p (hm p hp)).2.2.1
 refine⟨fun p hp=>h.chk p (hm p hp),?_,fun p hp=> ?_,?_,?_,fun p hp=>h.one p (hm p hp),fun p hp o ho=> ?_⟩
 ·exact((List.filter_sublist (l:=gs)).map _).nodup h.nd
 ·have:=l1 p hp
  unfold nextS16 Gst.lt
  simp only[Bool.or_eq_true,decide_eq_true_eq]
  left;omega
 ·unfold nextS16 Gst.right
  simp only[Bool.and_eq_true,decide_eq_true_eq]
  omega
 ·have:=knownL_len v gs;have:=h.len;omega
 ·have:=h.sml p (hm p hp) o ho;exact⟨this.1,this.2.2.1⟩
structure NextG (L:List (Grp×GrX)) (s:Gst) (u:Gst) (ops:List Gop):Prop where
 how:(u= .zero∧∃o,ops=[o]∧OpOk s o)∨(ops=[]∧∃p∈L,u=p.1.s)
theorem next_chk {n:Nat} {gs:List (Grp×GrX)} {kn:List (List Int)} {V v:List Int} (h:HOk n gs kn V) (hn:n<16) {i:Nat} (hi:i<3) (hv:Vok V v) {u:Gst} {ops:List Gop} (hN:NextG (knownL v gs) (nextS16 (knownL v gs) i) u ops):
  chkB ⟨nextS16 (knownL v gs) i,atV v ((i:Int)+1)+1,v,u,ops⟩=true:=by
 have hk:=h.known (v:=v) hn hi
 have h1:=hv.le ((i:Int)+1)
 have h2:=h.vn ((i:Int)+1)
 unfold chkB
 rw[Bool.and_eq_true]
 constructor
 ·unfold headB vecB
  simp only[Bool.and_eq_true,decide_eq_true_eq,List.all_eq_true]
  refine⟨⟨⟨⟨hk.sr,by omega⟩,by omega⟩,⟨⟨fun x hx=> ?_,by have:=hv.len;omega⟩,by rw[hv.pl]⟩⟩,?_⟩
  ·obtain⟨k,hk,rfl⟩:=List.mem_iff_getElem.1 hx
   have:=(hv.le ((k:Int)+1)).1
   rw[atV_getD,List.getD_eq_getElem?_getD,List.getElem?_eq_getElem hk] at this
   exact this
  ·show atV v ((i:Int)+1)=_
   omega
 ·rcases hN.how with⟨rfl,o,rfl,ho⟩|⟨rfl,p,hp,rfl⟩
  ·rw[if_pos (by rfl)]
   simp[opsB,ho.ok]
  ·have hr:=(chk_right (hk.chk p hp)).1
   rw[if_neg (by
    intro e
    rw[Gst.eqb_iff] at e
    have e:p.1.s= .zero:=e
    rw[e] at hr
    cases hr)]
   simp only[Bool.and_eq_true,decide_eq_true_eq]
   exact⟨⟨hr,hk.lt p hp⟩,rfl⟩
theorem HOk.next {n:Nat} {gs:List (Grp×GrX)} {kn:List (List Int)} {V v:List Int} (h:HOk n gs kn V) (hn:n<16) {i:Nat} (hi:i<3) (hv:Vok V v) (hvo:atV v ((i:Int)+1)=atV V ((i:Int)+1)) {u:Gst} {ops:List Gop} (hN:NextG (knownL v gs) (nextS16 (knownL v gs) i) u ops) (x:GrX):
  HOk (n+1) (gs++[(⟨nextS16 (knownL v gs) i,atV v ((i:Int)+1)+1,v,u,ops⟩,x)]) (kn.set i (withV v ((i:Int)+1) (atV v ((i:Int)+1)+1))) (withV V ((i:Int)+1) (atV v ((i:Int)+1)+1)):=by
 have hck:=next_chk h hn hi hv hN
 have hk:=h.known (v:=v) hn hi
 obtain⟨l0,l1⟩:=latT_ge (knownL v gs)
 have l2:=latT_le (L:=knownL v gs) (m:=(n:Int)) (by omega) fun p hp=>(h.r3 p (knownL_mem hp)).2.2.1
 have h1:=hv.le ((i:Int)+1)
 have h2:=h.vn ((i:Int)+1)
 have hr1:(1:Int)≤(i:Int)+1:=by omega
 have hsub:∀{P:Grp×GrX→Prop},(∀p∈gs,P p)→P (⟨nextS16 (knownL v gs) i,atV v ((i:Int)+1)+1,v,u,ops⟩,x)→∀p∈gs++[(⟨nextS16 (knownL v gs) i,atV v ((i:Int)+1)+1,v,u,ops⟩,x)],P p:=by
  intro P a b p hp
  rcases List.mem_append.1 hp with hp|hp
  ·exact a p hp
  ·rw[List.mem_singleton] at hp;subst hp;exact b
 refine⟨hsub h.chk hck,?_,?_,by rw[List.length_append];have:=h.len;simp;omega,hsub h.one ?_,hsub h.sml ?_,hsub (fun p hp=> ?_) ?_,fun r=> ?_,by rw[List.length_set];exact h.kl,fun j hj=> ?_,fun j hj=> ?_⟩
 ·rw[List.map_append,List.nodup_append]
  refine⟨h.nd,by simp,fun a ha b hb e=> ?_⟩
  simp only[List.map_cons,List.map_nil,List.mem_singleton] at hb
  subst hb
  obtain⟨p,hp,rfl⟩:=List.mem_map.1 ha
  have h3:=(ahead_in _ h.ah p.1 (List.mem_map.2 ⟨p,hp,rfl⟩)).2
  have e1:p.1.s.r=(i:Int)+1:=by have e:p.1.s=nextS16 (knownL v gs) i:=e;rw[e];rfl
  have e2:p.1.s.t=latT (knownL v gs)+1:=by have e:p.1.s=nextS16 (knownL v gs) i:=e;rw[e];rfl
  have hin:p∈knownL v gs:=by
   unfold knownL
   rw[List.mem_filter]
   refine⟨hp,?_⟩
   unfold oldB
   rw[decide_eq_true_eq,e1,hvo,←e1]
   exact h3
  have:=l1 p hin
  omega
 ·rw[List.map_append]
  have:=aheadV_snoc h.ah hck (covB_iff.2 fun k=>by have:=(hv.le ((k:Int)+1)).2;rwa[atV_getD,atV_getD] at this) (by show atV V ((i:Int)+1)=_;rw[←hvo];show _=atV v ((i:Int)+1)+1-1;omega)
  exact this
 ·rcases hN.how with⟨rfl,o,rfl,ho⟩|⟨rfl,p,hp,rfl⟩
  ·exact Nat.le_refl _
  ·exact Nat.zero_le _
 ·rcases hN.how with⟨rfl,o,rfl,ho⟩|⟨rfl,p,hp,rfl⟩
  ·intro o' ho'
   have ho':o'∈[o]:=ho'
   rw[List.mem_singleton] at ho'
   subst ho'
   exact⟨ho.dl,ho.el,ho.tl,ho.nl⟩
  ·intro o' ho';cases ho'
 ·have:=h.r3 p hp
  refine⟨this.1,this.2.1,by have:=this.2.2.1;omega,by have:=this.2.2.2;omega⟩
 ·refine⟨?_,hv.len,?_,?_⟩
  ·show(i:Int)+1≤3;omega
  ·show latT (knownL v gs)+1≤((n+1:Nat):Int);omega
  ·show atV v ((i:Int)+1)+1≤((n+1:Nat):Int);omega
 ·rw[atV_with _ _ _ _ hr1]
  split
  ·omega
  ·have:=h.vn r;omega
 ·have hle:∀r,atV V r≤atV (withV V ((i:Int)+1) (atV v ((i:Int)+1)+1)) r:=fun r=>by
   rw[atV_with _ _ _ _ hr1]
   split
   ·rename_i e;subst e;omega
   ·exact Int.le_refl _
  by_cases hji:j=i
  ·subst hji
   rw[List.getD_eq_getElem?_getD,List.getElem?_set_self (by rw[h.kl];exact hj)]
   refine⟨withV_plain _ _ _,?_,fun r=> ?_⟩
   ·show(withV v _ _).length≤3
    have h5:=pv_len (setV v ((j:Int)+1) (atV v ((j:Int)+1)+1))
    have h6:(setV v ((j:Int)+1) (atV v ((j:Int)+1)+1)).length=max v.length ((j:Int)+1).toNat:=by unfold setV;simp
    have h7:=hv.len
    unfold withV
    omega
   ·show 0≤atV (withV v _ _) r∧atV (withV v _ _) r≤_
    rw[atV_with _ _ _ _ hr1,atV_with _ _ _ _ hr1]
    have:=hv.le r
    split<;>omega
  ·rw[List.getD_eq_getElem?_getD,List.getElem?_set_ne (fun e=>hji e.symm),←List.getD_eq_getElem?_getD]
   have:=h.kv j hj
   exact⟨this.pl,this.len,fun r=>⟨(this.le r).1,Int.le_trans (this.le r).2 (hle r)⟩⟩
 ·by_cases hji:j=i
  ·subst hji
   rw[List.getD_eq_getElem?_getD,List.getElem?_set_self (by rw[h.kl];exact hj)]
   show atV (withV v _ _) _=_
   rw[atV_with _ _ _ _ hr1,atV_with _ _ _ _ hr1,if_pos rfl,if_pos rfl]
  ·rw[List.getD_eq_getElem?_getD,List.getElem?_set_ne (fun e=>hji e.symm),←List.getD_eq_getElem?_getD,atV_with _ _ _ _ hr1,if_neg (by omega)]
   exact h.ko j hj
theorem HOk.his {n:Nat} {gs:List (Grp×GrX)} {kn:List (List Int)} {V:List Int} (h:HOk n gs kn V):HisG (gs.map Prod.fst):=by
 refine⟨fun g hg=> ?_,?_,V,h.ah⟩
 ·obtain⟨p,hp,rfl⟩:=List.mem_map.1 hg
  exact h.chk p hp
 ·rw[List.map_map];exact h.nd
theorem pw_eq {α:Type} {r:α→α→Prop} (irr:∀a,¬r a a) (tr:∀a b c,r a b→r b c→r a c):∀{l m:List α},l.Pairwise r→m.Pairwise r→(∀x,x∈l↔x∈m)→l=m
 | [],[],_,_,_=>rfl
 | [],b::m,_,_,h=>absurd ((h b).2 (by simp)) (by simp)
 |a::l,[],_,_,h=>absurd ((h a).1 (by simp)) (by simp)
 | a::l,b::m,hl,hm,h=>by
  rw[List.pairwise_cons] at hl hm
  have hab:a=b:=by
   rcases List.mem_cons.1 ((h a).1 (by simp)) with h1|h1
   ·exact h1
   ·rcases List.mem_cons.1 ((h b).2 (by simp)) with h2|h2
    ·exact h2.symm
    ·exact absurd (tr _ _ _ (hl.1 b h2) (hm.1 a h1)) (irr a)
  subst hab
  rw[pw_eq irr tr hl.2 hm.2 fun x=> ?_]
  constructor
  ·intro hx
   rcases List.mem_cons.1 ((h x).1 (by simp[hx])) with h1|h1
   ·subst h1;exact absurd (hl.1 x hx) (irr x)
   ·exact h1
  ·intro hx
   rcases List.mem_cons.1 ((h x).2 (by simp[hx])) with h1|h1
   ·subst h1;exact absurd (hm.1 x hx) (irr x)
   ·exact h1
theorem pw_ins {α:Type} {p:α→α→Bool} (tr:∀a b c,p a b=true→p b c=true→p a c=true) {L:List α} (hL:L.Pairwise fun a b=>p a b=true) {x z:α} (tot:∀y∈L,p x y=true∨p y x=true):(insB (fun y=>p x y) z L x).Pairwise fun a b=>p a b=true:=by
 obtain⟨i1,i2⟩:=insIx_spec (fun y=>p x y) z L L.length (Nat.le_refl _)
 have hk:=insIx_le (fun y=>p x y) z L L.length
 unfold insB
 generalize insIx (fun y=>p x y) z L L.length=k at *
 unfold slid
 have get:∀j (hj:j<L.length),L.getD j z=L[j]:=fun j hj=>by rw[List.getD_eq_getElem?_getD,List.getElem?_eq_getElem hj];rfl
 rw[List.pairwise_append,List.pairwise_cons]
 have hup:∀y∈L.drop k,p x y=true:=fun y hy=>by
  obtain⟨i,hi,rfl⟩:=List.mem_iff_getElem.1 hy
  rw[List.getElem_drop,←get _ (by rw[List.length_drop] at hi;omega)]
  rw[List.length_drop] at hi
  exact i1 (k+i) (by omega) (by omega)
 have hlo:∀y∈L.take k,p y x=true:=fun y hy=>by
  obtain⟨i,hi,rfl⟩:=List.mem_iff_getElem.1 hy
  rw[List.length_take] at hi
  rw[List.getElem_take]
  obtain⟨q,rfl⟩:∃q,k=q+1:=⟨k-1,by omega⟩
  have h1:=i2 q rfl
  rw[get q (by omega)] at h1
  have h2:p L[q] x=true:=by
   rcases tot L[q] (List.getElem_mem _) with h3|h3
   ·rw[h3] at h1;cases h1
   ·exact h3
  rcases Nat.lt_or_ge i q with h4|h4
  ·exact tr _ _ _ (List.pairwise_iff_getElem.1 hL i q (by omega) (by omega) h4) h2
  ·obtain rfl:i=q:=by omega
   exact h2
 refine⟨hL.sublist (List.take_sublist _ _),⟨hup,hL.sublist (List.drop_sublist _ _)⟩,fun a ha b hb=> ?_⟩
 rcases List.mem_cons.1 hb with rfl|hb
 ·exact hlo a ha
 ·exact tr _ _ _ (hlo a ha) (hup b hb)
theorem sortK {α κ:Type} {key:α→κ} {p:α→α→Bool} {st:List α→α→List α} {z:α} (tr:∀a b c,p a b=true→p b c=true→p a c=true) (tot:∀a b,key a≠key b→p a b=true∨p b a=true)
  (hst:∀out x,(∀y∈out,key y≠key x)→st out x=insB (fun y=>p x y) z out x):∀(l out:List α),((out++l).map key).Nodup→(out.Pairwise fun a b=>p a b=true)→
  ((l.foldl st out).Pairwise fun a b=>p a b=true)∧∀y,y∈l.foldl st out↔y∈out∨y∈l
 | [],out,_,ho=>⟨ho,fun y=>by simp⟩
 | x::l,out,hn,ho=>by
  have hx:∀y∈out,key y≠key x:=fun y hy e=>by
   rw[List.map_append,List.nodup_append] at hn
   exact hn.2.2 (key y) (List.mem_map.2 ⟨y,hy,rfl⟩) (key x) (by simp) e
  have hins:=pw_ins tr ho (x:=x) (z:=z) (fun y hy=>(tot y x (hx y hy)).symm)
  have hn2:((insB (fun y=>p x y) z out x++l).map key).Nodup:=by
   refine(List.Perm.map key ?_).nodup_iff.2 hn
   refine((insB_perm (fun y=>p x y) z out x).append_right l).trans ?_
   rw[List.cons_append]
   exact List.perm_middle.symm
  rw[List.foldl_cons,hst out x hx]
  obtain⟨i1,i2⟩:=sortK tr tot hst l _ hn2 hins
  refine⟨i1,fun y=> ?_⟩
  rw[i2,insB_mem,List.mem_cons]
  constructor
  ·rintro((h|h)|h)
   ·exact .inr (.inl h)
   ·exact .inl h
   ·exact .inr (.inr h)
  ·rintro(h|h|h)
   ·exact .inl (.inr h)
   ·exact .inl (.inl h)
   ·exact .inr h
theorem any_false {α:Type} {l:List α} {q:α→Bool} (h:∀y∈l,q y=false):l.any q=false:=by
 rw[List.any_eq_false]
 intro y hy
 rw[h y hy];decide
theorem gst_ne {a b:Gst} (h:a≠b):a.eqb b=false:=by
 cases e:a.eqb b with
 |false=>rfl
 |true=>exact absurd (Gst.eqb_iff.1 e) h
theorem gid_ne {a b:Gid} (h:a≠b):a.eqb b=false:=by
 cases e:a.eqb b with
 |false=>rfl
 |true=>exact absurd (Gid.eqb_iff.1 e) h
theorem sortH_eq {l m:List Hd} (hl:(l.map (·.s)).Nodup) (h:l.Perm m):sortH l=sortH m:=by
 have tr:∀a b c:Hd,b.s.lt a.s=true→c.s.lt b.s=true→c.s.lt a.s=true:=fun a b c h1 h2=>gst_ord.tr _ _ _ h2 h1
 have tot:∀a b:Hd,a.s≠b.s→b.s.lt a.s=true∨a.s.lt b.s=true:=fun a b h=>by
  rcases gst_ord.tot a.s b.s with h1|h1|h1
  ·exact .inr h1
  ·exact absurd h1 h
  ·exact .inl h1
 have hst:∀(out:List Hd) (x:Hd),(∀y∈out,y.s≠x.s)→stepH out x=insB (fun y=>y.s.lt x.s) hd0 out x:=fun out x h=>by
  unfold stepH
  rw[any_false fun y hy=>gst_ne (h y hy),if_neg (by decide)]
 obtain⟨a1,a2⟩:=sortK (key:=fun x:Hd=>x.s) (p:=fun x y:Hd=>y.s.lt x.s) (z:=hd0) tr tot hst l [] hl List.Pairwise.nil
 obtain⟨b1,b2⟩:=sortK (key:=fun x:Hd=>x.s) (p:=fun x y:Hd=>y.s.lt x.s) (z:=hd0) tr tot hst m [] ((List.Perm.map _ h).nodup_iff.1 hl) List.Pairwise.nil
 refine pw_eq (fun a h=>by rw[gst_ord.irr] at h;cases h) tr a1 b1 fun x=> ?_
 show x∈l.foldl stepH []↔x∈m.foldl stepH []
 rw[a2,b2]
 simp[h.mem_iff]
theorem sortT_eq {l m:List Told} (hl:(l.map (·.a)).Nodup) (hm:(m.map (·.a)).Nodup) (h:∀x,x∈l↔x∈m):sortT l=sortT m:=by
 have tr:∀a b c:Told,a.a.lt b.a=true→b.a.lt c.a=true→a.a.lt c.a=true:=fun a b c h1 h2=>gid_ord.tr _ _ _ h1 h2
 have tot:∀a b:Told,a.a≠b.a→a.a.lt b.a=true∨b.a.lt a.a=true:=fun a b h=>by
  rcases gid_ord.tot a.a b.a with h1|h1|h1
  ·exact .inl h1
  ·exact absurd h1 h
  ·exact .inr h1
 have hst:∀(out:List Told) (x:Told),(∀y∈out,y.a≠x.a)→stepT out x=insB (fun y=>x.a.lt y.a) told0 out x:=fun out x h=>by
  unfold stepT
  rw[any_false fun y hy=>gid_ne (h y hy),if_neg (by decide)]
 obtain⟨a1,a2⟩:=sortK (key:=fun x:Told=>x.a) (p:=fun x y:Told=>x.a.lt y.a) (z:=told0) tr tot hst l [] hl List.Pairwise.nil
 obtain⟨b1,b2⟩:=sortK (key:=fun x:Told=>x.a) (p:=fun x y:Told=>x.a.lt y.a) (z:=told0) tr tot hst m [] hm List.Pairwise.nil
 refine pw_eq (fun a h=>by rw[gid_ord.irr] at h;cases h) tr a1 b1 fun x=> ?_
 show x∈l.foldl stepT []↔x∈m.foldl stepT []
 rw[a2,b2]
 simp[h]
theorem liveL_spec (G:List Dt):∀(l:List Dt) (out:List Gid),rises Gid.lt out→rises Gid.lt (l.foldl (stepL G) out)∧∀x,x∈l.foldl (stepL G) out↔x∈out∨∃d∈l,G.any (fun y=>y.eqb d)=false∧d.n=x
 | [],out,ho=>⟨ho,fun x=>by simp⟩
 | d ::l,out,ho=>by
  rw[List.foldl_cons]
  by_cases hc:(G.any (fun y=>y.eqb d) || out.any (fun y=>y.eqb d.n))=true
  ·have e:stepL G out d=out:=by unfold stepL;rw[if_pos hc]
   rw[e]
   obtain⟨i1,i2⟩:=liveL_spec G l out ho
   refine⟨i1,fun x=> ?_⟩
   rw[i2]
   constructor
   ·rintro(h|⟨y,hy,h1,h2⟩)
    ·exact .inl h
    ·exact .inr ⟨y,by simp[hy],h1,h2⟩
   ·rintro(h|⟨y,hy,h1,h2⟩)
    ·exact .inl h
    ·rcases List.mem_cons.1 hy with rfl|hy
     ·rw[h1,Bool.false_or,List.any_eq_true] at hc
      obtain⟨q,hq,e⟩:=hc
      rw[Gid.eqb_iff] at e
      exact .inl (by rw[←h2,←e];exact hq)
     ·exact .inr ⟨y,hy,h1,h2⟩
  ·have e:stepL G out d=insB (fun y=>d.n.lt y) Gid.zero out d.n:=by unfold stepL;rw[if_neg hc]
   have hc2:(G.any (fun y=>y.eqb d) || out.any (fun y=>y.eqb d.n))=false:=by simpa using hc
   rw[Bool.or_eq_false_iff] at hc2
   have hno:d.n∉ out:=fun hm=>by
    have:=List.any_eq_false.1 hc2.2 d.n hm
    exact this (Gid.eqb_iff.2 rfl)
   rw[e]
   obtain⟨i1,i2⟩:=liveL_spec G l _ (rises_ins gid_ord ho (z:=Gid.zero) hno)
   refine⟨i1,fun x=> ?_⟩
   rw[i2,insB_mem]
   constructor
   ·rintro((h|h)|⟨y,hy,h1,h2⟩)
    ·exact .inr ⟨d,by simp,hc2.1,h.symm⟩
    ·exact .inl h
    ·exact .inr ⟨y,by simp[hy],h1,h2⟩
   ·rintro(h|⟨y,hy,h1,h2⟩)
    ·exact .inl (.inr h)
    ·rcases List.mem_cons.1 hy with rfl|hy
     ·exact .inl (.inl h2.symm)
     ·exact .inr ⟨y,hy,h1,h2⟩
theorem any_dt {G G':List Dt} (h:∀x,x∈G↔x∈G') (d:Dt):G.any (fun y=>y.eqb d)=G'.any (fun y=>y.eqb d):=by
 rw[Bool.eq_iff_iff,List.any_eq_true,List.any_eq_true]
 constructor
 ·rintro⟨y,hy,e⟩;exact⟨y,(h y).1 hy,e⟩
 ·rintro⟨y,hy,e⟩;exact⟨y,(h y).2 hy,e⟩
theorem liveL_eq {G G' l l':List Dt} (hG:∀x,x∈G↔x∈G') (hl:∀x,x∈l↔x∈l'):liveL G l=liveL G' l':=by
 obtain⟨a1,a2⟩:=liveL_spec G l [] List.Pairwise.nil
 obtain⟨b1,b2⟩:=liveL_spec G' l' [] List.Pairwise.nil
 refine pw_eq (r:=fun a b=>Gid.lt a b=true) (fun a h=>by rw[gid_ord.irr] at h;cases h) gid_ord.tr a1 b1 fun x=> ?_
 have e1:=a2 x
 have e2:=b2 x
 unfold liveL
 rw[e1,e2]
 constructor
 ·rintro(h|⟨d,hd,h1,h2⟩)
  ·cases h
  ·exact .inr ⟨d,(hl d).1 hd,by rw[←any_dt hG];exact h1,h2⟩
 ·rintro(h|⟨d,hd,h1,h2⟩)
  ·cases h
  ·exact .inr ⟨d,(hl d).2 hd,by rw[any_dt hG];exact h1,h2⟩
structure Perm2 (L M:List (Grp×GrX)):Prop where
 pm:(L.map Prod.fst).Perm (M.map Prod.fst)
 nd:(L.map (·.1.s)).Nodup
 one:∀p∈L,p.1.ops.length≤1
 chk:∀p∈L,chkB p.1=true
theorem map_s (L:List (Grp×GrX)):L.map (·.1.s)=(L.map Prod.fst).map (·.s):=by rw[List.map_map];rfl
theorem Perm2.symm {L M:List (Grp×GrX)} (h:Perm2 L M):Perm2 M L:=by
 have hm:∀p∈M,∃q∈L,q.1=p.1:=fun p hp=>List.mem_map.1 (h.pm.mem_iff.2 (List.mem_map.2 ⟨p,hp,rfl⟩))
 refine⟨h.pm.symm,?_,fun p hp=> ?_,fun p hp=> ?_⟩
 ·have:=h.nd
  rw[map_s] at this ⊢
  exact(h.pm.map _).nodup_iff.1 this
 ·obtain⟨q,hq,e⟩:=hm p hp
  rw[←e];exact h.one q hq
 ·obtain⟨q,hq,e⟩:=hm p hp
  rw[←e];exact h.chk q hq
theorem hd_map (L:List (Grp×GrX)):L.map hdOf=(L.map Prod.fst).map fun g=>⟨g.s,g.u⟩:=by rw[List.map_map];rfl
theorem Perm2.on {L M:List (Grp×GrX)} (h:Perm2 L M):onG L=onG M:=by
 unfold onG onS onH
 rw[sortH_eq (m:=M.map hdOf) ?_ ?_]
 ·rw[List.map_map];exact h.nd
 ·rw[hd_map,hd_map];exact h.pm.map _
theorem upto_mem2 {α:Type} {f:Grp→List α} {L:List (Grp×GrX)} {x:α}:x∈upto (fun k=>f (L.getD k gp0).1) L.length↔∃p∈L,x∈f p.1:=by
 rw[upto_mem]
 constructor
 ·rintro⟨i,hi,h⟩
  exact⟨_,getD_memF hi gp0,h⟩
 ·rintro⟨p,hp,h⟩
  obtain⟨i,hi,rfl⟩:=List.mem_iff_getElem.1 hp
  exact⟨i,hi,by rwa[List.getD_eq_getElem?_getD,List.getElem?_eq_getElem hi]⟩
theorem Perm2.tells {α:Type} {L M:List (Grp×GrX)} (h:Perm2 L M) (f:Grp→List α) (x:α):x∈upto (fun k=>f (L.getD k gp0).1) L.length↔x∈upto (fun k=>f (M.getD k gp0).1) M.length:=by
 rw[upto_mem2,upto_mem2]
 constructor
 ·rintro⟨p,hp,hx⟩
  obtain⟨q,hq,e⟩:=List.mem_map.1 (h.pm.mem_iff.1 (List.mem_map.2 ⟨p,hp,rfl⟩))
  exact⟨q,hq,by rw[e];exact hx⟩
 ·rintro⟨p,hp,hx⟩
  obtain⟨q,hq,e⟩:=List.mem_map.1 (h.pm.mem_iff.2 (List.mem_map.2 ⟨p,hp,rfl⟩))
  exact⟨q,hq,by rw[e];exact hx⟩
theorem Perm2.have_ {L M:List (Grp×GrX)} (h:Perm2 L M) (x:Dt):x∈haveL L↔x∈haveL M:=by
 unfold haveL
 rw[←h.on]
 exact h.tells (fun g=>upto (oHv (onB (onG L) g.s) g.s g.ops) g.ops.length) x
theorem Perm2.lost {L M:List (Grp×GrX)} (h:Perm2 L M) (x:Dt):x∈lostL L↔x∈lostL M:=by
 unfold lostL
 rw[←h.on]
 exact h.tells (fun g=>upto (oLs (onB (onG L) g.s) g.ops) g.ops.length) x
theorem Perm2.live {L M:List (Grp×GrX)} (h:Perm2 L M):liveG L=liveG M:=liveL_eq h.lost h.have_
theorem told_keys (ON:List Gst) (L:List (Grp×GrX)) (h1:∀p∈L,p.1.ops.length≤1):∀n,n≤L.length→((upto (gTo ON L) n).map (·.a)).Sublist ((L.take n).map fun p=>(⟨p.1.s,0⟩:Gid))
 |0,_=>by show List.Sublist [] _;exact List.nil_sublist _
 | n+1,hn=>by
  have hm:=getD_memF (show n<L.length by omega) gp0
  have ho:=h1 _ hm
  have e:L.take (n+1)=L.take n++[L.getD n gp0]:=by
   rw[List.take_add_one,List.getD_eq_getElem?_getD,List.getElem?_eq_getElem (by omega)];rfl
  rw[upto_succ,List.map_append,e,List.map_append]
  refine List.Sublist.append (told_keys ON L h1 n (by omega)) ?_
  unfold gTo
  generalize L.getD n gp0=p at *
  rcases(show p.1.ops.length=0∨p.1.ops.length=1 by omega) with h|h
  ·rw[h];exact List.nil_sublist _
  ·rw[h]
   show List.Sublist (((oTo _ _ _ 0)++[]).map _) _
   rw[List.append_nil]
   unfold oTo
   split
   ·exact List.Sublist.refl _
   ·exact List.nil_sublist _
theorem Perm2.keys {L M:List (Grp×GrX)} (h:Perm2 L M) (ON:List Gst):((upto (gTo ON L) L.length).map (·.a)).Nodup:=by
 refine(told_keys ON L h.one L.length (Nat.le_refl _)).nodup ?_
 rw[List.take_length]
 have:=h.nd
 refine List.Pairwise.map _ (R:=fun a b:Grp×GrX=>a.1.s≠b.1.s) (fun a b hab e=>hab ?_) ?_
 ·injection e
 ·exact List.pairwise_map.1 this
theorem Perm2.told {L M:List (Grp×GrX)} (h:Perm2 L M):sortT (toldG L)=sortT (toldG M):=by
 refine sortT_eq ?_ ?_ fun x=> ?_
 ·exact h.keys _
 ·exact h.symm.keys _
 ·unfold toldG
  rw[←h.on]
  exact h.tells (fun g=>upto (oTo (onB (onG L) g.s) g.s g.ops) g.ops.length) x
theorem flat_one {α:Type} {f:Grp→List α} {s0:Gst}:∀{L:List Grp},(L.map (·.s)).Nodup→(∀g∈L,(f g).length≤1)→(∀g∈L,f g≠[]→g.s=s0)→(L.flatMap f).length≤1
 | [],_,_,_=>Nat.zero_le _
 | g ::L,hn,h1,h2=>by
  rw[List.map_cons,List.nodup_cons] at hn
  rw[List.flatMap_cons,List.length_append]
  by_cases hg:f g=[]
  ·rw[hg]
   have:=flat_one (s0:=s0) hn.2 (fun x hx=>h1 x (by simp[hx])) (fun x hx=>h2 x (by simp[hx]))
   simpa using this
  ·have e:L.flatMap f=[]:=by
    rw[List.flatMap_eq_nil_iff]
    intro x hx
    by_cases hx2:f x=[]
    ·exact hx2
    ·have a:=h2 g (by simp) hg
     have b:=h2 x (by simp[hx]) hx2
     exact absurd (List.mem_map.2 ⟨x,hx,by rw[b,a]⟩) hn.1
   rw[e]
   have:=h1 g (by simp)
   simpa using this
theorem perm_one {α:Type} {l m:List α} (h:l.Perm m) (hl:l.length≤1):l=m:=by
 match l,hl with
 | [],_=>exact h.symm.eq_nil.symm ▸ rfl
 | [a],_=>exact(List.perm_singleton.1 h.symm).symm
theorem Perm2.made {L M:List (Grp×GrX)} (h:Perm2 L M) (p:Plc):madeP L p=madeP M p:=by
 have e:∀K:List (Grp×GrX),madeP K p=(K.map Prod.fst).flatMap fun g=>opsM p g.ops:=fun K=>by
  unfold madeP;rw[List.flatMap_map]
 rw[e,e]
 refine perm_one (h.pm.flatMap_right _) (flat_one (s0:=p.n.s) ?_ (fun g hg=> ?_) (fun g hg hne=> ?_))
 ·have:=h.nd;rwa[map_s] at this
 ·obtain⟨q,hq,rfl⟩:=List.mem_map.1 hg
  unfold opsM
  rw[List.length_map]
  exact Nat.le_trans (List.length_filter_le _ _) (h.one q hq)
 ·obtain⟨q,hq,rfl⟩:=List.mem_map.1 hg
  obtain⟨y,hy⟩:=List.exists_mem_of_ne_nil _ hne
  unfold opsM at hy
  obtain⟨o,ho,-⟩:=List.mem_map.1 hy
  obtain⟨ho1,ho2⟩:=List.mem_filter.1 ho
  rw[Bool.and_eq_true,decide_eq_true_eq,Gid.eqb_iff] at ho2
  have:=op_node (opB_one (h.chk q hq) (h.one q hq) ho1) ho2.1
  rw[ho2.2] at this
  rw[this]
theorem Perm2.place {L M:List (Grp×GrX)} (h:Perm2 L M):placeG L=placeG M:=by
 unfold placeG madeL replayL
 rw[h.told]
 congr 1
 funext p
 exact h.made p
theorem Perm2.items {L M:List (Grp×GrX)} (h:Perm2 L M):itemsG L=itemsG M:=by
 unfold itemsG
 rw[h.place,h.live]
def bhStep (x:Gid) (out:List Elt) (e:Elt):List Elt:=if e.af.eqb x=true then insB (fun y=>y.id.lt e.id) elt0 out e else out
def bhW (all:List Elt) (x:Gid):List Elt:=all.foldl (bhStep x) []
def ordF (all:List Elt):Nat→List Elt→List Elt
 |0,_=>[]
 |_+1,[]=>[]
 |n+1,x::wait=>x::ordF all n (bhW all x.id++wait)
def ordW (all:List Elt):List Elt:=ordF all all.length (bhW all .zero)
theorem bh_fold (x:Gid):∀(l out:List Elt),l.foldl (bhStep x) out=(l.filter fun e=>e.af.eqb x).foldl (fun o e=>insB (fun y=>y.id.lt e.id) elt0 o e) out
 | [],out=>rfl
 |e::l,out=>by
  rw[List.foldl_cons,List.filter_cons]
  unfold bhStep
  by_cases h:e.af.eqb x=true
  ·rw[if_pos h,if_pos h,List.foldl_cons];exact bh_fold x l _
  ·rw[if_neg h,if_neg h];exact bh_fold x l _
theorem elt_tr:∀a b c:Elt,b.id.lt a.id=true→c.id.lt b.id=true→c.id.lt a.id=true:=fun a b c h1 h2=>gid_ord.tr _ _ _ h2 h1
theorem elt_tot:∀a b:Elt,a.id≠b.id→b.id.lt a.id=true∨a.id.lt b.id=true:=fun a b h=>by
 rcases gid_ord.tot a.id b.id with h1|h1|h1
 ·exact .inr h1
 ·exact absurd h1 h
 ·exact .inl h1
theorem bh_spec {all:List Elt} (hn:(all.map (·.id)).Nodup) (x:Gid):((bhW all x).Pairwise fun a b=>b.id.lt a.id=true)∧∀y,y∈bhW all x↔y∈all∧y.af=x:=by
 unfold bhW
 rw[bh_fold]
 have hs:((all.filter fun e=>e.af.eqb x).map (·.id)).Nodup:=(List.Sublist.map _ (List.filter_sublist (p:=fun e:Elt=>e.af.eqb x) (l:=all))).nodup hn
 obtain⟨a1,a2⟩:=sortK (key:=fun x:Elt=>x.id) (p:=fun x y:Elt=>y.id.lt x.id) (z:=elt0) (st:=fun o e=>insB (fun y=>y.id.lt e.id) elt0 o e) elt_tr elt_tot (fun _ _ _=>rfl) (all.filter fun e=>e.af.eqb x) [] hs List.Pairwise.nil
 refine⟨a1,fun y=> ?_⟩
 rw[a2]
 simp[List.mem_filter,Gid.eqb_iff]
theorem bh_eq {l m:List Elt} (hn:(l.map (·.id)).Nodup) (h:l.Perm m) (x:Gid):bhW l x=bhW m x:=by
 obtain⟨a1,a2⟩:=bh_spec hn x
 obtain⟨b1,b2⟩:=bh_spec ((List.Perm.map _ h).nodup_iff.1 hn) x
 refine pw_eq (fun a h=>by rw[gid_ord.irr] at h;cases h) elt_tr a1 b1 fun y=> ?_
 rw[a2,b2,h.mem_iff]
theorem ordF_eq {l m:List Elt} (hb:∀x,bhW l x=bhW m x):∀n w,ordF l n w=ordF m n w
 |0,_=>rfl
 |_+1,[]=>rfl
 |n+1,x::w=>by
  show x::ordF l n (bhW l x.id++w)=x::ordF m n (bhW m x.id++w)
  rw[hb,ordF_eq hb n]
theorem ordW_eq {l m:List Elt} (hn:(l.map (·.id)).Nodup) (h:l.Perm m):ordW l=ordW m:=by
 have hb:=bh_eq hn h
 unfold ordW
 rw[h.length_eq,hb,ordF_eq hb]
theorem id_inj {l:List Elt} (hn:(l.map (·.id)).Nodup) {y z:Elt} (hy:y∈l) (hz:z∈l) (e:y.id=z.id):y=z:=by
 induction l with
 |nil=>cases hy
 | cons a l ih=>
  rw[List.map_cons,List.nodup_cons] at hn
  rcases List.mem_cons.1 hy with h1|h1
  ·rcases List.mem_cons.1 hz with h2|h2
   ·rw[h1,h2]
   ·exact absurd (List.mem_map.2 ⟨z,h2,by rw[←e,h1]⟩) hn.1
  ·rcases List.mem_cons.1 hz with h2|h2
   ·exact absurd (List.mem_map.2 ⟨y,h1,by rw[e,h2]⟩) hn.1
   ·exact ih hn.2 h1 h2
theorem sub_len {α:Type}:∀{l m:List α},l.Nodup→(∀y∈l,y∈m)→l.length≤m.length
 | [],m,_,_=>Nat.zero_le _
 | x::l,m,hn,h=>by
  obtain⟨s,t,rfl⟩:=List.append_of_mem (h x (by simp))
  rw[List.nodup_cons] at hn
  have h1:=sub_len (l:=l) (m:=s++t) hn.2 fun y hy=>by
   have h2:=h y (by simp[hy])
   rw[List.mem_append,List.mem_cons] at h2
   rw[List.mem_append]
   rcases h2 with h2|rfl|h2
   ·exact .inl h2
   ·exact absurd hy hn.1
   ·exact .inr h2
  simp at h1 ⊢
  omega
structure Wait (all out wait:List Elt):Prop where
 nod:((out++wait).map (·.id)).Nodup
 mem:∀y∈out++wait,y∈all
 beh:∀y∈out++wait,y.af=Gid.zero∨∃z∈out,y.af=z.id
theorem pw_nodup {l:List Elt} (h:l.Pairwise fun a b=>b.id.lt a.id=true):(l.map (·.id)).Nodup:=by
 rw[List.nodup_iff_pairwise_ne,List.pairwise_map]
 exact h.imp fun {a b} h e=>by rw[e,gid_ord.irr] at h;cases h
theorem Wait.start {all:List Elt} (hn:(all.map (·.id)).Nodup):Wait all [] (bhW all .zero):=by
 obtain⟨a1,a2⟩:=bh_spec hn .zero
 exact⟨pw_nodup a1,fun y hy=>((a2 y).1 hy).1,fun y hy=> .inl ((a2 y).1 hy).2⟩
theorem Wait.step {all out w:List Elt} {x:Elt} (hn:(all.map (·.id)).Nodup) (hz:∀y∈all,y.id≠ .zero) (h:Wait all out (x::w)):Wait all (out++[x]) (bhW all x.id++w):=by
 obtain⟨a1,a2⟩:=bh_spec hn x.id
 have hx:x∈all:=h.mem x (by simp)
 have hN:=h.nod
 rw[List.map_append,List.map_cons,List.nodup_append] at hN
 obtain⟨n1,n2,n3⟩:=hN
 have n4:=List.nodup_cons.1 n2
 have old:∀y,y∈out++x::w→y∉ bhW all x.id:=fun y hy hb=>by
  have hya:=((a2 y).1 hb).2
  rcases h.beh y hy with e|⟨z,hz1,e⟩
  ·exact hz x hx (hya.symm.trans e)
  ·exact n3 z.id (List.mem_map.2 ⟨z,hz1,rfl⟩) x.id (by simp) (e.symm.trans hya)
 have one:∀y∈all,∀z∈all,y.id=z.id→y=z:=fun y hy z hz e=>id_inj hn hy hz e
 have hp:((out++[x])++(bhW all x.id++w)).Perm (bhW all x.id++(out++x::w)):=by
  have h1:(out++[x])++(bhW all x.id++w)=((out++[x])++bhW all x.id)++w:=(List.append_assoc ..).symm
  have h2:bhW all x.id++(out++x::w)=(bhW all x.id++(out++[x]))++w:=by simp
  rw[h1,h2]
  exact List.perm_append_comm.append_right w
 refine⟨?_,fun y hy=> ?_,fun y hy=> ?_⟩
 ·refine(List.Perm.map _ hp).nodup_iff.2 ?_
  rw[List.map_append,List.nodup_append]
  refine⟨pw_nodup a1,h.nod,fun a ha b hb e=> ?_⟩
  obtain⟨y,hy,rfl⟩:=List.mem_map.1 ha
  obtain⟨z,hz,rfl⟩:=List.mem_map.1 hb
  have:=one y ((a2 y).1 hy).1 z (h.mem z hz) e
  subst this
  exact old y hz hy
 ·rcases List.mem_append.1 (hp.mem_iff.1 hy) with h1|h1
  ·exact((a2 y).1 h1).1
  ·exact h.mem y h1
 ·rcases List.mem_append.1 (hp.mem_iff.1 hy) with h1|h1
  ·exact .inr ⟨x,by simp,((a2 y).1 h1).2⟩
  ·rcases h.beh y h1 with e|⟨z,hz1,e⟩
   ·exact .inl e
   ·exact .inr ⟨z,List.mem_append_left _ hz1,e⟩
theorem Wait.len {all out w:List Elt} (h:Wait all out w):out.length+w.length≤all.length:=by
 have h1:=sub_len h.nod (m:=all.map (·.id)) fun y hy=>by
  obtain⟨z,hz,rfl⟩:=List.mem_map.1 hy
  exact List.mem_map.2 ⟨z,h.mem z hz,rfl⟩
 simpa using h1
theorem ord_step {all out w:List Elt} {x:Elt} (h:Wait all out (x::w)):ordF all (all.length-out.length) (x::w)=x::ordF all (all.length-(out++[x]).length) (bhW all x.id++w):=by
 have h1:=h.len
 obtain⟨n,hn⟩:∃n,all.length-out.length=n+1:=⟨all.length-out.length-1,by simp at h1;omega⟩
 have h2:all.length-(out++[x]).length=n:=by rw[List.length_append];simp;omega
 rw[hn,h2];rfl
theorem ord_end (all:List Elt):∀n,ordF all n []=[]
 |0=>rfl
 |_+1=>rfl
end
end Go.Proofs.YtkhmicndehlneaaGreatDoor
