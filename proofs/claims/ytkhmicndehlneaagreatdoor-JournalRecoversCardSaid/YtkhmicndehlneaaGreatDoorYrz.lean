/- Part 26 of the walks and plain laws that this claim uses, joined. Conditions: as each theorem states. -/
import Derived.Test.YtkhmicndehlneaaGreatDoorYrx
namespace Go.Proofs.YtkhmicndehlneaaGreatDoor
set_option maxRecDepth 100000
set_option maxHeartbeats 16000000
set_option linter.unusedVariables false
section
open Go.RowKit Go.Lib Go.Sort
structure Ord (α:Type) (lt:α->α->Bool):Prop where
 irr:∀a,lt a a=false
 tr:∀a b c,lt a b=true->lt b c=true->lt a c=true
 tot:∀a b,lt a b=true∨a=b∨lt b a=true
def iJ {α:Type} (lt:α->α->Bool) (l:List α):Prop:=l.Pairwise λa b=>lt a b=true
theorem insIx_spec {α:Type} (p:α->Bool) (z:α) (L:List α):∀n,n<=L.length->(∀j,ek p z L n<=j->j<n->p (L.getD j z)=true)∧(∀k,ek p z L n=k+1->p (L.getD k z)=false)
 |0,_=>⟨λj _ h=>by omega,λk h=>by simp[ek] at h⟩
 | n+1,hn=>by
  by_cases hp:p (L.getD n z)=true
  ·rw[iL hp]
   obtain⟨i1,i2⟩:=insIx_spec p z L n (by omega)
   refine⟨λj h1 h2=> ?_,i2⟩
   rcases cJ j n with h3|h3
   ·exact i1 j h1 h3
   ·obtain rfl:j=n:=by omega
    exact hp
  ·have e:ek p z L (n+1)=n+1:=gi (.inr ⟨n,rfl,by simpa using hp⟩)
   rw[e]
   refine⟨λj h1 h2=>by omega,λk h=> ?_⟩
   obtain rfl:k=n:=by omega
   simpa using hp
theorem rises_ins {α:Type} {c:α->α->Bool} (h:Ord α c) {L:List α} (v:iJ c L) {x z:α} (w:x∉ L):iJ c (insB (λy=>c x y) z L x):=by
 obtain⟨A,B⟩:=insIx_spec (λy=>c x y) z L L.length (aa _);have C:=insIx_le (λy=>c x y) z L L.length;unfold insB;generalize ek (λy=>c x y) z L L.length=k at *;unfold slid iJ;have d:=v;unfold iJ at d;have g:∀j (r:j<L.length),L.getD j z=L[j]:=λj r=>by rw[ae,aw r];rfl
 rw[List.pairwise_append,List.pairwise_cons];have l:∀y∈L.drop k,c x y=true:=λy n=>by
  obtain⟨i,f,rfl⟩:=dX.1 n;rw[List.getElem_drop,<-g _ (by rw[cb] at f;omega)];rw[cb] at f;exact A (k+i) (by omega) (by omega)
 have m:∀y∈L.take k,c y x=true:=λy n=>by
  obtain⟨i,f,rfl⟩:=dX.1 n;rw[bf] at f;rw[List.getElem_take];obtain⟨q,rfl⟩:∃q,k=q+1:=⟨k-1,by omega⟩;have o:=B q rfl;rw[g q (by omega)] at o;have s:c L[q] x=true:=by
   rcases h.tot L[q] x with e|e|e
   ·exact e
   ·exact absurd (e ▸ ch _) w
   ·rw[e] at o;cases o
  rcases cJ i q with t|t
  ·exact h.tr _ _ _ (iR.1 d i q (by omega) (by omega) t) s
  ·obtain rfl:i=q:=by omega
   exact s
 refine⟨d.sublist (List.take_sublist _ _),⟨l,d.sublist (List.drop_sublist _ _)⟩,λa u b p=> ?_⟩;rcases dh.1 p with rfl|p
 ·exact m a u
 ·exact h.tr _ _ _ (m a u) (l b p)
theorem rises_at {α:Type} {b:α->α->Bool} {L:List α} (e:iJ b L) {i:Nat} (c:i<L.length) (f:0<i) (z:α):b (L.getD (i-1) z) (L.getD i z)=true:=by
 have a:∀j (d:j<L.length),L.getD j z=L[j]:=λj d=>by rw[ae,aw d];rfl
 rw[a i c,a (i-1) (by omega)];exact iR.1 e (i-1) i (by omega) c (by omega)
theorem gst_ord:Ord Gst Gst.lt:=by
 refine⟨λa=> ?_,λa b c=> ?_,λa b=> ?_⟩
 ·simp[Gst.lt]
 ·simp only[Gst.lt,dk,ay,au];omega
 ·obtain⟨a,b⟩:=a;rename_i b';obtain⟨c,d⟩:=b';simp only[Gst.lt,dk,ay,au,Gst.mk.injEq];omega
theorem gid_ord:Ord Gid Gid.lt:=by
 refine⟨λa=> ?_,λa b c=> ?_,λa b=> ?_⟩
 ·simp[Gid.lt,gst_ord.irr]
 ·obtain⟨⟨d,e⟩,f⟩:=a;obtain⟨⟨g,h⟩,i⟩:=b;obtain⟨⟨j,k⟩,l⟩:=c;simp only[Gid.lt,Gst.lt,Gst.eqb,dk,ay,au];omega
 ·obtain⟨⟨d,e⟩,f⟩:=a;obtain⟨⟨g,h⟩,i⟩:=b;simp only[Gid.lt,Gst.lt,Gst.eqb,dk,ay,au,Gid.mk.injEq,Gst.mk.injEq];omega
structure KnG (L:List (Grp×GrX)) (s:Gst):Prop where
 chk:∀p∈L,chkB p.1=true
 nd:(L.map (·.1.s)).Nodup
 lt:∀p∈L,p.1.s.lt s=true
 sr:s.right=true
 len:L.length<=16
 one:∀p∈L,p.1.ops.length<=1
 sml:∀p∈L,∀o∈p.1.ops,o.dots.length<=16∧o.text.size<=2
def eH (L:List (Grp×GrX)) (x:Gid):Prop:=∃p∈L,x.s=p.1.s∧0<=x.i∧x.i<=400000
theorem KnG.ahead {L:List (Grp×GrX)} {s:Gst} (h:KnG L s) {x:Gid} (b:eH L x):de s x 0=true:=by
 obtain⟨p,a,e,c,d⟩:=b;have f:=(fp (h.chk p a)).1;unfold de Gid.right;rw[e,f,h.lt p a];simp[c,d]
theorem KnG.parent {L:List (Grp×GrX)} {s:Gst} (h:KnG L s) {x:Gid} (a:x= .zero∨eH L x):dK s x 0=true:=by
 unfold dK;rcases a with rfl|a
 ·rfl
 ·rw[h.ahead a,Bool.or_true]
theorem opB_one {g:Grp} (a:chkB g=true) (c:g.ops.length<=1) {o:Gop} (b:o∈g.ops):opB g.s o 0=true:=by
 obtain⟨s,n,d,u,ops⟩:=g;simp only[chkB,ay] at a;have a:=a.2;cases ops with
 |nil=>cases b
 | cons x l=>
  have e:l=[]:=cu (by simp at c;simpa using c);subst e;rw[ba] at b;subst b;split at a
  ·simp only[opsB,ay] at a;exact a.2.1
  ·simp at a
theorem op_node {s:Gst} {o:Gop} (h:opB s o 0=true) (a:o.kind=0):o.node=⟨s,0⟩:=by
 simp only[opB,ay] at h;have h:=h.2;unfold dL at h;rw[aN a] at h;simp only[ay,Gid.eqb_iff] at h;exact h.1.1
theorem op_elem {s:Gst} {o:Gop} (h:opB s o 0=true) (a:o.kind=3):o.elem=⟨s,0⟩:=by
 simp only[opB,ay] at h;have h:=h.2;unfold dL at h;rw[aE (by omega),aE (by omega),aE (by omega),aN a] at h;simp only[ay,Gid.eqb_iff] at h;exact h.1.2
theorem KnG.nodes {L:List (Grp×GrX)} {s:Gst} (h:KnG L s) (d:Bool):∀x∈fD d L,eH L x:=by
 intro x a;unfold fD at a;rw[dS] at a;obtain⟨p,c,a⟩:=a;unfold opsN at a;rw[bN] at a;obtain⟨o,b,rfl⟩:=a;rw[g7] at b;obtain⟨b,e⟩:=b;simp only[ay,au] at e;rw[op_node (opB_one (h.chk p c) (h.one p c) b) e.1];exact⟨p,c,rfl,by simp,by simp⟩
theorem pickD_mem (l:List Gid) (n:Nat):kg l n= .zero∨kg l n∈l:=by
 unfold kg;by_cases h:n % (l.length+1)<l.length
 ·exact .inr (cg h _)
 ·left;rw[ae,cz (by omega)];rfl
theorem KnG.pick {L:List (Grp×GrX)} {l:List Gid} (h:∀x∈l,eH L x) (n:Nat):kg l n= .zero∨eH L (kg l n):=(pickD_mem l n).imp id (h _)
theorem foldE_mem:∀(l out:List Gid) (y:Gid),y∈l.foldl (λout x=>insB (λy:Gid=>x.lt y) Gid.zero out x) out↔y∈l∨y∈out
 | [],out,y=>by simp
 | x::l,out,y=>by
  rw[ed,foldE_mem l,insB_mem,dh]
  constructor
  ·rintro(h|h|h)
   ·exact .inl (.inr h)
   ·exact .inl (.inl h)
   ·exact .inr h
  ·rintro((h|h)|h)
   ·exact .inr (.inl h)
   ·exact .inl h
   ·exact .inr (.inr h)
theorem sortI_mem {l:List Gid} {y:Gid}:y∈sortI l↔y∈l:=by unfold sortI;rw[foldE_mem];simp
theorem foldE_rises:∀(l out:List Gid),(out++l).Nodup->iJ Gid.lt out->iJ Gid.lt (l.foldl (λout x=>insB (λy:Gid=>x.lt y) Gid.zero out x) out)
 | [],out,_,h=>h
 |x::l,out,hn,h=>by
  have hp:(insB (λy:Gid=>x.lt y) Gid.zero out x++l).Perm (out++x::l):=((insB_perm _ _ _ _).append_right l).trans List.perm_middle.symm
  refine foldE_rises l _ (hp.nodup_iff.2 hn) (rises_ins gid_ord h λhx=> ?_)
  rw[fZ] at hn
  exact hn.2.2 x hx x (by simp) rfl
theorem eltStep_nodup {N:List Gid} {x:Gid} (h:N.Nodup):(eI N x).Nodup:=by
 unfold eI;split
 ·exact h
 ·rename_i c;rw[fZ];refine⟨h,by simp,λa f b d e=>c ?_⟩;rw[ba] at d;subst d;subst e;exact eQ.2 ⟨a,f,Gid.eqb_iff.2 rfl⟩
theorem eltStep_mem {N:List Gid} {x y:Gid} (h:y∈eI N x):y=x∨y∈N:=by
 unfold eI at h;split at h
 ·exact .inr h
 ·rcases aD.1 h with h|h
  ·exact .inr h
  ·exact .inl (ba.1 h)
theorem elt1_nodup:∀(l:List Gid) {N:List Gid},N.Nodup->(l.foldl eI N).Nodup
 | [],N,h=>h
 |x::l,N,h=>elt1_nodup l (eltStep_nodup h)
theorem elt1_mem:∀(l:List Gid) {N:List Gid} {y:Gid},y∈l.foldl eI N->y∈l∨y∈N
 | [],N,y,h=> .inr h
 | x::l,N,y,h=>by
  rcases elt1_mem l h with h|h
  ·exact .inl (by simp[h])
  ·rcases eltStep_mem h with rfl|h
   ·exact .inl (by simp)
   ·exact .inr h
theorem elemIds_nodup (L:List Rn):(gK L).Nodup:=by
 have:∀(L:List Rn) (N:List Gid),N.Nodup->(L.foldl (λN r=>(im r).foldl eI N) N).Nodup:=by
  intro L;induction L with
  |nil=>exact λN h=>h
  |cons r L ih=>exact λN h=>ih _ (elt1_nodup _ h)
 exact this L [] List.nodup_nil
theorem elemIds_mem {L:List Rn} {y:Gid} (h:y∈gK L):∃r∈L,y∈im r:=by
 have:∀(L:List Rn) (N:List Gid),y∈L.foldl (λN r=>(im r).foldl eI N) N->(∃r∈L,y∈im r)∨y∈N:=by
  intro L;induction L with
  |nil=>exact λN h=> .inr h
  | cons r L ih=>
   intro N h;rcases ih _ h with⟨q,hq,e⟩|h
   ·exact .inl ⟨q,by simp[hq],e⟩
   ·rcases elt1_mem _ h with h|h
    ·exact .inl ⟨r,by simp,h⟩
    ·exact .inr h
 rcases this L [] h with h|h
 ·exact h
 ·cases h
theorem runsL_in {x:Gid} {L:List (Grp×GrX)} {r:Rn} (h:r∈fP x L):∃p∈L,∃o∈p.1.ops,o.kind=3∧r=⟨o.after,o.elem,o.text⟩:=by
 unfold fP at h;rw[dS] at h;obtain⟨p,b,h⟩:=h;unfold opsR at h;rw[bN] at h;obtain⟨o,a,rfl⟩:=h;rw[g7] at a;simp only[ay,au] at a;exact⟨p,b,o,a.1,a.2.1,rfl⟩
theorem KnG.run {L:List (Grp×GrX)} {s:Gst} (h:KnG L s) {x:Gid} {r:Rn} (c:r∈fP x L):∃p∈L,r.el=⟨p.1.s,0⟩∧r.tx.size<=2:=by
 obtain⟨p,a,o,b,d,rfl⟩:=runsL_in c;exact⟨p,a,op_elem (opB_one (h.chk p a) (h.one p a) b) d,(h.sml p a o b).2⟩
theorem KnG.elems {L:List (Grp×GrX)} {s:Gst} (h:KnG L s) (x:Gid):(∀y∈fS L x,eH L y)∧iJ Gid.lt (fS L x):=by
 refine⟨λy a=> ?_,foldE_rises _ [] (by simpa using elemIds_nodup _) List.Pairwise.nil⟩;unfold fS at a;rw[sortI_mem] at a;obtain⟨r,c,a⟩:=elemIds_mem a;obtain⟨p,d,e,f⟩:=h.run c;unfold im at a;rw[bN] at a;obtain⟨k,b,rfl⟩:=a;have b:=gy.1 b;have:=cntD_le r.tx;rw[e];exact⟨p,d,rfl,by show(0:Int)<=0+(k:Int);omega,by show(0:Int)+(k:Int)<=400000;omega⟩
theorem opsR_len (x:Gid) (l:List Gop):(opsR x l).length<=l.length:=by
 unfold opsR;rw[aV];exact ij _ _
theorem runsL_len (x:Gid):∀(L:List (Grp×GrX)),(∀p∈L,p.1.ops.length<=1)->(fP x L).length<=L.length
 | [],_=>aa _
 |p::L,h=>by
  have h1:=runsL_len x L λq hq=>h q (by simp[hq])
  have h2:=opsR_len x p.1.ops
  have h3:=h p (by simp)
  unfold fP at h1 ⊢
  rw[cG,al,bQ]
  omega
theorem elts_len:∀(l N:List Gid),(l.foldl eI N).length<=N.length+l.length
 | [],N=>aa _
 | x::l,N=>by
  have h1:=elts_len l (eI N x)
  have h2:(eI N x).length<=N.length+1:=by
   unfold eI;split
   ·omega
   ·simp
  rw[ed,bQ];omega
theorem elemIds_len:∀(L:List Rn) (N:List Gid),(∀r∈L,r.tx.size<=2)->(L.foldl (λN r=>(im r).foldl eI N) N).length<=N.length+2*L.length
 | [],N,_=>aa _
 |r::L,N,h=>by
  have h1:=elemIds_len L ((im r).foldl eI N) λq hq=>h q (by simp[hq])
  have h2:=elts_len (im r) N
  have h3:=names_len r
  have h4:=cntD_le r.tx
  have h5:=h r (by simp)
  rw[ed,bQ]
  omega
theorem KnG.elemsLen {L:List (Grp×GrX)} {s:Gst} (h:KnG L s) (x:Gid):(fS L x).length<=32:=by
 have a:=elemIds_len (fP x L) [] λr b=>(h.run b).elim λp c=>c.2.2;have d:=runsL_len x L h.one;have e:=h.len;unfold fS;rw[sortI_len];unfold gK;simp only[fY] at a;omega
theorem opsN_len (d:Bool) (l:List Gop):(opsN d l).length<=l.length:=by
 unfold opsN;rw[aV];exact ij _ _
theorem nodesL_len (d:Bool):∀(L:List (Grp×GrX)),(∀p∈L,p.1.ops.length<=1)->(fD d L).length<=L.length
 | [],_=>aa _
 |p::L,h=>by
  have h1:=nodesL_len d L λq hq=>h q (by simp[hq])
  have h2:=opsN_len d p.1.ops
  have h3:=h p (by simp)
  unfold fD at h1 ⊢
  rw[cG,al,bQ]
  omega
theorem haveG_in {a:List Gst} {L:List (Grp×GrX)} {d:Dt} {n:Nat} (c:n<=L.length) (h:d∈upto (gHv a L) n):∃p∈L,d.b=p.1.s:=by
 obtain⟨k,e,h⟩:=upto_mem.1 h;unfold gHv at h;obtain⟨j,f,h⟩:=upto_mem.1 h;unfold oHv at h;split at h
 ·rw[ba] at h;subst h;exact⟨L.getD k gp0,cg (by omega) _,rfl⟩
 ·cases h
theorem gHv_len (a:List Gst) (L:List (Grp×GrX)) (h:∀p∈L,p.1.ops.length<=1):∀n,n<=L.length->(upto (gHv a L) n).length<=n
 |0,_=>aq _
 | n+1,hn=>by
  rw[fo,al]
  have h1:=gHv_len a L h n (by omega)
  have h2:=h _ (cg (show n<L.length by omega) gp0)
  have h3:(gHv a L n).length<=1:=by
   unfold gHv;rcases(show(L.getD n gp0).1.ops.length=0∨(L.getD n gp0).1.ops.length=1 by omega) with e|e
   ·rw[e];exact aq _
   ·rw[e,fo];show([]++_:List Dt).length<=1;unfold oHv;split<;>simp
  omega
theorem stepO_mem {G:List Dt} {x:Gid} {a:List Gst} {d:Dt} {y:Gst} (h:y∈stepO G x a d):y=d.b∨y∈a:=by
 unfold stepO at h;split at h
 ·exact .inr h
 ·exact insB_mem.1 h
theorem ofL_mem {G:List Dt} {x:Gid}:∀(l:List Dt) {out:List Gst} {y:Gst},y∈l.foldl (stepO G x) out->(∃d∈l,y=d.b)∨y∈out
 | [],out,y,h=> .inr h
 | d::l,out,y,h=>by
  rcases ofL_mem l h with⟨e,he,h1⟩|h1
  ·exact .inl ⟨e,by simp[he],h1⟩
  ·rcases stepO_mem h1 with h2|h2
   ·exact .inl ⟨d,by simp,h2⟩
   ·exact .inr h2
theorem stepO_rises {G:List Dt} {x:Gid} {a:List Gst} {d:Dt} (h:iJ Gst.lt a):iJ Gst.lt (stepO G x a d):=by
 unfold stepO;split
 ·exact h
 ·rename_i c;refine rises_ins gst_ord h λb=>c ?_;rw[dk];exact .inr (eQ.2 ⟨_,b,Gst.eqb_iff.2 rfl⟩)
theorem ofL_rises {G:List Dt} {x:Gid}:∀(l:List Dt) {out:List Gst},iJ Gst.lt out->iJ Gst.lt (l.foldl (stepO G x) out)
 | [],out,h=>h
 |d::l,out,h=>ofL_rises l (stepO_rises h)
theorem KnG.dots {L:List (Grp×GrX)} {s:Gst} (h:KnG L s) (y:Gid):iq s (ofL (jQ L) y (jR L))=true∧(ofL (jQ L) y (jR L)).length<=16:=by
 have g:iJ Gst.lt (ofL (jQ L) y (jR L)):=ofL_rises _ List.Pairwise.nil;have j:∀d∈ofL (jQ L) y (jR L),∃p∈L,d=p.1.s:=λd k=>by
  rcases ofL_mem _ k with⟨e,he,a⟩|a
  ·obtain⟨p,b,c⟩:=haveG_in (aa _) he;exact⟨p,b,by rw[a,c]⟩
  ·cases a
 have l:(ofL (jQ L) y (jR L)).length<=16:=by
  have a:=ofL_len (jQ L) y (jR L) [];have c:=gHv_len (onG L) L h.one L.length (aa _);have n:=h.len;unfold ofL;unfold jR at a ⊢;simp only[fY] at a;omega
 refine⟨?_,l⟩;unfold iq;rw[ay,au];refine⟨es λi f=> ?_,by omega⟩;obtain⟨p,b,e⟩:=j _ (cg f .zero);have m:=g;unfold dotB;rw[ay,ay];refine⟨⟨?_,?_⟩,?_⟩
 ·rw[e];exact(fp (h.chk p b)).1
 ·rw[e];have a:=h.lt p b;cases c:s.lt p.1.s with
  |false=>rfl
  |true=>have:=gst_ord.tr _ _ _ a c;rw[gst_ord.irr] at this;cases this
 ·rcases Nat.eq_zero_or_pos i with a|a
  ·simp[a]
  ·rw[rises_at m f a,Bool.or_true]
def nmB (b:Nat):ByteArray:=⟨#[UInt8.ofNat (97+b % 3)]⟩
def txB2 (c:Nat):ByteArray:=⟨(([117,118,119,120,121,122]:List UInt8).drop (c % 5) |>.take (1+c % 2)).toArray⟩
theorem nmB_ok (b:Nat):eC (nmB b)=true∧(nmB b).size=1:=by
 unfold nmB;rcases(show b % 3=0∨b % 3=1∨b % 3=2 by omega) with e|e|e<;>rw[e]<;>exact⟨by rfl,by rfl⟩
theorem bsl (a:ByteArray):a.data.toList.length=a.size:=by simp
theorem all128:∀b∈([117,118,119,120,121,122]:List UInt8),b.toNat<128:=by decide
theorem txB2_ok (c:Nat):textB (txB2 c)=true∧(txB2 c).size<=2∧(txB2 c).data.toList≠[]:=by
 have f:1<=(txB2 c).size∧(txB2 c).size<=2:=by
  have e:(txB2 c).size=((([117,118,119,120,121,122]:List UInt8).drop (c % 5)).take (1+c % 2)).length:=by simp[txB2,ByteArray.size]
  rw[e,bf,cb];simp only[bQ,fY];omega
 have g:∀b∈(txB2 c).data.toList,b.toNat<128:=λb d=>by
  unfold txB2 at d;simp only at d;exact all128 b (List.mem_of_mem_drop (ew d))
 have h:runeCount (txB2 c)=(txB2 c).size:=runeCount_ascii _ λj i=>g _ (by
  show(txB2 c).data[j]∈_;rw[Array.mem_toList_iff]
  exact Array.getElem_mem _)
 have a:(txB2 c).data.toList.length=(txB2 c).size:=bsl _;refine⟨?_,f.2,λe=>by rw[e] at a;have a:0=(txB2 c).size:=a;omega⟩;unfold textB;rw[h,validD_ascii (txB2 c).data.toList.length _ (λb d=>g b (ew d)),List.drop_length];simp only[ay,au];exact⟨⟨rfl,f.1⟩,by omega⟩
structure OpOk (s:Gst) (o:Gop):Prop where
 ok:opB s o 0=true
 dl:o.dots.length<=16
 el:o.elems.length<=3
 tl:o.text.size<=2
 nl:o.name.size<=1
theorem e0:(⟨#[]⟩:ByteArray).data.toList=[]:=rfl
theorem KnG.make {L:List (Grp×GrX)} {s:Gst} (h:KnG L s) {x:Gid} (a:x= .zero∨eH L x) (b:Nat) (d:Bool):OpOk s ⟨0,⟨s,0⟩,x,nmB b,d,[],.zero,.zero,⟨#[]⟩,[]⟩:=by
 refine⟨?_,aq _,aq _,aq _,Nat.le_of_eq (nmB_ok b).2⟩;simp[opB,dZ,dL,Gid.none,(nmB_ok b).1,h.parent a,Gid.eqb_iff]
theorem KnG.move {L:List (Grp×GrX)} {s:Gst} (h:KnG L s) {x y:Gid} (a:x= .zero∨eH L x) (c:eH L y) (b:Nat):OpOk s ⟨1,y,x,nmB b,false,[],.zero,.zero,⟨#[]⟩,[]⟩:=by
 refine⟨?_,aq _,aq _,aq _,Nat.le_of_eq (nmB_ok b).2⟩;simp[opB,dZ,dL,Gid.none,(nmB_ok b).1,h.parent a,h.ahead c,Gid.eqb_iff]
theorem KnG.drop {L:List (Grp×GrX)} {s:Gst} (h:KnG L s) {y:Gid} (a:eH L y):OpOk s ⟨2,y,.zero,⟨#[]⟩,false,ofL (jQ L) y (jR L),.zero,.zero,⟨#[]⟩,[]⟩:=by
 refine⟨?_,(h.dots y).2,aq _,aq _,aq _⟩;simp[opB,dZ,dL,Gid.none,h.ahead a,(h.dots y).1,Gid.eqb_iff]
theorem KnG.insert {L:List (Grp×GrX)} {s:Gst} (h:KnG L s) {y:Gid} (b:eH L y) {a:Gid} (d:a= .zero∨eH L a) (c:Nat):OpOk s ⟨3,y,.zero,⟨#[]⟩,false,[],a,⟨s,0⟩,txB2 c,[]⟩:=by
 refine⟨?_,aq _,aq _,(txB2_ok c).2.1,aq _⟩;simp[opB,dZ,dL,Gid.none,h.ahead b,h.parent d,(txB2_ok c).1,Gid.eqb_iff]
theorem rises_sub {α:Type} {lt:α->α->Bool} {L:List α} (h:iJ lt L) (k n:Nat):iJ lt ((L.drop k).take n):=List.Pairwise.sublist ((List.take_sublist _ _).trans (List.drop_sublist _ _)) h
theorem KnG.erase {L:List (Grp×GrX)} {s:Gst} (h:KnG L s) {y:Gid} (f:eH L y) (x:Gid) (k n:Nat) (o:k<(fS L x).length) (p:1<=n) (m:n<=3):OpOk s ⟨4,y,.zero,⟨#[]⟩,false,[],.zero,.zero,⟨#[]⟩,((fS L x).drop k).take n⟩:=by
 obtain⟨a,g⟩:=h.elems x;have j:=rises_sub g k n;have l:∀e∈((fS L x).drop k).take n,eH L e:=λe b=>a e (List.mem_of_mem_drop (ew b));have c:1<=(((fS L x).drop k).take n).length∧(((fS L x).drop k).take n).length<=3:=by rw[bf,cb];omega
 generalize ((fS L x).drop k).take n=E at *;have b:fT s E 0=true:=by
  unfold fT;rw[ay,ay,au,au];refine⟨⟨es λi d=> ?_,c.1⟩,by omega⟩;unfold ie;rw[h.ahead (l _ (cg d _)),aZ];rcases Nat.eq_zero_or_pos i with a|a
  ·simp[a]
  ·rw[rises_at j d a,Bool.or_true]
 refine⟨?_,aq _,c.2,aq _,aq _⟩;simp[opB,dZ,dL,Gid.none,h.ahead f,b,Gid.eqb_iff]
end
end Go.Proofs.YtkhmicndehlneaaGreatDoor
