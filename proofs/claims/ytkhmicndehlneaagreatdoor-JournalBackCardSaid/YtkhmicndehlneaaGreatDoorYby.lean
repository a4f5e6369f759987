/- Part 25 of the walks and plain laws that this claim uses, joined. Conditions: as each theorem states. -/
import Derived.Test.YtkhmicndehlneaaGreatDoorYbw
namespace Go.Proofs.YtkhmicndehlneaaGreatDoor
set_option maxRecDepth 100000
set_option maxHeartbeats 16000000
set_option linter.unusedVariables false
section
open Go.RowKit Go.Lib Go.Sort
structure Ord (α:Type) (lt:α->α->Bool):Prop where
 irr:∀a,lt a a=false
 tr:∀a b c,lt a b=true->lt b c=true->lt a c=true
 tot:∀a b,lt a b=true∨a=b∨lt b a=true
def iB {α:Type} (lt:α->α->Bool) (l:List α):Prop:=l.Pairwise λa b=>lt a b=true
theorem insIx_spec {α:Type} (p:α->Bool) (z:α) (L:List α):∀n,n<=L.length->(∀j,dY p z L n<=j->j<n->p (L.getD j z)=true)∧(∀k,dY p z L n=k+1->p (L.getD k z)=false)
 |0,_=>⟨λj _ h=>by omega,λk h=>by simp[dY] at h⟩
 | n+1,hn=>by
  by_cases hp:p (L.getD n z)=true
  ·rw[iF hp]
   obtain⟨i1,i2⟩:=insIx_spec p z L n (by omega)
   refine⟨λj h1 h2=> ?_,i2⟩
   rcases cj j n with h3|h3
   ·exact i1 j h1 h3
   ·obtain rfl:j=n:=by omega
    exact hp
  ·have e:dY p z L (n+1)=n+1:=ge (.inr ⟨n,rfl,by simpa using hp⟩)
   rw[e]
   refine⟨λj h1 h2=>by omega,λk h=> ?_⟩
   obtain rfl:k=n:=by omega
   simpa using hp
theorem rises_ins {α:Type} {lt:α->α->Bool} (h:Ord α lt) {L:List α} (hL:iB lt L) {x z:α} (hx:x∉ L):iB lt (insB (λy=>lt x y) z L x):=by
 obtain⟨u,v⟩:=insIx_spec (λy=>lt x y) z L L.length (aa _);have w:=insIx_le (λy=>lt x y) z L L.length;unfold insB;generalize dY (λy=>lt x y) z L L.length=k at *;unfold slid iB;have c:=hL;unfold iB at c;have f:∀j (p:j<L.length),L.getD j z=L[j]:=λj p=>by rw[ae,an p];rfl
 rw[List.pairwise_append,List.pairwise_cons];have g:∀y∈L.drop k,lt x y=true:=λy m=>by
  obtain⟨i,e,rfl⟩:=dj.1 m;rw[List.getElem_drop,<-f _ (by rw[bI] at e;omega)];rw[bI] at e;exact u (k+i) (by omega) (by omega)
 have l:∀y∈L.take k,lt y x=true:=λy m=>by
  obtain⟨i,e,rfl⟩:=dj.1 m;rw[aP] at e;rw[List.getElem_take];obtain⟨q,rfl⟩:∃q,k=q+1:=⟨k-1,by omega⟩;have n:=v q rfl;rw[f q (by omega)] at n;have r:lt L[q] x=true:=by
   rcases h.tot L[q] x with d|d|d
   ·exact d
   ·exact absurd (d ▸ bU _) hx
   ·rw[d] at n;cases n
  rcases cj i q with s|s
  ·exact h.tr _ _ _ (iL.1 c i q (by omega) (by omega) s) r
  ·obtain rfl:i=q:=by omega
   exact r
 refine⟨c.sublist (List.take_sublist _ _),⟨g,c.sublist (List.drop_sublist _ _)⟩,λa t b o=> ?_⟩;rcases bY.1 o with rfl|o
 ·exact l a t
 ·exact h.tr _ _ _ (l a t) (g b o)
theorem rises_at {α:Type} {lt:α->α->Bool} {L:List α} (hL:iB lt L) {i:Nat} (hi:i<L.length) (h0:0<i) (z:α):lt (L.getD (i-1) z) (L.getD i z)=true:=by
 have a:∀j (b:j<L.length),L.getD j z=L[j]:=λj b=>by rw[ae,an b];rfl
 rw[a i hi,a (i-1) (by omega)];exact iL.1 hL (i-1) i (by omega) hi (by omega)
theorem gst_ord:Ord Gst Gst.lt:=by
 refine⟨λa=> ?_,λa b c=> ?_,λa b=> ?_⟩
 ·simp[Gst.lt]
 ·simp only[Gst.lt,ch,ap,ak];omega
 ·obtain⟨a,b⟩:=a;rename_i b';obtain⟨c,d⟩:=b';simp only[Gst.lt,ch,ap,ak,Gst.mk.injEq];omega
theorem gid_ord:Ord Gid Gid.lt:=by
 refine⟨λa=> ?_,λa b c=> ?_,λa b=> ?_⟩
 ·simp[Gid.lt,gst_ord.irr]
 ·obtain⟨⟨d,e⟩,f⟩:=a;obtain⟨⟨g,h⟩,i⟩:=b;obtain⟨⟨j,k⟩,l⟩:=c;simp only[Gid.lt,Gst.lt,Gst.eqb,ch,ap,ak];omega
 ·obtain⟨⟨d,e⟩,f⟩:=a;obtain⟨⟨g,h⟩,i⟩:=b;simp only[Gid.lt,Gst.lt,Gst.eqb,ch,ap,ak,Gid.mk.injEq,Gst.mk.injEq];omega
structure KnG (L:List (Grp×GrX)) (s:Gst):Prop where
 chk:∀p∈L,chkB p.1=true
 nd:(L.map (·.1.s)).Nodup
 lt:∀p∈L,p.1.s.lt s=true
 sr:s.right=true
 len:L.length<=16
 one:∀p∈L,p.1.ops.length<=1
 sml:∀p∈L,∀o∈p.1.ops,o.dots.length<=16∧o.text.size<=2
def eu (L:List (Grp×GrX)) (x:Gid):Prop:=∃p∈L,x.s=p.1.s∧0<=x.i∧x.i<=400000
theorem KnG.ahead {L:List (Grp×GrX)} {s:Gst} (h:KnG L s) {x:Gid} (hx:eu L x):cL s x 0=true:=by
 obtain⟨p,a,e,b,c⟩:=hx;have d:=(eC (h.chk p a)).1;unfold cL Gid.right;rw[e,d,h.lt p a];simp[b,c]
theorem KnG.parent {L:List (Grp×GrX)} {s:Gst} (h:KnG L s) {x:Gid} (hx:x= .zero∨eu L x):du s x 0=true:=by
 unfold du;rcases hx with rfl|hx
 ·rfl
 ·rw[h.ahead hx,Bool.or_true]
theorem opB_one {g:Grp} (hc:chkB g=true) (h1:g.ops.length<=1) {o:Gop} (ho:o∈g.ops):opB g.s o 0=true:=by
 obtain⟨s,n,d,u,ops⟩:=g;simp only[chkB,ap] at hc;have hc:=hc.2;cases ops with
 |nil=>cases ho
 | cons x l=>
  have a:l=[]:=bR (by simp at h1;simpa using h1);subst a;rw[aO] at ho;subst ho;split at hc
  ·simp only[opsB,ap] at hc;exact hc.2.1
  ·simp at hc
theorem op_node {s:Gst} {o:Gop} (h:opB s o 0=true) (hk:o.kind=0):o.node=⟨s,0⟩:=by
 simp only[opB,ap] at h;have h:=h.2;unfold de at h;rw[aJ hk] at h;simp only[ap,Gid.eqb_iff] at h;exact h.1.1
theorem op_elem {s:Gst} {o:Gop} (h:opB s o 0=true) (hk:o.kind=3):o.elem=⟨s,0⟩:=by
 simp only[opB,ap] at h;have h:=h.2;unfold de at h;rw[aC (by omega),aC (by omega),aC (by omega),aJ hk] at h;simp only[ap,Gid.eqb_iff] at h;exact h.1.2
theorem KnG.nodes {L:List (Grp×GrX)} {s:Gst} (h:KnG L s) (d:Bool):∀x∈fs d L,eu L x:=by
 intro x a;unfold fs at a;rw[dI] at a;obtain⟨p,c,a⟩:=a;unfold opsN at a;rw[bj] at a;obtain⟨o,b,rfl⟩:=a;rw[g7] at b;obtain⟨b,e⟩:=b;simp only[ap,ak] at e;rw[op_node (opB_one (h.chk p c) (h.one p c) b) e.1];exact⟨p,c,rfl,by simp,by simp⟩
theorem pickD_mem (l:List Gid) (n:Nat):jX l n= .zero∨jX l n∈l:=by
 unfold jX;by_cases h:n % (l.length+1)<l.length
 ·exact .inr (bL h _)
 ·left;rw[ae,ck (by omega)];rfl
theorem KnG.pick {L:List (Grp×GrX)} {l:List Gid} (h:∀x∈l,eu L x) (n:Nat):jX l n= .zero∨eu L (jX l n):=(pickD_mem l n).imp id (h _)
theorem foldE_mem:∀(l out:List Gid) (y:Gid),y∈l.foldl (λout x=>insB (λy:Gid=>x.lt y) Gid.zero out x) out↔y∈l∨y∈out
 | [],out,y=>by simp
 | x::l,out,y=>by
  rw[dU,foldE_mem l,insB_mem,bY]
  constructor
  ·rintro(h|h|h)
   ·exact .inl (.inr h)
   ·exact .inl (.inl h)
   ·exact .inr h
  ·rintro((h|h)|h)
   ·exact .inr (.inl h)
   ·exact .inl h
   ·exact .inr (.inr h)
theorem sortI_mem {l:List Gid} {y:Gid}:y∈sortI l↔y∈l:=by unfold sortI;rw[foldE_mem];simp
theorem foldE_rises:∀(l out:List Gid),(out++l).Nodup->iB Gid.lt out->iB Gid.lt (l.foldl (λout x=>insB (λy:Gid=>x.lt y) Gid.zero out x) out)
 | [],out,_,h=>h
 |x::l,out,hn,h=>by
  have hp:(insB (λy:Gid=>x.lt y) Gid.zero out x++l).Perm (out++x::l):=((insB_perm _ _ _ _).append_right l).trans List.perm_middle.symm
  refine foldE_rises l _ (hp.nodup_iff.2 hn) (rises_ins gid_ord h λhx=> ?_)
  rw[dK] at hn
  exact hn.2.2 x hx x (by simp) rfl
theorem eltStep_nodup {N:List Gid} {x:Gid} (h:N.Nodup):(ew N x).Nodup:=by
 unfold ew;split
 ·exact h
 ·rename_i c;rw[dK];refine⟨h,by simp,λa f b d e=>c ?_⟩;rw[aO] at d;subst d;subst e;exact dV.2 ⟨a,f,Gid.eqb_iff.2 rfl⟩
theorem eltStep_mem {N:List Gid} {x y:Gid} (h:y∈ew N x):y=x∨y∈N:=by
 unfold ew at h;split at h
 ·exact .inr h
 ·rcases au.1 h with h|h
  ·exact .inr h
  ·exact .inl (aO.1 h)
theorem elt1_nodup:∀(l:List Gid) {N:List Gid},N.Nodup->(l.foldl ew N).Nodup
 | [],N,h=>h
 |x::l,N,h=>elt1_nodup l (eltStep_nodup h)
theorem elt1_mem:∀(l:List Gid) {N:List Gid} {y:Gid},y∈l.foldl ew N->y∈l∨y∈N
 | [],N,y,h=> .inr h
 | x::l,N,y,h=>by
  rcases elt1_mem l h with h|h
  ·exact .inl (by simp[h])
  ·rcases eltStep_mem h with rfl|h
   ·exact .inl (by simp)
   ·exact .inr h
theorem elemIds_nodup (L:List Rn):(gN L).Nodup:=by
 have:∀(L:List Rn) (N:List Gid),N.Nodup->(L.foldl (λN r=>(ik r).foldl ew N) N).Nodup:=by
  intro L;induction L with
  |nil=>exact λN h=>h
  |cons r L ih=>exact λN h=>ih _ (elt1_nodup _ h)
 exact this L [] List.nodup_nil
theorem elemIds_mem {L:List Rn} {y:Gid} (h:y∈gN L):∃r∈L,y∈ik r:=by
 have:∀(L:List Rn) (N:List Gid),y∈L.foldl (λN r=>(ik r).foldl ew N) N->(∃r∈L,y∈ik r)∨y∈N:=by
  intro L;induction L with
  |nil=>exact λN h=> .inr h
  | cons r L ih=>
   intro N h;rcases ih _ h with⟨q,hq,e⟩|h
   ·exact .inl ⟨q,by simp[hq],e⟩
   ·rcases elt1_mem _ h with h|h
    ·exact .inl ⟨r,by simp,h⟩
    ·exact .inr h
 rcases this L [] h with h|h
 ·exact h
 ·cases h
theorem runsL_in {x:Gid} {L:List (Grp×GrX)} {r:Rn} (h:r∈fK x L):∃p∈L,∃o∈p.1.ops,o.kind=3∧r=⟨o.after,o.elem,o.text⟩:=by
 unfold fK at h;rw[dI] at h;obtain⟨p,b,h⟩:=h;unfold opsR at h;rw[bj] at h;obtain⟨o,a,rfl⟩:=h;rw[g7] at a;simp only[ap,ak] at a;exact⟨p,b,o,a.1,a.2.1,rfl⟩
theorem KnG.run {L:List (Grp×GrX)} {s:Gst} (h:KnG L s) {x:Gid} {r:Rn} (hr:r∈fK x L):∃p∈L,r.el=⟨p.1.s,0⟩∧r.tx.size<=2:=by
 obtain⟨p,a,o,b,c,rfl⟩:=runsL_in hr;exact⟨p,a,op_elem (opB_one (h.chk p a) (h.one p a) b) c,(h.sml p a o b).2⟩
theorem KnG.elems {L:List (Grp×GrX)} {s:Gst} (h:KnG L s) (x:Gid):(∀y∈fP L x,eu L y)∧iB Gid.lt (fP L x):=by
 refine⟨λy a=> ?_,foldE_rises _ [] (by simpa using elemIds_nodup _) List.Pairwise.nil⟩;unfold fP at a;rw[sortI_mem] at a;obtain⟨r,c,a⟩:=elemIds_mem a;obtain⟨p,d,e,f⟩:=h.run c;unfold ik at a;rw[bj] at a;obtain⟨k,b,rfl⟩:=a;have b:=gF.1 b;have:=cntD_le r.tx;rw[e];exact⟨p,d,rfl,by show(0:Int)<=0+(k:Int);omega,by show(0:Int)+(k:Int)<=400000;omega⟩
theorem opsR_len (x:Gid) (l:List Gop):(opsR x l).length<=l.length:=by
 unfold opsR;rw[aQ];exact ig _ _
theorem runsL_len (x:Gid):∀(L:List (Grp×GrX)),(∀p∈L,p.1.ops.length<=1)->(fK x L).length<=L.length
 | [],_=>aa _
 |p::L,h=>by
  have h1:=runsL_len x L λq hq=>h q (by simp[hq])
  have h2:=opsR_len x p.1.ops
  have h3:=h p (by simp)
  unfold fK at h1 ⊢
  rw[cW,al,bG]
  omega
theorem elts_len:∀(l N:List Gid),(l.foldl ew N).length<=N.length+l.length
 | [],N=>aa _
 | x::l,N=>by
  have h1:=elts_len l (ew N x)
  have h2:(ew N x).length<=N.length+1:=by
   unfold ew;split
   ·omega
   ·simp
  rw[dU,bG];omega
theorem elemIds_len:∀(L:List Rn) (N:List Gid),(∀r∈L,r.tx.size<=2)->(L.foldl (λN r=>(ik r).foldl ew N) N).length<=N.length+2*L.length
 | [],N,_=>aa _
 |r::L,N,h=>by
  have h1:=elemIds_len L ((ik r).foldl ew N) λq hq=>h q (by simp[hq])
  have h2:=elts_len (ik r) N
  have h3:=names_len r
  have h4:=cntD_le r.tx
  have h5:=h r (by simp)
  rw[dU,bG]
  omega
theorem KnG.elemsLen {L:List (Grp×GrX)} {s:Gst} (h:KnG L s) (x:Gid):(fP L x).length<=32:=by
 have a:=elemIds_len (fK x L) [] λr b=>(h.run b).elim λp c=>c.2.2;have d:=runsL_len x L h.one;have e:=h.len;unfold fP;rw[sortI_len];unfold gN;simp only[fU] at a;omega
theorem opsN_len (d:Bool) (l:List Gop):(opsN d l).length<=l.length:=by
 unfold opsN;rw[aQ];exact ig _ _
theorem nodesL_len (d:Bool):∀(L:List (Grp×GrX)),(∀p∈L,p.1.ops.length<=1)->(fs d L).length<=L.length
 | [],_=>aa _
 |p::L,h=>by
  have h1:=nodesL_len d L λq hq=>h q (by simp[hq])
  have h2:=opsN_len d p.1.ops
  have h3:=h p (by simp)
  unfold fs at h1 ⊢
  rw[cW,al,bG]
  omega
theorem haveG_in {ON:List Gst} {L:List (Grp×GrX)} {d:Dt} {n:Nat} (hn:n<=L.length) (h:d∈upto (gHv ON L) n):∃p∈L,d.b=p.1.s:=by
 obtain⟨k,a,h⟩:=upto_mem.1 h;unfold gHv at h;obtain⟨j,c,h⟩:=upto_mem.1 h;unfold oHv at h;split at h
 ·rw[aO] at h;subst h;exact⟨L.getD k gp0,bL (by omega) _,rfl⟩
 ·cases h
theorem gHv_len (ON:List Gst) (L:List (Grp×GrX)) (h:∀p∈L,p.1.ops.length<=1):∀n,n<=L.length->(upto (gHv ON L) n).length<=n
 |0,_=>aq _
 | n+1,hn=>by
  rw[fg,al]
  have h1:=gHv_len ON L h n (by omega)
  have h2:=h _ (bL (show n<L.length by omega) gp0)
  have h3:(gHv ON L n).length<=1:=by
   unfold gHv;rcases(show(L.getD n gp0).1.ops.length=0∨(L.getD n gp0).1.ops.length=1 by omega) with e|e
   ·rw[e];exact aq _
   ·rw[e,fg];show([]++_:List Dt).length<=1;unfold oHv;split<;>simp
  omega
theorem stepO_mem {G:List Dt} {x:Gid} {out:List Gst} {d:Dt} {y:Gst} (h:y∈stepO G x out d):y=d.b∨y∈out:=by
 unfold stepO at h;split at h
 ·exact .inr h
 ·exact insB_mem.1 h
theorem ofL_mem {G:List Dt} {x:Gid}:∀(l:List Dt) {out:List Gst} {y:Gst},y∈l.foldl (stepO G x) out->(∃d∈l,y=d.b)∨y∈out
 | [],out,y,h=> .inr h
 | d::l,out,y,h=>by
  rcases ofL_mem l h with⟨e,he,h1⟩|h1
  ·exact .inl ⟨e,by simp[he],h1⟩
  ·rcases stepO_mem h1 with h2|h2
   ·exact .inl ⟨d,by simp,h2⟩
   ·exact .inr h2
theorem stepO_rises {G:List Dt} {x:Gid} {out:List Gst} {d:Dt} (h:iB Gst.lt out):iB Gst.lt (stepO G x out d):=by
 unfold stepO;split
 ·exact h
 ·rename_i c;refine rises_ins gst_ord h λa=>c ?_;rw[ch];exact .inr (dV.2 ⟨_,a,Gst.eqb_iff.2 rfl⟩)
theorem ofL_rises {G:List Dt} {x:Gid}:∀(l:List Dt) {out:List Gst},iB Gst.lt out->iB Gst.lt (l.foldl (stepO G x) out)
 | [],out,h=>h
 |d::l,out,h=>ofL_rises l (stepO_rises h)
theorem KnG.dots {L:List (Grp×GrX)} {s:Gst} (h:KnG L s) (y:Gid):il s (ofL (jK L) y (jL L))=true∧(ofL (jK L) y (jL L)).length<=16:=by
 have g:iB Gst.lt (ofL (jK L) y (jL L)):=ofL_rises _ List.Pairwise.nil;have j:∀d∈ofL (jK L) y (jL L),∃p∈L,d=p.1.s:=λd k=>by
  rcases ofL_mem _ k with⟨e,he,a⟩|a
  ·obtain⟨p,b,c⟩:=haveG_in (aa _) he;exact⟨p,b,by rw[a,c]⟩
  ·cases a
 have l:(ofL (jK L) y (jL L)).length<=16:=by
  have a:=ofL_len (jK L) y (jL L) [];have c:=gHv_len (onG L) L h.one L.length (aa _);have n:=h.len;unfold ofL;unfold jL at a ⊢;simp only[fU] at a;omega
 refine⟨?_,l⟩;unfold il;rw[ap,ak];refine⟨ed λi f=> ?_,by omega⟩;obtain⟨p,b,e⟩:=j _ (bL f .zero);have m:=g;unfold dotB;rw[ap,ap];refine⟨⟨?_,?_⟩,?_⟩
 ·rw[e];exact(eC (h.chk p b)).1
 ·rw[e];have a:=h.lt p b;cases c:s.lt p.1.s with
  |false=>rfl
  |true=>have:=gst_ord.tr _ _ _ a c;rw[gst_ord.irr] at this;cases this
 ·rcases Nat.eq_zero_or_pos i with a|a
  ·simp[a]
  ·rw[rises_at m f a,Bool.or_true]
def nmB (b:Nat):ByteArray:=⟨#[UInt8.ofNat (97+b % 3)]⟩
def txB2 (c:Nat):ByteArray:=⟨(([117,118,119,120,121,122]:List UInt8).drop (c % 5) |>.take (1+c % 2)).toArray⟩
theorem nmB_ok (b:Nat):ek (nmB b)=true∧(nmB b).size=1:=by
 unfold nmB;rcases(show b % 3=0∨b % 3=1∨b % 3=2 by omega) with e|e|e<;>rw[e]<;>exact⟨by rfl,by rfl⟩
theorem bsl (a:ByteArray):a.data.toList.length=a.size:=by simp
theorem all128:∀b∈([117,118,119,120,121,122]:List UInt8),b.toNat<128:=by decide
theorem txB2_ok (c:Nat):textB (txB2 c)=true∧(txB2 c).size<=2∧(txB2 c).data.toList≠[]:=by
 have f:1<=(txB2 c).size∧(txB2 c).size<=2:=by
  have e:(txB2 c).size=((([117,118,119,120,121,122]:List UInt8).drop (c % 5)).take (1+c % 2)).length:=by simp[txB2,ByteArray.size]
  rw[e,aP,bI];simp only[bG,fU];omega
 have g:∀b∈(txB2 c).data.toList,b.toNat<128:=λb d=>by
  unfold txB2 at d;simp only at d;exact all128 b (List.mem_of_mem_drop (dQ d))
 have h:runeCount (txB2 c)=(txB2 c).size:=runeCount_ascii _ λj i=>g _ (by
  show(txB2 c).data[j]∈_;rw[Array.mem_toList_iff]
  exact Array.getElem_mem _)
 have a:(txB2 c).data.toList.length=(txB2 c).size:=bsl _;refine⟨?_,f.2,λe=>by rw[e] at a;have a:0=(txB2 c).size:=a;omega⟩;unfold textB;rw[h,validD_ascii (txB2 c).data.toList.length _ (λb d=>g b (dQ d)),List.drop_length];simp only[ap,ak];exact⟨⟨rfl,f.1⟩,by omega⟩
structure OpOk (s:Gst) (o:Gop):Prop where
 ok:opB s o 0=true
 dl:o.dots.length<=16
 el:o.elems.length<=3
 tl:o.text.size<=2
 nl:o.name.size<=1
theorem e0:(⟨#[]⟩:ByteArray).data.toList=[]:=rfl
theorem KnG.make {L:List (Grp×GrX)} {s:Gst} (h:KnG L s) {x:Gid} (hx:x= .zero∨eu L x) (b:Nat) (d:Bool):OpOk s ⟨0,⟨s,0⟩,x,nmB b,d,[],.zero,.zero,⟨#[]⟩,[]⟩:=by
 refine⟨?_,aq _,aq _,aq _,Nat.le_of_eq (nmB_ok b).2⟩;simp[opB,cr,de,Gid.none,(nmB_ok b).1,h.parent hx,Gid.eqb_iff]
theorem KnG.move {L:List (Grp×GrX)} {s:Gst} (h:KnG L s) {x y:Gid} (hx:x= .zero∨eu L x) (hy:eu L y) (b:Nat):OpOk s ⟨1,y,x,nmB b,false,[],.zero,.zero,⟨#[]⟩,[]⟩:=by
 refine⟨?_,aq _,aq _,aq _,Nat.le_of_eq (nmB_ok b).2⟩;simp[opB,cr,de,Gid.none,(nmB_ok b).1,h.parent hx,h.ahead hy,Gid.eqb_iff]
theorem KnG.drop {L:List (Grp×GrX)} {s:Gst} (h:KnG L s) {y:Gid} (hy:eu L y):OpOk s ⟨2,y,.zero,⟨#[]⟩,false,ofL (jK L) y (jL L),.zero,.zero,⟨#[]⟩,[]⟩:=by
 refine⟨?_,(h.dots y).2,aq _,aq _,aq _⟩;simp[opB,cr,de,Gid.none,h.ahead hy,(h.dots y).1,Gid.eqb_iff]
theorem KnG.insert {L:List (Grp×GrX)} {s:Gst} (h:KnG L s) {y:Gid} (hy:eu L y) {a:Gid} (ha:a= .zero∨eu L a) (c:Nat):OpOk s ⟨3,y,.zero,⟨#[]⟩,false,[],a,⟨s,0⟩,txB2 c,[]⟩:=by
 refine⟨?_,aq _,aq _,(txB2_ok c).2.1,aq _⟩;simp[opB,cr,de,Gid.none,h.ahead hy,h.parent ha,(txB2_ok c).1,Gid.eqb_iff]
theorem rises_sub {α:Type} {lt:α->α->Bool} {L:List α} (h:iB lt L) (k n:Nat):iB lt ((L.drop k).take n):=List.Pairwise.sublist ((List.take_sublist _ _).trans (List.drop_sublist _ _)) h
theorem KnG.erase {L:List (Grp×GrX)} {s:Gst} (h:KnG L s) {y:Gid} (hy:eu L y) (x:Gid) (k n:Nat) (hk:k<(fP L x).length) (hn:1<=n) (hn3:n<=3):OpOk s ⟨4,y,.zero,⟨#[]⟩,false,[],.zero,.zero,⟨#[]⟩,((fP L x).drop k).take n⟩:=by
 obtain⟨a,f⟩:=h.elems x;have g:=rises_sub f k n;have j:∀e∈((fP L x).drop k).take n,eu L e:=λe b=>a e (List.mem_of_mem_drop (dQ b));have c:1<=(((fP L x).drop k).take n).length∧(((fP L x).drop k).take n).length<=3:=by rw[aP,bI];omega
 generalize ((fP L x).drop k).take n=E at *;have b:fQ s E 0=true:=by
  unfold fQ;rw[ap,ap,ak,ak];refine⟨⟨ed λi d=> ?_,c.1⟩,by omega⟩;unfold ib;rw[h.ahead (j _ (bL d _)),aY];rcases Nat.eq_zero_or_pos i with a|a
  ·simp[a]
  ·rw[rises_at g d a,Bool.or_true]
 refine⟨?_,aq _,c.2,aq _,aq _⟩;simp[opB,cr,de,Gid.none,h.ahead hy,b,Gid.eqb_iff]
end
end Go.Proofs.YtkhmicndehlneaaGreatDoor
