/- Part 23 of the walks and plain laws that this claim uses, joined. Conditions: as each theorem states. -/
import Derived.Test.YtkhmicndehlneaaGreatDoorYbv
namespace Go.Proofs.YtkhmicndehlneaaGreatDoor
set_option maxRecDepth 100000
set_option maxHeartbeats 16000000
set_option linter.unusedVariables false
section
open Go.RowKit Go.Lib Go.Sort
theorem slid_perm {α:Type} (L:List α) (x:α) (k:Nat):(slid L x k).Perm (x::L):=by
 unfold slid;refine List.perm_middle.trans ?_;rw[dx]
theorem insB_perm {α:Type} (p:α->Bool) (z:α) (L:List α) (x:α):(insB p z L x).Perm (x::L):=slid_perm _ _ _
theorem insB_mem {α:Type} {p:α->Bool} {z:α} {L:List α} {x y:α}:y∈insB p z L x↔y=x∨y∈L:=by
 rw[(insB_perm p z L x).mem_iff,bY]
theorem stepT_mem {out:List Told} {x y:Told} (h:y∈stepT out x):y=x∨y∈out:=by
 unfold stepT at h;split at h
 ·exact .inr h
 ·exact insB_mem.1 h
theorem sortT_mem':∀(l:List Told) {out:List Told} {y:Told},y∈l.foldl stepT out->y∈l∨y∈out
 | [],out,y,h=> .inr h
 | x::l,out,y,h=>by
  rcases sortT_mem' l h with h1|h1
  ·exact .inl (by simp[h1])
  ·rcases stepT_mem h1 with rfl|h2
   ·exact .inl (by simp)
   ·exact .inr h2
theorem stepP_name {out:List Plc} {x:Told} {p:Plc} (h:p∈g8 out x):p.name=x.p.name∨p∈out:=by
 unfold g8 at h;split at h
 ·exact .inr h
 ·split at h
  ·rcases List.mem_or_eq_of_mem_set h with a|rfl
   ·exact .inr a
   ·exact .inl rfl
  ·rcases insB_mem.1 h with rfl|a
   ·exact .inl rfl
   ·exact .inr a
theorem foldP_name:∀(l:List Told) {out:List Plc} {p:Plc},p∈l.foldl g8 out->(∃x∈l,p.name=x.p.name)∨p∈out
 | [],out,p,h=> .inr h
 | x::l,out,p,h=>by
  rcases foldP_name l h with⟨y,hy,e⟩|h1
  ·exact .inl ⟨y,by simp[hy],e⟩
  ·rcases stepP_name h1 with e|h2
   ·exact .inl ⟨x,by simp,e⟩
   ·exact .inr h2
theorem replay_name {l:List Told} {p:Plc} (h:p∈fH l):∃x∈l,p.name=x.p.name:=by
 rcases foldP_name _ h with⟨x,hx,e⟩|h1
 ·rcases sortT_mem' l hx with a|a
  ·exact⟨x,a,e⟩
  ·cases a
 ·cases h1
theorem made_name {L:List (Grp×GrX)} {P:List Plc} {q:Plc} (h:q∈gV L P):∃p∈P,q.name=p.name:=by
 unfold gV at h;rw[dI] at h;obtain⟨p,a,h⟩:=h;unfold iZ at h;rw[dI] at h;obtain⟨g,b,h⟩:=h;unfold opsM at h;rw[bj] at h;obtain⟨o,c,rfl⟩:=h;exact⟨p,a,rfl⟩
theorem opsM_len (p:Plc) (l:List Gop):(opsM p l).length<=l.length:=by
 unfold opsM;rw[aQ];exact ig _ _
theorem madeP_len (p:Plc):∀(L:List (Grp×GrX)),(∀g∈L,g.1.ops.length<=2)->(iZ L p).length<=2*L.length
 | [],_=>aa _
 |g::L,h=>by
  have h1:=madeP_len p L λx hx=>h x (by simp[hx])
  have h2:=h g (by simp)
  have h3:=opsM_len p g.1.ops
  unfold iZ at h1 ⊢
  rw[cW,al,bG]
  omega
theorem madeL_len (L:List (Grp×GrX)) (h:∀g∈L,g.1.ops.length<=2):∀(P:List Plc),(gV L P).length<=2*L.length*P.length
 | []=>aq _
 |p::P=>by
  have h1:=madeL_len L h P
  have h2:=madeP_len p L h
  unfold gV at h1 ⊢
  rw[cW,al,bG,Nat.mul_add,jE]
  omega
theorem upto_map {α β:Type} (f:Nat->List α) (g:α->β) (n:Nat):(upto f n).map g=upto (λi=>(f i).map g) n:=by
 unfold upto;rw[List.map_flatMap]
theorem kp {α:Type} {f g:Nat->List α} {n:Nat} (h:∀i,f i=g i):upto f n=upto g n:=by
 have:f=g:=funext h;rw[this]
def oTo (b:Bool) (s:Gst) (ops:List Gop) (i:Nat):List Told:=if ((decide ((ops.getD i (opO 0 .zero)).kind=0)) || (decide ((ops.getD i (opO 0 .zero)).kind=1) && b))=true then [⟨⟨s,(i:Int)⟩,⟨(ops.getD i (opO 0 .zero)).node,(ops.getD i (opO 0 .zero)).parent,(ops.getD i (opO 0 .zero)).name,(ops.getD i (opO 0 .zero)).dir⟩⟩] else []
def gTo (ON:List Gst) (L:List (Grp×GrX)) (k:Nat):List Told:=upto (oTo (onB ON (L.getD k gp0).1.s) (L.getD k gp0).1.s (L.getD k gp0).1.ops) (L.getD k gp0).1.ops.length
theorem gTo_a (ON:List Gst) (L:List (Grp×GrX)) (n:Nat):(upto (gTo ON L) n).map (·.a)=upto (gAt ON L) n:=by
 rw[upto_map];refine kp λi=> ?_;unfold gTo gAt;rw[upto_map];refine kp λj=> ?_;unfold oTo oAt;split<;>rfl
theorem gTo_p (ON:List Gst) (L:List (Grp×GrX)) (n:Nat):(upto (gTo ON L) n).map (·.p)=upto (gTl ON L) n:=by
 rw[upto_map];refine kp λi=> ?_;unfold gTo gTl;rw[upto_map];refine kp λj=> ?_;unfold oTo oTl;split<;>rfl
def toldG (L:List (Grp×GrX)):List Told:=upto (gTo (onG L) L) L.length
def fN (L:List (Grp×GrX)):List Plc:=gV L (fH (toldG L))
def liveG (L:List (Grp×GrX)):List Gid:=gW (jK L) (jL L)
def itemsG (L:List (Grp×GrX)):List Itm:=itemsL (fN L).length (fN L) (liveG L)
theorem upto_mem {α:Type} {f:Nat->List α} {n:Nat} {x:α}:x∈upto f n↔∃i,i<n∧x∈f i:=by
 unfold upto;rw[dI];exact⟨λ⟨i,a,b⟩=>⟨i,gF.1 a,b⟩,λ⟨i,a,b⟩=>⟨i,gF.2 a,b⟩⟩
theorem toldG_in {ON:List Gst} {L:List (Grp×GrX)} {x:Told} {n:Nat} (hn:n<=L.length) (h:x∈upto (gTo ON L) n):∃g∈L,∃o∈g.1.ops,(o.kind=0∨o.kind=1)∧x.p=⟨o.node,o.parent,o.name,o.dir⟩∧x.a.s=g.1.s:=by
 obtain⟨k,d,h⟩:=upto_mem.1 h;unfold gTo at h;obtain⟨j,b,h⟩:=upto_mem.1 h;unfold oTo at h;split at h
 ·rename_i c;rw[aO] at h;subst h;refine⟨L.getD k gp0,bL (by omega) _,(L.getD k gp0).1.ops.getD j (opO 0 .zero),bL b _,?_,rfl,rfl⟩;simp only[ch,ap,ak] at c;rcases c with c|c
  ·exact .inl c
  ·exact .inr c.1
 ·cases h
theorem opsB_mem9 {s:Gst}:∀(l:List Gop) (k:Nat),opsB s l k=true->∀o∈l,∃q,opB s o q=true
 | [],_,_,o,ho=>by cases ho
 |x::l,k,h,o,ho=>by
  simp only[opsB,ap] at h
  rcases bY.1 ho with rfl|ho
  ·exact⟨k,h.1⟩
  ·exact opsB_mem9 l _ h.2 o ho
theorem chk_op {g:Grp} (h:chkB g=true) {o:Gop} (ho:o∈g.ops):∃q,opB g.s o q=true:=by
 simp only[chkB,ap] at h;have h:=h.2;split at h
 ·simp only[ap] at h;exact opsB_mem9 _ _ h.2 o ho
 ·simp only[ap,ak] at h;rw[bR h.2] at ho;cases ho
theorem op_name {s:Gst} {o:Gop} {q:Nat} (h:opB s o q=true) (hk:o.kind=0∨o.kind=1):ek o.name=true:=by
 simp only[opB,ap] at h;have h:=h.2;unfold de at h;rcases hk with hk|hk
 ·rw[aJ hk] at h;simp only[ap] at h;exact h.2
 ·rw[aC (by omega),aJ hk] at h;simp only[ap] at h;exact h.2
theorem name_size {s:ByteArray} (h:ek s=true):s.size<=32:=by
 simp only[ek,ap,ak] at h;exact h.1.1.1.2
theorem placeG_name {L:List (Grp×GrX)} (hck:∀p∈L,chkB p.1=true) {q:Plc} (h:q∈fN L):q.name.size<=32:=by
 obtain⟨p,a,e⟩:=made_name h;obtain⟨x,b,d⟩:=replay_name a;obtain⟨g,f,o,i,j,k,-⟩:=toldG_in (aa _) b;obtain⟨c,l⟩:=chk_op (hck g f) i;rw[e,d,k];exact name_size (op_name l j)
theorem placeG_len {L:List (Grp×GrX)} (hl:L.length<=20) (hlo:∀p∈L,p.1.ops.length<=2) (ht:(toldG L).length<=40):(fN L).length<=1600:=by
 have c:=madeL_len L hlo (fH (toldG L));have a:=replayL_len (toldG L);have b:(fH (toldG L)).length<=40:=aL a ht;have d:2*L.length*(fH (toldG L)).length<=40*40:=Nat.mul_le_mul (by omega) b;unfold fN;omega
theorem items_ok (L:List (Grp×GrX)):∀p∈iX (fN L) (liveG L),p.name.size<=1000∧iR (iX (fN L) (liveG L)) (fN L).length p=true:=λp hp=>by
 obtain⟨h1,h2⟩:=seen_climbs (fN L) (liveG L) (fN L).length (by omega) p hp
 exact⟨by have:=name_size h1;omega,h2⟩
end
end Go.Proofs.YtkhmicndehlneaaGreatDoor
