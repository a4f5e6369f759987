/- Part 14 of the walks and plain laws that this claim uses, joined. Conditions: as each theorem states. -/
import Derived.Test.YtkhmicndehlneaaGreatDoorYtl
namespace Go.Proofs.YtkhmicndehlneaaGreatDoor
set_option maxRecDepth 100000
set_option maxHeartbeats 16000000
section
open Go.RowKit Go.Lib Go.Sort
set_option linter.unusedVariables false
section
variable {α : Type}
def RowF (w:World) (S:Nat→Prop) (A:Option Addr) (s:Nat) (f:α→List Value) (z:α) (L:List α):Prop:=RowG w S A L.length s (fun k j=>(f (L.getD k z)).getD j undef)
variable {w w' : World} {S T : Nat → Prop} {A : Option Addr} {s : Nat} {f : α → List Value} {z : α} {L : List α}
theorem RowF.range (h:RowF w S A s f z L) (hf:∀x,(f x).length=s) {k:Nat} (hk:k<L.length):∃b o,A=some ⟨b,o,none⟩∧S b∧b<w.heap.size∧w.rangeAt b (o+k*s) (f (L.getD k z)):=by
 obtain⟨b,o,e,hS,hb,hc⟩:=h k hk
 refine⟨b,o,e,hS,hb,fun j v hv=> ?_⟩
 have hj:j<s:=by rw[←hf (L.getD k z)];exact(List.getElem?_eq_some_iff.1 hv).1
 rw[hc j hj]
 show some ((f (L.getD k z)).getD j undef)=some v
 rw[List.getD_eq_getElem?_getD,hv]
 rfl
theorem RowF.agr (h:RowF w S A s f z L) (ha:Agr S w w'):RowF w' S A s f z L:=RowG.agr h ha
theorem RowF.below (h:RowF w S A s f z L) (ha:Below w.heap.size w w'):RowF w' S A s f z L:=RowG.agr h (Agr.below ha)
theorem RowF.sub (h:RowF w S A s f z L) (hs:∀b,b<w.heap.size→S b→T b):RowF w T A s f z L:=RowG.sub h hs
theorem RowF.nil {c:Option Addr}:RowF w S c s f z ([]:List α):=fun k hk=>absurd hk (Nat.not_lt_zero k)
theorem RowF.own {B E:Nat} {c:Nat} (hf:∀x,(f x).length=s) (h:w.ownsRow B E s (.slice A L.length c) L.length (L.flatMap f)):RowF w (fun k=>B≤k) A s f z L:=by
 refine rowG_own h fun k j hk hj=> ?_
 rw[flat_get (s:=s) hf L k j z hk hj]
 have:j<(f (L.getD k z)).length:=by rw[hf];exact hj
 generalize f (L.getD k z)=q at *
 rw[List.getElem?_eq_getElem this,List.getD_eq_getElem?_getD,List.getElem?_eq_getElem this]
 rfl
theorem own_block {B E n c:Nat} {xs:List Value} (h:w.ownsRow B E s (.slice A n c) n xs) (h0:0<n):∃g cur,A=some ⟨g,0,none⟩∧B≤g∧w.heap[g]? =some (.cells cur E (0,0))∧n≤c∧c≤maxLen∧cur.size=c*s∧cur.toList.take (n*s)=xs:=by
 rcases h.2 with⟨e1,e2⟩|⟨g,cap,cur,e1,e2,e3,e4,e5,e6,e7⟩
 ·omega
 ·cases e1
  exact⟨g,cur,rfl,e2,e3,e4,e5,e6,e7⟩
theorem own_range {B E c:Nat} (hf:∀x,(f x).length=s) (h:w.ownsRow B E s (.slice A L.length c) L.length (L.flatMap f)) {k:Nat} (hk:k<L.length) (z:α):∃g,A=some ⟨g,0,none⟩∧B≤g∧g<w.heap.size∧w.rangeAt g (k*s) (f (L.getD k z)):=by
 obtain⟨g,cur,rfl,hB,hg,-,-,hsz,htk⟩:=own_block h (by omega)
 refine⟨g,rfl,hB,lt_of_block hg,fun j v hv=> ?_⟩
 have hj:j<s:=by rw[←hf (L.getD k z)];exact(List.getElem?_eq_some_iff.1 hv).1
 have hlt:k*s+j<L.length*s:=by
  have:(k+1)*s≤L.length*s:=Nat.mul_le_mul_right s hk
  rw[Nat.add_mul,Nat.one_mul] at this;omega
 rw[crw hg,←Array.getElem?_toList]
 have h9:=flat_get (s:=s) hf L k j z hk hj
 rw[←htk,List.getElem?_take,if_pos hlt] at h9
 rw[h9];exact hv
theorem own_there {B E n c:Nat} {xs:List Value} (h:w.ownsRow B E s (.slice A n c) n xs) {k:Nat} (hk:k<n):∃g,A=some ⟨g,0,none⟩∧w.there g (k*s) s:=by
 obtain⟨g,cur,rfl,hB,hg,h1,-,hsz,htk⟩:=own_block h (by omega)
 refine⟨g,rfl,fun j hj=>⟨?_,frozen_of_row _ _ _ _ _ hg⟩⟩
 have hlt:k*s+j<c*s:=by
  have:(k+1)*s≤c*s:=Nat.mul_le_mul_right s (by omega)
  rw[Nat.add_mul,Nat.one_mul] at this;omega
 rw[crw hg,Array.getElem?_eq_getElem (by omega)]
 rfl
theorem putL_size':∀(vs:List Value) (o:Nat) (c:Array Value),(putL c o vs).size=c.size
 | [],_,_=>rfl
 |v::vs,o,c=>by rw[putL,putL_size' vs];simp
theorem putL_get':∀(vs:List Value) (o:Nat) (c:Array Value) (i:Nat),o+vs.length≤c.size→(putL c o vs)[i]? =if o≤i∧i<o+vs.length then vs[i-o]? else c[i]?
 | [],o,c,i,h=>by rw[putL,if_neg (by simp)]
 | v::vs,o,c,i,h=>by
  have hl:(v::vs).length=vs.length+1:=rfl
  rw[putL,putL_get' vs (o+1) _ i (by simp;omega)]
  by_cases h1:o+1≤i∧i<o+1+vs.length
  ·rw[if_pos h1,if_pos (by omega)]
   obtain⟨k,rfl⟩:∃k,i=o+1+k:=⟨i-(o+1),by omega⟩
   rw[show o+1+k-(o+1)=k by omega,show o+1+k-o=k+1 by omega]
   rfl
  ·rw[if_neg h1]
   by_cases h2:i=o
   ·subst h2
    rw[if_pos (by omega),Nat.sub_self,Array.getElem?_setIfInBounds_self_of_lt (by omega)]
    rfl
   ·rw[if_neg (by omega),Array.getElem?_setIfInBounds_ne (fun e=>h2 e.symm)]
theorem own_put {B E c:Nat} (hf:∀x,(f x).length=s) (hs:0<s) {g:Nat} (h:w.ownsRow B E s (.slice (some ⟨g,0,none⟩) L.length c) L.length (L.flatMap f)) {k:Nat} (hk:k<L.length) (y:α):
  (w.setCells g (k*s) (f y)).ownsRow B E s (.slice (some ⟨g,0,none⟩) (L.set k y).length c) (L.set k y).length ((L.set k y).flatMap f)∧w.grownBy (w.setCells g (k*s) (f y)) (some g):=by
 obtain⟨g',cur,e,hB,hg,h1,h2,hsz,htk⟩:=own_block h (by omega)
 cases e
 have hfl:∀M:List α,(M.flatMap f).length=M.length*s:=fun M=>by
  induction M with
  |nil=>simp
  |cons x M ih=>rw[List.flatMap_cons,List.length_append,ih,hf,List.length_cons,Nat.add_mul,Nat.one_mul,Nat.add_comm]
 have hkc:k*s+s≤c*s:=by
  have:(k+1)*s≤c*s:=Nat.mul_le_mul_right s (by omega)
  rw[Nat.add_mul,Nat.one_mul] at this;omega
 rw[setCells_put g E _ _ cur w hg]
 refine⟨⟨by rw[hfl],.inr ⟨g,c,putL cur (k*s) (f y),rfl,hB,heap_setRow_same _ hg,by rw[List.length_set];exact h1,h2,by rw[putL_size',hsz],?_⟩⟩,rfl,rfl,rfl,by simp[World.setRow],fun i _ hn=> ?_⟩
 ·apply List.ext_getElem?
  intro i
  rw[List.getElem?_take,Array.getElem?_toList,List.length_set]
  by_cases hi:i<L.length*s
  ·rw[if_pos hi,putL_get' _ _ _ _ (by rw[hf,hsz];exact hkc),hf]
   have hq:i / s<L.length:=(Nat.div_lt_iff_lt_mul hs).2 hi
   have hd:=Nat.div_add_mod i s
   have hm:=Nat.mod_lt i hs
   have hd2:i=i / s*s+i % s:=by rw[Nat.mul_comm];omega
   have e1:=flat_get (s:=s) hf (L.set k y) (i / s) (i % s) y (by rw[List.length_set];exact hq) hm
   rw[←hd2] at e1
   rw[e1]
   by_cases hik:i / s=k
   ·have hd3:i=k*s+i % s:=by rw[←hik];exact hd2
    rw[if_pos (by omega),hik,List.getD_eq_getElem?_getD,List.getElem?_set_self (by omega)]
    show(f y)[i-k*s]? =(f y)[i % s]?
    congr 1;omega
   ·have hne:¬(k*s≤i∧i<k*s+s):=fun ⟨a,b⟩=>hik (by
     have:=(Nat.div_eq_iff hs).2 ⟨a,by omega⟩
     exact this)
    rw[if_neg hne]
    have e2:=flat_get (s:=s) hf L (i / s) (i % s) y hq hm
    rw[←hd2,←htk,List.getElem?_take,if_pos hi,Array.getElem?_toList] at e2
    rw[e2,List.getD_eq_getElem?_getD,List.getD_eq_getElem?_getD,List.getElem?_set_ne (by omega)]
  ·rw[if_neg hi,List.getElem?_eq_none (by rw[hfl,List.length_set];omega)]
 ·have hn:i≠g:=fun e=>hn (by rw[e])
  exact setRow_other _ _ _ _ hn
theorem flat_len (hf:∀x,(f x).length=s) (M:List α):(M.flatMap f).length=M.length*s:=by
 induction M with
 |nil=>simp
 |cons x M ih=>rw[List.flatMap_cons,List.length_append,ih,hf,List.length_cons,Nat.add_mul,Nat.one_mul,Nat.add_comm]
theorem takeD_succ {L:List α} {k:Nat} (h:k<L.length) (z:α):L.take (k+1)=L.take k++[L.getD k z]:=by
 rw[List.take_add_one,List.getElem?_eq_getElem h,List.getD_eq_getElem?_getD,List.getElem?_eq_getElem h]
 rfl
theorem getD_memF {L:List α} {k:Nat} (h:k<L.length) (z:α):L.getD k z∈L:=by
 rw[List.getD_eq_getElem?_getD,List.getElem?_eq_getElem h];exact List.getElem_mem h
end
section
variable {α : Type} {w : World} {A : Option Addr} {s : Nat} {f : α → List Value} {L : List α}
theorem ownN_range {B E c n:Nat} (hf:∀x,(f x).length=s) (hn:n=L.length) (h:w.ownsRow B E s (.slice A n c) n (L.flatMap f)) {k:Nat} (hk:k<n) (z:α):∃g,A=some ⟨g,0,none⟩∧B≤g∧g<w.heap.size∧w.rangeAt g (k*s) (f (L.getD k z)):=by
 subst hn;exact own_range hf h hk z
theorem ownN_put {B E c n:Nat} (hf:∀x,(f x).length=s) (hs:0<s) (hn:n=L.length) {g:Nat} (h:w.ownsRow B E s (.slice (some ⟨g,0,none⟩) n c) n (L.flatMap f)) {k:Nat} (hk:k<n) (y:α):
  (w.setCells g (k*s) (f y)).ownsRow B E s (.slice (some ⟨g,0,none⟩) n c) n ((L.set k y).flatMap f)∧w.grownBy (w.setCells g (k*s) (f y)) (some g):=by
 subst hn
 have:=own_put hf hs h hk y
 rwa[List.length_set] at this
theorem ownN_rowF {B E c n:Nat} {z:α} (hf:∀x,(f x).length=s) (hn:n=L.length) (h:w.ownsRow B E s (.slice A n c) n (L.flatMap f)):RowF w (fun k=>B≤k) A s f z L:=by
 subst hn;exact RowF.own hf h
end
section
variable {P : Program} {ops : Array Oper} {o : Oper} {a : Act} {w : World} {K : Act → World → Prop} {Q : Exit → Act → World → Prop} {E : Prop}
theorem step_load_mid (hgd:o.guard=none) (ty:TypeId) (x:Operand) (ho:o.op= .load ty x) (b off:Nat) (hx:a.eval x= .pointer (some ⟨b,off,none⟩)) (cs:List Value) (d:TypeDesc) (hc:w.rangeAt b off cs)
  (hu:P.underlying ty=some d) (hd:d.isRow=true) (hi:(P.info? ty).map (·.size)=some cs.length) (h:K (a.put o.dst (.agg cs.toArray)) w):if Region.wanted o (yielded ops a.tmps)=true then Oper.wp P o a w K Q else E:=by
 rw[if_pos (by simp[Region.wanted,hgd])]
 exact wp_load_mid ty x ho b off hx cs d hc hu hd hi h
theorem step_store_mid (hgd:o.guard=none) (ty:TypeId) (x y:Operand) (ho:o.op= .store ty x y) (b off:Nat) (cells:Array Value) (hx:a.eval x= .pointer (some ⟨b,off,none⟩)) (hy:a.eval y= .agg cells)
  (ht:w.there b off cells.size) (hi:(P.info? ty).map (·.size)=some cells.size) (h1:cells.all (·.oneCell')=true) (h:K (a.put o.dst undef) (w.setCells b off cells.toList)):if Region.wanted o (yielded ops a.tmps)=true then Oper.wp P o a w K Q else E:=by
 rw[if_pos (by simp[Region.wanted,hgd])]
 exact wp_store_mid ty x y ho b off cells hx hy ht hi h1 h
end
def slid {α:Type} (L:List α) (x:α) (k:Nat):List α:=L.take k++x::L.drop k
theorem slid_len {α:Type} (L:List α) (x:α) (k:Nat):(slid L x k).length=L.length+1:=by
 unfold slid;rw[List.length_append,List.length_cons,List.length_take,List.length_drop];omega
theorem slid_end {α:Type} (L:List α) (x:α):slid L x L.length=L++[x]:=by unfold slid;rw[List.take_length,List.drop_length]
theorem slid_at {α:Type} {L:List α} {x z:α} {k:Nat} (h:k≤L.length):(slid L x k).getD k z=x:=by
 unfold slid
 rw[List.getD_eq_getElem?_getD,List.getElem?_append_right (by rw[List.length_take];omega),List.length_take,show k-min k L.length=0 by omega]
 rfl
theorem slid_pre {α:Type} {L:List α} {x z:α} {k:Nat} (h:k+1≤L.length):(slid L x (k+1)).getD k z=L.getD k z:=by
 unfold slid
 rw[List.getD_eq_getElem?_getD,List.getElem?_append_left (by rw[List.length_take];omega),List.getElem?_take,if_pos (by omega),List.getD_eq_getElem?_getD]
theorem slid_swap {α:Type} {L:List α} {x z:α} {k:Nat} (h:k+1≤L.length):((slid L x (k+1)).set (k+1) (L.getD k z)).set k x=slid L x k:=by
 apply List.ext_getElem?
 intro i
 have hl:(slid L x (k+1)).length=L.length+1:=slid_len _ _ _
 have e2:L.drop k=L.getD k z::L.drop (k+1):=by
  rw[List.drop_eq_getElem_cons (by omega),List.getD_eq_getElem?_getD,List.getElem?_eq_getElem (by omega)];rfl
 by_cases h1:i=k
 ·subst h1
  rw[List.getElem?_set_self (by rw[List.length_set,hl];omega)]
  unfold slid
  rw[List.getElem?_append_right (by rw[List.length_take];omega),List.length_take,show i-min i L.length=0 by omega]
  rfl
 ·rw[List.getElem?_set_ne (fun e=>h1 e.symm)]
  by_cases h2:i=k+1
  ·subst h2
   rw[List.getElem?_set_self (by rw[hl];omega)]
   unfold slid
   rw[List.getElem?_append_right (by rw[List.length_take];omega),List.length_take,show k+1-min k L.length=1 by omega,e2]
   rfl
  ·rw[List.getElem?_set_ne (fun e=>h2 e.symm)]
   unfold slid
   rcases Nat.lt_or_ge i k with h3|h3
   ·rw[List.getElem?_append_left (by rw[List.length_take];omega),List.getElem?_append_left (by rw[List.length_take];omega),List.getElem?_take,List.getElem?_take,if_pos (by omega),if_pos h3]
   ·rw[List.getElem?_append_right (by rw[List.length_take];omega),List.getElem?_append_right (by rw[List.length_take];omega),List.length_take,List.length_take,e2]
    rw[show i-min (k+1) L.length=(i-k-2)+1 by omega,show i-min k L.length=(i-k-2)+1+1 by omega]
    rfl
structure Dt where
 n:Gid
 b:Gst
structure Plc where
 n:Gid
 p:Gid
 name:ByteArray
 dir:Bool
structure Told where
 a:Gid
 p:Plc
structure Hd where
 s:Gst
 u:Gst
structure Elt where
 id:Gid
 af:Gid
 pc:ByteArray
structure Rn where
 af:Gid
 el:Gid
 tx:ByteArray
structure Itm where
 n:Gid
 path:ByteArray
 dir:Bool
 back:Bool
def dt0:Dt:=⟨.zero,.zero⟩
def plc0:Plc:=⟨.zero,.zero,⟨#[]⟩,false⟩
def told0:Told:=⟨.zero,plc0⟩
def hd0:Hd:=⟨.zero,.zero⟩
def elt0:Elt:=⟨.zero,.zero,⟨#[]⟩⟩
def rn0:Rn:=⟨.zero,.zero,⟨#[]⟩⟩
def itm0:Itm:=⟨.zero,⟨#[]⟩,false,false⟩
def stL (s:Gst):List Value:=[.int .i64 s.t,.int .i64 s.r]
def idL (x:Gid):List Value:=[.int .i64 x.s.t,.int .i64 x.s.r,.int .i64 x.i]
def dtL (d:Dt):List Value:=[.int .i64 d.n.s.t,.int .i64 d.n.s.r,.int .i64 d.n.i,.int .i64 d.b.t,.int .i64 d.b.r]
def plcL (p:Plc):List Value:=[.int .i64 p.n.s.t,.int .i64 p.n.s.r,.int .i64 p.n.i,.int .i64 p.p.s.t,.int .i64 p.p.s.r,.int .i64 p.p.i,.string p.name,.bool p.dir]
def toldL (p:Told):List Value:=[.int .i64 p.a.s.t,.int .i64 p.a.s.r,.int .i64 p.a.i,.int .i64 p.p.n.s.t,.int .i64 p.p.n.s.r,.int .i64 p.p.n.i,.int .i64 p.p.p.s.t,.int .i64 p.p.p.s.r,.int .i64 p.p.p.i,.string p.p.name,.bool p.p.dir]
def hdL (h:Hd):List Value:=[.int .i64 h.s.t,.int .i64 h.s.r,.int .i64 h.u.t,.int .i64 h.u.r]
def eltL (e:Elt):List Value:=[.int .i64 e.id.s.t,.int .i64 e.id.s.r,.int .i64 e.id.i,.int .i64 e.af.s.t,.int .i64 e.af.s.r,.int .i64 e.af.i,.string e.pc]
def rnL (e:Rn):List Value:=[.int .i64 e.af.s.t,.int .i64 e.af.s.r,.int .i64 e.af.i,.int .i64 e.el.s.t,.int .i64 e.el.s.r,.int .i64 e.el.i,.string e.tx]
def itmL (p:Itm):List Value:=[.int .i64 p.n.s.t,.int .i64 p.n.s.r,.int .i64 p.n.i,.string p.path,.bool p.dir,.bool p.back]
def Dt.eqb (a b:Dt):Bool:=a.n.eqb b.n && a.b.eqb b.b
theorem eq_dt (a b i p q c d j s t:Int) (v:Bool) (h:Dt.eqb ⟨⟨⟨a,b⟩,i⟩,⟨p,q⟩⟩ ⟨⟨⟨c,d⟩,j⟩,⟨s,t⟩⟩=v) (w:World):(binOp .eql 163 (.agg #[.int .i64 a,.int .i64 b,.int .i64 i,.int .i64 p,.int .i64 q]) (.agg #[.int .i64 c,.int .i64 d,.int .i64 j,.int .i64 s,.int .i64 t])).run Tryz.prog w= .ok (.bool v) w:=by
 subst h
 go_simp
 simp only[Dt.eqb,Gid.eqb,Gst.eqb]
 by_cases h1:a=c<;>by_cases h2:b=d<;>by_cases h3:i=j<;>by_cases h4:p=s<;>by_cases h5:q=t<;>simp[h1,h2,h3,h4,h5]
def ixI:Option Nat→Int
 |none=> -1
 |some k=>(k:Int)
theorem ix_some {α:Type} {L:List α} {p:α→Bool} {k:Nat} {z:α} (hk:k<L.length) (h:p (L.getD k z)=true) (hn:∀j,j<k→p (L.getD j z)=false):L.findIdx? p=some k:=by
 rw[List.findIdx?_eq_some_iff_getElem]
 rw[List.getD_eq_getElem?_getD,List.getElem?_eq_getElem hk] at h
 refine⟨hk,h,fun j hj=> ?_⟩
 have:=hn j hj
 rw[List.getD_eq_getElem?_getD,List.getElem?_eq_getElem (by omega)] at this
 simpa using this
theorem ix_none {α:Type} {L:List α} {p:α→Bool} {z:α} (hn:∀j,j<L.length→p (L.getD j z)=false):L.findIdx? p=none:=by
 rw[List.findIdx?_eq_none_iff]
 intro x hx
 obtain⟨j,hj,rfl⟩:=List.mem_iff_getElem.1 hx
 have:=hn j hj
 rw[List.getD_eq_getElem?_getD,List.getElem?_eq_getElem hj] at this
 exact this
theorem any_yes {α:Type} {L:List α} {p:α→Bool} {k:Nat} {z:α} (hk:k<L.length) (h:p (L.getD k z)=true):L.any p=true:=List.any_eq_true.2 ⟨_,getD_memF hk z,h⟩
theorem any_no {α:Type} {L:List α} {p:α→Bool} {z:α} (hn:∀j,j<L.length→p (L.getD j z)=false):L.any p=false:=by
 rw[List.any_eq_false]
 intro x hx
 obtain⟨j,hj,rfl⟩:=List.mem_iff_getElem.1 hx
 have:=hn j hj
 rw[List.getD_eq_getElem?_getD,List.getElem?_eq_getElem hj] at this
 rw[show L[j]=(some L[j]).getD z from rfl,this];decide
end
section
open Go.RowKit Go.Lib Go.Sort
set_option linter.unusedVariables false
attribute [local go_sem ↓] Go.wp_at_zero Go.wp_at_succ
theorem hasstamp_any (L:List Gst) (A:Option Addr) (c:Nat) (x:Gst) (S:Nat→Prop) (w:World) (hl:L.length≤1000000) (hR:RowF w S A 2 stL .zero L):
  Calls Tryz.prog 109 #[.slice A L.length c,.agg (stL x).toArray] w fun e w'=>e= .returned (.bool (L.any (fun y=>y.eqb x)))∧Below w.heap.size w w':=by
 obtain⟨ans,hans⟩:∃q,q=(L.any (fun y=>y.eqb x)):=⟨_,rfl⟩
 rw[←hans]
 have HANS:=hid hans
 clear hans
 obtain⟨xt,xr⟩:=x
 have hb0:Below w.heap.size w (w.alloc (.cells #[.int .i64 xt,.int .i64 xr] 42)):=(Below.refl _ _).alloc (Nat.le_refl _) _
 have HC:=hid (heap_alloc_new w (.cells #[.int .i64 xt,.int .i64 xr] 42))
 have hs0:(w.alloc (.cells #[.int .i64 xt,.int .i64 xr] 42)).heap.size=w.heap.size+1:=by simp
 have HS:=hid hs0
 have HB:=hid hb0
 have HR:=hid hR
 clear hb0 hR hs0
 show Calls _ _ #[.slice A L.length c,.agg #[.int .i64 xt,.int .i64 xr]] _ _
 go_enter Tryz.func109,Tryz.ntmps109
 go_upto_region 2 with(fail)
 generalize hW0:w.alloc (.cells #[.int .i64 xt,.int .i64 xr] 42)=W0 at *
 clear hW0
 go_loopw [5] (fun i wr=>∃k:Nat,i= .int .i64 k∧k≤L.length∧Hid (Below W0.heap.size W0 wr)∧Hid (∀j,j<k→(fun y:Gst=>y.eqb ⟨xt,xr⟩) (L.getD j .zero)=false)) (fun i _=>L.length-(RowKit.intOf i).toNat)
 case atStart=>exact⟨0,rfl,Nat.zero_le _,hid (Below.refl _ _),hid (fun j hj=>absurd hj (Nat.not_lt_zero j))⟩
 case round=>
  obtain⟨k,rfl,hk,HBr,HK⟩:=hrel
  have HBw:=hid (HB.out.trans (HBr.out.mono HB.out.size))
  by_cases hlt:k<L.length
  ·obtain⟨rb,ro,rfl,-,hrb,hrange⟩:=(HR.out.below HBw.out).range (fun _=>rfl) hlt
   have i0:(0:Int)≤(k:Int):=by omega
   have i1:(k:Int)<(L.length:Int):=by omega
   obtain⟨p,hp⟩:∃p,p=L.getD k .zero:=⟨_,rfl⟩
   rw[←hp] at hrange
   obtain⟨b,hb⟩:∃b,b=(fun y:Gst=>y.eqb ⟨xt,xr⟩) p:=⟨_,rfl⟩
   have HP:=hid (show(fun y:Gst=>y.eqb ⟨xt,xr⟩) (L.getD k .zero)=b by rw[←hp,hb])
   clear hp
   obtain⟨t,r⟩:=p
   have q1:=eq_st t r xt xr b hb.symm
   have HCr:=hid ((HBr.out.block w.heap.size (by rw[HS.out];omega)).trans HC.out)
   have x0:=rg0 HCr.out
   have x1:=rg1 HCr.out
   have y0:=cell_regrown (w:=wr) (a:=⟨rb,ro+k*2,none⟩) (v:= .int .i64 t) (hrange 0 _ rfl)
   have y1:=cell_regrown (w:=wr) (a:=⟨rb,ro+k*2+1,none⟩) (v:= .int .i64 r) (hrange 1 _ rfl)
   clear hrange hb
   cases b with
   |true=>
    go_upto_region 4 with(fail)
    refine rqb ?_
    repeat(any_goals(first|go_big_quiet_step (fail)|quiet_step (fail)))
    refine qz fun wq hBq=> ?_
    go_wp2
    go_ret
    exact⟨by rw[HANS.out,any_yes hlt HP.out];rfl,HBw.out.trans (hBq.mono HBw.out.size)⟩
   |false=>
    have HK2:=hid (show ∀j,j<k+1→(fun y:Gst=>y.eqb ⟨xt,xr⟩) (L.getD j .zero)=false from fun j hj=>if h:j<k then HK.out j h else (by(obtain rfl:j=k:=(by omega));exact HP.out))
    go_upto_region 4 with(fail)
    refine rqb ?_
    repeat(any_goals(first|go_big_quiet_step (fail)|quiet_step (fail)))
    refine qz fun wq hBq=> ?_
    go_wp2
    go_roundw
    case rel=>exact⟨k+1,by go_num,by omega,hid (HBr.out.trans (hBq.mono HBr.out.size)),HK2⟩
    case measure=>(simp[RowKit.intOf];omega)
  ·obtain rfl:k=L.length:=by omega
   have i1:¬(L.length:Int)<(L.length:Int):=by omega
   go_wp2
   go_ret
   exact⟨by rw[HANS.out,any_no HK.out];rfl,HBw.out⟩
theorem hasid_any (L:List Gid) (A:Option Addr) (c:Nat) (x:Gid) (S:Nat→Prop) (w:World) (hl:L.length≤1000000) (hR:RowF w S A 3 idL .zero L):
  Calls Tryz.prog 173 #[.slice A L.length c,.agg (idL x).toArray] w fun e w'=>e= .returned (.bool (L.any (fun y=>y.eqb x)))∧Below w.heap.size w w':=by
 obtain⟨ans,hans⟩:∃q,q=(L.any (fun y=>y.eqb x)):=⟨_,rfl⟩
 rw[←hans]
 have HANS:=hid hans
 clear hans
 obtain⟨⟨xt,xr⟩,xi⟩:=x
 have hb0:Below w.heap.size w (w.alloc (.cells #[.int .i64 xt,.int .i64 xr,.int .i64 xi] 108)):=(Below.refl _ _).alloc (Nat.le_refl _) _
 have HC:=hid (heap_alloc_new w (.cells #[.int .i64 xt,.int .i64 xr,.int .i64 xi] 108))
 have hs0:(w.alloc (.cells #[.int .i64 xt,.int .i64 xr,.int .i64 xi] 108)).heap.size=w.heap.size+1:=by simp
 have HS:=hid hs0
 have HB:=hid hb0
 have HR:=hid hR
 clear hb0 hR hs0
 show Calls _ _ #[.slice A L.length c,.agg #[.int .i64 xt,.int .i64 xr,.int .i64 xi]] _ _
 go_enter Tryz.func173,Tryz.ntmps173
 go_upto_region 2 with(fail)
 generalize hW0:w.alloc (.cells #[.int .i64 xt,.int .i64 xr,.int .i64 xi] 108)=W0 at *
 clear hW0
 go_loopw [5] (fun i wr=>∃k:Nat,i= .int .i64 k∧k≤L.length∧Hid (Below W0.heap.size W0 wr)∧Hid (∀j,j<k→(fun y:Gid=>y.eqb ⟨⟨xt,xr⟩,xi⟩) (L.getD j .zero)=false)) (fun i _=>L.length-(RowKit.intOf i).toNat)
 case atStart=>exact⟨0,rfl,Nat.zero_le _,hid (Below.refl _ _),hid (fun j hj=>absurd hj (Nat.not_lt_zero j))⟩
 case round=>
  obtain⟨k,rfl,hk,HBr,HK⟩:=hrel
  have HBw:=hid (HB.out.trans (HBr.out.mono HB.out.size))
  by_cases hlt:k<L.length
  ·obtain⟨rb,ro,rfl,-,hrb,hrange⟩:=(HR.out.below HBw.out).range (fun _=>rfl) hlt
   have i0:(0:Int)≤(k:Int):=by omega
   have i1:(k:Int)<(L.length:Int):=by omega
   obtain⟨p,hp⟩:∃p,p=L.getD k .zero:=⟨_,rfl⟩
   rw[←hp] at hrange
   obtain⟨b,hb⟩:∃b,b=(fun y:Gid=>y.eqb ⟨⟨xt,xr⟩,xi⟩) p:=⟨_,rfl⟩
   have HP:=hid (show(fun y:Gid=>y.eqb ⟨⟨xt,xr⟩,xi⟩) (L.getD k .zero)=b by rw[←hp,hb])
   clear hp
   obtain⟨⟨t,r⟩,n⟩:=p
   have q1:=eq_id t r n xt xr xi b hb.symm
   have HCr:=hid ((HBr.out.block w.heap.size (by rw[HS.out];omega)).trans HC.out)
   have x0:=rg0 HCr.out
   have x1:=rg1 HCr.out
   have x2:=rg2 HCr.out
   have y0:=cell_regrown (w:=wr) (a:=⟨rb,ro+k*3,none⟩) (v:= .int .i64 t) (hrange 0 _ rfl)
   have y1:=cell_regrown (w:=wr) (a:=⟨rb,ro+k*3+1,none⟩) (v:= .int .i64 r) (hrange 1 _ rfl)
   have y2:=cell_regrown (w:=wr) (a:=⟨rb,ro+k*3+2,none⟩) (v:= .int .i64 n) (hrange 2 _ rfl)
   clear hrange hb
   cases b with
   |true=>
    go_upto_region 4 with(fail)
    refine rqb ?_
    repeat(any_goals(first|go_big_quiet_step (fail)|quiet_step (fail)))
    refine qz fun wq hBq=> ?_
    go_wp2
    go_ret
    exact⟨by rw[HANS.out,any_yes hlt HP.out];rfl,HBw.out.trans (hBq.mono HBw.out.size)⟩
   |false=>
    have HK2:=hid (show ∀j,j<k+1→(fun y:Gid=>y.eqb ⟨⟨xt,xr⟩,xi⟩) (L.getD j .zero)=false from fun j hj=>if h:j<k then HK.out j h else (by(obtain rfl:j=k:=(by omega));exact HP.out))
    go_upto_region 4 with(fail)
    refine rqb ?_
    repeat(any_goals(first|go_big_quiet_step (fail)|quiet_step (fail)))
    refine qz fun wq hBq=> ?_
    go_wp2
    go_roundw
    case rel=>exact⟨k+1,by go_num,by omega,hid (HBr.out.trans (hBq.mono HBr.out.size)),HK2⟩
    case measure=>(simp[RowKit.intOf];omega)
  ·obtain rfl:k=L.length:=by omega
   have i1:¬(L.length:Int)<(L.length:Int):=by omega
   go_wp2
   go_ret
   exact⟨by rw[HANS.out,any_no HK.out];rfl,HBw.out⟩
theorem hasdot_any (L:List Dt) (A:Option Addr) (c:Nat) (x:Dt) (S:Nat→Prop) (w:World) (hl:L.length≤1000000) (hR:RowF w S A 5 dtL dt0 L):
  Calls Tryz.prog 174 #[.slice A L.length c,.agg (dtL x).toArray] w fun e w'=>e= .returned (.bool (L.any (fun y=>y.eqb x)))∧Below w.heap.size w w':=by
 obtain⟨ans,hans⟩:∃q,q=(L.any (fun y=>y.eqb x)):=⟨_,rfl⟩
 rw[←hans]
 have HANS:=hid hans
 clear hans
 obtain⟨⟨⟨xt,xr⟩,xi⟩,⟨xu,xv⟩⟩:=x
 have hb0:Below w.heap.size w (w.alloc (.cells #[.int .i64 xt,.int .i64 xr,.int .i64 xi,.int .i64 xu,.int .i64 xv] 163)):=(Below.refl _ _).alloc (Nat.le_refl _) _
 have HC:=hid (heap_alloc_new w (.cells #[.int .i64 xt,.int .i64 xr,.int .i64 xi,.int .i64 xu,.int .i64 xv] 163))
 have hs0:(w.alloc (.cells #[.int .i64 xt,.int .i64 xr,.int .i64 xi,.int .i64 xu,.int .i64 xv] 163)).heap.size=w.heap.size+1:=by simp
 have HS:=hid hs0
 have HB:=hid hb0
 have HR:=hid hR
 clear hb0 hR hs0
 show Calls _ _ #[.slice A L.length c,.agg #[.int .i64 xt,.int .i64 xr,.int .i64 xi,.int .i64 xu,.int .i64 xv]] _ _
 go_enter Tryz.func174,Tryz.ntmps174
 go_upto_region 2 with(fail)
 generalize hW0:w.alloc (.cells #[.int .i64 xt,.int .i64 xr,.int .i64 xi,.int .i64 xu,.int .i64 xv] 163)=W0 at *
 clear hW0
 go_loopw [5] (fun i wr=>∃k:Nat,i= .int .i64 k∧k≤L.length∧Hid (Below W0.heap.size W0 wr)∧Hid (∀j,j<k→(fun y:Dt=>y.eqb ⟨⟨⟨xt,xr⟩,xi⟩,⟨xu,xv⟩⟩) (L.getD j dt0)=false)) (fun i _=>L.length-(RowKit.intOf i).toNat)
 case atStart=>exact⟨0,rfl,Nat.zero_le _,hid (Below.refl _ _),hid (fun j hj=>absurd hj (Nat.not_lt_zero j))⟩
 case round=>
  obtain⟨k,rfl,hk,HBr,HK⟩:=hrel
  have HBw:=hid (HB.out.trans (HBr.out.mono HB.out.size))
  by_cases hlt:k<L.length
  ·obtain⟨rb,ro,rfl,-,hrb,hrange⟩:=(HR.out.below HBw.out).range (fun _=>rfl) hlt
   have i0:(0:Int)≤(k:Int):=by omega
   have i1:(k:Int)<(L.length:Int):=by omega
   obtain⟨p,hp⟩:∃p,p=L.getD k dt0:=⟨_,rfl⟩
   rw[←hp] at hrange
   obtain⟨b,hb⟩:∃b,b=(fun y:Dt=>y.eqb ⟨⟨⟨xt,xr⟩,xi⟩,⟨xu,xv⟩⟩) p:=⟨_,rfl⟩
   have HP:=hid (show(fun y:Dt=>y.eqb ⟨⟨⟨xt,xr⟩,xi⟩,⟨xu,xv⟩⟩) (L.getD k dt0)=b by rw[←hp,hb])
   clear hp
   obtain⟨⟨⟨t,r⟩,n⟩,⟨bt,br⟩⟩:=p
   have q1:=eq_dt t r n bt br xt xr xi xu xv b hb.symm
   have HCr:=hid ((HBr.out.block w.heap.size (by rw[HS.out];omega)).trans HC.out)
   have x0:=rg0 HCr.out
   have x1:=rg1 HCr.out
   have x2:=rg2 HCr.out
   have x3:=rg3 HCr.out
   have x4:=rg4 HCr.out
   have y0:=cell_regrown (w:=wr) (a:=⟨rb,ro+k*5,none⟩) (v:= .int .i64 t) (hrange 0 _ rfl)
   have y1:=cell_regrown (w:=wr) (a:=⟨rb,ro+k*5+1,none⟩) (v:= .int .i64 r) (hrange 1 _ rfl)
   have y2:=cell_regrown (w:=wr) (a:=⟨rb,ro+k*5+2,none⟩) (v:= .int .i64 n) (hrange 2 _ rfl)
   have y3:=cell_regrown (w:=wr) (a:=⟨rb,ro+k*5+3,none⟩) (v:= .int .i64 bt) (hrange 3 _ rfl)
   have y4:=cell_regrown (w:=wr) (a:=⟨rb,ro+k*5+4,none⟩) (v:= .int .i64 br) (hrange 4 _ rfl)
   clear hrange hb
   cases b with
   |true=>
    go_upto_region 4 with(fail)
    refine rqb ?_
    repeat(any_goals(first|go_big_quiet_step (fail)|quiet_step (fail)))
    refine qz fun wq hBq=> ?_
    go_wp2
    go_ret
    exact⟨by rw[HANS.out,any_yes hlt HP.out];rfl,HBw.out.trans (hBq.mono HBw.out.size)⟩
   |false=>
    have HK2:=hid (show ∀j,j<k+1→(fun y:Dt=>y.eqb ⟨⟨⟨xt,xr⟩,xi⟩,⟨xu,xv⟩⟩) (L.getD j dt0)=false from fun j hj=>if h:j<k then HK.out j h else (by(obtain rfl:j=k:=(by omega));exact HP.out))
    go_upto_region 4 with(fail)
    refine rqb ?_
    repeat(any_goals(first|go_big_quiet_step (fail)|quiet_step (fail)))
    refine qz fun wq hBq=> ?_
    go_wp2
    go_roundw
    case rel=>exact⟨k+1,by go_num,by omega,hid (HBr.out.trans (hBq.mono HBr.out.size)),HK2⟩
    case measure=>(simp[RowKit.intOf];omega)
  ·obtain rfl:k=L.length:=by omega
   have i1:¬(L.length:Int)<(L.length:Int):=by omega
   go_wp2
   go_ret
   exact⟨by rw[HANS.out,any_no HK.out];rfl,HBw.out⟩
theorem findplc_any (L:List Plc) (A:Option Addr) (c:Nat) (x:Gid) (S:Nat→Prop) (w:World) (hl:L.length≤1000000) (hR:RowF w S A 8 plcL plc0 L):
  Calls Tryz.prog 169 #[.slice A L.length c,.agg (idL x).toArray] w fun e w'=>e= .returned (.int .i64 (ixI (L.findIdx? (fun y=>y.n.eqb x))))∧Below w.heap.size w w':=by
 obtain⟨ans,hans⟩:∃q,q=(ixI (L.findIdx? (fun y=>y.n.eqb x))):=⟨_,rfl⟩
 rw[←hans]
 have HANS:=hid hans
 clear hans
 obtain⟨⟨xt,xr⟩,xi⟩:=x
 have hb0:Below w.heap.size w (w.alloc (.cells #[.int .i64 xt,.int .i64 xr,.int .i64 xi] 108)):=(Below.refl _ _).alloc (Nat.le_refl _) _
 have HC:=hid (heap_alloc_new w (.cells #[.int .i64 xt,.int .i64 xr,.int .i64 xi] 108))
 have hs0:(w.alloc (.cells #[.int .i64 xt,.int .i64 xr,.int .i64 xi] 108)).heap.size=w.heap.size+1:=by simp
 have HS:=hid hs0
 have HB:=hid hb0
 have HR:=hid hR
 clear hb0 hR hs0
 show Calls _ _ #[.slice A L.length c,.agg #[.int .i64 xt,.int .i64 xr,.int .i64 xi]] _ _
 go_enter Tryz.func169,Tryz.ntmps169
 go_upto_region 2 with(fail)
 generalize hW0:w.alloc (.cells #[.int .i64 xt,.int .i64 xr,.int .i64 xi] 108)=W0 at *
 clear hW0
 go_loopw [5] (fun i wr=>∃k:Nat,i= .int .i64 k∧k≤L.length∧Hid (Below W0.heap.size W0 wr)∧Hid (∀j,j<k→(fun y:Plc=>y.n.eqb ⟨⟨xt,xr⟩,xi⟩) (L.getD j plc0)=false)) (fun i _=>L.length-(RowKit.intOf i).toNat)
 case atStart=>exact⟨0,rfl,Nat.zero_le _,hid (Below.refl _ _),hid (fun j hj=>absurd hj (Nat.not_lt_zero j))⟩
 case round=>
  obtain⟨k,rfl,hk,HBr,HK⟩:=hrel
  have HBw:=hid (HB.out.trans (HBr.out.mono HB.out.size))
  by_cases hlt:k<L.length
  ·obtain⟨rb,ro,rfl,-,hrb,hrange⟩:=(HR.out.below HBw.out).range (fun _=>rfl) hlt
   have i0:(0:Int)≤(k:Int):=by omega
   have i1:(k:Int)<(L.length:Int):=by omega
   obtain⟨p,hp⟩:∃p,p=L.getD k plc0:=⟨_,rfl⟩
   rw[←hp] at hrange
   obtain⟨b,hb⟩:∃b,b=(fun y:Plc=>y.n.eqb ⟨⟨xt,xr⟩,xi⟩) p:=⟨_,rfl⟩
   have HP:=hid (show(fun y:Plc=>y.n.eqb ⟨⟨xt,xr⟩,xi⟩) (L.getD k plc0)=b by rw[←hp,hb])
   clear hp
   obtain⟨⟨⟨t,r⟩,n⟩,pp,pn,pd⟩:=p
   have q1:=eq_id t r n xt xr xi b hb.symm
   have HCr:=hid ((HBr.out.block w.heap.size (by rw[HS.out];omega)).trans HC.out)
   have x0:=rg0 HCr.out
   have x1:=rg1 HCr.out
   have x2:=rg2 HCr.out
   have y0:=cell_regrown (w:=wr) (a:=⟨rb,ro+k*8,none⟩) (v:= .int .i64 t) (hrange 0 _ rfl)
   have y1:=cell_regrown (w:=wr) (a:=⟨rb,ro+k*8+1,none⟩) (v:= .int .i64 r) (hrange 1 _ rfl)
   have y2:=cell_regrown (w:=wr) (a:=⟨rb,ro+k*8+2,none⟩) (v:= .int .i64 n) (hrange 2 _ rfl)
   clear hrange hb
   cases b with
   |true=>
    go_upto_region 4 with(fail)
    refine rqb ?_
    repeat(any_goals(first|go_big_quiet_step (fail)|quiet_step (fail)))
    refine qz fun wq hBq=> ?_
    go_wp2
    go_ret
    exact⟨by rw[HANS.out,ix_some hlt HP.out HK.out];rfl,HBw.out.trans (hBq.mono HBw.out.size)⟩
   |false=>
    have HK2:=hid (show ∀j,j<k+1→(fun y:Plc=>y.n.eqb ⟨⟨xt,xr⟩,xi⟩) (L.getD j plc0)=false from fun j hj=>if h:j<k then HK.out j h else (by(obtain rfl:j=k:=(by omega));exact HP.out))
    go_upto_region 4 with(fail)
    refine rqb ?_
    repeat(any_goals(first|go_big_quiet_step (fail)|quiet_step (fail)))
    refine qz fun wq hBq=> ?_
    go_wp2
    go_roundw
    case rel=>exact⟨k+1,by go_num,by omega,hid (HBr.out.trans (hBq.mono HBr.out.size)),HK2⟩
    case measure=>(simp[RowKit.intOf];omega)
  ·obtain rfl:k=L.length:=by omega
   have i1:¬(L.length:Int)<(L.length:Int):=by omega
   go_wp2
   go_ret
   exact⟨by rw[HANS.out,ix_none HK.out];rfl,HBw.out⟩
theorem range_mid {w:World} {b o:Nat} {pre mid post:List Value} (h:w.rangeAt b o (pre++(mid++post))):w.rangeAt b (o+pre.length) mid:=fun j v hv=>by
 have:=h (pre.length+j) v (by rw[List.getElem?_append_right (by omega),show pre.length+j-pre.length=j by omega,List.getElem?_append_left (List.getElem?_eq_some_iff.1 hv).1];exact hv)
 rwa[Nat.add_assoc]
theorem rangeB {w w':World} {b o:Nat} {cs:List Value} (h:w.rangeAt b o cs) (hb:b<w.heap.size) (hB:Below w.heap.size w w'):w'.rangeAt b o cs:=fun j v hv=>(World.cell?_of_block (w:=w) (w':=w') (a:=⟨b,o+j,none⟩) (hB.block b hb)).trans (h j v hv)
theorem info_st:(Tryz.prog.info? 42).map (fun i=>(i.zero,i.size,i.bytes))=some (some (.agg #[.int .i64 0,.int .i64 0]),2,16):=by kernel_rfl
theorem info_id:(Tryz.prog.info? 108).map (fun i=>(i.zero,i.size,i.bytes))=some (some (.agg #[.int .i64 0,.int .i64 0,.int .i64 0]),3,24):=by kernel_rfl
theorem oc_idL (x:Gid):∀u∈idL x,u.oneCell'=true:=oc_of (c:=(idL x).toArray) rfl
theorem info_dt:(Tryz.prog.info? 163).map (fun i=>(i.zero,i.size,i.bytes))=some (some (.agg #[.int .i64 0,.int .i64 0,.int .i64 0,.int .i64 0,.int .i64 0]),5,40):=by kernel_rfl
theorem info_plc:(Tryz.prog.info? 161).map (fun i=>(i.zero,i.size,i.bytes))=some (some (.agg #[.int .i64 0,.int .i64 0,.int .i64 0,.int .i64 0,.int .i64 0,.int .i64 0,.string ⟨#[]⟩,.bool false]),8,72):=by kernel_rfl
theorem info_told:(Tryz.prog.info? 228).map (fun i=>(i.zero,i.size,i.bytes))=some (some (.agg #[.int .i64 0,.int .i64 0,.int .i64 0,.int .i64 0,.int .i64 0,.int .i64 0,.int .i64 0,.int .i64 0,.int .i64 0,.string ⟨#[]⟩,.bool false]),11,96):=by kernel_rfl
theorem info_hd:(Tryz.prog.info? 224).map (fun i=>(i.zero,i.size,i.bytes))=some (some (.agg #[.int .i64 0,.int .i64 0,.int .i64 0,.int .i64 0]),4,32):=by kernel_rfl
theorem info_elt:(Tryz.prog.info? 169).map (fun i=>(i.zero,i.size,i.bytes))=some (some (.agg #[.int .i64 0,.int .i64 0,.int .i64 0,.int .i64 0,.int .i64 0,.int .i64 0,.string ⟨#[]⟩]),7,64):=by kernel_rfl
theorem oc_eltL (x:Elt):∀u∈eltL x,u.oneCell'=true:=oc_of (c:=(eltL x).toArray) rfl
theorem info_rn:(Tryz.prog.info? 238).map (fun i=>(i.zero,i.size,i.bytes))=some (some (.agg #[.int .i64 0,.int .i64 0,.int .i64 0,.int .i64 0,.int .i64 0,.int .i64 0,.string ⟨#[]⟩]),7,64):=by kernel_rfl
theorem info_itm:(Tryz.prog.info? 110).map (fun i=>(i.zero,i.size,i.bytes))=some (some (.agg #[.int .i64 0,.int .i64 0,.int .i64 0,.string ⟨#[]⟩,.bool false,.bool false]),6,48):=by kernel_rfl
def hdOf (p:Grp×GrX):Hd:=⟨p.1.s,p.1.u⟩
theorem heads_any (L:List (Grp×GrX)) (A:Option Addr) (c:Nat) (w:World) (hl:L.length≤100000) (hR:RowGr w A L):
  Calls Tryz.prog 108 #[.slice A L.length c] w fun e w'=>∃A' c',e= .returned (.slice A' L.length c')∧w'.ownsRow w.heap.size 224 4 (.slice A' L.length c') L.length ((L.map hdOf).flatMap hdL)∧Below w.heap.size w w':=by
 obtain⟨i0,hi,hz0,hz1,hz2⟩:=info_parts info_hd
 have HR:=hid hR
 clear hR
 go_enter Tryz.func108,Tryz.ntmps108
 go_upto_region 3 with fail
 go_loopw [3,4] (fun o i wr=>∃(k:Nat) (A':Option Addr) (c':Nat),k≤L.length∧i= .int .i64 k∧o= .slice A' k c'∧Hid (wr.ownsRow w.heap.size 224 4 (.slice A' k c') k (((L.take k).map hdOf).flatMap hdL))∧Hid (Below w.heap.size w wr)) (fun o i _=>L.length-(RowKit.intOf i).toNat)
 case atStart=>exact⟨0,none,0,Nat.zero_le _,rfl,rfl,hid (World.ownsRow_nil _ _ _ _),hid (Below.refl _ _)⟩
 case round=>
  obtain⟨k,A',c',hk,rfl,rfl,HO,HBr⟩:=hrel
  by_cases hlt:k<L.length
  ·have i1:(0:Int)≤(k:Int):=by omega
   have i2:(k:Int)<(L.length:Int):=by omega
   obtain⟨rb,ro,rfl,hrb,hrange⟩:=HR.out.range hlt
   have htk:L.take (k+1)=L.take k++[L.getD k gp0]:=takeD_succ hlt gp0
   generalize L.getD k gp0=p at *
   obtain⟨⟨⟨t,r⟩,n,dv,⟨ut,ur⟩,ops⟩,⟨dA,dc,oA,oc⟩⟩:=p
   have HRW:=hid (fun W (hB:Below w.heap.size w W)=>show W.rangeAt rb (ro+k*7) [.int .i64 t,.int .i64 r,.int .i64 n,.slice dA dv.length dc,.int .i64 ut,.int .i64 ur,.slice oA ops.length oc] from rangeB hrange hrb hB)
   have HRG:=hid (HRW.out wr HBr.out)
   have HTK:=hid htk
   have hsz:=HBr.out.size
   clear hrange hrb htk
   go_upto_region 5 with fail
   refine wp_region_held (S:=fun w'=>w'.rangeAt rb (ro+k*7) [.int .i64 t,.int .i64 r,.int .i64 n,.slice dA dv.length dc,.int .i64 ut,.int .i64 ur,.slice oA ops.length oc]) (by kernel_rfl) ?_
   try(change wpAnyH _ _ _ _ _ _ _ _ (World.drew _))
   refine tk 0 (.slice A' k c') ((show wr.drew.rangeAt _ _ _ from HRG.out)) ?_
   go_simp
   refine tk 1 (.slice (some ⟨rb,ro,none⟩) L.length c) ((show wr.drew.rangeAt _ _ _ from HRG.out)) ?_
   go_simp
   refine tk 2 (.int .i64 (k:Int)) ((show wr.drew.rangeAt _ _ _ from HRG.out)) ?_
   go_simp
   refine tk 3 (.pointer (some ⟨rb,ro+k*7,none⟩)) ((show wr.drew.rangeAt _ _ _ from HRG.out)) ?_
   go_simp
   refine tk 4 (.pointer (some ⟨rb,ro+k*7,none⟩)) ((show wr.drew.rangeAt _ _ _ from HRG.out)) ?_
   go_simp
   refine wpAnyH_take (i:=5) (v:= .agg #[.int .i64 t,.int .i64 r]) rfl (by kernel_rfl) (by kernel_rfl) (by kernel_rfl) (fun _ _ _ h=>h) (yieldsIf_load_mid (by rfl) _ _ rfl rb (ro+k*7) rfl [.int .i64 t,.int .i64 r] _ (fun W' hW'=>range_mid (pre:=[]) (mid:=[.int .i64 t,.int .i64 r]) (post:=[.int .i64 n,.slice dA dv.length dc,.int .i64 ut,.int .i64 ur,.slice oA ops.length oc]) (hW')) Tryz.underlying42 rfl (by kernel_rfl)) ((show wr.drew.rangeAt _ _ _ from HRG.out)) ?_
   go_simp
   refine tk 6 (.slice (some ⟨rb,ro,none⟩) L.length c) ((show wr.drew.rangeAt _ _ _ from HRG.out)) ?_
   go_simp
   refine tk 7 (.int .i64 (k:Int)) ((show wr.drew.rangeAt _ _ _ from HRG.out)) ?_
   go_simp
   refine tk 8 (.pointer (some ⟨rb,ro+k*7,none⟩)) ((show wr.drew.rangeAt _ _ _ from HRG.out)) ?_
   go_simp
   refine tk 9 (.pointer (some ⟨rb,ro+k*7+4,none⟩)) ((show wr.drew.rangeAt _ _ _ from HRG.out)) ?_
   go_simp
   refine wpAnyH_take (i:=10) (v:= .agg #[.int .i64 ut,.int .i64 ur]) rfl (by kernel_rfl) (by kernel_rfl) (by kernel_rfl) (fun _ _ _ h=>h) (yieldsIf_load_mid (by rfl) _ _ rfl rb (ro+k*7+4) rfl [.int .i64 ut,.int .i64 ur] _ (fun W' hW'=>range_mid (pre:=[.int .i64 t,.int .i64 r,.int .i64 n,.slice dA dv.length dc]) (mid:=[.int .i64 ut,.int .i64 ur]) (post:=[.slice oA ops.length oc]) (hW')) Tryz.underlying42 rfl (by kernel_rfl)) ((show wr.drew.rangeAt _ _ _ from HRG.out)) ?_
   go_simp
   refine tk 11 (.agg #[.int .i64 t,.int .i64 r,.int .i64 ut,.int .i64 ur]) ((show wr.drew.rangeAt _ _ _ from HRG.out)) ?_
   go_simp
   have hsA:(wr.alloc (.cells #[.int .i64 t,.int .i64 r,.int .i64 ut,.int .i64 ur] 224)).drew.heap.size=wr.heap.size+1:=by show(wr.alloc _).heap.size=_;simp
   have HDN:=hid (HO.out.alloc (.cells #[.int .i64 t,.int .i64 r,.int .i64 ut,.int .i64 ur] 224))
   have HNC:=hid (fun (j:Nat) (y:Value) (h:([.int .i64 t,.int .i64 r,.int .i64 ut,.int .i64 ur]:List Value)[j]? =some y)=>cellsN wr [.int .i64 t,.int .i64 r,.int .i64 ut,.int .i64 ur] 224 j y h)
   have HOC:=hid (show ∀u∈([.int .i64 t,.int .i64 r,.int .i64 ut,.int .i64 ur]:List Value),u.oneCell'=true from oc_of (c:=#[.int .i64 t,.int .i64 r,.int .i64 ut,.int .i64 ur]) rfl)
   have HBA:=hid ((HBr.out.alloc HBr.out.size (.cells #[.int .i64 t,.int .i64 r,.int .i64 ut,.int .i64 ur] 224)).drew)
   refine wpAnyH_ready (rs:=[12]) (by kernel_rfl) (by simp) ?_
   refine AllReadyH.cons rfl (fun K hK=> ?_) AllReadyH.nil
   go_simp
   refine hK.out _ _ (HRW.out _ HBA.out) (fun _=> ?_)
   clear hK K
   refine wpAnyH_ready (rs:=[13]) (by kernel_rfl) (by simp) ?_
   refine AllReadyH.cons rfl (fun K hK=> ?_) AllReadyH.nil
   refine step_append_lies _ (by rfl) _ _ 157 (by rfl) w.heap.size 224 i0 (.agg #[.int .i64 0,.int .i64 0,.int .i64 0,.int .i64 0]) 4 32 Tryz.underlying157 hi hz0 hz1 hz2 rfl (by decide) (.slice A' k c') k _ (by rfl) (by exact HDN.out) ⟨wr.heap.size,0,none⟩ 1 1 [.int .i64 t,.int .i64 r,.int .i64 ut,.int .i64 ur] (by rfl) (by rfl) (by exact HNC.out) HOC.out (by decide) (by unfold maxLen;omega) (by omega) (by rw[hsA];have:=HBr.out.size;omega) (wr.heap.size+1) hsA ?_
   intro gq cap w5 hown1 hgrow hat hlt3
   have HO5:=hid hown1
   have HB5:=hid (HBA.out.grown hgrow (by rw[hsA];have:=HBr.out.size;omega) (fun b hb=>(HO.out.lt b hb).1))
   clear hown1 hgrow hat hlt3
   refine hK.out _ _ (HRW.out _ HB5.out) (fun _=> ?_)
   clear hK K
   refine tk 14 (.slice (some ⟨gq,0,none⟩) (k+1) cap) (HRW.out _ HB5.out) ?_
   go_simp
   refine wpAnyH_done (by kernel_rfl) ?_ _
   go_simp
   go_wp2
   go_roundw
   case rel=>exact⟨k+1,some ⟨gq,0,none⟩,cap,by omega,by go_num,rfl,hid (by rw[HTK.out,List.map_append,List.flatMap_append];exact HO5.out),HB5⟩
   case measure=>(simp[RowKit.intOf];omega)
  ·obtain rfl:k=L.length:=by omega
   have i2:¬(L.length:Int)<(L.length:Int):=by omega
   have HO9:=hid (show wr.ownsRow w.heap.size 224 4 (.slice A' L.length c') L.length ((L.map hdOf).flatMap hdL) by have h9:=HO.out;rw[List.take_length] at h9;exact h9)
   go_wp2
   go_ret
   exact⟨A',c',rfl,HO9.out,HBr.out⟩
end
end Go.Proofs.YtkhmicndehlneaaGreatDoor
