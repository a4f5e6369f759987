/- Part 3 of the walks and plain laws that this claim uses, joined. Conditions: as each theorem states. -/
import Derived.DeepKeys4
import Derived.Maps.OwnSet
import Derived.Test.YtkhmicndehlneaaGreatDoorTb
namespace Go.Proofs.YtkhmicndehlneaaGreatDoor
set_option maxRecDepth 100000
set_option maxHeartbeats 16000000
section
open Go.RowKit Go.Lib Go.Sort
set_option linter.unusedVariables false
structure GrB (O:Nat→Prop) (w w':World):Prop where
 os:w'.os=w.os
 tape:w'.tape=w.tape
 output:w'.output=w.output
 size:w.heap.size≤w'.heap.size
 block:∀i,i<w.heap.size→¬O i→w'.heap[i]? =w.heap[i]?
section
variable {O O1 : Nat → Prop} {w w1 w2 : World}
theorem GrB.refl:GrB O w w:=⟨rfl,rfl,rfl,Nat.le_refl _,fun _ _ _=>rfl⟩
theorem GrB.trans (h:GrB O w w1) (k:GrB O1 w1 w2) (hO:∀i,i<w.heap.size→O1 i→O i):GrB O w w2:=
 ⟨k.os.trans h.os,k.tape.trans h.tape,k.output.trans h.output,Nat.le_trans h.size k.size,fun i hi hn=>(k.block i (Nat.lt_of_lt_of_le hi h.size) (fun e=>hn (hO i hi e))).trans (h.block i hi hn)⟩
theorem GrB.of_grown {r:Option Nat} (h:w.grownBy w1 r) (hr:∀g,r=some g→g<w.heap.size→O g):GrB O w w1:=⟨h.os,h.tape,h.output,h.size,fun i hi hn=>h.block i hi (fun e=>hn (hr i e.symm hi))⟩
theorem GrB.of_below (h:Below w.heap.size w w1):GrB O w w1:=⟨h.os,h.tape,h.output,h.size,fun i hi _=>h.block i hi⟩
theorem GrB.below {n:Nat} (h:GrB O w w1) (hn:n≤w.heap.size) (hO:∀i,O i→n≤i):Below n w w1:=⟨h.os,h.tape,h.output,h.size,fun i hi=>h.block i (Nat.lt_of_lt_of_le hi hn) (fun e=>by have:=hO i e;omega)⟩
theorem GrB.agr {S:Nat→Prop} (h:GrB O w w1) (hS:∀i,i<w.heap.size→S i→¬O i):Agr S w w1:=⟨h.size,fun b hb hl=>h.block b hl (hS b hl hb)⟩
theorem GrB.set (h:GrB O w w1) (b o:Nat) (v:Value) (hb:b<w.heap.size→O b):GrB O w (w1.setCell ⟨b,o,none⟩ v):=
 h.trans (O1:=fun i=>i=b) (GrB.of_grown (gby_set b o v) (fun g e _=>by cases e;rfl)) (fun i hi e=>by subst e;exact hb hi)
theorem GrB.grown (h:GrB O w w1) {r:Option Nat} (k:w1.grownBy w2 r) (hr:∀g,r=some g→g<w.heap.size→O g):GrB O w w2:=
 h.trans (O1:=fun i=>r=some i) (GrB.of_grown k (fun g e _=>e)) (fun i hi e=>hr i e hi)
theorem GrB.cells {i:Nat} {o:Obj} (h:GrB O w w1) (hi:w.heap[i]? =some o) (hn:¬O i):w1.heap[i]? =some o:=(h.block i (lt_of_block hi) hn).trans hi
end
def grL (g:Grp) (x:GrX):List Value:=[.int .i64 g.s.t,.int .i64 g.s.r,.int .i64 g.n,.slice x.dA g.deps.length x.dc,.int .i64 g.u.t,.int .i64 g.u.r,.slice x.oA g.ops.length x.oc]
def grC_ (p:Grp×GrX):List Value:=grL p.1 p.2
theorem lengrC_ (xs:List (Grp×GrX)):(xs.flatMap grC_).length=xs.length*7:=by
 induction xs with
 |nil=>rfl
 |cons x xs ih=>rw[List.flatMap_cons,List.length_append,ih,List.length_cons];show 7+_=_;omega
theorem ocgrC_ (x:Grp×GrX):∀u∈grC_ x,u.oneCell'=true:=oc_of (c:=(grL x.1 x.2).toArray) rfl
theorem infogrC_:(Tryz.prog.info? 45).map (fun i=>(i.zero,i.size,i.bytes))=some (some (.agg #[.int .i64 0,.int .i64 0,.int .i64 0,.slice none 0 0,.int .i64 0,.int .i64 0,.slice none 0 0]),7,88):=by kernel_rfl
def GrG (w:World) (S:Nat→Prop) (p:Grp×GrX):Prop:=GrIn w S p.1 p.2.dA p.2.dc p.2.oA p.2.oc
theorem GrG.agr {w w':World} {S:Nat→Prop} {p:Grp×GrX} (h:GrG w S p) (ha:Agr S w w'):GrG w' S p:=GrIn.agr h ha
theorem GrG.sub {w:World} {S T:Nat→Prop} {p:Grp×GrX} (h:GrG w S p) (hs:∀b,b<w.heap.size→S b→T b):GrG w T p:=GrIn.sub h hs
def gp0:Grp×GrX:=(gz,⟨none,0,none,0⟩)
def RowGr (w:World) (A:Option Addr) (L:List (Grp×GrX)):Prop:=RowG w (fun _=>True) A L.length 7 (fun k j=>(grL (L.getD k gp0).1 (L.getD k gp0).2).getD j undef)
theorem RowGr.range {w:World} {A:Option Addr} {L:List (Grp×GrX)} (h:RowGr w A L) {k:Nat} (hk:k<L.length):∃b o,A=some ⟨b,o,none⟩∧b<w.heap.size∧w.rangeAt b (o+k*7) (grL (L.getD k gp0).1 (L.getD k gp0).2):=by
 obtain⟨b,o,e,-,hb,hc⟩:=h k hk
 refine⟨b,o,e,hb,fun j v hv=> ?_⟩
 have hj:j<7:=(List.getElem?_eq_some_iff.1 hv).1
 rw[hc j hj]
 show some ((grL (L.getD k gp0).1 (L.getD k gp0).2).getD j undef)=some v
 rw[List.getD_eq_getElem?_getD,hv]
 rfl
theorem RowGr.own {w:World} {B:Nat} {A:Option Addr} {c:Nat} {L:List (Grp×GrX)} {E:TypeId} (h:w.ownsRow B E 7 (.slice A L.length c) L.length (L.flatMap grC_)):RowGr w A L:=by
 refine RowG.sub (rowG_own h fun k j hk hj=> ?_) fun _ _ _=>trivial
 rw[flat_get (s:=7) (fun _=>rfl) L k j gp0 hk hj]
 generalize L.getD k gp0=p
 have:j<(grC_ p).length:=hj
 rw[List.getElem?_eq_getElem this,List.getD_eq_getElem?_getD]
 show some _=some ((grC_ p)[j]?.getD undef)
 rw[List.getElem?_eq_getElem this]
 rfl
theorem RowGr.agr {w w':World} {A:Option Addr} {L:List (Grp×GrX)} (h:RowGr w A L) (ha:Agr (fun _=>True) w w'):RowGr w' A L:=RowG.agr h ha
theorem RowGr.below {w w':World} {A:Option Addr} {L:List (Grp×GrX)} (h:RowGr w A L) (ha:Below w.heap.size w w'):RowGr w' A L:=RowG.agr h (Agr.below ha)
end
section
open Go.RowKit Go.Lib Go.Sort Go.Maps Go.ChangeShapes Go.WideShapes
set_option linter.unusedVariables false
theorem kLaid:laidOutB Tryz.prog=true:=by kernel_rfl
theorem kRow:(42:TypeId)<Tryz.prog.types.size:=of_decide_eq_true (by kernel_rfl)
theorem kWide:(match Tryz.prog.underlying 42 with|some (.array _ _)|some (.struct _)=>true|_=>false)=true:=by rw[Tryz.underlying42]
theorem law_st:Keyed Tryz.prog 42:=Keyed.of_law (deep_law_laid kLaid (m:=3) (by omega) kRow (by kernel_rfl) kWide)
theorem kType:Tryz.prog.keyType 42=true:=by kernel_rfl
theorem kFormed (a b:Value):(Value.agg #[a,b]).formed Tryz.prog 42=true:=by
 simp[Value.formed,Tryz.underlying42,cells_st]
def kst (s:Gst):Lit:= .string (keyBytes [.int .i64 s.t,.int .i64 s.r])
theorem wf_of_i63 {n:Int} (h:i63 n):(Lit.int .i64 n).wf=true:=by
 have: -9223372036854775808≤n∧n≤9223372036854775807:=⟨h.1,by have:=h.2;omega⟩
 simpa[Lit.wf,IntKind.min,IntKind.max,IntKind.bits,IntKind.signed] using this
theorem key_st (s:Gst) (h1:i63 s.t) (h2:i63 s.r):keyOf Tryz.prog 42 (.agg #[.int .i64 s.t,.int .i64 s.r])=some (kst s):=by
 have w1:=wf_of_i63 h1
 have w2:=wf_of_i63 h2
 obtain⟨m,hm⟩:∃m,Tryz.prog.types.size=m+1:=Nat.exists_eq_succ_of_ne_zero (fun e=>by have:=kRow;rw[e] at this;exact absurd this (Nat.not_lt_zero _))
 unfold keyOf
 rw[Tryz.underlying42]
 simp only[kType,kFormed,Bool.and_self,if_true,hm]
 have e:Tryz.prog.keyLits (m+1+1) 42 [.int .i64 s.t,.int .i64 s.r]=some [.int .i64 s.t,.int .i64 s.r]:=by
  unfold Program.keyLits
  rw[Tryz.underlying42]
  simp[cells_st,cells_int,Program.keyLits,Tryz.underlying3,w1,w2]
 show(Tryz.prog.keyLits (m+1+1) 42 [.int .i64 s.t,.int .i64 s.r]).map _=_
 rw[e]
 rfl
theorem kst_inj {a b:Gst} (ha:i63 a.t∧i63 a.r) (hb:i63 b.t∧i63 b.r) (h:kst a=kst b):a=b:=by
 have h1:=key_st a ha.1 ha.2
 have h2:=key_st b hb.1 hb.2
 rw[h] at h1
 have:=law_st.inj h1 h2
 cases a;cases b
 simpa using this
theorem right_i63 {s:Gst} (h:s.right=true):i63 s.t∧i63 s.r:=by
 simp only[Gst.right,Bool.and_eq_true,decide_eq_true_eq] at h
 exact⟨⟨by omega,by omega⟩,by omega,by omega⟩
def setG {H:Type} (l:List Grp):DataW H:=Maps.setOf (.agg []) (l.map fun g=>kst g.s)
theorem setG_snoc {H:Type} (l:List Grp) (g:Grp):(setG (l++[g]):DataW H)=(setG l).put (kst g.s) (.agg []):=by
 unfold setG
 rw[List.map_append]
 exact Maps.setOf_snoc _ _ _
theorem kst_key (s:Gst) (h:i63 s.t∧i63 s.r):WideAt.IsKeyLit (kst s):=law_st.key (key_st s h.1 h.2)
theorem has_setG {H:Type} (l:List Grp) (s:Gst) (hl:∀g∈l,g.s.right=true) (hs:s.right=true):Maps.has (setG l:DataW H) (kst s)=l.any (fun d=>d.s.eqb s):=by
 unfold setG
 rw[Maps.has_setOf _ _ _ (fun x hx=>by
  obtain⟨g,hg,rfl⟩:=List.mem_map.1 hx
  exact kst_key _ (right_i63 (hl g hg)))]
 rw[Bool.eq_iff_iff,List.any_eq_true,List.any_eq_true]
 constructor
 ·rintro⟨x,hx,he⟩
  obtain⟨g,hg,rfl⟩:=List.mem_map.1 hx
  refine⟨g,hg,Gst.eqb_iff.2 (kst_inj (right_i63 (hl g hg)) (right_i63 hs) ?_)⟩
  rcases Classical.em (kst g.s=kst s) with h|h
  ·exact h
  ·rw[Maps.sameKey_ne h] at he;cases he
 ·rintro⟨g,hg,he⟩
  refine⟨kst g.s,List.mem_map.2 ⟨g,hg,rfl⟩,?_⟩
  rw[Gst.eqb_iff.1 he]
  simp[kst,Lit.sameKey]
end
section
open Go.RowKit Go.Lib Go.Sort
set_option linter.unusedVariables false
structure BoxX where
 dv:Value
 wv:Value
 vA:Option Addr
 vc:Nat
 bm:Nat
 L:List (Grp×GrX)
 M:List (Grp×GrX)
def Own (P:Nat) (X:BoxX) (k:Nat):Prop:=k=P∨k=X.bm∨X.dv.ownBlock=some k∨X.wv.ownBlock=some k
structure BoxIn (B P:Nat) (S:Nat→Prop) (dn mp wt:List Grp) (v:List Int) (X:BoxX) (w:World):Prop where
 obj:w.heap[P]? =some (.cells #[X.dv,X.wv,.map (some X.bm),.slice X.vA v.length X.vc] 89 (0,0))
 done:w.ownsRow B 45 7 X.dv X.L.length (X.L.flatMap grC_)
 wait:w.ownsRow B 45 7 X.wv X.M.length (X.M.flatMap grC_)
 dl:X.L.map Prod.fst=dn
 wl:X.M.map Prod.fst=wt
 map:w.ownsMap Tryz.prog 42 (unitElem (H:=Unit)) X.bm mp.length (setG mp)
 vec:VecS w S X.vA v
 vle:v.length≤X.vc
 vmax:X.vc≤maxLen
 vlen:v.length≤16
 good:∀p∈X.L++X.M,GrG w S p
 hP:B≤P
 hm:B≤X.bm
 pm:P≠X.bm
 dP:X.dv.ownBlock≠some P
 dm:X.dv.ownBlock≠some X.bm
 wP:X.wv.ownBlock≠some P
 wm:X.wv.ownBlock≠some X.bm
 dw:∀g,X.dv.ownBlock=some g→X.wv.ownBlock≠some g
 sep:∀k,S k→k<w.heap.size∧¬Own P X k
structure BTo (P:Nat) (X:BoxX) (S:Nat→Prop) (w:World) (X':BoxX) (S':Nat→Prop) (w':World):Prop where
 gr:GrB (Own P X) w w'
 own:∀k,Own P X' k→Own P X k∨w.heap.size≤k
 more:∀k,S k→S' k
 new:∀k,S' k→S k∨(w.heap.size≤k∧k<w'.heap.size)
theorem agr_setCell {S:Nat→Prop} (w:World) (g i:Nat) (v:Value) (h:¬S g):Agr S w (w.setCell ⟨g,i,none⟩ v):=⟨by simp[World.setCell],fun b hb _=>Below.heap_setCell _ _ _ _ (fun e:b=g=>h (e ▸ hb))⟩
section
variable {B P : Nat} {S S' S'' : Nat → Prop} {dn mp wt : List Grp} {v : List Int} {X X' X'' : BoxX} {w w' w'' : World}
theorem BTo.refl:BTo P X S w X S w:=⟨GrB.refl,fun _ h=> .inl h,fun _ h=>h,fun _ h=> .inl h⟩
theorem BTo.trans (h:BTo P X S w X' S' w') (k:BTo P X' S' w' X'' S'' w''):BTo P X S w X'' S'' w'':=
 ⟨h.gr.trans k.gr fun i hi e=>(h.own i e).resolve_right (by omega),fun i hi=>by
  rcases k.own i hi with h1|h1
  ·exact h.own i h1
  ·exact .inr (Nat.le_trans h.gr.size h1),fun i hi=>k.more i (h.more i hi),fun i hi=>by
  rcases k.new i hi with h1|h1
  ·rcases h.new i h1 with h2|h2
   ·exact .inl h2
   ·exact .inr ⟨h2.1,Nat.lt_of_lt_of_le h2.2 k.gr.size⟩
  ·exact .inr ⟨Nat.le_trans h.gr.size h1.1,h1.2⟩⟩
theorem BTo.of_below (h:Below w.heap.size w w'):BTo P X S w X S w':=⟨GrB.of_below h,fun _ h=> .inl h,fun _ h=>h,fun _ h=> .inl h⟩
theorem BoxIn.own_lt (h:BoxIn B P S dn mp wt v X w) {k:Nat} (hk:Own P X k):B≤k∧k<w.heap.size:=by
 rcases hk with rfl|rfl|hk|hk
 ·exact⟨h.hP,lt_of_block h.obj⟩
 ·exact⟨h.hm,h.map.lt⟩
 ·exact h.done.lt k hk
 ·exact h.wait.lt k hk
theorem BoxIn.below (h:BoxIn B P S dn mp wt v X w) (hb:Below w.heap.size w w'):BoxIn B P S dn mp wt v X w':=by
 have hg:=gby_below (r:=none) hb
 refine⟨(hb.block P (lt_of_block h.obj)).trans h.obj,h.done.kept hg (Classical.em _),h.wait.kept hg (Classical.em _),h.dl,h.wl,h.map.kept hg (by simp),h.vec.agr (Agr.below hb),h.vle,h.vmax,h.vlen,fun p hp=>(h.good p hp).agr (Agr.below hb),h.hP,h.hm,h.pm,h.dP,h.dm,h.wP,h.wm,h.dw,fun k hk=>⟨Nat.lt_of_lt_of_le (h.sep k hk).1 hb.size,(h.sep k hk).2⟩⟩
theorem BoxIn.sup (h:BoxIn B P S dn mp wt v X w) (h1:∀k,S k→S' k) (h2:∀k,S' k→S k∨(k<w.heap.size∧¬Own P X k)):BoxIn B P S' dn mp wt v X w:=
 ⟨h.obj,h.done,h.wait,h.dl,h.wl,h.map,RowG.sub h.vec (fun k _ hk=>h1 k hk),h.vle,h.vmax,h.vlen,fun p hp=>(h.good p hp).sub (fun k _ hk=>h1 k hk),h.hP,h.hm,h.pm,h.dP,h.dm,h.wP,h.wm,h.dw,fun k hk=>(h2 k hk).elim (h.sep k) id⟩
theorem BoxIn.cell (h:BoxIn B P S dn mp wt v X w) (i:Nat):w.cell? ⟨P,i,none⟩=#[X.dv,X.wv,.map (some X.bm),.slice X.vA v.length X.vc][i]? :=cell_of_row _ _ _ _ _ _ h.obj
theorem BoxIn.dlen (h:BoxIn B P S dn mp wt v X w):X.L.length=dn.length:=by rw[←h.dl,List.length_map]
theorem BoxIn.wlen (h:BoxIn B P S dn mp wt v X w):X.M.length=wt.length:=by rw[←h.wl,List.length_map]
theorem set_obj {w:World} {P:Nat} {c c':Array Value} {T:TypeId} (h:w.heap[P]? =some (.cells c T (0,0))) (i:Nat) (u:Value) (hc:c.setIfInBounds i u=c'):(w.setCell ⟨P,i,none⟩ u).heap[P]? =some (.cells c' T (0,0)):=by
 simp[World.setCell,Array.getElem?_modify,h,hc]
theorem own_set {w:World} {B E s n:Nat} {u:Value} {xs:List Value} (h:w.ownsRow B E s u n xs) {P:Nat} (hu:u.ownBlock≠some P) (i:Nat) (x:Value):(w.setCell ⟨P,i,none⟩ x).ownsRow B E s u n xs:=
 h.kept (gby_set P i x) (.inr hu)
theorem kept_or {a b:Option Nat} (h:∀g,a=some g→b≠some g):b=none∨b≠a:=by
 cases b with
 |none=>exact .inl rfl
 |some g=>exact .inr fun e=>h g e.symm rfl
theorem own_new {u u':Value} {P n m:Nat} (hat:u'.ownBlock=u.ownBlock∨u'.ownBlock=some m) (h:u.ownBlock≠some P) (hP:P<n) (hm:n≤m):u'.ownBlock≠some P:=by
 rcases hat with e|e
 ·rw[e];exact h
 ·rw[e];intro e2;injection e2 with e2;omega
theorem BoxIn.dput (h:BoxIn B P S dn mp wt v X w) {w1 w3:World} {dv':Value} {p:Grp×GrX} (hb:Below w.heap.size w w1) (hg:w1.grownBy w3 X.dv.ownBlock) (hown:w3.ownsRow B 45 7 dv' (X.L.length+1) (X.L.flatMap grC_++grC_ p))
  (hat:dv'.ownBlock=X.dv.ownBlock∨dv'.ownBlock=some w1.heap.size) (hp:GrG w S p):
  BoxIn B P S (dn++[p.1]) mp wt v { X with dv:=dv',L:=X.L++[p] } (w3.setCell ⟨P,0,none⟩ dv')∧BTo P X S w { X with dv:=dv',L:=X.L++[p] } S (w3.setCell ⟨P,0,none⟩ dv'):=by
 have hPl:=lt_of_block h.obj
 have hml:=h.map.lt
 have h1:=h.below hb
 have hs1:=hb.size
 have hS:∀g,X.dv.ownBlock=some g→¬S g:=fun g e hS=>(h.sep g hS).2 (.inr (.inr (.inl e)))
 have hPS:¬S P:=fun hs=>(h.sep P hs).2 (.inl rfl)
 have ha:Agr S w (w3.setCell ⟨P,0,none⟩ dv'):=((Agr.below hb).trans (Agr.grown hg hS)).trans (agr_setCell w3 P 0 dv' hPS)
 have hgr:GrB (Own P X) w (w3.setCell ⟨P,0,none⟩ dv'):=((GrB.of_below hb).grown hg (fun g e _=> .inr (.inr (.inl e)))).set P 0 dv' (fun _=> .inl rfl)
 have hown':∀k,Own P { X with dv:=dv',L:=X.L++[p] } k→Own P X k∨w.heap.size≤k:=fun k hk=>by
  rcases hk with e|e|e|e
  ·exact .inl (.inl e)
  ·exact .inl (.inr (.inl e))
  ·have e:dv'.ownBlock=some k:=e
   rcases hat with e3|e3
   ·exact .inl (.inr (.inr (.inl (e3.symm.trans e))))
   ·right;rw[e3] at e;injection e with e;omega
  ·exact .inl (.inr (.inr (.inr e)))
 refine⟨⟨set_obj (c:=#[X.dv,X.wv,.map (some X.bm),.slice X.vA v.length X.vc]) ((hg.block P (by omega) (fun e=>h.dP e.symm)).trans h1.obj) 0 dv' rfl,?_,own_set (h1.wait.kept hg (kept_or h.dw)) h.wP 0 dv',?_,h.wl,?_,RowG.agr h.vec ha,h.vle,h.vmax,h.vlen,?_,h.hP,h.hm,h.pm,own_new hat h.dP hPl hs1,own_new hat h.dm hml hs1,h.wP,h.wm,?_,?_⟩,⟨hgr,hown',fun _ h=>h,fun _ h=> .inl h⟩⟩
 ·refine own_set ?_ (own_new hat h.dP hPl hs1) 0 dv'
  show w3.ownsRow B _ 7 dv' (X.L++[p]).length ((X.L++[p]).flatMap grC_)
  rw[List.length_append,List.flatMap_append,List.flatMap_singleton];exact hown
 ·show(X.L++[p]).map Prod.fst=_
  rw[List.map_append,h.dl];rfl
 ·exact(h1.map.kept hg (fun e=>h.dm e.symm)).setCell (fun e=>h.pm e.symm) dv'
 ·intro q hq
  have hq:q∈(X.L++[p])++X.M:=hq
  rw[List.append_assoc,List.mem_append,List.mem_append,List.mem_singleton] at hq
  rcases hq with hq|rfl|hq
  ·exact(h.good q (List.mem_append.2 (.inl hq))).agr ha
  ·exact hp.agr ha
  ·exact(h.good q (List.mem_append.2 (.inr hq))).agr ha
 ·intro g e e2
  have e:dv'.ownBlock=some g:=e
  rcases hat with e3|e3
  ·rw[e3] at e;exact h.dw g e e2
  ·rw[e3] at e;injection e with e;have:=(h.wait.lt g e2).2;omega
 ·intro k hk
  have h3:=h.sep k hk
  exact⟨Nat.lt_of_lt_of_le h3.1 hgr.size,fun ho=>(hown' k ho).elim h3.2 (by omega)⟩
theorem BoxIn.mput (h:BoxIn B P S dn mp wt v X w) {g:Grp} (hg:w.grownBy w' (some X.bm)) (hm:w'.ownsMap Tryz.prog 42 (unitElem (H:=Unit)) X.bm (mp.length+1) ((setG mp).put (kst g.s) (.agg []))):
  BoxIn B P S dn (mp++[g]) wt v X w'∧BTo P X S w X S w':=by
 have hPl:=lt_of_block h.obj
 have hS:∀b,some X.bm=some b→¬S b:=fun b e hs=>by cases e;exact(h.sep _ hs).2 (.inr (.inl rfl))
 have ha:Agr S w w':=Agr.grown hg hS
 have hgr:GrB (Own P X) w w':=GrB.of_grown hg (fun b e _=>by cases e;exact .inr (.inl rfl))
 refine⟨⟨(hg.block P hPl (fun e=>by injection e with e;exact h.pm e)).trans h.obj,h.done.kept hg (.inr h.dm),h.wait.kept hg (.inr h.wm),h.dl,h.wl,?_,RowG.agr h.vec ha,h.vle,h.vmax,h.vlen,fun p hp=>(h.good p hp).agr ha,h.hP,h.hm,h.pm,h.dP,h.dm,h.wP,h.wm,h.dw,fun k hk=>⟨Nat.lt_of_lt_of_le (h.sep k hk).1 hg.size,(h.sep k hk).2⟩⟩,⟨hgr,fun _ h=> .inl h,fun _ h=>h,fun _ h=> .inl h⟩⟩
 rw[List.length_append,setG_snoc];exact hm
theorem BoxIn.vput (h:BoxIn B P S dn mp wt v X w) {w1:World} {A:Option Addr} {c:Nat} {u:List Int} (hb:Below w.heap.size w w1) (hv:VecS w1 (fun k=>w.heap.size≤k) A u) (hc:u.length≤c) (hc2:c≤maxLen) (hl:u.length≤16):
  BoxIn B P (fun k=>S k∨(w.heap.size≤k∧k<w1.heap.size)) dn mp wt u { X with vA:=A,vc:=c } (w1.setCell ⟨P,3,none⟩ (.slice A u.length c))∧BTo P X S w { X with vA:=A,vc:=c } (fun k=>S k∨(w.heap.size≤k∧k<w1.heap.size)) (w1.setCell ⟨P,3,none⟩ (.slice A u.length c)):=by
 have hPl:=lt_of_block h.obj
 have h1:=h.below hb
 have hPS:¬S P:=fun hs=>(h.sep P hs).2 (.inl rfl)
 have hgr:GrB (Own P X) w (w1.setCell ⟨P,3,none⟩ (.slice A u.length c)):=(GrB.of_below hb).set P 3 _ (fun _=> .inl rfl)
 have ha1:Agr S w1 (w1.setCell ⟨P,3,none⟩ (.slice A u.length c)):=agr_setCell w1 P 3 _ hPS
 have hsz:(w1.setCell ⟨P,3,none⟩ (.slice A u.length c)).heap.size=w1.heap.size:=by simp
 refine⟨⟨set_obj (c:=#[X.dv,X.wv,.map (some X.bm),.slice X.vA v.length X.vc]) h1.obj 3 _ rfl,own_set h1.done h.dP 3 _,own_set h1.wait h.wP 3 _,h.dl,h.wl,h1.map.setCell (fun e=>h.pm e.symm) _,?_,hc,hc2,hl,fun p hp=> ?_,h.hP,h.hm,h.pm,h.dP,h.dm,h.wP,h.wm,h.dw,fun k hk=> ?_⟩,⟨hgr,fun _ h=> .inl h,fun _ h=> .inl h,fun k hk=>hk.imp id (fun h=>⟨h.1,by rw[hsz];exact h.2⟩)⟩⟩
 ·exact(hv.agr (agr_setCell w1 P 3 _ (by show ¬w.heap.size≤P;omega))).sub (fun k hk h=> .inr ⟨h,by rw[hsz] at hk;exact hk⟩)
 ·exact((h1.good p hp).agr ha1).sub (fun k _ hk=> .inl hk)
 ·rw[hsz]
  rcases hk with hk|hk
  ·exact⟨Nat.lt_of_lt_of_le (h.sep k hk).1 hb.size,(h.sep k hk).2⟩
  ·exact⟨hk.2,fun ho=>by have:=(h.own_lt ho).2;omega⟩
theorem BoxIn.wset (h:BoxIn B P S dn mp wt v X w) {w1 w3:World} {wv':Value} {M':List (Grp×GrX)} (hb:Below w.heap.size w w1) (hg:w1.grownBy w3 X.wv.ownBlock) (hown:w3.ownsRow B 45 7 wv' M'.length (M'.flatMap grC_))
  (hat:wv'.ownBlock=X.wv.ownBlock∨wv'.ownBlock=some w1.heap.size) (hgood:∀p∈M',GrG w S p):
  BoxIn B P S dn mp (M'.map Prod.fst) v { X with wv:=wv',M:=M' } (w3.setCell ⟨P,1,none⟩ wv')∧BTo P X S w { X with wv:=wv',M:=M' } S (w3.setCell ⟨P,1,none⟩ wv'):=by
 have hPl:=lt_of_block h.obj
 have hml:=h.map.lt
 have h1:=h.below hb
 have hs1:=hb.size
 have hS:∀g,X.wv.ownBlock=some g→¬S g:=fun g e hS=>(h.sep g hS).2 (.inr (.inr (.inr e)))
 have hPS:¬S P:=fun hs=>(h.sep P hs).2 (.inl rfl)
 have ha:Agr S w (w3.setCell ⟨P,1,none⟩ wv'):=((Agr.below hb).trans (Agr.grown hg hS)).trans (agr_setCell w3 P 1 wv' hPS)
 have hgr:GrB (Own P X) w (w3.setCell ⟨P,1,none⟩ wv'):=((GrB.of_below hb).grown hg (fun g e _=> .inr (.inr (.inr e)))).set P 1 wv' (fun _=> .inl rfl)
 have hown':∀k,Own P { X with wv:=wv',M:=M' } k→Own P X k∨w.heap.size≤k:=fun k hk=>by
  rcases hk with e|e|e|e
  ·exact .inl (.inl e)
  ·exact .inl (.inr (.inl e))
  ·exact .inl (.inr (.inr (.inl e)))
  ·have e:wv'.ownBlock=some k:=e
   rcases hat with e3|e3
   ·exact .inl (.inr (.inr (.inr (e3.symm.trans e))))
   ·right;rw[e3] at e;injection e with e;omega
 refine⟨⟨set_obj (c:=#[X.dv,X.wv,.map (some X.bm),.slice X.vA v.length X.vc]) ((hg.block P (by omega) (fun e=>h.wP e.symm)).trans h1.obj) 1 wv' rfl,own_set (h1.done.kept hg (kept_or (fun g e e2=>h.dw g e2 e))) h.dP 1 wv',own_set hown (own_new hat h.wP hPl hs1) 1 wv',h.dl,rfl,?_,RowG.agr h.vec ha,h.vle,h.vmax,h.vlen,?_,h.hP,h.hm,h.pm,h.dP,h.dm,own_new hat h.wP hPl hs1,own_new hat h.wm hml hs1,?_,?_⟩,⟨hgr,hown',fun _ h=>h,fun _ h=> .inl h⟩⟩
 ·exact(h1.map.kept hg (fun e=>h.wm e.symm)).setCell (fun e=>h.pm e.symm) wv'
 ·intro q hq
  rcases List.mem_append.1 hq with hq|hq
  ·exact(h.good q (List.mem_append.2 (.inl hq))).agr ha
  ·exact(hgood q hq).agr ha
 ·intro g e e2
  have e2:wv'.ownBlock=some g:=e2
  rcases hat with e3|e3
  ·rw[e3] at e2;exact h.dw g e e2
  ·rw[e3] at e2;injection e2 with e2;have:=(h.done.lt g e).2;omega
 ·intro k hk
  have h3:=h.sep k hk
  exact⟨Nat.lt_of_lt_of_le h3.1 hgr.size,fun ho=>(hown' k ho).elim h3.2 (by omega)⟩
end
theorem covers_any (A B:Option Addr) (c d:Nat) (v u:List Int) (w:World) (hv:v.length≤9223372036854775806) (hu:u.length≤9223372036854775806) (hA:VecR w A v) (hB:VecR w B u):
  Calls Tryz.prog 98 #[.slice A v.length c,.slice B u.length d] w fun e w'=>e= .returned (.bool (covB v u))∧w'=w:=by
 obtain⟨ans,hans⟩:∃r,r=covB v u:=⟨_,rfl⟩
 rw[←hans]
 obtain⟨m,hm⟩:∃m,m=max v.length u.length:=⟨_,rfl⟩
 have HANS:=hid (show ans=allIx m fun r=>decide (u.getD r 0≤v.getD r 0) by rw[hans,hm];rfl)
 have hm2:=hid hm
 have hml:m≤9223372036854775806:=by omega
 have CA:=hid (fun r=>at_any A c v r w (by omega) hA)
 have CB:=hid (fun r=>at_any B d u r w (by omega) hB)
 clear hans hm hA hB
 go_enter Tryz.func98,Tryz.ntmps98
 by_cases hlt0:(v.length:Int)<(u.length:Int)
 all_goals
  go_wp2_with fail
  first
   |rw[show max (v.length:Int) (u.length:Int)=(m:Int) from by have:=hm2.out;omega]
   |rw[show(u.length:Int)=(m:Int) from by have:=hm2.out;omega]
   |rw[show(v.length:Int)=(m:Int) from by have:=hm2.out;omega]
  clear hlt0
  go_loop [11] (fun i=>∃k:Nat,i= .int .i64 k∧k≤m∧Hid (∀j,j<k→decide (u.getD j 0≤v.getD j 0)=true)) (fun i=>m-(RowKit.intOf i).toNat)
  case atStart=>exact⟨0,rfl,Nat.zero_le _,hid (fun j hj=>absurd hj (Nat.not_lt_zero j))⟩
  case round=>
   obtain⟨k,rfl,hk,HK⟩:=hrel
   by_cases hlt:k<m
   ·have i1:(k:Int)<(m:Int):=by omega
    have ha:atV v ((k:Int)+1)=v.getD k 0:=atV_in
    have hb:atV u ((k:Int)+1)=u.getD k 0:=atV_in
    have CA1:=hid (CA.out ((k:Int)+1))
    have CB1:=hid (CB.out ((k:Int)+1))
    rw[ha] at CA1
    rw[hb] at CB1
    obtain⟨x,hx⟩:∃x,x=v.getD k 0:=⟨_,rfl⟩
    obtain⟨y,hy⟩:∃y,y=u.getD k 0:=⟨_,rfl⟩
    rw[←hx] at CA1
    rw[←hy] at CB1
    have HX:=hid hx
    have HY:=hid hy
    clear ha hb hx hy
    by_cases hle:y≤x
    ·have t1:¬x<y:=by omega
     have t2:decide (x<y)=false:=decide_eq_false t1
     have HK2:=hid (show ∀j,j<k+1→decide (u.getD j 0≤v.getD j 0)=true from fun j hj=>if h:j<k then HK.out j h else (by(obtain rfl:j=k:=(by omega));rw[←HX.out,←HY.out];exact decide_eq_true hle))
     go_wp2_with fail
     refine CA1.out.mono ?_
     rintro e w1 ⟨rfl,rfl⟩
     go_wp2_with fail
     refine CB1.out.mono ?_
     rintro e w1 ⟨rfl,rfl⟩
     go_wp2
     go_round
     case rel=>exact⟨k+1,by go_num,by omega,HK2⟩
     case measure=>simp[RowKit.intOf];omega
    ·have t1:x<y:=by omega
     have t2:decide (x<y)=true:=decide_eq_true t1
     obtain rfl:ans=false:=by rw[HANS.out];exact allIx_false hlt (by rw[←HX.out,←HY.out];exact decide_eq_false hle)
     go_wp2_with fail
     refine CA1.out.mono ?_
     rintro e w1 ⟨rfl,rfl⟩
     go_wp2_with fail
     refine CB1.out.mono ?_
     rintro e w1 ⟨rfl,rfl⟩
     go_wp2
     go_ret
     exact⟨rfl,rfl⟩
   ·obtain rfl:k=m:=by omega
    obtain rfl:ans=true:=by rw[HANS.out];exact allIx_true HK.out
    have i2:¬(k:Int)<(k:Int):=by omega
    go_wp2
    go_ret
    exact⟨rfl,rfl⟩
end
end Go.Proofs.YtkhmicndehlneaaGreatDoor
