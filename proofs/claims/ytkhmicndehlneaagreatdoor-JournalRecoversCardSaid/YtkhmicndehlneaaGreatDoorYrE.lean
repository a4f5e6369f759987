/- Part 31 of the walks and plain laws that this claim uses, joined. Conditions: as each theorem states. -/
import Derived.Test.YtkhmicndehlneaaGreatDoorYrB
import Derived.Test.YtkhmicndehlneaaGreatDoorYrD
namespace Go.Proofs.YtkhmicndehlneaaGreatDoor
set_option maxRecDepth 100000
set_option maxHeartbeats 16000000
set_option linter.unusedVariables false
section
open Go.RowKit Go.Lib Go.Sort
attribute [local go_sem ↓] Go.wp_at_zero Go.wp_at_succ
theorem encV_yes {g:Grp} (h:chkB g=true):encV g= .tuple #[.string (grpS g),(0:Int)]:=by unfold encV;rw[aN h];rfl
theorem encV_nix {g:Grp} (h:chkB g=false):encV g= .tuple #[.string ⟨#[]⟩,(80:Int)]:=by unfold encV;rw[h,aE (by decide)]
def ofV (odd:Bool) (X:ByteArray):ByteArray×Int:=if 1048576<X.size then (⟨#[]⟩,2) else if odd=true then (⟨#[]⟩,1) else (fN Crc.tab X,0)
def recV (odd:Bool) (g:Grp):ByteArray×Int:=if chkB g=false then (⟨#[]⟩,80) else if 1048576<(grpZ g).length then (⟨#[]⟩,2) else if odd=true then (⟨#[]⟩,1) else (fN Crc.tab (grpS g),0)
theorem recV_recB (g:Grp):(recV false g).1=recB g:=by
 unfold recV recB;cases h:chkB g with
 |false=>rw[aN rfl,aE (by simp)]
 |true=>
  rw[aE (by decide)];by_cases a:1048576<(grpZ g).length
  ·rw[aN a,aE (by omega)]
  ·rw[aE a,aE (by decide),aN ⟨rfl,by omega⟩]
def TabOf (odd:Bool) (m:Nat) (A:Option Addr) (w:World):Prop:=match odd with
 |true=>m≠256
 |false=>m=256∧TabRow w A Crc.tab
theorem TabOf.below {a:Bool} {m:Nat} {A:Option Addr} {w w':World} (h:TabOf a m A w) (b:Below w.heap.size w w'):TabOf a m A w':=by
 cases a with
 |true=>exact h
 |false=>exact⟨h.1,h.2.go b⟩
theorem range_below {w w':World} {b o:Nat} {cs:List Value} (h:w.rangeAt b o cs) (hb:b<w.heap.size) (hB:Below w.heap.size w w'):w'.rangeAt b o cs:=λj v hv=>(be (w:=w) (w':=w') (a:=⟨b,o+j,none⟩) (hB.block b hb)).trans (h j v hv)
theorem of_v (a:Bool) (A:Option Addr) (m b:Nat) (X:ByteArray) (w:World) (h:TabOf a m A w):
  Calls Tryz.prog 77 #[.slice A m b,X] w λe w'=>e= .returned (.tuple #[.string (ofV a X).1,.int .i64 (ofV a X).2])∧Below w.heap.size w w':=by
 unfold ofV;by_cases c:1048576<X.size
 ·rw[aN c];exact(of_long A m b X c w).mono (by rintro e w' ⟨rfl,rfl⟩;exact⟨rfl,ag _ _⟩)
 ·rw[aE c];cases a with
  |true=>
   have h:m≠256:=h;exact(of_bad A m b h X (by omega) w).mono (by rintro e w' ⟨rfl,rfl⟩;exact⟨rfl,ag _ _⟩)
  |false=>
   obtain⟨rfl,d⟩:m=256∧TabRow w A Crc.tab:=h;exact of_ok A b Crc.tab tabIs X (by omega) w d
section
variable {w : World}
theorem record_any (a:Bool) (A:Option Addr) (m s:Nat) (v:TabOf a m A w) (g:Grp) (b:Option Addr) (c:Nat) (d:Option Addr) (f:Nat) (S:Nat->Prop) (M:GrIn w S g b c d f) (C:∀o∈g.ops,o.text.size<9223372036854775807) (D:g.ops.length<=200->∀o∈g.ops,o.text.size<=1000000) (E:Tabs w):
  Calls Tryz.prog 41 #[.slice A m s,.agg (grA g b c d f)] w λe w'=>e= .returned (.tuple #[.string (recV a g).1,.int .i64 (recV a g).2])∧Below w.heap.size w w':=by
 have l:∀W,Below w.heap.size w W->Calls Tryz.prog 76 #[.agg (grA g b c d f)] W λe w'=>e= .returned (encV g)∧Below W.heap.size W w':=λW h=>encode_any g b c d f S W (M.agr (Agr.below h)) C D (E.below h);have F:∀W,Below w.heap.size w W->TabOf a m A W:=λW h=>v.below h;obtain⟨R,x⟩:∃R,R=recV a g:=⟨_,rfl⟩;rw[<-x];obtain⟨⟨t,r⟩,n,u,⟨i,j⟩,ops⟩:=g;have G:Below w.heap.size w (w.alloc (.cells #[t,r,n,.slice b u.length c,i,j,.slice d ops.length f] 45)):=(ag _ _).alloc (aa _) _;have y:=hid G;have N:=hid (an w (.cells #[t,r,n,.slice b u.length c,i,j,.slice d ops.length f] 45));show Calls _ _ #[.slice A m s,.agg #[t,r,n,.slice b u.length c,i,j,.slice d ops.length f]] _ _;clear M C D E v G;cases k:chkB ⟨⟨t,r⟩,n,u,⟨i,j⟩,ops⟩ with
 | false=>
  have p:R=(⟨#[]⟩,80):=by rw[x];unfold recV;rw[k,aN rfl]
  have z:Hid (∀W,Below w.heap.size w W->Calls Tryz.prog 76 #[.agg #[t,r,n,.slice b u.length c,i,j,.slice d ops.length f]] W λe w'=>e= .returned (.tuple #[.string ⟨#[]⟩,(80:Int)])∧Below W.heap.size W w'):=hid (λW h=>by rw[<-encV_nix k];exact l W h);clear x k l;subst p;go_enter Tryz.func41,Tryz.ntmps41;go_upto_region 1 with fail;generalize L:w.alloc (.cells #[t,r,n,.slice b u.length c,i,j,.slice d ops.length f] 45)=W at *;clear L
  go_wp2_with (first
   |(refine lA N aJ ?_)
   |(go_at_call 76;refine(z.o W y.o).mono ?_;rintro e O ⟨rfl,q⟩))
  go_ret2;exact⟨rfl,y.o.trans (q.mono y.o.size)⟩
 | true=>
  obtain⟨Z,B⟩:∃Z,Z=grpS ⟨⟨t,r⟩,n,u,⟨i,j⟩,ops⟩:=⟨_,rfl⟩;have H:Z.size=(grpZ ⟨⟨t,r⟩,n,u,⟨i,j⟩,ops⟩).length:=by rw[B];unfold grpS;rw[mkS]
  have p:R=ofV a Z:=by
   rw[x];unfold recV ofV;rw[k,aE (by decide),<-H,<-B]
  have z:Hid (∀W,Below w.heap.size w W->Calls Tryz.prog 76 #[.agg #[t,r,n,.slice b u.length c,i,j,.slice d ops.length f]] W λe w'=>e= .returned (.tuple #[Z,(0:Int)])∧Below W.heap.size W w'):=hid (λW h=>by
   have P:=l W h;rw[encV_yes k] at P
   rw[B];exact P)
  have I:=hid (λW (h:Below w.heap.size w W)=>of_v a A m s Z W (F W h));clear x k l B H F;rw[<-p] at I;obtain⟨T,U⟩:=R;clear p;go_enter Tryz.func41,Tryz.ntmps41;go_upto_region 1 with fail;generalize L:w.alloc (.cells #[t,r,n,.slice b u.length c,i,j,.slice d ops.length f] 45)=W at *;clear L
  go_wp2_with (first
   |(refine lA N aJ ?_)
   |(go_at_call 76;refine(z.o W y.o).mono ?_;rintro e O ⟨rfl,q⟩;have J:=bT y q;clear q)
   |(go_at_call 77;refine(I.o O J.o).mono ?_;rintro e V ⟨rfl,K⟩;have Q:=bT J K;clear K))
  go_ret2;exact⟨rfl,Q.o⟩
end
theorem infoInt25:(Tryz.prog.info? 3).map (λi=>(i.zero,i.size,i.bytes))=some (some (.int .i64 0),1,8):=by kernel_rfl
def endsR (l:List Grp) (k:Nat):List Value:=(List.range k).map λi=> .int .i64 ((catR (l.take (i+1))).size:Nat)
theorem endsR_succ (l:List Grp) (k:Nat):endsR l (k+1)=endsR l k++[.int .i64 ((catR (l.take (k+1))).size:Nat)]:=by unfold endsR;rw[List.range_succ];simp
theorem catR_take {l:List Grp} {k:Nat} (a:k<l.length):catR (l.take (k+1))=catR (l.take k)++recB (l.getD k gz):=by
 rw[List.take_add_one,aw a,ae,aw a];exact catR_snoc _ _
theorem catR_pre (l:List Grp) (k:Nat):(catR (l.take k)).size<=(catR l).size:=by
 have h:=congrArg ByteArray.size (catR_app (l.take k) (l.drop k));rw[fe,aX] at h;omega
theorem cell_one (W:World) (v:Value) (t:TypeId):∀(j:Nat) (y:Value),([v]:List Value)[j]? =some y->(W.alloc (.cells #[v] t)).cell? ((⟨W.heap.size,0,none⟩:Addr).add j)=some y:=λj y h=>one_cell W v t j y h
theorem records_any (A:Option Addr) (c:Nat) (L:List (Grp×GrX)) (S:Nat->Prop) (w:World) (hl:L.length<=1000000) (g:(catR (L.map Prod.fst)).size<=1000000000) (hR:RowGr w A L) (hG:∀p∈L,GrG w S p) (ac:∀p∈L,∀o∈p.1.ops,o.text.size<=1000000) (ad:Tabs w):
    Calls Tryz.prog 12 #[.slice A L.length c] w λe w'=>∃v,e= .returned (.tuple #[.string (catR (L.map Prod.fst)),v])∧w'.ownsRow w.heap.size 3 1 v L.length (endsR (L.map Prod.fst) L.length)∧Below w.heap.size w w':=by
  obtain⟨i0,hi,ay,az,aA⟩:=bx infoInt25;obtain⟨a,y⟩:∃a,a=L.map Prod.fst:=⟨_,rfl⟩;rw[<-y] at g ⊢;have af:a.length=L.length:=by rw[y,aV]
  have ah:=hid af;have aB:=hid (show ∀k,(L.getD k gp0).1=a.getD k gz from λk=>by rw[getD_fst',y]);have aC:=hid g;have HR:=hid hR;have HG:=hid hG;have aD:=hid ac;have aE:=hid ad;clear g hR hG ac ad y af;go_enter Tryz.func12,Tryz.ntmps12;go_upto_region 4 with fail;go_loopw [4,5,6] (λs v i wr=>∃(k:Nat) (B:ByteArray),k<=L.length∧i= .int .i64 k∧s= .string B∧Hid (B=catR (a.take k))∧Hid (wr.ownsRow w.heap.size 3 1 v k (endsR a k))∧Hid (Below w.heap.size w wr)) (λ_ _ i _=>L.length-(RowKit.intOf i).toNat)
  case atStart=>exact⟨0,⟨#[]⟩,aq _,rfl,rfl,hid rfl,hid (aH _ _ _ _),hid (ag _ _)⟩
  case round=>
    obtain⟨k,B,hk,rfl,rfl,ai,HO,b⟩:=hrel;by_cases C:k<L.length
    · have i1:(0:Int)<=(k:Int):=by omega
      have i2:(k:Int)<(L.length:Int):=by omega
      obtain⟨N,O,rfl,aj,j⟩:=RowGr.range (RowGr.below HR.o b.o) C;have m:L.getD k gp0∈L:=by rw[ae,aw C];exact ch C
      have ak:GrG wr S (L.getD k gp0):=(HG.o _ m).agr (Agr.below b.o);have P:=aD.o _ m;have Q:=aB.o k;have D:=catR_take (l:=a) (k:=k) (by rw[ah.o];exact C);have R:=endsR_succ a k;have T:=catR_pre a (k+1);have g:=aC.o;obtain⟨X,hX⟩:∃X,X=recB (a.getD k gz):=⟨_,rfl⟩;obtain⟨z,hz⟩:∃z,z=(recV false (a.getD k gz)).2:=⟨_,rfl⟩;have al:recV false (a.getD k gz)=(X,z):=by rw[hX,hz,<-recV_recB]
      rw[<-hX,<-ai.o] at D;rw[D] at T R;rw[aX] at T;generalize L.getD k gp0=p at *;obtain⟨⟨⟨t,r⟩,n,u,⟨q,x⟩,ops⟩,⟨G,H,I,J⟩⟩:=p
      have am:=hid (λW (hB:Below wr.heap.size wr W) (M:Option Addr) (V:Nat) (Y:TabOf false 256 M W)=>show Calls Tryz.prog 41 #[.slice M 256 V,.agg #[t,r,n,.slice G u.length H,q,x,.slice I ops.length J]] W λe w'=>e= .returned (.tuple #[X,z])∧Below W.heap.size W w' from by
        have h9:=record_any (w:=W) false M 256 V Y ⟨⟨t,r⟩,n,u,⟨q,x⟩,ops⟩ G H I J S (GrIn.agr ak (Agr.below hB)) (λo ho=>by have:=P o ho;omega) (λ_=>P) (aE.o.below (b.o.trans (hB.mono b.o.size)));rw[show(⟨⟨t,r⟩,n,u,⟨q,x⟩,ops⟩:Grp)=a.getD k gz from Q,al] at h9;rw[<-Q] at h9
        exact h9)
      have f:=hid (show wr.rangeAt N (O+k*7) [t,r,n,.slice G u.length H,q,x,.slice I ops.length J] from j);have aF:=hid D;have aG:=hid R;have aN:¬maxLen<B.size+X.size:=by unfold maxLen;omega
      have aL:B.size+X.size<=1000000000:=by omega
      clear D R T g hX hz al ak P Q j m;go_upto_region 6 with fail;refine aY (S:=λw'=>w'.rangeAt N (O+k*7) [t,r,n,.slice G u.length H,q,x,.slice I ops.length J]) (by kernel_rfl) ?_
      try(change wpAnyH _ _ _ _ _ _ _ _ (World.drew _))
      refine tk 1 (.slice (some ⟨N,O,none⟩) L.length c) ((show wr.drew.rangeAt _ _ _ from f.o)) ?_;go_simp;refine tk 2 (.int .i64 (k:Int)) ((show wr.drew.rangeAt _ _ _ from f.o)) ?_;go_simp;refine tk 3 (.pointer (some ⟨N,O+k*7,none⟩)) ((show wr.drew.rangeAt _ _ _ from f.o)) ?_;go_simp;refine tk2 4 (.agg ([t,r,n,.slice G u.length H,q,x,.slice I ops.length J]:List Value).toArray) rfl (bc (by rfl) _ _ rfl N (O+k*7) rfl [t,r,n,.slice G u.length H,q,x,.slice I ops.length J] _ (λW' aI=>aI) aJ rfl (by kernel_rfl)) ((show wr.drew.rangeAt _ _ _ from f.o)) ?_;go_simp;refine rd1 0 λK U=> ?_;go_simp;have an:Below wr.heap.size wr wr.drew:=⟨rfl,rfl,rfl,aa _,λ_ _=>rfl⟩;refine(jg wr.drew).mono ?_;rintro e wa ⟨v,rfl,hO,ao⟩;obtain⟨M,V,rfl,-,Y⟩:=own_tab hO;have E:=hid (an.trans ao);have ap:=hid (show TabOf false 256 M wa from⟨rfl,Y⟩);have ar:=hid (range_below f.o aj E.o);clear ao an hO Y;go_simp;refine U.out _ _ (ar.o) (λ_=> ?_);clear U K;refine rd1 5 λK U=> ?_;go_simp;refine(am.o wa E.o M V ap.o).mono ?_;rintro e wb ⟨rfl,au⟩;have F:=bT E au;have d:=hid (range_below f.o aj F.o);clear au;go_simp;refine U.out _ _ (d.o) (λ_=> ?_);clear U K;refine tk 6 (.tuple #[X,z]) (d.o) ?_;go_simp;refine tk 7 (.string X) (d.o) ?_;go_simp;refine tk 8 (.int .i64 z) (d.o) ?_;go_simp;refine tk 9 (.string X) (d.o) ?_;go_simp
      refine tk 10 (.int .i64 z) (d.o) ?_;go_simp;refine bp (by kernel_rfl) ?_ _;go_simp;have aM:=F.o.size;have ax:=b.o.size;have aK:=hid (b.o.trans (F.o.mono ax));have av:=kO HO F.o;clear E ap ar d am;go_wp2_with (at_builtin;refine bv _ rfl _ _ 27 rfl w.heap.size 3 i0 (.int .i64 0) 1 8 jw hi ay az aA rfl (by decide) _ _ _ rfl (by exact av.o.alloc _) ⟨wb.heap.size,0,none⟩ 1 1 [.int .i64 ((B.size:Int)+(X.size:Int))] rfl rfl (by exact cell_one _ _ _) (λu hu=>by simp at hu;subst hu;rfl) (by unfold maxLen;omega) (by omega) (by simp;omega) ?_;intro v' w3 Z ab _);go_roundw
      case rel=>
        refine⟨k+1,B++X,by omega,by go_num,rfl,hid aF.o.symm,hid ?_,hid ((aK.o.alloc (by omega) _).grown ab (by simp;omega) (λi h=>(av.o.lt i h).1))⟩;rw[aG.o,aX,Int.natCast_add];exact Z
      case measure=>(simp[RowKit.intOf];omega)
    · obtain rfl:k=L.length:=by omega
      have i2:¬(L.length:Int)<(L.length:Int):=by omega
      have HE:=hid (show B=catR a by rw[ai.o,<-ah.o,aO]);go_wp2;go_ret2;exact⟨_,by rw[HE.o];rfl,HO.o,b.o⟩
end
section
set_option maxRecDepth 100000
theorem chk_first:chkB firstG=true:=by decide +kernel
end
section
open Go.RowKit Go.Lib Go.Sort
attribute [local go_sem ↓] Go.wp_at_zero Go.wp_at_succ
theorem sameall_any (L o:List (Grp×GrX)) (A A2:Option Addr) (c c2:Nat) (S S2:Nat->Prop) (w:World) (hl:L.length<=1000000) (hR:RowGr w A L) (hG:∀p∈L,GrG w S p) (N:RowGr w A2 o) (O:∀p∈o,GrG w S2 p) (U:L.map Prod.fst=o.map Prod.fst):
  Calls Tryz.prog 15 #[.slice A L.length c,.slice A2 o.length c2] w λe w'=>e= .returned (.bool true)∧Below w.heap.size w w':=by
 have D:o.length=L.length:=by have:=congrArg List.length U;simpa using this.symm
 rw[D];have P:=hid D;have HE:=hid (show ∀k,(L.getD k gp0).1=(o.getD k gp0).1 from λk=>by rw[getD_fst',getD_fst',U]);have HR:=hid hR;have HG:=hid hG;have aa:=hid N;have ab:=hid O;clear hR hG N O U D;go_enter Tryz.func15,Tryz.ntmps15;go_upto_region 4 with fail;go_loopw [5] (λi wr=>∃k:Nat,i= .int .i64 k∧k<=L.length∧Hid (Below w.heap.size w wr)) (λi _=>L.length-(RowKit.intOf i).toNat)
 case atStart=>exact⟨0,rfl,aq _,hid (ag _ _)⟩
 case round=>
  obtain⟨k,rfl,hk,j⟩:=hrel;by_cases q:k<L.length
  ·have i0:(0:Int)<=(k:Int):=by omega
   have i1:(k:Int)<(L.length:Int):=by omega
   obtain⟨s,x,rfl,ah,f⟩:=RowGr.range (RowGr.below HR.o j.o) q;obtain⟨g,h,rfl,af,b⟩:=RowGr.range (RowGr.below aa.o j.o) (k:=k) (by rw[P.o];exact q);have Q:GrG wr S (L.getD k gp0):=(HG.o _ (by rw[ae,aw q];exact ch q)).agr (Agr.below j.o);have R:GrG wr S2 (o.getD k gp0):=(ab.o _ (by rw[ae,aw (by rw[P.o];exact q)];exact ch _)).agr (Agr.below j.o);have T:=HE.o k;generalize L.getD k gp0=p at *;generalize o.getD k gp0=p2 at *;obtain⟨⟨⟨t,r⟩,n,u,⟨B,C⟩,l⟩,⟨V,X,Y,Z⟩⟩:=p;obtain⟨⟨⟨I,J⟩,K,M,⟨y,z⟩,m⟩,⟨E,F,G,H⟩⟩:=p2
   have ac:=hid (λW (hB:Below wr.heap.size wr W)=>show Calls Tryz.prog 46 #[.agg #[t,r,n,.slice V u.length X,B,C,.slice Y l.length Z],.agg #[I,J,K,.slice E M.length F,y,z,.slice G m.length H]] W λe w'=>e= .returned (.bool true)∧Below W.heap.size W w' from by
    have h9:=sameg_any _ _ V E Y G X F Z H S S2 W (GrIn.agr Q (Agr.below hB)) (GrIn.agr R (Agr.below hB));have h8:sameG ⟨⟨t,r⟩,n,u,⟨B,C⟩,l⟩ ⟨⟨I,J⟩,K,M,⟨y,z⟩,m⟩=true:=by
     rw[show(⟨⟨I,J⟩,K,M,⟨y,z⟩,m⟩:Grp)=⟨⟨t,r⟩,n,u,⟨B,C⟩,l⟩ from T.symm];exact sameG_iff.2 rfl
    rw[show(Grp.mk ⟨t,r⟩ n u ⟨B,C⟩ l)=⟨⟨t,r⟩,n,u,⟨B,C⟩,l⟩ from rfl,h8] at h9
    exact h9)
   have y0:=aj (w:=wr) (a:=⟨s,x+k*7,none⟩) (v:= .int .i64 t) (f 0 _ rfl);have y1:=aj (w:=wr) (a:=⟨s,x+k*7+1,none⟩) (v:= .int .i64 r) (f 1 _ rfl);have y2:=aj (w:=wr) (a:=⟨s,x+k*7+2,none⟩) (v:= .int .i64 n) (f 2 _ rfl);have y3:=aj (w:=wr) (a:=⟨s,x+k*7+3,none⟩) (v:= .slice V u.length X) (f 3 _ rfl);have y4:=aj (w:=wr) (a:=⟨s,x+k*7+4,none⟩) (v:= .int .i64 B) (f 4 _ rfl);have y5:=aj (w:=wr) (a:=⟨s,x+k*7+5,none⟩) (v:= .int .i64 C) (f 5 _ rfl);have y6:=aj (w:=wr) (a:=⟨s,x+k*7+6,none⟩) (v:= .slice Y l.length Z) (f 6 _ rfl);have z0:=aj (w:=wr) (a:=⟨g,h+k*7,none⟩) (v:= .int .i64 I) (b 0 _ rfl);have z1:=aj (w:=wr) (a:=⟨g,h+k*7+1,none⟩) (v:= .int .i64 J) (b 1 _ rfl);have z2:=aj (w:=wr) (a:=⟨g,h+k*7+2,none⟩) (v:= .int .i64 K) (b 2 _ rfl);have z3:=aj (w:=wr) (a:=⟨g,h+k*7+3,none⟩) (v:= .slice E M.length F) (b 3 _ rfl);have z4:=aj (w:=wr) (a:=⟨g,h+k*7+4,none⟩) (v:= .int .i64 y) (b 4 _ rfl);have z5:=aj (w:=wr) (a:=⟨g,h+k*7+5,none⟩) (v:= .int .i64 z) (b 5 _ rfl);have z6:=aj (w:=wr) (a:=⟨g,h+k*7+6,none⟩) (v:= .slice G m.length H) (b 6 _ rfl);have cA:=λd os=>ak (ac.o (grow (redrawn wr d) os) (bL wr d os));clear f b Q R T;go_upto_region 6 with fail;refine rqb ?_
   repeat(any_goals(first|go_big_quiet_step (with_reducible exact cA _ _)|quiet_step (with_reducible exact cA _ _)))
   refine qz λwq ad=> ?_;go_wp2;go_roundw
   case rel=>exact⟨k+1,by go_num,by omega,bT j ad⟩
   case measure=>(simp[RowKit.intOf];omega)
  ·obtain rfl:k=L.length:=by omega
   have i1:¬(L.length:Int)<(L.length:Int):=by omega
   go_wp2;go_ret;exact⟨rfl,j.o⟩
theorem hear_first:du Bx.new firstG=(Bx.new.put firstG,1,0):=by
 unfold du;rw[aE (by rw[chk_first];decide),aE (by decide +kernel),aN (by decide +kernel)];rfl
theorem fit_first:fitG firstG:=⟨by decide,λx hx=>(by cases hx),λo ho=>by
 have:o=firstO:=by simpa[firstG] using ho
 subst this
 exact⟨by unfold okB;decide,by unfold okB;decide,by decide,by decide⟩⟩
theorem text_first:∀o∈firstG.ops,o.text.size<=1000000:=λo ho=>by
 have:o=firstO:=by simpa[firstG] using ho
 subst this;decide
theorem dec_first:decZ (grpS firstG).data.toList=some firstG:=dec_enc fit_first chk_first
theorem len_first:(grpZ firstG).length=17:=by decide +kernel
theorem rec_first:recB firstG=fN Crc.tab (grpS firstG):=aN ⟨chk_first,by rw[len_first];decide⟩
theorem size_first:(recB firstG).size=22:=by
 rw[rec_first,iv,aX];have:(grpS firstG).size=17:=by unfold grpS;rw[mkS,len_first]
 rw[this];have a:(putS 17).size=1:=by decide +kernel
 rw[a]
theorem next_short (t:Nat->Nat) (x R r:ByteArray) (l:x.size<=1048576) (h:fN t x=R++r) (m:r.size≠0):fE t R= .err 10:=by
 have d:=congrArg (λb:ByteArray=>b.data.toList) h;simp only[frame_data,fG] at d;have f:=congrArg List.length d;simp only[al,gl] at f;rw[sum_size] at f;by_cases g:R.data.toList.length<(uvarint x.size).length
 ·have e:R.data.toList=(uvarint x.size).take R.data.toList.length:=by
   have a:=congrArg (List.take R.data.toList.length) d;rw[List.take_left,aM,gL (by omega)] at a;exact a.symm
  have c:=Vr.take_cut x.size (by omega) _ g;rw[<-e] at c;exact next_err c
 ·obtain⟨q,i⟩:∃q,q=R.data.toList.drop (uvarint x.size).length:=⟨_,rfl⟩;have e:R.data.toList=uvarint x.size++q:=by
   have a:=congrArg (List.take (uvarint x.size).length) d;rw[aM,List.take_left,gL (by omega)] at a;rw[i]
   conv=>lhs;rw[<-fe (uvarint x.size).length R.data.toList]
   rw[<-a]
  have c:=Vr.take_put x.size (by omega) q;rw[<-e] at c;have j:=congrArg List.length e;rw[al,gl] at j;have k:=next_go (t:=t) (R:=⟨q.toArray⟩) c;rw[k];refine next_10 (by omega) ?_;rw[mkS];omega
theorem rec_twice {a:Bx} {b:ByteArray} (h:Rec Crc.tab Bx.new (recB firstG++(recB firstG).extract 0 3) a b):a.done=[firstG]∧b.size=3:=by
 have c:(grpS firstG).size<=1048576:=by unfold grpS;rw[mkS,len_first];decide
 have d:fE Crc.tab (recB firstG++(recB firstG).extract 0 3)= .ok (grpS firstG) ((recB firstG).extract 0 3):=by
  rw[rec_first];exact next_frame _ _ _ c
 have e:fE Crc.tab ((recB firstG).extract 0 3)= .err 10:=by
  refine next_short Crc.tab (grpS firstG) ((recB firstG).extract 0 3) ((recB firstG).extract 3 (recB firstG).size) c ?_ ?_
  ·rw[<-rec_first];refine iX ?_;rw[fG,bs_pre,bs_suf,fe]
  ·rw[dg,size_first];decide
 have f:Rec Crc.tab Bx.new (recB firstG++(recB firstG).extract 0 3) (du Bx.new firstG).1 ((recB firstG).extract 0 3):= .go d dec_first (by rw[hear_first]) (.stop1 e);obtain⟨rfl,rfl⟩:=h.det f;refine⟨by rw[hear_first];rfl,?_⟩;rw[dg,size_first];decide
theorem row_one {w:World} {g:Nat} {p:Grp×GrX} (h:w.heap[g]? =some (.cells (grL p.1 p.2).toArray 45 (0,0))):RowGr w (some ⟨g,0,none⟩) [p]:=λk hk=>by
 obtain rfl:k=0:=by have:k<1:=hk;omega
 refine⟨g,0,rfl,trivial,lt_of_block h,λj hj=> ?_⟩
 rw[show 0+0*7+j=j by omega,aG _ _ _ _ _ _ h]
 have hj:j<(grL p.1 p.2).length:=hj
 show(grL p.1 p.2).toArray[j]? =some ((grL p.1 p.2).getD j undef)
 rw[List.getElem?_toArray,ae,aw hj]
 rfl
theorem tab25 {w w':World} {v:Value} (a:w'.ownsRow w.heap.size 78 1 v 256 (tabL 256)):∃A cap,v= .slice A 256 cap∧TabOf false 256 A w':=by
 obtain⟨A,cap,b,-,c⟩:=own_tab a;exact⟨A,cap,b,rfl,c⟩
theorem awake25_any (w:World) (m:Tabs w):
  Calls Tryz.prog 10 #[] w λe w'=>e= .returned (.bool true)∧Below w.heap.size w w':=by
 have n:=hid m;clear m;obtain⟨R,g⟩:∃R,R=recB firstG:=⟨_,rfl⟩;have b:R.size=22:=by rw[g,size_first]
 have M:=hid (show recV false firstG=(R,0) by rw[g,rec_first];unfold recV;rw[chk_first,aE (by decide),len_first,aE (by decide),aE (by decide)]);have q:=hid (λb2 r2 (h:Rec Crc.tab Bx.new (R++R.extract 0 3) b2 r2)=>rec_twice (by rw[<-g];exact h));have r:(R.extract 0 3).size=3:=by rw[dg,b];decide
 have s:(R++R.extract 0 3).size=25:=by rw[aX,r,b]
 have N:=hid s;have ai:=hid b;clear g s r;go_enter Tryz.func10,Tryz.ntmps10
 go_upto_region 3 with(first
  |(go_at_call 14;refine(jg _).mono ?_;rintro e w1 ⟨v,rfl,O,t⟩;obtain⟨P,Q,rfl,S⟩:=tab25 O;have T:=hid S;have U:=hid t;clear O S t)
  |(go_at_call 42;refine(firstg_any w1).mono ?_;rintro e w2 ⟨fa,rfl,u,c⟩;have V:=hid u;have x:=hid (T.o.below c);have y:=bT U c;clear u c)
  |(go_at_call 41;refine(record_any (w:=w2) false P 256 Q x.o firstG none 0 (some ⟨fa,0,none⟩) 1 _ V.o (λo ho=>by have:=text_first o ho;omega) (λ_=>text_first) (n.o.below y.o)).mono ?_;rw[M.o];rintro e W ⟨rfl,d⟩;have X:=hid (x.o.below d);have z:=bT y d;clear d))
 go_upto_region 5 with fail;go_upto_region 6 with(go_at_call 13;refine(recover_any P Q (R++R.extract 0 3) W (by rw[N.o];decide) X.o.2 (n.o.below z.o)).mono ?_;rintro e Y ⟨b4,r4,L,A4,c4,f,A,rfl,B,C,Z,D⟩;have E:=bT z D;have ab:=(q.o _ _ f).2;have F:=hid (q.o _ _ f).1;have G:=hid A;have ac:=hid (RowGr.own B);have ad:=hid C;clear f A B C Z D);have H:=hid (show L.map Prod.fst=[firstG] by rw[G.o,F.o]);have ae:=hid (show L.length<=1000000 by have i:=congrArg List.length H.o;rw[aV] at i;rw[i];decide);clear G F ab
 go_wp2_with (first
  |(go_at_call 42;refine(firstg_any Y).mono ?_;rintro e j ⟨fb,rfl,I,J⟩;have af:=hid I;have a:=hid J;clear I J)
  |(go_at_call 15;refine(sameall_any L [(firstG,⟨none,0,some ⟨fb,0,none⟩,1⟩)] A4 (some ⟨j.heap.size,0,none⟩) c4 1 (λk=>W.heap.size<=k) (λk=>Y.heap.size<=k) _ ae.o ((ac.o.below a.o).below ((ag _ _).alloc (aa _) _)) (λp l=>((ad.o p l).agr (Agr.below a.o)).agr (Agr.below ((ag _ _).alloc (aa _) _))) (row_one (an j _)) (λp l=>by rw[ba] at l;rw[l];exact GrIn.agr af.o (Agr.below ((ag _ _).alloc (aa _) _))) H.o).mono ?_;rintro e w6 ⟨rfl,K⟩;have ah:=hid K;clear K))
 go_ret;have i:=E.o.size;have h8:=a.o.size;exact⟨rfl,(E.o.trans (a.o.mono i)).trans ((((ag j.heap.size j).alloc (aa _) _).mono (by omega)).trans (ah.o.mono (by simp;omega)))⟩
theorem catR_len {gs:List Grp} (h:∀g∈gs,recOk g):gs.length<=(catR gs).size:=by
 induction gs with
 |nil=>exact aq _
 |cons g gs ih=>
  have:=ih (λx a=>h x (by simp[a]));rw[iw,aX,bQ,(h g (by simp)).rec,iv];omega
theorem lawtable_any (a:Bool) (w:World):Calls Tryz.prog 39 #[a] w λe w'=>∃A m cap,e= .returned (.slice A m cap)∧TabOf a m A w'∧Below w.heap.size w w':=by
 cases a with
 |true=>exact(table_t w).mono (by rintro e w' ⟨A,cap,rfl,b⟩;exact⟨A,255,cap,rfl,(by show(255:Nat)≠256;decide),b⟩)
 |false=>exact(table_f w).mono (by rintro e w' ⟨A,cap,rfl,c,b⟩;exact⟨A,256,cap,rfl,⟨rfl,c⟩,b⟩)
end
section
open Go.Lib
theorem opZ_hh {o:Gop} (h:okO o) (q:o.dots.length<=16) (r:o.elems.length<=3) (s:o.text.size<=2) (t:o.name.size<=1):(opZ o).length<=500:=by
 obtain⟨a,u,c,name,d,dots,p,v,text,elems⟩:=o;obtain⟨w,y,D,e,f,g,i,j,k,m,n⟩:=h;simp only at w y e f g i j k m n q r s t;have E:(natZ a).length<=10:=dz (by omega);have F:=ep e;have G:=ep f;have H:=eM g;have I:=ep j;have J:=ep k;have K:=eM m;have L:=gJ (z:=stZ) (l:=dots) λx b=>stZ_le (i.2 x b);have M:=gJ (z:=idZ) (l:=elems) λx b=>ep (n.2 x b);have A:(natZ dots.length).length<=10:=dz (by omega);have B:(natZ elems.length).length<=10:=dz (by omega);have C:(natZ (if d then 1 else 0)).length<=10:=dz (by split<;>omega);unfold opZ;simp only;split
 ·simp only[al];omega
 ·split
  ·simp only[al];omega
  ·split
   ·simp only[al];omega
   ·split
    ·simp only[al];omega
    ·simp only[al];omega
theorem grpZ_hh {g:Grp} (e:fitG g) (h:chkB g=true) (c:g.ops.length<=1) (b:∀o∈g.ops,o.dots.length<=16∧o.elems.length<=3∧o.text.size<=2∧o.name.size<=1):(grpZ g).length<=1000:=by
 obtain⟨c,f,i,d,j⟩:=chk_ok e h;obtain⟨m,n,p⟩:=chk_sho h;have q:=dz c.1.2;have r:=dz c.2.2;have s:=dz f.2;have t:=dz d.1.2;have u:=dz d.2.2;have v:(natZ g.ops.length).length<=10:=dz (by omega);have w:(natZ g.deps.length).length<=10:=dz (by omega);have y:=gJ (z:=natZ) (l:=g.deps) λx k=>dz (i.2 x k).2;have A:=gJ (z:=opZ) (l:=g.ops) λo a=>opZ_hh (j.2 o a) (b o a).1 (b o a).2.1 (b o a).2.2.1 (b o a).2.2.2;unfold grpZ kj;simp only[al];omega
end
section
open Go.RowKit Go.Lib
structure JOk (D:List Grp):Prop where
 his:HisG D
 len:D.length<=30
 fit:∀g∈D,fitG g
 siz:∀g∈D,(grpZ g).length<=1000
theorem JOk.recd {D:List Grp} (h:JOk D) {g:Grp} (hg:g∈D):recB g=fN Crc.tab (grpS g):=aN ⟨h.his.chk g hg,by have:=h.siz g hg;omega⟩
theorem JOk.recSize {D:List Grp} (h:JOk D) {g:Grp} (a:g∈D):(recB g).size<=1100∧0<(recB g).size:=by
 rw[h.recd a,iv,aX];have b:(grpS g).size<=1000:=by unfold grpS;rw[mkS];exact h.siz g a
 have c:(putS (grpS g).size).size<=10:=by unfold putS;rw[mkS];exact uvarint_length64 (by omega)
 omega
theorem JOk.catLe {D:List Grp} (h:JOk D):∀(l:List Grp),(∀g∈l,g∈D)->(catR l).size<=1100*l.length
 | [],_=>by show(⟨#[]⟩:ByteArray).size<=_;exact aq _
 |g::l,hl=>by
  have h1:=JOk.catLe h l λx hx=>hl x (by simp[hx])
  have h2:=(h.recSize (hl g (by simp))).1
  rw[iw,aX,bQ];omega
end
section
open Go.ChangeShapes Go.WideShapes Go.RowKit Go.Lib Go.Deep
section
variable {H : Type} {enc : TypeId × Value → H} {w : World} {spare : Nat → Bool} {held : Bool} {fuel : Nat} {cs : List Value} {x : DataW H × List MemPlace}
theorem ky:Tryz.prog.cellsOf 5=1:=by kernel_rfl
theorem cells_do:Tryz.prog.cellsOf 86=6:=by kernel_rfl
theorem wf_u8 {n:Int} (h:(Lit.int .u8 n).wf=true):0<=n∧n<=255:=by
 simpa[Lit.wf,IntKind.min,IntKind.max,IntKind.bits,IntKind.signed] using h
instance:Inhabited Doo:=⟨do0⟩
theorem opn_do (h:DataW.trod enc Tryz.prog w 0 spare held fuel 86 cs=some x):∃d:Doo,cs=doC d∧doOk d:=by
 obtain⟨l,n,_,_,b,c,a⟩:=DataW.trod_struct Tryz.underlying86 h;rw[cells_do] at b
 match cs,b,l,c with
 | [c0,c1,c2,c3,c4,c5],_,[y0,y1,y2,y3,y4,y5],_=>
  obtain⟨e,m,_,w0⟩:=DataW.trod_int dM (fld (a 0 _ rfl) ky rfl rfl);obtain⟨f,o,_,p⟩:=DataW.trod_int dM (fld (a 1 _ rfl) ky rfl rfl);obtain⟨g,q,_,r⟩:=DataW.trod_int dM (fld (a 2 _ rfl) ky rfl rfl);obtain⟨i,s,_,t⟩:=DataW.trod_int dM (fld (a 3 _ rfl) ky rfl rfl);obtain⟨j,u,_,v⟩:=DataW.trod_int dM (fld (a 4 _ rfl) ky rfl rfl);obtain⟨k,y,_⟩:=DataW.trod_bool Tryz.underlying4 (fld (a 5 _ rfl) cells_bool rfl rfl);have z:=wf_u8 w0;have A:=wf_u8 p;have B:=wf_u8 r;have C:=wf_u8 t;have D:=wf_u8 v;cases m;cases o;cases q;cases s;cases u;cases y;refine⟨⟨e.toNat,f.toNat,g.toNat,i.toNat,j.toNat,k⟩,?_,?_⟩
  ·show _=[Value.int .u8 (e.toNat:Int),.int .u8 (f.toNat:Int),.int .u8 (g.toNat:Int),.int .u8 (i.toNat:Int),.int .u8 (j.toNat:Int),.bool k];rw[i9 z.1,i9 A.1,i9 B.1,i9 C.1,i9 D.1]
  ·refine⟨?_,?_,?_,?_,?_⟩<;>(simp only[];omega)
theorem opn_dos (h:DataW.trod enc Tryz.prog w 0 spare held fuel 22 cs=some x):∃(A:Option Addr) (D:List Doo) (c:Nat),cs=[.slice A D.length c]∧D.length<=c∧c<=maxLen∧RowF w (Here w) A 6 doC do0 D∧∀d∈D,doOk d:=by
 obtain⟨A,e,c,f,g,a,l,m,o⟩:=opn_rows (α:=Doo) (s:=6) (by decide) Tryz.underlying22 cells_do (λp j=>(doC p).getD j undef) (λp _=>doOk p) (λn t d p h=>by
  obtain⟨v,rfl,a⟩:=opn_do h;refine⟨v,λj i=> ?_,a⟩;have:j<(doC v).length:=i;rw[aw this,ae,aw this]
  rfl) h
 refine⟨A,(List.range e).map f,c,by rw[jm];exact g,by rw[jm];exact a,l,?_,λy q=> ?_⟩
 ·unfold RowF;rw[jm];exact RowG.congr m λk j b i=>by rw[range_getD f do0 b]
 ·obtain⟨k,b,rfl⟩:=bN.1 q;obtain⟨d,r,_⟩:=o k (gy.1 b);exact r
theorem opn_u8s (h:DataW.trod enc Tryz.prog w 0 spare held fuel 23 cs=some x):∃(A:Option Addr) (P:List Int) (c:Nat),cs=[.slice A P.length c]∧P.length<=c∧c<=maxLen∧RowF w (Here w) A 1 u8L 0 P∧∀q∈P,0<=q∧q<=255:=by
 obtain⟨A,b,c,f,e,g,i,l,m⟩:=opn_rows (α:=Int) (s:=1) (by decide) df ky (λv j=>(u8L v).getD j undef) (λv _=>0<=v∧v<=255) (λn z d p h=>by
  obtain⟨v,rfl,_,o⟩:=DataW.trod_int dM h
  exact⟨v,λj r=>by obtain rfl:j=0:=(by omega);rfl,wf_u8 o⟩) h
 refine⟨A,(List.range b).map f,c,by rw[jm];exact e,by rw[jm];exact g,i,?_,λy t=> ?_⟩
 ·unfold RowF;rw[jm];exact RowG.congr l λk j a r=>by rw[range_getD f 0 a]
 ·obtain⟨k,a,rfl⟩:=bN.1 t;obtain⟨d,u,_⟩:=m k (gy.1 a);exact u
end
end
section
open Go.RowKit Go.Lib Go.Sort
attribute [local go_sem ↓] Go.wp_at_zero Go.wp_at_succ
def RcA (odd:Bool) (s:ByteArray) (D:List Grp) (n:Nat) (er:Int):Prop:=match odd with
 |true=>D=[]∧n=0∧er=1
 |false=>∃b r,Rec Crc.tab Bx.new s b r∧D=b.done∧n=s.size-r.size∧er=0
theorem RcA.det {a:Bool} {s:ByteArray} {D d:List Grp} {n e:Nat} {f c:Int} (h:RcA a s D n f) (k:RcA a s d e c):D=d∧n=e∧f=c:=by
 cases a with
 |true=>
  obtain⟨rfl,rfl,rfl⟩:=h;obtain⟨rfl,rfl,rfl⟩:=k;exact⟨rfl,rfl,rfl⟩
 |false=>
  obtain⟨b,r,g,rfl,rfl,rfl⟩:=h;obtain⟨j,l,i,rfl,rfl,rfl⟩:=k;obtain⟨rfl,rfl⟩:=g.det i;exact⟨rfl,rfl,rfl⟩
def RcQ (odd:Bool) (s:ByteArray) (w:World) (e:Ending) (w':World):Prop:=∃(n:Nat) (er:Int) (L:List (Grp×GrX)) (A':Option Addr) (c':Nat),RcA odd s (L.map Prod.fst) n er∧e= .returned (.tuple #[.slice A' L.length c',(n:Int),er])∧RowGr w' A' L∧(∀p∈L,GrG w' (λ_=>True) p)∧L.length<=1000000∧Below w.heap.size w w'
theorem rec_len {s r:ByteArray} {b:Bx} (h:Rec Crc.tab Bx.new s b r):b.done.length<=s.size:=by
 obtain⟨e,a,c,-⟩:=h.again;have d:=catR_len c;rw[<-a,dg] at d;omega
theorem rcv_any (a:Bool) (A:Option Addr) (m c:Nat) (s:ByteArray) (w:World) (d:TabOf a m A w) (t:s.size<=90000) (g:Tabs w):
  Calls Tryz.prog 13 #[.slice A m c,s] w λe w'=>RcQ a s w e w':=by
 cases a with
 |true=>exact(recover_bad A m c d s w).mono (by rintro e w' ⟨rfl,rfl⟩;exact⟨0,1,[],none,0,⟨rfl,rfl,rfl⟩,rfl,RowG.zero,λp f=>(by cases f),aq _,ag _ _⟩)
 |false=>
  obtain⟨rfl,d⟩:=d;refine(recover_any A c s w (by omega) d g).mono ?_;rintro e w' ⟨b,r,L,j,k,h,i,rfl,l,n,u,o⟩;exact⟨_,0,L,j,k,⟨b,r,h,i,rfl,rfl⟩,rfl,RowGr.own l,λp f=>(n p f).sub λ_ _ _=>trivial,by have:=rec_len h;have q:=congrArg List.length i;rw[aV] at q;omega,o⟩
theorem rref_any (a:Bool) (A:Option Addr) (m c:Nat) (s:ByteArray) (w:World) (d:TabOf a m A w) (h:s.size<=90000):
  Calls Tryz.prog 40 #[.slice A m c,s] w λe w'=>RcQ a s w e w':=by
 cases a with
 |true=>exact(refrecover_bad A m c d s w).mono (by rintro e w' ⟨rfl,rfl⟩;exact⟨0,1,[],none,0,⟨rfl,rfl,rfl⟩,rfl,RowG.zero,λp i=>(by cases i),aq _,ag _ _⟩)
 |false=>
  obtain⟨rfl,d⟩:=d;refine(refrecover_any A c s w h d).mono ?_;rintro e w' ⟨b,r,L,j,k,f,g,rfl,l,n,o⟩;exact⟨_,0,L,j,k,⟨b,r,f,g,rfl,rfl⟩,rfl,l,n,by have:=rec_len f;have q:=congrArg List.length g;rw[aV] at q;omega,o⟩
theorem recs_mixed {L:List (Grp×GrX)} {i:List (List Int)} {V:List Int} {w w':World} {P:List Int} {A:Option Addr} (h:HOk 16 L i V) (d:∀p∈L,GrG w (λ_=>True) p) (j:Below w.heap.size w w') (k:RowGr w' A (gS L P)) (c:Nat) (f:Tabs w'):
  (catR ((gS L P).map Prod.fst)).size<=33000∧Calls Tryz.prog 12 #[.slice A (gS L P).length c] w' λe w2=>∃v,e= .returned (.tuple #[.string (catR ((gS L P).map Prod.fst)),v])∧w2.ownsRow w'.heap.size 3 1 v (gS L P).length (endsR ((gS L P).map Prod.fst) (gS L P).length)∧Below w'.heap.size w' w2:=by
 have l:JOk (L.map Prod.fst):=⟨h.his,by have:=h.len;rw[aV];omega,λg b=>by
  obtain⟨p,a,rfl⟩:=bN.1 b;exact fit_of (d p a),λg b=>by
  obtain⟨p,a,rfl⟩:=bN.1 b
  exact grpZ_hh (fit_of (d p a)) (h.chk p a) (h.one p a) (h.sml p a)⟩
 have r:=mixed_len L P;have m:(catR ((gS L P).map Prod.fst)).size<=33000:=by
  have n:=l.catLe ((gS L P).map Prod.fst) λg b=>by
   obtain⟨p,a,rfl⟩:=bN.1 b;exact bN.2 ⟨p,mixed_mem a,rfl⟩
  rw[aV] at n;omega
 exact⟨m,records_any A c (gS L P) (λ_=>True) w' (by omega) (by omega) k (λp a=>(d p (mixed_mem a)).agr (Agr.below j)) (λp a o q=>by have:=(h.sml p (mixed_mem a) o q).2.2.1;omega) f⟩
theorem journalrecovers_card (b:Bool) (s:ByteArray) (D:List Doo) (dA:Option Addr) (F:Nat) (P:List Int) (pA:Option Addr) (G:Nat) (W:World) (hs:s.size<=9223372036854775807) (aN:D.length<=F) (K:F<=maxLen) (hR:RowF W (Here W) dA 6 doC do0 D) (hD:∀x∈D,doOk x) (aO:P.length<=G) (M:G<=maxLen) (hP:RowF W (Here W) pA 1 u8L 0 P) (hb:∀q∈P,0<=q∧q<=255) (d:Tabs W):
  Calls Tryz.prog 9 #[b,s,.slice dA D.length F,.slice pA P.length G] W λe w'=>e= .returned (.bool true)∧Below W.heap.size W w':=by
 have v:=hid d;have N:=hid (λc (h:Below W.heap.size W c)=>awake25_any c (d.below h));have O:=hid (λc (h:Below W.heap.size W c)=>history_any D dA F (Here W) c hD (by unfold maxLen at K;omega) (hR.below h));have Q:=hid (λc (h:Below W.heap.size W c) (L:List (Grp×GrX)) H gc (hl:L.length<=100000) (hr:RowGr c H L)=>mixed_any L H gc P pA G (Here W) c hl (by unfold maxLen at M;omega) hr (hP.below h) hb);clear aN K hR hD aO M hP hb d;by_cases hl:3000<s.size
 ·have i1:(3000:Int)<(s.size:Int):=by omega
  go_enter Tryz.func9,Tryz.ntmps9;go_wp2_with (go_at_call 10;refine(N.o W (ag _ _)).mono ?_;rintro e w1 ⟨rfl,j⟩);go_ret;exact⟨rfl,j⟩
 ·have i1:¬(3000:Int)<(s.size:Int):=by omega
  have bi:s.size<=3000:=by omega
  clear hl hs;go_enter Tryz.func9,Tryz.ntmps9
  go_upto_region 6 with(first
   |(go_at_call 40;refine(rref_any b I m J s w2 R.o (by omega)).mono ?_;rintro e w3 ⟨n3,bj,L3,A3,c3,S,rfl,T,U,Y,k⟩;have Z:=hid S;have aP:=hid T;have aQ:=hid U;have bk:=hid Y;have l:=hid k;have aa:=bT aR k;have aS:=hid (R.o.below k);clear S T U Y k)
   |(go_at_call 13;refine(rcv_any b I m J s w1 ab.o (by omega) (v.o.below ac.o)).mono ?_;rintro e w2 ⟨n2,ad,L2,A2,c2,ae,rfl,af,ah,ai,w⟩;have aj:=hid ae;have aT:=hid af;have aU:=hid ah;have aV:=hid ai;have aR:=bT ac w;have R:=hid (ab.o.below w);clear ae af ah ai w)
   |(go_at_call 39;refine(lawtable_any b W).mono ?_;rintro e w1 ⟨I,m,J,rfl,hT,j⟩;have ab:=hid hT;have ac:=hid j;clear hT j))
  obtain⟨ak,aW,aY⟩:=aj.o.det Z.o;subst aW aY;have aZ:=hid ak;clear ak aj Z
  go_upto_region 7 with(first
   |(go_at_call 12;refine al.o.mono ?_;rintro e w6 ⟨v6,rfl,-,y⟩;have am:=bT a0 y;have an:=bT ao y;clear y)
   |(go_at_call 19;refine(Q.o w4 ap.o L H gc (by have:=z.o.len;omega) (RowGr.own aq.o)).mono ?_;rintro e w5 ⟨mA,mc,rfl,a,n⟩;have a0:=bT a1 n;have ao:=bT ap n;obtain⟨A,ar⟩:=recs_mixed z.o au.o n (RowGr.own a) mc (v.o.below ao.o);have av:=hid A;have al:=hid ar;clear a n A ar)
   |(go_at_call 17;refine(O.o w3 aa.o).mono ?_;rintro e w4 ⟨L,kn,V,H,gc,rfl,aw,a,ax,B⟩;have z:=hid aw;have aq:=hid a;have au:=hid ax;have a1:=hid B;have ap:=bT aa B;clear aw a ax B))
  obtain⟨X,hX⟩:∃X,X=catR ((gS L P).map Prod.fst):=⟨_,rfl⟩;have bl:X.size<=33000:=by rw[hX];exact av.o
  rw[<-hX];clear hX al av Q O z aq au;have bm:¬maxLen<X.size+s.size:=by unfold maxLen;omega
  have HZ:=hid (show(X++s).size<=90000 by rw[aX];omega);have ay:=hid (aS.o.below am.o)
  go_upto_region 9 with(first
   |(go_at_call 40;refine(rref_any b I m J (X++s) w7 a2.o HZ.o).mono ?_;rintro e w8 ⟨n8,bn,L8,A8,c8,az,rfl,aA,aB,aC,o⟩;have aD:=hid az;have a3:=hid aA;have a4:=hid aB;have bo:=hid aC;have a5:=hid o;have a6:=bT a7 o;have aE:=bT a8 o;clear az aA aB aC o)
   |(go_at_call 13;refine(rcv_any b I m J (X++s) w6 ay.o HZ.o (v.o.below an.o)).mono ?_;rintro e w7 ⟨n7,aF,L7,A7,c7,aG,rfl,aH,aI,aJ,r⟩;have aK:=hid aG;have a9:=hid aH;have ba:=hid aI;have bb:=hid aJ;have a7:=bT am r;have a8:=bT an r;have a2:=hid (ay.o.below r);clear aG aH aI aJ r))
  obtain⟨aL,bc,bd⟩:=aK.o.det aD.o;subst bc bd;have be:=hid aL;clear aL aK aD;have e1:((n2:Int) == (n2:Int))=true:=gw _;have e2:(ad == ad)=true:=gw _;have e3:((n7:Int) == (n7:Int))=true:=gw _;have e4:(aF == aF)=true:=gw _
  go_wp2_with (first
   |(go_at_call 15;refine(sameall_any L7 L8 A7 A8 c7 c8 (λ_=>True) (λ_=>True) bf bb.o (a9.o.below C.o) (λp f=>(ba.o p f).agr (Agr.below C.o)) (a3.o.below g.o) (λp f=>(a4.o p f).agr (Agr.below g.o)) be.o).mono ?_;rintro e bp ⟨rfl,aM⟩)
   |(go_at_call 15;refine(sameall_any L2 L3 A2 A3 c2 c3 (λ_=>True) (λ_=>True) w9 aV.o (aT.o.below (l.o.trans (t.o.mono l.o.size))) (λp f=>(aU.o p f).agr (Agr.below (l.o.trans (t.o.mono l.o.size)))) (aP.o.below t.o) (λp f=>(aQ.o p f).agr (Agr.below t.o)) aZ.o).mono ?_;rintro e bf ⟨rfl,i⟩;have E:=bT bg i;have g:=bT bh i;have C:=bT a5 g.o;clear i)
   |(go_at_call 10;refine(N.o w8 aE.o).mono ?_;rintro e w9 ⟨rfl,u⟩;have bh:=hid u;have t:=bT a6 u;have bg:=bT aE u;clear u))
  go_ret;exact⟨rfl,E.o.trans (aM.mono E.o.size)⟩
end
end Go.Proofs.YtkhmicndehlneaaGreatDoor
