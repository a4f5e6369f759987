/- Part 21 of the walks and plain laws that this claim uses, joined. Conditions: as each theorem states. -/
import Derived.Test.YtkhmicndehlneaaGreatDoorYgt
namespace Go.Proofs.YtkhmicndehlneaaGreatDoor
set_option maxRecDepth 100000
set_option maxHeartbeats 16000000
set_option linter.unusedVariables false
section
open Go.RowKit Go.Lib Go.Sort
attribute [local go_sem ↓] Go.wp_at_zero Go.wp_at_succ
def cntD (t:ByteArray):Nat:=(cnt t.data.toList).getD 0
theorem cnt_le:∀(n:Nat) (l:List UInt8),l.length<=n->∀m,cnt l=some m->m<=l.length
 |n,[],_,m,h=>by rw[cnt_nil] at h;cases h;exact Nat.le_refl _
 |0,a::l,hl,m,h=>by simp at hl
 | n+1,a::l,hl,m,h=>by
  have hne:a::l≠[]:=by simp
  rw[cnt_step hne] at h;cases hr:rfL (a::l) with
  |none=>rw[hr] at h;cases h
  | some p=>
   obtain⟨c,k⟩:=p;rw[hr] at h;simp only at h;have hk:=rfL_width hne hr;have hd:((a::l).drop k).length=(a::l).length-k:=List.length_drop ..;cases hc:cnt ((a::l).drop k) with
   |none=>rw[hc] at h;cases h
   |some q=>
    rw[hc] at h;have h2:=cnt_le n ((a::l).drop k) (by omega) q hc;have h3:q+1=m:=by injection h
    omega
theorem cntD_le (t:ByteArray):cntD t<=t.size:=by
 unfold cntD;cases h:cnt t.data.toList with
 |none=>exact Nat.zero_le _
 |some m=>
  have:=cnt_le _ _ (Nat.le_refl _) m h;simpa using this
def names (r:Rn):List Gid:=(List.range (cntD r.tx)).map λ(k:Nat)=>⟨r.el.s,r.el.i+(k:Int)⟩
def eltStep (N:List Gid) (x:Gid):List Gid:=if N.any (λy=>y.eqb x)=true then N else N++[x]
def elemIds (L:List Rn):List Gid:=L.foldl (λN r=>(names r).foldl eltStep N) []
theorem names_len (r:Rn):(names r).length=cntD r.tx:=by unfold names;simp
theorem names_at (r:Rn) {k:Nat} (h:k<cntD r.tx) (z:Gid):(names r).getD k z=⟨r.el.s,r.el.i+(k:Int)⟩:=by
 unfold names;rw[List.getD_eq_getElem?_getD,List.getElem?_map,List.getElem?_range h];rfl
theorem any_map (M:List Elt) (x:Gid):(M.map (·.id)).any (λy=>y.eqb x)=M.any (λy:Elt=>Gid.eqb y.id x):=by
 rw[List.any_map];rfl
theorem RowF.one {α:Type} {w:World} {B s:Nat} {A:Option Addr} {f:α->List Value} {z:α} {L:List α} (h:RowF w (λb=>B<=b) A s f z L):∃pb,RowF w (λb=>b=pb) A s f z L∧B<=pb∧(0<L.length->pb<w.heap.size):=by
 by_cases h0:0<L.length
 ·obtain⟨b,o,e,hS,hb,hc⟩:=h 0 h0;refine⟨b,λk hk=> ?_,hS,λ_=>hb⟩;obtain⟨b',o',e',hS',hb',hc'⟩:=h k hk;rw[e] at e';cases e';exact⟨b,o,e,rfl,hb,hc'⟩
 ·exact⟨B,λk hk=>absurd hk (by omega),Nat.le_refl _,λh=>absurd h h0⟩
theorem gby_setRow (w:World) (g:Nat) (c:Array Value):w.grownBy (w.setRow g c) (some g):=
 ⟨rfl,rfl,rfl,by simp[World.setRow],λk _ hk=>setRow_other _ _ _ _ (λe=>hk (by rw[e]))⟩
theorem range_block {w w':World} {b o:Nat} {cs:List Value} (h:w.rangeAt b o cs) (hb:w'.heap[b]? =w.heap[b]?):w'.rangeAt b o cs:=λj v hv=>(World.cell?_of_block (w:=w) (w':=w') (a:=⟨b,o+j,none⟩) hb).trans (h j v hv)
theorem there_of {w:World} {g:Nat} {T:TypeId} {c:Array Value} (h:w.heap[g]? =some (.cells c T (0,0))):w.there g 0 c.size:=λj hj=>by
 refine⟨?_,frozen_of_row _ _ _ _ _ h⟩;rw[crw h,Nat.zero_add,Array.getElem?_eq_getElem hj];rfl
theorem split6_all (t:ByteArray) (w:World) (hs:t.size≤1000000):Calls Tryz.prog 193 #[.string t] w fun e w'=>∃A c ps z,e= .returned (.tuple #[.slice A (cntD t) c,.int .i64 z])∧cntD t=List.length ps∧RowF w' (fun b=>w.heap.size≤b) A 1 strL ⟨#[]⟩ ps∧Below w.heap.size w w':=by
 refine(split6_row t w hs).mono ?_
 intro e w' h
 unfold cntD
 cases hc:cnt t.data.toList with
 |none=>rw[hc] at h;exact⟨none,0,[],60,h.1,rfl,RowF.nil,h.2⟩
 |some m=>
  rw[hc] at h
  obtain⟨A,c,ps,hm,he,ho,hb⟩:=h
  exact⟨A,c,ps,0,he,hm,ownN_rowF (fun _=>rfl) hm ho,hb⟩
theorem elements9_any (L:List Rn) (A:Option Addr) (c:Nat) (S:Nat->Prop) (w:World) (hl:L.length<=10000) (hh:∀p∈L,p.tx.size<=1000∧0<p.el.s.t∧0<=p.el.i∧p.el.i<=1000000) (hR:RowF w S A 7 rnL rn0 L):
  Calls Tryz.prog 183 #[.slice A L.length c] w λe w'=>∃A' c' m,∃M:List Elt,e= .returned (.slice A' m c')∧m=M.length∧M.map (·.id)=elemIds L∧m<=L.length*1000∧w'.ownsRow w.heap.size 169 7 (.slice A' m c') m (M.flatMap eltL)∧Below w.heap.size w w':=by
 obtain⟨i0,hi,hz0,hz1,hz2⟩:=info_parts info_elt;have HR:=hid hR;have HH:=hid hh;clear hR hh;go_enter Tryz.func183,Tryz.ntmps183;go_upto_region 3 with fail;go_loopw [3,4] (λo i wr=>∃(k:Nat) (A':Option Addr) (c' m:Nat) (M:List Elt),k<=L.length∧i= .int .i64 k∧o= .slice A' m c'∧m<=k*1000∧Hid (m=M.length)∧Hid (M.map (·.id)=elemIds (L.take k))∧Hid (wr.ownsRow w.heap.size 169 7 (.slice A' m c') m (M.flatMap eltL))∧Hid (Below w.heap.size w wr)) (λo i _=>L.length-(RowKit.intOf i).toNat)
 case atStart=>exact⟨0,none,0,0,[],Nat.zero_le _,rfl,rfl,Nat.zero_le _,hid rfl,hid rfl,hid (World.ownsRow_nil w w.heap.size 169 7),hid (Below.refl _ _)⟩
 case round=>
  obtain⟨k,A',c',m,M,hk,rfl,rfl,hmk,HML,HM,HO,HBr⟩:=hrel;by_cases hlt:k<L.length
  ·have i1:(0:Int)<=(k:Int):=by omega
   have i2:(k:Int)<(L.length:Int):=by omega
   obtain⟨rb,ro,rfl,-,hrb,hrange⟩:=HR.out.range (λ_=>rfl) hlt;have hst:elemIds (L.take (k+1))=(names (L.getD k rn0)).foldl eltStep (elemIds (L.take k)):=foldl_take _ _ hlt rn0;have hhp:=HH.out _ (getD_memF hlt rn0);generalize elemIds (L.take k)=N at *;generalize L.getD k rn0=p at *;obtain⟨⟨⟨at_,ar⟩,ai⟩,⟨⟨et,er⟩,ei⟩,tx⟩:=p;obtain⟨htx,het,hei,hei2⟩:=(show tx.size<=1000∧0<et∧0<=ei∧ei<=1000000 from hhp);have HRW:=hid (λW (hB:Below w.heap.size w W)=>show W.rangeAt rb (ro+k*7) [.int .i64 at_,.int .i64 ar,.int .i64 ai,.int .i64 et,.int .i64 er,.int .i64 ei,.string tx] from rangeB hrange hrb hB);have HST:=hid hst;have hsz0:=HBr.out.size;have hcd:=cntD_le tx;have HSP:=hid (split6_all tx wr (by omega));have HLT:=hid HO.out.lt;have g6:wr.cell? ⟨rb,ro+k*7+6,none⟩=some (.string tx):=HRW.out wr HBr.out 6 _ rfl;clear hrange hrb hst hhp;generalize wr=w0 at *;go_upto_region 6 with(go_at_call 193;refine HSP.out.mono ?_;rintro e w1 ⟨pA,pc,ps,z,rfl,hps,hP1,hB1⟩;have HP1:=hid hP1;have HB1:=hid hB1;have HPS:=hid hps;clear hP1 hB1 hps);obtain⟨pb,hP2,hpb1,hpb2⟩:=HP1.out.one;have HBW1:=hid (HBr.out.trans (HB1.out.mono hsz0));have hs1:=HB1.out.size;have HRM:=hid (show w1.rangeAt rb (ro+k*7) [.int .i64 at_,.int .i64 ar,.int .i64 ai] from range_mid (pre:=[]) (mid:=[.int .i64 at_,.int .i64 ar,.int .i64 ai]) (post:=[.int .i64 et,.int .i64 er,.int .i64 ei,.string tx]) (HRW.out w1 HBW1.out));have HO1:=hid (HO.out.kept (gby_below (r:=none) HB1.out) (Classical.em _))
   have NPB0:=hid (show(Value.slice A' m c').ownBlock≠some pb from λe=>by have:=(HLT.out pb e).2;omega);have NAB0:=hid (show(Value.slice A' m c').ownBlock≠some w1.heap.size from λe=>by have:=(HLT.out _ e).2;omega);have HPA0:=hid (show 0<ps.length->pb<w1.heap.size from hpb2);have HP2:=hid hP2;clear g6 hP2 hpb1 hpb2
   go_upto_region 7 with(first
    |(refine wpList_load_mid rfl _ _ rfl rb (ro+k*7) rfl [.int .i64 at_,.int .i64 ar,.int .i64 ai] _ HRM.out Tryz.underlying108 rfl (by kernel_rfl) ?_)
    |(refine store_last rfl _ _ _ rfl _ _ _ _ rfl ?_ rfl ?_ ?_ ?_ ?_;(focus(simp;done));kernel_rfl;rfl;rfl))
   have hbx:Below w1.heap.size w1 (w1.alloc (.cells #[at_,ar,ai] 108)):=(Below.refl _ _).alloc (Nat.le_refl _) _;have HAW:=hid (heap_alloc_new w1 (.cells #[at_,ar,ai] 108));have HBW:=hid (HBW1.out.trans (hbx.mono HBW1.out.size));have HOW:=hid (HO1.out.kept (gby_below (r:=none) hbx) (Classical.em _));have HPW:=hid (HP2.out.below hbx);have HAB:=hid (show w.heap.size<=w1.heap.size from HBW1.out.size);generalize hW:w1.alloc (.cells #[at_,ar,ai] 108)=W at *;generalize hab:w1.heap.size=aB at *;clear hW hab hbx HSP HP1 HB1 HBW1 HO1 HO HBr HP2 HRM HLT hs1 hsz0;go_upto_region 8 with fail;go_loopw [3,8] (λo i wr=>∃(q:Nat) (A':Option Addr) (c' m:Nat) (M:List Elt) (qt qr qi:Int),q<=cntD tx∧i= .int .i64 q∧o= .slice A' m c'∧m<=k*1000+q∧Hid (m=M.length)∧Hid (M.map (·.id)=((names (⟨⟨⟨at_,ar⟩,ai⟩,⟨⟨et,er⟩,ei⟩,tx⟩:Rn)).take q).foldl eltStep N)∧Hid (wr.ownsRow w.heap.size 169 7 (.slice A' m c') m (M.flatMap eltL))∧Hid (Below w.heap.size w wr)∧Hid (wr.heap[aB]? =some (.cells #[qt,qr,qi] 108 (0,0)))∧Hid (RowF wr (λb=>b=pb) pA 1 strL ⟨#[]⟩ ps)∧Hid ((Value.slice A' m c').ownBlock≠some pb)∧Hid ((Value.slice A' m c').ownBlock≠some aB)) (λo i _=>cntD tx-(RowKit.intOf i).toNat)
   case atStart=>exact⟨0,A',c',m,M,at_,ar,ai,Nat.zero_le _,rfl,rfl,by omega,HML,hid (by rw[HM.out];rfl),HOW,HBW,HAW,HPW,NPB0,NAB0⟩
   case round=>
    clear HML HM HOW HBW HAW HPW NPB0 NAB0 hmk;obtain⟨q,A',c',m,M,qt,qr,qi,hj,rfl,rfl,hmj,HML,HM,HO,HBr,HA,HP,NPB,NAB⟩:=hrel;by_cases hjl:q<cntD tx
    ·have j1:(0:Int)<=(q:Int):=by omega
     have j2:(q:Int)<(cntD tx:Int):=by omega
     have hjp:q<ps.length:=by rw[<-HPS.out];exact hjl
     obtain⟨pb2,po,hpA,hpe,hpl,hpr⟩:=HP.out.range (λ_=>rfl) hjp;rw[show pb2=pb from hpe] at hpA hpl hpr;obtain rfl:=hpA;have HPA:=hid (HPA0.out (by omega));have hst2:(((names ⟨⟨⟨at_,ar⟩,ai⟩,⟨⟨et,er⟩,ei⟩,tx⟩).take (q+1)).foldl eltStep N)=eltStep (M.map (·.id)) ⟨⟨et,er⟩,ei+(q:Int)⟩:=by rw[foldl_take _ _ (by rw[names_len];exact hjl) Gid.zero,names_at _ hjl,HM.out]
     generalize ps.getD q ⟨#[]⟩=pt at *;have HST2:=hid hst2;have HPT0:=hid (show wr.rangeAt pb (po+q*1) [.string pt] from hpr);have q0:=eq_id et er (ei+(q:Int)) 0 0 0 false (by rw[<-Bool.not_eq_true,Gid.eqb_iff];intro e;injection e with e1 e2;injection e1 with e3 e4;omega);have k6:IntKind.i64.wrap (ei+(q:Int))=(ei+(q:Int)):=by rw[IntKind.wrap_i64];omega
     have hszr:=HBr.out.size;have HRr:=hid (HRW.out wr HBr.out);have HBZ:=hid ((HBr.out.alloc hszr (.cells #[(0:Int),(0:Int),(0:Int)] 108)).drew);have HZ0:=hid (show(wr.alloc (.cells #[(0:Int),(0:Int),(0:Int)] 108)).drew.heap[wr.heap.size]? =some (.cells #[(0:Int),(0:Int),(0:Int)] 108 (0,0)) from heap_alloc_new wr (.cells #[(0:Int),(0:Int),(0:Int)] 108));have HTZ:=hid (show(wr.alloc (.cells #[(0:Int),(0:Int),(0:Int)] 108)).drew.there wr.heap.size 0 3 from there_of HZ0.out);have HAX:=hid (show(#[.int .i64 et,.int .i64 er,.int .i64 (ei+(q:Int))]:Array Value).all (·.oneCell')=true by rw[<-Array.all_toList];rfl);have HALL:=hid (show(#[.int .i64 et,.int .i64 er,.int .i64 (ei+(q:Int))]:Array Value).toList.all (·.oneCell')=true from rfl);obtain⟨wv,hV⟩:∃V,V=(wr.alloc (.cells #[(0:Int),(0:Int),(0:Int)] 108)).drew.setCells wr.heap.size 0 (#[.int .i64 et,.int .i64 er,.int .i64 (ei+(q:Int))]:Array Value).toList:=⟨_,rfl⟩;have hVr:wv=(wr.alloc (.cells #[(0:Int),(0:Int),(0:Int)] 108)).drew.setRow wr.heap.size #[.int .i64 et,.int .i64 er,.int .i64 (ei+(q:Int))]:=by rw[hV];exact setCells_put _ _ _ _ _ _ HZ0.out
     have HBVr:=hid (show Below wr.heap.size wr wv by rw[hVr];exact Below.setRow' (((Below.refl _ _).alloc (Nat.le_refl _) _).drew) (Nat.le_refl _) _);have HX:=hid (show wv.heap[wr.heap.size]? =some (.cells #[et,er,.int .i64 (ei+(q:Int))] 108 (0,0)) by rw[hVr];exact heap_setRow_same _ HZ0.out);have HBV:=hid (HBr.out.trans (HBVr.out.mono hszr));have HV:=hid hV;have HOV:=hid (HO.out.kept (gby_below (r:=none) HBVr.out) (Classical.em _));have HPV:=hid (HP.out.below HBVr.out);have HAV:=hid ((HBVr.out.block _ (lt_of_block HA.out)).trans HA.out);have HPT:=hid (rangeB HPT0.out hpl HBVr.out);have HPL0:=hid (Nat.lt_of_lt_of_le hpl HBVr.out.size);have NXB:=hid (show(Value.slice A' m c').ownBlock≠some wr.heap.size from λe=>by have:=(HO.out.lt _ e).2;omega);clear hst2 hpr hV hVr hpe;go_upto_region 10 with fail;refine wp_region_held (S:=λW'=>W'.rangeAt rb (ro+k*7) [.int .i64 at_,.int .i64 ar,.int .i64 ai,.int .i64 et,.int .i64 er,.int .i64 ei,.string tx]) (by kernel_rfl) ?_
     try(change wpAnyH _ _ _ _ _ _ _ _ (World.drew _))
     refine tk 0 (.slice (some ⟨rb,ro,none⟩) L.length c) (HRr.out) ?_;go_simp;refine tk 1 (.int .i64 (k:Int)) (HRr.out) ?_;go_simp;refine tk 2 (.pointer (some ⟨rb,ro+k*7,none⟩)) (HRr.out) ?_;go_simp;refine tk 3 (.pointer (some ⟨rb,ro+k*7+3,none⟩)) (HRr.out) ?_;go_simp;refine tk 4 (.pointer (some ⟨rb,ro+k*7+3,none⟩)) (HRr.out) ?_;go_simp;refine tk2 5 (.agg #[et,er]) rfl (yieldsIf_load_mid (by rfl) _ _ rfl rb (ro+k*7+3) rfl [.int .i64 et,.int .i64 er] _ (λW' hW'=>range_mid (pre:=[.int .i64 at_,.int .i64 ar,.int .i64 ai]) (mid:=[.int .i64 et,.int .i64 er]) (post:=[.int .i64 ei,.string tx]) (hW')) Tryz.underlying42 rfl (by kernel_rfl)) (HRr.out) ?_;go_simp;refine tk 6 (.slice (some ⟨rb,ro,none⟩) L.length c) (HRr.out) ?_;go_simp;refine tk 7 (.int .i64 (k:Int)) (HRr.out) ?_;go_simp;refine tk 8 (.pointer (some ⟨rb,ro+k*7,none⟩)) (HRr.out) ?_;go_simp;refine tk 9 (.pointer (some ⟨rb,ro+k*7+3,none⟩)) (HRr.out) ?_;go_simp;refine tk 10 (.pointer (some ⟨rb,ro+k*7+3+2,none⟩)) (HRr.out) ?_;go_simp;refine tk2 11 (.int .i64 ei) rfl (Or.inl ⟨by rfl,λW' hW'=>by(have c_:W'.cell? ⟨rb,ro+k*7+3+2,none⟩=some (.int .i64 ei):=hW' 5 _ rfl;go_simp)⟩) (HRr.out) ?_;go_simp;refine tk 12 (.int .i64 (q:Int)) (HRr.out) ?_;go_simp;refine tk 13 (.int .i64 (ei+(q:Int))) (HRr.out) ?_;go_simp;refine tk 14 (.agg #[et,er,.int .i64 (ei+(q:Int))]) (HRr.out) ?_;go_simp;refine rd1 15 λK hK=> ?_;go_simp;refine hK.out _ _ (HRW.out _ HBZ.out) (λ_=> ?_);clear hK K;refine rd1 16 λK hK=> ?_
     refine step_store_mid rfl _ _ _ rfl wr.heap.size 0 #[.int .i64 et,.int .i64 er,.int .i64 (ei+(q:Int))] (by rfl) (by rfl) HTZ.out (by kernel_rfl) HAX.out ?_;rw[<-HV.out];refine hK.out _ _ (HRW.out _ HBV.out) (λ_=> ?_);clear hK K;refine wpAnyH_done (by kernel_rfl) ?_ _;go_simp;generalize hxb:wr.heap.size=xB at *;clear hxb HZ0 HTZ HBZ HBVr HPT0 HRr HO HBr HP HA HV hpl;go_upto_region 13 with(refine load_at rfl _ _ rfl xB _ _ _ rfl HX.out Tryz.underlying108 rfl ?_ ?_;kernel_rfl);go_loopw [10,11] (λh i wr=>∃(j:Nat) (b:Bool),j<=m∧i= .int .i64 j∧h= .bool b∧Hid (b=(M.take j).any (λy:Elt=>Gid.eqb y.id ⟨⟨et,er⟩,ei+(q:Int)⟩))∧Hid (Below wv.heap.size wv wr)) (λh i _=>m-(RowKit.intOf i).toNat)
     case atStart=>exact⟨0,false,Nat.zero_le _,rfl,rfl,hid rfl,hid (Below.refl _ _)⟩
     case round=>
      obtain⟨j,b,hj,rfl,rfl,HB,HBj⟩:=hrel;have HBw:=hid (HBV.out.trans (HBj.out.mono HBV.out.size));have HOj:=hid (HOV.out.kept (gby_below (r:=none) HBj.out) (Classical.em _));by_cases hjm:j<m
      ·have j1:(0:Int)<=(j:Int):=by omega
       have j2:(j:Int)<(m:Int):=by omega
       obtain⟨g2,rfl,-,hg2,hr2⟩:=ownN_range (f:=eltL) (λ_=>rfl) HML.out HOj.out hjm elt0;have htk:(M.take (j+1)).any (λy:Elt=>Gid.eqb y.id ⟨⟨et,er⟩,ei+(q:Int)⟩)=((M.take j).any (λy:Elt=>Gid.eqb y.id ⟨⟨et,er⟩,ei+(q:Int)⟩) || (λy:Elt=>Gid.eqb y.id ⟨⟨et,er⟩,ei+(q:Int)⟩) (M.getD j elt0)):=by rw[takeD_succ (by rw[<-HML.out];exact hjm) elt0,List.any_append];simp
       generalize M.getD j elt0=y at *;obtain⟨⟨⟨t2,r2⟩,n2⟩,⟨⟨u2,v2⟩,i2⟩,p2⟩:=y;obtain⟨b2,hb2⟩:∃b,b=(λy:Elt=>Gid.eqb y.id ⟨⟨et,er⟩,ei+(q:Int)⟩) ⟨⟨⟨t2,r2⟩,n2⟩,⟨⟨u2,v2⟩,i2⟩,p2⟩:=⟨_,rfl⟩;have q1:=eq_id t2 r2 n2 et er (ei+(q:Int)) b2 hb2.symm;have HTK:=hid (show(M.take (j+1)).any (λy:Elt=>Gid.eqb y.id ⟨⟨et,er⟩,ei+(q:Int)⟩)=(b || b2) by rw[htk,HB.out,hb2]);have y0:=cell_regrown (w:=wr) (a:=⟨g2,j*7,none⟩) (v:= .int .i64 t2) (hr2 0 _ rfl);have y1:=cell_regrown (w:=wr) (a:=⟨g2,j*7+1,none⟩) (v:= .int .i64 r2) (hr2 1 _ rfl);have y2:=cell_regrown (w:=wr) (a:=⟨g2,j*7+2,none⟩) (v:= .int .i64 n2) (hr2 2 _ rfl);have hxr:=(HBj.out.block _ (lt_of_block HX.out)).trans HX.out;have x0:=cell_regrown (w:=wr) (a:=⟨xB,0,none⟩) (v:= .int .i64 et) (crw hxr);have x1:=cell_regrown (w:=wr) (a:=⟨xB,1,none⟩) (v:= .int .i64 er) (crw hxr);have x2:=cell_regrown (w:=wr) (a:=⟨xB,2,none⟩) (v:= .int .i64 (ei+(q:Int))) (crw hxr);clear hxr;clear hr2 hb2 htk;cases b with
       |true=>
        go_upto_region 15 with fail;refine rqb ?_
        repeat(any_goals(first|go_big_quiet_step (fail)|quiet_step (fail)))
        refine qz λwq hBq=> ?_;go_wp2;go_roundw
        case rel=>exact⟨j+1,true,by omega,by go_num,rfl,hid (by rw[HTK.out];rfl),hid (HBj.out.trans (hBq.mono HBj.out.size))⟩
        case measure=>(simp[RowKit.intOf];omega)
       |false=>
        go_upto_region 15 with fail;refine rqb ?_
        repeat(any_goals(first|go_big_quiet_step (fail)|quiet_step (fail)))
        refine qz λwq hBq=> ?_;go_wp2;go_roundw
        case rel=>exact⟨j+1,b2,by omega,by go_num,rfl,hid (by rw[HTK.out];rfl),hid (HBj.out.trans (hBq.mono HBj.out.size))⟩
        case measure=>(simp[RowKit.intOf];omega)
      ·obtain rfl:j=m:=by omega
       have j2:¬(j:Int)<(j:Int):=by omega
       have hany:b=M.any (λy:Elt=>Gid.eqb y.id ⟨⟨et,er⟩,ei+(q:Int)⟩):=by rw[HB.out,HML.out,List.take_length]
       cases b with
       | true=>
        have HS9:=hid (show(((names ⟨⟨⟨at_,ar⟩,ai⟩,⟨⟨et,er⟩,ei⟩,tx⟩).take (q+1)).foldl eltStep N)=M.map (·.id) by rw[HST2.out];unfold eltStep;rw[any_map,if_pos hany.symm]);clear hany;have HXr:=hid ((HBj.out.block _ (lt_of_block HX.out)).trans HX.out);have HAr:=hid ((HBj.out.block _ (lt_of_block HAV.out)).trans HAV.out);have HPr:=hid (HPV.out.agr (Agr.below HBj.out));go_upto_region 18 with fail;obtain⟨V3,hV3⟩:∃V,V=wr.setRow aB #[.int .i64 et,.int .i64 er,.int .i64 (ei+(q:Int))]:=⟨_,rfl⟩;have HV3:=hid hV3;have HA3:=hid (show V3.heap[aB]? =some (.cells #[et,er,.int .i64 (ei+(q:Int))] 108 (0,0)) by rw[hV3];exact heap_setRow_same _ HAr.out);have HB3:=hid (show Below w.heap.size w V3 by rw[hV3];exact Below.setRow' HBw.out HAB.out _);have HG3:=hid (show wr.grownBy V3 (some aB) by rw[hV3];exact gby_setRow _ _ _);have HO3:=hid (HOj.out.kept HG3.out (.inr NAB.out));have HP3:=hid (HPr.out.agr (Agr.grown HG3.out (λg e1 e2=>by cases e1;exact absurd (show aB=pb from e2) (by have:=HPA.out;omega))));clear hV3
        go_wp2_with (first
         |(refine load_at rfl _ _ rfl xB _ _ _ rfl HXr.out Tryz.underlying108 rfl ?_ ?_;kernel_rfl)
         |(refine store_at rfl _ _ _ rfl aB 108 #[.int .i64 qt,.int .i64 qr,.int .i64 qi] #[.int .i64 et,.int .i64 er,.int .i64 (ei+(q:Int))] rfl rfl HAr.out (by kernel_rfl) rfl HALL.out ?_;rw[<-HV3.out]))
        go_roundw
        case rel=>exact⟨q+1,A',c',j,M,et,er,(ei+(q:Int)),by omega,by go_num,rfl,by omega,HML,hid HS9.out.symm,HO3,HB3,HA3,HP3,NPB,NAB⟩
        case measure=>(simp[RowKit.intOf];omega)
       | false=>
        have HS9:=hid (show(((names ⟨⟨⟨at_,ar⟩,ai⟩,⟨⟨et,er⟩,ei⟩,tx⟩).take (q+1)).foldl eltStep N)=(M++[(⟨⟨⟨et,er⟩,ei+(q:Int)⟩,⟨⟨qt,qr⟩,qi⟩,pt⟩:Elt)]).map (·.id) by rw[HST2.out];unfold eltStep;rw[any_map,if_neg (by rw[<-hany];decide),List.map_append];rfl);clear hany;have HXr:=hid ((HBj.out.block _ (lt_of_block HX.out)).trans HX.out);have HAr:=hid ((HBj.out.block _ (lt_of_block HAV.out)).trans HAV.out);have HPr:=hid (HPV.out.agr (Agr.below HBj.out));have HRx:=hid (show wr.rangeAt xB 0 [.int .i64 et,.int .i64 er,.int .i64 (ei+(q:Int))] from range_of_block HXr.out);have HRa:=hid (show wr.rangeAt aB 0 [.int .i64 qt,.int .i64 qr,.int .i64 qi] from range_of_block HAr.out);have HRp:=hid (show wr.rangeAt pb (po+q) [.string pt] by have h9:=rangeB HPT.out HPL0.out HBj.out;rwa[Nat.mul_one] at h9);have HPL:=hid (Nat.lt_of_lt_of_le HPL0.out HBj.out.size);have hszw:=HBw.out.size;go_upto_region 17 with fail;refine wp_region_held (S:=λW'=>W'.rangeAt xB 0 [.int .i64 et,.int .i64 er,.int .i64 (ei+(q:Int))]∧W'.rangeAt aB 0 [.int .i64 qt,.int .i64 qr,.int .i64 qi]∧W'.rangeAt pb (po+q) [.string pt]) (by kernel_rfl) ?_
        try(change wpAnyH _ _ _ _ _ _ _ _ (World.drew _))
        refine tk 0 (.slice A' j c') (⟨HRx.out,HRa.out,HRp.out⟩) ?_;go_simp;refine tk2 1 (.agg #[et,er,.int .i64 (ei+(q:Int))]) rfl (yieldsIf_load_mid (by rfl) _ _ rfl xB (0) rfl [.int .i64 et,.int .i64 er,.int .i64 (ei+(q:Int))] _ (λW' hW'=>range_mid (pre:=[]) (mid:=[.int .i64 et,.int .i64 er,.int .i64 (ei+(q:Int))]) (post:=[]) (hW'.1)) Tryz.underlying108 rfl (by kernel_rfl)) (⟨HRx.out,HRa.out,HRp.out⟩) ?_;go_simp;refine tk2 2 (.agg #[qt,qr,qi]) rfl (yieldsIf_load_mid (by rfl) _ _ rfl aB (0) rfl [.int .i64 qt,.int .i64 qr,.int .i64 qi] _ (λW' hW'=>range_mid (pre:=[]) (mid:=[.int .i64 qt,.int .i64 qr,.int .i64 qi]) (post:=[]) (hW'.2.1)) Tryz.underlying108 rfl (by kernel_rfl)) (⟨HRx.out,HRa.out,HRp.out⟩) ?_;go_simp;refine tk 3 (.slice (some ⟨pb,po,none⟩) (cntD tx) pc) (⟨HRx.out,HRa.out,HRp.out⟩) ?_;go_simp;refine tk 4 (.int .i64 (q:Int)) (⟨HRx.out,HRa.out,HRp.out⟩) ?_;go_simp;refine tk 5 (.pointer (some ⟨pb,po+q,none⟩)) (⟨HRx.out,HRa.out,HRp.out⟩) ?_;go_simp;refine tk2 6 (.string pt) rfl (Or.inl ⟨by rfl,λW' hW'=>by(have c_:W'.cell? ⟨pb,po+q,none⟩=some (.string pt):=hW'.2.2 0 _ rfl;go_simp)⟩) (⟨HRx.out,HRa.out,HRp.out⟩) ?_;go_simp;refine tk 7 (.agg #[et,er,.int .i64 (ei+(q:Int)),qt,qr,qi,pt]) (⟨HRx.out,HRa.out,HRp.out⟩) ?_;go_simp;have hsA:(wr.alloc (.cells #[et,er,.int .i64 (ei+(q:Int)),qt,qr,qi,pt] 169)).drew.heap.size=wr.heap.size+1:=by show(wr.alloc _).heap.size=_;simp
        have HDN:=hid (HOj.out.alloc (.cells #[et,er,.int .i64 (ei+(q:Int)),qt,qr,qi,pt] 169));have HNC:=hid (λ(i:Nat) (y:Value) (h:([.int .i64 et,.int .i64 er,.int .i64 (ei+(q:Int)),.int .i64 qt,.int .i64 qr,.int .i64 qi,.string pt]:List Value)[i]? =some y)=>cellsN wr [.int .i64 et,.int .i64 er,.int .i64 (ei+(q:Int)),.int .i64 qt,.int .i64 qr,.int .i64 qi,.string pt] 169 i y h);have HOC:=hid (show ∀u∈([.int .i64 et,.int .i64 er,.int .i64 (ei+(q:Int)),.int .i64 qt,.int .i64 qr,.int .i64 qi,.string pt]:List Value),u.oneCell'=true from oc_of (c:=#[.int .i64 et,.int .i64 er,.int .i64 (ei+(q:Int)),.int .i64 qt,.int .i64 qr,.int .i64 qi,.string pt]) rfl);have HBA:=hid ((HBw.out.alloc HBw.out.size (.cells #[et,er,.int .i64 (ei+(q:Int)),qt,qr,qi,pt] 169)).drew);have HGA:=hid (show Below wr.heap.size wr (wr.alloc (.cells #[et,er,.int .i64 (ei+(q:Int)),qt,qr,qi,pt] 169)).drew from((Below.refl _ _).alloc (Nat.le_refl _) _).drew);refine rd1 8 λK hK=> ?_;go_simp;refine hK.out _ _ (⟨rangeB HRx.out (lt_of_block HXr.out) HGA.out,rangeB HRa.out (lt_of_block HAr.out) HGA.out,rangeB HRp.out HPL.out HGA.out⟩) (λ_=> ?_);clear hK K;refine rd1 9 λK hK=> ?_
        refine step_append_lies _ (by rfl) _ _ 112 (by rfl) w.heap.size 169 i0 (.agg #[(0:Int),(0:Int),(0:Int),(0:Int),(0:Int),(0:Int),.string ⟨#[]⟩]) 7 64 Tryz.underlying112 hi hz0 hz1 hz2 rfl (by decide) (.slice A' j c') j _ (by rfl) (by exact HDN.out) ⟨wr.heap.size,0,none⟩ 1 1 [.int .i64 et,.int .i64 er,.int .i64 (ei+(q:Int)),.int .i64 qt,.int .i64 qr,.int .i64 qi,.string pt] (by rfl) (by rfl) (by exact HNC.out) HOC.out (by decide) (by unfold maxLen;omega) (by omega) (by rw[hsA];have:=HBw.out.size;omega) (wr.heap.size+1) hsA ?_;intro gq cap w5 hown1 hgrow hat hlt3;have HO5:=hid hown1;have HB5:=hid (HBA.out.grown hgrow (by rw[hsA];have:=HBw.out.size;omega) (λb hb=>(HOj.out.lt b hb).1));have HX5:=hid ((hgrow.block xB (by rw[hsA];have:=lt_of_block HXr.out;omega) (λe=>NXB.out e.symm)).trans ((HGA.out.block _ (lt_of_block HXr.out)).trans HXr.out));have HA5:=hid ((hgrow.block aB (by rw[hsA];have:=lt_of_block HAr.out;omega) (λe=>NAB.out e.symm)).trans ((HGA.out.block _ (lt_of_block HAr.out)).trans HAr.out));have HP5:=hid ((HPr.out.below HGA.out).agr (Agr.grown hgrow (λg e1 e2=>NPB.out (e1.trans (congrArg some e2)))));have NA5:=hid (show(Value.slice (some ⟨gq,0,none⟩) (j+1) cap).ownBlock≠some aB from λe=>by(injection (show some gq=some aB from e) with e;rcases hat with h|h;exact NAB.out (by rw[h,e]);have:=lt_of_block HAr.out;omega))
        have NP5:=hid (show(Value.slice (some ⟨gq,0,none⟩) (j+1) cap).ownBlock≠some pb from λe=>by(injection (show some gq=some pb from e) with e;rcases hat with h|h;exact NPB.out (by rw[h,e]);have:=HPL.out;omega));have hgA:=(HGA.out.block _ (lt_of_block HXr.out));have HR5:=hid (show w5.rangeAt xB 0 [.int .i64 et,.int .i64 er,.int .i64 (ei+(q:Int))]∧w5.rangeAt aB 0 [.int .i64 qt,.int .i64 qr,.int .i64 qi]∧w5.rangeAt pb (po+q) [.string pt] from⟨range_of_block HX5.out,range_of_block HA5.out,range_block (rangeB HRp.out HPL.out HGA.out) (hgrow.block pb (by rw[hsA];have:=HPL.out;omega) (λe=>NPB.out e.symm))⟩);clear hown1 hgrow hat hlt3 hgA;refine hK.out _ _ (HR5.out) (λ_=> ?_);clear hK K;refine tk 10 (.slice (some ⟨gq,0,none⟩) (j+1) cap) (HR5.out) ?_;go_simp;refine wpAnyH_done (by kernel_rfl) ?_ _;go_simp;go_upto_region 18 with fail;have HML5:=hid (show j+1=(M++[(⟨⟨⟨et,er⟩,ei+(q:Int)⟩,⟨⟨qt,qr⟩,qi⟩,pt⟩:Elt)]).length by rw[List.length_append,<-HML.out];rfl);have HO6:=hid (show w5.ownsRow w.heap.size 169 7 (.slice (some ⟨gq,0,none⟩) (j+1) cap) (j+1) ((M++[(⟨⟨⟨et,er⟩,ei+(q:Int)⟩,⟨⟨qt,qr⟩,qi⟩,pt⟩:Elt)]).flatMap eltL) by rw[List.flatMap_append];exact HO5.out);obtain⟨V3,hV3⟩:∃V,V=w5.setRow aB #[.int .i64 et,.int .i64 er,.int .i64 (ei+(q:Int))]:=⟨_,rfl⟩;have HV3:=hid hV3;have HA3:=hid (show V3.heap[aB]? =some (.cells #[et,er,.int .i64 (ei+(q:Int))] 108 (0,0)) by rw[hV3];exact heap_setRow_same _ HA5.out)
        have HB3:=hid (show Below w.heap.size w V3 by rw[hV3];exact Below.setRow' HB5.out HAB.out _);have HG3:=hid (show w5.grownBy V3 (some aB) by rw[hV3];exact gby_setRow _ _ _);have HO3:=hid (HO6.out.kept HG3.out (.inr NA5.out));have HP3:=hid (HP5.out.agr (Agr.grown HG3.out (λg e1 e2=>by cases e1;exact absurd (show aB=pb from e2) (by have:=HPA.out;omega))));clear hV3
        go_wp2_with (first
         |(refine load_at rfl _ _ rfl xB _ _ _ rfl HX5.out Tryz.underlying108 rfl ?_ ?_;kernel_rfl)
         |(refine store_at rfl _ _ _ rfl aB 108 #[.int .i64 qt,.int .i64 qr,.int .i64 qi] #[.int .i64 et,.int .i64 er,.int .i64 (ei+(q:Int))] rfl rfl HA5.out (by kernel_rfl) rfl HALL.out ?_;rw[<-HV3.out]))
        go_roundw
        case rel=>exact⟨q+1,some ⟨gq,0,none⟩,cap,j+1,M++[(⟨⟨⟨et,er⟩,ei+(q:Int)⟩,⟨⟨qt,qr⟩,qi⟩,pt⟩:Elt)],et,er,(ei+(q:Int)),by omega,by go_num,rfl,by omega,HML5,hid HS9.out.symm,HO3,HB3,HA3,HP3,NP5,NA5⟩
        case measure=>(simp[RowKit.intOf];omega)
    ·obtain rfl:q=cntD tx:=by omega
     have j2:¬((cntD tx:Nat):Int)<((cntD tx:Nat):Int):=by omega
     have HM9:=hid (show M.map (·.id)=elemIds (L.take (k+1)) by rw[HST.out];have h9:=HM.out;rw[<-names_len (⟨⟨⟨at_,ar⟩,ai⟩,⟨⟨et,er⟩,ei⟩,tx⟩:Rn),List.take_length] at h9;exact h9);go_wp2;go_roundw
     case rel=>exact⟨k+1,A',c',m,M,by omega,by go_num,rfl,by omega,HML,HM9,HO,HBr⟩
     case measure=>(simp[RowKit.intOf];omega)
  ·obtain rfl:k=L.length:=by omega
   have i2:¬(L.length:Int)<(L.length:Int):=by omega
   have HM9:=hid (show M.map (·.id)=elemIds L by have h9:=HM.out;rw[List.take_length] at h9;exact h9);go_wp2;go_ret;exact⟨A',c',m,rfl,M,HML.out,HM9.out,hmk,HO.out,HBr.out⟩
def sortI (l:List Gid):List Gid:=l.foldl (λout x=>insB (λy:Gid=>x.lt y) Gid.zero out x) []
def stepE (out:List Gid) (e:Elt):List Gid:=insB (λy:Gid=>e.id.lt y) Gid.zero out e.id
theorem stepE_map (N:List Elt):N.foldl stepE []=sortI (N.map (·.id)):=by unfold sortI;rw[List.foldl_map];rfl
theorem foldE_len:∀(l:List Gid) (out:List Gid),(l.foldl (λout x=>insB (λy:Gid=>x.lt y) Gid.zero out x) out).length=out.length+l.length
 | [],out=>rfl
 |x::l,out=>by rw[List.foldl_cons,foldE_len l,insB_len,List.length_cons];omega
theorem sortI_len (l:List Gid):(sortI l).length=l.length:=by unfold sortI;rw[foldE_len];simp
def elemsL (L:List (Grp×GrX)) (x:Gid):List Gid:=sortI (elemIds (runsL x L))
theorem elements_any (L:List (Grp×GrX)) (A:Option Addr) (c:Nat) (xt xr xi:Int) (S:Nat->Prop) (w00:World) (hl:L.length<=1000) (hlo:∀p∈L,p.1.ops.length<=1000) (hrl:(runsL ⟨⟨xt,xr⟩,xi⟩ L).length<=100) (hh:∀p∈runsL ⟨⟨xt,xr⟩,xi⟩ L,p.tx.size<=1000∧0<p.el.s.t∧0<=p.el.i∧p.el.i<=1000000) (hR:RowGr w00 A L) (hG:∀p∈L,GrG w00 S p):
  Calls Tryz.prog 146 #[.slice A L.length c,.agg #[xt,xr,xi]] w00 λe w'=>∃A' c',e= .returned (.slice A' (elemsL L ⟨⟨xt,xr⟩,xi⟩).length c')∧w'.ownsRow w00.heap.size 108 3 (.slice A' (elemsL L ⟨⟨xt,xr⟩,xi⟩).length c') (elemsL L ⟨⟨xt,xr⟩,xi⟩).length ((elemsL L ⟨⟨xt,xr⟩,xi⟩).flatMap idL)∧Below w00.heap.size w00 w':=by
 obtain⟨i0,hi,hz0,hz1,hz2⟩:=info_parts info_id;have hb0:Below w00.heap.size w00 (w00.alloc (.cells #[xt,xr,xi] 108)):=(Below.refl _ _).alloc (Nat.le_refl _) _;have HB0:=hid hb0;have HXC:=hid (heap_alloc_new w00 (.cells #[xt,xr,xi] 108));have HRU:=hid (runs_any L A c xt xr xi S (w00.alloc (.cells #[xt,xr,xi] 108)) hl hlo (hR.below hb0) (λp hp=>(hG p hp).agr (Agr.below hb0)));obtain⟨R,hRd⟩:∃R,R=runsL ⟨⟨xt,xr⟩,xi⟩ L:=⟨_,rfl⟩;obtain⟨Z,hZd⟩:∃Z,Z=elemsL L ⟨⟨xt,xr⟩,xi⟩:=⟨_,rfl⟩;have HZ:=hid (show Z=sortI (elemIds R) by rw[hZd,hRd];rfl);rw[<-hZd];rw[<-hRd] at HRU hrl hh;have HH:=hid hh;clear hR hG hb0 hlo hRd hZd hh;go_enter Tryz.func146,Tryz.ntmps146;go_upto_region 1 with fail;generalize hW:w00.alloc (.cells #[xt,xr,xi] 108)=w0 at *;clear hW
 go_upto_region 4 with(first
  |(refine load_at rfl _ _ rfl w00.heap.size _ _ _ rfl HXC.out Tryz.underlying108 rfl ?_ ?_;kernel_rfl)
  |(go_at_call 115;refine HRU.out.mono ?_;rintro e w1 ⟨A1,c1,rfl,hown1,hB1⟩;have HEL:=hid (elements9_any R A1 c1 _ w1 (by omega) HH.out (ownN_rowF (z:=rn0) (λ_=>rfl) rfl hown1));have HB1:=hid hB1;clear hown1 hB1)
  |(go_at_call 183;refine HEL.out.mono ?_;rintro e w ⟨A2,c2,n2,N,rfl,hn2,hNm,hn3,hown2,hB2⟩;have HN2:=hid hn2;have HNM:=hid hNm;have HO2:=hid hown2;have HB2:=hid hB2;clear hn2 hNm hown2 hB2))
 go_loopw [6,7] (λo i wr=>∃(k:Nat) (A':Option Addr) (c' m:Nat) (M:List Gid),k<=n2∧i= .int .i64 k∧o= .slice A' m c'∧m<=k∧Hid (m=M.length)∧Hid (M=(N.take k).foldl stepE [])∧Hid (wr.ownsRow w.heap.size 108 3 (.slice A' m c') m (M.flatMap idL))∧Hid (Below w.heap.size w wr)) (λo i _=>n2-(RowKit.intOf i).toNat)
 case atStart=>exact⟨0,none,0,0,[],Nat.zero_le _,rfl,rfl,Nat.le_refl _,hid rfl,hid rfl,hid (World.ownsRow_nil w w.heap.size 108 3),hid (Below.refl _ _)⟩
 case round=>
  obtain⟨k,A',c',m,M,hk,rfl,rfl,hmk,HML,HM,HO,HBr⟩:=hrel;by_cases hlt:k<n2
  ·have i1:(0:Int)<=(k:Int):=by omega
   have i2:(k:Int)<(n2:Int):=by omega
   obtain⟨rb,rfl,-,hrb,hrange⟩:=ownN_range (f:=eltL) (λ_=>rfl) HN2.out HO2.out hlt elt0;have hst:((N.take (k+1)).foldl stepE [])=stepE M (N.getD k elt0):=by rw[HM.out];exact foldl_take _ _ (by rw[<-HN2.out];exact hlt) elt0
   generalize N.getD k elt0=p at *;obtain⟨⟨⟨t,r⟩,n⟩,⟨⟨u,v⟩,i⟩,pc⟩:=p;have HST:=hid hst;have hsz:=HBr.out.size;have hm63:m<=100000:=by omega
   have HPX:=hid (show wr.rangeAt rb (k*7) [.int .i64 t,.int .i64 r,.int .i64 n] from range_mid (pre:=[]) (mid:=[.int .i64 t,.int .i64 r,.int .i64 n]) (post:=[.int .i64 u,.int .i64 v,.int .i64 i,.string pc]) (rangeB hrange hrb HBr.out));have HS9:=hid (show((N.take (k+1)).foldl stepE [])=insB (λy:Gid=>Gid.lt ⟨⟨t,r⟩,n⟩ y) Gid.zero M ⟨⟨t,r⟩,n⟩ by rw[HST.out];rfl);clear hst hrange hrb
   go_upto_region 7 with(first
    |(refine wpList_load_mid rfl _ _ rfl rb (k*7) rfl [.int .i64 t,.int .i64 r,.int .i64 n] _ HPX.out Tryz.underlying108 rfl (by kernel_rfl) ?_)
    |(at_builtin;refine wpList_append_lies _ rfl _ _ 123 rfl w.heap.size 108 i0 (.agg #[(0:Int),(0:Int),(0:Int)]) 3 24 Tryz.underlying123 hi hz0 hz1 hz2 rfl (by decide) (.slice A' m c') m _ rfl (by exact HO.out.alloc _) ⟨wr.heap.size,0,none⟩ 1 1 [.int .i64 t,.int .i64 r,.int .i64 n] rfl rfl (λj y h=>cellsN wr [.int .i64 t,.int .i64 r,.int .i64 n] 108 j y h) (oc_of (c:=#[.int .i64 t,.int .i64 r,.int .i64 n]) rfl) (by decide) (by unfold maxLen;omega) (by omega) (by simp;omega) (wr.heap.size+1) (by simp) ?_;intro gq cap w5 hown hgrow ha hlt5;have HO5:=hid hown;have HB5:=hid ((HBr.out.alloc hsz _).grown hgrow (by simp;omega) (λb hb=>(HO.out.lt b hb).1));clear hown hgrow ha hlt5))
   go_upto_region 8 with fail;clear HPX HO HBr HST HM;have hs9:slid M (⟨⟨t,r⟩,n⟩:Gid) m=M++[⟨⟨t,r⟩,n⟩]:=by rw[HML.out];exact slid_end _ _
   have HO6:=hid (show w5.ownsRow w.heap.size 108 3 (.slice (some ⟨gq,0,none⟩) (m+1) cap) (m+1) ((slid M (⟨⟨t,r⟩,n⟩:Gid) m).flatMap idL) by rw[hs9,List.flatMap_append];exact HO5.out);clear hs9 HO5;generalize w5=w6 at *;go_loopw [8] (λi wx=>∃(q:Nat),i= .int .i64 q∧q<=m∧Hid (insIx (λy:Gid=>Gid.lt ⟨⟨t,r⟩,n⟩ y) .zero M q=insIx (λy:Gid=>Gid.lt ⟨⟨t,r⟩,n⟩ y) .zero M M.length)∧Hid (wx.ownsRow w.heap.size 108 3 (.slice (some ⟨gq,0,none⟩) (m+1) cap) (m+1) ((slid M (⟨⟨t,r⟩,n⟩:Gid) q).flatMap idL))∧Hid (Below w.heap.size w wx)) (λi _=>(RowKit.intOf i).toNat)
   case atStart=>exact⟨m,rfl,Nat.le_refl _,hid (by rw[HML.out]),HO6,HB5⟩
   case round=>
    obtain⟨q,rfl,hq,HIX,HOq,HBq⟩:=hrel;by_cases h0:0<q
    ·obtain⟨q,rfl⟩:∃p,q=p+1:=⟨q-1,by omega⟩;have hqm:q+1<=M.length:=by rw[<-HML.out];exact hq
     have hl1:m+1=(slid M (⟨⟨t,r⟩,n⟩:Gid) (q+1)).length:=by rw[slid_len,<-HML.out]
     obtain⟨g3,e3,-,hg3,hr3⟩:=ownN_range (f:=idL) (λ_=>rfl) hl1 HOq.out (k:=q) (by omega) .zero;cases e3;obtain⟨g4,e4,-,-,hr4⟩:=ownN_range (f:=idL) (λ_=>rfl) hl1 HOq.out (k:=q+1) (by omega) .zero;cases e4;rw[slid_pre hqm] at hr3;rw[slid_at hqm] at hr4;have hsw:=slid_swap (L:=M) (x:=(⟨⟨t,r⟩,n⟩:Gid)) (z:= .zero) hqm;obtain⟨y,hy⟩:∃y,y=M.getD q .zero:=⟨_,rfl⟩;rw[<-hy] at hr3 hsw;obtain⟨b2,hb2⟩:∃b,b=(λy:Gid=>Gid.lt ⟨⟨t,r⟩,n⟩ y) y:=⟨_,rfl⟩;have HPY:=hid (show(λy:Gid=>Gid.lt ⟨⟨t,r⟩,n⟩ y) (M.getD q .zero)=b2 by rw[<-hy,hb2]);clear hy;obtain⟨⟨t2,r2⟩,n2⟩:=y;have HR3:=hid (show wr.rangeAt gq (q*3) [.int .i64 t2,.int .i64 r2,.int .i64 n2] from hr3);have HR4:=hid (show wr.rangeAt gq ((q+1)*3) [.int .i64 t,.int .i64 r,.int .i64 n] from hr4);have y0:=cell_regrown (w:=wr) (a:=⟨gq,q*3,none⟩) (v:= .int .i64 t2) (hr3 0 _ rfl);have y1:=cell_regrown (w:=wr) (a:=⟨gq,q*3+1,none⟩) (v:= .int .i64 r2) (hr3 1 _ rfl);have y2:=cell_regrown (w:=wr) (a:=⟨gq,q*3+2,none⟩) (v:= .int .i64 n2) (hr3 2 _ rfl);have x0:=cell_regrown (w:=wr) (a:=⟨gq,(q+1)*3,none⟩) (v:= .int .i64 t) (hr4 0 _ rfl);have x1:=cell_regrown (w:=wr) (a:=⟨gq,(q+1)*3+1,none⟩) (v:= .int .i64 r) (hr4 1 _ rfl);have x2:=cell_regrown (w:=wr) (a:=⟨gq,(q+1)*3+2,none⟩) (v:= .int .i64 n) (hr4 2 _ rfl);have HSW:=hid hsw;have k1:(0:Int)<(q:Int)+1:=by omega
     have k2:(0:Int)<=(q:Int):=by omega
     have k3:(q:Int)<(m:Int)+1:=by omega
     have k4:(q:Int)+1<(m:Int)+1:=by omega
     have k5:(0:Int)<=(q:Int)+1:=by omega
     have k6:IntKind.i64.wrap (q:Int)=(q:Int):=by rw[IntKind.wrap_i64];omega
     have HL1:=hid hl1;have HBF:=λW=>refcmpid_any t r n t2 r2 n2 W;obtain⟨zc,hzc⟩:∃z,z=rcmpD ⟨⟨t,r⟩,n⟩ ⟨⟨t2,r2⟩,n2⟩:=⟨_,rfl⟩;rw[<-hzc] at HBF;have hz2:decide (0<=zc)= !b2:=by rw[hzc,rcmpD_ge,hb2]
     have hz3:decide (zc<0)=b2:=by cases b2<;>simp at hz2 ⊢ <;>omega
     clear hzc hz2;have cA:=λd os=>Calls.regrown_of (HBF (grow (redrawn wr d) os));clear hr3 hr4 hb2 hsw hl1;cases b2 with
     |false=>
      go_upto_region 8 with fail;refine rqb ?_
      repeat(any_goals(first|go_big_quiet_step (with_reducible exact cA _ _)|quiet_step (with_reducible exact cA _ _)))
      refine qz λwq hBq=> ?_;have HS8:=hid (show((N.take (k+1)).foldl stepE [])=slid M (⟨⟨t,r⟩,n⟩:Gid) (q+1) by rw[HS9.out];unfold insB;rw[<-HIX.out,insIx_stop (.inr ⟨q,rfl,HPY.out⟩)]);have HOx:=hid (HOq.out.kept (gby_below (r:=none) hBq) (Classical.em _));have HBx:=hid (HBq.out.trans (hBq.mono HBq.out.size));go_wp2;go_roundw
      case rel=>exact⟨k+1,some ⟨gq,0,none⟩,cap,m+1,_,by omega,by go_num,rfl,by omega,HL1,hid HS8.out.symm,HOx,HBx⟩
      case measure=>(simp[RowKit.intOf];omega)
     | true=>
      go_upto_region 8 with fail;refine rqb ?_
      repeat(any_goals(first|go_big_quiet_step (with_reducible exact cA _ _)|quiet_step (with_reducible exact cA _ _)))
      refine qz λwq hBq=> ?_;have HIX2:=hid (show insIx (λy:Gid=>Gid.lt ⟨⟨t,r⟩,n⟩ y) .zero M q=insIx (λy:Gid=>Gid.lt ⟨⟨t,r⟩,n⟩ y) .zero M M.length by rw[<-HIX.out,insIx_go HPY.out]);have HR3q:=hid (rangeB HR3.out hg3 hBq);have HR4q:=hid (rangeB HR4.out hg3 hBq);have HOq2:=hid (HOq.out.kept (gby_below (r:=none) hBq) (Classical.em _));have HBq2:=hid (HBq.out.trans (hBq.mono HBq.out.size));clear y0 y1 y2 x0 x1 x2 cA HOq hBq;go_upto_region 10 with fail;obtain⟨V1,hV1⟩:∃V,V=wq.drew.setCells gq ((q+1)*3) (#[.int .i64 t2,.int .i64 r2,.int .i64 n2]:Array Value).toList:=⟨_,rfl⟩;have hP1:V1.ownsRow w.heap.size 108 3 (.slice (some ⟨gq,0,none⟩) (m+1) cap) (m+1) (((slid M (⟨⟨t,r⟩,n⟩:Gid) (q+1)).set (q+1) (⟨⟨t2,r2⟩,n2⟩:Gid)).flatMap idL)∧wq.drew.grownBy V1 (some gq):=by rw[hV1];exact ownN_put (f:=idL) (λ_=>rfl) (by decide) HL1.out (show wq.drew.ownsRow _ _ _ _ _ _ from HOq2.out) (by omega) (⟨⟨t2,r2⟩,n2⟩:Gid)
      obtain⟨V2,hV2⟩:∃V,V=V1.setCells gq (q*3) (#[.int .i64 t,.int .i64 r,.int .i64 n]:Array Value).toList:=⟨_,rfl⟩;have hP2:V2.ownsRow w.heap.size 108 3 (.slice (some ⟨gq,0,none⟩) (m+1) cap) (m+1) ((((slid M (⟨⟨t,r⟩,n⟩:Gid) (q+1)).set (q+1) (⟨⟨t2,r2⟩,n2⟩:Gid)).set q (⟨⟨t,r⟩,n⟩:Gid)).flatMap idL)∧V1.grownBy V2 (some gq):=by rw[hV2];exact ownN_put (f:=idL) (λ_=>rfl) (by decide) (by rw[List.length_set];exact HL1.out) hP1.1 (by omega) (⟨⟨t,r⟩,n⟩:Gid)
      obtain⟨g5,e5,ht5⟩:=own_there (show wq.drew.ownsRow _ _ _ _ _ _ from HOq2.out) (k:=q+1) (by omega);cases e5;obtain⟨g6,e6,ht6⟩:=own_there hP1.1 (k:=q) (by omega);cases e6;have HP2:=hid hP2.1;have HG2:=hid (show wq.heap.size<=V2.heap.size∧(Below w.heap.size w wq->w.heap.size<=gq->Below w.heap.size w V2) from⟨Nat.le_trans (show wq.drew.heap.size<=V1.heap.size from hP1.2.size) hP2.2.size,λhb hl=>(hb.drew.grown hP1.2 (by exact hb.size) (λb e=>by cases e;exact hl)).grown hP2.2 (Nat.le_trans hb.size (show wq.drew.heap.size<=V1.heap.size from hP1.2.size)) (λb e=>by cases e;exact hl)⟩);have HV1:=hid hV1;have HV2:=hid hV2;have HT5:=hid ht5;have HT6:=hid ht6;have HAY:=hid (show(#[.int .i64 t2,.int .i64 r2,.int .i64 n2]:Array Value).all (·.oneCell')=true by rw[<-Array.all_toList];rfl);have HAX:=hid (show(#[.int .i64 t,.int .i64 r,.int .i64 n]:Array Value).all (·.oneCell')=true by rw[<-Array.all_toList];rfl);clear hP1 hP2 hV1 hV2 ht5 ht6;refine wp_region_held (S:=λ_=>True) (by kernel_rfl) ?_
      try(change wpAnyH _ _ _ _ _ _ _ _ (World.drew _))
      refine tk 0 (.slice (some ⟨gq,0,none⟩) (m+1) cap) (trivial) ?_;go_simp;refine tk 1 (.int .i64 ((q:Int)+1)) (trivial) ?_;go_simp;refine tk 2 (.slice (some ⟨gq,0,none⟩) (m+1) cap) (trivial) ?_;go_simp;refine tk 3 (.int .i64 ((q:Int)+1)) (trivial) ?_;go_simp;refine tk 4 (.int .i64 (q:Int)) (trivial) ?_;go_simp;refine tk 5 (.slice (some ⟨gq,0,none⟩) (m+1) cap) (trivial) ?_;go_simp;refine tk 6 (.int .i64 ((q:Int)+1)) (trivial) ?_;go_simp;refine tk 7 (.int .i64 (q:Int)) (trivial) ?_;go_simp;refine tk 8 (.pointer (some ⟨gq,q*3,none⟩)) (trivial) ?_;go_simp;refine tk 10 (.slice (some ⟨gq,0,none⟩) (m+1) cap) (trivial) ?_;go_simp;refine tk 11 (.int .i64 ((q:Int)+1)) (trivial) ?_;go_simp;refine tk 12 (.pointer (some ⟨gq,(q+1)*3,none⟩)) (trivial) ?_;go_simp;refine wpAnyH_ready (rs:=[9,13]) (by kernel_rfl) (by simp) ?_;refine AllReadyH.cons rfl (λK hK=> ?_) (AllReadyH.cons rfl (λK hK=> ?_) AllReadyH.nil)
      focus
       refine step_load_mid rfl _ _ rfl gq (q*3) rfl [.int .i64 t2,.int .i64 r2,.int .i64 n2] _ (show wq.drew.rangeAt _ _ _ from HR3q.out) Tryz.underlying108 rfl (by kernel_rfl) ?_;refine hK.out _ _ (trivial) (λ_=> ?_);clear hK K;refine rd1 13 λK hK=> ?_;refine step_load_mid rfl _ _ rfl gq ((q+1)*3) rfl [.int .i64 t,.int .i64 r,.int .i64 n] _ (show wq.drew.rangeAt _ _ _ from HR4q.out) Tryz.underlying108 rfl (by kernel_rfl) ?_;refine hK.out _ _ (trivial) (λ_=> ?_);clear hK K
      rotate_left
      focus
       refine step_load_mid rfl _ _ rfl gq ((q+1)*3) rfl [.int .i64 t,.int .i64 r,.int .i64 n] _ (show wq.drew.rangeAt _ _ _ from HR4q.out) Tryz.underlying108 rfl (by kernel_rfl) ?_;refine hK.out _ _ (trivial) (λ_=> ?_);clear hK K;refine rd1 9 λK hK=> ?_;refine step_load_mid rfl _ _ rfl gq (q*3) rfl [.int .i64 t2,.int .i64 r2,.int .i64 n2] _ (show wq.drew.rangeAt _ _ _ from HR3q.out) Tryz.underlying108 rfl (by kernel_rfl) ?_;refine hK.out _ _ (trivial) (λ_=> ?_);clear hK K
      all_goals
       refine tk 14 (.pointer (some ⟨gq,(q+1)*3,none⟩)) (trivial) ?_;go_simp;refine rd1 15 λK hK=> ?_;refine step_store_mid rfl _ _ _ rfl gq ((q+1)*3) #[.int .i64 t2,.int .i64 r2,.int .i64 n2] (by rfl) (by rfl) HT5.out (by kernel_rfl) HAY.out ?_;rw[<-HV1.out];refine hK.out _ _ (trivial) (λ_=> ?_);clear hK K;refine tk 16 (.pointer (some ⟨gq,q*3,none⟩)) (trivial) ?_;go_simp;refine rd1 17 λK hK=> ?_;refine step_store_mid rfl _ _ _ rfl gq (q*3) #[.int .i64 t,.int .i64 r,.int .i64 n] (by rfl) (by rfl) HT6.out (by kernel_rfl) HAX.out ?_;rw[<-HV2.out];refine hK.out _ _ (trivial) (λ_=> ?_);clear hK K;refine wpAnyH_done (by kernel_rfl) ?_ _;go_simp;go_wp2;go_roundw
       case rel=>exact⟨q,by go_num,by omega,HIX2,hid (by rw[<-HSW.out];exact HP2.out),hid (HG2.out.2 HBq2.out (HOq2.out.lt gq rfl).1)⟩
       case measure=>(simp[RowKit.intOf];try omega)
    ·obtain rfl:q=0:=by omega
     go_upto_region 8 with fail;refine rqb ?_
     repeat(any_goals(first|go_big_quiet_step (fail)|quiet_step (fail)))
     refine qz λwq hBq=> ?_;have HS8:=hid (show((N.take (k+1)).foldl stepE [])=slid M (⟨⟨t,r⟩,n⟩:Gid) 0 by rw[HS9.out];unfold insB;rw[<-HIX.out];rfl);have HL1:=hid (show m+1=(slid M (⟨⟨t,r⟩,n⟩:Gid) 0).length by rw[slid_len,<-HML.out]);have HOx:=hid (HOq.out.kept (gby_below (r:=none) hBq) (Classical.em _));have HBx:=hid (HBq.out.trans (hBq.mono HBq.out.size));go_wp2;go_roundw
     case rel=>exact⟨k+1,some ⟨gq,0,none⟩,cap,m+1,_,by omega,by go_num,rfl,by omega,HL1,hid HS8.out.symm,HOx,HBx⟩
     case measure=>(simp[RowKit.intOf];omega)
  ·obtain rfl:k=n2:=by omega
   have i2:¬(k:Int)<(k:Int):=by omega
   have HM9:=hid (show M=Z by rw[HZ.out,<-HNM.out,<-stepE_map];have h9:=HM.out;rw[HN2.out,List.take_length] at h9;exact h9);go_wp2;go_ret;refine⟨A',c',by rw[<-HM9.out,<-HML.out];rfl,?_,HB0.out.trans ((HB1.out.trans ((HB2.out.trans (HBr.out.mono HB2.out.size)).mono HB1.out.size)).mono HB0.out.size)⟩;rw[<-HM9.out,<-HML.out];exact own_base HO.out (Nat.le_trans HB0.out.size (Nat.le_trans HB1.out.size HB2.out.size))
def stepR (out:List Plc) (p:Plc):List Plc:=if (p.n.right && nameB p.name && (findP out p.n).isNone)=true then out++[p] else out
def rightP (l:List Plc):List Plc:=l.foldl stepR []
theorem stepR_len (out:List Plc) (p:Plc):(stepR out p).length<=out.length+1:=by
 unfold stepR;split
 ·rw[List.length_append];exact Nat.le_refl _
 ·omega
theorem foldR_len:∀(l:List Plc) (out:List Plc),(l.foldl stepR out).length<=out.length+l.length
 | [],out=>Nat.le_refl _
 |x::l,out=>by
  have h1:=foldR_len l (stepR out x);have h2:=stepR_len out x;rw[List.foldl_cons,List.length_cons];omega
theorem rightP_len (l:List Plc):(rightP l).length<=l.length:=by
 have h:=foldR_len l [];simpa[rightP] using h
theorem right15_any (L:List Plc) (A:Option Addr) (c:Nat) (S:Nat->Prop) (w:World) (hl:L.length<=100000) (hnm:∀p∈L,p.name.size<=1000000) (hR:RowF w S A 8 plcL plc0 L):
  Calls Tryz.prog 195 #[.slice A L.length c] w λe w'=>∃A' c',e= .returned (.slice A' (rightP L).length c')∧w'.ownsRow w.heap.size 161 8 (.slice A' (rightP L).length c') (rightP L).length ((rightP L).flatMap plcL)∧Below w.heap.size w w':=by
 obtain⟨i0,hi,hz0,hz1,hz2⟩:=info_parts info_plc;have HR:=hid hR;have HN:=hid hnm;clear hR hnm;go_enter Tryz.func195,Tryz.ntmps195;go_upto_region 3 with fail;go_loopw [3,4] (λo i wr=>∃(k:Nat) (A':Option Addr) (c' m:Nat) (M:List Plc),k<=L.length∧i= .int .i64 k∧o= .slice A' m c'∧m<=k∧Hid (m=M.length)∧Hid (M=rightP (L.take k))∧Hid (wr.ownsRow w.heap.size 161 8 (.slice A' m c') m (M.flatMap plcL))∧Hid (Below w.heap.size w wr)) (λo i _=>L.length-(RowKit.intOf i).toNat)
 case atStart=>exact⟨0,none,0,0,[],Nat.zero_le _,rfl,rfl,Nat.le_refl _,hid rfl,hid rfl,hid (World.ownsRow_nil w w.heap.size 161 8),hid (Below.refl _ _)⟩
 case round=>
  obtain⟨k,A',c',m,M,hk,rfl,rfl,hmk,HML,HM,HO,HBr⟩:=hrel;by_cases hlt:k<L.length
  ·have i1:(0:Int)<=(k:Int):=by omega
   have i2:(k:Int)<(L.length:Int):=by omega
   obtain⟨rb,ro,rfl,-,hrb,hrange⟩:=HR.out.range (λ_=>rfl) hlt;have hst:rightP (L.take (k+1))=stepR M (L.getD k plc0):=by rw[HM.out];exact foldl_take _ _ hlt plc0
   have hns:=HN.out _ (getD_memF hlt plc0);generalize L.getD k plc0=p at *;obtain⟨⟨⟨nt,nr⟩,ni⟩,⟨⟨pt,pr⟩,pi⟩,nm,dd⟩:=p;have hns:nm.size<=1000000:=hns;have HRW:=hid (λW (hB:Below w.heap.size w W)=>show W.rangeAt rb (ro+k*8) [nt,nr,ni,pt,pr,pi,nm,dd] from rangeB hrange hrb hB);have HPX:=hid (show wr.rangeAt rb (ro+k*8) [nt,nr,ni] from range_mid (pre:=[]) (mid:=[nt,nr,ni]) (post:=[pt,pr,pi,nm,dd]) (HRW.out wr HBr.out));have hsz:=HBr.out.size;obtain⟨b1,hb1⟩:∃b,b=Gid.right ⟨⟨nt,nr⟩,ni⟩:=⟨_,rfl⟩;obtain⟨b2,hb2⟩:∃b,b=nameB nm:=⟨_,rfl⟩;have HST:=hid (show rightP (L.take (k+1))=if (b1 && b2 && (findP M ⟨⟨nt,nr⟩,ni⟩).isNone)=true then M++[⟨⟨⟨nt,nr⟩,ni⟩,⟨⟨pt,pr⟩,pi⟩,nm,dd⟩] else M by rw[hst,hb1,hb2];rfl);have HRI:=hid (λW=>show Calls Tryz.prog 192 #[.agg #[nt,nr,ni]] W λe w'=>e= .returned (.bool b1)∧Below W.heap.size W w' from by rw[hb1];exact refrightid_any nt nr ni W);have HNM:=hid (λW=>show Calls Tryz.prog 159 #[nm] W λe w'=>e= .returned (.bool b2)∧w'=W from by rw[hb2];exact refname_any nm W (by omega))
   have HFD:=hid (λW (hB:Below wr.heap.size wr W)=>show Calls Tryz.prog 169 #[.slice A' m c',.agg #[nt,nr,ni]] W λe w'=>e= .returned (.int .i64 (ixI (findP M ⟨⟨nt,nr⟩,ni⟩)))∧Below W.heap.size W w' from by
    have h9:=findplc_any M A' c' ⟨⟨nt,nr⟩,ni⟩ _ W (by rw[<-HML.out];omega) (ownN_rowF (f:=plcL) (z:=plc0) (λ_=>rfl) HML.out (HO.out.kept (gby_below (r:=none) hB) (Classical.em _)))
    rw[<-HML.out] at h9;exact h9)
   clear hst hb1 hb2 hrange hrb;cases b1 with
   | false=>
    have HS9:=hid (show rightP (L.take (k+1))=M by rw[HST.out];rfl)
    go_wp2_with (first
     |(refine wpList_load_mid rfl _ _ rfl rb (ro+k*8) rfl [nt,nr,ni] _ HPX.out Tryz.underlying108 rfl (by kernel_rfl) ?_)
     |(go_at_call 192;refine(HRI.out wr).mono ?_;rintro e w2 ⟨rfl,hB2⟩;have HB2:=hid (HBr.out.trans (hB2.mono hsz));have HX2:=hid hB2;have HC2:=hid (HRW.out w2 HB2.out);have HO2:=hid (HO.out.kept (gby_below (r:=none) HX2.out) (Classical.em _));clear hB2;have v0:w2.cell? ⟨rb,ro+k*8,none⟩=some (.int .i64 nt):=HC2.out 0 _ rfl;have v1:w2.cell? ⟨rb,ro+k*8+1,none⟩=some (.int .i64 nr):=HC2.out 1 _ rfl;have v2:w2.cell? ⟨rb,ro+k*8+2,none⟩=some (.int .i64 ni):=HC2.out 2 _ rfl;have v6:w2.cell? ⟨rb,ro+k*8+6,none⟩=some (.string nm):=HC2.out 6 _ rfl))
    go_roundw
    case rel=>exact⟨k+1,A',c',m,M,by omega,by go_num,rfl,by omega,HML,hid HS9.out.symm,HO2,HB2⟩
    case measure=>(simp[RowKit.intOf];omega)
   | true=>
    cases b2 with
    | false=>
     have HS9:=hid (show rightP (L.take (k+1))=M by rw[HST.out];rfl)
     go_wp2_with (first
      |(refine wpList_load_mid rfl _ _ rfl rb (ro+k*8) rfl [nt,nr,ni] _ HPX.out Tryz.underlying108 rfl (by kernel_rfl) ?_)
      |(go_at_call 192;refine(HRI.out wr).mono ?_;rintro e w2 ⟨rfl,hB2⟩;have HB2:=hid (HBr.out.trans (hB2.mono hsz));have HX2:=hid hB2;have HC2:=hid (HRW.out w2 HB2.out);have HO2:=hid (HO.out.kept (gby_below (r:=none) HX2.out) (Classical.em _));clear hB2;have v0:w2.cell? ⟨rb,ro+k*8,none⟩=some (.int .i64 nt):=HC2.out 0 _ rfl;have v1:w2.cell? ⟨rb,ro+k*8+1,none⟩=some (.int .i64 nr):=HC2.out 1 _ rfl;have v2:w2.cell? ⟨rb,ro+k*8+2,none⟩=some (.int .i64 ni):=HC2.out 2 _ rfl;have v6:w2.cell? ⟨rb,ro+k*8+6,none⟩=some (.string nm):=HC2.out 6 _ rfl)
      |(go_at_call 159;refine(HNM.out w2).mono ?_;rintro e w3 ⟨rfl,rfl⟩))
     go_roundw
     case rel=>exact⟨k+1,A',c',m,M,by omega,by go_num,rfl,by omega,HML,hid HS9.out.symm,HO2,HB2⟩
     case measure=>(simp[RowKit.intOf];omega)
    | true=>
     cases hfd:findP M ⟨⟨nt,nr⟩,ni⟩ with
     | some kf=>
      have HS9:=hid (show rightP (L.take (k+1))=M by rw[HST.out,hfd];rfl);rw[hfd] at HFD;have k1:¬(kf:Int)<0:=by omega
      clear hfd HST
      go_wp2_with (first
       |(refine wpList_load_mid rfl _ _ rfl rb (ro+k*8) rfl [nt,nr,ni] _ HPX.out Tryz.underlying108 rfl (by kernel_rfl) ?_)
       |(go_at_call 192;refine(HRI.out wr).mono ?_;rintro e w2 ⟨rfl,hB2⟩;have HB2:=hid (HBr.out.trans (hB2.mono hsz));have HX2:=hid hB2;have HC2:=hid (HRW.out w2 HB2.out);have HO2:=hid (HO.out.kept (gby_below (r:=none) HX2.out) (Classical.em _));clear hB2;have v0:w2.cell? ⟨rb,ro+k*8,none⟩=some (.int .i64 nt):=HC2.out 0 _ rfl;have v1:w2.cell? ⟨rb,ro+k*8+1,none⟩=some (.int .i64 nr):=HC2.out 1 _ rfl;have v2:w2.cell? ⟨rb,ro+k*8+2,none⟩=some (.int .i64 ni):=HC2.out 2 _ rfl;have v6:w2.cell? ⟨rb,ro+k*8+6,none⟩=some (.string nm):=HC2.out 6 _ rfl)
       |(go_at_call 159;refine(HNM.out w2).mono ?_;rintro e w3 ⟨rfl,rfl⟩)
       |(go_at_call 169;refine(HFD.out _ HX2.out).mono ?_;rintro e w4 ⟨rfl,hB3⟩;have HB3:=hid (HB2.out.trans (hB3.mono HB2.out.size));have HO3:=hid (HO2.out.kept (gby_below (r:=none) hB3) (Classical.em _));clear hB3;dsimp only[ixI]))
      go_roundw
      case rel=>exact⟨k+1,A',c',m,M,by omega,by go_num,rfl,by omega,HML,hid HS9.out.symm,HO3,HB3⟩
      case measure=>(simp[RowKit.intOf];omega)
     | none=>
      have HS9:=hid (show rightP (L.take (k+1))=M++[⟨⟨⟨nt,nr⟩,ni⟩,⟨⟨pt,pr⟩,pi⟩,nm,dd⟩] by rw[HST.out,hfd];rfl);rw[hfd] at HFD;clear hfd HST
      go_upto_region 6 with(first
       |(refine wpList_load_mid rfl _ _ rfl rb (ro+k*8) rfl [nt,nr,ni] _ HPX.out Tryz.underlying108 rfl (by kernel_rfl) ?_)
       |(go_at_call 192;refine(HRI.out wr).mono ?_;rintro e w2 ⟨rfl,hB2⟩;have HB2:=hid (HBr.out.trans (hB2.mono hsz));have HX2:=hid hB2;have HC2:=hid (HRW.out w2 HB2.out);have HO2:=hid (HO.out.kept (gby_below (r:=none) HX2.out) (Classical.em _));clear hB2;have v0:w2.cell? ⟨rb,ro+k*8,none⟩=some (.int .i64 nt):=HC2.out 0 _ rfl;have v1:w2.cell? ⟨rb,ro+k*8+1,none⟩=some (.int .i64 nr):=HC2.out 1 _ rfl;have v2:w2.cell? ⟨rb,ro+k*8+2,none⟩=some (.int .i64 ni):=HC2.out 2 _ rfl;have v6:w2.cell? ⟨rb,ro+k*8+6,none⟩=some (.string nm):=HC2.out 6 _ rfl)
       |(go_at_call 159;refine(HNM.out w2).mono ?_;rintro e w3 ⟨rfl,rfl⟩)
       |(go_at_call 169;refine(HFD.out _ HX2.out).mono ?_;rintro e w4 ⟨rfl,hB3⟩;have HB3:=hid (HB2.out.trans (hB3.mono HB2.out.size));have HO3:=hid (HO2.out.kept (gby_below (r:=none) hB3) (Classical.em _));clear hB3;dsimp only[ixI]))
      have HRX:=hid (HRW.out w4 HB3.out);have hsz3:=HB3.out.size;clear v0 v1 v2 v6
      go_wp2_with (first
       |(refine wpList_load_mid rfl _ _ rfl rb (ro+k*8) rfl [nt,nr,ni,pt,pr,pi,nm,dd] _ HRX.out Tryz.underlying161 rfl (by kernel_rfl) ?_)
       |(at_builtin;refine wpList_append_lies _ rfl _ _ 101 rfl w.heap.size 161 i0 (.agg #[(0:Int),(0:Int),(0:Int),(0:Int),(0:Int),(0:Int),.string ⟨#[]⟩,false]) 8 72 Tryz.underlying101 hi hz0 hz1 hz2 rfl (by decide) (.slice A' m c') m _ rfl (by exact HO3.out.alloc _) ⟨w4.heap.size,0,none⟩ 1 1 [nt,nr,ni,pt,pr,pi,nm,dd] rfl rfl (λj y h=>cellsN w4 [nt,nr,ni,pt,pr,pi,nm,dd] 161 j y h) (oc_of (c:=#[nt,nr,ni,pt,pr,pi,nm,dd]) rfl) (by decide) (by unfold maxLen;omega) (by omega) (by simp;omega) (w4.heap.size+1) (by simp) ?_;intro gq cap w5 hown hgrow ha hlt5;have HO5:=hid hown;have HB5:=hid ((HB3.out.alloc hsz3 _).grown hgrow (by simp;omega) (λb hb=>(HO3.out.lt b hb).1));clear hown hgrow ha hlt5))
      go_roundw
      case rel=>exact⟨k+1,some ⟨gq,0,none⟩,cap,m+1,M++[⟨⟨⟨nt,nr⟩,ni⟩,⟨⟨pt,pr⟩,pi⟩,nm,dd⟩],by omega,by go_num,rfl,by omega,hid (by rw[List.length_append,<-HML.out];rfl),hid HS9.out.symm,hid (by rw[List.flatMap_append];exact HO5.out),HB5⟩
      case measure=>(simp[RowKit.intOf];omega)
  ·obtain rfl:k=L.length:=by omega
   have i2:¬(L.length:Int)<(L.length:Int):=by omega
   have HM9:=hid (show M=rightP L by have h9:=HM.out;rw[List.take_length] at h9;exact h9);go_wp2;go_ret;refine⟨A',c',by rw[<-HM9.out,<-HML.out];rfl,?_,HBr.out⟩;rw[<-HM9.out,<-HML.out];exact HO.out
def rootedF (L:List Plc):Nat->Gid->Bool
 |0,_=>false
 | f+1,x=>match findP L x with
  |none=>false
  |some k=>if (L.getD k plc0).p.eqb .zero=true then true else match findP L (L.getD k plc0).p with
   |none=>false
   |some k2=>if (L.getD k2 plc0).dir=true then rootedF L f (L.getD k plc0).p else false
def rooted (L:List Plc) (x:Gid):Bool:=rootedF L (L.length+1) x
theorem rooted_any (L:List Plc) (A:Option Addr) (c:Nat) (xt xr xi:Int) (S:Nat->Prop) (w00:World) (hl:L.length<=100000) (hR:RowF w00 S A 8 plcL plc0 L):
  Calls Tryz.prog 196 #[.slice A L.length c,.agg #[xt,xr,xi]] w00 λe w'=>e= .returned (.bool (rooted L ⟨⟨xt,xr⟩,xi⟩))∧Below w00.heap.size w00 w':=by
 obtain⟨ans,hans⟩:∃b,b=rooted L ⟨⟨xt,xr⟩,xi⟩:=⟨_,rfl⟩;rw[<-hans];have HANS:=hid hans;have hb0:Below w00.heap.size w00 (w00.alloc (.cells #[xt,xr,xi] 108)):=(Below.refl _ _).alloc (Nat.le_refl _) _;have HB0:=hid hb0;have HX0:=hid (heap_alloc_new w00 (.cells #[xt,xr,xi] 108));have HR:=hid hR;clear hR hans hb0;go_enter Tryz.func196,Tryz.ntmps196;go_upto_region 2 with fail;generalize hW:w00.alloc (.cells #[xt,xr,xi] 108)=w at *;clear hW;obtain⟨xb,hxb⟩:∃x,x=w00.heap.size:=⟨_,rfl⟩;have HXB:=hid hxb;rw[<-hxb] at HX0 ⊢;clear hxb;go_loopw [5] (λi wr=>∃(n:Nat) (x:Gid),n<=L.length+1∧i= .int .i64 n∧Hid (wr.heap[xb]? =some (.cells (idL x).toArray 108 (0,0)))∧Hid (ans=rootedF L (L.length+1-n) x)∧Hid (Below w00.heap.size w00 wr)) (λi _=>L.length+1-(RowKit.intOf i).toNat)
 case atStart=>exact⟨0,⟨⟨xt,xr⟩,xi⟩,Nat.zero_le _,rfl,HX0,hid (by rw[HANS.out];rfl),HB0⟩
 case round=>
  obtain⟨n,x,hn,rfl,HX,HA,HBr⟩:=hrel;by_cases hlt:n<=L.length
  ·have i1:(n:Int)<=(L.length:Int):=by omega
   obtain⟨f,hf⟩:∃f,L.length+1-n=f+1:=⟨L.length-n,by omega⟩;have HF:=hid (show L.length+1-(n+1)=f by omega);rw[hf] at HA;obtain⟨⟨t,r⟩,q⟩:=x;have HX:Hid (wr.heap[xb]? =some (.cells #[t,r,q] 108 (0,0))):=HX;have HFD:=hid (show Calls Tryz.prog 169 #[.slice A L.length c,.agg #[t,r,q]] wr λe w'=>e= .returned (.int .i64 (ixI (findP L ⟨⟨t,r⟩,q⟩)))∧Below wr.heap.size wr w' from findplc_any L A c ⟨⟨t,r⟩,q⟩ S wr (by omega) (HR.out.below HBr.out));cases hfd:findP L ⟨⟨t,r⟩,q⟩ with
   | none=>
    have HA2:=hid (show ans=false by rw[HA.out,rootedF,hfd]);rw[hfd] at HFD;clear hf hfd
    go_wp2_with (first
     |(refine load_at rfl _ _ rfl xb _ _ _ rfl HX.out Tryz.underlying108 rfl ?_ ?_;kernel_rfl)
     |(go_at_call 169;refine HFD.out.mono ?_;rintro e w2 ⟨rfl,hB2⟩;have HX2:=hid ((hB2.block _ (lt_of_block HX.out)).trans HX.out);have HB2:=hid (HBr.out.trans (hB2.mono HBr.out.size));clear hB2;dsimp only[ixI]))
    go_ret;exact⟨by rw[HA2.out];rfl,HB2.out⟩
   | some k=>
    obtain⟨hk,-⟩:=findP_lt hfd
    have ha2:ans=(if (L.getD k plc0).p.eqb .zero=true then true else match findP L (L.getD k plc0).p with
     |none=>false
     |some k2=>if (L.getD k2 plc0).dir=true then rootedF L f (L.getD k plc0).p else false):=by rw[HA.out,rootedF,hfd]
    rw[hfd] at HFD;obtain⟨rb,ro,hAe,-,hrb,hrange⟩:=HR.out.range (λ_=>rfl) hk;have i3:(0:Int)<=(k:Int):=by omega
    have i4:(k:Int)<(L.length:Int):=by omega
    have i5:¬(k:Int)<0:=by omega
    have hpp:∃p,p=L.getD k plc0:=⟨_,rfl⟩;obtain⟨p,hp⟩:=hpp;rw[<-hp] at ha2 hrange;obtain⟨⟨⟨nt,nr⟩,ni⟩,⟨⟨pt,pr⟩,pi⟩,nm,dd⟩:=p;have HRW:=hid (λW (hB:Below w00.heap.size w00 W)=>show W.rangeAt rb (ro+k*8+3) [pt,pr,pi] from range_mid (pre:=[nt,nr,ni]) (post:=[nm,dd]) (rangeB hrange hrb hB));have HPC:=hid (show(#[pt,pr,pi]:Array Value).toList.all (·.oneCell')=true from rfl);have HF2:=hid (λW (hB:Below w00.heap.size w00 W)=>show Calls Tryz.prog 169 #[.slice A L.length c,.agg #[pt,pr,pi]] W λe w'=>e= .returned (.int .i64 (ixI (findP L ⟨⟨pt,pr⟩,pi⟩)))∧Below W.heap.size W w' from findplc_any L A c ⟨⟨pt,pr⟩,pi⟩ S W (by omega) (HR.out.below hB));obtain⟨b0,hb0⟩:∃b,b=Gid.eqb ⟨⟨pt,pr⟩,pi⟩ .zero:=⟨_,rfl⟩;have q0:=eq_id pt pr pi 0 0 0 b0 hb0.symm
    have HA3:=hid (show ans=(if b0=true then true else match findP L ⟨⟨pt,pr⟩,pi⟩ with
     |none=>false
     |some k2=>if (L.getD k2 plc0).dir=true then rootedF L f ⟨⟨pt,pr⟩,pi⟩ else false) by rw[hb0];exact ha2)
    have HAE:=hid hAe;subst hAe;clear hf hfd hrange hrb hp ha2 hb0 HA
    go_upto_region 7 with(first
     |(refine load_at rfl _ _ rfl xb _ _ _ rfl HX.out Tryz.underlying108 rfl ?_ ?_;kernel_rfl)
     |(go_at_call 169;refine HFD.out.mono ?_;rintro e w2 ⟨rfl,hB2⟩;have HX2:=hid ((hB2.block _ (lt_of_block HX.out)).trans HX.out);have HB2:=hid (HBr.out.trans (hB2.mono HBr.out.size));clear hB2;dsimp only[ixI]))
    have HRX:=hid (HRW.out w2 HB2.out);obtain⟨V,hV⟩:∃V,V=w2.setRow xb #[pt,pr,pi]:=⟨_,rfl⟩;have HV:=hid hV;have HX3:=hid (show V.heap[xb]? =some (.cells #[pt,pr,pi] 108 (0,0)) by rw[hV];exact heap_setRow_same _ HX2.out);have HB3:=hid (show Below w00.heap.size w00 V by rw[hV];exact Below.setRow' HB2.out (by rw[HXB.out];exact Nat.le_refl _) _);clear hV;cases b0 with
    | true=>
     have HA4:=hid (show ans=true by rw[HA3.out];rfl)
     go_upto_region 8 with(first
      |(refine wpList_load_mid rfl _ _ rfl rb (ro+k*8+3) rfl [pt,pr,pi] _ HRX.out Tryz.underlying108 rfl (by kernel_rfl) ?_)
      |(refine store_at rfl _ _ _ rfl xb 108 #[t,r,q] #[pt,pr,pi] rfl rfl HX2.out (by kernel_rfl) rfl HPC.out ?_;rw[<-HV.out]))
     go_wp2_with (refine load_at rfl _ _ rfl xb _ _ _ rfl HX3.out Tryz.underlying108 rfl ?_ ?_;kernel_rfl);go_ret;exact⟨by rw[HA4.out];rfl,HB3.out⟩
    | false=>
     cases hf2:findP L ⟨⟨pt,pr⟩,pi⟩ with
     | none=>
      have HA4:=hid (show ans=false by rw[HA3.out,hf2];rfl);rw[hf2] at HF2;clear hf2
      go_upto_region 8 with(first
      |(refine wpList_load_mid rfl _ _ rfl rb (ro+k*8+3) rfl [pt,pr,pi] _ HRX.out Tryz.underlying108 rfl (by kernel_rfl) ?_)
      |(refine store_at rfl _ _ _ rfl xb 108 #[t,r,q] #[pt,pr,pi] rfl rfl HX2.out (by kernel_rfl) rfl HPC.out ?_;rw[<-HV.out]))
      go_wp2_with (first
       |(refine load_at rfl _ _ rfl xb _ _ _ rfl HX3.out Tryz.underlying108 rfl ?_ ?_;kernel_rfl)
       |(go_at_call 169;refine(HF2.out V HB3.out).mono ?_;rintro e w4 ⟨rfl,hB4⟩;have HX4:=hid ((hB4.block _ (lt_of_block HX3.out)).trans HX3.out);have HB4:=hid (HB3.out.trans (hB4.mono HB3.out.size));clear hB4;dsimp only[ixI]))
      go_ret;exact⟨by rw[HA4.out];rfl,HB4.out⟩
     | some k2=>
      obtain⟨hk2,-⟩:=findP_lt hf2;obtain⟨rb9,ro9,hA9,-,hrb9,hrange9⟩:=HR.out.range (λ_=>rfl) hk2;cases hA9;have l3:(0:Int)<=(k2:Int):=by omega
      have l4:(k2:Int)<(L.length:Int):=by omega
      have l5:¬(k2:Int)<0:=by omega
      obtain⟨d2,hd2⟩:∃d,d=(L.getD k2 plc0).dir:=⟨_,rfl⟩;have HD2:=hid (λW (hB:Below w00.heap.size w00 W)=>show W.cell? ⟨rb,ro+k2*8+7,none⟩=some (.bool d2) from by rw[hd2];exact(rangeB hrange9 hrb9 hB) 7 _ rfl);have HA4:=hid (show ans=(if d2=true then rootedF L f ⟨⟨pt,pr⟩,pi⟩ else false) by rw[HA3.out,hf2,hd2];rfl);rw[hf2] at HF2;clear hf2 hd2 hrange9 hrb9;cases d2 with
      |false=>
       have HA5:=hid (show ans=false by rw[HA4.out];rfl)
       go_upto_region 8 with(first
      |(refine wpList_load_mid rfl _ _ rfl rb (ro+k*8+3) rfl [pt,pr,pi] _ HRX.out Tryz.underlying108 rfl (by kernel_rfl) ?_)
      | (refine store_at rfl _ _ _ rfl xb 108 #[t,r,q] #[pt,pr,pi] rfl rfl HX2.out (by kernel_rfl) rfl HPC.out ?_;rw[<-HV.out]))
       go_wp2_with (first
        |(refine load_at rfl _ _ rfl xb _ _ _ rfl HX3.out Tryz.underlying108 rfl ?_ ?_;kernel_rfl)
        |(go_at_call 169;refine(HF2.out V HB3.out).mono ?_;rintro e w4 ⟨rfl,hB4⟩;have HX4:=hid ((hB4.block _ (lt_of_block HX3.out)).trans HX3.out);have HB4:=hid (HB3.out.trans (hB4.mono HB3.out.size));clear hB4;dsimp only[ixI];have c7:=HD2.out w4 HB4.out))
       go_ret;exact⟨by rw[HA5.out];rfl,HB4.out⟩
      |true=>
       have HA5:=hid (show ans=rootedF L f ⟨⟨pt,pr⟩,pi⟩ by rw[HA4.out];rfl)
       go_upto_region 8 with(first
      |(refine wpList_load_mid rfl _ _ rfl rb (ro+k*8+3) rfl [pt,pr,pi] _ HRX.out Tryz.underlying108 rfl (by kernel_rfl) ?_)
      | (refine store_at rfl _ _ _ rfl xb 108 #[t,r,q] #[pt,pr,pi] rfl rfl HX2.out (by kernel_rfl) rfl HPC.out ?_;rw[<-HV.out]))
       go_wp2_with (first
        |(refine load_at rfl _ _ rfl xb _ _ _ rfl HX3.out Tryz.underlying108 rfl ?_ ?_;kernel_rfl)
        |(go_at_call 169;refine(HF2.out V HB3.out).mono ?_;rintro e w4 ⟨rfl,hB4⟩;have HX4:=hid ((hB4.block _ (lt_of_block HX3.out)).trans HX3.out);have HB4:=hid (HB3.out.trans (hB4.mono HB3.out.size));clear hB4;dsimp only[ixI];have c7:=HD2.out w4 HB4.out))
       go_roundw
       case rel=>exact⟨n+1,⟨⟨pt,pr⟩,pi⟩,by omega,by go_num,HX4,hid (by rw[HF.out];exact HA5.out),HB4⟩
       case measure=>(simp[RowKit.intOf];omega)
  ·obtain rfl:n=L.length+1:=by omega
   have i1:¬((L.length:Int)+1)<=(L.length:Int):=by omega
   have i2:¬(((L.length+1:Nat):Int))<=(L.length:Int):=by omega
   have HA2:=hid (show ans=false by rw[HA.out,Nat.sub_self];rfl);go_wp2;go_ret;exact⟨by rw[HA2.out];rfl,HBr.out⟩
end
end Go.Proofs.YtkhmicndehlneaaGreatDoor
