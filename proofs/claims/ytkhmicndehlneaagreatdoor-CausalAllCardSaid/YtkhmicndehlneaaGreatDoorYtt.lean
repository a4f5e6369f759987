/- Part 20 of the walks and plain laws that this claim uses, joined. Conditions: as each theorem states. -/
import Derived.Test.YtkhmicndehlneaaGreatDoorYts
namespace Go.Proofs.YtkhmicndehlneaaGreatDoor
set_option maxRecDepth 100000
set_option maxHeartbeats 16000000
section
open Go.RowKit Go.Lib Go.Sort
set_option linter.unusedVariables false
attribute [local go_sem ↓] Go.wp_at_zero Go.wp_at_succ
def pcsD (t:ByteArray):List ByteArray:=match cnt t.data.toList with
 |none=>[]
 |some _=>pcsT t
def eltsR (r:Rn):List Elt:=(List.range (cntD r.tx)).map fun (k:Nat)=>⟨⟨r.el.s,r.el.i+(k:Int)⟩,if k=0 then r.af else ⟨r.el.s,r.el.i+(k:Int)-1⟩,(pcsD r.tx).getD k ⟨#[]⟩⟩
def eltAdd (N:List Elt) (x:Elt):List Elt:=if N.any (fun y=>y.id.eqb x.id)=true then N else N++[x]
def eltsW (L:List Rn):List Elt:=L.foldl (fun N r=>(eltsR r).foldl eltAdd N) []
theorem eltsR_len (r:Rn):(eltsR r).length=cntD r.tx:=by unfold eltsR;simp
theorem eltsR_at (r:Rn) {k:Nat} (h:k<cntD r.tx) (z:Elt):(eltsR r).getD k z=⟨⟨r.el.s,r.el.i+(k:Int)⟩,if k=0 then r.af else ⟨r.el.s,r.el.i+(k:Int)-1⟩,(pcsD r.tx).getD k ⟨#[]⟩⟩:=by
 unfold eltsR
 rw[List.getD_eq_getElem?_getD,List.getElem?_map,List.getElem?_range h];rfl
theorem split6_x (t:ByteArray) (w:World) (hs:t.size≤1000000):Calls Tryz.prog 193 #[.string t] w fun e w'=>∃A c ps z,e= .returned (.tuple #[.slice A (cntD t) c,.int .i64 z])∧(cntD t=List.length ps∧ps=pcsD t)∧RowF w' (fun b=>w.heap.size≤b) A 1 strL ⟨#[]⟩ ps∧Below w.heap.size w w':=by
 refine(split6_pcs t w hs).mono ?_
 intro e w' h
 unfold cntD pcsD
 cases hc:cnt t.data.toList with
 |none=>rw[hc] at h;exact⟨none,0,[],60,h.1,⟨rfl,rfl⟩,RowF.nil,h.2⟩
 |some m=>
  rw[hc] at h
  obtain⟨A,c,hm,he,ho,hb⟩:=h
  exact⟨A,c,pcsT t,0,he,⟨hm,rfl⟩,ownN_rowF (fun _=>rfl) hm ho,hb⟩
theorem elements9_x (L:List Rn) (A:Option Addr) (c:Nat) (S:Nat→Prop) (w:World) (hl:L.length≤10000) (hh:∀p∈L,p.tx.size≤1000∧0<p.el.s.t∧0≤p.el.i∧p.el.i≤1000000) (hR:RowF w S A 7 rnL rn0 L):
  Calls Tryz.prog 183 #[.slice A L.length c] w fun e w'=>∃A' c' m,∃M:List Elt,e= .returned (.slice A' m c')∧m=M.length∧M=eltsW L∧m≤L.length*1000∧w'.ownsRow w.heap.size 169 7 (.slice A' m c') m (M.flatMap eltL)∧Below w.heap.size w w':=by
 obtain⟨i0,hi,hz0,hz1,hz2⟩:=info_parts info_elt
 have HR:=hid hR
 have HH:=hid hh
 clear hR hh
 go_enter Tryz.func183,Tryz.ntmps183
 go_upto_region 3 with fail
 go_loopw [3,4] (fun o i wr=>∃(k:Nat) (A':Option Addr) (c' m:Nat) (M:List Elt),k≤L.length∧i= .int .i64 k∧o= .slice A' m c'∧m≤k*1000∧Hid (m=M.length)∧Hid (M=eltsW (L.take k))∧Hid (wr.ownsRow w.heap.size 169 7 (.slice A' m c') m (M.flatMap eltL))∧Hid (Below w.heap.size w wr)) (fun o i _=>L.length-(RowKit.intOf i).toNat)
 case atStart=>exact⟨0,none,0,0,[],Nat.zero_le _,rfl,rfl,Nat.zero_le _,hid rfl,hid rfl,hid (World.ownsRow_nil w w.heap.size 169 7),hid (Below.refl _ _)⟩
 case round=>
  obtain⟨k,A',c',m,M,hk,rfl,rfl,hmk,HML,HM,HO,HBr⟩:=hrel
  by_cases hlt:k<L.length
  ·have i1:(0:Int)≤(k:Int):=by omega
   have i2:(k:Int)<(L.length:Int):=by omega
   obtain⟨rb,ro,rfl,-,hrb,hrange⟩:=HR.out.range (fun _=>rfl) hlt
   have hst:eltsW (L.take (k+1))=(eltsR (L.getD k rn0)).foldl eltAdd (eltsW (L.take k)):=foldl_take _ _ hlt rn0
   have hhp:=HH.out _ (getD_memF hlt rn0)
   generalize eltsW (L.take k)=N at *
   generalize L.getD k rn0=p at *
   obtain⟨⟨⟨at_,ar⟩,ai⟩,⟨⟨et,er⟩,ei⟩,tx⟩:=p
   obtain⟨htx,het,hei,hei2⟩:=(show tx.size≤1000∧0<et∧0≤ei∧ei≤1000000 from hhp)
   have HRW:=hid (fun W (hB:Below w.heap.size w W)=>show W.rangeAt rb (ro+k*7) [.int .i64 at_,.int .i64 ar,.int .i64 ai,.int .i64 et,.int .i64 er,.int .i64 ei,.string tx] from rangeB hrange hrb hB)
   have HST:=hid hst
   have hsz0:=HBr.out.size
   have hcd:=cntD_le tx
   have HSP:=hid (split6_x tx wr (by omega))
   have HLT:=hid HO.out.lt
   have g6:wr.cell? ⟨rb,ro+k*7+6,none⟩=some (.string tx):=HRW.out wr HBr.out 6 _ rfl
   clear hrange hrb hst hhp
   generalize wr=w0 at *
   go_upto_region 6 with(go_at_call 193;refine HSP.out.mono ?_;rintro e w1 ⟨pA,pc,ps,z,rfl,⟨hps,hpx⟩,hP1,hB1⟩;have HPX:=hid hpx;have HP1:=hid hP1;have HB1:=hid hB1;have HPS:=hid hps;clear hP1 hB1 hps hpx)
   obtain⟨pb,hP2,hpb1,hpb2⟩:=HP1.out.one
   have HBW1:=hid (HBr.out.trans (HB1.out.mono hsz0))
   have hs1:=HB1.out.size
   have HRM:=hid (show w1.rangeAt rb (ro+k*7) [.int .i64 at_,.int .i64 ar,.int .i64 ai] from range_mid (pre:=[]) (mid:=[.int .i64 at_,.int .i64 ar,.int .i64 ai]) (post:=[.int .i64 et,.int .i64 er,.int .i64 ei,.string tx]) (HRW.out w1 HBW1.out))
   have HO1:=hid (HO.out.kept (gby_below (r:=none) HB1.out) (Classical.em _))
   have NPB0:=hid (show(Value.slice A' m c').ownBlock≠some pb from fun e=>by have:=(HLT.out pb e).2;omega)
   have NAB0:=hid (show(Value.slice A' m c').ownBlock≠some w1.heap.size from fun e=>by have:=(HLT.out _ e).2;omega)
   have HPA0:=hid (show 0<ps.length→pb<w1.heap.size from hpb2)
   have HP2:=hid hP2
   clear g6 hP2 hpb1 hpb2
   go_upto_region 7 with(first
    |(refine wpList_load_mid rfl _ _ rfl rb (ro+k*7) rfl [.int .i64 at_,.int .i64 ar,.int .i64 ai] _ HRM.out Tryz.underlying108 rfl (by kernel_rfl) ?_)
    |(refine store_last rfl _ _ _ rfl _ _ _ _ rfl ?_ rfl ?_ ?_ ?_ ?_;(focus(simp;done));kernel_rfl;rfl;rfl))
   have hbx:Below w1.heap.size w1 (w1.alloc (.cells #[.int .i64 at_,.int .i64 ar,.int .i64 ai] 108)):=(Below.refl _ _).alloc (Nat.le_refl _) _
   have HAW:=hid (heap_alloc_new w1 (.cells #[.int .i64 at_,.int .i64 ar,.int .i64 ai] 108))
   have HBW:=hid (HBW1.out.trans (hbx.mono HBW1.out.size))
   have HOW:=hid (HO1.out.kept (gby_below (r:=none) hbx) (Classical.em _))
   have HPW:=hid (HP2.out.below hbx)
   have HAB:=hid (show w.heap.size≤w1.heap.size from HBW1.out.size)
   generalize hW:w1.alloc (.cells #[.int .i64 at_,.int .i64 ar,.int .i64 ai] 108)=W at *
   generalize hab:w1.heap.size=aB at *
   clear hW hab hbx HSP HP1 HB1 HBW1 HO1 HO HBr HP2 HRM HLT hs1 hsz0
   go_upto_region 8 with fail
   go_loopw [3,8] (fun o i wr=>∃(q:Nat) (A':Option Addr) (c' m:Nat) (M:List Elt) (qt qr qi:Int),q≤cntD tx∧i= .int .i64 q∧o= .slice A' m c'∧m≤k*1000+q∧Hid (m=M.length)∧Hid (M=((eltsR (⟨⟨⟨at_,ar⟩,ai⟩,⟨⟨et,er⟩,ei⟩,tx⟩:Rn)).take q).foldl eltAdd N)∧Hid (wr.ownsRow w.heap.size 169 7 (.slice A' m c') m (M.flatMap eltL))∧Hid (Below w.heap.size w wr)∧Hid (wr.heap[aB]? =some (.cells #[.int .i64 qt,.int .i64 qr,.int .i64 qi] 108 (0,0)))∧Hid (RowF wr (fun b=>b=pb) pA 1 strL ⟨#[]⟩ ps)∧Hid ((Value.slice A' m c').ownBlock≠some pb)∧Hid ((Value.slice A' m c').ownBlock≠some aB)∧Hid ((⟨⟨qt,qr⟩,qi⟩:Gid)=if q=0 then ⟨⟨at_,ar⟩,ai⟩ else ⟨⟨et,er⟩,ei+(q:Int)-1⟩)) (fun o i _=>cntD tx-(RowKit.intOf i).toNat)
   case atStart=>exact⟨0,A',c',m,M,at_,ar,ai,Nat.zero_le _,rfl,rfl,by omega,HML,hid (by rw[HM.out];rfl),HOW,HBW,HAW,HPW,NPB0,NAB0,hid (if_pos rfl).symm⟩
   case round=>
    clear HML HM HOW HBW HAW HPW NPB0 NAB0 hmk
    obtain⟨q,A',c',m,M,qt,qr,qi,hj,rfl,rfl,hmj,HML,HM,HO,HBr,HA,HP,NPB,NAB,HQ⟩:=hrel
    by_cases hjl:q<cntD tx
    ·have j1:(0:Int)≤(q:Int):=by omega
     have j2:(q:Int)<(cntD tx:Int):=by omega
     have hjp:q<ps.length:=by rw[←HPS.out];exact hjl
     obtain⟨pb2,po,hpA,hpe,hpl,hpr⟩:=HP.out.range (fun _=>rfl) hjp
     rw[show pb2=pb from hpe] at hpA hpl hpr
     obtain rfl:=hpA
     have HPA:=hid (HPA0.out (by omega))
     have hst2:(((eltsR ⟨⟨⟨at_,ar⟩,ai⟩,⟨⟨et,er⟩,ei⟩,tx⟩).take (q+1)).foldl eltAdd N)=eltAdd M ⟨⟨⟨et,er⟩,ei+(q:Int)⟩,⟨⟨qt,qr⟩,qi⟩,ps.getD q ⟨#[]⟩⟩:=by rw[foldl_take _ _ (by rw[eltsR_len];exact hjl) elt0,eltsR_at _ hjl,HQ.out,HPX.out,HM.out]
     generalize ps.getD q ⟨#[]⟩=pt at *
     have HST2:=hid hst2
     have HPT0:=hid (show wr.rangeAt pb (po+q*1) [.string pt] from hpr)
     have q0:=eq_id et er (ei+(q:Int)) 0 0 0 false (by rw[←Bool.not_eq_true,Gid.eqb_iff];intro e;injection e with e1 e2;injection e1 with e3 e4;omega)
     have k6:IntKind.i64.wrap (ei+(q:Int))=(ei+(q:Int)):=by rw[IntKind.wrap_i64];omega
     have hszr:=HBr.out.size
     have HRr:=hid (HRW.out wr HBr.out)
     have HBZ:=hid ((HBr.out.alloc hszr (.cells #[.int .i64 0,.int .i64 0,.int .i64 0] 108)).drew)
     have HZ0:=hid (show(wr.alloc (.cells #[.int .i64 0,.int .i64 0,.int .i64 0] 108)).drew.heap[wr.heap.size]? =some (.cells #[.int .i64 0,.int .i64 0,.int .i64 0] 108 (0,0)) from heap_alloc_new wr (.cells #[.int .i64 0,.int .i64 0,.int .i64 0] 108))
     have HTZ:=hid (show(wr.alloc (.cells #[.int .i64 0,.int .i64 0,.int .i64 0] 108)).drew.there wr.heap.size 0 3 from there_of HZ0.out)
     have HAX:=hid (show(#[.int .i64 et,.int .i64 er,.int .i64 (ei+(q:Int))]:Array Value).all (·.oneCell')=true by rw[←Array.all_toList];rfl)
     have HALL:=hid (show(#[.int .i64 et,.int .i64 er,.int .i64 (ei+(q:Int))]:Array Value).toList.all (·.oneCell')=true from rfl)
     obtain⟨wv,hV⟩:∃V,V=(wr.alloc (.cells #[.int .i64 0,.int .i64 0,.int .i64 0] 108)).drew.setCells wr.heap.size 0 (#[.int .i64 et,.int .i64 er,.int .i64 (ei+(q:Int))]:Array Value).toList:=⟨_,rfl⟩
     have hVr:wv=(wr.alloc (.cells #[.int .i64 0,.int .i64 0,.int .i64 0] 108)).drew.setRow wr.heap.size #[.int .i64 et,.int .i64 er,.int .i64 (ei+(q:Int))]:=by rw[hV];exact setCells_put _ _ _ _ _ _ HZ0.out
     have HBVr:=hid (show Below wr.heap.size wr wv by rw[hVr];exact Below.setRow' (((Below.refl _ _).alloc (Nat.le_refl _) _).drew) (Nat.le_refl _) _)
     have HX:=hid (show wv.heap[wr.heap.size]? =some (.cells #[.int .i64 et,.int .i64 er,.int .i64 (ei+(q:Int))] 108 (0,0)) by rw[hVr];exact heap_setRow_same _ HZ0.out)
     have HBV:=hid (HBr.out.trans (HBVr.out.mono hszr))
     have HV:=hid hV
     have HOV:=hid (HO.out.kept (gby_below (r:=none) HBVr.out) (Classical.em _))
     have HPV:=hid (HP.out.below HBVr.out)
     have HAV:=hid ((HBVr.out.block _ (lt_of_block HA.out)).trans HA.out)
     have HPT:=hid (rangeB HPT0.out hpl HBVr.out)
     have HPL0:=hid (Nat.lt_of_lt_of_le hpl HBVr.out.size)
     have NXB:=hid (show(Value.slice A' m c').ownBlock≠some wr.heap.size from fun e=>by have:=(HO.out.lt _ e).2;omega)
     clear hst2 hpr hV hVr hpe
     go_upto_region 10 with fail
     refine wp_region_held (S:=fun W'=>W'.rangeAt rb (ro+k*7) [.int .i64 at_,.int .i64 ar,.int .i64 ai,.int .i64 et,.int .i64 er,.int .i64 ei,.string tx]) (by kernel_rfl) ?_
     try(change wpAnyH _ _ _ _ _ _ _ _ (World.drew _))
     refine tk 0 (.slice (some ⟨rb,ro,none⟩) L.length c) (HRr.out) ?_
     go_simp
     refine tk 1 (.int .i64 (k:Int)) (HRr.out) ?_
     go_simp
     refine tk 2 (.pointer (some ⟨rb,ro+k*7,none⟩)) (HRr.out) ?_
     go_simp
     refine tk 3 (.pointer (some ⟨rb,ro+k*7+3,none⟩)) (HRr.out) ?_
     go_simp
     refine tk 4 (.pointer (some ⟨rb,ro+k*7+3,none⟩)) (HRr.out) ?_
     go_simp
     refine wpAnyH_take (i:=5) (v:= .agg #[.int .i64 et,.int .i64 er]) rfl (by kernel_rfl) (by kernel_rfl) (by kernel_rfl) (fun _ _ _ h=>h) (yieldsIf_load_mid (by rfl) _ _ rfl rb (ro+k*7+3) rfl [.int .i64 et,.int .i64 er] _ (fun W' hW'=>range_mid (pre:=[.int .i64 at_,.int .i64 ar,.int .i64 ai]) (mid:=[.int .i64 et,.int .i64 er]) (post:=[.int .i64 ei,.string tx]) (hW')) Tryz.underlying42 rfl (by kernel_rfl)) (HRr.out) ?_
     go_simp
     refine tk 6 (.slice (some ⟨rb,ro,none⟩) L.length c) (HRr.out) ?_
     go_simp
     refine tk 7 (.int .i64 (k:Int)) (HRr.out) ?_
     go_simp
     refine tk 8 (.pointer (some ⟨rb,ro+k*7,none⟩)) (HRr.out) ?_
     go_simp
     refine tk 9 (.pointer (some ⟨rb,ro+k*7+3,none⟩)) (HRr.out) ?_
     go_simp
     refine tk 10 (.pointer (some ⟨rb,ro+k*7+3+2,none⟩)) (HRr.out) ?_
     go_simp
     refine wpAnyH_take (i:=11) (v:= .int .i64 ei) rfl (by kernel_rfl) (by kernel_rfl) (by kernel_rfl) (fun _ _ _ h=>h) (Or.inl ⟨by rfl,fun W' hW'=>by(have c_:W'.cell? ⟨rb,ro+k*7+3+2,none⟩=some (.int .i64 ei):=hW' 5 _ rfl;go_simp)⟩) (HRr.out) ?_
     go_simp
     refine tk 12 (.int .i64 (q:Int)) (HRr.out) ?_
     go_simp
     refine tk 13 (.int .i64 (ei+(q:Int))) (HRr.out) ?_
     go_simp
     refine tk 14 (.agg #[.int .i64 et,.int .i64 er,.int .i64 (ei+(q:Int))]) (HRr.out) ?_
     go_simp
     refine wpAnyH_ready (rs:=[15]) (by kernel_rfl) (by simp) ?_
     refine AllReadyH.cons rfl (fun K hK=> ?_) AllReadyH.nil
     go_simp
     refine hK.out _ _ (HRW.out _ HBZ.out) (fun _=> ?_)
     clear hK K
     refine wpAnyH_ready (rs:=[16]) (by kernel_rfl) (by simp) ?_
     refine AllReadyH.cons rfl (fun K hK=> ?_) AllReadyH.nil
     refine step_store_mid rfl _ _ _ rfl wr.heap.size 0 #[.int .i64 et,.int .i64 er,.int .i64 (ei+(q:Int))] (by rfl) (by rfl) HTZ.out (by kernel_rfl) HAX.out ?_
     rw[←HV.out]
     refine hK.out _ _ (HRW.out _ HBV.out) (fun _=> ?_)
     clear hK K
     refine wpAnyH_done (by kernel_rfl) ?_ _
     go_simp
     generalize hxb:wr.heap.size=xB at *
     clear hxb HZ0 HTZ HBZ HBVr HPT0 HRr HO HBr HP HA HV hpl
     go_upto_region 13 with(refine load_at rfl _ _ rfl xB _ _ _ rfl HX.out Tryz.underlying108 rfl ?_ ?_;kernel_rfl)
     go_loopw [10,11] (fun h i wr=>∃(j:Nat) (b:Bool),j≤m∧i= .int .i64 j∧h= .bool b∧Hid (b=(M.take j).any (fun y:Elt=>Gid.eqb y.id ⟨⟨et,er⟩,ei+(q:Int)⟩))∧Hid (Below wv.heap.size wv wr)) (fun h i _=>m-(RowKit.intOf i).toNat)
     case atStart=>exact⟨0,false,Nat.zero_le _,rfl,rfl,hid rfl,hid (Below.refl _ _)⟩
     case round=>
      obtain⟨j,b,hj,rfl,rfl,HB,HBj⟩:=hrel
      have HBw:=hid (HBV.out.trans (HBj.out.mono HBV.out.size))
      have HOj:=hid (HOV.out.kept (gby_below (r:=none) HBj.out) (Classical.em _))
      by_cases hjm:j<m
      ·have j1:(0:Int)≤(j:Int):=by omega
       have j2:(j:Int)<(m:Int):=by omega
       obtain⟨g2,rfl,-,hg2,hr2⟩:=ownN_range (f:=eltL) (fun _=>rfl) HML.out HOj.out hjm elt0
       have htk:(M.take (j+1)).any (fun y:Elt=>Gid.eqb y.id ⟨⟨et,er⟩,ei+(q:Int)⟩)=((M.take j).any (fun y:Elt=>Gid.eqb y.id ⟨⟨et,er⟩,ei+(q:Int)⟩) || (fun y:Elt=>Gid.eqb y.id ⟨⟨et,er⟩,ei+(q:Int)⟩) (M.getD j elt0)):=by rw[takeD_succ (by rw[←HML.out];exact hjm) elt0,List.any_append];simp
       generalize M.getD j elt0=y at *
       obtain⟨⟨⟨t2,r2⟩,n2⟩,⟨⟨u2,v2⟩,i2⟩,p2⟩:=y
       obtain⟨b2,hb2⟩:∃b,b=(fun y:Elt=>Gid.eqb y.id ⟨⟨et,er⟩,ei+(q:Int)⟩) ⟨⟨⟨t2,r2⟩,n2⟩,⟨⟨u2,v2⟩,i2⟩,p2⟩:=⟨_,rfl⟩
       have q1:=eq_id t2 r2 n2 et er (ei+(q:Int)) b2 hb2.symm
       have HTK:=hid (show(M.take (j+1)).any (fun y:Elt=>Gid.eqb y.id ⟨⟨et,er⟩,ei+(q:Int)⟩)=(b || b2) by rw[htk,HB.out,hb2])
       have y0:=cell_regrown (w:=wr) (a:=⟨g2,j*7,none⟩) (v:= .int .i64 t2) (hr2 0 _ rfl)
       have y1:=cell_regrown (w:=wr) (a:=⟨g2,j*7+1,none⟩) (v:= .int .i64 r2) (hr2 1 _ rfl)
       have y2:=cell_regrown (w:=wr) (a:=⟨g2,j*7+2,none⟩) (v:= .int .i64 n2) (hr2 2 _ rfl)
       have hxr:=(HBj.out.block _ (lt_of_block HX.out)).trans HX.out
       have x0:=cell_regrown (w:=wr) (a:=⟨xB,0,none⟩) (v:= .int .i64 et) (crw hxr)
       have x1:=cell_regrown (w:=wr) (a:=⟨xB,1,none⟩) (v:= .int .i64 er) (crw hxr)
       have x2:=cell_regrown (w:=wr) (a:=⟨xB,2,none⟩) (v:= .int .i64 (ei+(q:Int))) (crw hxr)
       clear hxr
       clear hr2 hb2 htk
       cases b with
       |true=>
        go_upto_region 15 with fail
        refine rqb ?_
        repeat(any_goals(first|go_big_quiet_step (fail)|quiet_step (fail)))
        refine qz fun wq hBq=> ?_
        go_wp2
        go_roundw
        case rel=>exact⟨j+1,true,by omega,by go_num,rfl,hid (by rw[HTK.out];rfl),hid (HBj.out.trans (hBq.mono HBj.out.size))⟩
        case measure=>(simp[RowKit.intOf];omega)
       |false=>
        go_upto_region 15 with fail
        refine rqb ?_
        repeat(any_goals(first|go_big_quiet_step (fail)|quiet_step (fail)))
        refine qz fun wq hBq=> ?_
        go_wp2
        go_roundw
        case rel=>exact⟨j+1,b2,by omega,by go_num,rfl,hid (by rw[HTK.out];rfl),hid (HBj.out.trans (hBq.mono HBj.out.size))⟩
        case measure=>(simp[RowKit.intOf];omega)
      ·obtain rfl:j=m:=by omega
       have j2:¬(j:Int)<(j:Int):=by omega
       have hany:b=M.any (fun y:Elt=>Gid.eqb y.id ⟨⟨et,er⟩,ei+(q:Int)⟩):=by rw[HB.out,HML.out,List.take_length]
       cases b with
       | true=>
        have HS9:=hid (show(((eltsR ⟨⟨⟨at_,ar⟩,ai⟩,⟨⟨et,er⟩,ei⟩,tx⟩).take (q+1)).foldl eltAdd N)=M by rw[HST2.out];exact if_pos hany.symm)
        clear hany
        have HXr:=hid ((HBj.out.block _ (lt_of_block HX.out)).trans HX.out)
        have HAr:=hid ((HBj.out.block _ (lt_of_block HAV.out)).trans HAV.out)
        have HPr:=hid (HPV.out.agr (Agr.below HBj.out))
        go_upto_region 18 with fail
        obtain⟨V3,hV3⟩:∃V,V=wr.setRow aB #[.int .i64 et,.int .i64 er,.int .i64 (ei+(q:Int))]:=⟨_,rfl⟩
        have HV3:=hid hV3
        have HA3:=hid (show V3.heap[aB]? =some (.cells #[.int .i64 et,.int .i64 er,.int .i64 (ei+(q:Int))] 108 (0,0)) by rw[hV3];exact heap_setRow_same _ HAr.out)
        have HB3:=hid (show Below w.heap.size w V3 by rw[hV3];exact Below.setRow' HBw.out HAB.out _)
        have HG3:=hid (show wr.grownBy V3 (some aB) by rw[hV3];exact gby_setRow _ _ _)
        have HO3:=hid (HOj.out.kept HG3.out (.inr NAB.out))
        have HP3:=hid (HPr.out.agr (Agr.grown HG3.out (fun g e1 e2=>by cases e1;exact absurd (show aB=pb from e2) (by have:=HPA.out;omega))))
        clear hV3
        go_wp2_with (first
         |(refine load_at rfl _ _ rfl xB _ _ _ rfl HXr.out Tryz.underlying108 rfl ?_ ?_;kernel_rfl)
         |(refine store_at rfl _ _ _ rfl aB 108 #[.int .i64 qt,.int .i64 qr,.int .i64 qi] #[.int .i64 et,.int .i64 er,.int .i64 (ei+(q:Int))] rfl rfl HAr.out (by kernel_rfl) rfl HALL.out ?_;rw[←HV3.out]))
        go_roundw
        case rel=>exact⟨q+1,A',c',j,M,et,er,(ei+(q:Int)),by omega,by go_num,rfl,by omega,HML,hid HS9.out.symm,HO3,HB3,HA3,HP3,NPB,NAB,hid (by rw[if_neg (Nat.succ_ne_zero q)];refine congrArg (Gid.mk ⟨et,er⟩) ?_;omega)⟩
        case measure=>(simp[RowKit.intOf];omega)
       | false=>
        have HS9:=hid (show(((eltsR ⟨⟨⟨at_,ar⟩,ai⟩,⟨⟨et,er⟩,ei⟩,tx⟩).take (q+1)).foldl eltAdd N)=M++[(⟨⟨⟨et,er⟩,ei+(q:Int)⟩,⟨⟨qt,qr⟩,qi⟩,pt⟩:Elt)] by rw[HST2.out];exact if_neg (by rw[←hany];decide))
        clear hany
        have HXr:=hid ((HBj.out.block _ (lt_of_block HX.out)).trans HX.out)
        have HAr:=hid ((HBj.out.block _ (lt_of_block HAV.out)).trans HAV.out)
        have HPr:=hid (HPV.out.agr (Agr.below HBj.out))
        have HRx:=hid (show wr.rangeAt xB 0 [.int .i64 et,.int .i64 er,.int .i64 (ei+(q:Int))] from range_of_block HXr.out)
        have HRa:=hid (show wr.rangeAt aB 0 [.int .i64 qt,.int .i64 qr,.int .i64 qi] from range_of_block HAr.out)
        have HRp:=hid (show wr.rangeAt pb (po+q) [.string pt] by have h9:=rangeB HPT.out HPL0.out HBj.out;rwa[Nat.mul_one] at h9)
        have HPL:=hid (Nat.lt_of_lt_of_le HPL0.out HBj.out.size)
        have hszw:=HBw.out.size
        go_upto_region 17 with fail
        refine wp_region_held (S:=fun W'=>W'.rangeAt xB 0 [.int .i64 et,.int .i64 er,.int .i64 (ei+(q:Int))]∧W'.rangeAt aB 0 [.int .i64 qt,.int .i64 qr,.int .i64 qi]∧W'.rangeAt pb (po+q) [.string pt]) (by kernel_rfl) ?_
        try(change wpAnyH _ _ _ _ _ _ _ _ (World.drew _))
        refine tk 0 (.slice A' j c') (⟨HRx.out,HRa.out,HRp.out⟩) ?_
        go_simp
        refine wpAnyH_take (i:=1) (v:= .agg #[.int .i64 et,.int .i64 er,.int .i64 (ei+(q:Int))]) rfl (by kernel_rfl) (by kernel_rfl) (by kernel_rfl) (fun _ _ _ h=>h) (yieldsIf_load_mid (by rfl) _ _ rfl xB (0) rfl [.int .i64 et,.int .i64 er,.int .i64 (ei+(q:Int))] _ (fun W' hW'=>range_mid (pre:=[]) (mid:=[.int .i64 et,.int .i64 er,.int .i64 (ei+(q:Int))]) (post:=[]) (hW'.1)) Tryz.underlying108 rfl (by kernel_rfl)) (⟨HRx.out,HRa.out,HRp.out⟩) ?_
        go_simp
        refine wpAnyH_take (i:=2) (v:= .agg #[.int .i64 qt,.int .i64 qr,.int .i64 qi]) rfl (by kernel_rfl) (by kernel_rfl) (by kernel_rfl) (fun _ _ _ h=>h) (yieldsIf_load_mid (by rfl) _ _ rfl aB (0) rfl [.int .i64 qt,.int .i64 qr,.int .i64 qi] _ (fun W' hW'=>range_mid (pre:=[]) (mid:=[.int .i64 qt,.int .i64 qr,.int .i64 qi]) (post:=[]) (hW'.2.1)) Tryz.underlying108 rfl (by kernel_rfl)) (⟨HRx.out,HRa.out,HRp.out⟩) ?_
        go_simp
        refine tk 3 (.slice (some ⟨pb,po,none⟩) (cntD tx) pc) (⟨HRx.out,HRa.out,HRp.out⟩) ?_
        go_simp
        refine tk 4 (.int .i64 (q:Int)) (⟨HRx.out,HRa.out,HRp.out⟩) ?_
        go_simp
        refine tk 5 (.pointer (some ⟨pb,po+q,none⟩)) (⟨HRx.out,HRa.out,HRp.out⟩) ?_
        go_simp
        refine wpAnyH_take (i:=6) (v:= .string pt) rfl (by kernel_rfl) (by kernel_rfl) (by kernel_rfl) (fun _ _ _ h=>h) (Or.inl ⟨by rfl,fun W' hW'=>by(have c_:W'.cell? ⟨pb,po+q,none⟩=some (.string pt):=hW'.2.2 0 _ rfl;go_simp)⟩) (⟨HRx.out,HRa.out,HRp.out⟩) ?_
        go_simp
        refine tk 7 (.agg #[.int .i64 et,.int .i64 er,.int .i64 (ei+(q:Int)),.int .i64 qt,.int .i64 qr,.int .i64 qi,.string pt]) (⟨HRx.out,HRa.out,HRp.out⟩) ?_
        go_simp
        have hsA:(wr.alloc (.cells #[.int .i64 et,.int .i64 er,.int .i64 (ei+(q:Int)),.int .i64 qt,.int .i64 qr,.int .i64 qi,.string pt] 169)).drew.heap.size=wr.heap.size+1:=by show(wr.alloc _).heap.size=_;simp
        have HDN:=hid (HOj.out.alloc (.cells #[.int .i64 et,.int .i64 er,.int .i64 (ei+(q:Int)),.int .i64 qt,.int .i64 qr,.int .i64 qi,.string pt] 169))
        have HNC:=hid (fun (i:Nat) (y:Value) (h:([.int .i64 et,.int .i64 er,.int .i64 (ei+(q:Int)),.int .i64 qt,.int .i64 qr,.int .i64 qi,.string pt]:List Value)[i]? =some y)=>cellsN wr [.int .i64 et,.int .i64 er,.int .i64 (ei+(q:Int)),.int .i64 qt,.int .i64 qr,.int .i64 qi,.string pt] 169 i y h)
        have HOC:=hid (show ∀u∈([.int .i64 et,.int .i64 er,.int .i64 (ei+(q:Int)),.int .i64 qt,.int .i64 qr,.int .i64 qi,.string pt]:List Value),u.oneCell'=true from oc_of (c:=#[.int .i64 et,.int .i64 er,.int .i64 (ei+(q:Int)),.int .i64 qt,.int .i64 qr,.int .i64 qi,.string pt]) rfl)
        have HBA:=hid ((HBw.out.alloc HBw.out.size (.cells #[.int .i64 et,.int .i64 er,.int .i64 (ei+(q:Int)),.int .i64 qt,.int .i64 qr,.int .i64 qi,.string pt] 169)).drew)
        have HGA:=hid (show Below wr.heap.size wr (wr.alloc (.cells #[.int .i64 et,.int .i64 er,.int .i64 (ei+(q:Int)),.int .i64 qt,.int .i64 qr,.int .i64 qi,.string pt] 169)).drew from((Below.refl _ _).alloc (Nat.le_refl _) _).drew)
        refine wpAnyH_ready (rs:=[8]) (by kernel_rfl) (by simp) ?_
        refine AllReadyH.cons rfl (fun K hK=> ?_) AllReadyH.nil
        go_simp
        refine hK.out _ _ (⟨rangeB HRx.out (lt_of_block HXr.out) HGA.out,rangeB HRa.out (lt_of_block HAr.out) HGA.out,rangeB HRp.out HPL.out HGA.out⟩) (fun _=> ?_)
        clear hK K
        refine wpAnyH_ready (rs:=[9]) (by kernel_rfl) (by simp) ?_
        refine AllReadyH.cons rfl (fun K hK=> ?_) AllReadyH.nil
        refine step_append_lies _ (by rfl) _ _ 112 (by rfl) w.heap.size 169 i0 (.agg #[.int .i64 0,.int .i64 0,.int .i64 0,.int .i64 0,.int .i64 0,.int .i64 0,.string ⟨#[]⟩]) 7 64 Tryz.underlying112 hi hz0 hz1 hz2 rfl (by decide) (.slice A' j c') j _ (by rfl) (by exact HDN.out) ⟨wr.heap.size,0,none⟩ 1 1 [.int .i64 et,.int .i64 er,.int .i64 (ei+(q:Int)),.int .i64 qt,.int .i64 qr,.int .i64 qi,.string pt] (by rfl) (by rfl) (by exact HNC.out) HOC.out (by decide) (by unfold maxLen;omega) (by omega) (by rw[hsA];have:=HBw.out.size;omega) (wr.heap.size+1) hsA ?_
        intro gq cap w5 hown1 hgrow hat hlt3
        have HO5:=hid hown1
        have HB5:=hid (HBA.out.grown hgrow (by rw[hsA];have:=HBw.out.size;omega) (fun b hb=>(HOj.out.lt b hb).1))
        have HX5:=hid ((hgrow.block xB (by rw[hsA];have:=lt_of_block HXr.out;omega) (fun e=>NXB.out e.symm)).trans ((HGA.out.block _ (lt_of_block HXr.out)).trans HXr.out))
        have HA5:=hid ((hgrow.block aB (by rw[hsA];have:=lt_of_block HAr.out;omega) (fun e=>NAB.out e.symm)).trans ((HGA.out.block _ (lt_of_block HAr.out)).trans HAr.out))
        have HP5:=hid ((HPr.out.below HGA.out).agr (Agr.grown hgrow (fun g e1 e2=>NPB.out (e1.trans (congrArg some e2)))))
        have NA5:=hid (show(Value.slice (some ⟨gq,0,none⟩) (j+1) cap).ownBlock≠some aB from fun e=>by(injection (show some gq=some aB from e) with e;rcases hat with h|h;exact NAB.out (by rw[h,e]);have:=lt_of_block HAr.out;omega))
        have NP5:=hid (show(Value.slice (some ⟨gq,0,none⟩) (j+1) cap).ownBlock≠some pb from fun e=>by(injection (show some gq=some pb from e) with e;rcases hat with h|h;exact NPB.out (by rw[h,e]);have:=HPL.out;omega))
        have hgA:=(HGA.out.block _ (lt_of_block HXr.out))
        have HR5:=hid (show w5.rangeAt xB 0 [.int .i64 et,.int .i64 er,.int .i64 (ei+(q:Int))]∧w5.rangeAt aB 0 [.int .i64 qt,.int .i64 qr,.int .i64 qi]∧w5.rangeAt pb (po+q) [.string pt] from⟨range_of_block HX5.out,range_of_block HA5.out,range_block (rangeB HRp.out HPL.out HGA.out) (hgrow.block pb (by rw[hsA];have:=HPL.out;omega) (fun e=>NPB.out e.symm))⟩)
        clear hown1 hgrow hat hlt3 hgA
        refine hK.out _ _ (HR5.out) (fun _=> ?_)
        clear hK K
        refine tk 10 (.slice (some ⟨gq,0,none⟩) (j+1) cap) (HR5.out) ?_
        go_simp
        refine wpAnyH_done (by kernel_rfl) ?_ _
        go_simp
        go_upto_region 18 with fail
        have HML5:=hid (show j+1=(M++[(⟨⟨⟨et,er⟩,ei+(q:Int)⟩,⟨⟨qt,qr⟩,qi⟩,pt⟩:Elt)]).length by rw[List.length_append,←HML.out];rfl)
        have HO6:=hid (show w5.ownsRow w.heap.size 169 7 (.slice (some ⟨gq,0,none⟩) (j+1) cap) (j+1) ((M++[(⟨⟨⟨et,er⟩,ei+(q:Int)⟩,⟨⟨qt,qr⟩,qi⟩,pt⟩:Elt)]).flatMap eltL) by rw[List.flatMap_append];exact HO5.out)
        obtain⟨V3,hV3⟩:∃V,V=w5.setRow aB #[.int .i64 et,.int .i64 er,.int .i64 (ei+(q:Int))]:=⟨_,rfl⟩
        have HV3:=hid hV3
        have HA3:=hid (show V3.heap[aB]? =some (.cells #[.int .i64 et,.int .i64 er,.int .i64 (ei+(q:Int))] 108 (0,0)) by rw[hV3];exact heap_setRow_same _ HA5.out)
        have HB3:=hid (show Below w.heap.size w V3 by rw[hV3];exact Below.setRow' HB5.out HAB.out _)
        have HG3:=hid (show w5.grownBy V3 (some aB) by rw[hV3];exact gby_setRow _ _ _)
        have HO3:=hid (HO6.out.kept HG3.out (.inr NA5.out))
        have HP3:=hid (HP5.out.agr (Agr.grown HG3.out (fun g e1 e2=>by cases e1;exact absurd (show aB=pb from e2) (by have:=HPA.out;omega))))
        clear hV3
        go_wp2_with (first
         |(refine load_at rfl _ _ rfl xB _ _ _ rfl HX5.out Tryz.underlying108 rfl ?_ ?_;kernel_rfl)
         |(refine store_at rfl _ _ _ rfl aB 108 #[.int .i64 qt,.int .i64 qr,.int .i64 qi] #[.int .i64 et,.int .i64 er,.int .i64 (ei+(q:Int))] rfl rfl HA5.out (by kernel_rfl) rfl HALL.out ?_;rw[←HV3.out]))
        go_roundw
        case rel=>exact⟨q+1,some ⟨gq,0,none⟩,cap,j+1,M++[(⟨⟨⟨et,er⟩,ei+(q:Int)⟩,⟨⟨qt,qr⟩,qi⟩,pt⟩:Elt)],et,er,(ei+(q:Int)),by omega,by go_num,rfl,by omega,HML5,hid HS9.out.symm,HO3,HB3,HA3,HP3,NP5,NA5,hid (by rw[if_neg (Nat.succ_ne_zero q)];refine congrArg (Gid.mk ⟨et,er⟩) ?_;omega)⟩
        case measure=>(simp[RowKit.intOf];omega)
    ·obtain rfl:q=cntD tx:=by omega
     have j2:¬((cntD tx:Nat):Int)<((cntD tx:Nat):Int):=by omega
     have HM9:=hid (show M=eltsW (L.take (k+1)) by rw[HST.out];have h9:=HM.out;rw[←eltsR_len (⟨⟨⟨at_,ar⟩,ai⟩,⟨⟨et,er⟩,ei⟩,tx⟩:Rn),List.take_length] at h9;exact h9)
     go_wp2
     go_roundw
     case rel=>exact⟨k+1,A',c',m,M,by omega,by go_num,rfl,by omega,HML,HM9,HO,HBr⟩
     case measure=>(simp[RowKit.intOf];omega)
  ·obtain rfl:k=L.length:=by omega
   have i2:¬(L.length:Int)<(L.length:Int):=by omega
   have HM9:=hid (show M=eltsW L by have h9:=HM.out;rw[List.take_length] at h9;exact h9)
   go_wp2
   go_ret
   exact⟨A',c',m,rfl,M,HML.out,HM9.out,hmk,HO.out,HBr.out⟩
def sortI (l:List Gid):List Gid:=l.foldl (fun out x=>insB (fun y:Gid=>x.lt y) Gid.zero out x) []
def stepE (out:List Gid) (e:Elt):List Gid:=insB (fun y:Gid=>e.id.lt y) Gid.zero out e.id
theorem stepE_map (N:List Elt):N.foldl stepE []=sortI (N.map (·.id)):=by unfold sortI;rw[List.foldl_map];rfl
theorem foldE_len:∀(l:List Gid) (out:List Gid),(l.foldl (fun out x=>insB (fun y:Gid=>x.lt y) Gid.zero out x) out).length=out.length+l.length
 | [],out=>rfl
 |x::l,out=>by rw[List.foldl_cons,foldE_len l,insB_len,List.length_cons];omega
theorem sortI_len (l:List Gid):(sortI l).length=l.length:=by unfold sortI;rw[foldE_len];simp
def elemsL (L:List (Grp×GrX)) (x:Gid):List Gid:=sortI (elemIds (runsL x L))
theorem elements_any (L:List (Grp×GrX)) (A:Option Addr) (c:Nat) (xt xr xi:Int) (S:Nat→Prop) (w00:World) (hl:L.length≤1000) (hlo:∀p∈L,p.1.ops.length≤1000) (hrl:(runsL ⟨⟨xt,xr⟩,xi⟩ L).length≤100) (hh:∀p∈runsL ⟨⟨xt,xr⟩,xi⟩ L,p.tx.size≤1000∧0<p.el.s.t∧0≤p.el.i∧p.el.i≤1000000) (hR:RowGr w00 A L) (hG:∀p∈L,GrG w00 S p):
  Calls Tryz.prog 146 #[.slice A L.length c,.agg #[.int .i64 xt,.int .i64 xr,.int .i64 xi]] w00 fun e w'=>∃A' c',e= .returned (.slice A' (elemsL L ⟨⟨xt,xr⟩,xi⟩).length c')∧w'.ownsRow w00.heap.size 108 3 (.slice A' (elemsL L ⟨⟨xt,xr⟩,xi⟩).length c') (elemsL L ⟨⟨xt,xr⟩,xi⟩).length ((elemsL L ⟨⟨xt,xr⟩,xi⟩).flatMap idL)∧Below w00.heap.size w00 w':=by
 obtain⟨i0,hi,hz0,hz1,hz2⟩:=info_parts info_id
 have hb0:Below w00.heap.size w00 (w00.alloc (.cells #[.int .i64 xt,.int .i64 xr,.int .i64 xi] 108)):=(Below.refl _ _).alloc (Nat.le_refl _) _
 have HB0:=hid hb0
 have HXC:=hid (heap_alloc_new w00 (.cells #[.int .i64 xt,.int .i64 xr,.int .i64 xi] 108))
 have HRU:=hid (runs_any L A c xt xr xi S (w00.alloc (.cells #[.int .i64 xt,.int .i64 xr,.int .i64 xi] 108)) hl hlo (hR.below hb0) (fun p hp=>(hG p hp).agr (Agr.below hb0)))
 obtain⟨R,hRd⟩:∃R,R=runsL ⟨⟨xt,xr⟩,xi⟩ L:=⟨_,rfl⟩
 obtain⟨Z,hZd⟩:∃Z,Z=elemsL L ⟨⟨xt,xr⟩,xi⟩:=⟨_,rfl⟩
 have HZ:=hid (show Z=sortI (elemIds R) by rw[hZd,hRd];rfl)
 rw[←hZd]
 rw[←hRd] at HRU hrl hh
 have HH:=hid hh
 clear hR hG hb0 hlo hRd hZd hh
 go_enter Tryz.func146,Tryz.ntmps146
 go_upto_region 1 with fail
 generalize hW:w00.alloc (.cells #[.int .i64 xt,.int .i64 xr,.int .i64 xi] 108)=w0 at *
 clear hW
 go_upto_region 4 with(first
  |(refine load_at rfl _ _ rfl w00.heap.size _ _ _ rfl HXC.out Tryz.underlying108 rfl ?_ ?_;kernel_rfl)
  |(go_at_call 115;refine HRU.out.mono ?_;rintro e w1 ⟨A1,c1,rfl,hown1,hB1⟩;have HEL:=hid (elements9_any R A1 c1 _ w1 (by omega) HH.out (ownN_rowF (z:=rn0) (fun _=>rfl) rfl hown1));have HB1:=hid hB1;clear hown1 hB1)
  |(go_at_call 183;refine HEL.out.mono ?_;rintro e w ⟨A2,c2,n2,N,rfl,hn2,hNm,hn3,hown2,hB2⟩;have HN2:=hid hn2;have HNM:=hid hNm;have HO2:=hid hown2;have HB2:=hid hB2;clear hn2 hNm hown2 hB2))
 go_loopw [6,7] (fun o i wr=>∃(k:Nat) (A':Option Addr) (c' m:Nat) (M:List Gid),k≤n2∧i= .int .i64 k∧o= .slice A' m c'∧m≤k∧Hid (m=M.length)∧Hid (M=(N.take k).foldl stepE [])∧Hid (wr.ownsRow w.heap.size 108 3 (.slice A' m c') m (M.flatMap idL))∧Hid (Below w.heap.size w wr)) (fun o i _=>n2-(RowKit.intOf i).toNat)
 case atStart=>exact⟨0,none,0,0,[],Nat.zero_le _,rfl,rfl,Nat.le_refl _,hid rfl,hid rfl,hid (World.ownsRow_nil w w.heap.size 108 3),hid (Below.refl _ _)⟩
 case round=>
  obtain⟨k,A',c',m,M,hk,rfl,rfl,hmk,HML,HM,HO,HBr⟩:=hrel
  by_cases hlt:k<n2
  ·have i1:(0:Int)≤(k:Int):=by omega
   have i2:(k:Int)<(n2:Int):=by omega
   obtain⟨rb,rfl,-,hrb,hrange⟩:=ownN_range (f:=eltL) (fun _=>rfl) HN2.out HO2.out hlt elt0
   have hst:((N.take (k+1)).foldl stepE [])=stepE M (N.getD k elt0):=by rw[HM.out];exact foldl_take _ _ (by rw[←HN2.out];exact hlt) elt0
   generalize N.getD k elt0=p at *
   obtain⟨⟨⟨t,r⟩,n⟩,⟨⟨u,v⟩,i⟩,pc⟩:=p
   have HST:=hid hst
   have hsz:=HBr.out.size
   have hm63:m≤100000:=by omega
   have HPX:=hid (show wr.rangeAt rb (k*7) [.int .i64 t,.int .i64 r,.int .i64 n] from range_mid (pre:=[]) (mid:=[.int .i64 t,.int .i64 r,.int .i64 n]) (post:=[.int .i64 u,.int .i64 v,.int .i64 i,.string pc]) (rangeB hrange hrb HBr.out))
   have HS9:=hid (show((N.take (k+1)).foldl stepE [])=insB (fun y:Gid=>Gid.lt ⟨⟨t,r⟩,n⟩ y) Gid.zero M ⟨⟨t,r⟩,n⟩ by rw[HST.out];rfl)
   clear hst hrange hrb
   go_upto_region 7 with(first
    |(refine wpList_load_mid rfl _ _ rfl rb (k*7) rfl [.int .i64 t,.int .i64 r,.int .i64 n] _ HPX.out Tryz.underlying108 rfl (by kernel_rfl) ?_)
    |(at_builtin;refine wpList_append_lies _ rfl _ _ 123 rfl w.heap.size 108 i0 (.agg #[.int .i64 0,.int .i64 0,.int .i64 0]) 3 24 Tryz.underlying123 hi hz0 hz1 hz2 rfl (by decide) (.slice A' m c') m _ rfl (by exact HO.out.alloc _) ⟨wr.heap.size,0,none⟩ 1 1 [.int .i64 t,.int .i64 r,.int .i64 n] rfl rfl (fun j y h=>cellsN wr [.int .i64 t,.int .i64 r,.int .i64 n] 108 j y h) (oc_of (c:=#[.int .i64 t,.int .i64 r,.int .i64 n]) rfl) (by decide) (by unfold maxLen;omega) (by omega) (by simp;omega) (wr.heap.size+1) (by simp) ?_;intro gq cap w5 hown hgrow ha hlt5;have HO5:=hid hown;have HB5:=hid ((HBr.out.alloc hsz _).grown hgrow (by simp;omega) (fun b hb=>(HO.out.lt b hb).1));clear hown hgrow ha hlt5))
   go_upto_region 8 with fail
   clear HPX HO HBr HST HM
   have hs9:slid M (⟨⟨t,r⟩,n⟩:Gid) m=M++[⟨⟨t,r⟩,n⟩]:=by rw[HML.out];exact slid_end _ _
   have HO6:=hid (show w5.ownsRow w.heap.size 108 3 (.slice (some ⟨gq,0,none⟩) (m+1) cap) (m+1) ((slid M (⟨⟨t,r⟩,n⟩:Gid) m).flatMap idL) by rw[hs9,List.flatMap_append];exact HO5.out)
   clear hs9 HO5
   generalize w5=w6 at *
   go_loopw [8] (fun i wx=>∃(q:Nat),i= .int .i64 q∧q≤m∧Hid (insIx (fun y:Gid=>Gid.lt ⟨⟨t,r⟩,n⟩ y) .zero M q=insIx (fun y:Gid=>Gid.lt ⟨⟨t,r⟩,n⟩ y) .zero M M.length)∧Hid (wx.ownsRow w.heap.size 108 3 (.slice (some ⟨gq,0,none⟩) (m+1) cap) (m+1) ((slid M (⟨⟨t,r⟩,n⟩:Gid) q).flatMap idL))∧Hid (Below w.heap.size w wx)) (fun i _=>(RowKit.intOf i).toNat)
   case atStart=>exact⟨m,rfl,Nat.le_refl _,hid (by rw[HML.out]),HO6,HB5⟩
   case round=>
    obtain⟨q,rfl,hq,HIX,HOq,HBq⟩:=hrel
    by_cases h0:0<q
    ·obtain⟨q,rfl⟩:∃p,q=p+1:=⟨q-1,by omega⟩
     have hqm:q+1≤M.length:=by rw[←HML.out];exact hq
     have hl1:m+1=(slid M (⟨⟨t,r⟩,n⟩:Gid) (q+1)).length:=by rw[slid_len,←HML.out]
     obtain⟨g3,e3,-,hg3,hr3⟩:=ownN_range (f:=idL) (fun _=>rfl) hl1 HOq.out (k:=q) (by omega) .zero
     cases e3
     obtain⟨g4,e4,-,-,hr4⟩:=ownN_range (f:=idL) (fun _=>rfl) hl1 HOq.out (k:=q+1) (by omega) .zero
     cases e4
     rw[slid_pre hqm] at hr3
     rw[slid_at hqm] at hr4
     have hsw:=slid_swap (L:=M) (x:=(⟨⟨t,r⟩,n⟩:Gid)) (z:= .zero) hqm
     obtain⟨y,hy⟩:∃y,y=M.getD q .zero:=⟨_,rfl⟩
     rw[←hy] at hr3 hsw
     obtain⟨b2,hb2⟩:∃b,b=(fun y:Gid=>Gid.lt ⟨⟨t,r⟩,n⟩ y) y:=⟨_,rfl⟩
     have HPY:=hid (show(fun y:Gid=>Gid.lt ⟨⟨t,r⟩,n⟩ y) (M.getD q .zero)=b2 by rw[←hy,hb2])
     clear hy
     obtain⟨⟨t2,r2⟩,n2⟩:=y
     have HR3:=hid (show wr.rangeAt gq (q*3) [.int .i64 t2,.int .i64 r2,.int .i64 n2] from hr3)
     have HR4:=hid (show wr.rangeAt gq ((q+1)*3) [.int .i64 t,.int .i64 r,.int .i64 n] from hr4)
     have y0:=cell_regrown (w:=wr) (a:=⟨gq,q*3,none⟩) (v:= .int .i64 t2) (hr3 0 _ rfl)
     have y1:=cell_regrown (w:=wr) (a:=⟨gq,q*3+1,none⟩) (v:= .int .i64 r2) (hr3 1 _ rfl)
     have y2:=cell_regrown (w:=wr) (a:=⟨gq,q*3+2,none⟩) (v:= .int .i64 n2) (hr3 2 _ rfl)
     have x0:=cell_regrown (w:=wr) (a:=⟨gq,(q+1)*3,none⟩) (v:= .int .i64 t) (hr4 0 _ rfl)
     have x1:=cell_regrown (w:=wr) (a:=⟨gq,(q+1)*3+1,none⟩) (v:= .int .i64 r) (hr4 1 _ rfl)
     have x2:=cell_regrown (w:=wr) (a:=⟨gq,(q+1)*3+2,none⟩) (v:= .int .i64 n) (hr4 2 _ rfl)
     have HSW:=hid hsw
     have k1:(0:Int)<(q:Int)+1:=by omega
     have k2:(0:Int)≤(q:Int):=by omega
     have k3:(q:Int)<(m:Int)+1:=by omega
     have k4:(q:Int)+1<(m:Int)+1:=by omega
     have k5:(0:Int)≤(q:Int)+1:=by omega
     have k6:IntKind.i64.wrap (q:Int)=(q:Int):=by rw[IntKind.wrap_i64];omega
     have HL1:=hid hl1
     have HBF:=fun W=>refcmpid_any t r n t2 r2 n2 W
     obtain⟨zc,hzc⟩:∃z,z=rcmpD ⟨⟨t,r⟩,n⟩ ⟨⟨t2,r2⟩,n2⟩:=⟨_,rfl⟩
     rw[←hzc] at HBF
     have hz2:decide (0≤zc)= !b2:=by rw[hzc,rcmpD_ge,hb2]
     have hz3:decide (zc<0)=b2:=by cases b2<;>simp at hz2 ⊢ <;>omega
     clear hzc hz2
     have cA:=fun d os=>Calls.regrown_of (HBF (grow (redrawn wr d) os))
     clear hr3 hr4 hb2 hsw hl1
     cases b2 with
     |false=>
      go_upto_region 8 with fail
      refine rqb ?_
      repeat(any_goals(first|go_big_quiet_step (with_reducible exact cA _ _)|quiet_step (with_reducible exact cA _ _)))
      refine qz fun wq hBq=> ?_
      have HS8:=hid (show((N.take (k+1)).foldl stepE [])=slid M (⟨⟨t,r⟩,n⟩:Gid) (q+1) by rw[HS9.out];unfold insB;rw[←HIX.out,insIx_stop (.inr ⟨q,rfl,HPY.out⟩)])
      have HOx:=hid (HOq.out.kept (gby_below (r:=none) hBq) (Classical.em _))
      have HBx:=hid (HBq.out.trans (hBq.mono HBq.out.size))
      go_wp2
      go_roundw
      case rel=>exact⟨k+1,some ⟨gq,0,none⟩,cap,m+1,_,by omega,by go_num,rfl,by omega,HL1,hid HS8.out.symm,HOx,HBx⟩
      case measure=>(simp[RowKit.intOf];omega)
     | true=>
      go_upto_region 8 with fail
      refine rqb ?_
      repeat(any_goals(first|go_big_quiet_step (with_reducible exact cA _ _)|quiet_step (with_reducible exact cA _ _)))
      refine qz fun wq hBq=> ?_
      have HIX2:=hid (show insIx (fun y:Gid=>Gid.lt ⟨⟨t,r⟩,n⟩ y) .zero M q=insIx (fun y:Gid=>Gid.lt ⟨⟨t,r⟩,n⟩ y) .zero M M.length by rw[←HIX.out,insIx_go HPY.out])
      have HR3q:=hid (rangeB HR3.out hg3 hBq)
      have HR4q:=hid (rangeB HR4.out hg3 hBq)
      have HOq2:=hid (HOq.out.kept (gby_below (r:=none) hBq) (Classical.em _))
      have HBq2:=hid (HBq.out.trans (hBq.mono HBq.out.size))
      clear y0 y1 y2 x0 x1 x2 cA HOq hBq
      go_upto_region 10 with fail
      obtain⟨V1,hV1⟩:∃V,V=wq.drew.setCells gq ((q+1)*3) (#[.int .i64 t2,.int .i64 r2,.int .i64 n2]:Array Value).toList:=⟨_,rfl⟩
      have hP1:V1.ownsRow w.heap.size 108 3 (.slice (some ⟨gq,0,none⟩) (m+1) cap) (m+1) (((slid M (⟨⟨t,r⟩,n⟩:Gid) (q+1)).set (q+1) (⟨⟨t2,r2⟩,n2⟩:Gid)).flatMap idL)∧wq.drew.grownBy V1 (some gq):=by rw[hV1];exact ownN_put (f:=idL) (fun _=>rfl) (by decide) HL1.out (show wq.drew.ownsRow _ _ _ _ _ _ from HOq2.out) (by omega) (⟨⟨t2,r2⟩,n2⟩:Gid)
      obtain⟨V2,hV2⟩:∃V,V=V1.setCells gq (q*3) (#[.int .i64 t,.int .i64 r,.int .i64 n]:Array Value).toList:=⟨_,rfl⟩
      have hP2:V2.ownsRow w.heap.size 108 3 (.slice (some ⟨gq,0,none⟩) (m+1) cap) (m+1) ((((slid M (⟨⟨t,r⟩,n⟩:Gid) (q+1)).set (q+1) (⟨⟨t2,r2⟩,n2⟩:Gid)).set q (⟨⟨t,r⟩,n⟩:Gid)).flatMap idL)∧V1.grownBy V2 (some gq):=by rw[hV2];exact ownN_put (f:=idL) (fun _=>rfl) (by decide) (by rw[List.length_set];exact HL1.out) hP1.1 (by omega) (⟨⟨t,r⟩,n⟩:Gid)
      obtain⟨g5,e5,ht5⟩:=own_there (show wq.drew.ownsRow _ _ _ _ _ _ from HOq2.out) (k:=q+1) (by omega)
      cases e5
      obtain⟨g6,e6,ht6⟩:=own_there hP1.1 (k:=q) (by omega)
      cases e6
      have HP2:=hid hP2.1
      have HG2:=hid (show wq.heap.size≤V2.heap.size∧(Below w.heap.size w wq→w.heap.size≤gq→Below w.heap.size w V2) from⟨Nat.le_trans (show wq.drew.heap.size≤V1.heap.size from hP1.2.size) hP2.2.size,fun hb hl=>(hb.drew.grown hP1.2 (by exact hb.size) (fun b e=>by cases e;exact hl)).grown hP2.2 (Nat.le_trans hb.size (show wq.drew.heap.size≤V1.heap.size from hP1.2.size)) (fun b e=>by cases e;exact hl)⟩)
      have HV1:=hid hV1
      have HV2:=hid hV2
      have HT5:=hid ht5
      have HT6:=hid ht6
      have HAY:=hid (show(#[.int .i64 t2,.int .i64 r2,.int .i64 n2]:Array Value).all (·.oneCell')=true by rw[←Array.all_toList];rfl)
      have HAX:=hid (show(#[.int .i64 t,.int .i64 r,.int .i64 n]:Array Value).all (·.oneCell')=true by rw[←Array.all_toList];rfl)
      clear hP1 hP2 hV1 hV2 ht5 ht6
      refine wp_region_held (S:=fun _=>True) (by kernel_rfl) ?_
      try(change wpAnyH _ _ _ _ _ _ _ _ (World.drew _))
      refine tk 0 (.slice (some ⟨gq,0,none⟩) (m+1) cap) (trivial) ?_
      go_simp
      refine tk 1 (.int .i64 ((q:Int)+1)) (trivial) ?_
      go_simp
      refine tk 2 (.slice (some ⟨gq,0,none⟩) (m+1) cap) (trivial) ?_
      go_simp
      refine tk 3 (.int .i64 ((q:Int)+1)) (trivial) ?_
      go_simp
      refine tk 4 (.int .i64 (q:Int)) (trivial) ?_
      go_simp
      refine tk 5 (.slice (some ⟨gq,0,none⟩) (m+1) cap) (trivial) ?_
      go_simp
      refine tk 6 (.int .i64 ((q:Int)+1)) (trivial) ?_
      go_simp
      refine tk 7 (.int .i64 (q:Int)) (trivial) ?_
      go_simp
      refine tk 8 (.pointer (some ⟨gq,q*3,none⟩)) (trivial) ?_
      go_simp
      refine tk 10 (.slice (some ⟨gq,0,none⟩) (m+1) cap) (trivial) ?_
      go_simp
      refine tk 11 (.int .i64 ((q:Int)+1)) (trivial) ?_
      go_simp
      refine tk 12 (.pointer (some ⟨gq,(q+1)*3,none⟩)) (trivial) ?_
      go_simp
      refine wpAnyH_ready (rs:=[9,13]) (by kernel_rfl) (by simp) ?_
      refine AllReadyH.cons rfl (fun K hK=> ?_) (AllReadyH.cons rfl (fun K hK=> ?_) AllReadyH.nil)
      focus
       refine step_load_mid rfl _ _ rfl gq (q*3) rfl [.int .i64 t2,.int .i64 r2,.int .i64 n2] _ (show wq.drew.rangeAt _ _ _ from HR3q.out) Tryz.underlying108 rfl (by kernel_rfl) ?_
       refine hK.out _ _ (trivial) (fun _=> ?_)
       clear hK K
       refine wpAnyH_ready (rs:=[13]) (by kernel_rfl) (by simp) ?_
       refine AllReadyH.cons rfl (fun K hK=> ?_) AllReadyH.nil
       refine step_load_mid rfl _ _ rfl gq ((q+1)*3) rfl [.int .i64 t,.int .i64 r,.int .i64 n] _ (show wq.drew.rangeAt _ _ _ from HR4q.out) Tryz.underlying108 rfl (by kernel_rfl) ?_
       refine hK.out _ _ (trivial) (fun _=> ?_)
       clear hK K
      rotate_left
      focus
       refine step_load_mid rfl _ _ rfl gq ((q+1)*3) rfl [.int .i64 t,.int .i64 r,.int .i64 n] _ (show wq.drew.rangeAt _ _ _ from HR4q.out) Tryz.underlying108 rfl (by kernel_rfl) ?_
       refine hK.out _ _ (trivial) (fun _=> ?_)
       clear hK K
       refine wpAnyH_ready (rs:=[9]) (by kernel_rfl) (by simp) ?_
       refine AllReadyH.cons rfl (fun K hK=> ?_) AllReadyH.nil
       refine step_load_mid rfl _ _ rfl gq (q*3) rfl [.int .i64 t2,.int .i64 r2,.int .i64 n2] _ (show wq.drew.rangeAt _ _ _ from HR3q.out) Tryz.underlying108 rfl (by kernel_rfl) ?_
       refine hK.out _ _ (trivial) (fun _=> ?_)
       clear hK K
      all_goals
       refine tk 14 (.pointer (some ⟨gq,(q+1)*3,none⟩)) (trivial) ?_
       go_simp
       refine wpAnyH_ready (rs:=[15]) (by kernel_rfl) (by simp) ?_
       refine AllReadyH.cons rfl (fun K hK=> ?_) AllReadyH.nil
       refine step_store_mid rfl _ _ _ rfl gq ((q+1)*3) #[.int .i64 t2,.int .i64 r2,.int .i64 n2] (by rfl) (by rfl) HT5.out (by kernel_rfl) HAY.out ?_
       rw[←HV1.out]
       refine hK.out _ _ (trivial) (fun _=> ?_)
       clear hK K
       refine tk 16 (.pointer (some ⟨gq,q*3,none⟩)) (trivial) ?_
       go_simp
       refine wpAnyH_ready (rs:=[17]) (by kernel_rfl) (by simp) ?_
       refine AllReadyH.cons rfl (fun K hK=> ?_) AllReadyH.nil
       refine step_store_mid rfl _ _ _ rfl gq (q*3) #[.int .i64 t,.int .i64 r,.int .i64 n] (by rfl) (by rfl) HT6.out (by kernel_rfl) HAX.out ?_
       rw[←HV2.out]
       refine hK.out _ _ (trivial) (fun _=> ?_)
       clear hK K
       refine wpAnyH_done (by kernel_rfl) ?_ _
       go_simp
       go_wp2
       go_roundw
       case rel=>exact⟨q,by go_num,by omega,HIX2,hid (by rw[←HSW.out];exact HP2.out),hid (HG2.out.2 HBq2.out (HOq2.out.lt gq rfl).1)⟩
       case measure=>(simp[RowKit.intOf];try omega)
    ·obtain rfl:q=0:=by omega
     go_upto_region 8 with fail
     refine rqb ?_
     repeat(any_goals(first|go_big_quiet_step (fail)|quiet_step (fail)))
     refine qz fun wq hBq=> ?_
     have HS8:=hid (show((N.take (k+1)).foldl stepE [])=slid M (⟨⟨t,r⟩,n⟩:Gid) 0 by rw[HS9.out];unfold insB;rw[←HIX.out];rfl)
     have HL1:=hid (show m+1=(slid M (⟨⟨t,r⟩,n⟩:Gid) 0).length by rw[slid_len,←HML.out])
     have HOx:=hid (HOq.out.kept (gby_below (r:=none) hBq) (Classical.em _))
     have HBx:=hid (HBq.out.trans (hBq.mono HBq.out.size))
     go_wp2
     go_roundw
     case rel=>exact⟨k+1,some ⟨gq,0,none⟩,cap,m+1,_,by omega,by go_num,rfl,by omega,HL1,hid HS8.out.symm,HOx,HBx⟩
     case measure=>(simp[RowKit.intOf];omega)
  ·obtain rfl:k=n2:=by omega
   have i2:¬(k:Int)<(k:Int):=by omega
   have HM9:=hid (show M=Z by rw[HZ.out,←HNM.out,←stepE_map];have h9:=HM.out;rw[HN2.out,List.take_length] at h9;exact h9)
   go_wp2
   go_ret
   refine⟨A',c',by rw[←HM9.out,←HML.out];rfl,?_,HB0.out.trans ((HB1.out.trans ((HB2.out.trans (HBr.out.mono HB2.out.size)).mono HB1.out.size)).mono HB0.out.size)⟩
   rw[←HM9.out,←HML.out];exact own_base HO.out (Nat.le_trans HB0.out.size (Nat.le_trans HB1.out.size HB2.out.size))
end
end Go.Proofs.YtkhmicndehlneaaGreatDoor
