/- Part 12 of the walks and plain laws that this claim uses, joined. Conditions: as each theorem states. -/
import Derived.Deep.AppendLies
import Derived.Deep.LoopGhost
import Derived.Lib.SliceRun
import Derived.WalkMore
import Derived.Test.YtkhmicndehlneaaGreatDoorYtk
namespace Go.Proofs.YtkhmicndehlneaaGreatDoor
set_option maxRecDepth 100000
set_option maxHeartbeats 16000000
section
open Go.RowKit Go.Lib Go.Sort
set_option linter.unusedVariables false
attribute [local go_sem ↓] Go.wp_at_zero Go.wp_at_succ
theorem withV_len (v:List Int) (r n:Int) (h:v.length≤16) (hr:r≤16):(withV v r n).length≤16:=by
 have:=pv_len (setV v r n)
 have h2:=setV_len v r n
 unfold withV
 omega
theorem bxdeliver_any {B P:Nat} {S:Nat→Prop} {dn mp wt:List Grp} {v:List Int} {X:BoxX} {w:World} (h:BoxIn B P S dn mp wt v X w) (g:Grp) (x:GrX) (hG:GrG w S (g,x)) (hg:g.s.right=true) (hlen:dn.length≤1000000) (hmlen:mp.length≤1000000):
  Calls Tryz.prog 51 #[.pointer (some ⟨P,0,none⟩),.agg (grA g x.dA x.dc x.oA x.oc)] w fun e w'=>e= .returned (.tuple #[])∧∃X' S',BoxIn B P S' (dn++[g]) (mp++[g]) wt (withV v g.s.r g.n) X' w'∧BTo P X S w X' S' w':=by
 obtain⟨i0,hi,hz0,hz1,hz2⟩:=info_parts infogrC_
 have hb0:Below w.heap.size w (w.alloc (.cells (grA g x.dA x.dc x.oA x.oc) 45)):=(Below.refl _ _).alloc (Nat.le_refl _) _
 have hpp:(g,x).1=g:=rfl
 have HX0:=hid (h.below hb0)
 have HG0:=hid (hG.agr (Agr.below hb0))
 have HTO:=hid (BTo.of_below (P:=P) (X:=X) (S:=S) hb0)
 have HGI:=hid (right_i63 hg)
 have hdl:X.L.length≤1000000:=by rw[h.dlen];exact hlen
 have hml:mp.length<maxLen:=by unfold maxLen;omega
 obtain⟨⟨t,r⟩,n,u,⟨ut,ur⟩,ops⟩:=g
 obtain⟨dA,dc,oA,oc⟩:=x
 have hr1:1≤r∧r≤16:=right_r hg
 obtain⟨q,hq⟩:∃q:Nat,r=(q:Int)+1:=⟨(r-1).toNat,by omega⟩
 have hq16:q<16:=by omega
 have HQ:=hid hq
 clear hq hr1
 show Calls _ _ #[.pointer (some ⟨P,0,none⟩),.agg #[.int .i64 t,.int .i64 r,.int .i64 n,.slice dA u.length dc,.int .i64 ut,.int .i64 ur,.slice oA ops.length oc]] _ _
 have HC:=hid (heap_alloc_new w (.cells #[.int .i64 t,.int .i64 r,.int .i64 n,.slice dA u.length dc,.int .i64 ut,.int .i64 ur,.slice oA ops.length oc] 45))
 have hgb:=h.own_lt (k:=P) (.inl rfl)
 have hgm:=h.own_lt (k:=X.bm) (.inr (.inl rfl))
 have HOL:=hid (fun k hk=>(h.own_lt (k:=k) hk).2)
 clear h hb0 hG hg hlen
 go_enter Tryz.func51,Tryz.ntmps51
 go_upto_region 1 with fail
 generalize hW:w.alloc (.cells (grA ⟨⟨t,r⟩,n,u,⟨ut,ur⟩,ops⟩ (GrX.dA ⟨dA,dc,oA,oc⟩) (GrX.dc ⟨dA,dc,oA,oc⟩) (GrX.oA ⟨dA,dc,oA,oc⟩) (GrX.oc ⟨dA,dc,oA,oc⟩)) 45)=W at HX0 HG0 HTO
 have hW2:w.alloc (.cells #[.int .i64 t,.int .i64 r,.int .i64 n,.slice dA u.length dc,.int .i64 ut,.int .i64 ur,.slice oA ops.length oc] 45)=W:=hW
 try rw[hW2]
 have HC1:=hid (show W.heap[w.heap.size]? =some (.cells #[.int .i64 t,.int .i64 r,.int .i64 n,.slice dA u.length dc,.int .i64 ut,.int .i64 ur,.slice oA ops.length oc] 45 (0,0)) by rw[←hW2];exact HC.out)
 clear hW hW2 HC
 have hwW:w.heap.size<W.heap.size:=lt_of_block HC1.out
 have d0:W.drew.cell? ⟨P,0,none⟩=some X.dv:=by show W.cell? _=_;rw[HX0.out.cell];rfl
 refine wp_region_held (S:=fun w'=>w'.heap[w.heap.size]? =some (.cells #[.int .i64 t,.int .i64 r,.int .i64 n,.slice dA u.length dc,.int .i64 ut,.int .i64 ur,.slice oA ops.length oc] 45 (0,0))) (by kernel_rfl) ?_
 try(change wpAnyH _ _ _ _ _ _ _ _ (World.drew _))
 refine tk 0 (.pointer (some ⟨P,0,none⟩)) ((show W.drew.heap[w.heap.size]? =_ from HC1.out)) ?_
 go_simp
 refine tk 1 (.pointer (some ⟨P,0,none⟩)) ((show W.drew.heap[w.heap.size]? =_ from HC1.out)) ?_
 go_simp
 refine tk 2 (.pointer (some ⟨P,0,none⟩)) ((show W.drew.heap[w.heap.size]? =_ from HC1.out)) ?_
 go_simp
 refine tk 3 (.pointer (some ⟨P,0,none⟩)) ((show W.drew.heap[w.heap.size]? =_ from HC1.out)) ?_
 go_simp
 refine wpAnyH_take (i:=5) (v:= .agg #[.int .i64 t,.int .i64 r,.int .i64 n,.slice dA u.length dc,.int .i64 ut,.int .i64 ur,.slice oA ops.length oc]) rfl (by kernel_rfl) (by kernel_rfl) (by kernel_rfl) (fun _ _ _ h=>h) (Or.inl ⟨by rfl,fun W' hW'=>by(have c0:W'.cell? ⟨w.heap.size,0,none⟩=some (.int .i64 t):=(by rw[crw hW'];rfl);have c1:W'.cell? ⟨w.heap.size,1,none⟩=some (.int .i64 r):=(by rw[crw hW'];rfl);have c2:W'.cell? ⟨w.heap.size,2,none⟩=some (.int .i64 n):=(by rw[crw hW'];rfl);have c3:W'.cell? ⟨w.heap.size,3,none⟩=some (.slice dA u.length dc):=(by rw[crw hW'];rfl);have c4:W'.cell? ⟨w.heap.size,4,none⟩=some (.int .i64 ut):=(by rw[crw hW'];rfl);have c5:W'.cell? ⟨w.heap.size,5,none⟩=some (.int .i64 ur):=(by rw[crw hW'];rfl);have c6:W'.cell? ⟨w.heap.size,6,none⟩=some (.slice oA ops.length oc):=(by rw[crw hW'];rfl);go_simp)⟩) ((show W.drew.heap[w.heap.size]? =_ from HC1.out)) ?_
 go_simp
 have HBA:=hid (show Below W.heap.size W (W.alloc (.cells #[.int .i64 t,.int .i64 r,.int .i64 n,.slice dA u.length dc,.int .i64 ut,.int .i64 ur,.slice oA ops.length oc] 45)).drew from⟨rfl,rfl,rfl,by simp,fun k hk=>Below.heap_alloc _ _ _ hk⟩)
 have HCA:=hid (show(W.alloc (.cells #[.int .i64 t,.int .i64 r,.int .i64 n,.slice dA u.length dc,.int .i64 ut,.int .i64 ur,.slice oA ops.length oc] 45)).drew.heap[w.heap.size]? =_ from(Below.heap_alloc W (.cells #[.int .i64 t,.int .i64 r,.int .i64 n,.slice dA u.length dc,.int .i64 ut,.int .i64 ur,.slice oA ops.length oc] 45) _ hwW).trans HC1.out)
 have HDN:=hid (HX0.out.done.alloc (.cells #[.int .i64 t,.int .i64 r,.int .i64 n,.slice dA u.length dc,.int .i64 ut,.int .i64 ur,.slice oA ops.length oc] 45))
 have HNC:=hid (fun (j:Nat) (y:Value) (h:[.int .i64 t,.int .i64 r,.int .i64 n,.slice dA u.length dc,.int .i64 ut,.int .i64 ur,.slice oA ops.length oc][j]? =some y)=>cellsN W [.int .i64 t,.int .i64 r,.int .i64 n,.slice dA u.length dc,.int .i64 ut,.int .i64 ur,.slice oA ops.length oc] 45 j y h)
 have hsA:(W.alloc (.cells #[.int .i64 t,.int .i64 r,.int .i64 n,.slice dA u.length dc,.int .i64 ut,.int .i64 ur,.slice oA ops.length oc] 45)).drew.heap.size=W.heap.size+1:=by show(W.alloc _).heap.size=_;simp
 have dA0:(W.alloc (.cells #[.int .i64 t,.int .i64 r,.int .i64 n,.slice dA u.length dc,.int .i64 ut,.int .i64 ur,.slice oA ops.length oc] 45)).drew.cell? ⟨P,0,none⟩=some X.dv:=by show(W.alloc _).cell? _=_;rw[crw ((Below.heap_alloc W (.cells #[.int .i64 t,.int .i64 r,.int .i64 n,.slice dA u.length dc,.int .i64 ut,.int .i64 ur,.slice oA ops.length oc] 45) P (by omega)).trans HX0.out.obj)];rfl
 refine wpAnyH_ready (rs:=[4,6]) (by kernel_rfl) (by simp) ?_
 refine AllReadyH.cons rfl (fun K hK=> ?_) (AllReadyH.cons rfl (fun K hK=> ?_) AllReadyH.nil)
 focus
  go_simp
  refine hK.out _ _ ((show W.drew.heap[w.heap.size]? =_ from HC1.out)) (fun _=> ?_)
  clear hK K
  refine wpAnyH_ready (rs:=[6]) (by kernel_rfl) (by simp) ?_
  refine AllReadyH.cons rfl (fun K hK=> ?_) AllReadyH.nil
  go_simp
  refine hK.out _ _ (HCA.out) (fun _=> ?_)
  clear hK K
 rotate_left
 focus
  go_simp
  refine hK.out _ _ (HCA.out) (fun _=> ?_)
  clear hK K
  refine wpAnyH_ready (rs:=[4]) (by kernel_rfl) (by simp) ?_
  refine AllReadyH.cons rfl (fun K hK=> ?_) AllReadyH.nil
  go_simp
  refine hK.out _ _ (HCA.out) (fun _=> ?_)
  clear hK K
 all_goals
  refine wpAnyH_ready (rs:=[7]) (by kernel_rfl) (by simp) ?_
  refine AllReadyH.cons rfl (fun K hK=> ?_) AllReadyH.nil
  refine step_append_lies _ (by rfl) _ _ 25 (by rfl) B 45 i0 (.agg #[.int .i64 0,.int .i64 0,.int .i64 0,.slice none 0 0,.int .i64 0,.int .i64 0,.slice none 0 0]) 7 88 Tryz.underlying25 hi hz0 hz1 hz2 rfl (by decide) X.dv X.L.length _ (by rfl) (by exact HDN.out) ⟨W.heap.size,0,none⟩ 1 1 [.int .i64 t,.int .i64 r,.int .i64 n,.slice dA u.length dc,.int .i64 ut,.int .i64 ur,.slice oA ops.length oc] (by rfl) rfl (by exact HNC.out) (by exact ocgrC_ (⟨⟨t,r⟩,n,u,⟨ut,ur⟩,ops⟩,⟨dA,dc,oA,oc⟩)) (by decide) (by unfold maxLen;omega) (by omega) (by rw[hsA];omega) (W.heap.size+1) hsA ?_
  intro gq cap w3 hown1 hgrow hat hlt3
  have hgne:some w.heap.size≠X.dv.ownBlock:=fun e=>by have:=HOL.out _ (.inr (.inr (.inl e.symm)));omega
  have HC3:=hid ((hgrow.block w.heap.size (by rw[hsA];omega) hgne).trans HCA.out)
  have hPd:some P≠X.dv.ownBlock:=fun e=>HX0.out.dP e.symm
  have d3:w3.cell? ⟨P,0,none⟩=some X.dv:=by rw[crw ((hgrow.block P (by rw[hsA];omega) hPd).trans ((HBA.out.block P (by omega)).trans HX0.out.obj))];rfl
  have f3:w3.frozen? ⟨P,0,none⟩=false:=frozen_of_row _ _ _ _ _ ((hgrow.block P (by rw[hsA];omega) hPd).trans ((HBA.out.block P (by omega)).trans HX0.out.obj))
  have HPUT:=hid (HX0.out.dput (dv':= .slice (some ⟨gq,0,none⟩) (X.L.length+1) cap) (p:=(⟨⟨t,r⟩,n,u,⟨ut,ur⟩,ops⟩,⟨dA,dc,oA,oc⟩)) HBA.out hgrow hown1 (hat.elim (fun e=> .inl (by rw[e];rfl)) (fun e=> .inr (by rw[e,hsA];rfl))) HG0.out)
  clear hown1 hgrow hat hgne hPd hlt3 HDN HNC
  refine hK.out _ _ (HC3.out) (fun _=> ?_)
  clear hK K
  refine tk 8 (.pointer (some ⟨P,0,none⟩)) (HC3.out) ?_
  go_simp
  refine tk 9 (.pointer (some ⟨P,0,none⟩)) (HC3.out) ?_
  go_simp
  refine wpAnyH_ready (rs:=[10]) (by kernel_rfl) (by simp) ?_
  refine AllReadyH.cons rfl (fun K hK=> ?_) AllReadyH.nil
  go_simp
  have HC4:=hid ((Below.heap_setCell w3 ⟨P,0,none⟩ (.slice (some ⟨gq,0,none⟩) (X.L.length+1) cap) w.heap.size (by show w.heap.size≠P;omega)).trans HC3.out)
  refine hK.out _ _ (HC4.out) (fun _=> ?_)
  clear hK K
  refine wpAnyH_done (by kernel_rfl) ?_ _
  go_simp
  obtain⟨hX4,hT4⟩:=HPUT.out
  generalize hV:w3.setCell ⟨P,0,none⟩ (.slice (some ⟨gq,0,none⟩) (X.L.length+1) cap)=V at *
  clear hV d3 f3 HPUT HC3 HBA HCA d0
  generalize hXe:({ X with dv:= .slice (some ⟨gq,0,none⟩) (X.L.length+1) cap,L:=X.L++[(⟨⟨t,r⟩,n,u,⟨ut,ur⟩,ops⟩,⟨dA,dc,oA,oc⟩)] }:BoxX)=X1 at *
  have HBM:=hid (show X1.bm=X.bm by rw[←hXe])
  clear hXe
  have HX1:=hid hX4
  have HT1:=hid (HTO.out.trans hT4)
  clear hX4 hT4
  have hP1:P<V.heap.size:=lt_of_block HX1.out.obj
  go_upto_region 2 with fail
  have hbd:Below V.heap.size V V.drew:=⟨rfl,rfl,rfl,Nat.le_refl _,fun _ _=>rfl⟩
  have HXd:=hid (HX1.out.below hbd)
  obtain⟨w5,hrun,hown5,hturn5⟩:=HXd.out.map.store law_st Tryz.underlying87 hml (key_st (⟨t,r⟩:Gst) HGI.out.1 HGI.out.2) (val:= .agg #[]) unitElem_mk
  have hg5:=hturn5.grown
  have HM5:=hid (HXd.out.mput (g:=⟨⟨t,r⟩,n,u,⟨ut,ur⟩,ops⟩) hg5 hown5)
  have HS2:=hid (show V.drew.heap[w.heap.size]? =some (.cells #[.int .i64 t,.int .i64 r,.int .i64 n,.slice dA u.length dc,.int .i64 ut,.int .i64 ur,.slice oA ops.length oc] 45 (0,0))∧V.drew.heap[P]? =some (.cells #[X1.dv,X1.wv,.map (some X1.bm),.slice X1.vA v.length X1.vc] 89 (0,0)) from⟨HC4.out,HX1.out.obj⟩)
  have HC5:=hid ((hg5.block w.heap.size (lt_of_block HS2.out.1) (fun e=>by injection e with e;rw[HBM.out] at e;omega)).trans HS2.out.1)
  have HO5:=hid ((hg5.block P (lt_of_block HS2.out.2) (fun e=>by injection e with e;exact HX1.out.pm e)).trans HS2.out.2)
  clear hown5 hturn5 hg5
  refine wp_region_held (S:=fun w'=>w'.heap[w.heap.size]? =some (.cells #[.int .i64 t,.int .i64 r,.int .i64 n,.slice dA u.length dc,.int .i64 ut,.int .i64 ur,.slice oA ops.length oc] 45 (0,0))∧w'.heap[P]? =some (.cells #[X1.dv,X1.wv,.map (some X1.bm),.slice X1.vA v.length X1.vc] 89 (0,0))) (by kernel_rfl) ?_
  try(change wpAnyH _ _ _ _ _ _ _ _ (World.drew _))
  refine tk 0 (.pointer (some ⟨P,0,none⟩)) (HS2.out) ?_
  go_simp
  refine tk 1 (.pointer (some ⟨P,0,none⟩)) (HS2.out) ?_
  go_simp
  refine tk 2 (.pointer (some ⟨P,2,none⟩)) (HS2.out) ?_
  go_simp
  refine wpAnyH_take (i:=3) (v:= .map (some X1.bm)) rfl (by kernel_rfl) (by kernel_rfl) (by kernel_rfl) (fun _ _ _ h=>h) (Or.inl ⟨by rfl,fun W' hW'=>by(have c_:W'.cell? ⟨P,2,none⟩=some (.map (some X1.bm)):=(by rw[crw hW'.2];rfl);go_simp)⟩) (HS2.out) ?_
  go_simp
  refine tk 4 (.pointer (some ⟨w.heap.size,0,none⟩)) (HS2.out) ?_
  go_simp
  refine wpAnyH_take (i:=5) (v:= .agg #[.int .i64 t,.int .i64 r]) rfl (by kernel_rfl) (by kernel_rfl) (by kernel_rfl) (fun _ _ _ h=>h) (Or.inl ⟨by rfl,fun W' hW'=>by(have c0:W'.cell? ⟨w.heap.size,0,none⟩=some (.int .i64 t):=(by rw[crw hW'.1];rfl);have c1:W'.cell? ⟨w.heap.size,1,none⟩=some (.int .i64 r):=(by rw[crw hW'.1];rfl);go_simp)⟩) (HS2.out) ?_
  go_simp
  refine tk 6 (.agg #[]) (HS2.out) ?_
  go_simp
  refine wpAnyH_ready (rs:=[7]) (by kernel_rfl) (by simp) ?_
  refine AllReadyH.cons rfl (fun K hK=> ?_) AllReadyH.nil
  go_simp
  refine hK.out _ _ (⟨HC5.out,HO5.out⟩) (fun _=> ?_)
  clear hK K
  refine wpAnyH_done (by kernel_rfl) ?_ _
  go_simp
  obtain⟨hX6,hT6⟩:=HM5.out
  have HX6:=hid hX6
  have HT6:=hid (HT1.out.trans ((BTo.of_below hbd).trans hT6))
  clear hX6 hT6 HM5 hrun HXd HS2 hbd
  go_upto_region 3 with fail
  have hbd:Below w5.heap.size w5 w5.drew:=⟨rfl,rfl,rfl,Nat.le_refl _,fun _ _=>rfl⟩
  have HX7:=hid (HX6.out.below hbd)
  have HT7:=hid (HT6.out.trans (BTo.of_below hbd))
  have HWI:=hid (with_any X1.vA X1.vc v q n w5.drew (by have:=HX6.out.vlen;omega) hq16 (VecS.vec HX7.out.vec))
  rw[←HQ.out] at HWI
  have d7:w5.drew.cell? ⟨P,3,none⟩=some (.slice X1.vA v.length X1.vc):=by rw[HX7.out.cell];rfl
  refine wp_region_held (S:=fun w'=>w'.heap[w.heap.size]? =some (.cells #[.int .i64 t,.int .i64 r,.int .i64 n,.slice dA u.length dc,.int .i64 ut,.int .i64 ur,.slice oA ops.length oc] 45 (0,0))) (by kernel_rfl) ?_
  try(change wpAnyH _ _ _ _ _ _ _ _ (World.drew _))
  refine tk 0 (.pointer (some ⟨P,0,none⟩)) ((show w5.drew.heap[w.heap.size]? =_ from HC5.out)) ?_
  go_simp
  refine tk 1 (.pointer (some ⟨P,0,none⟩)) ((show w5.drew.heap[w.heap.size]? =_ from HC5.out)) ?_
  go_simp
  refine tk 2 (.pointer (some ⟨P,0,none⟩)) ((show w5.drew.heap[w.heap.size]? =_ from HC5.out)) ?_
  go_simp
  refine tk 3 (.pointer (some ⟨P,3,none⟩)) ((show w5.drew.heap[w.heap.size]? =_ from HC5.out)) ?_
  go_simp
  refine tk 5 (.pointer (some ⟨w.heap.size,0,none⟩)) ((show w5.drew.heap[w.heap.size]? =_ from HC5.out)) ?_
  go_simp
  refine tk 6 (.pointer (some ⟨w.heap.size,1,none⟩)) ((show w5.drew.heap[w.heap.size]? =_ from HC5.out)) ?_
  go_simp
  refine wpAnyH_take (i:=7) (v:= .int .i64 r) rfl (by kernel_rfl) (by kernel_rfl) (by kernel_rfl) (fun _ _ _ h=>h) (Or.inl ⟨by rfl,fun W' hW'=>by(have c_:W'.cell? ⟨w.heap.size,1,none⟩=some (.int .i64 r):=(by rw[crw hW'];rfl);go_simp)⟩) ((show w5.drew.heap[w.heap.size]? =_ from HC5.out)) ?_
  go_simp
  refine tk 8 (.pointer (some ⟨w.heap.size,2,none⟩)) ((show w5.drew.heap[w.heap.size]? =_ from HC5.out)) ?_
  go_simp
  refine wpAnyH_take (i:=9) (v:= .int .i64 n) rfl (by kernel_rfl) (by kernel_rfl) (by kernel_rfl) (fun _ _ _ h=>h) (Or.inl ⟨by rfl,fun W' hW'=>by(have c_:W'.cell? ⟨w.heap.size,2,none⟩=some (.int .i64 n):=(by rw[crw hW'];rfl);go_simp)⟩) ((show w5.drew.heap[w.heap.size]? =_ from HC5.out)) ?_
  go_simp
  refine wpAnyH_ready (rs:=[4]) (by kernel_rfl) (by simp) ?_
  refine AllReadyH.cons rfl (fun K hK=> ?_) AllReadyH.nil
  go_simp
  refine hK.out _ _ ((show w5.drew.heap[w.heap.size]? =_ from HC5.out)) (fun _=> ?_)
  clear hK K
  refine wpAnyH_ready (rs:=[10]) (by kernel_rfl) (by simp) ?_
  refine AllReadyH.cons rfl (fun K hK=> ?_) AllReadyH.nil
  go_simp
  refine HWI.out.mono ?_
  rintro e w8 ⟨hB8,A8,c8,rfl,hv8,hc8,hm8⟩
  have HC8:=hid ((hB8.block w.heap.size (lt_of_block HC5.out)).trans (show w5.drew.heap[w.heap.size]? =_ from HC5.out))
  have HVP:=hid (HX7.out.vput (u:=withV v r n) hB8 hv8 hc8 hm8 (withV_len _ _ _ HX6.out.vlen (by rw[HQ.out];omega)))
  have d8:w8.cell? ⟨P,3,none⟩=some (.slice X1.vA v.length X1.vc):=by rw[crw ((hB8.block P (lt_of_block HX7.out.obj)).trans HX7.out.obj)];rfl
  have f8:w8.frozen? ⟨P,3,none⟩=false:=frozen_of_row _ _ _ _ _ ((hB8.block P (lt_of_block HX7.out.obj)).trans HX7.out.obj)
  clear hB8 hv8 hc8 hm8
  go_simp
  refine hK.out _ _ (HC8.out) (fun _=> ?_)
  clear hK K
  refine tk 11 (.tuple #[.slice A8 (withV v r n).length c8,.int .i64 0]) (HC8.out) ?_
  go_simp
  refine tk 12 (.slice A8 (withV v r n).length c8) (HC8.out) ?_
  go_simp
  refine tk 13 (.int .i64 0) (HC8.out) ?_
  go_simp
  refine tk 14 (.pointer (some ⟨P,0,none⟩)) (HC8.out) ?_
  go_simp
  refine tk 15 (.pointer (some ⟨P,3,none⟩)) (HC8.out) ?_
  go_simp
  refine wpAnyH_ready (rs:=[16]) (by kernel_rfl) (by simp) ?_
  refine AllReadyH.cons rfl (fun K hK=> ?_) AllReadyH.nil
  go_simp
  have HC9:=hid ((Below.heap_setCell w8 ⟨P,3,none⟩ (.slice A8 (withV v r n).length c8) w.heap.size (by show w.heap.size≠P;omega)).trans HC8.out)
  refine hK.out _ _ (HC9.out) (fun _=> ?_)
  clear hK K
  refine wpAnyH_done (by kernel_rfl) ?_ _
  go_simp
  obtain⟨hX9,hT9⟩:=HVP.out
  go_wp2
  go_end0
  exact⟨rfl,_,_,hX9,HT7.out.trans hT9⟩
end
section
open Go.RowKit Go.Lib Go.Sort
set_option linter.unusedVariables false
theorem putL_size:∀(vs:List Value) (o:Nat) (c:Array Value),(putL c o vs).size=c.size
 | [],_,_=>rfl
 |v::vs,o,c=>by rw[putL,putL_size vs];simp
theorem putL_get:∀(vs:List Value) (o:Nat) (c:Array Value) (i:Nat),o+vs.length≤c.size→(putL c o vs)[i]? =if o≤i∧i<o+vs.length then vs[i-o]? else c[i]?
 | [],o,c,i,h=>by rw[putL,if_neg (by simp)]
 | v::vs,o,c,i,h=>by
  have hl:(v::vs).length=vs.length+1:=rfl
  rw[putL,putL_get vs (o+1) _ i (by simp;omega)]
  by_cases h1:o+1≤i∧i<o+1+vs.length
  ·rw[if_pos h1,if_pos (by omega)]
   obtain⟨k,rfl⟩:∃k,i=o+1+k:=⟨i-(o+1),by omega⟩
   rw[show o+1+k-(o+1)=k by omega,show o+1+k-o=k+1 by omega]
   rfl
  ·rw[if_neg h1]
   by_cases h2:i=o
   ·subst h2
    rw[if_pos (by omega),Nat.sub_self,Array.getElem?_setIfInBounds_self_of_lt (by omega)]
    rfl
   ·rw[if_neg (by omega),Array.getElem?_setIfInBounds_ne (fun e=>h2 e.symm)]
theorem run_clear_elem {P:Program} (w:World) (t e ty:TypeId) (z:Value) (ht:P.underlying t=some (.slice e)) (hv:∀w,(zeroValue e).run P w= .ok z w) (h1:∀v∈z.cells.toList,v.oneCell'=true) (b o c:Nat)
  (hc:∀j,j<z.cells.size→(w.cell? ⟨b,o+j,none⟩).isSome=true) (hf:∀j,j<z.cells.size→w.frozen? ⟨b,o+j,none⟩=false):
  (Builtin.clear_ #[t] ty #[.slice (some ⟨b,o,none⟩) 1 c]).run P w= .ok (.tuple #[]) (w.setCells b o z.cells.toList):=by
 have hzc:(Builtin.zeroCells z.cells 1).toList=z.cells.toList:=by
  simp[Builtin.zeroCells]
  apply List.ext_getElem
  ·simp
  ·intro i h1 h2
   simp at h1 h2
   simp[Nat.mod_eq_of_lt h2]
   exact getElem!_pos z.cells i h2
 have hst:=run_storeCells_cells (P:=P) b o z.cells.toList 0 w (by simpa using hc) (by simpa using hf) h1
 simp only[Nat.add_zero] at hst
 simp[Builtin.clear_,run_underlying ht,hv,hzc,hst]
theorem flat_drop (M:List (Grp×GrX)) (k:Nat):(M.drop k).flatMap grC_=(M.flatMap grC_).drop (k*7):=by
 induction M generalizing k with
 |nil=>simp
 | cons x xs ih=>
  cases k with
  |zero=>simp
  |succ k=>
   rw[List.drop_succ_cons,ih,List.flatMap_cons,show(k+1)*7=(grC_ x).length+k*7 from by show _=7+k*7;omega,List.drop_append]
   simp
theorem flat_take (M:List (Grp×GrX)) (k:Nat):(M.take k).flatMap grC_=(M.flatMap grC_).take (k*7):=by
 induction M generalizing k with
 |nil=>simp
 | cons x xs ih=>
  cases k with
  |zero=>simp
  |succ k=>
   rw[List.take_succ_cons,List.flatMap_cons,ih,List.flatMap_cons,show(k+1)*7=(grC_ x).length+k*7 from by show _=7+k*7;omega,List.take_append]
   simp
   exact(List.take_of_length_le (Nat.le_add_right _ _)).symm
theorem flat_erase (M:List (Grp×GrX)) (k:Nat):(M.eraseIdx k).flatMap grC_=(M.flatMap grC_).take (k*7)++(M.flatMap grC_).drop ((k+1)*7):=by
 rw[List.eraseIdx_eq_take_drop_succ,List.flatMap_append,flat_take,flat_drop]
end
section
open Go.RowKit Go.Lib Go.Sort
set_option linter.unusedVariables false
attribute [local go_sem ↓] Go.wp_at_zero Go.wp_at_succ
theorem zeroGr (w:World):(zeroValue 45).run Tryz.prog w= .ok (.agg #[.int .i64 0,.int .i64 0,.int .i64 0,.slice none 0 0,.int .i64 0,.int .i64 0,.slice none 0 0]) w:=by kernel_rfl
theorem bxdelete_any {B:Nat} {wv:Value} {M:List (Grp×GrX)} {w:World} (k:Nat) (hO:w.ownsRow B 45 7 wv M.length (M.flatMap grC_)) (hk:k<M.length) (hl:M.length≤1000000):
  Calls Tryz.prog 100 #[wv,.int .i64 (k:Int),.int .i64 ((k:Int)+1)] w fun e w'=>∃wv',e= .returned wv'∧w'.ownsRow B 45 7 wv' (M.eraseIdx k).length ((M.eraseIdx k).flatMap grC_)∧w.grownBy w' wv.ownBlock∧wv'.ownBlock=wv.ownBlock:=by
 obtain⟨i0,hi,hz0,hz1,hz2⟩:=info_parts infogrC_
 obtain⟨p,hn⟩:∃p,M.length=p+1:=⟨M.length-1,by omega⟩
 have hlx:(M.flatMap grC_).length=(p+1)*7:=by rw[lengrC_,hn]
 have hle:(M.eraseIdx k).length=p:=by rw[List.length_eraseIdx,if_pos hk,hn];rfl
 rw[hn] at hO hk hl
 rcases hO.2 with⟨-,h0⟩|⟨g,cap,cur,rfl,hBg,hg,hnc,hcm,hsz,htk⟩
 ·omega
 have hcap:cap≤9223372036854775807:=by unfold maxLen at hcm;omega
 have glt:=lt_of_block hg
 obtain⟨q,hq⟩:∃q,k+q=p:=⟨p-k,by omega⟩
 obtain⟨news,hnews⟩:∃l:List Value,l=(M.drop (k+1)).flatMap grC_:=⟨_,rfl⟩
 have hnl:news.length=q*7:=by rw[hnews,lengrC_,List.length_drop,hn];congr 1;omega
 have hnd:∀j,news[j]? =if j<q*7 then cur[(k+1)*7+j]? else none:=fun j=>by
  rw[hnews,flat_drop,List.getElem?_drop,←htk,List.getElem?_take,Array.getElem?_toList]
  by_cases h:j<q*7
  ·rw[if_pos h,if_pos (by omega)]
  ·rw[if_neg h,if_neg (by omega)]
 obtain⟨ad,ha1,ha2⟩:∃ad:Addr,(cap=k+1→ad=⟨g,0,none⟩)∧(¬cap=k+1→ad=⟨g,(k+1)*7,none⟩):=by
  by_cases hc:cap=k+1
  ·exact⟨_,fun _=>rfl,fun h=>absurd hc h⟩
  ·exact⟨_,fun h=>absurd h hc,fun _=>rfl⟩
 have hsrc:∀j u,news[j]? =some u→w.drew.cell? (ad.add j)=some u:=fun j u hu=>by
  have hj:j<q*7:=by have:=(List.getElem?_eq_some_iff.1 hu).1;omega
  rw[ha2 (by omega),Addr.add_mid]
  show w.cell? _=_
  rw[crw hg]
  rw[hnd,if_pos hj] at hu
  exact hu
 have h1n:∀u∈news,u.oneCell'=true:=fun u hu=>by
  rw[hnews] at hu
  obtain⟨x,-,hx⟩:=List.mem_flatMap.1 hu
  exact ocgrC_ x u hx
 obtain⟨c1,hc1⟩:∃c,c=putL cur (0+k*7) news:=⟨_,rfl⟩
 have hc1s:c1.size=cap*7:=by rw[hc1,putL_size,hsz]
 have hset1:w.drew.setCells g (0+k*7) news=w.drew.setRow g c1:=by rw[setCells_put g 45 news _ cur w.drew hg,hc1]
 obtain⟨c2,hc2⟩:∃c,c=putL c1 (p*7) [.int .i64 0,.int .i64 0,.int .i64 0,.slice none 0 0,.int .i64 0,.int .i64 0,.slice none 0 0]:=⟨_,rfl⟩
 have hg1:(w.drew.setRow g c1).heap[g]? =some (.cells c1 45 (0,0)):=heap_setRow_same c1 (show w.drew.heap[g]? =_ from hg)
 have hset2:(w.drew.setRow g c1).setCells g (p*7) [.int .i64 0,.int .i64 0,.int .i64 0,.slice none 0 0,.int .i64 0,.int .i64 0,.slice none 0 0]=(w.drew.setRow g c1).setRow g c2:=by rw[setCells_put g 45 _ _ c1 _ hg1,hc2]
 have hz:∀W,(zeroValue 45).run Tryz.prog W= .ok (.agg #[.int .i64 0,.int .i64 0,.int .i64 0,.slice none 0 0,.int .i64 0,.int .i64 0,.slice none 0 0]) W:=zeroGr
 have hclr:∀ty,(Builtin.clear_ #[25] ty #[.slice (some ⟨g,p*7,none⟩) 1 (cap-p)]).run Tryz.prog (w.drew.setRow g c1)= .ok (.tuple #[]) ((w.drew.setRow g c1).setRow g c2):=fun ty=>by
  rw[←hset2]
  refine run_clear_elem _ _ 45 ty _ Tryz.underlying25 hz (fun v hv=>oc_of (c:=#[.int .i64 0,.int .i64 0,.int .i64 0,.slice none 0 0,.int .i64 0,.int .i64 0,.slice none 0 0]) rfl v hv) g (p*7) (cap-p) (fun j hj=> ?_) (fun j hj=>frozen_of_row _ _ _ _ _ hg1)
  have hj:j<7:=hj
  rw[crw hg1,Array.getElem?_eq_getElem (by omega)]
  rfl
 have hfin:((w.drew.setRow g c1).setRow g c2).ownsRow B 45 7 (.slice (some ⟨g,0,none⟩) p cap) (M.eraseIdx k).length ((M.eraseIdx k).flatMap grC_)∧w.grownBy ((w.drew.setRow g c1).setRow g c2) (some g):=by
  refine⟨⟨lengrC_ _,.inr ⟨g,cap,c2,by rw[hle],hBg,heap_setRow_same c2 hg1,by omega,hcm,by rw[hc2,putL_size,hc1s],?_⟩⟩,rfl,rfl,rfl,by simp[World.setRow],fun i _ hi=> ?_⟩
  ·rw[hle]
   apply List.ext_getElem?
   intro i
   rw[List.getElem?_take,Array.getElem?_toList,flat_erase]
   by_cases h:i<p*7
   ·rw[if_pos h,hc2,putL_get _ _ _ _ (by rw[hc1s];show p*7+7≤_;omega),if_neg (by omega),hc1,putL_get _ _ _ _ (by rw[hsz,hnl];omega)]
    by_cases h2:i<k*7
    ·rw[if_neg (by omega),List.getElem?_append_left (by rw[List.length_take,hlx];omega),List.getElem?_take,if_pos h2,←htk,List.getElem?_take,if_pos (by omega),Array.getElem?_toList]
    ·rw[if_pos (by rw[hnl];omega),List.getElem?_append_right (by rw[List.length_take,hlx];omega),List.length_take,hlx,←flat_drop,←hnews]
     congr 1
     omega
   ·rw[if_neg h,List.getElem?_eq_none (by rw[List.length_append,List.length_take,List.length_drop,hlx];omega)]
  ·have hi:i≠g:=fun e=>hi (by rw[e])
   rw[setRow_other _ _ _ _ hi,setRow_other _ _ _ _ hi]
   rfl
 have hsp:∀j,j<news.length→(w.drew.cell? ⟨g,0+k*7+j,none⟩).isSome=true∧w.drew.frozen? ⟨g,0+k*7+j,none⟩=false:=fun j hj=>by
  rw[hnl] at hj
  refine⟨?_,frozen_of_row _ _ _ _ _ (show w.drew.heap[g]? =_ from hg)⟩
  show(w.cell? _).isSome=true
  rw[crw hg,Array.getElem?_eq_getElem (by omega)]
  rfl
 have HA1:=hid ha1
 have HA2:=hid ha2
 have HQ:=hid hq
 have HQ2:=hid (show p+1-(k+1)=q by omega)
 have HSRC:=hid hsrc
 have HNL:=hid hnl
 have H1N:=hid h1n
 have HSP:=hid hsp
 have HSET:=hid hset1
 have HCLR:=hid hclr
 have HFIN:=hid hfin
 have HLE:=hid hle
 have j1:(0:Int)≤(k:Int):=by omega
 have j2:(k:Int)≤(k:Int)+1:=by omega
 have j3:(k:Int)≤(p:Int):=by omega
 have j4:(p:Int)+1≤(cap:Int):=by omega
 have j5:(0:Int)≤(k:Int)+1:=by omega
 have j6:((k:Int) == (k:Int)+1)=false:=by rw[beq_eq_false_iff_ne];omega
 have j7:(k:Int)≤(cap:Int):=by omega
 have j8:((k:Int)+1).toNat=k+1:=by omega
 have j9:(k:Int)≤(p:Int)+1:=by omega
 have j10:(k:Int)+1≤(cap:Int):=by omega
 have j11:(k:Int)+1≤(p:Int)+1:=by omega
 have j12:(0:Int)≤(p:Int):=by omega
 have j13:(p:Int)≤(p:Int)+1:=by omega
 have j14:¬cap=p:=by omega
 have j15:((p:Int)+1).toNat=p+1:=by omega
 have j16:(p:Int)≤(cap:Int):=by omega
 have hkq:k+q≤cap:=by omega
 clear hO ha1 ha2 hq hsrc hnl h1n hsp hset1 hclr hfin hle hlx htk hg hsz hn hnews hnd hc1 hc1s hset2 hc2 hg1 hz glt hBg hnc hk
 go_enter Tryz.func100,Tryz.ntmps100
 go_upto_region 5 with fail
 refine wp_region_held (S:=fun _=>True) (by kernel_rfl) ?_
 try(change wpAnyH _ _ _ _ _ _ _ _ (World.drew _))
 refine tk 0 (.slice (some ⟨g,0,none⟩) (p+1) cap) (trivial) ?_
 go_simp
 refine tk 1 (.int .i64 (k:Int)) (trivial) ?_
 go_simp
 refine tk 2 (.slice (some ⟨g,0,none⟩) k cap) (trivial) ?_
 go_simp
 refine tk 3 (.slice (some ⟨g,0,none⟩) (p+1) cap) (trivial) ?_
 go_simp
 refine tk 4 (.int .i64 ((k:Int)+1)) (trivial) ?_
 go_simp
 refine wpAnyH_take (i:=5) (v:= .slice (some ad) q (cap-(k+1))) rfl (by kernel_rfl) (by kernel_rfl) (by kernel_rfl) (fun _ _ _ h=>h) (Or.inl ⟨by rfl,fun W' hW'=>by(rw[←HQ2.out];rcases Classical.em (cap=k+1) with hc|hc;(focus(rw[HA1.out hc];go_simp;(try omega);(try simp)));(rw[HA2.out hc];go_simp;(try simp[hc])))⟩) (trivial) ?_
 go_simp
 refine wpAnyH_ready (rs:=[6]) (by kernel_rfl) (by simp) ?_
 refine AllReadyH.cons rfl (fun K hK=> ?_) AllReadyH.nil
 refine step_append_room (by rfl) _ _ 25 (by rfl) 45 i0 7 Tryz.underlying25 hi hz1 g 0 k cap (by rfl) ad q (cap-(k+1)) news (by rfl) HNL.out HSRC.out H1N.out hkq HSP.out ?_
 rw[HSET.out,HQ.out]
 refine hK.out _ _ (trivial) (fun _=> ?_)
 clear hK K
 refine tk 7 (.slice (some ⟨g,0,none⟩) p cap) (trivial) ?_
 go_simp
 refine wpAnyH_done (by kernel_rfl) ?_ _
 go_simp
 generalize hV:w.drew.setRow g c1=V at *
 clear hV
 go_wp2
 rw[HCLR.out]
 simp only[Result.andThen]
 rw[Oper.upon_value]
 go_wp2
 go_ret
 exact⟨_,rfl,HFIN.out.1,HFIN.out.2,rfl⟩
def bestI:Option Nat→Int
 |none=> -1
 |some k=>(k:Int)
theorem BxOk.step {b:Bx} (h:BxOk b) {k:Nat} (hb:bestN b.v b.wait b.wait.length=some k) (ho:oldB b.v (b.wait.getD k gz)=false):BxOk (Bx.put ⟨b.done,b.wait.eraseIdx k,b.v⟩ (b.wait.getD k gz)):=by
 obtain⟨hk,hr⟩:=bestN_lt hb
 refine(h.drop k).put (h.chk _ (List.mem_append.2 (.inr (getD_mem hk)))) hr ho fun x hx=> ?_
 have hn:=h.apart
 rw[List.map_append,List.nodup_append] at hn
 rcases List.mem_append.1 hx with hx|hx
 ·exact fun e=>hn.2.2 _ (List.mem_map.2 ⟨x,hx,rfl⟩) _ (List.mem_map.2 ⟨_,getD_mem hk,rfl⟩) e
 ·exact erase_ne hk hn.2.1 x hx
theorem map_erase {α β:Type} (f:α→β) (l:List α) (k:Nat):(l.eraseIdx k).map f=(l.map f).eraseIdx k:=by rw[List.eraseIdx_eq_take_drop_succ,List.eraseIdx_eq_take_drop_succ,List.map_append,List.map_take,List.map_drop]
theorem getD_fst (M:List (Grp×GrX)) (wt:List Grp) (h:M.map Prod.fst=wt) (k:Nat):(M.getD k gp0).1=wt.getD k gz:=by
 subst h
 rw[List.getD_eq_getElem?_getD,List.getD_eq_getElem?_getD,List.getElem?_map]
 cases M[k]? <;>rfl
theorem getD_memP {M:List (Grp×GrX)} {k:Nat} (hk:k<M.length):M.getD k gp0∈M:=by
 rw[List.getD_eq_getElem?_getD,List.getElem?_eq_getElem hk];exact List.getElem_mem hk
theorem chk_dl {g:Grp} (h:chkB g=true):g.deps.length≤1000:=by
 simp only[chkB,headB,Bool.and_eq_true] at h
 have:=(vecB_nn h.1.1.2).2
 omega
theorem bxdrain_any {B P:Nat} {S:Nat→Prop} {b:Bx} {X:BoxX} {w:World} (h:BoxIn B P S b.done b.done b.wait b.v X w) (hok:BxOk b) (hwl:b.wait.length≤1000) (hlen:b.done.length+b.wait.length≤1000000):
  Calls Tryz.prog 52 #[.pointer (some ⟨P,0,none⟩)] w fun e w'=>e= .returned (.int .i64 ((drainF b.wait.length b).2:Nat))∧∃X' S',BoxIn B P S' (drainF b.wait.length b).1.done (drainF b.wait.length b).1.done (drainF b.wait.length b).1.wait (drainF b.wait.length b).1.v X' w'∧BTo P X S w X' S' w':=by
 obtain⟨R,hR⟩:∃R,R=drainF b.wait.length b:=⟨_,rfl⟩
 rw[←hR]
 have HRR:=hid hR
 have H0:=hid h
 have HOK:=hid hok
 obtain⟨m,hm⟩:∃m,m=b.wait.length:=⟨_,rfl⟩
 have HM:=hid hm
 have HLEN:=hid hlen
 have hm63:m≤1000:=by omega
 clear h hok hR hm hwl hlen
 go_enter Tryz.func52,Tryz.ntmps52
 go_wp2
 go_step3
 go_wp2
 go_step3
 go_wp2
 go_loopg [3] m (fun g c wr=>∃(bk:Bx) (nk:Nat) (Xk:BoxX) (Sk:Nat→Prop),c= .int .i64 nk∧bk.wait.length=g∧nk+g≤m∧Hid (BoxIn B P Sk bk.done bk.done bk.wait bk.v Xk wr)∧Hid (BTo P X S w Xk Sk wr)∧Hid (BxOk bk)∧Hid (R=((drainF bk.wait.length bk).1,(drainF bk.wait.length bk).2+nk))∧Hid (bk.done.length+bk.wait.length≤1000000))
 case atStart=>exact⟨b,0,X,S,rfl,HM.out.symm,by omega,H0,hid BTo.refl,HOK,hid (by rw[HRR.out];rfl),HLEN⟩
 case round=>
  obtain⟨bk,nk,Xk,Sk,rfl,hmw,hnk,HB,HT,HK,HE,HL⟩:=hrel
  generalize gk=mw at *
  have hmwl:mw≤1000:=by omega
  have HMW:=hid hmw
  obtain⟨wA,wc,hwv⟩:=row_slice HB.out.wait
  have hXM:Xk.M.length=mw:=by rw[HB.out.wlen,hmw]
  rw[hXM] at hwv
  have HXM:=hid hXM
  have HWV:=hid hwv
  have HRow:=hid (show RowGr wr wA Xk.M from RowGr.own (c:=wc) (by have:=HB.out.wait;rw[hwv,←hXM] at this;exact this))
  have p1:wr.cell? ⟨P,1,none⟩=some (.slice wA mw wc):=by rw[HB.out.cell,hwv];rfl
  clear hwv hmw hXM
  generalize wr=wo at *
  go_wp2
  go_loopg [4,13] mw (fun g2 c i wx=>∃(k:Nat) (z:Int),k+g2=mw∧i= .int .i64 k∧c= .int .i64 z∧Hid (z=bestI (bestN bk.v bk.wait k))∧Hid (Below wo.heap.size wo wx))
  case atStart=>exact⟨0,-1,by omega,rfl,rfl,hid rfl,hid (Below.refl _ _)⟩
  case round=>
   obtain⟨k,z,hkg,rfl,rfl,HZ,HBx⟩:=hrel
   have HBk:=hid (HB.out.below HBx.out)
   by_cases hlt:k<mw
   ·obtain⟨g3,rfl⟩:∃g3,gk=g3+1:=⟨gk-1,by omega⟩
    obtain⟨rb,ro,rfl,hrb,hrange⟩:=RowGr.range (RowGr.below HRow.out HBx.out) (k:=k) (by rw[HXM.out];exact hlt)
    have i1:(0:Int)≤(k:Int):=by omega
    have i2:(k:Int)<(mw:Int):=by omega
    obtain⟨p,hp⟩:∃p,p=Xk.M.getD k gp0:=⟨_,rfl⟩
    have HGp:=hid (show GrG wr Sk p by rw[hp];exact HBk.out.good _ (List.mem_append.2 (.inr (getD_memP (by rw[HXM.out];exact hlt)))))
    have HPW:=hid (show p.1=bk.wait.getD k gz by rw[hp];exact getD_fst _ _ HBk.out.wl k)
    have HDL:=hid (show p.1.deps.length≤1000 from chk_dl (HK.out.chk _ (by rw[HPW.out];exact List.mem_append.2 (.inr (getD_mem (by rw[HMW.out];exact hlt))))))
    rw[←hp] at hrange
    clear hp
    obtain⟨ga,x⟩:=p
    obtain⟨rdy,hrdy⟩:∃b,b=readyB bk.v ga:=⟨_,rfl⟩
    have HRDc:=hid (show ∀W,Below wr.heap.size wr W→Calls Tryz.prog 50 #[.pointer (some ⟨P,0,none⟩),.agg (grA ga x.dA x.dc x.oA x.oc)] W fun e w'=>e= .returned (.bool rdy)∧Below W.heap.size W w' from fun W hB=>by rw[hrdy];exact bxready_any (HBk.out.below hB) ga x (HGp.out.agr (Agr.below hB)) HDL.out)
    have HST:=hid (show bestN bk.v bk.wait (k+1)=if rdy && behB bk.wait ga (bestN bk.v bk.wait k) then some k else bestN bk.v bk.wait k by rw[hrdy,show ga=bk.wait.getD k gz from HPW.out];rfl)
    clear hrdy HDL
    obtain⟨⟨t,r⟩,n,u,⟨ut,ur⟩,ops⟩:=ga
    obtain⟨dA,dc,oA,oc⟩:=x
    have HRG:=hid (show wr.rangeAt rb (ro+k*7) [.int .i64 t,.int .i64 r,.int .i64 n,.slice dA u.length dc,.int .i64 ut,.int .i64 ur,.slice oA ops.length oc] from hrange)
    have HRD2:Hid (∀W,Below wr.heap.size wr W→Calls Tryz.prog 50 #[.pointer (some ⟨P,0,none⟩),.agg #[.int .i64 t,.int .i64 r,.int .i64 n,.slice dA u.length dc,.int .i64 ut,.int .i64 ur,.slice oA ops.length oc]] W fun e w'=>e= .returned (.bool rdy)∧Below W.heap.size W w'):=HRDc
    clear hrange HRDc
    go_upto_region 6 with(first
     |(refine wpList_load_mid rfl _ _ rfl rb (ro+k*7) rfl [.int .i64 t,.int .i64 r,.int .i64 n,.slice dA u.length dc,.int .i64 ut,.int .i64 ur,.slice oA ops.length oc] _ HRG.out Tryz.underlying45 rfl (by kernel_rfl) ?_)
     |(refine store_last rfl _ _ _ rfl _ _ _ _ rfl ?_ rfl ?_ ?_ ?_ ?_;(focus(simp;done));kernel_rfl;rfl;rfl))
    have hba:Below wr.heap.size wr (wr.alloc (.cells #[.int .i64 t,.int .i64 r,.int .i64 n,.slice dA u.length dc,.int .i64 ut,.int .i64 ur,.slice oA ops.length oc] 45)):=(Below.refl _ _).alloc (Nat.le_refl _) _
    have HC:=hid (heap_alloc_new wr (.cells #[.int .i64 t,.int .i64 r,.int .i64 n,.slice dA u.length dc,.int .i64 ut,.int .i64 ur,.slice oA ops.length oc] 45))
    generalize hW:wr.alloc (.cells #[.int .i64 t,.int .i64 r,.int .i64 n,.slice dA u.length dc,.int .i64 ut,.int .i64 ur,.slice oA ops.length oc] 45)=W at *
    clear hW
    have HBA:=hid hba
    have HOW:=hid ((HBk.out.below hba).cell 1)
    clear hba
    have x0:=rg0 HC.out
    have x1:=rg1 HC.out
    have x2:=rg2 HC.out
    have x3:=rg3 HC.out
    have x4:=rg4 HC.out
    have x5:=rg5 HC.out
    have x6:=rg6 HC.out
    have cA:=fun d os=>Calls.regrown_of (HRD2.out (grow (redrawn W d) os) (bx_grow HBA.out HBA.out.size d os))
    have HBW:=hid (HBx.out.trans (HBA.out.mono HBx.out.size))
    cases rdy with
    |false=>
     refine rqb ?_
     repeat(any_goals(first|go_big_quiet_step (with_reducible exact cA _ _)|quiet_step (with_reducible exact cA _ _)))
     refine qz fun wq hBq=> ?_
     go_wp2
     go_roundg g3
     case measure=>omega
     case rel=>exact⟨k+1,z,by omega,by go_num,rfl,hid (by rw[HST.out];simpa using HZ.out),hid (HBW.out.trans (hBq.mono HBW.out.size))⟩
    | true=>
     cases hbn:bestN bk.v bk.wait k with
     |none=>
      obtain rfl:z= -1:=by rw[HZ.out,hbn];rfl
      rw[hbn] at HST
      refine rqb ?_
      repeat(any_goals(first|go_big_quiet_step (with_reducible exact cA _ _)|quiet_step (with_reducible exact cA _ _)))
      refine qz fun wq hBq=> ?_
      go_wp2
      go_roundg g3
      case measure=>omega
      case rel=>exact⟨k+1,(k:Int),by omega,by go_num,rfl,hid (by rw[HST.out];simp[behB,bestI]),hid (HBW.out.trans (hBq.mono HBW.out.size))⟩
     | some j=>
      obtain rfl:z=(j:Int):=by rw[HZ.out,hbn];rfl
      rw[hbn] at HST
      have hjk:=(bestN_lt hbn).1
      obtain⟨rb2,ro2,he2,hrb2,hrange2⟩:=RowGr.range (RowGr.below HRow.out HBW.out) (k:=j) (by rw[HXM.out];omega)
      cases he2
      obtain⟨q,hq⟩:∃q,q=Xk.M.getD j gp0:=⟨_,rfl⟩
      have HQW:=hid (show q.1=bk.wait.getD j gz by rw[hq];exact getD_fst _ _ HBk.out.wl j)
      rw[←hq] at hrange2
      clear hq hbn
      obtain⟨gb,y⟩:=q
      obtain⟨⟨t2,r2⟩,n2,u2,⟨ut2,ur2⟩,ops2⟩:=gb
      obtain⟨dA2,dc2,oA2,oc2⟩:=y
      have y0:=cell_regrown (w:=W) (a:=⟨rb,ro+j*7,none⟩) (v:= .int .i64 t2) (hrange2 0 _ rfl)
      have y1:=cell_regrown (w:=W) (a:=⟨rb,ro+j*7+1,none⟩) (v:= .int .i64 r2) (hrange2 1 _ rfl)
      have pp:=cell_regrown (w:=W) (a:=⟨P,1,none⟩) (v:= .slice (some ⟨rb,ro,none⟩) mw wc) (by rw[HOW.out,HWV.out];rfl)
      have i3:(0:Int)≤(j:Int):=by omega
      have i4:(j:Int)<(mw:Int):=by omega
      have i5:¬(j:Int)<0:=by omega
      have i6:decide ((j:Int)<0)=false:=decide_eq_false i5
      obtain⟨zc,hzc⟩:∃zc,zc=cmpS (⟨t,r⟩:Gst) ⟨t2,r2⟩:=⟨_,rfl⟩
      have HLT:=hid (show decide (zc<0)=(⟨t,r⟩:Gst).lt ⟨t2,r2⟩ by rw[hzc];exact cmpS_lt _ _)
      have cC:=fun d os=>Calls.regrown_of (show Calls Tryz.prog 93 #[.agg #[.int .i64 t,.int .i64 r],.agg #[.int .i64 t2,.int .i64 r2]] (grow (redrawn W d) os) fun e w'=>e= .returned (.int .i64 zc)∧Below (grow (redrawn W d) os).heap.size (grow (redrawn W d) os) w' by rw[hzc];exact cmp_any t r t2 r2 _)
      have HBH:=hid (show behB bk.wait ⟨⟨t,r⟩,n,u,⟨ut,ur⟩,ops⟩ (some j)=(⟨t,r⟩:Gst).lt ⟨t2,r2⟩ by show(⟨t,r⟩:Gst).lt (bk.wait.getD j gz).s=_;rw[←HQW.out])
      clear hzc hrange2
      by_cases hz0:zc<0
      ·have hz1:decide (zc<0)=true:=decide_eq_true hz0
       have HY:=hid (show behB bk.wait ⟨⟨t,r⟩,n,u,⟨ut,ur⟩,ops⟩ (some j)=true by rw[HBH.out,←HLT.out,hz1])
       refine rqb ?_
       repeat(any_goals(first|go_big_quiet_step (with_reducible first|exact cA _ _|exact cC _ _)|quiet_step (with_reducible first|exact cA _ _|exact cC _ _)))
       refine qz fun wq hBq=> ?_
       go_wp2
       go_roundg g3
       case measure=>omega
       case rel=>exact⟨k+1,(k:Int),by omega,by go_num,rfl,hid (by rw[HST.out];rw[HY.out];rfl),hid (HBW.out.trans (hBq.mono HBW.out.size))⟩
      ·have hz1:decide (zc<0)=false:=decide_eq_false hz0
       have HY:=hid (show behB bk.wait ⟨⟨t,r⟩,n,u,⟨ut,ur⟩,ops⟩ (some j)=false by rw[HBH.out,←HLT.out,hz1])
       refine rqb ?_
       repeat(any_goals(first|go_big_quiet_step (with_reducible first|exact cA _ _|exact cC _ _)|quiet_step (with_reducible first|exact cA _ _|exact cC _ _)))
       refine qz fun wq hBq=> ?_
       go_wp2
       go_roundg g3
       case measure=>omega
       case rel=>exact⟨k+1,(j:Int),by omega,by go_num,rfl,hid (by rw[HST.out];rw[HY.out];rfl),hid (HBW.out.trans (hBq.mono HBW.out.size))⟩
   ·have hkm:k=mw:=by omega
    subst hkm
    have i2:¬(k:Int)<(k:Int):=by omega
    have i2d:decide ((k:Int)<(k:Int))=false:=decide_eq_false i2
    cases hbn:bestN bk.v bk.wait k with
    |none=>
     obtain rfl:z= -1:=by rw[HZ.out,hbn];rfl
     have hdr:=drainF_none (f:=bk.wait.length) (b:=bk) (by rw[HMW.out];exact hbn)
     have HR1:=hid (show R=(bk,nk) by rw[HE.out,hdr];simp)
     clear hbn hdr
     go_wp2
     try rw[Exit.noGoto_ret]
     go_ret
     rw[HR1.out]
     exact⟨rfl,Xk,Sk,HBk.out,HT.out.trans (BTo.of_below HBx.out)⟩
    | some j=>
     obtain rfl:z=(j:Int):=by rw[HZ.out,hbn];rfl
     obtain⟨hjk,-⟩:=bestN_lt hbn
     obtain⟨f,hf⟩:∃f,k=f+1:=⟨k-1,by omega⟩
     have HF:=hid hf
     clear hf
     obtain⟨rb,ro,rfl,hrb,hrange⟩:=RowGr.range (RowGr.below HRow.out HBx.out) (k:=j) (by rw[HXM.out];exact hjk)
     have i3:(0:Int)≤(j:Int):=by omega
     have i4:(j:Int)<(k:Int):=by omega
     have i5:¬(j:Int)<0:=by omega
     have i6:decide ((j:Int)<0)=false:=decide_eq_false i5
     obtain⟨p,hp⟩:∃p,p=Xk.M.getD j gp0:=⟨_,rfl⟩
     have HGp:=hid (show GrG wr Sk p by rw[hp];exact HBk.out.good _ (List.mem_append.2 (.inr (getD_memP (by rw[HXM.out];exact hjk)))))
     have HPW:=hid (show p.1=bk.wait.getD j gz by rw[hp];exact getD_fst _ _ HBk.out.wl j)
     have HCK:=hid (show chkB p.1=true from HK.out.chk _ (by rw[HPW.out];exact List.mem_append.2 (.inr (getD_mem (by rw[HMW.out];exact hjk)))))
     rw[←hp] at hrange
     clear hp
     obtain⟨ga,x⟩:=p
     obtain⟨od,hod⟩:∃b,b=oldB bk.v ga:=⟨_,rfl⟩
     have HOD:=hid (show oldB bk.v (bk.wait.getD j gz)=od by rw[hod,show ga=bk.wait.getD j gz from HPW.out])
     have HBN:=hid (show bestN bk.v bk.wait bk.wait.length=some j by rw[HMW.out];exact hbn)
     have hel:(bk.wait.eraseIdx j).length=f:=by rw[List.length_eraseIdx,if_pos (by rw[HMW.out];exact hjk),HMW.out,HF.out];rfl
     have HEL:=hid hel
     have HEM:=hid (show(Xk.M.eraseIdx j).map Prod.fst=bk.wait.eraseIdx j by rw[←HBk.out.wl];exact map_erase _ _ _)
     clear hbn hel
     obtain⟨GA,hGA⟩:∃l,l=grL ga x:=⟨_,rfl⟩
     have hGA7:GA.length=7:=by rw[hGA];rfl
     have HGA:=hid hGA
     have HGA7:=hid hGA7
     have HG1:=hid (show GA.toArray.toList.all (·.oneCell')=true by rw[hGA];rfl)
     rw[←hGA] at hrange
     have HRG:=hid hrange
     clear hGA hGA7 hrange hod
     have HINF:=hid (show(Tryz.prog.info? 45).map (·.size)=some GA.length by rw[HGA7.out];kernel_rfl)
     have pp:wr.cell? ⟨P,1,none⟩=some (.slice (some ⟨rb,ro,none⟩) k wc):=by rw[HBk.out.cell,HWV.out];rfl
     go_upto_region 12 with(first
      |(refine wpList_load_mid rfl _ _ rfl rb (ro+j*7) rfl GA _ HRG.out Tryz.underlying45 rfl HINF.out ?_)
      |(refine store_last rfl _ _ _ rfl _ _ _ _ rfl ?_ rfl HINF.out ?_ HG1.out ?_;(focus(simp;done));(focus(simp[HGA7.out];done))))
     have hba:Below wr.heap.size wr (wr.alloc (.cells GA.toArray 45)):=(Below.refl _ _).alloc (Nat.le_refl _) _
     have HCW:=hid (heap_alloc_new wr (.cells GA.toArray 45))
     generalize hW:wr.alloc (.cells GA.toArray 45)=W at *
     clear hW
     have HXW:=hid (HBk.out.below hba)
     have HTW:=hid ((HT.out.trans (BTo.of_below HBx.out)).trans (BTo.of_below hba))
     have HGW:=hid (HGp.out.agr (Agr.below hba))
     have hwW:wr.heap.size<W.heap.size:=lt_of_block HCW.out
     have HOL:=hid (fun q hq=>(HBk.out.own_lt (k:=q) hq).2)
     have pw:W.cell? ⟨P,1,none⟩=some (.slice (some ⟨rb,ro,none⟩) k wc):=by rw[HXW.out.cell,HWV.out];rfl
     have HDLc:=hid (show Calls Tryz.prog 100 #[.slice (some ⟨rb,ro,none⟩) k wc,.int .i64 (j:Int),.int .i64 ((j:Int)+1)] W fun e w'=>∃wv',e= .returned wv'∧w'.ownsRow B 45 7 wv' (Xk.M.eraseIdx j).length ((Xk.M.eraseIdx j).flatMap grC_)∧W.grownBy w' Xk.wv.ownBlock∧wv'.ownBlock=Xk.wv.ownBlock by
      have:=bxdelete_any (B:=B) (wv:=Xk.wv) (M:=Xk.M) (w:=W) j HXW.out.wait (by rw[HXM.out];exact hjk) (by rw[HXM.out];omega)
      rw[HWV.out] at this ⊢
      exact this)
     clear hba pp
     go_wp2_with fail
     refine HDLc.out.mono ?_
     rintro e w5 ⟨wv',rfl,hO5,hg5,hat5⟩
     obtain⟨A5,c5,rfl⟩:=row_slice hO5
     have hPw:some P≠Xk.wv.ownBlock:=fun e=>HXW.out.wP e.symm
     have hob:=(hg5.block P (lt_of_block HXW.out.obj) hPw).trans HXW.out.obj
     have q5:w5.cell? ⟨P,1,none⟩=some (.slice (some ⟨rb,ro,none⟩) k wc):=by rw[crw hob,HWV.out];rfl
     have f5:w5.frozen? ⟨P,1,none⟩=false:=frozen_of_row _ _ _ _ _ hob
     have HC5:=hid ((hg5.block wr.heap.size hwW (fun e=>by have:=HOL.out _ (.inr (.inr (.inr e.symm)));omega)).trans HCW.out)
     have HPP:=hid (HOL.out P (.inl rfl))
     have HPUT:=hid (HXW.out.wset (Below.refl _ _) hg5 hO5 (.inl hat5) (fun p hp=>HXW.out.good p (List.mem_append.2 (.inr (List.eraseIdx_subset hp)))))
     clear hO5 hg5 hat5 hPw hob
     go_upto_region 13 with fail
     have HC6:=hid ((Below.heap_setCell w5 ⟨P,1,none⟩ (.slice A5 (Xk.M.eraseIdx j).length c5) wr.heap.size (by show wr.heap.size≠P;have:=HPP.out;omega)).trans HC5.out)
     obtain⟨hX6,hT6⟩:=HPUT.out
     rw[HEM.out] at hX6
     generalize hV:w5.setCell ⟨P,1,none⟩ (.slice A5 (Xk.M.eraseIdx j).length c5)=V at *
     clear hV q5 f5 HPUT HC5
     generalize hXe:({ Xk with wv:= .slice A5 (Xk.M.eraseIdx j).length c5,M:=Xk.M.eraseIdx j }:BoxX)=X2 at *
     clear hXe
     have HX6:=hid hX6
     have HT6:=hid (HTW.out.trans hT6)
     have HG6:=hid (HGW.out.agr (hT6.gr.agr (fun i _ hs=>(HXW.out.sep i hs).2)))
     clear hX6 hT6
     have HOLD:=hid (bxold_any (S2:=Sk) HX6.out ga x)
     have HAG:=hid (show GA.toArray=grA ga x.dA x.dc x.oA x.oc by rw[HGA.out];rfl)
     rw[←HAG.out] at HOLD
     have HGOLD:=hid (show Calls Tryz.prog 95 #[.pointer (some ⟨P,0,none⟩),.agg GA.toArray] V fun e w'=>e= .returned (.bool od)∧Below V.heap.size V w' by have h1:=HOLD.out;rw[show oldB bk.v ga=od from by rw[show ga=bk.wait.getD j gz from HPW.out];exact HOD.out] at h1;exact h1)
     clear HOLD
     cases od with
     | true=>
      have hdr:=drainF_old (f:=f) HBN.out HOD.out
      go_wp2_with (first
       |(refine load_at rfl _ _ rfl wr.heap.size _ _ _ rfl HC6.out Tryz.underlying45 rfl HINF.out ?_)
       |(go_at_call 95;refine HGOLD.out.mono ?_;rintro e w7 ⟨rfl,hB7⟩))
      go_roundg f
      case measure=>have:=HF.out;omega
      case rel=>exact⟨⟨bk.done,bk.wait.eraseIdx j,bk.v⟩,nk,X2,Sk,rfl,HEL.out,by have:=HF.out;omega,hid (HX6.out.below hB7),hid (HT6.out.trans (BTo.of_below hB7)),hid (HK.out.drop j),hid (by rw[HE.out,HMW.out,HF.out,hdr];show _=((drainF (bk.wait.eraseIdx j).length _).1,_);rw[HEL.out]),hid (by have h1:=HL.out;show bk.done.length+(bk.wait.eraseIdx j).length≤1000000;rw[HEL.out];rw[HMW.out] at h1;have:=HF.out;omega)⟩
     | false=>
      have hdr:=drainF_put (f:=f) HBN.out HOD.out
      have HKS:=hid (HK.out.step HBN.out HOD.out)
      have HDEc:=hid (show ∀W7,Below V.heap.size V W7→Calls Tryz.prog 51 #[.pointer (some ⟨P,0,none⟩),.agg GA.toArray] W7 fun e w'=>e= .returned (.tuple #[])∧∃X' S',BoxIn B P S' (bk.done++[ga]) (bk.done++[ga]) (bk.wait.eraseIdx j) (withV bk.v ga.s.r ga.n) X' w'∧BTo P X2 Sk W7 X' S' w' from fun W7 hB=>by
       rw[HAG.out]
       exact bxdeliver_any (HX6.out.below hB) ga x (HG6.out.agr (Agr.below hB)) (chk_right HCK.out).1 (by have:=HL.out;omega) (by have:=HL.out;omega))
      go_wp2_with (first
       |(refine load_at rfl _ _ rfl wr.heap.size _ _ _ rfl HC6.out Tryz.underlying45 rfl HINF.out ?_)
       |(refine load_at rfl _ _ rfl wr.heap.size _ _ _ rfl HC7.out Tryz.underlying45 rfl HINF.out ?_)
       |(go_at_call 95;refine HGOLD.out.mono ?_;rintro e w7 ⟨rfl,hB7⟩;have HB7:=hid hB7;have HC7:=hid ((hB7.block wr.heap.size (lt_of_block HC6.out)).trans HC6.out);clear hB7)
       |(go_at_call 51;refine(HDEc.out w7 HB7.out).mono ?_;rintro e w8 ⟨rfl,X8,S8,hX8,hT8⟩))
      go_roundg f
      case measure=>have:=HF.out;omega
      case rel=>exact⟨Bx.put ⟨bk.done,bk.wait.eraseIdx j,bk.v⟩ (bk.wait.getD j gz),nk+1,X8,S8,by go_num,HEL.out,by have:=HF.out;omega,hid (by rw[←show ga=bk.wait.getD j gz from HPW.out];exact hX8),hid ((HT6.out.trans (BTo.of_below HB7.out)).trans hT8),HKS,hid (by rw[HE.out,HMW.out,HF.out,hdr];show _=((drainF (bk.wait.eraseIdx j).length _).1,(drainF (bk.wait.eraseIdx j).length _).2+(nk+1));rw[HEL.out,Nat.add_comm nk 1,←Nat.add_assoc]),hid (by have h1:=HL.out;show(bk.done++[bk.wait.getD j gz]).length+(bk.wait.eraseIdx j).length≤1000000;rw[HEL.out,List.length_append,List.length_singleton];rw[HMW.out] at h1;have:=HF.out;omega)⟩
end
end Go.Proofs.YtkhmicndehlneaaGreatDoor
