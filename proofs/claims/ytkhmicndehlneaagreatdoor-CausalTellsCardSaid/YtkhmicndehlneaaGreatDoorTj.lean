/- Part 10 of the walks and plain laws that this claim uses, joined. Conditions: as each theorem states. -/
import Derived.Test.YtkhmicndehlneaaGreatDoorTi
namespace Go.Proofs.YtkhmicndehlneaaGreatDoor
set_option maxRecDepth 100000
set_option maxHeartbeats 16000000
section
section
open Go.RowKit Go.Lib Go.Sort
set_option linter.unusedVariables false
attribute [local go_sem ↓] Go.wp_at_zero Go.wp_at_succ
theorem clear_elems {P:Program} (w:World) (t e ty:TypeId) (z:Value) (ht:P.underlying t=some (.slice e)) (hv:∀w,(zeroValue e).run P w= .ok z w) (h1:∀v∈z.cells.toList,v.oneCell'=true) (b o c k:Nat)
  (hc:∀j,j<(k+1)*z.cells.size→(w.cell? ⟨b,o+j,none⟩).isSome=true) (hf:∀j,j<(k+1)*z.cells.size→w.frozen? ⟨b,o+j,none⟩=false):
  (Builtin.clear_ #[t] ty #[.slice (some ⟨b,o,none⟩) (k+1) c]).run P w= .ok (.tuple #[]) (w.setCells b o (Builtin.zeroCells z.cells (k+1)).toList):=by
 have hl:(Builtin.zeroCells z.cells (k+1)).toList.length=(k+1)*z.cells.size:=by simp[Builtin.zeroCells]
 have hst:=run_storeCells_cells (P:=P) b o (Builtin.zeroCells z.cells (k+1)).toList 0 w (by rw[hl];simpa using hc) (by rw[hl];simpa using hf) (by
  intro v hv
  simp only[Builtin.zeroCells,Array.toList_map,List.mem_map] at hv
  obtain⟨i,hi,rfl⟩:=hv
  have hi:i<(k+1)*z.cells.size:=by simpa using hi
  have hz:0<z.cells.size:=by
   rcases Nat.eq_zero_or_pos z.cells.size with h0|h0
   ·rw[h0] at hi;simp at hi
   ·exact h0
  have hm:=Nat.mod_lt i hz
  rw[getElem!_pos z.cells _ hm]
  exact h1 _ (by simp))
 simp only[Nat.add_zero] at hst
 simp[Builtin.clear_,run_underlying ht,hv,hst]
def missL (v:List Int) (L:List (Grp×GrX)):List (Grp×GrX):=L.filter (fun p=> !oldB v p.1)
theorem missL_map (v:List Int) (L:List (Grp×GrX)):(missL v L).map Prod.fst=(L.map Prod.fst).filter (fun g=> !oldB v g):=by
 unfold missL
 rw[List.filter_map]
 rfl
theorem missL_succ {v:List Int} {L:List (Grp×GrX)} {k:Nat} (h:k<L.length):missL v (L.take (k+1))=missL v (L.take k)++(if oldB v (L.getD k gp0).1=true then [] else [L.getD k gp0]):=by
 unfold missL
 rw[List.take_add_one,List.filter_append,List.getElem?_eq_getElem h,List.getD_eq_getElem?_getD,List.getElem?_eq_getElem h]
 congr 1
 cases e:oldB v L[k].1<;>simp[e]
theorem missL_all {v:List Int} {L:List (Grp×GrX)} {n:Nat} (h:∀k,k<n→oldB v (L.getD k gp0).1=false) (hn:n≤L.length):missL v (L.take n)=L.take n:=by
 unfold missL
 rw[List.filter_eq_self]
 intro p hp
 obtain⟨k,hk,rfl⟩:=List.mem_iff_getElem.1 hp
 rw[List.length_take] at hk
 have:=h k (by omega)
 rw[List.getD_eq_getElem?_getD,List.getElem?_eq_getElem (by omega)] at this
 rw[List.getElem_take]
 simpa using this
theorem bxmisf_any (a:Grp) (x:GrX) (vb:Nat) (vA:Option Addr) (vc:Nat) (v:List Int) (S:Nat→Prop) (w:World) (hv:v.length≤1000) (hC:w.heap[vb]? =some (.cells #[.slice vA v.length vc] 27 (0,0))) (hV:VecS w S vA v):
  Calls Tryz.prog 62 #[.agg (grA a x.dA x.dc x.oA x.oc),.pointer (some ⟨vb,0,none⟩)] w fun e w'=>e= .returned (.bool (oldB v a))∧Below w.heap.size w w':=by
 obtain⟨⟨⟨t,r⟩,n,u,⟨ut,ur⟩,ops⟩,hg⟩:∃g,g=a:=⟨_,rfl⟩
 subst hg
 obtain⟨dA,dc,oA,oc⟩:=x
 obtain⟨z,hz⟩:∃z,z=atV v r:=⟨_,rfl⟩
 obtain⟨ans,hans⟩:∃b,b=oldB v ⟨⟨t,r⟩,n,u,⟨ut,ur⟩,ops⟩:=⟨_,rfl⟩
 have q1:decide (n≤z)=ans:=by rw[hans,hz];rfl
 rw[←hans]
 have hb0:Below w.heap.size w (w.alloc (.cells #[.int .i64 t,.int .i64 r,.int .i64 n,.slice dA u.length dc,.int .i64 ut,.int .i64 ur,.slice oA ops.length oc] 45)):=(Below.refl _ _).alloc (Nat.le_refl _) _
 have hAT:∀W,Below w.heap.size w W→Calls Tryz.prog 63 #[.slice vA v.length vc,.int .i64 r] W fun e w'=>e= .returned (.int .i64 z)∧Below W.heap.size W w':=fun W hB=>
  (at_any vA vc v r W (by omega) (VecS.vec (show VecS W S vA v from RowG.agr hV (Agr.below hB)))).mono (by rintro e w' ⟨rfl,rfl⟩;exact⟨by rw[hz],Below.refl _ _⟩)
 have HAT:=hid hAT
 have HC:=hid (heap_alloc_new w (.cells #[.int .i64 t,.int .i64 r,.int .i64 n,.slice dA u.length dc,.int .i64 ut,.int .i64 ur,.slice oA ops.length oc] 45))
 have HV:=hid ((hb0.block vb (lt_of_block hC)).trans hC)
 have HB:=hid hb0
 show Calls _ _ #[.agg #[.int .i64 t,.int .i64 r,.int .i64 n,.slice dA u.length dc,.int .i64 ut,.int .i64 ur,.slice oA ops.length oc],.pointer (some ⟨vb,0,none⟩)] _ _
 clear hAT hans hz hV hC
 go_enter Tryz.func62,Tryz.ntmps62
 go_upto_region 1 with fail
 generalize hW:w.alloc (.cells #[.int .i64 t,.int .i64 r,.int .i64 n,.slice dA u.length dc,.int .i64 ut,.int .i64 ur,.slice oA ops.length oc] 45)=W at *
 clear hW
 have x1:=rg1 HC.out
 have x2:=rg2 HC.out
 have y0:=rg0 HV.out
 have cA:=fun d os=>Calls.regrown_of (HAT.out (grow (redrawn W d) os) (bx_grow HB.out HB.out.size d os))
 refine rqb ?_
 repeat(any_goals(first|go_big_quiet_step (with_reducible exact cA _ _)|quiet_step (with_reducible exact cA _ _)))
 refine qz fun wq hBq=> ?_
 go_wp2
 go_ret
 exact⟨rfl,HB.out.trans (hBq.mono HB.out.size)⟩
def FirstOld (v:List Int) (M:List (Grp×GrX)) (z:Int):Prop:=(z= -1∧missL v M=M)∨∃k:Nat,z=(k:Int)∧k<M.length∧oldB v (M.getD k gp0).1=true∧missL v (M.take k)=M.take k
theorem bxmisix_any (A:Option Addr) (c:Nat) (M:List (Grp×GrX)) (vb:Nat) (vA:Option Addr) (vc:Nat) (v:List Int) (S:Nat→Prop) (w:World) (hl:M.length≤1000000) (hv:v.length≤1000) (hR:RowGr w A M) (hC:w.heap[vb]? =some (.cells #[.slice vA v.length vc] 27 (0,0))) (hV:VecS w S vA v):
  Calls Tryz.prog 118 #[.slice A M.length c,(.func (Fn.func 62) #[] #[.pointer (some ⟨vb,0,none⟩)])] w fun e w'=>(∃z:Int,e= .returned (.int .i64 z)∧FirstOld v M z)∧Below w.heap.size w w':=by
 obtain⟨m,hm⟩:∃m,m=M.length:=⟨_,rfl⟩
 rw[←hm]
 have HR:=hid hR
 have HC:=hid hC
 have HV:=hid hV
 have HM:=hid hm
 have hm63:m≤1000000:=by omega
 have HVL:=hid hv
 clear hR hC hm hl hV hv
 go_enter Tryz.func118,Tryz.ntmps118
 go_wp2
 go_loopw [8] (fun i wr=>∃k:Nat,i= .int .i64 k∧k≤m∧Hid (Below w.heap.size w wr)∧Hid (∀j,j<k→oldB v (M.getD j gp0).1=false)) (fun i _=>m-(RowKit.intOf i).toNat)
 case atStart=>exact⟨0,rfl,Nat.zero_le _,hid (Below.refl _ _),hid (fun j hj=>absurd hj (Nat.not_lt_zero j))⟩
 case round=>
  obtain⟨k,rfl,hk,HB,HK⟩:=hrel
  by_cases hlt:k<m
  ·obtain⟨rb,ro,rfl,hrb,hrange⟩:=RowGr.range (RowGr.below HR.out HB.out) (k:=k) (by rw[←HM.out];exact hlt)
   have i1:(0:Int)≤(k:Int):=by omega
   have i2:(k:Int)<(m:Int):=by omega
   obtain⟨p,hp⟩:∃p,p=M.getD k gp0:=⟨_,rfl⟩
   rw[←hp] at hrange
   obtain⟨a,x⟩:=p
   obtain⟨b,hb⟩:∃b,b=oldB v a:=⟨_,rfl⟩
   have HCL:=hid (bxmisf_any a x vb vA vc v S wr HVL.out ((HB.out.block vb (lt_of_block HC.out)).trans HC.out) (RowG.agr HV.out (Agr.below HB.out)))
   rw[←hb] at HCL
   have HBB:=hid (show oldB v (M.getD k gp0).1=b by rw[←hp,hb])
   clear hb hp
   obtain⟨⟨t,r⟩,n,u,⟨ut,ur⟩,ops⟩:=a
   obtain⟨dA,dc,oA,oc⟩:=x
   have HRG:=hid (show wr.rangeAt rb (ro+k*7) [.int .i64 t,.int .i64 r,.int .i64 n,.slice dA u.length dc,.int .i64 ut,.int .i64 ur,.slice oA ops.length oc] from hrange)
   have HCL2:Hid (Calls Tryz.prog 62 #[.agg #[.int .i64 t,.int .i64 r,.int .i64 n,.slice dA u.length dc,.int .i64 ut,.int .i64 ur,.slice oA ops.length oc],.pointer (some ⟨vb,0,none⟩)] wr fun e w'=>e= .returned (.bool b)∧Below wr.heap.size wr w'):=HCL
   clear hrange HCL
   cases b with
   | true=>
    go_wp2_with (first
     |(refine wpList_load_mid rfl _ _ rfl rb (ro+k*7) rfl [.int .i64 t,.int .i64 r,.int .i64 n,.slice dA u.length dc,.int .i64 ut,.int .i64 ur,.slice oA ops.length oc] _ HRG.out Tryz.underlying45 rfl (by kernel_rfl) ?_)
     |(go_at_call 62;refine HCL2.out.mono ?_;rintro e w2 ⟨rfl,hB2⟩))
    have HB2:=hid (HB.out.trans (hB2.mono HB.out.size))
    clear hB2
    go_ret
    exact⟨⟨(k:Int),rfl,.inr ⟨k,rfl,by rw[←HM.out];exact hlt,HBB.out,missL_all HK.out (by rw[←HM.out];exact hk)⟩⟩,HB2.out⟩
   | false=>
    have HK2:=hid (show ∀j,j<k+1→oldB v (M.getD j gp0).1=false from fun j hj=>if h:j<k then HK.out j h else (by(obtain rfl:j=k:=(by omega));exact HBB.out))
    go_wp2_with (first
     |(refine wpList_load_mid rfl _ _ rfl rb (ro+k*7) rfl [.int .i64 t,.int .i64 r,.int .i64 n,.slice dA u.length dc,.int .i64 ut,.int .i64 ur,.slice oA ops.length oc] _ HRG.out Tryz.underlying45 rfl (by kernel_rfl) ?_)
     |(go_at_call 62;refine HCL2.out.mono ?_;rintro e w2 ⟨rfl,hB2⟩))
    have HB2:=hid (HB.out.trans (hB2.mono HB.out.size))
    clear hB2
    exact⟨⟨k+1,by go_num,by omega,HB2,HK2⟩,by simp[RowKit.intOf];omega⟩
  ·obtain rfl:k=m:=by omega
   have i2:¬(k:Int)<(k:Int):=by omega
   go_wp2
   go_ret
   refine⟨⟨-1,by rfl,.inl ⟨rfl,?_⟩⟩,HB.out⟩
   have h9:=missL_all (v:=v) (L:=M) HK.out (by rw[HM.out];exact Nat.le_refl _)
   rw[HM.out,List.take_length] at h9
   exact h9
end
section
open Go.RowKit Go.Lib Go.Sort
set_option linter.unusedVariables false
attribute [local go_sem ↓] Go.wp_at_zero Go.wp_at_succ
theorem row_put {cur:Array Value} {a m:Nat} {vals F:List Value} (hs:(a+1)*7≤cur.size) (hv:vals.length=7) (ht:cur.toList.take (a*7)=F):(putL cur (a*7) vals).toList.take ((a+1)*7)=F++vals:=by
 have hF:F.length=a*7:=by rw[←ht,List.length_take,Array.length_toList];omega
 apply List.ext_getElem?
 intro i
 rw[List.getElem?_take,Array.getElem?_toList]
 by_cases h:i<(a+1)*7
 ·rw[if_pos h,putL_get _ _ _ _ (by omega)]
  by_cases h2:i<a*7
  ·rw[if_neg (by omega),List.getElem?_append_left (by omega),←ht,List.getElem?_take,if_pos h2,Array.getElem?_toList]
  ·rw[if_pos (by omega),List.getElem?_append_right (by omega),hF]
 ·rw[if_neg h,List.getElem?_eq_none (by rw[List.length_append];omega)]
structure DelAt (g cap a k m:Nat) (v:List Int) (M:List (Grp×GrX)) (w wr:World):Prop where
 row:∃cur,wr.heap[g]? =some (.cells cur 45 (0,0))∧cur.size=cap*7∧cur.toList.take (a*7)=(missL v (M.take k)).flatMap grC_∧∀x,k*7≤x→x<m*7→cur[x]? =(M.flatMap grC_)[x]?
 len:a=(missL v (M.take k)).length
 low:w.grownBy wr (some g)
theorem DelAt.below {g cap a k m:Nat} {v:List Int} {M:List (Grp×GrX)} {w wr w':World} (h:DelAt g cap a k m v M w wr) (hb:Below wr.heap.size wr w'):DelAt g cap a k m v M w w':=by
 obtain⟨cur,h1,h2,h3,h4⟩:=h.row
 exact⟨⟨cur,(hb.block g (lt_of_block h1)).trans h1,h2,h3,h4⟩,h.len,⟨hb.os.trans h.low.os,hb.tape.trans h.low.tape,hb.output.trans h.low.output,Nat.le_trans h.low.size hb.size,fun i hi hn=>(hb.block i (Nat.lt_of_lt_of_le hi h.low.size)).trans (h.low.block i hi hn)⟩⟩
theorem DelAt.range {g cap a k m:Nat} {v:List Int} {M:List (Grp×GrX)} {w wr:World} (h:DelAt g cap a k m v M w wr) (hk:k<m) (hm:m=M.length):wr.rangeAt g (k*7) (grL (M.getD k gp0).1 (M.getD k gp0).2):=by
 obtain⟨cur,h1,h2,h3,h4⟩:=h.row
 intro j y hj
 have hj7:j<7:=(List.getElem?_eq_some_iff.1 hj).1
 rw[crw h1,h4 _ (by omega) (by omega)]
 have hk2:k<M.length:=by omega
 have h9:=flat_get (s:=7) (f:=grC_) (fun _=>rfl) M k j gp0 hk2 hj7
 rw[h9]
 exact hj
theorem DelAt.there {g cap a k m:Nat} {v:List Int} {M:List (Grp×GrX)} {w wr:World} (h:DelAt g cap a k m v M w wr) (hk:a<m) (hm:m≤cap):wr.there g (a*7) 7:=by
 obtain⟨cur,h1,h2,h3,h4⟩:=h.row
 intro j hj
 refine⟨?_,frozen_of_row _ _ _ _ _ h1⟩
 rw[crw h1,Array.getElem?_eq_getElem (by omega)]
 rfl
theorem DelAt.drop {g cap a k m:Nat} {v:List Int} {M:List (Grp×GrX)} {w wr:World} (h:DelAt g cap a k m v M w wr) (hk:k<M.length) (hb:oldB v (M.getD k gp0).1=true):DelAt g cap a (k+1) m v M w wr:=by
 obtain⟨cur,h1,h2,h3,h4⟩:=h.row
 have e:missL v (M.take (k+1))=missL v (M.take k):=by rw[missL_succ hk,if_pos hb,List.append_nil]
 exact⟨⟨cur,h1,h2,by rw[e];exact h3,fun x hx=>h4 x (by omega)⟩,by rw[e];exact h.len,h.low⟩
theorem DelAt.keep {g cap a k m:Nat} {v:List Int} {M:List (Grp×GrX)} {w wr:World} (h:DelAt g cap a k m v M w wr) (hk:k<M.length) (ha:a<k) (hm:m=M.length) (hc:m≤cap) (hb:oldB v (M.getD k gp0).1=false) (vals:List Value) (hv:grL (M.getD k gp0).1 (M.getD k gp0).2=vals):DelAt g cap (a+1) (k+1) m v M w (wr.setCells g (a*7) vals):=by
 subst hv
 obtain⟨cur,h1,h2,h3,h4⟩:=h.row
 have e:missL v (M.take (k+1))=missL v (M.take k)++[M.getD k gp0]:=by rw[missL_succ hk,hb,if_neg (by decide)]
 have hl:(grL (M.getD k gp0).1 (M.getD k gp0).2).length=7:=rfl
 generalize hV:grL (M.getD k gp0).1 (M.getD k gp0).2=vals at *
 have e2:wr.setCells g (a*7) vals=wr.setRow g (putL cur (a*7) vals):=by rw[setCells_put g 45 vals _ cur wr h1]
 rw[e2]
 refine⟨⟨putL cur (a*7) vals,heap_setRow_same _ h1,by rw[putL_size,h2],?_,fun x hx hx2=> ?_⟩,by rw[e,List.length_append,List.length_singleton,←h.len],?_⟩
 ·rw[row_put (m:=m) (by rw[h2];omega) hl h3,e,List.flatMap_append,List.flatMap_singleton]
  congr 1
  exact hV.symm
 ·rw[putL_get _ _ _ _ (by rw[h2,hl];omega),if_neg (by rw[hl];omega)]
  exact h4 x (by omega) hx2
 ·refine⟨h.low.os,h.low.tape,h.low.output,by simpa[World.setRow] using h.low.size,fun i hi hn=> ?_⟩
  have hn:i≠g:=fun e=>hn (by rw[e])
  rw[setRow_other _ _ _ _ hn]
  exact h.low.block i hi (by intro e;injection e with e;exact hn e)
theorem bxdelf_any {B:Nat} (A:Option Addr) (c:Nat) (M:List (Grp×GrX)) (vb:Nat) (vA:Option Addr) (vc:Nat) (v:List Int) (S:Nat→Prop) (w:World) (hO:w.ownsRow B 45 7 (.slice A M.length c) M.length (M.flatMap grC_)) (hl:M.length≤1000000) (hv:v.length≤1000) (hC:w.heap[vb]? =some (.cells #[.slice vA v.length vc] 27 (0,0))) (hV:VecS w S vA v) (hS:∀g,(Value.slice A M.length c).ownBlock=some g→g≠vb∧¬S g):
  Calls Tryz.prog 61 #[.slice A M.length c,(.func (Fn.func 62) #[] #[.pointer (some ⟨vb,0,none⟩)])] w fun e w'=>∃A' c',e= .returned (.slice A' (missL v M).length c')∧w'.ownsRow B 45 7 (.slice A' (missL v M).length c') (missL v M).length ((missL v M).flatMap grC_)∧w.grownBy w' (Value.slice A M.length c).ownBlock:=by
 have HIX:=hid (bxmisix_any A c M vb vA vc v S w hl hv (RowGr.own hO) hC hV)
 obtain⟨m,hm⟩:∃m,m=M.length:=⟨_,rfl⟩
 rw[←hm] at HIX hO hS ⊢
 have HO:=hid hO
 have HC:=hid hC
 have HV:=hid hV
 have HM:=hid hm
 have HS:=hid hS
 have hm63:m≤1000000:=by omega
 have HVL:=hid hv
 clear hO hC hV hm hS hl hv
 go_enter Tryz.func61,Tryz.ntmps61
 go_wp2_with fail
 refine HIX.out.mono ?_
 rintro e w1 ⟨⟨z,rfl,hz⟩,hB1⟩
 have HB1:=hid hB1
 clear HIX hB1
 rcases hz with⟨rfl,hmis⟩|⟨k0,rfl,hk0,hold,hmis⟩
 ·have HMS:=hid hmis
  have HL9:=hid (show(missL v M).length=m by rw[hmis];exact HM.out.symm)
  clear hmis
  go_wp2
  go_ret
  refine⟨A,c,by rw[HL9.out];rfl,?_,gby_below HB1.out⟩
  rw[HL9.out,HMS.out]
  exact HO.out.kept (gby_below (r:=none) HB1.out) (Classical.em _)
 ·have hO1:=HO.out.kept (gby_below (r:=none) HB1.out) (Classical.em _)
  have hkm:k0<m:=by rw[HM.out];exact hk0
  rcases hO1.2 with⟨-,h0⟩|⟨g,cap,cur,hA,hBg,hg,hnc,hcm,hsz,htk⟩
  ·omega
  cases hA
  have hS9:=HS.out g rfl
  have hcap:c≤9223372036854775807:=by unfold maxLen at hcm;omega
  have HD0:=hid (show DelAt g c k0 (k0+1) m v M w w1 from by
   have e:missL v (M.take (k0+1))=M.take k0:=by rw[missL_succ hk0,if_pos hold,List.append_nil,hmis]
   refine⟨⟨cur,hg,hsz,?_,fun x hx hx2=> ?_⟩,by rw[e,List.length_take];omega,gby_below HB1.out⟩
   ·rw[e,flat_take,←htk,List.take_take]
    congr 1;omega
   ·rw[←htk,List.getElem?_take,if_pos hx2,Array.getElem?_toList])
  have HLOW:=hid (show ∀W,w.grownBy W (some g)→VecS W S vA v∧W.heap[vb]? =some (.cells #[.slice vA v.length vc] 27 (0,0)) from fun W hW=>⟨RowG.agr HV.out ⟨hW.size,fun b hb hs=>hW.block b hs (fun e=>by injection e with e;subst e;exact hS9.2 hb)⟩,(hW.block vb (lt_of_block HC.out) (fun e=>by injection e with e;exact hS9.1 e.symm)).trans HC.out⟩)
  have i0:((k0:Int) == -1)=false:=by rw[beq_eq_false_iff_ne];omega
  clear hold hmis hO1 hg hsz htk hS9 HC HV HB1
  go_wp2
  go_loopw [5,6] (fun i j wr=>∃(a k:Nat),i= .int .i64 a∧j= .int .i64 k∧a<k∧k≤m∧Hid (DelAt g c a k m v M w wr)) (fun i j _=>m-(RowKit.intOf j).toNat)
  case atStart=>exact⟨k0,k0+1,rfl,by go_num,by omega,by omega,HD0⟩
  case round=>
   obtain⟨a,k,rfl,rfl,hak,hkm2,HD⟩:=hrel
   by_cases hlt:k<m
   ·have i1:(0:Int)≤(k:Int):=by omega
    have i2:(k:Int)<(m:Int):=by omega
    have i3:(0:Int)≤(a:Int):=by omega
    have i4:(a:Int)<(m:Int):=by omega
    have hkM:k<M.length:=by rw[←HM.out];exact hlt
    have hrange:=HD.out.range hlt HM.out
    obtain⟨p,hp⟩:∃p,p=M.getD k gp0:=⟨_,rfl⟩
    rw[←hp] at hrange
    obtain⟨bg,x⟩:=p
    obtain⟨b,hb⟩:∃b,b=oldB v bg:=⟨_,rfl⟩
    have HBB:=hid (show oldB v (M.getD k gp0).1=b by rw[←hp,hb])
    have HGP:=hid (show grL (M.getD k gp0).1 (M.getD k gp0).2=grL bg x by rw[←hp])
    have HCL:=hid (fun W (hW:Below wr.heap.size wr W)=>bxmisf_any bg x vb vA vc v S W HVL.out (HLOW.out W (HD.out.below hW).low).2 (HLOW.out W (HD.out.below hW).low).1)
    rw[←hb] at HCL
    clear hb hp
    obtain⟨⟨t,r⟩,n,u,⟨ut,ur⟩,ops⟩:=bg
    obtain⟨dA,dc,oA,oc⟩:=x
    have HRG:=hid (show wr.rangeAt g (k*7) [.int .i64 t,.int .i64 r,.int .i64 n,.slice dA u.length dc,.int .i64 ut,.int .i64 ur,.slice oA ops.length oc] from hrange)
    have HCL2:Hid (∀W,Below wr.heap.size wr W→Calls Tryz.prog 62 #[.agg #[.int .i64 t,.int .i64 r,.int .i64 n,.slice dA u.length dc,.int .i64 ut,.int .i64 ur,.slice oA ops.length oc],.pointer (some ⟨vb,0,none⟩)] W fun e w'=>e= .returned (.bool b)∧Below W.heap.size W w'):=HCL
    have HVAL:Hid (grL (M.getD k gp0).1 (M.getD k gp0).2=[.int .i64 t,.int .i64 r,.int .i64 n,.slice dA u.length dc,.int .i64 ut,.int .i64 ur,.slice oA ops.length oc]):=HGP
    clear hrange HCL HGP
    go_upto_region 8 with(first
     |(refine wpList_load_mid rfl _ _ rfl g (k*7) rfl [.int .i64 t,.int .i64 r,.int .i64 n,.slice dA u.length dc,.int .i64 ut,.int .i64 ur,.slice oA ops.length oc] _ HRG.out Tryz.underlying45 rfl (by kernel_rfl) ?_)
     |(refine store_last rfl _ _ _ rfl _ _ _ _ rfl ?_ rfl ?_ ?_ ?_ ?_;(focus(simp;done));kernel_rfl;rfl;rfl))
    have HB2:=hid (show Below wr.heap.size wr (wr.alloc (.cells #[.int .i64 t,.int .i64 r,.int .i64 n,.slice dA u.length dc,.int .i64 ut,.int .i64 ur,.slice oA ops.length oc] 45)) from(Below.refl _ _).alloc (Nat.le_refl _) _)
    have HC2:=hid (heap_alloc_new wr (.cells #[.int .i64 t,.int .i64 r,.int .i64 n,.slice dA u.length dc,.int .i64 ut,.int .i64 ur,.slice oA ops.length oc] 45))
    generalize hW:wr.alloc (.cells #[.int .i64 t,.int .i64 r,.int .i64 n,.slice dA u.length dc,.int .i64 ut,.int .i64 ur,.slice oA ops.length oc] 45)=W at *
    clear hW
    cases b with
    | true=>
     have HD2:=hid (fun W hW=>(HD.out.below hW).drop hkM HBB.out (wr:=W))
     go_wp2_with (first
      |(refine load_at rfl _ _ rfl wr.heap.size _ _ _ rfl HC2.out Tryz.underlying45 rfl ?_ ?_;kernel_rfl)
      |(go_at_call 62;refine(HCL2.out W HB2.out).mono ?_;rintro e w2 ⟨rfl,hB2⟩))
     have HB3:=hid (HB2.out.trans (hB2.mono HB2.out.size))
     clear hB2
     go_roundw
     case rel=>exact⟨a,k+1,rfl,by go_num,by omega,by omega,hid (HD2.out _ HB3.out)⟩
     case measure=>(simp[RowKit.intOf];omega)
    | false=>
     go_upto_region 9 with(first
      |(refine load_at rfl _ _ rfl wr.heap.size _ _ _ rfl HC2.out Tryz.underlying45 rfl ?_ ?_;kernel_rfl)
      |(go_at_call 62;refine(HCL2.out W HB2.out).mono ?_;rintro e w2 ⟨rfl,hB2⟩))
     have HB3:=hid (HB2.out.trans (hB2.mono HB2.out.size))
     have HC3:=hid ((hB2.block _ (lt_of_block HC2.out)).trans HC2.out)
     have HD3:=hid (HD.out.below HB3.out)
     have HALL:=hid (show(#[.int .i64 t,.int .i64 r,.int .i64 n,.slice dA u.length dc,.int .i64 ut,.int .i64 ur,.slice oA ops.length oc]:Array Value).all (·.oneCell')=true by rw[←Array.all_toList];rfl)
     have HINF:=hid (show(Tryz.prog.info? 45).map (·.size)=some (#[.int .i64 t,.int .i64 r,.int .i64 n,.slice dA u.length dc,.int .i64 ut,.int .i64 ur,.slice oA ops.length oc]:Array Value).size by kernel_rfl)
     have HT3:=hid (HD3.out.there (show a<m by omega) hnc)
     have HK3:=hid (show DelAt g c (a+1) (k+1) m v M w (w2.setCells g (a*7) (#[.int .i64 t,.int .i64 r,.int .i64 n,.slice dA u.length dc,.int .i64 ut,.int .i64 ur,.slice oA ops.length oc]:Array Value).toList) from HD3.out.keep hkM hak HM.out hnc HBB.out _ HVAL.out)
     clear hB2
     go_wp2_with (first
      |(refine load_at rfl _ _ rfl wr.heap.size _ _ _ rfl HC3.out Tryz.underlying45 rfl ?_ ?_;kernel_rfl)
      |(refine wpList_store_mid rfl _ _ _ rfl g (a*7) #[.int .i64 t,.int .i64 r,.int .i64 n,.slice dA u.length dc,.int .i64 ut,.int .i64 ur,.slice oA ops.length oc] rfl rfl HT3.out HINF.out HALL.out ?_;generalize w2.setCells g (a*7) (#[.int .i64 t,.int .i64 r,.int .i64 n,.slice dA u.length dc,.int .i64 ut,.int .i64 ur,.slice oA ops.length oc]:Array Value).toList=W3 at HK3 ⊢))
     go_roundw
     case rel=>exact⟨a+1,k+1,by go_num,by go_num,by omega,by omega,HK3⟩
     case measure=>(simp[RowKit.intOf];omega)
   ·obtain rfl:k=m:=by omega
    obtain⟨q,hq⟩:∃q,k-a=q+1:=⟨k-a-1,by omega⟩
    obtain⟨cr,h1,h2,h3,h4⟩:=HD.out.row
    have hlen:=HD.out.len
    rw[HM.out,List.take_length] at hlen h3
    have hzl:(Builtin.zeroCells (.agg #[.int .i64 0,.int .i64 0,.int .i64 0,.slice none 0 0,.int .i64 0,.int .i64 0,.slice none 0 0]:Value).cells (q+1)).toList.length=(q+1)*7:=by simp[Builtin.zeroCells,Value.cells]
    have hclr:∀ty,(Builtin.clear_ #[25] ty #[.slice (some ⟨g,a*7,none⟩) (k-a) (c-a)]).run Tryz.prog wr= .ok (.tuple #[]) (wr.setRow g (putL cr (a*7) (Builtin.zeroCells (.agg #[.int .i64 0,.int .i64 0,.int .i64 0,.slice none 0 0,.int .i64 0,.int .i64 0,.slice none 0 0]:Value).cells (q+1)).toList)):=fun ty=>by
     rw[hq,←setCells_put g 45 _ _ cr wr h1]
     refine clear_elems wr _ 45 ty (.agg #[.int .i64 0,.int .i64 0,.int .i64 0,.slice none 0 0,.int .i64 0,.int .i64 0,.slice none 0 0]) Tryz.underlying25 zeroGr (fun v hv=>oc_of (c:=#[.int .i64 0,.int .i64 0,.int .i64 0,.slice none 0 0,.int .i64 0,.int .i64 0,.slice none 0 0]) rfl v hv) g (a*7) (c-a) q (fun j hj=> ?_) (fun j hj=>frozen_of_row _ _ _ _ _ h1)
     have hj:j<(q+1)*7:=hj
     rw[crw h1,Array.getElem?_eq_getElem (by omega)]
     rfl
    generalize (Builtin.zeroCells (.agg #[.int .i64 0,.int .i64 0,.int .i64 0,.slice none 0 0,.int .i64 0,.int .i64 0,.slice none 0 0]:Value).cells (q+1)).toList=zs at *
    have HFIN:=hid (show(wr.setRow g (putL cr (a*7) zs)).ownsRow B 45 7 (.slice (some ⟨g,0,none⟩) (missL v M).length c) (missL v M).length ((missL v M).flatMap grC_)∧w.grownBy (wr.setRow g (putL cr (a*7) zs)) (some g) from by
     refine⟨⟨lengrC_ _,.inr ⟨g,c,putL cr (a*7) zs,rfl,hBg,heap_setRow_same _ h1,by omega,hcm,by rw[putL_size,h2],?_⟩⟩,?_⟩
     ·rw[←hlen,←h3]
      apply List.ext_getElem?
      intro i
      rw[List.getElem?_take,List.getElem?_take]
      by_cases h:i<a*7
      ·rw[if_pos h,if_pos h,Array.getElem?_toList,Array.getElem?_toList,putL_get _ _ _ _ (by rw[h2,hzl];omega),if_neg (by omega)]
      ·rw[if_neg h,if_neg h]
     ·have hlow:=HD.out.low
      refine⟨hlow.os,hlow.tape,hlow.output,by simpa[World.setRow] using hlow.size,fun i hi hn=> ?_⟩
      have hn2:i≠g:=fun e=>hn (by rw[e])
      rw[setRow_other _ _ _ _ hn2]
      exact hlow.block i hi hn)
    have HCLR:=hid hclr
    have HAL:=hid hlen
    have j1:¬(k:Int)<(k:Int):=by omega
    have j2:(0:Int)≤(a:Int):=by omega
    have j3:(a:Int)≤(k:Int):=by omega
    have j4:(a:Int)≤(c:Int):=by omega
    have j5:¬c=a:=by omega
    have j6:(k:Int)≤(c:Int):=by omega
    clear hclr hlen h1 h2 h3 h4 hzl hq
    go_wp2
    rw[HCLR.out]
    simp only[Result.andThen]
    rw[Oper.upon_value]
    go_wp2
    go_ret
    exact⟨_,_,by rw[←HAL.out];rfl,HFIN.out.1,HFIN.out.2⟩
theorem vec_low {w:World} {S:Nat→Prop} {A:Option Addr} {v:List Int} (h:VecS w S A v):VecS w (fun k=>k<w.heap.size) A v:=RowG.sub h (fun b hb _=>hb)
theorem bxmissing_any {B P:Nat} {S S2:Nat→Prop} {dn mp wt:List Grp} {v:List Int} {X:BoxX} {w:World} (h:BoxIn B P S dn mp wt v X w) (hl:dn.length≤100000) (vA:Option Addr) (vc:Nat) (u:List Int) (hu:u.length≤1000) (hV:VecS w S2 vA u):
  Calls Tryz.prog 27 #[.pointer (some ⟨P,0,none⟩),.slice vA u.length vc] w fun e w'=>∃A' c',e= .returned (.slice A' (missL u X.L).length c')∧w'.ownsRow w.heap.size 45 7 (.slice A' (missL u X.L).length c') (missL u X.L).length ((missL u X.L).flatMap grC_)∧Below w.heap.size w w':=by
 have hb0:Below w.heap.size w (w.alloc (.cells #[.slice vA u.length vc] 27)):=(Below.refl _ _).alloc (Nat.le_refl _) _
 have hs0:(w.alloc (.cells #[.slice vA u.length vc] 27)).heap.size=w.heap.size+1:=by simp
 have hc0:=heap_alloc_new w (.cells #[.slice vA u.length vc] 27)
 have hD:=bxdone_any (h.below hb0) (by omega)
 have hdl:=h.dlen
 have hV1:=RowG.agr (vec_low hV) (Agr.below hb0)
 rw[←hdl] at hD
 clear h
 go_enter Tryz.func27,Tryz.ntmps27
 go_upto_region 1 with fail
 generalize hW:w.alloc (.cells #[.slice vA u.length vc] 27)=W at *
 have HB0:=hid hb0
 have HC0:=hid hc0
 have HS0:=hid hs0
 have HD:=hid hD
 have HV1:=hid hV1
 have HX:=hid (show X.L.length≤1000000 by omega)
 have HU:=hid hu
 clear hW hb0 hc0 hs0 hD hV1 hu hdl hl hV
 go_wp2_with (first
  |(go_at_call 21;refine HD.out.mono ?_;rintro e w2 ⟨A1,c1,rfl,hown,hB2⟩;have HOW:=hid hown;have HB2:=hid hB2;clear hown hB2)
  |(go_at_call 61;refine(bxdelf_any A1 c1 X.L w.heap.size vA vc u (fun k=>k<w.heap.size) w2 HOW.out HX.out HU.out ((HB2.out.block _ (lt_of_block HC0.out)).trans HC0.out) (RowG.agr HV1.out (Agr.below HB2.out)) (fun g e=>by have h8:=(HOW.out.lt g e).1;have h7:=HS0.out;exact⟨by omega,by show ¬g<_;omega⟩)).mono ?_;rintro e w3 ⟨A3,c3,rfl,hown,hgr⟩))
 go_ret
 have h9:=HB2.out.size
 have h8:=HS0.out
 refine⟨A3,c3,rfl,?_,(HB0.out.trans (HB2.out.mono (by omega))).grown hgr (by omega) (fun g e=>by have h7:=(HOW.out.lt g e).1;omega)⟩
 rcases hown.2 with⟨e1,e2⟩|⟨g,cap,cur,e1,e2,e3⟩
 ·exact⟨hown.1,.inl ⟨e1,e2⟩⟩
 ·exact⟨hown.1,.inr ⟨g,cap,cur,e1,by omega,e3⟩⟩
end
end
section
set_option linter.unusedVariables false
theorem drainF_mem:∀(f:Nat) (b:Bx),∀x∈(drainF f b).1.done++(drainF f b).1.wait,x∈b.done++b.wait
 |0,b,x,h=>h
 | f+1,b,x,h=>by
  cases hb:bestN b.v b.wait b.wait.length with
  |none=>rw[drainF_none hb] at h;exact h
  | some k=>
   have hk:=(bestN_lt hb).1
   cases ho:oldB b.v (b.wait.getD k gz) with
   |true=>
    rw[drainF_old hb ho] at h
    have:=drainF_mem f _ x h
    rcases List.mem_append.1 this with h1|h1
    ·exact List.mem_append.2 (.inl h1)
    ·exact List.mem_append.2 (.inr (List.mem_of_mem_eraseIdx h1))
   |false=>
    rw[drainF_put hb ho] at h
    have:=drainF_mem f _ x h
    simp only[Bx.put,List.mem_append,List.mem_singleton] at this
    rcases this with(h1|rfl)|h1
    ·exact List.mem_append.2 (.inl h1)
    ·exact List.mem_append.2 (.inr (getD_mem hk))
    ·exact List.mem_append.2 (.inr (List.mem_of_mem_eraseIdx h1))
theorem hearB_mem (b:Bx) (g:Grp):∀x∈(hearB b g).1.done++(hearB b g).1.wait,x∈b.done++b.wait∨x=g:=by
 intro x
 unfold hearB
 split
 ·exact .inl
 ·split
  ·exact .inl
  ·split
   ·intro h
    have:=drainF_mem _ _ x h
    simp only[Bx.put,List.mem_append,List.mem_singleton] at this
    rcases this with(h1|h1)|h1
    ·exact .inl (List.mem_append.2 (.inl h1))
    ·exact .inr h1
    ·exact .inl (List.mem_append.2 (.inr h1))
   ·split
    ·exact .inl
    ·intro h
     simp only[List.mem_append,List.mem_singleton] at h
     rcases h with h1|h1|h1
     ·exact .inl (List.mem_append.2 (.inl h1))
     ·exact .inl (List.mem_append.2 (.inr h1))
     ·exact .inr h1
end
section
open Go.RowKit Go.Lib Go.Sort
set_option linter.unusedVariables false
theorem own_grP {w w':World} {B E s n:Nat} {v:Value} {xs:List Value} {O:Nat→Prop} (h:w.ownsRow B E s v n xs) (hg:GrB O w w') (hO:∀k,v.ownBlock=some k→¬O k):w'.ownsRow B E s v n xs:=by
 refine⟨h.1,?_⟩
 rcases h.2 with h1|⟨g,cap,cur,rfl,h2,h3,h4⟩
 ·exact .inl h1
 ·exact .inr ⟨g,cap,cur,rfl,h2,(hg.block g (lt_of_block h3) (hO g rfl)).trans h3,h4⟩
theorem map_grP {H:Type} {w w':World} {P:Program} {k b n:Nat} {R:Value→Option (DataW H×List MemPlace)} {D:DataW H} {O:Nat→Prop} (h:w.ownsMap P k R b n D) (hg:GrB O w w') (hO:¬O b):w'.ownsMap P k R b n D:=by
 have hlt:=h.lt
 obtain⟨es,clock,hb,F,hs,hD⟩:=h
 exact⟨es,clock,(hg.block b hlt hO).trans hb,F,hs,hD⟩
theorem BoxIn.grP {B P:Nat} {S O:Nat→Prop} {dn mp wt:List Grp} {v:List Int} {X:BoxX} {w w':World} (h:BoxIn B P S dn mp wt v X w) (hg:GrB O w w') (hO:∀k,Own P X k→¬O k) (hS:∀k,S k→¬O k):BoxIn B P S dn mp wt v X w':=
 have ha:Agr S w w':=hg.agr fun k _ hk=>hS k hk
 ⟨(hg.block P (lt_of_block h.obj) (hO P (.inl rfl))).trans h.obj,own_grP h.done hg (fun k hk=>hO k (.inr (.inr (.inl hk)))),own_grP h.wait hg (fun k hk=>hO k (.inr (.inr (.inr hk)))),h.dl,h.wl,map_grP h.map hg (hO _ (.inr (.inl rfl))),RowG.agr h.vec ha,h.vle,h.vmax,h.vlen,fun p hp=>(h.good p hp).agr ha,h.hP,h.hm,h.pm,h.dP,h.dm,h.wP,h.wm,h.dw,fun k hk=>⟨Nat.lt_of_lt_of_le (h.sep k hk).1 hg.size,(h.sep k hk).2⟩⟩
def RowS (w:World) (S:Nat→Prop) (A:Option Addr) (M:List (Grp×GrX)):Prop:=RowG w S A M.length 7 (fun k j=>(grL (M.getD k gp0).1 (M.getD k gp0).2).getD j undef)∧∀p∈M,GrG w S p
theorem RowS.agr {w w':World} {S:Nat→Prop} {A:Option Addr} {M:List (Grp×GrX)} (h:RowS w S A M) (ha:Agr S w w'):RowS w' S A M:=⟨RowG.agr h.1 ha,fun p hp=>(h.2 p hp).agr ha⟩
theorem RowS.sub {w:World} {S T:Nat→Prop} {A:Option Addr} {M:List (Grp×GrX)} (h:RowS w S A M) (hs:∀b,b<w.heap.size→S b→T b):RowS w T A M:=⟨RowG.sub h.1 hs,fun p hp=>(h.2 p hp).sub hs⟩
structure Pair (B P Q:Nat) (w1:World) (A:Option Addr) (M:List (Grp×GrX)) (a b:Bx) (wr:World):Prop where
 low:Below B w1 wr
 le:B≤wr.heap.size
 box:∃X S Y,BoxIn B P S a.done a.done a.wait a.v X wr∧BoxIn B Q S b.done b.done b.wait b.v Y wr∧(∀k,Own P X k→¬Own Q Y k)∧RowS wr S A M
section
variable {B P Q : Nat} {w1 wr w' : World} {A : Option Addr} {M : List (Grp × GrX)} {a b : Bx}
theorem Pair.swap (h:Pair B P Q w1 A M a b wr):Pair B Q P w1 A M b a wr:=by
 obtain⟨X,S,Y,h1,h2,h3,h4⟩:=h.box
 exact⟨h.low,h.le,Y,S,X,h2,h1,fun k k1 k2=>h3 k k2 k1,h4⟩
theorem Pair.below (h:Pair B P Q w1 A M a b wr) (hb:Below wr.heap.size wr w'):Pair B P Q w1 A M a b w':=by
 obtain⟨X,S,Y,h1,h2,h3,h4⟩:=h.box
 exact⟨h.low.trans (hb.mono h.le),Nat.le_trans h.le hb.size,X,S,Y,h1.below hb,h2.below hb,h3,h4.agr (Agr.below hb)⟩
theorem Pair.row (h:Pair B P Q w1 A M a b wr):RowGr wr A M:=by
 obtain⟨X,S,Y,h1,h2,h3,h4⟩:=h.box
 exact RowG.sub h4.1 fun _ _ _=>trivial
theorem Pair.turn0 {X Y:BoxX} {S:Nat→Prop} (hlow:Below B w1 wr) (hle:B≤wr.heap.size) (h1:BoxIn B P S a.done a.done a.wait a.v X wr) (h2:BoxIn B Q S b.done b.done b.wait b.v Y wr) (h3:∀k,Own P X k→¬Own Q Y k) {A':Option Addr} {c':Nat} {N:List (Grp×GrX)} (hN:∀p∈N,GrG wr S p) (hb:Below wr.heap.size wr w') (ho:w'.ownsRow wr.heap.size 45 7 (.slice A' N.length c') N.length (N.flatMap grC_)):Pair B P Q w1 A' N a b w':=by
 have hs:∀k,S k∨(wr.heap.size≤k∧k<w'.heap.size)→S k∨(k<w'.heap.size∧¬Own P X k):=fun k hk=>hk.imp id fun h5=>⟨h5.2,fun e=>by have:=(h1.own_lt e).2;omega⟩
 have hs2:∀k,S k∨(wr.heap.size≤k∧k<w'.heap.size)→S k∨(k<w'.heap.size∧¬Own Q Y k):=fun k hk=>hk.imp id fun h5=>⟨h5.2,fun e=>by have:=(h2.own_lt e).2;omega⟩
 refine⟨hlow.trans (hb.mono hle),Nat.le_trans hle hb.size,X,fun k=>S k∨(wr.heap.size≤k∧k<w'.heap.size),Y,(h1.below hb).sup (fun k hk=> .inl hk) hs,(h2.below hb).sup (fun k hk=> .inl hk) hs2,h3,?_,fun p hp=>((hN p hp).agr (Agr.below hb)).sub fun k _ hk=> .inl hk⟩
 intro k hk
 obtain⟨b,o,e,-,hb2,hc⟩:=RowGr.own ho k hk
 have h9:=(ho.lt b (by
  rcases ho.2 with⟨e1,e2⟩|⟨g,cap,cur,e1,-⟩
  ·omega
  ·injection e1 with e1;rw[e1] at e;injection e with e;cases e;rw[e1];rfl)).1
 exact⟨b,o,e,.inr ⟨h9,hb2⟩,hb2,hc⟩
theorem Pair.turn (h:Pair B P Q w1 A M a b wr) {A':Option Addr} {c':Nat} {N:List (Grp×GrX)} (hN:∀p∈N,p∈M) (hb:Below wr.heap.size wr w') (ho:w'.ownsRow wr.heap.size 45 7 (.slice A' N.length c') N.length (N.flatMap grC_)):Pair B P Q w1 A' N a b w':=by
 obtain⟨X,S,Y,h1,h2,h3,h4⟩:=h.box
 exact Pair.turn0 h.low h.le h1 h2 h3 (fun p hp=>h4.2 p (hN p hp)) hb ho
theorem Pair.hear (h:Pair B P Q w1 A M a b wr) (hok:BxOk a) (hw:a.wait.length≤100) (hl:a.done.length+a.wait.length≤999999) {p:Grp×GrX} (hp:p∈M) (hT:∀o∈p.1.ops,o.text.size≤1000000) (hTb:Tabs wr):
  Calls Tryz.prog 20 #[.pointer (some ⟨P,0,none⟩),.agg (grA p.1 p.2.dA p.2.dc p.2.oA p.2.oc)] wr fun e w'=>e= .returned (.tuple #[.int .i64 ((hearB a p.1).2.1:Nat),.int .i64 (hearB a p.1).2.2])∧Pair B P Q w1 A M (hearB a p.1).1 b w':=by
 obtain⟨X,S,Y,h1,h2,h3,h4⟩:=h.box
 refine(bxhear_any h1 hok p.1 p.2 (h4.2 p hp) (fun o ho=>by have:=hT o ho;omega) hTb hw hl).mono ?_
 rintro e w' ⟨rfl,X',S',hX',hTo⟩
 have h2':=h2.grP hTo.gr (fun k k1 k2=>h3 k k2 k1) (fun k hk=>(h1.sep k hk).2)
 refine⟨rfl,h.low.trans (hTo.gr.below h.le fun k hk=>(h1.own_lt hk).1),Nat.le_trans h.le hTo.gr.size,X',S',Y,hX',h2'.sup hTo.more (fun k hk=> ?_),fun k hk ho=> ?_,(h4.agr (hTo.gr.agr fun k _ hk=>(h1.sep k hk).2)).sub (fun k _ hk=>hTo.more k hk)⟩
 ·rcases hTo.new k hk with h6|h6
  ·exact .inl h6
  ·exact .inr ⟨h6.2,fun ho=>by have:=(h2.own_lt ho).2;omega⟩
 ·rcases hTo.own k hk with h6|h6
  ·exact h3 k h6 ho
  ·have:=(h2.own_lt ho).2;omega
theorem Pair.vector (h:Pair B P Q w1 A M a b wr):Calls Tryz.prog 28 #[.pointer (some ⟨P,0,none⟩)] wr fun e w'=>∃A' c,e= .returned (.slice A' a.v.length c)∧VecS w' (fun k=>wr.heap.size≤k) A' a.v∧Below wr.heap.size wr w':=by
 obtain⟨X,S,Y,h1,h2,h3,h4⟩:=h.box
 refine(bxvec_any h1).mono ?_
 rintro e w' ⟨A',c,rfl,hv,-,hB⟩
 exact⟨A',c,rfl,hv,hB⟩
theorem Pair.done (h:Pair B P Q w1 A M a b wr) (hl:a.done.length≤1000000):Calls Tryz.prog 21 #[.pointer (some ⟨P,0,none⟩)] wr fun e w'=>∃A' c,e= .returned (.slice A' a.done.length c)∧Below wr.heap.size wr w':=by
 obtain⟨X,S,Y,h1,h2,h3,h4⟩:=h.box
 refine(bxdone_any h1 hl).mono ?_
 rintro e w' ⟨A',c,rfl,-,hB⟩
 exact⟨A',c,rfl,hB⟩
theorem Pair.wait (h:Pair B P Q w1 A M a b wr) (hl:a.wait.length≤1000000):Calls Tryz.prog 22 #[.pointer (some ⟨P,0,none⟩)] wr fun e w'=>∃A' c,e= .returned (.slice A' a.wait.length c)∧Below wr.heap.size wr w':=by
 obtain⟨X,S,Y,h1,h2,h3,h4⟩:=h.box
 refine(bxwait_any h1 hl).mono ?_
 rintro e w' ⟨A',c,rfl,-,hB⟩
 exact⟨A',c,rfl,hB⟩
theorem Pair.missing (h:Pair B P Q w1 A M a b wr) (hl:a.done.length≤100000) (vA:Option Addr) (vc:Nat) {T:Nat→Prop} (u:List Int) (hu:u.length≤1000) (hV:VecS wr T vA u):
  Calls Tryz.prog 27 #[.pointer (some ⟨P,0,none⟩),.slice vA u.length vc] wr fun e w'=>∃(A':Option Addr) (c':Nat) (N:List (Grp×GrX)),e= .returned (.slice A' N.length c')∧N.map Prod.fst=a.done.filter (fun g=> !oldB u g)∧Pair B P Q w1 A' N a b w'∧Below wr.heap.size wr w':=by
 obtain⟨X,S,Y,h1,h2,h3,h4⟩:=h.box
 refine(bxmissing_any h1 hl vA vc u hu hV).mono ?_
 rintro e w' ⟨A',c',rfl,hown,hB⟩
 exact⟨A',c',missL u X.L,rfl,by rw[missL_map,h1.dl],Pair.turn0 h.low h.le h1 h2 h3 (fun p hp=>h1.good p (List.mem_append.2 (.inl (List.mem_filter.1 hp).1))) hB hown,hB⟩
theorem Pair.new {w w1 w2:World} {A:Option Addr} {M:List (Grp×GrX)} (hM:RowS w (fun _=>True) A M) (hw:w1=(w.alloc (.map #[] 0)).alloc (.cells #[.slice none 0 0,.slice none 0 0,.map (some w.heap.size),.slice none 0 0] 89)) (hw2:w2=(w1.alloc (.map #[] 0)).alloc (.cells #[.slice none 0 0,.slice none 0 0,.map (some w1.heap.size),.slice none 0 0] 89)):
  Pair w.heap.size (w.heap.size+1) (w1.heap.size+1) w A M Bx.new Bx.new w2:=by
 have hs1:w1.heap.size=w.heap.size+2:=by rw[hw];simp
 have hb1:Below w.heap.size w w1:=by rw[hw];exact((Below.refl _ _).alloc (Nat.le_refl _) _).alloc (by simp) _
 have hb2:Below w1.heap.size w1 w2:=by rw[hw2];exact((Below.refl _ _).alloc (Nat.le_refl _) _).alloc (by simp) _
 have hX:=(BoxIn.made (S:=fun k=>k<w.heap.size) (B:=w.heap.size) (Nat.le_refl _) (fun k hk=>hk) hw).below hb2
 have hY:=BoxIn.made (S:=fun k=>k<w.heap.size) (B:=w.heap.size) (by omega) (fun k hk=>by have hk:k<w.heap.size:=hk;omega) hw2
 refine⟨hb1.trans (hb2.mono (by omega)),Nat.le_trans (by omega) hb2.size,boxN w,fun k=>k<w.heap.size,boxN w1,hX,hY,fun k h1 h2=> ?_,(hM.sub (T:=fun k=>k<w.heap.size) (fun k hk _=>hk)).agr ((Agr.below (hb1.trans (hb2.mono (by omega)))))⟩
 have l1:k=w.heap.size+1∨k=w.heap.size:=by
  rcases h1 with h|h|h|h
  ·exact .inl h
  ·exact .inr h
  ·cases h
  ·cases h
 have l2:k=w1.heap.size+1∨k=w1.heap.size:=by
  rcases h2 with h|h|h|h
  ·exact .inl h
  ·exact .inr h
  ·cases h
  ·cases h
 omega
end
end
end Go.Proofs.YtkhmicndehlneaaGreatDoor
