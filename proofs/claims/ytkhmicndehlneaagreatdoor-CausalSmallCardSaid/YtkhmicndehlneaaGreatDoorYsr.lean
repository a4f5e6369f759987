/- Part 18 of the walks and plain laws that this claim uses, joined. Conditions: as each theorem states. -/
import Derived.Test.YtkhmicndehlneaaGreatDoorYsq
namespace Go.Proofs.YtkhmicndehlneaaGreatDoor
set_option maxRecDepth 100000
set_option maxHeartbeats 16000000
section
section
open Go.RowKit Go.Lib Go.Sort
set_option linter.unusedVariables false
attribute [local go_sem ↓] Go.wp_at_zero Go.wp_at_succ
theorem rbmissing_any {B P:Nat} {S:Nat→Prop} {dn wt:List Grp} {X:RbX} {w:World} (h:RbIn B P S dn wt X w) (hl:dn.length≤100000) (vA:Option Addr) (vc:Nat) (v:List Int) (hv:v.length≤1000) (hV:VecR w vA v):
  Calls Tryz.prog 117 #[.pointer (some ⟨P,0,none⟩),.slice vA v.length vc] w fun e w'=>∃A' c',e= .returned (.slice A' (missL v X.L).length c')∧w'.ownsRow w.heap.size 45 7 (.slice A' (missL v X.L).length c') (missL v X.L).length ((missL v X.L).flatMap grC_)∧Below w.heap.size w w':=by
 obtain⟨i0,hi,hz0,hz1,hz2⟩:=info_parts infogrC_
 obtain⟨A0,c0,hdv⟩:=row_slice h.done
 have hLl:X.L.length≤100000:=by rw[h.dlen];exact hl
 have HX:=hid h
 have HDV:=hid hdv
 have HV:=hid hV
 clear h hdv hV hl
 go_enter Tryz.func117,Tryz.ntmps117
 go_upto_region 3 with fail
 go_loopw [5,6] (fun o i wr=>∃(k:Nat) (A':Option Addr) (c':Nat) (ln:Nat),k≤X.L.length∧i= .int .i64 k∧o= .slice A' ln c'∧Hid (ln=(missL v (X.L.take k)).length)∧Hid (wr.ownsRow w.heap.size 45 7 (.slice A' ln c') ln ((missL v (X.L.take k)).flatMap grC_))∧Hid (Below w.heap.size w wr)) (fun o i _=>X.L.length-(RowKit.intOf i).toNat)
 case atStart=>exact⟨0,none,0,0,Nat.zero_le _,rfl,rfl,hid rfl,hid (World.ownsRow_nil _ _ _ _),hid (Below.refl _ _)⟩
 case round=>
  obtain⟨k,A',c',ln,hk,rfl,rfl,HLN,HO,HBr⟩:=hrel
  have HXr:=hid (HX.out.below HBr.out)
  have p0:wr.cell? ⟨P,0,none⟩=some (.slice A0 X.L.length c0):=by rw[HXr.out.cell,HDV.out];rfl
  have hsz:=HBr.out.size
  by_cases hlt:k<X.L.length
  ·have i1:(0:Int)≤(k:Int):=by omega
   have i2:(k:Int)<(X.L.length:Int):=by omega
   have hrow:=HXr.out.done
   rw[HDV.out] at hrow
   obtain⟨rb,ro,hA0,hrb,hrange⟩:=RowGr.range (RowGr.own hrow) hlt
   subst hA0
   have HSU:=hid (missL_succ (v:=v) hlt)
   generalize X.L.getD k gp0=p at *
   obtain⟨⟨⟨t,r⟩,n,dv,⟨ut,ur⟩,ops⟩,⟨dA,dc,oA,oc⟩⟩:=p
   obtain⟨z,hz⟩:∃z,z=atV v r:=⟨_,rfl⟩
   obtain⟨od,hod⟩:∃z,z=oldB v ⟨⟨t,r⟩,n,dv,⟨ut,ur⟩,ops⟩:=⟨_,rfl⟩
   have HAT:=hid (fun W (hB:Below w.heap.size w W)=>show Calls Tryz.prog 55 #[.slice vA v.length vc,.int .i64 r] W fun e w'=>e= .returned (.int .i64 z)∧Below W.heap.size W w' from by
    have h9:=refat_any vA vc v r W (by omega) (fun q hq=>by
     obtain⟨a,e1,e2,e3⟩:=HV.out q hq
     exact⟨a,e1,Nat.lt_of_lt_of_le e2 hB.size,(World.cell?_of_block (w:=w) (w':=W) (a:=a.add q) (by rw[show(a.add q).block=a.block from by unfold Addr.add;split<;>rfl];exact hB.block _ e2)).trans e3⟩)
    rw[hz]
    exact h9.mono (by rintro e w' ⟨rfl,rfl⟩;exact⟨rfl,Below.refl _ _⟩))
   have hzo:decide (n≤z)=od:=by rw[hod,hz];rfl
   have HRG:=hid (show wr.rangeAt rb (ro+k*7) [.int .i64 t,.int .i64 r,.int .i64 n,.slice dA dv.length dc,.int .i64 ut,.int .i64 ur,.slice oA ops.length oc] from hrange)
   have HSO:=hid (show missL v (X.L.take (k+1))=missL v (X.L.take k)++(if od=true then [] else [((⟨⟨t,r⟩,n,dv,⟨ut,ur⟩,ops⟩:Grp),(⟨dA,dc,oA,oc⟩:GrX))]) by rw[hod];exact HSU.out)
   have y1:=cell_regrown (w:=wr) (a:=⟨rb,ro+k*7+1,none⟩) (v:= .int .i64 r) (HRG.out 1 _ rfl)
   have y2:=cell_regrown (w:=wr) (a:=⟨rb,ro+k*7+2,none⟩) (v:= .int .i64 n) (HRG.out 2 _ rfl)
   have yp:=cell_regrown p0
   have cA:=fun d os=>Calls.regrown_of (HAT.out (grow (redrawn wr d) os) (bx_grow HBr.out hsz d os))
   have P0:=hid p0
   have hPr:P<wr.heap.size:=lt_of_block HXr.out.obj
   clear hrange hrow hz hod HSU
   cases od with
   |true=>
    have hzg:decide (z<n)=false:=by simp only[decide_eq_true_eq,decide_eq_false_iff_not] at hzo ⊢;omega
    have hzh:¬z<n:=by simpa using hzg
    go_upto_region 5 with fail
    refine rqb ?_
    repeat(any_goals(first|go_big_quiet_step (with_reducible exact cA _ _)|quiet_step (with_reducible exact cA _ _)))
    refine qz fun wq hBq=> ?_
    go_wp2
    go_roundw
    case rel=>exact⟨k+1,A',c',ln,by omega,by go_num,rfl,hid (by rw[HSO.out];simpa using HLN.out),hid (by rw[HSO.out];simpa using HO.out.kept (gby_below (r:=none) hBq) (Classical.em _)),hid (HBr.out.trans (hBq.mono hsz))⟩
    case measure=>(simp[RowKit.intOf];omega)
   |false=>
    have hzg:decide (z<n)=true:=by simp only[decide_eq_true_eq,decide_eq_false_iff_not] at hzo ⊢;omega
    have hzh:z<n:=by simpa using hzg
    have hln:ln≤100000:=by have h9:=missL_len v (X.L.take k);rw[←HLN.out,List.length_take] at h9;omega
    go_upto_region 5 with fail
    refine rqb ?_
    repeat(any_goals(first|go_big_quiet_step (with_reducible exact cA _ _)|quiet_step (with_reducible exact cA _ _)))
    refine qz fun wq hBq=> ?_
    have HRGq:=hid (show wq.rangeAt rb (ro+k*7) [.int .i64 t,.int .i64 r,.int .i64 n,.slice dA dv.length dc,.int .i64 ut,.int .i64 ur,.slice oA ops.length oc] from fun j v hv=>(World.cell?_of_block (w:=wr) (w':=wq) (a:=⟨rb,ro+k*7+j,none⟩) (hBq.block rb hrb)).trans (HRG.out j v hv))
    have p9:wq.cell? ⟨P,0,none⟩=some (.slice (some ⟨rb,ro,none⟩) X.L.length c0):=(World.cell?_of_block (w:=wr) (w':=wq) (a:=⟨P,0,none⟩) (hBq.block P hPr)).trans P0.out
    have HO2:=hid (HO.out.kept (gby_below (r:=none) hBq) (Classical.em _))
    have HBw2:=hid (HBr.out.trans (hBq.mono hsz))
    clear y1 y2 yp cA hBq
    go_wp2_with (first|(refine wpList_load_mid rfl _ _ rfl rb (ro+k*7) rfl [.int .i64 t,.int .i64 r,.int .i64 n,.slice dA dv.length dc,.int .i64 ut,.int .i64 ur,.slice oA ops.length oc] _ HRGq.out Tryz.underlying45 rfl (by kernel_rfl) ?_)|(at_builtin;refine wpList_append_own _ rfl _ _ 25 rfl w.heap.size 45 i0 (.agg #[.int .i64 0,.int .i64 0,.int .i64 0,.slice none 0 0,.int .i64 0,.int .i64 0,.slice none 0 0]) 7 88 Tryz.underlying25 hi hz0 hz1 hz2 rfl (by decide) _ _ _ rfl (by exact HO2.out.alloc _) ⟨wq.heap.size,0,none⟩ 1 1 [.int .i64 t,.int .i64 r,.int .i64 n,.slice dA dv.length dc,.int .i64 ut,.int .i64 ur,.slice oA ops.length oc] rfl rfl (fun j y h=>cellsN wq [.int .i64 t,.int .i64 r,.int .i64 n,.slice dA dv.length dc,.int .i64 ut,.int .i64 ur,.slice oA ops.length oc] 45 j y h) (ocgrC_ (⟨⟨t,r⟩,n,dv,⟨ut,ur⟩,ops⟩,⟨dA,dc,oA,oc⟩)) (by unfold maxLen;omega) (by omega) (by have:=HBw2.out.size;simp;omega) ?_;intro v' w3 hown hgrow hnil))
    obtain⟨A3,c3,rfl⟩:=row_slice hown
    have HO3:=hid (show w3.ownsRow w.heap.size 45 7 (.slice A3 (ln+1) c3) (ln+1) ((missL v (X.L.take (k+1))).flatMap grC_) by rw[HSO.out,if_neg (by decide),List.flatMap_append,List.flatMap_singleton];exact hown)
    have HB3:=hid ((HBw2.out.alloc HBw2.out.size _).grown hgrow (by simp;have:=HBw2.out.size;omega) (fun b hb=>HO.out.lt b hb |>.1))
    clear hown hgrow hnil
    go_roundw
    case rel=>exact⟨k+1,A3,c3,ln+1,by omega,by go_num,rfl,hid (by rw[HSO.out,if_neg (by decide),List.length_append,List.length_singleton,←HLN.out]),HO3,HB3⟩
    case measure=>(simp[RowKit.intOf];omega)
  ·obtain rfl:k=X.L.length:=by omega
   have i2:¬(X.L.length:Int)<(X.L.length:Int):=by omega
   have HO9:=hid (show wr.ownsRow w.heap.size 45 7 (.slice A' ln c') (missL v X.L).length ((missL v X.L).flatMap grC_) by have h9:=HO.out;have h8:=HLN.out;rw[List.take_length] at h9 h8;rw[←h8];exact h9)
   have HL9:=hid (show ln=(missL v X.L).length by have h8:=HLN.out;rw[List.take_length] at h8;exact h8)
   go_wp2
   go_ret
   refine⟨A',c',by rw[←HL9.out];rfl,by rw[←HL9.out];have:=HO9.out;rw[←HL9.out] at this;exact this,HBr.out⟩
end
section
open Go.RowKit Go.Lib Go.Sort
set_option linter.unusedVariables false
attribute [local go_sem ↓] Go.wp_at_zero Go.wp_at_succ
theorem missL_mem {v:List Int} {L:List (Grp×GrX)} {p:Grp×GrX} (h:p∈missL v L):p∈L:=(List.mem_filter.1 h).1
theorem same21_any {B P Q n:Nat} {w1 wr:World} {b:Bx} (h:Two B P Q n w1 b b wr) (hn:n≤99998) (vA:Option Addr) (vc:Nat) (v:List Int) (S3:Nat→Prop) (hv:v.length≤1000) (hV:VecS wr S3 vA v):
  Calls Tryz.prog 60 #[.pointer (some ⟨P,0,none⟩),.pointer (some ⟨Q,0,none⟩),.slice vA v.length vc] wr fun e w'=>e= .returned (.bool true)∧Below wr.heap.size wr w':=by
 obtain⟨X,S,XR,h1,h2,-,-,-⟩:=h.box
 have hlen:=h.lenc
 have hok:=h.okr
 obtain⟨dA,dc,hdv⟩:=row_slice h2.done
 obtain⟨wA,wc,hwv⟩:=row_slice h2.wait
 have hobj:=h2.obj
 have hrd:=h2.done
 have hrw:=h2.wait
 rw[hdv] at hrd
 rw[hwv] at hrw
 rw[hdv,hwv] at hobj
 have hQr:Q<wr.heap.size:=lt_of_block hobj
 have hdl:X.L.map Prod.fst=XR.L.map Prod.fst:=by rw[h1.dl,h2.dl]
 have hwl:X.M.map Prod.fst=XR.M.map Prod.fst:=by rw[h1.wl,h2.wl]
 have hld:=h1.dlen
 have hlw:=h1.wlen
 have hld2:=h2.dlen
 have HQO:=hid hobj
 have HDN:=hid (fun W (hB:Below wr.heap.size wr W)=>show Calls Tryz.prog 21 #[.pointer (some ⟨P,0,none⟩)] W fun e w'=>∃A c,e= .returned (.slice A X.L.length c)∧RowGr w' A X.L∧Below W.heap.size W w' from(bxdone_any (h1.below hB) (by omega)).mono (by rintro e w' ⟨A,c,rfl,h8,h9⟩;exact⟨A,c,by rw[hld],RowGr.own h8,h9⟩))
 have HWT:=hid (fun W (hB:Below wr.heap.size wr W)=>show Calls Tryz.prog 22 #[.pointer (some ⟨P,0,none⟩)] W fun e w'=>∃A c,e= .returned (.slice A X.M.length c)∧RowGr w' A X.M∧Below W.heap.size W w' from(bxwait_any (h1.below hB) (by omega)).mono (by rintro e w' ⟨A,c,rfl,h8,h9⟩;exact⟨A,c,by rw[hlw],RowGr.own h8,h9⟩))
 have HS1:=hid (fun W (hB:Below wr.heap.size wr W) (A:Option Addr) (c:Nat) (hA:RowGr W A X.L)=>show Calls Tryz.prog 15 #[.slice A X.L.length c,.slice dA XR.L.length dc] W fun e w'=>e= .returned (.bool true)∧Below W.heap.size W w' from sameall_any X.L XR.L A dA c dc S _ W (by omega) hA (fun p hp=>(h1.below hB).good p (List.mem_append.2 (.inl hp))) ((RowGr.own hrd).below hB) (fun p hp=>(h2.below hB).good p (List.mem_append.2 (.inl hp))) hdl)
 have HS2:=hid (fun W (hB:Below wr.heap.size wr W) (A:Option Addr) (c:Nat) (hA:RowGr W A X.M)=>show Calls Tryz.prog 15 #[.slice A X.M.length c,.slice wA XR.M.length wc] W fun e w'=>e= .returned (.bool true)∧Below W.heap.size W w' from sameall_any X.M XR.M A wA c wc S _ W (by omega) hA (fun p hp=>(h1.below hB).good p (List.mem_append.2 (.inr hp))) ((RowGr.own hrw).below hB) (fun p hp=>(h2.below hB).good p (List.mem_append.2 (.inr hp))) hwl)
 have HVC:=hid (fun W (hB:Below wr.heap.size wr W)=>show Calls Tryz.prog 28 #[.pointer (some ⟨P,0,none⟩)] W fun e w'=>∃A c,e= .returned (.slice A b.v.length c)∧VecR w' A b.v∧Below W.heap.size W w' from(bxvec_any (h1.below hB)).mono (by rintro e w' ⟨A,c,rfl,h8,-,h9⟩;exact⟨A,c,rfl,VecS.vec h8,h9⟩))
 have HRV:=hid (fun W (hB:Below wr.heap.size wr W)=>show Calls Tryz.prog 35 #[.pointer (some ⟨Q,0,none⟩)] W fun e w'=>∃A c,e= .returned (.slice A b.v.length c)∧VecR w' A b.v∧Below W.heap.size W w' from(rbvec_any (h2.below hB) hok).mono (by rintro e w' ⟨A,c,rfl,h8,-,h9⟩;exact⟨A,c,rfl,VecS.vec h8,h9⟩))
 have hvl:=h1.vlen
 have HS3:=hid (fun W (A A':Option Addr) (c c':Nat) (hA:VecR W A b.v) (hA':VecR W A' b.v)=>show Calls Tryz.prog 29 #[.slice A b.v.length c,.slice A' b.v.length c'] W fun e w'=>e= .returned (.bool true)∧Below W.heap.size W w' from(same_any A A' c c' b.v b.v W (by omega) hA hA').mono (by rintro e w' ⟨rfl,h9⟩;exact⟨by rw[decide_eq_true rfl],h9⟩))
 have HMI:=hid (fun W (hB:Below wr.heap.size wr W)=>show Calls Tryz.prog 27 #[.pointer (some ⟨P,0,none⟩),.slice vA v.length vc] W fun e w'=>∃A c,e= .returned (.slice A (missL v X.L).length c)∧RowGr w' A (missL v X.L)∧Below W.heap.size W w' from(bxmissing_any (h1.below hB) (by omega) vA vc v hv (RowG.agr (vec_low hV) (Agr.below hB))).mono (by rintro e w' ⟨A,c,rfl,h8,h9⟩;exact⟨A,c,rfl,RowGr.own h8,h9⟩))
 have HRM:=hid (fun W (hB:Below wr.heap.size wr W)=>show Calls Tryz.prog 117 #[.pointer (some ⟨Q,0,none⟩),.slice vA v.length vc] W fun e w'=>∃A c,e= .returned (.slice A (missL v XR.L).length c)∧RowGr w' A (missL v XR.L)∧Below W.heap.size W w' from(rbmissing_any (h2.below hB) (by omega) vA vc v hv (VecS.vec (RowG.agr (vec_low hV) (Agr.below hB)))).mono (by rintro e w' ⟨A,c,rfl,h8,h9⟩;exact⟨A,c,rfl,RowGr.own h8,h9⟩))
 have hml:=missL_len v X.L
 have HS4:=hid (fun W (hB:Below wr.heap.size wr W) (A A':Option Addr) (c c':Nat) (hA:RowGr W A (missL v X.L)) (hA':RowGr W A' (missL v XR.L))=>show Calls Tryz.prog 15 #[.slice A (missL v X.L).length c,.slice A' (missL v XR.L).length c'] W fun e w'=>e= .returned (.bool true)∧Below W.heap.size W w' from sameall_any (missL v X.L) (missL v XR.L) A A' c c' S _ W (by omega) hA (fun p hp=>(h1.below hB).good p (List.mem_append.2 (.inl (missL_mem hp)))) hA' (fun p hp=>(h2.below hB).good p (List.mem_append.2 (.inl (missL_mem hp)))) (by rw[missL_map,missL_map,hdl]))
 generalize missL v X.L=ML at *
 generalize missL v XR.L=MR at *
 clear h1 h2 hlen hok hdv hwv hobj hrd hrw hdl hwl hld hlw hld2 hvl hml h hV hv
 go_enter Tryz.func60,Tryz.ntmps60
 go_upto_region 1 with fail
 refine wp_region_held (S:=fun w'=>w'.heap[Q]? =some (.cells #[.slice dA XR.L.length dc,.slice wA XR.M.length wc] 65 (0,0))) (by kernel_rfl) ?_
 try(change wpAnyH _ _ _ _ _ _ _ _ (World.drew _))
 refine tk 0 (.pointer (some ⟨P,0,none⟩)) ((show wr.drew.heap[Q]? =_ from HQO.out)) ?_
 go_simp
 refine tk 2 (.pointer (some ⟨Q,0,none⟩)) ((show wr.drew.heap[Q]? =_ from HQO.out)) ?_
 go_simp
 refine tk 3 (.pointer (some ⟨Q,0,none⟩)) ((show wr.drew.heap[Q]? =_ from HQO.out)) ?_
 go_simp
 refine tk 4 (.pointer (some ⟨Q,0,none⟩)) ((show wr.drew.heap[Q]? =_ from HQO.out)) ?_
 go_simp
 refine wpAnyH_take (i:=5) (v:= .slice dA XR.L.length dc) rfl (by kernel_rfl) (by kernel_rfl) (by kernel_rfl) (fun _ _ _ h=>h) (Or.inl ⟨by rfl,fun W' hW'=>by(have c_:W'.cell? ⟨Q,0,none⟩=some (.slice dA XR.L.length dc):=(by rw[crw hW'];rfl);go_simp)⟩) ((show wr.drew.heap[Q]? =_ from HQO.out)) ?_
 go_simp
 have HB0:=hid (show Below wr.heap.size wr wr.drew from⟨rfl,rfl,rfl,Nat.le_refl _,fun _ _=>rfl⟩)
 refine wpAnyH_ready (rs:=[1]) (by kernel_rfl) (by simp) ?_
 refine AllReadyH.cons rfl (fun K hK=> ?_) AllReadyH.nil
 go_simp
 refine(HDN.out wr.drew HB0.out).mono ?_
 rintro e w11 ⟨A1,c1,rfl,hR,hB1⟩
 have HR1:=hid hR
 clear hR
 have HB11:=hid (HB0.out.trans (hB1.mono HB0.out.size))
 have HQ11:=hid ((HB11.out.block Q hQr).trans HQO.out)
 clear hB1
 go_simp
 refine hK.out _ _ (HQ11.out) (fun _=> ?_)
 clear hK K
 refine wpAnyH_ready (rs:=[6]) (by kernel_rfl) (by simp) ?_
 refine AllReadyH.cons rfl (fun K hK=> ?_) AllReadyH.nil
 go_simp
 refine(HS1.out w11 HB11.out A1 c1 HR1.out).mono ?_
 rintro e w12 ⟨rfl,hB2⟩
 have HB12:=hid (HB11.out.trans (hB2.mono HB11.out.size))
 have HQ12:=hid ((HB12.out.block Q hQr).trans HQO.out)
 clear hB2
 go_simp
 refine hK.out _ _ (HQ12.out) (fun _=> ?_)
 clear hK K
 refine tk 7 (.bool true) (HQ12.out) ?_
 go_simp
 refine tk 8 (.pointer (some ⟨P,0,none⟩)) (HQ12.out) ?_
 go_simp
 refine tk 10 (.pointer (some ⟨Q,0,none⟩)) (HQ12.out) ?_
 go_simp
 refine tk 11 (.pointer (some ⟨Q,0,none⟩)) (HQ12.out) ?_
 go_simp
 refine tk 12 (.pointer (some ⟨Q,1,none⟩)) (HQ12.out) ?_
 go_simp
 refine wpAnyH_take (i:=13) (v:= .slice wA XR.M.length wc) rfl (by kernel_rfl) (by kernel_rfl) (by kernel_rfl) (fun _ _ _ h=>h) (Or.inl ⟨by rfl,fun W' hW'=>by(have c_:W'.cell? ⟨Q,1,none⟩=some (.slice wA XR.M.length wc):=(by rw[crw hW'];rfl);go_simp)⟩) (HQ12.out) ?_
 go_simp
 refine wpAnyH_ready (rs:=[9]) (by kernel_rfl) (by simp) ?_
 refine AllReadyH.cons rfl (fun K hK=> ?_) AllReadyH.nil
 go_simp
 refine(HWT.out w12 HB12.out).mono ?_
 rintro e w13 ⟨A2,c2,rfl,hR,hB3⟩
 have HR2:=hid hR
 clear hR
 have HB13:=hid (HB12.out.trans (hB3.mono HB12.out.size))
 have HQ13:=hid ((HB13.out.block Q hQr).trans HQO.out)
 clear hB3
 go_simp
 refine hK.out _ _ (HQ13.out) (fun _=> ?_)
 clear hK K
 refine wpAnyH_ready (rs:=[14]) (by kernel_rfl) (by simp) ?_
 refine AllReadyH.cons rfl (fun K hK=> ?_) AllReadyH.nil
 go_simp
 refine(HS2.out w13 HB13.out A2 c2 HR2.out).mono ?_
 rintro e w14 ⟨rfl,hB4⟩
 have HB14:=hid (HB13.out.trans (hB4.mono HB13.out.size))
 have HQ14:=hid ((HB14.out.block Q hQr).trans HQO.out)
 clear hB4
 go_simp
 refine hK.out _ _ (HQ14.out) (fun _=> ?_)
 clear hK K
 refine tk 15 (.bool true) (HQ14.out) ?_
 go_simp
 refine tk 16 (.bool true) (HQ14.out) ?_
 go_simp
 refine tk 17 (.pointer (some ⟨P,0,none⟩)) (HQ14.out) ?_
 go_simp
 refine tk 19 (.pointer (some ⟨Q,0,none⟩)) (HQ14.out) ?_
 go_simp
 refine wpAnyH_ready (rs:=[18]) (by kernel_rfl) (by simp) ?_
 refine AllReadyH.cons rfl (fun K hK=> ?_) AllReadyH.nil
 go_simp
 refine(HVC.out w14 HB14.out).mono ?_
 rintro e w15 ⟨A3,c3,rfl,hR,hB5⟩
 have HR3:=hid hR
 clear hR
 have HB15:=hid (HB14.out.trans (hB5.mono HB14.out.size))
 have HQ15:=hid ((HB15.out.block Q hQr).trans HQO.out)
 clear hB5
 go_simp
 refine hK.out _ _ (HQ15.out) (fun _=> ?_)
 clear hK K
 refine wpAnyH_ready (rs:=[20]) (by kernel_rfl) (by simp) ?_
 refine AllReadyH.cons rfl (fun K hK=> ?_) AllReadyH.nil
 go_simp
 refine(HRV.out w15 HB15.out).mono ?_
 rintro e w16 ⟨A4,c4,rfl,hR,hB6⟩
 have HR4:=hid hR
 clear hR
 have HB16:=hid (HB15.out.trans (hB6.mono HB15.out.size))
 have HQ16:=hid ((HB16.out.block Q hQr).trans HQO.out)
 have HR3_6:=hid (HR3.out.below hB6)
 clear hB6
 go_simp
 refine hK.out _ _ (HQ16.out) (fun _=> ?_)
 clear hK K
 refine wpAnyH_ready (rs:=[21]) (by kernel_rfl) (by simp) ?_
 refine AllReadyH.cons rfl (fun K hK=> ?_) AllReadyH.nil
 go_simp
 refine(HS3.out w16 A3 A4 c3 c4 HR3_6.out HR4.out).mono ?_
 rintro e w17 ⟨rfl,hB7⟩
 have HB17:=hid (HB16.out.trans (hB7.mono HB16.out.size))
 have HQ17:=hid ((HB17.out.block Q hQr).trans HQO.out)
 clear hB7
 go_simp
 refine hK.out _ _ (HQ17.out) (fun _=> ?_)
 clear hK K
 refine tk 22 (.bool true) (HQ17.out) ?_
 go_simp
 refine tk 23 (.bool true) (HQ17.out) ?_
 go_simp
 refine tk 24 (.pointer (some ⟨P,0,none⟩)) (HQ17.out) ?_
 go_simp
 refine tk 25 (.slice vA v.length vc) (HQ17.out) ?_
 go_simp
 refine tk 27 (.pointer (some ⟨Q,0,none⟩)) (HQ17.out) ?_
 go_simp
 refine tk 28 (.slice vA v.length vc) (HQ17.out) ?_
 go_simp
 refine wpAnyH_ready (rs:=[26]) (by kernel_rfl) (by simp) ?_
 refine AllReadyH.cons rfl (fun K hK=> ?_) AllReadyH.nil
 go_simp
 refine(HMI.out w17 HB17.out).mono ?_
 rintro e w18 ⟨A5,c5,rfl,hR,hB8⟩
 have HR5:=hid hR
 clear hR
 have HB18:=hid (HB17.out.trans (hB8.mono HB17.out.size))
 have HQ18:=hid ((HB18.out.block Q hQr).trans HQO.out)
 clear hB8
 go_simp
 refine hK.out _ _ (HQ18.out) (fun _=> ?_)
 clear hK K
 refine wpAnyH_ready (rs:=[29]) (by kernel_rfl) (by simp) ?_
 refine AllReadyH.cons rfl (fun K hK=> ?_) AllReadyH.nil
 go_simp
 refine(HRM.out w18 HB18.out).mono ?_
 rintro e w19 ⟨A6,c6,rfl,hR,hB9⟩
 have HR6:=hid hR
 clear hR
 have HB19:=hid (HB18.out.trans (hB9.mono HB18.out.size))
 have HQ19:=hid ((HB19.out.block Q hQr).trans HQO.out)
 have HR5_9:=hid (HR5.out.below hB9)
 clear hB9
 go_simp
 refine hK.out _ _ (HQ19.out) (fun _=> ?_)
 clear hK K
 refine wpAnyH_ready (rs:=[30]) (by kernel_rfl) (by simp) ?_
 refine AllReadyH.cons rfl (fun K hK=> ?_) AllReadyH.nil
 go_simp
 refine(HS4.out w19 HB19.out A5 A6 c5 c6 HR5_9.out HR6.out).mono ?_
 rintro e w20 ⟨rfl,hB10⟩
 have HB20:=hid (HB19.out.trans (hB10.mono HB19.out.size))
 have HQ20:=hid ((HB20.out.block Q hQr).trans HQO.out)
 clear hB10
 go_simp
 refine hK.out _ _ (HQ20.out) (fun _=> ?_)
 clear hK K
 refine tk 31 (.bool true) (HQ20.out) ?_
 go_simp
 refine tk 32 (.bool true) (HQ20.out) ?_
 go_simp
 refine wpAnyH_done (by kernel_rfl) ?_ _
 go_simp
 go_wp2
 go_ret
 exact⟨rfl,HB20.out⟩
end
section
open Go.RowKit Go.Lib Go.Sort
set_option linter.unusedVariables false
attribute [local go_sem ↓] Go.wp_at_zero Go.wp_at_succ
theorem range_low {w w':World} {b o:Nat} {cs:List Value} (h:w.rangeAt b o cs) (hb:b<w.heap.size) (hB:Below w.heap.size w w'):w'.rangeAt b o cs:=fun j v hv=>(World.cell?_of_block (w:=w) (w':=w') (a:=⟨b,o+j,none⟩) (hB.block b hb)).trans (h j v hv)
theorem played_any (L:List (Grp×GrX)) (A:Option Addr) (c:Nat) (v:List Int) (vA:Option Addr) (vc:Nat) (w:World) (hl:L.length≤40000) (hR:RowGr w A L) (hG:∀p∈L,GrG w (fun k=>k<w.heap.size) p) (hT:∀p∈L,∀o∈p.1.ops,o.text.size≤1000000) (hCk:∀p∈L,chkB p.1=true) (hv:v.length≤1000) (hV:VecS w (fun k=>k<w.heap.size) vA v) (htab:Tabs w):
  Calls Tryz.prog 26 #[.slice A L.length c,.slice vA v.length vc] w fun e w'=>e= .returned (.bool true)∧Below w.heap.size w w':=by
 have HR:=hid hR
 have HG:=hid hG
 have HT:=hid hT
 have HCKL:=hid hCk
 have HV:=hid hV
 have HVL:=hid hv
 have HTB:=hid htab
 clear hR hG hT hCk hV hv htab
 go_enter Tryz.func26,Tryz.ntmps26
 go_upto_region 4 with(go_at_call 18;refine(bxnew_any w).mono ?_;rintro e w1 ⟨rfl,hw1⟩;have HW1:=hid hw1;clear hw1)
 have hnew:=Two.new (w:=w) (w1:=w1) (w2:=w1.alloc (.cells #[.slice none 0 0,.slice none 0 0] 65)) HW1.out rfl
 generalize hW2:w1.alloc (.cells #[.slice none 0 0,.slice none 0 0] 65)=w2 at *
 clear hW2
 have HN:=hid hnew
 clear hnew HW1
 generalize w1.heap.size=Q at *
 go_wp2
 go_loopw [7] (fun i wr=>∃(j:Nat) (b:Bx),j≤L.length∧i= .int .i64 j∧Hid (Two w.heap.size (w.heap.size+1) Q (2*j) w b b wr)) (fun i _=>L.length-(RowKit.intOf i).toNat)
 case atStart=>exact⟨0,Bx.new,by omega,rfl,HN⟩
 case round=>
  obtain⟨j,b,hj,rfl,HJ⟩:=hrel
  by_cases hlt:j<L.length
  ·have i0:(0:Int)≤(j:Int):=by omega
   have i1:(j:Int)<(L.length:Int):=by omega
   obtain⟨rb,ro,rfl,hrb,hrg⟩:=HR.out.range hlt
   have hm:L.getD j gp0∈L:=by rw[List.getD_eq_getElem?_getD,List.getElem?_eq_getElem hlt];exact List.getElem_mem hlt
   have HE:=hid (HJ.out.hear (by omega) (Nat.le_refl _) (L.getD j gp0) (HG.out _ hm) (HT.out _ hm) (HTB.out.below HJ.out.low))
   have HRH:=hid (fun (W:World) (b1:Bx) (h:Two w.heap.size (w.heap.size+1) Q (2*j+1) w b1 b W)=>h.rhear (by omega) (Nat.le_refl _) (L.getD j gp0) (HG.out _ hm) (HT.out _ hm) (HCKL.out _ hm))
   generalize L.getD j gp0=p at *
   obtain⟨GA,hGA⟩:∃l:List Value,l=grL p.1 p.2:=⟨_,rfl⟩
   rw[show grA p.1 p.2.dA p.2.dc p.2.oA p.2.oc=GA.toArray by rw[hGA];rfl] at HE HRH
   obtain⟨b2,hb2⟩:∃q,q=(hearB b p.1).1:=⟨_,rfl⟩
   obtain⟨nn,hnn⟩:∃q,q=(hearB b p.1).2.1:=⟨_,rfl⟩
   obtain⟨ee,hee⟩:∃q,q=(hearB b p.1).2.2:=⟨_,rfl⟩
   rw[←hb2,←hnn,←hee] at HE HRH
   have HRG:=hid (fun (W:World) (hB:Below w.heap.size w W)=>show W.rangeAt rb (ro+j*7) GA from by rw[hGA];exact range_low hrg hrb hB)
   have HN:=hid (show(Tryz.prog.info? 45).map (·.size)=some GA.length by rw[hGA];kernel_rfl)
   have HRG0:=hid (HRG.out wr HJ.out.low)
   clear hb2 hnn hee hGA hrg hrb hm
   have e1:((nn:Int) != (nn:Int))=false:=bne_self_eq_false _
   have e2:(ee != ee)=false:=bne_self_eq_false _
   go_wp2_with (first
    |(refine wpList_load_mid rfl _ _ rfl rb (ro+j*7) rfl GA _ HRG0.out Tryz.underlying45 rfl HN.out ?_)
    |(refine wpList_load_mid rfl _ _ rfl rb (ro+j*7) rfl GA _ HRG5.out Tryz.underlying45 rfl HN.out ?_)
    |(go_at_call 20;refine HE.out.mono ?_;rintro e w5 ⟨rfl,hT5⟩;have HT5:=hid hT5;have HRG5:=hid (HRG.out w5 hT5.low);clear hT5)
    |(go_at_call 34;refine(HRH.out w5 b2 HT5.out).mono ?_;rintro e w6 ⟨rfl,hT6⟩;have HT6:=hid hT6;clear hT6)
    |(go_at_call 60;refine(same21_any HT6.out (by omega) vA vc v _ HVL.out (RowG.agr HV.out (Agr.below HT6.out.low))).mono ?_;rintro e w7 ⟨rfl,hB7⟩;have HT7:=hid (HT6.out.below HT6.out.low.size hB7);clear hB7))
   go_roundw
   case rel=>exact⟨j+1,b2,by omega,by go_num,HT7⟩
   case measure=>(simp[RowKit.intOf];omega)
  ·obtain rfl:j=L.length:=by omega
   have i1:¬(L.length:Int)<(L.length:Int):=by omega
   have HL9:=hid HJ.out.low
   go_wp2
   go_ret
   exact⟨rfl,HL9.out⟩
end
end
section
open Go.RowKit Go.Lib Go.Sort
set_option linter.unusedVariables false
section
variable {α : Type}
def RowF (w:World) (S:Nat→Prop) (A:Option Addr) (s:Nat) (f:α→List Value) (z:α) (L:List α):Prop:=RowG w S A L.length s (fun k j=>(f (L.getD k z)).getD j undef)
variable {w w' : World} {S T : Nat → Prop} {A : Option Addr} {s : Nat} {f : α → List Value} {z : α} {L : List α}
theorem RowF.range (h:RowF w S A s f z L) (hf:∀x,(f x).length=s) {k:Nat} (hk:k<L.length):∃b o,A=some ⟨b,o,none⟩∧S b∧b<w.heap.size∧w.rangeAt b (o+k*s) (f (L.getD k z)):=by
 obtain⟨b,o,e,hS,hb,hc⟩:=h k hk
 refine⟨b,o,e,hS,hb,fun j v hv=> ?_⟩
 have hj:j<s:=by rw[←hf (L.getD k z)];exact(List.getElem?_eq_some_iff.1 hv).1
 rw[hc j hj]
 show some ((f (L.getD k z)).getD j undef)=some v
 rw[List.getD_eq_getElem?_getD,hv]
 rfl
theorem RowF.agr (h:RowF w S A s f z L) (ha:Agr S w w'):RowF w' S A s f z L:=RowG.agr h ha
theorem RowF.below (h:RowF w S A s f z L) (ha:Below w.heap.size w w'):RowF w' S A s f z L:=RowG.agr h (Agr.below ha)
theorem RowF.sub (h:RowF w S A s f z L) (hs:∀b,b<w.heap.size→S b→T b):RowF w T A s f z L:=RowG.sub h hs
theorem RowF.nil {c:Option Addr}:RowF w S c s f z ([]:List α):=fun k hk=>absurd hk (Nat.not_lt_zero k)
theorem RowF.own {B E:Nat} {c:Nat} (hf:∀x,(f x).length=s) (h:w.ownsRow B E s (.slice A L.length c) L.length (L.flatMap f)):RowF w (fun k=>B≤k) A s f z L:=by
 refine rowG_own h fun k j hk hj=> ?_
 rw[flat_get (s:=s) hf L k j z hk hj]
 have:j<(f (L.getD k z)).length:=by rw[hf];exact hj
 generalize f (L.getD k z)=q at *
 rw[List.getElem?_eq_getElem this,List.getD_eq_getElem?_getD,List.getElem?_eq_getElem this]
 rfl
theorem own_block {B E n c:Nat} {xs:List Value} (h:w.ownsRow B E s (.slice A n c) n xs) (h0:0<n):∃g cur,A=some ⟨g,0,none⟩∧B≤g∧w.heap[g]? =some (.cells cur E (0,0))∧n≤c∧c≤maxLen∧cur.size=c*s∧cur.toList.take (n*s)=xs:=by
 rcases h.2 with⟨e1,e2⟩|⟨g,cap,cur,e1,e2,e3,e4,e5,e6,e7⟩
 ·omega
 ·cases e1
  exact⟨g,cur,rfl,e2,e3,e4,e5,e6,e7⟩
theorem own_range {B E c:Nat} (hf:∀x,(f x).length=s) (h:w.ownsRow B E s (.slice A L.length c) L.length (L.flatMap f)) {k:Nat} (hk:k<L.length) (z:α):∃g,A=some ⟨g,0,none⟩∧B≤g∧g<w.heap.size∧w.rangeAt g (k*s) (f (L.getD k z)):=by
 obtain⟨g,cur,rfl,hB,hg,-,-,hsz,htk⟩:=own_block h (by omega)
 refine⟨g,rfl,hB,lt_of_block hg,fun j v hv=> ?_⟩
 have hj:j<s:=by rw[←hf (L.getD k z)];exact(List.getElem?_eq_some_iff.1 hv).1
 have hlt:k*s+j<L.length*s:=by
  have:(k+1)*s≤L.length*s:=Nat.mul_le_mul_right s hk
  rw[Nat.add_mul,Nat.one_mul] at this;omega
 rw[crw hg,←Array.getElem?_toList]
 have h9:=flat_get (s:=s) hf L k j z hk hj
 rw[←htk,List.getElem?_take,if_pos hlt] at h9
 rw[h9];exact hv
theorem own_there {B E n c:Nat} {xs:List Value} (h:w.ownsRow B E s (.slice A n c) n xs) {k:Nat} (hk:k<n):∃g,A=some ⟨g,0,none⟩∧w.there g (k*s) s:=by
 obtain⟨g,cur,rfl,hB,hg,h1,-,hsz,htk⟩:=own_block h (by omega)
 refine⟨g,rfl,fun j hj=>⟨?_,frozen_of_row _ _ _ _ _ hg⟩⟩
 have hlt:k*s+j<c*s:=by
  have:(k+1)*s≤c*s:=Nat.mul_le_mul_right s (by omega)
  rw[Nat.add_mul,Nat.one_mul] at this;omega
 rw[crw hg,Array.getElem?_eq_getElem (by omega)]
 rfl
theorem putL_size':∀(vs:List Value) (o:Nat) (c:Array Value),(putL c o vs).size=c.size
 | [],_,_=>rfl
 |v::vs,o,c=>by rw[putL,putL_size' vs];simp
theorem putL_get':∀(vs:List Value) (o:Nat) (c:Array Value) (i:Nat),o+vs.length≤c.size→(putL c o vs)[i]? =if o≤i∧i<o+vs.length then vs[i-o]? else c[i]?
 | [],o,c,i,h=>by rw[putL,if_neg (by simp)]
 | v::vs,o,c,i,h=>by
  have hl:(v::vs).length=vs.length+1:=rfl
  rw[putL,putL_get' vs (o+1) _ i (by simp;omega)]
  by_cases h1:o+1≤i∧i<o+1+vs.length
  ·rw[if_pos h1,if_pos (by omega)]
   obtain⟨k,rfl⟩:∃k,i=o+1+k:=⟨i-(o+1),by omega⟩
   rw[show o+1+k-(o+1)=k by omega,show o+1+k-o=k+1 by omega]
   rfl
  ·rw[if_neg h1]
   by_cases h2:i=o
   ·subst h2
    rw[if_pos (by omega),Nat.sub_self,Array.getElem?_setIfInBounds_self_of_lt (by omega)]
    rfl
   ·rw[if_neg (by omega),Array.getElem?_setIfInBounds_ne (fun e=>h2 e.symm)]
theorem own_put {B E c:Nat} (hf:∀x,(f x).length=s) (hs:0<s) {g:Nat} (h:w.ownsRow B E s (.slice (some ⟨g,0,none⟩) L.length c) L.length (L.flatMap f)) {k:Nat} (hk:k<L.length) (y:α):
  (w.setCells g (k*s) (f y)).ownsRow B E s (.slice (some ⟨g,0,none⟩) (L.set k y).length c) (L.set k y).length ((L.set k y).flatMap f)∧w.grownBy (w.setCells g (k*s) (f y)) (some g):=by
 obtain⟨g',cur,e,hB,hg,h1,h2,hsz,htk⟩:=own_block h (by omega)
 cases e
 have hfl:∀M:List α,(M.flatMap f).length=M.length*s:=fun M=>by
  induction M with
  |nil=>simp
  |cons x M ih=>rw[List.flatMap_cons,List.length_append,ih,hf,List.length_cons,Nat.add_mul,Nat.one_mul,Nat.add_comm]
 have hkc:k*s+s≤c*s:=by
  have:(k+1)*s≤c*s:=Nat.mul_le_mul_right s (by omega)
  rw[Nat.add_mul,Nat.one_mul] at this;omega
 rw[setCells_put g E _ _ cur w hg]
 refine⟨⟨by rw[hfl],.inr ⟨g,c,putL cur (k*s) (f y),rfl,hB,heap_setRow_same _ hg,by rw[List.length_set];exact h1,h2,by rw[putL_size',hsz],?_⟩⟩,rfl,rfl,rfl,by simp[World.setRow],fun i _ hn=> ?_⟩
 ·apply List.ext_getElem?
  intro i
  rw[List.getElem?_take,Array.getElem?_toList,List.length_set]
  by_cases hi:i<L.length*s
  ·rw[if_pos hi,putL_get' _ _ _ _ (by rw[hf,hsz];exact hkc),hf]
   have hq:i / s<L.length:=(Nat.div_lt_iff_lt_mul hs).2 hi
   have hd:=Nat.div_add_mod i s
   have hm:=Nat.mod_lt i hs
   have hd2:i=i / s*s+i % s:=by rw[Nat.mul_comm];omega
   have e1:=flat_get (s:=s) hf (L.set k y) (i / s) (i % s) y (by rw[List.length_set];exact hq) hm
   rw[←hd2] at e1
   rw[e1]
   by_cases hik:i / s=k
   ·have hd3:i=k*s+i % s:=by rw[←hik];exact hd2
    rw[if_pos (by omega),hik,List.getD_eq_getElem?_getD,List.getElem?_set_self (by omega)]
    show(f y)[i-k*s]? =(f y)[i % s]?
    congr 1;omega
   ·have hne:¬(k*s≤i∧i<k*s+s):=fun ⟨a,b⟩=>hik (by
     have:=(Nat.div_eq_iff hs).2 ⟨a,by omega⟩
     exact this)
    rw[if_neg hne]
    have e2:=flat_get (s:=s) hf L (i / s) (i % s) y hq hm
    rw[←hd2,←htk,List.getElem?_take,if_pos hi,Array.getElem?_toList] at e2
    rw[e2,List.getD_eq_getElem?_getD,List.getD_eq_getElem?_getD,List.getElem?_set_ne (by omega)]
  ·rw[if_neg hi,List.getElem?_eq_none (by rw[hfl,List.length_set];omega)]
 ·have hn:i≠g:=fun e=>hn (by rw[e])
  exact setRow_other _ _ _ _ hn
theorem flat_len (hf:∀x,(f x).length=s) (M:List α):(M.flatMap f).length=M.length*s:=by
 induction M with
 |nil=>simp
 |cons x M ih=>rw[List.flatMap_cons,List.length_append,ih,hf,List.length_cons,Nat.add_mul,Nat.one_mul,Nat.add_comm]
theorem takeD_succ {L:List α} {k:Nat} (h:k<L.length) (z:α):L.take (k+1)=L.take k++[L.getD k z]:=by
 rw[List.take_add_one,List.getElem?_eq_getElem h,List.getD_eq_getElem?_getD,List.getElem?_eq_getElem h]
 rfl
theorem getD_memF {L:List α} {k:Nat} (h:k<L.length) (z:α):L.getD k z∈L:=by
 rw[List.getD_eq_getElem?_getD,List.getElem?_eq_getElem h];exact List.getElem_mem h
end
section
variable {α : Type} {w : World} {A : Option Addr} {s : Nat} {f : α → List Value} {L : List α}
theorem ownN_range {B E c n:Nat} (hf:∀x,(f x).length=s) (hn:n=L.length) (h:w.ownsRow B E s (.slice A n c) n (L.flatMap f)) {k:Nat} (hk:k<n) (z:α):∃g,A=some ⟨g,0,none⟩∧B≤g∧g<w.heap.size∧w.rangeAt g (k*s) (f (L.getD k z)):=by
 subst hn;exact own_range hf h hk z
theorem ownN_put {B E c n:Nat} (hf:∀x,(f x).length=s) (hs:0<s) (hn:n=L.length) {g:Nat} (h:w.ownsRow B E s (.slice (some ⟨g,0,none⟩) n c) n (L.flatMap f)) {k:Nat} (hk:k<n) (y:α):
  (w.setCells g (k*s) (f y)).ownsRow B E s (.slice (some ⟨g,0,none⟩) n c) n ((L.set k y).flatMap f)∧w.grownBy (w.setCells g (k*s) (f y)) (some g):=by
 subst hn
 have:=own_put hf hs h hk y
 rwa[List.length_set] at this
theorem ownN_rowF {B E c n:Nat} {z:α} (hf:∀x,(f x).length=s) (hn:n=L.length) (h:w.ownsRow B E s (.slice A n c) n (L.flatMap f)):RowF w (fun k=>B≤k) A s f z L:=by
 subst hn;exact RowF.own hf h
end
section
variable {P : Program} {ops : Array Oper} {o : Oper} {a : Act} {w : World} {K : Act → World → Prop} {Q : Exit → Act → World → Prop} {E : Prop}
theorem step_load_mid (hgd:o.guard=none) (ty:TypeId) (x:Operand) (ho:o.op= .load ty x) (b off:Nat) (hx:a.eval x= .pointer (some ⟨b,off,none⟩)) (cs:List Value) (d:TypeDesc) (hc:w.rangeAt b off cs)
  (hu:P.underlying ty=some d) (hd:d.isRow=true) (hi:(P.info? ty).map (·.size)=some cs.length) (h:K (a.put o.dst (.agg cs.toArray)) w):if Region.wanted o (yielded ops a.tmps)=true then Oper.wp P o a w K Q else E:=by
 rw[if_pos (by simp[Region.wanted,hgd])]
 exact wp_load_mid ty x ho b off hx cs d hc hu hd hi h
theorem step_store_mid (hgd:o.guard=none) (ty:TypeId) (x y:Operand) (ho:o.op= .store ty x y) (b off:Nat) (cells:Array Value) (hx:a.eval x= .pointer (some ⟨b,off,none⟩)) (hy:a.eval y= .agg cells)
  (ht:w.there b off cells.size) (hi:(P.info? ty).map (·.size)=some cells.size) (h1:cells.all (·.oneCell')=true) (h:K (a.put o.dst undef) (w.setCells b off cells.toList)):if Region.wanted o (yielded ops a.tmps)=true then Oper.wp P o a w K Q else E:=by
 rw[if_pos (by simp[Region.wanted,hgd])]
 exact wp_store_mid ty x y ho b off cells hx hy ht hi h1 h
end
def slid {α:Type} (L:List α) (x:α) (k:Nat):List α:=L.take k++x::L.drop k
theorem slid_len {α:Type} (L:List α) (x:α) (k:Nat):(slid L x k).length=L.length+1:=by
 unfold slid;rw[List.length_append,List.length_cons,List.length_take,List.length_drop];omega
theorem slid_end {α:Type} (L:List α) (x:α):slid L x L.length=L++[x]:=by unfold slid;rw[List.take_length,List.drop_length]
theorem slid_at {α:Type} {L:List α} {x z:α} {k:Nat} (h:k≤L.length):(slid L x k).getD k z=x:=by
 unfold slid
 rw[List.getD_eq_getElem?_getD,List.getElem?_append_right (by rw[List.length_take];omega),List.length_take,show k-min k L.length=0 by omega]
 rfl
theorem slid_pre {α:Type} {L:List α} {x z:α} {k:Nat} (h:k+1≤L.length):(slid L x (k+1)).getD k z=L.getD k z:=by
 unfold slid
 rw[List.getD_eq_getElem?_getD,List.getElem?_append_left (by rw[List.length_take];omega),List.getElem?_take,if_pos (by omega),List.getD_eq_getElem?_getD]
theorem slid_swap {α:Type} {L:List α} {x z:α} {k:Nat} (h:k+1≤L.length):((slid L x (k+1)).set (k+1) (L.getD k z)).set k x=slid L x k:=by
 apply List.ext_getElem?
 intro i
 have hl:(slid L x (k+1)).length=L.length+1:=slid_len _ _ _
 have e2:L.drop k=L.getD k z::L.drop (k+1):=by
  rw[List.drop_eq_getElem_cons (by omega),List.getD_eq_getElem?_getD,List.getElem?_eq_getElem (by omega)];rfl
 by_cases h1:i=k
 ·subst h1
  rw[List.getElem?_set_self (by rw[List.length_set,hl];omega)]
  unfold slid
  rw[List.getElem?_append_right (by rw[List.length_take];omega),List.length_take,show i-min i L.length=0 by omega]
  rfl
 ·rw[List.getElem?_set_ne (fun e=>h1 e.symm)]
  by_cases h2:i=k+1
  ·subst h2
   rw[List.getElem?_set_self (by rw[hl];omega)]
   unfold slid
   rw[List.getElem?_append_right (by rw[List.length_take];omega),List.length_take,show k+1-min k L.length=1 by omega,e2]
   rfl
  ·rw[List.getElem?_set_ne (fun e=>h2 e.symm)]
   unfold slid
   rcases Nat.lt_or_ge i k with h3|h3
   ·rw[List.getElem?_append_left (by rw[List.length_take];omega),List.getElem?_append_left (by rw[List.length_take];omega),List.getElem?_take,List.getElem?_take,if_pos (by omega),if_pos h3]
   ·rw[List.getElem?_append_right (by rw[List.length_take];omega),List.getElem?_append_right (by rw[List.length_take];omega),List.length_take,List.length_take,e2]
    rw[show i-min (k+1) L.length=(i-k-2)+1 by omega,show i-min k L.length=(i-k-2)+1+1 by omega]
    rfl
structure Dt where
 n:Gid
 b:Gst
structure Plc where
 n:Gid
 p:Gid
 name:ByteArray
 dir:Bool
structure Told where
 a:Gid
 p:Plc
structure Hd where
 s:Gst
 u:Gst
structure Elt where
 id:Gid
 af:Gid
 pc:ByteArray
structure Rn where
 af:Gid
 el:Gid
 tx:ByteArray
structure Itm where
 n:Gid
 path:ByteArray
 dir:Bool
 back:Bool
def dt0:Dt:=⟨.zero,.zero⟩
def plc0:Plc:=⟨.zero,.zero,⟨#[]⟩,false⟩
def told0:Told:=⟨.zero,plc0⟩
def hd0:Hd:=⟨.zero,.zero⟩
def elt0:Elt:=⟨.zero,.zero,⟨#[]⟩⟩
def rn0:Rn:=⟨.zero,.zero,⟨#[]⟩⟩
def itm0:Itm:=⟨.zero,⟨#[]⟩,false,false⟩
def stL (s:Gst):List Value:=[.int .i64 s.t,.int .i64 s.r]
def idL (x:Gid):List Value:=[.int .i64 x.s.t,.int .i64 x.s.r,.int .i64 x.i]
def dtL (d:Dt):List Value:=[.int .i64 d.n.s.t,.int .i64 d.n.s.r,.int .i64 d.n.i,.int .i64 d.b.t,.int .i64 d.b.r]
def plcL (p:Plc):List Value:=[.int .i64 p.n.s.t,.int .i64 p.n.s.r,.int .i64 p.n.i,.int .i64 p.p.s.t,.int .i64 p.p.s.r,.int .i64 p.p.i,.string p.name,.bool p.dir]
def toldL (p:Told):List Value:=[.int .i64 p.a.s.t,.int .i64 p.a.s.r,.int .i64 p.a.i,.int .i64 p.p.n.s.t,.int .i64 p.p.n.s.r,.int .i64 p.p.n.i,.int .i64 p.p.p.s.t,.int .i64 p.p.p.s.r,.int .i64 p.p.p.i,.string p.p.name,.bool p.p.dir]
def hdL (h:Hd):List Value:=[.int .i64 h.s.t,.int .i64 h.s.r,.int .i64 h.u.t,.int .i64 h.u.r]
def eltL (e:Elt):List Value:=[.int .i64 e.id.s.t,.int .i64 e.id.s.r,.int .i64 e.id.i,.int .i64 e.af.s.t,.int .i64 e.af.s.r,.int .i64 e.af.i,.string e.pc]
def rnL (e:Rn):List Value:=[.int .i64 e.af.s.t,.int .i64 e.af.s.r,.int .i64 e.af.i,.int .i64 e.el.s.t,.int .i64 e.el.s.r,.int .i64 e.el.i,.string e.tx]
def itmL (p:Itm):List Value:=[.int .i64 p.n.s.t,.int .i64 p.n.s.r,.int .i64 p.n.i,.string p.path,.bool p.dir,.bool p.back]
def Dt.eqb (a b:Dt):Bool:=a.n.eqb b.n && a.b.eqb b.b
theorem eq_dt (a b i p q c d j s t:Int) (v:Bool) (h:Dt.eqb ⟨⟨⟨a,b⟩,i⟩,⟨p,q⟩⟩ ⟨⟨⟨c,d⟩,j⟩,⟨s,t⟩⟩=v) (w:World):(binOp .eql 163 (.agg #[.int .i64 a,.int .i64 b,.int .i64 i,.int .i64 p,.int .i64 q]) (.agg #[.int .i64 c,.int .i64 d,.int .i64 j,.int .i64 s,.int .i64 t])).run Tryz.prog w= .ok (.bool v) w:=by
 subst h
 go_simp
 simp only[Dt.eqb,Gid.eqb,Gst.eqb]
 by_cases h1:a=c<;>by_cases h2:b=d<;>by_cases h3:i=j<;>by_cases h4:p=s<;>by_cases h5:q=t<;>simp[h1,h2,h3,h4,h5]
def ixI:Option Nat→Int
 |none=> -1
 |some k=>(k:Int)
theorem ix_some {α:Type} {L:List α} {p:α→Bool} {k:Nat} {z:α} (hk:k<L.length) (h:p (L.getD k z)=true) (hn:∀j,j<k→p (L.getD j z)=false):L.findIdx? p=some k:=by
 rw[List.findIdx?_eq_some_iff_getElem]
 rw[List.getD_eq_getElem?_getD,List.getElem?_eq_getElem hk] at h
 refine⟨hk,h,fun j hj=> ?_⟩
 have:=hn j hj
 rw[List.getD_eq_getElem?_getD,List.getElem?_eq_getElem (by omega)] at this
 simpa using this
theorem ix_none {α:Type} {L:List α} {p:α→Bool} {z:α} (hn:∀j,j<L.length→p (L.getD j z)=false):L.findIdx? p=none:=by
 rw[List.findIdx?_eq_none_iff]
 intro x hx
 obtain⟨j,hj,rfl⟩:=List.mem_iff_getElem.1 hx
 have:=hn j hj
 rw[List.getD_eq_getElem?_getD,List.getElem?_eq_getElem hj] at this
 exact this
theorem any_yes {α:Type} {L:List α} {p:α→Bool} {k:Nat} {z:α} (hk:k<L.length) (h:p (L.getD k z)=true):L.any p=true:=List.any_eq_true.2 ⟨_,getD_memF hk z,h⟩
theorem any_no {α:Type} {L:List α} {p:α→Bool} {z:α} (hn:∀j,j<L.length→p (L.getD j z)=false):L.any p=false:=by
 rw[List.any_eq_false]
 intro x hx
 obtain⟨j,hj,rfl⟩:=List.mem_iff_getElem.1 hx
 have:=hn j hj
 rw[List.getD_eq_getElem?_getD,List.getElem?_eq_getElem hj] at this
 rw[show L[j]=(some L[j]).getD z from rfl,this];decide
end
section
open Go.RowKit Go.Lib Go.Sort
set_option linter.unusedVariables false
attribute [local go_sem ↓] Go.wp_at_zero Go.wp_at_succ
theorem hasstamp_any (L:List Gst) (A:Option Addr) (c:Nat) (x:Gst) (S:Nat→Prop) (w:World) (hl:L.length≤1000000) (hR:RowF w S A 2 stL .zero L):
  Calls Tryz.prog 109 #[.slice A L.length c,.agg (stL x).toArray] w fun e w'=>e= .returned (.bool (L.any (fun y=>y.eqb x)))∧Below w.heap.size w w':=by
 obtain⟨ans,hans⟩:∃q,q=(L.any (fun y=>y.eqb x)):=⟨_,rfl⟩
 rw[←hans]
 have HANS:=hid hans
 clear hans
 obtain⟨xt,xr⟩:=x
 have hb0:Below w.heap.size w (w.alloc (.cells #[.int .i64 xt,.int .i64 xr] 42)):=(Below.refl _ _).alloc (Nat.le_refl _) _
 have HC:=hid (heap_alloc_new w (.cells #[.int .i64 xt,.int .i64 xr] 42))
 have hs0:(w.alloc (.cells #[.int .i64 xt,.int .i64 xr] 42)).heap.size=w.heap.size+1:=by simp
 have HS:=hid hs0
 have HB:=hid hb0
 have HR:=hid hR
 clear hb0 hR hs0
 show Calls _ _ #[.slice A L.length c,.agg #[.int .i64 xt,.int .i64 xr]] _ _
 go_enter Tryz.func109,Tryz.ntmps109
 go_upto_region 2 with(fail)
 generalize hW0:w.alloc (.cells #[.int .i64 xt,.int .i64 xr] 42)=W0 at *
 clear hW0
 go_loopw [5] (fun i wr=>∃k:Nat,i= .int .i64 k∧k≤L.length∧Hid (Below W0.heap.size W0 wr)∧Hid (∀j,j<k→(fun y:Gst=>y.eqb ⟨xt,xr⟩) (L.getD j .zero)=false)) (fun i _=>L.length-(RowKit.intOf i).toNat)
 case atStart=>exact⟨0,rfl,Nat.zero_le _,hid (Below.refl _ _),hid (fun j hj=>absurd hj (Nat.not_lt_zero j))⟩
 case round=>
  obtain⟨k,rfl,hk,HBr,HK⟩:=hrel
  have HBw:=hid (HB.out.trans (HBr.out.mono HB.out.size))
  by_cases hlt:k<L.length
  ·obtain⟨rb,ro,rfl,-,hrb,hrange⟩:=(HR.out.below HBw.out).range (fun _=>rfl) hlt
   have i0:(0:Int)≤(k:Int):=by omega
   have i1:(k:Int)<(L.length:Int):=by omega
   obtain⟨p,hp⟩:∃p,p=L.getD k .zero:=⟨_,rfl⟩
   rw[←hp] at hrange
   obtain⟨b,hb⟩:∃b,b=(fun y:Gst=>y.eqb ⟨xt,xr⟩) p:=⟨_,rfl⟩
   have HP:=hid (show(fun y:Gst=>y.eqb ⟨xt,xr⟩) (L.getD k .zero)=b by rw[←hp,hb])
   clear hp
   obtain⟨t,r⟩:=p
   have q1:=eq_st t r xt xr b hb.symm
   have HCr:=hid ((HBr.out.block w.heap.size (by rw[HS.out];omega)).trans HC.out)
   have x0:=rg0 HCr.out
   have x1:=rg1 HCr.out
   have y0:=cell_regrown (w:=wr) (a:=⟨rb,ro+k*2,none⟩) (v:= .int .i64 t) (hrange 0 _ rfl)
   have y1:=cell_regrown (w:=wr) (a:=⟨rb,ro+k*2+1,none⟩) (v:= .int .i64 r) (hrange 1 _ rfl)
   clear hrange hb
   cases b with
   |true=>
    go_upto_region 4 with(fail)
    refine rqb ?_
    repeat(any_goals(first|go_big_quiet_step (fail)|quiet_step (fail)))
    refine qz fun wq hBq=> ?_
    go_wp2
    go_ret
    exact⟨by rw[HANS.out,any_yes hlt HP.out];rfl,HBw.out.trans (hBq.mono HBw.out.size)⟩
   |false=>
    have HK2:=hid (show ∀j,j<k+1→(fun y:Gst=>y.eqb ⟨xt,xr⟩) (L.getD j .zero)=false from fun j hj=>if h:j<k then HK.out j h else (by(obtain rfl:j=k:=(by omega));exact HP.out))
    go_upto_region 4 with(fail)
    refine rqb ?_
    repeat(any_goals(first|go_big_quiet_step (fail)|quiet_step (fail)))
    refine qz fun wq hBq=> ?_
    go_wp2
    go_roundw
    case rel=>exact⟨k+1,by go_num,by omega,hid (HBr.out.trans (hBq.mono HBr.out.size)),HK2⟩
    case measure=>(simp[RowKit.intOf];omega)
  ·obtain rfl:k=L.length:=by omega
   have i1:¬(L.length:Int)<(L.length:Int):=by omega
   go_wp2
   go_ret
   exact⟨by rw[HANS.out,any_no HK.out];rfl,HBw.out⟩
theorem hasid_any (L:List Gid) (A:Option Addr) (c:Nat) (x:Gid) (S:Nat→Prop) (w:World) (hl:L.length≤1000000) (hR:RowF w S A 3 idL .zero L):
  Calls Tryz.prog 173 #[.slice A L.length c,.agg (idL x).toArray] w fun e w'=>e= .returned (.bool (L.any (fun y=>y.eqb x)))∧Below w.heap.size w w':=by
 obtain⟨ans,hans⟩:∃q,q=(L.any (fun y=>y.eqb x)):=⟨_,rfl⟩
 rw[←hans]
 have HANS:=hid hans
 clear hans
 obtain⟨⟨xt,xr⟩,xi⟩:=x
 have hb0:Below w.heap.size w (w.alloc (.cells #[.int .i64 xt,.int .i64 xr,.int .i64 xi] 108)):=(Below.refl _ _).alloc (Nat.le_refl _) _
 have HC:=hid (heap_alloc_new w (.cells #[.int .i64 xt,.int .i64 xr,.int .i64 xi] 108))
 have hs0:(w.alloc (.cells #[.int .i64 xt,.int .i64 xr,.int .i64 xi] 108)).heap.size=w.heap.size+1:=by simp
 have HS:=hid hs0
 have HB:=hid hb0
 have HR:=hid hR
 clear hb0 hR hs0
 show Calls _ _ #[.slice A L.length c,.agg #[.int .i64 xt,.int .i64 xr,.int .i64 xi]] _ _
 go_enter Tryz.func173,Tryz.ntmps173
 go_upto_region 2 with(fail)
 generalize hW0:w.alloc (.cells #[.int .i64 xt,.int .i64 xr,.int .i64 xi] 108)=W0 at *
 clear hW0
 go_loopw [5] (fun i wr=>∃k:Nat,i= .int .i64 k∧k≤L.length∧Hid (Below W0.heap.size W0 wr)∧Hid (∀j,j<k→(fun y:Gid=>y.eqb ⟨⟨xt,xr⟩,xi⟩) (L.getD j .zero)=false)) (fun i _=>L.length-(RowKit.intOf i).toNat)
 case atStart=>exact⟨0,rfl,Nat.zero_le _,hid (Below.refl _ _),hid (fun j hj=>absurd hj (Nat.not_lt_zero j))⟩
 case round=>
  obtain⟨k,rfl,hk,HBr,HK⟩:=hrel
  have HBw:=hid (HB.out.trans (HBr.out.mono HB.out.size))
  by_cases hlt:k<L.length
  ·obtain⟨rb,ro,rfl,-,hrb,hrange⟩:=(HR.out.below HBw.out).range (fun _=>rfl) hlt
   have i0:(0:Int)≤(k:Int):=by omega
   have i1:(k:Int)<(L.length:Int):=by omega
   obtain⟨p,hp⟩:∃p,p=L.getD k .zero:=⟨_,rfl⟩
   rw[←hp] at hrange
   obtain⟨b,hb⟩:∃b,b=(fun y:Gid=>y.eqb ⟨⟨xt,xr⟩,xi⟩) p:=⟨_,rfl⟩
   have HP:=hid (show(fun y:Gid=>y.eqb ⟨⟨xt,xr⟩,xi⟩) (L.getD k .zero)=b by rw[←hp,hb])
   clear hp
   obtain⟨⟨t,r⟩,n⟩:=p
   have q1:=eq_id t r n xt xr xi b hb.symm
   have HCr:=hid ((HBr.out.block w.heap.size (by rw[HS.out];omega)).trans HC.out)
   have x0:=rg0 HCr.out
   have x1:=rg1 HCr.out
   have x2:=rg2 HCr.out
   have y0:=cell_regrown (w:=wr) (a:=⟨rb,ro+k*3,none⟩) (v:= .int .i64 t) (hrange 0 _ rfl)
   have y1:=cell_regrown (w:=wr) (a:=⟨rb,ro+k*3+1,none⟩) (v:= .int .i64 r) (hrange 1 _ rfl)
   have y2:=cell_regrown (w:=wr) (a:=⟨rb,ro+k*3+2,none⟩) (v:= .int .i64 n) (hrange 2 _ rfl)
   clear hrange hb
   cases b with
   |true=>
    go_upto_region 4 with(fail)
    refine rqb ?_
    repeat(any_goals(first|go_big_quiet_step (fail)|quiet_step (fail)))
    refine qz fun wq hBq=> ?_
    go_wp2
    go_ret
    exact⟨by rw[HANS.out,any_yes hlt HP.out];rfl,HBw.out.trans (hBq.mono HBw.out.size)⟩
   |false=>
    have HK2:=hid (show ∀j,j<k+1→(fun y:Gid=>y.eqb ⟨⟨xt,xr⟩,xi⟩) (L.getD j .zero)=false from fun j hj=>if h:j<k then HK.out j h else (by(obtain rfl:j=k:=(by omega));exact HP.out))
    go_upto_region 4 with(fail)
    refine rqb ?_
    repeat(any_goals(first|go_big_quiet_step (fail)|quiet_step (fail)))
    refine qz fun wq hBq=> ?_
    go_wp2
    go_roundw
    case rel=>exact⟨k+1,by go_num,by omega,hid (HBr.out.trans (hBq.mono HBr.out.size)),HK2⟩
    case measure=>(simp[RowKit.intOf];omega)
  ·obtain rfl:k=L.length:=by omega
   have i1:¬(L.length:Int)<(L.length:Int):=by omega
   go_wp2
   go_ret
   exact⟨by rw[HANS.out,any_no HK.out];rfl,HBw.out⟩
theorem hasdot_any (L:List Dt) (A:Option Addr) (c:Nat) (x:Dt) (S:Nat→Prop) (w:World) (hl:L.length≤1000000) (hR:RowF w S A 5 dtL dt0 L):
  Calls Tryz.prog 174 #[.slice A L.length c,.agg (dtL x).toArray] w fun e w'=>e= .returned (.bool (L.any (fun y=>y.eqb x)))∧Below w.heap.size w w':=by
 obtain⟨ans,hans⟩:∃q,q=(L.any (fun y=>y.eqb x)):=⟨_,rfl⟩
 rw[←hans]
 have HANS:=hid hans
 clear hans
 obtain⟨⟨⟨xt,xr⟩,xi⟩,⟨xu,xv⟩⟩:=x
 have hb0:Below w.heap.size w (w.alloc (.cells #[.int .i64 xt,.int .i64 xr,.int .i64 xi,.int .i64 xu,.int .i64 xv] 163)):=(Below.refl _ _).alloc (Nat.le_refl _) _
 have HC:=hid (heap_alloc_new w (.cells #[.int .i64 xt,.int .i64 xr,.int .i64 xi,.int .i64 xu,.int .i64 xv] 163))
 have hs0:(w.alloc (.cells #[.int .i64 xt,.int .i64 xr,.int .i64 xi,.int .i64 xu,.int .i64 xv] 163)).heap.size=w.heap.size+1:=by simp
 have HS:=hid hs0
 have HB:=hid hb0
 have HR:=hid hR
 clear hb0 hR hs0
 show Calls _ _ #[.slice A L.length c,.agg #[.int .i64 xt,.int .i64 xr,.int .i64 xi,.int .i64 xu,.int .i64 xv]] _ _
 go_enter Tryz.func174,Tryz.ntmps174
 go_upto_region 2 with(fail)
 generalize hW0:w.alloc (.cells #[.int .i64 xt,.int .i64 xr,.int .i64 xi,.int .i64 xu,.int .i64 xv] 163)=W0 at *
 clear hW0
 go_loopw [5] (fun i wr=>∃k:Nat,i= .int .i64 k∧k≤L.length∧Hid (Below W0.heap.size W0 wr)∧Hid (∀j,j<k→(fun y:Dt=>y.eqb ⟨⟨⟨xt,xr⟩,xi⟩,⟨xu,xv⟩⟩) (L.getD j dt0)=false)) (fun i _=>L.length-(RowKit.intOf i).toNat)
 case atStart=>exact⟨0,rfl,Nat.zero_le _,hid (Below.refl _ _),hid (fun j hj=>absurd hj (Nat.not_lt_zero j))⟩
 case round=>
  obtain⟨k,rfl,hk,HBr,HK⟩:=hrel
  have HBw:=hid (HB.out.trans (HBr.out.mono HB.out.size))
  by_cases hlt:k<L.length
  ·obtain⟨rb,ro,rfl,-,hrb,hrange⟩:=(HR.out.below HBw.out).range (fun _=>rfl) hlt
   have i0:(0:Int)≤(k:Int):=by omega
   have i1:(k:Int)<(L.length:Int):=by omega
   obtain⟨p,hp⟩:∃p,p=L.getD k dt0:=⟨_,rfl⟩
   rw[←hp] at hrange
   obtain⟨b,hb⟩:∃b,b=(fun y:Dt=>y.eqb ⟨⟨⟨xt,xr⟩,xi⟩,⟨xu,xv⟩⟩) p:=⟨_,rfl⟩
   have HP:=hid (show(fun y:Dt=>y.eqb ⟨⟨⟨xt,xr⟩,xi⟩,⟨xu,xv⟩⟩) (L.getD k dt0)=b by rw[←hp,hb])
   clear hp
   obtain⟨⟨⟨t,r⟩,n⟩,⟨bt,br⟩⟩:=p
   have q1:=eq_dt t r n bt br xt xr xi xu xv b hb.symm
   have HCr:=hid ((HBr.out.block w.heap.size (by rw[HS.out];omega)).trans HC.out)
   have x0:=rg0 HCr.out
   have x1:=rg1 HCr.out
   have x2:=rg2 HCr.out
   have x3:=rg3 HCr.out
   have x4:=rg4 HCr.out
   have y0:=cell_regrown (w:=wr) (a:=⟨rb,ro+k*5,none⟩) (v:= .int .i64 t) (hrange 0 _ rfl)
   have y1:=cell_regrown (w:=wr) (a:=⟨rb,ro+k*5+1,none⟩) (v:= .int .i64 r) (hrange 1 _ rfl)
   have y2:=cell_regrown (w:=wr) (a:=⟨rb,ro+k*5+2,none⟩) (v:= .int .i64 n) (hrange 2 _ rfl)
   have y3:=cell_regrown (w:=wr) (a:=⟨rb,ro+k*5+3,none⟩) (v:= .int .i64 bt) (hrange 3 _ rfl)
   have y4:=cell_regrown (w:=wr) (a:=⟨rb,ro+k*5+4,none⟩) (v:= .int .i64 br) (hrange 4 _ rfl)
   clear hrange hb
   cases b with
   |true=>
    go_upto_region 4 with(fail)
    refine rqb ?_
    repeat(any_goals(first|go_big_quiet_step (fail)|quiet_step (fail)))
    refine qz fun wq hBq=> ?_
    go_wp2
    go_ret
    exact⟨by rw[HANS.out,any_yes hlt HP.out];rfl,HBw.out.trans (hBq.mono HBw.out.size)⟩
   |false=>
    have HK2:=hid (show ∀j,j<k+1→(fun y:Dt=>y.eqb ⟨⟨⟨xt,xr⟩,xi⟩,⟨xu,xv⟩⟩) (L.getD j dt0)=false from fun j hj=>if h:j<k then HK.out j h else (by(obtain rfl:j=k:=(by omega));exact HP.out))
    go_upto_region 4 with(fail)
    refine rqb ?_
    repeat(any_goals(first|go_big_quiet_step (fail)|quiet_step (fail)))
    refine qz fun wq hBq=> ?_
    go_wp2
    go_roundw
    case rel=>exact⟨k+1,by go_num,by omega,hid (HBr.out.trans (hBq.mono HBr.out.size)),HK2⟩
    case measure=>(simp[RowKit.intOf];omega)
  ·obtain rfl:k=L.length:=by omega
   have i1:¬(L.length:Int)<(L.length:Int):=by omega
   go_wp2
   go_ret
   exact⟨by rw[HANS.out,any_no HK.out];rfl,HBw.out⟩
theorem findplc_any (L:List Plc) (A:Option Addr) (c:Nat) (x:Gid) (S:Nat→Prop) (w:World) (hl:L.length≤1000000) (hR:RowF w S A 8 plcL plc0 L):
  Calls Tryz.prog 169 #[.slice A L.length c,.agg (idL x).toArray] w fun e w'=>e= .returned (.int .i64 (ixI (L.findIdx? (fun y=>y.n.eqb x))))∧Below w.heap.size w w':=by
 obtain⟨ans,hans⟩:∃q,q=(ixI (L.findIdx? (fun y=>y.n.eqb x))):=⟨_,rfl⟩
 rw[←hans]
 have HANS:=hid hans
 clear hans
 obtain⟨⟨xt,xr⟩,xi⟩:=x
 have hb0:Below w.heap.size w (w.alloc (.cells #[.int .i64 xt,.int .i64 xr,.int .i64 xi] 108)):=(Below.refl _ _).alloc (Nat.le_refl _) _
 have HC:=hid (heap_alloc_new w (.cells #[.int .i64 xt,.int .i64 xr,.int .i64 xi] 108))
 have hs0:(w.alloc (.cells #[.int .i64 xt,.int .i64 xr,.int .i64 xi] 108)).heap.size=w.heap.size+1:=by simp
 have HS:=hid hs0
 have HB:=hid hb0
 have HR:=hid hR
 clear hb0 hR hs0
 show Calls _ _ #[.slice A L.length c,.agg #[.int .i64 xt,.int .i64 xr,.int .i64 xi]] _ _
 go_enter Tryz.func169,Tryz.ntmps169
 go_upto_region 2 with(fail)
 generalize hW0:w.alloc (.cells #[.int .i64 xt,.int .i64 xr,.int .i64 xi] 108)=W0 at *
 clear hW0
 go_loopw [5] (fun i wr=>∃k:Nat,i= .int .i64 k∧k≤L.length∧Hid (Below W0.heap.size W0 wr)∧Hid (∀j,j<k→(fun y:Plc=>y.n.eqb ⟨⟨xt,xr⟩,xi⟩) (L.getD j plc0)=false)) (fun i _=>L.length-(RowKit.intOf i).toNat)
 case atStart=>exact⟨0,rfl,Nat.zero_le _,hid (Below.refl _ _),hid (fun j hj=>absurd hj (Nat.not_lt_zero j))⟩
 case round=>
  obtain⟨k,rfl,hk,HBr,HK⟩:=hrel
  have HBw:=hid (HB.out.trans (HBr.out.mono HB.out.size))
  by_cases hlt:k<L.length
  ·obtain⟨rb,ro,rfl,-,hrb,hrange⟩:=(HR.out.below HBw.out).range (fun _=>rfl) hlt
   have i0:(0:Int)≤(k:Int):=by omega
   have i1:(k:Int)<(L.length:Int):=by omega
   obtain⟨p,hp⟩:∃p,p=L.getD k plc0:=⟨_,rfl⟩
   rw[←hp] at hrange
   obtain⟨b,hb⟩:∃b,b=(fun y:Plc=>y.n.eqb ⟨⟨xt,xr⟩,xi⟩) p:=⟨_,rfl⟩
   have HP:=hid (show(fun y:Plc=>y.n.eqb ⟨⟨xt,xr⟩,xi⟩) (L.getD k plc0)=b by rw[←hp,hb])
   clear hp
   obtain⟨⟨⟨t,r⟩,n⟩,pp,pn,pd⟩:=p
   have q1:=eq_id t r n xt xr xi b hb.symm
   have HCr:=hid ((HBr.out.block w.heap.size (by rw[HS.out];omega)).trans HC.out)
   have x0:=rg0 HCr.out
   have x1:=rg1 HCr.out
   have x2:=rg2 HCr.out
   have y0:=cell_regrown (w:=wr) (a:=⟨rb,ro+k*8,none⟩) (v:= .int .i64 t) (hrange 0 _ rfl)
   have y1:=cell_regrown (w:=wr) (a:=⟨rb,ro+k*8+1,none⟩) (v:= .int .i64 r) (hrange 1 _ rfl)
   have y2:=cell_regrown (w:=wr) (a:=⟨rb,ro+k*8+2,none⟩) (v:= .int .i64 n) (hrange 2 _ rfl)
   clear hrange hb
   cases b with
   |true=>
    go_upto_region 4 with(fail)
    refine rqb ?_
    repeat(any_goals(first|go_big_quiet_step (fail)|quiet_step (fail)))
    refine qz fun wq hBq=> ?_
    go_wp2
    go_ret
    exact⟨by rw[HANS.out,ix_some hlt HP.out HK.out];rfl,HBw.out.trans (hBq.mono HBw.out.size)⟩
   |false=>
    have HK2:=hid (show ∀j,j<k+1→(fun y:Plc=>y.n.eqb ⟨⟨xt,xr⟩,xi⟩) (L.getD j plc0)=false from fun j hj=>if h:j<k then HK.out j h else (by(obtain rfl:j=k:=(by omega));exact HP.out))
    go_upto_region 4 with(fail)
    refine rqb ?_
    repeat(any_goals(first|go_big_quiet_step (fail)|quiet_step (fail)))
    refine qz fun wq hBq=> ?_
    go_wp2
    go_roundw
    case rel=>exact⟨k+1,by go_num,by omega,hid (HBr.out.trans (hBq.mono HBr.out.size)),HK2⟩
    case measure=>(simp[RowKit.intOf];omega)
  ·obtain rfl:k=L.length:=by omega
   have i1:¬(L.length:Int)<(L.length:Int):=by omega
   go_wp2
   go_ret
   exact⟨by rw[HANS.out,ix_none HK.out];rfl,HBw.out⟩
end
end Go.Proofs.YtkhmicndehlneaaGreatDoor
