/- Part 23 of the walks and plain laws that this claim uses, joined. Conditions: as each theorem states. -/
import Derived.Test.YtkhmicndehlneaaGreatDoorTv
namespace Go.Proofs.YtkhmicndehlneaaGreatDoor
set_option maxRecDepth 100000
set_option maxHeartbeats 16000000
section
open Go.RowKit Go.Lib Go.Sort
set_option linter.unusedVariables false
attribute [local go_sem ↓] Go.wp_at_zero Go.wp_at_succ
theorem vop_any (gt gr:Int) (n':Int) (dA':Option Addr) (dn' dc':Nat) (ut ur:Int) (oA:Option Addr) (on oc:Nat) (k:Nat) (o:Gop) (x:OpX) (S:Nat→Prop) (w:World) (hI:OpIn w S o x) (ht:o.text.size≤1000000) (hvt:opB ⟨gt,gr⟩ o k=true):
  Calls Tryz.prog 104 #[.agg #[.int .i64 gt,.int .i64 gr,.int .i64 n',.slice dA' dn' dc',.int .i64 ut,.int .i64 ur,.slice oA on oc],.agg (opA o x),.int .i64 k] w fun e w'=>e= .returned (.int .i64 (v9refV ⟨gt,gr⟩ o k))∧Below w.heap.size w w':=by
 have hvt:(kindB ⟨gt,gr⟩ o k && bareB o)=true:=by rw[Bool.and_comm];exact hvt
 obtain⟨kind,⟨⟨nt,nr⟩,ni⟩,⟨⟨pt,pr⟩,pi⟩,name,dir,dots,⟨⟨at_,ar⟩,ai⟩,⟨⟨et,er⟩,ei⟩,text,elems⟩:=o
 obtain⟨dA,dc,eA,ec⟩:=x
 have hdl:=Nat.le_trans hI.dle hI.dmax
 have hel:=Nat.le_trans hI.ele hI.emax
 have hna:=hI.name
 have hDo:=hI.dots
 have hEl:=hI.elems
 simp only[maxLen] at hdl hel hna hDo hEl ht
 by_cases k0:kind=0
 ·subst k0
  exact vop_0 gt gr n' dA' dn' dc' ut ur oA on oc k nt nr ni pt pr pi name dir dots at_ ar ai et er ei text elems dA dc eA ec S w (by omega) (by omega) (by omega) hDo hEl hvt
 by_cases k1:kind=1
 ·subst k1
  exact vop_1 gt gr n' dA' dn' dc' ut ur oA on oc k nt nr ni pt pr pi name dir dots at_ ar ai et er ei text elems dA dc eA ec S w (by omega) (by omega) (by omega) hDo hEl hvt
 by_cases k2:kind=2
 ·subst k2
  exact vop_2 gt gr n' dA' dn' dc' ut ur oA on oc k nt nr ni pt pr pi name dir dots at_ ar ai et er ei text elems dA dc eA ec S w (by omega) (by omega) (by omega) hDo hEl hvt
 by_cases k4:kind=4
 ·subst k4
  exact vop_4 gt gr n' dA' dn' dc' ut ur oA on oc k nt nr ni pt pr pi name dir dots at_ ar ai et er ei text elems dA dc eA ec S w (by omega) (by omega) (by omega) hDo hEl hvt
 by_cases k3:kind=3
 ·subst k3
  cases hc:cnt text.data.toList with
  |none=>
   exfalso
   have h9:=(Bool.and_eq_true_iff.1 hvt).1
   unfold kindB at h9
   simp only[textB,cnt_valid,hc] at h9
   simp at h9
  |some m=>exact vop_3s gt gr n' dA' dn' dc' ut ur oA on oc k nt nr ni pt pr pi name dir dots at_ ar ai et er ei text elems dA dc eA ec S w (by omega) (by omega) (by omega) hDo hEl ht m hc hvt
 exfalso
 have h9:=(Bool.and_eq_true_iff.1 hvt).1
 unfold kindB at h9
 simp[k0,k1,k2,k3,k4] at h9
theorem v9head_parts {t r n:Int} {v:List Int} {ut ur:Int} {ops:List Gop} (h:headB ⟨⟨t,r⟩,n,v,⟨ut,ur⟩,ops⟩=true):Gst.right ⟨t,r⟩=true∧1≤n∧n≤1099511627776∧vecB v=true∧atV v r=n-1:=by
 simp only[headB,Bool.and_eq_true,decide_eq_true_eq] at h
 exact⟨h.1.1.1.1,h.1.1.1.2,h.1.1.2,h.1.2,h.2⟩
theorem vchk_undo (t r n:Int) (v:List Int) (ut ur:Int) (ops:List Gop) (dA:Option Addr) (dc:Nat) (oA:Option Addr) (oc:Nat) (w:World) (hl:v.length≤dc) (hc:dc≤9223372036854775807) (hn:i63 n) (hD:VecR w dA v) (hh:headB ⟨⟨t,r⟩,n,v,⟨ut,ur⟩,ops⟩=true) (hu:Gst.eqb ⟨ut,ur⟩ ⟨0,0⟩=false) (z:Int) (hz:z=if (Gst.right ⟨ut,ur⟩ && Gst.lt ⟨ut,ur⟩ ⟨t,r⟩ && decide (ops.length=0))=true then 0 else 80) (hvz:z≠80):
  Calls Tryz.prog 54 #[.agg #[.int .i64 t,.int .i64 r,.int .i64 n,.slice dA v.length dc,.int .i64 ut,.int .i64 ur,.slice oA ops.length oc]] w fun e w'=>e= .returned (.int .i64 z)∧Below w.heap.size w w':=by
 have HZ:=hid hz
 have HVT:=hid hvz
 clear hvz
 clear hz
 obtain⟨hR,h1,h2,hV,h3⟩:=v9head_parts hh
 have hn2:=hn
 unfold i63 at hn2
 obtain⟨W,hW⟩:∃W,W=w.alloc (.cells #[.int .i64 t,.int .i64 r,.int .i64 n,.slice dA v.length dc,.int .i64 ut,.int .i64 ur,.slice oA ops.length oc] 45):=⟨_,rfl⟩
 have hBW:Below w.heap.size w W:=by subst hW;exact(Below.refl _ _).alloc (Nat.le_refl _) _
 have hD2:=hD.below hBW
 have hA:W.heap[w.heap.size]? =some (.cells #[.int .i64 t,.int .i64 r,.int .i64 n,.slice dA v.length dc,.int .i64 ut,.int .i64 ur,.slice oA ops.length oc] 45 (0,0)):=by subst hW;exact heap_alloc_new _ _
 have x0:=rg0 hA
 have x1:=rg1 hA
 have x2:=rg2 hA
 have x3:=rg3 hA
 have cR:=fun d os=>Calls.regrown_of (refright_any t r (grow (redrawn W d) os))
 have cV:=fun d os=>Calls.regrown_of (refvector_any dA dc v (grow (redrawn W d) os) hl (by omega) (hD2.regrown d os))
 have cA:=fun d os=>Calls.regrown_same (refat_any dA dc v r (grow (redrawn W d) os) (by omega) (hD2.regrown d os))
 have HW:=hid hW
 have HA:=hid hA
 have HBW:=hid hBW
 clear hA hD2 hW hBW
 rw[hR] at cR
 rw[hV] at cV
 have t1:decide (n<1)=false:=decide_eq_false (by omega)
 have s1:¬n<1:=by omega
 have t2:decide (1099511627776<n)=false:=decide_eq_false (by omega)
 have s2:¬1099511627776<n:=by omega
 have hw:IntKind.i64.wrap (n-1)=n-1:=IntWalk.i64_in _ (by omega)
 have HD:=hid hD
 rw[h3] at cA
 have t3:(n-1 == n-1)=true:=beq_self_eq_true _
 have t4:(n-1 != n-1)=false:=by rw[bne_eq_false_iff_eq]
 have hne:=ne_st ut ur 0 0 false hu
 clear hh h3 hV hR hl hc hn hn2 hD hu h1 h2
 go_enter Tryz.func54,Tryz.ntmps54
 go_upto_region 1 with fail
 rw[←HW.out]
 refine rqb ?_
 repeat(any_goals(first|go_big_quiet_step (with_reducible first|exact cR _ _|exact cV _ _|exact cA _ _)|quiet_step (with_reducible first|exact cR _ _|exact cV _ _|exact cA _ _)))
 refine qz fun wq hBq=> ?_
 have HA2:=hid ((hBq.block w.heap.size (lt_of_block HA.out)).trans HA.out)
 have HB2:=hid (HBW.out.trans (hBq.mono HBW.out.size))
 clear hBq x0 x1 x2 x3 cR cV cA t1 t2 s1 s2 hw t3 t4 HW HA HBW
 have r0:=cw0 HA2.out
 have r1:=cw1 HA2.out
 have r2:=cw2 HA2.out
 have r3:=cw3 HA2.out
 have r4:=cw4 HA2.out
 have r5:=cw5 HA2.out
 have r6:=cw6 HA2.out
 go_upto_region 4 with fail
 clear hne
 have x0:=rg0 HA2.out
 have x1:=rg1 HA2.out
 have x4:=rg4 HA2.out
 have x5:=rg5 HA2.out
 have x6:=rg6 HA2.out
 have cU:=fun d os=>Calls.regrown_of (refright_any ut ur (grow (redrawn wq d) os))
 have cB:=fun d os=>Calls.regrown_of (before_any ut ur t r (grow (redrawn wq d) os))
 clear r0 r1 r2 r3 r4 r5 r6 HA2 HD
 cases hU:Gst.right ⟨ut,ur⟩ with
 |false=>
  obtain rfl:z=80:=by rw[HZ.out,hU];simp
  exact absurd rfl HVT.out
 |true=>
 have HU:=hid hU
 rw[hU] at cU
 clear hU
 cases hL:Gst.lt ⟨ut,ur⟩ ⟨t,r⟩ with
 |false=>
  obtain rfl:z=80:=by rw[HZ.out,hL];simp
  exact absurd rfl HVT.out
 |true=>
 have HL:=hid hL
 rw[hL] at cB
 clear hL
 by_cases h0:ops.length=0
 ·obtain rfl:z=0:=by rw[HZ.out,HU.out,HL.out,h0];simp
  have e1:ops=[]:=List.eq_nil_of_length_eq_zero h0
  subst e1
  clear h0
  refine wp_plain_quiet_below ?_
  repeat(any_goals(first|go_big_quiet_step (with_reducible first|exact cU _ _|exact cB _ _)|quiet_step (with_reducible first|exact cU _ _|exact cB _ _)))
  refine qz fun wq hBq=> ?_
  go_wp2
  go_ret
  exact⟨rfl,HB2.out.trans (hBq.mono HB2.out.size)⟩
 ·obtain rfl:z=80:=by rw[HZ.out,decide_eq_false h0];simp
  exact absurd rfl HVT.out
theorem v9refV_opB {g:Gst} {o:Gop} {k:Nat} (b:Bool) (h:b=opB g o k):v9refV g o k=if b=true then (moreOf o:Int) else -1:=by
 unfold v9refV
 rw[h]
 unfold opB
 rw[Bool.and_comm]
theorem vchk_ops (t r n:Int) (v:List Int) (ut ur:Int) (ops:List Gop) (dA:Option Addr) (dc:Nat) (oA:Option Addr) (oc:Nat) (w:World) (hl:v.length≤dc) (hc:dc≤9223372036854775807) (hn:i63 n) (hD:VecR w dA v) (hh:headB ⟨⟨t,r⟩,n,v,⟨ut,ur⟩,ops⟩=true) (hu:Gst.eqb ⟨ut,ur⟩ ⟨0,0⟩=true) (h1:1≤ops.length) (h2:ops.length≤200) (S:Nat→Prop) (hO:OpsS w S oA ops) (hTx:∀o∈ops,o.text.size≤1000000) (z:Int) (hz:z=if opsB ⟨t,r⟩ ops 0=true then 0 else 80) (hvz:z≠80):
  Calls Tryz.prog 54 #[.agg #[.int .i64 t,.int .i64 r,.int .i64 n,.slice dA v.length dc,.int .i64 ut,.int .i64 ur,.slice oA ops.length oc]] w fun e w'=>e= .returned (.int .i64 z)∧Below w.heap.size w w':=by
 have HO:=hid hO
 have HTx:=hid hTx
 have HZ:=hid hz
 have HVT:=hid hvz
 clear hvz
 have H1:=hid h1
 have H2:=hid h2
 clear hO hTx hz h1 h2
 obtain⟨hR,h1,h2,hV,h3⟩:=v9head_parts hh
 have hn2:=hn
 unfold i63 at hn2
 obtain⟨W,hW⟩:∃W,W=w.alloc (.cells #[.int .i64 t,.int .i64 r,.int .i64 n,.slice dA v.length dc,.int .i64 ut,.int .i64 ur,.slice oA ops.length oc] 45):=⟨_,rfl⟩
 have hBW:Below w.heap.size w W:=by subst hW;exact(Below.refl _ _).alloc (Nat.le_refl _) _
 have hD2:=hD.below hBW
 have hA:W.heap[w.heap.size]? =some (.cells #[.int .i64 t,.int .i64 r,.int .i64 n,.slice dA v.length dc,.int .i64 ut,.int .i64 ur,.slice oA ops.length oc] 45 (0,0)):=by subst hW;exact heap_alloc_new _ _
 have x0:=rg0 hA
 have x1:=rg1 hA
 have x2:=rg2 hA
 have x3:=rg3 hA
 have cR:=fun d os=>Calls.regrown_of (refright_any t r (grow (redrawn W d) os))
 have cV:=fun d os=>Calls.regrown_of (refvector_any dA dc v (grow (redrawn W d) os) hl (by omega) (hD2.regrown d os))
 have cA:=fun d os=>Calls.regrown_same (refat_any dA dc v r (grow (redrawn W d) os) (by omega) (hD2.regrown d os))
 have HW:=hid hW
 have HA:=hid hA
 have HBW:=hid hBW
 clear hA hD2 hW hBW
 rw[hR] at cR
 rw[hV] at cV
 have t1:decide (n<1)=false:=decide_eq_false (by omega)
 have s1:¬n<1:=by omega
 have t2:decide (1099511627776<n)=false:=decide_eq_false (by omega)
 have s2:¬1099511627776<n:=by omega
 have hw:IntKind.i64.wrap (n-1)=n-1:=IntWalk.i64_in _ (by omega)
 have HD:=hid hD
 rw[h3] at cA
 have t3:(n-1 == n-1)=true:=beq_self_eq_true _
 have t4:(n-1 != n-1)=false:=by rw[bne_eq_false_iff_eq]
 have hne:=ne_st ut ur 0 0 true hu
 clear hh h3 hV hR hl hc hn hn2 hD hu h1 h2
 go_enter Tryz.func54,Tryz.ntmps54
 go_upto_region 1 with fail
 rw[←HW.out]
 refine rqb ?_
 repeat(any_goals(first|go_big_quiet_step (with_reducible first|exact cR _ _|exact cV _ _|exact cA _ _)|quiet_step (with_reducible first|exact cR _ _|exact cV _ _|exact cA _ _)))
 refine qz fun wq hBq=> ?_
 have HA2:=hid ((hBq.block w.heap.size (lt_of_block HA.out)).trans HA.out)
 have HB2:=hid (HBW.out.trans (hBq.mono HBW.out.size))
 clear hBq x0 x1 x2 x3 cR cV cA t1 t2 s1 s2 hw t3 t4 HW HA HBW
 have r0:=cw0 HA2.out
 have r1:=cw1 HA2.out
 have r2:=cw2 HA2.out
 have r3:=cw3 HA2.out
 have r4:=cw4 HA2.out
 have r5:=cw5 HA2.out
 have r6:=cw6 HA2.out
 have b1:decide (ops.length<1)=false:=by rw[decide_eq_false_iff_not];have:=H1.out;omega
 have b2:¬(ops.length:Int)<1:=by have:=H1.out;omega
 have b3:decide (200<ops.length)=false:=by rw[decide_eq_false_iff_not];have:=H2.out;omega
 have b4:¬200<(ops.length:Int):=by have:=H2.out;omega
 have b5:decide (ops.length=0)=false:=by rw[decide_eq_false_iff_not];have:=H1.out;omega
 have b6:decide (0<ops.length)=true:=by rw[decide_eq_true_eq];have:=H1.out;omega
 have b7:¬ops=[]:=by intro e;have:=H1.out;rw[e] at this;simp at this
 go_upto_region 11 with(fail)
 clear b1 b2 b3 b4 b5 b6 b7 hne
 go_loopw [3,4] (fun k i wr=>∃j kk:Nat,j≤ops.length∧i= .int .i64 j∧k= .int .i64 kk∧kk≤2000*j∧Hid (opsB ⟨t,r⟩ ops 0=opsB ⟨t,r⟩ (ops.drop j) kk)∧Hid (Below w.heap.size w wr)∧Hid (wr.heap[w.heap.size]? =some (.cells #[.int .i64 t,.int .i64 r,.int .i64 n,.slice dA v.length dc,.int .i64 ut,.int .i64 ur,.slice oA ops.length oc] 45 (0,0)))) (fun _ i _=>ops.length-(RowKit.intOf i).toNat)
 case atStart=>exact⟨0,0,by omega,rfl,rfl,by omega,hid rfl,HB2,HA2⟩
 case round=>
  clear r0 r1 r2 r3 r4 r5 r6
  obtain⟨j,kk,hj,rfl,rfl,hkk,HK,HBr,HAr⟩:=hrel
  have r6:=cw6 HAr.out
  by_cases hjl:j<ops.length
  ·have hl1:(j:Int)<(ops.length:Int):=by omega
   have hl2:decide ((j:Int)<(ops.length:Int))=true:=decide_eq_true hl1
   go_upto_region 13 with fail
   obtain⟨X,hX1,hX2⟩:=OpsS.agr HO.out (Agr.below HBr.out)
   obtain⟨ob,oo,rfl,hS,hob,hc⟩:=hX1 j hjl
   have hIn:=hX2 j hjl
   obtain⟨o,ho⟩:∃o,o=ops.getD j (opO 0 .zero):=⟨_,rfl⟩
   obtain⟨x,hx⟩:∃x,x=X j:=⟨_,rfl⟩
   rw[←ho] at hIn
   simp only[←ho,←hx] at hIn hc
   have hot:o.text.size≤1000000:=HTx.out o (by rw[ho];simp[List.getD,hjl])
   have HST:=hid (show opsB ⟨t,r⟩ (ops.drop j) kk=(opB ⟨t,r⟩ o kk && opsB ⟨t,r⟩ (ops.drop (j+1)) (kk+moreOf o)) by rw[ho];exact opsB_step (g:=⟨t,r⟩) (k:=kk) hjl (opO 0 .zero))
   have hmo:=fun h=>more_le (g:=⟨t,r⟩) (o:=o) (k:=kk) h
   obtain⟨bb,hbb⟩:∃m,m=opB ⟨t,r⟩ o kk:=⟨_,rfl⟩
   have hbt:opB ⟨t,r⟩ o kk=true:=by
    have h8:opsB ⟨t,r⟩ ops 0=true:=by
     cases h7:opsB ⟨t,r⟩ ops 0 with
     |true=>rfl
     |false=>exact absurd (by rw[HZ.out,h7];rfl) HVT.out
    have h9:=HST.out
    rw[←HK.out,h8] at h9
    exact(Bool.and_eq_true_iff.1 h9.symm).1
   have hOp:=fun d os=>Calls.regrown_of (vop_any t r n dA v.length dc ut ur (some ⟨ob,oo,none⟩) ops.length oc kk o x S (grow (redrawn wr d) os) (hIn.agr (Agr.below (below_regrown wr d os))) hot hbt)
   rw[v9refV_opB bb hbb] at hOp
   obtain⟨mo,hmo2⟩:∃m,m=moreOf o:=⟨_,rfl⟩
   simp only[←hmo2,←hbb] at hOp hmo
   have HST2:Hid (opsB ⟨t,r⟩ (ops.drop j) kk=(bb && opsB ⟨t,r⟩ (ops.drop (j+1)) (kk+mo))):=hid (by rw[hbb,hmo2];exact HST.out)
   have HRR:=hid (range_regrown (op_range hc))
   obtain⟨opl,hol⟩:∃l,l=opL o x:=⟨_,rfl⟩
   rw[←hol] at HRR
   have HNL:=hid (show(Tryz.prog.info? 125).map (·.size)=some opl.length by rw[hol];kernel_rfl)
   clear hbt HST hmo2 hbb ho hx hIn hot hX1 hX2 hc r6
   have HMo:=hid hmo
   clear hmo
   have HOL:=hid (show(.agg opl.toArray:Value)= .agg (opA o x) by rw[hol];rfl)
   clear hol
   have x0:=rg0 HAr.out
   have x1:=rg1 HAr.out
   have x2:=rg2 HAr.out
   have x3:=rg3 HAr.out
   have x4:=rg4 HAr.out
   have x5:=rg5 HAr.out
   have x6:=rg6 HAr.out
   have hwk:IntKind.i64.wrap ((j:Int)+1)=(j:Int)+1:=IntWalk.i64_in _ (by have:=H2.out;omega)
   have hix:j<ops.length:=hjl
   cases bb with
   |false=>
    obtain rfl:z=80:=by rw[HZ.out,HK.out,HST2.out];rfl
    exact absurd rfl HVT.out
   |true=>
    simp only[if_true] at hOp
    have hwm:IntKind.i64.wrap ((kk:Int)+(mo:Int))=(kk:Int)+(mo:Int):=IntWalk.i64_in _ (by have:=H2.out;have:=HMo.out rfl;omega)
    have m1:¬(mo:Int)<0:=by omega
    have m2:decide ((mo:Int)<0)=false:=decide_eq_false m1
    refine rqb ?_
    repeat(any_goals(first|(refine quiet_load_mid rfl _ _ rfl ob (oo+j*18) rfl opl _ HRR.out Tryz.underlying125 rfl HNL.out ?_;rw[HOL.out])|go_big_quiet_step (with_reducible exact hOp _ _)|quiet_step (with_reducible exact hOp _ _)))
    refine wpQuiet_nil ?_
    intro _ hw'
    obtain⟨⟨dq,osq⟩,hw''⟩:=hw'
    subst hw''
    have hBq:=below_regrown wr dq osq
    generalize grow (redrawn wr dq) osq=wq2 at *
    have HA3:=hid ((hBq.block w.heap.size (lt_of_block HAr.out)).trans HAr.out)
    have HB3:=hid (HBr.out.trans (hBq.mono HBr.out.size))
    clear hBq hOp x0 x1 x2 x3 x4 x5 x6
    go_wp2
    go_roundw
    case rel=>exact⟨j+1,kk+mo,by omega,by go_num,by go_num,by have:=HMo.out rfl;omega,hid (by rw[HK.out,HST2.out];rfl),HB3,HA3⟩
    case measure=>simp[RowKit.intOf];omega
  ·obtain rfl:j=ops.length:=by omega
   obtain rfl:z=0:=by rw[HZ.out,HK.out,List.drop_length];rfl
   go_wp2
   go_ret
   exact⟨rfl,HBr.out⟩
theorem vchk_any (g:Grp) (dA:Option Addr) (dc:Nat) (oA:Option Addr) (oc:Nat) (S:Nat→Prop) (w:World) (hI:GrIn w S g dA dc oA oc) (hTx:g.ops.length≤200→∀o∈g.ops,o.text.size≤1000000) (hck:chkB g=true):
  Calls Tryz.prog 54 #[.agg (grA g dA dc oA oc)] w fun e w'=>e= .returned (.int .i64 (if chkB g=true then 0 else 80))∧Below w.heap.size w w':=by
 obtain⟨⟨t,r⟩,n,v,⟨ut,ur⟩,ops⟩:=g
 have hl:=hI.dle
 have hc:dc≤9223372036854775807:=by have:=hI.dmax;simp only[maxLen] at this;omega
 have hn:=hI.nin
 have hD:=hI.deps.vec
 simp only at hl hn hD hTx
 rw[hck,if_pos rfl]
 have h9:=hck
 simp only[chkB,Bool.and_eq_true] at h9
 obtain⟨hh,h9⟩:=h9
 cases hu:Gst.eqb ⟨ut,ur⟩ ⟨0,0⟩ with
 |false=>
  refine vchk_undo t r n v ut ur ops dA dc oA oc w hl hc hn hD hh hu 0 ?_ (by decide)
  rw[if_neg (by rw[show Gst.eqb ⟨ut,ur⟩ .zero=false from hu];decide)] at h9
  rw[if_pos h9]
 |true=>
  rw[if_pos (show Gst.eqb ⟨ut,ur⟩ .zero=true from hu)] at h9
  simp only[Bool.and_eq_true,decide_eq_true_eq] at h9
  refine vchk_ops t r n v ut ur ops dA dc oA oc w hl hc hn hD hh hu h9.1.1 h9.1.2 S hI.ops (hTx h9.1.2) 0 ?_ (by decide)
  rw[if_pos h9.2]
end
section
section
open Go.RowKit Go.Lib Go.Sort
set_option linter.unusedVariables false
attribute [local go_sem ↓] Go.wp_at_zero Go.wp_at_succ
def firstO:Gop:={ opO 0 ⟨⟨1,1⟩,0⟩ with name:=⟨#[97]⟩,dir:=true }
def firstG:Grp:=⟨⟨1,1⟩,1,[],⟨0,0⟩,[firstO]⟩
theorem first_in (w:World) (g:Nat) (B:Nat) (hB:B≤g) (h:w.heap[g]? =some (.cells #[.int .i64 0,.int .i64 1,.int .i64 1,.int .i64 0,.int .i64 0,.int .i64 0,.int .i64 0,.string ⟨#[97]⟩,.bool true,.slice none 0 0,.int .i64 0,.int .i64 0,.int .i64 0,.int .i64 0,.int .i64 0,.int .i64 0,.string ⟨#[]⟩,.slice none 0 0] 125 (0,0))):
  GrIn w (fun k=>B≤k) firstG none 0 (some ⟨g,0,none⟩) 1:=by
 refine⟨RowG.zero,⟨fun _=>⟨none,0,none,0⟩,?_,?_⟩,Nat.le_refl _,Nat.le_refl _,Nat.zero_le _,by decide,⟨by decide,by decide⟩,fun x hx=>(by cases hx)⟩
 ·intro k hk
  obtain rfl:k=0:=by have:k<1:=hk;omega
  have hl:g<w.heap.size:=by
   rcases Nat.lt_or_ge g w.heap.size with hlt|hge
   ·exact hlt
   ·rw[Array.getElem?_eq_none hge] at h;cases h
  refine⟨g,0,rfl,hB,hl,fun j hj=> ?_⟩
  have e:(0+0*18+j:Nat)=j:=by omega
  rw[e,cell_of_row _ _ _ _ _ _ h]
  match j,hj with
  |0,_=>rfl
  |1,_=>rfl
  |2,_=>rfl
  |3,_=>rfl
  |4,_=>rfl
  |5,_=>rfl
  |6,_=>rfl
  |7,_=>rfl
  |8,_=>rfl
  |9,_=>rfl
  |10,_=>rfl
  |11,_=>rfl
  |12,_=>rfl
  |13,_=>rfl
  |14,_=>rfl
  |15,_=>rfl
  |16,_=>rfl
  |17,_=>rfl
  |n+18,h=>exact absurd h (by omega)
 ·intro k hk
  obtain rfl:k=0:=by have:k<1:=hk;omega
  exact⟨RowG.zero,RowG.zero,Nat.le_refl _,Nat.le_refl _,Nat.zero_le _,Nat.zero_le _,by decide,Nat.zero_le _⟩
def FirstQ (w:World) (e:Ending) (w':World):Prop:=∃a,e= .returned (.agg #[.int .i64 1,.int .i64 1,.int .i64 1,.slice none 0 0,.int .i64 0,.int .i64 0,.slice (some ⟨a,0,none⟩) 1 1])∧GrIn w' (fun k=>w.heap.size≤k) firstG none 0 (some ⟨a,0,none⟩) 1∧Below w.heap.size w w'
theorem firstg_any (w:World):Calls Tryz.prog 42 #[] w (FirstQ w):=by
 go_enter Tryz.func42,Tryz.ntmps42
 go_wp2
 refine bodyPost_ret (v:= .agg #[.int .i64 1,.int .i64 1,.int .i64 1,.slice none 0 0,.int .i64 0,.int .i64 0,.slice (some ⟨w.heap.size+1+1,0,none⟩) 1 1]) (by simp[results,Tryz.results42,go_sem]) rfl ?_
 exact⟨w.heap.size+1+1,rfl,first_in _ _ _ (by omega) (heap_alloc_newC _ _ (by simp)),(((Below.refl _ _).alloc (Nat.le_refl _) _).alloc (by simp) _).alloc (by simp;omega) _⟩
end
end
section
open Go.RowKit Go.Lib Go.Sort
set_option linter.unusedVariables false
attribute [local go_sem ↓] Go.wp_at_zero Go.wp_at_succ
theorem reffind_none (L:List (Grp×GrX)) (A:Option Addr) (c:Nat) (x:Gst) (w:World) (hl:L.length≤1000000) (hR:RowGr w A L) (hn:∀p∈L,p.1.s.eqb x=false):
  Calls Tryz.prog 165 #[.slice A L.length c,.agg #[.int .i64 x.t,.int .i64 x.r]] w fun e w'=>e= .returned (.int .i64 (-1))∧Below w.heap.size w w':=by
 obtain⟨xt,xr⟩:=x
 have hb0:Below w.heap.size w (w.alloc (.cells #[.int .i64 xt,.int .i64 xr] 42)):=(Below.refl _ _).alloc (Nat.le_refl _) _
 have HC:=hid (heap_alloc_new w (.cells #[.int .i64 xt,.int .i64 xr] 42))
 have hs0:(w.alloc (.cells #[.int .i64 xt,.int .i64 xr] 42)).heap.size=w.heap.size+1:=by simp
 have HS:=hid hs0
 have HB:=hid hb0
 have HR:=hid hR
 have HN:=hid hn
 clear hb0 hR hn hs0
 show Calls _ _ #[.slice A L.length c,.agg #[.int .i64 xt,.int .i64 xr]] _ _
 go_enter Tryz.func165,Tryz.ntmps165
 go_upto_region 2 with(fail)
 generalize hW0:w.alloc (.cells #[.int .i64 xt,.int .i64 xr] 42)=W0 at *
 clear hW0
 go_loopw [5] (fun i wr=>∃k:Nat,i= .int .i64 k∧k≤L.length∧Hid (Below W0.heap.size W0 wr)) (fun i _=>L.length-(RowKit.intOf i).toNat)
 case atStart=>exact⟨0,rfl,Nat.zero_le _,hid (Below.refl _ _)⟩
 case round=>
  obtain⟨k,rfl,hk,HBr⟩:=hrel
  have HBw:=hid (HB.out.trans (HBr.out.mono HB.out.size))
  by_cases hlt:k<L.length
  ·obtain⟨rb,ro,rfl,hrb,hrange⟩:=RowGr.range (RowGr.below HR.out HBw.out) hlt
   have i0:(0:Int)≤(k:Int):=by omega
   have i1:(k:Int)<(L.length:Int):=by omega
   have hm:L.getD k gp0∈L:=by rw[List.getD_eq_getElem?_getD,List.getElem?_eq_getElem hlt];exact List.getElem_mem hlt
   have hne:=HN.out _ hm
   generalize L.getD k gp0=p at *
   obtain⟨⟨⟨t,r⟩,n,dv,⟨ut,ur⟩,ops⟩,⟨dA,dc,oA,oc⟩⟩:=p
   have q1:=eq_st t r xt xr false hne
   have HCr:=hid ((HBr.out.block w.heap.size (by rw[HS.out];omega)).trans HC.out)
   have x0:=rg0 HCr.out
   have x1:=rg1 HCr.out
   have y0:=cell_regrown (w:=wr) (a:=⟨rb,ro+k*7,none⟩) (v:= .int .i64 t) (hrange 0 _ rfl)
   have y1:=cell_regrown (w:=wr) (a:=⟨rb,ro+k*7+1,none⟩) (v:= .int .i64 r) (hrange 1 _ rfl)
   clear hne hm hrange
   go_upto_region 4 with(fail)
   refine rqb ?_
   repeat(any_goals(first|go_big_quiet_step (fail)|quiet_step (fail)))
   refine qz fun wq hBq=> ?_
   go_wp2
   go_roundw
   case rel=>exact⟨k+1,by go_num,by omega,hid (HBr.out.trans (hBq.mono HBr.out.size))⟩
   case measure=>(simp[RowKit.intOf];omega)
  ·obtain rfl:k=L.length:=by omega
   have i1:¬(L.length:Int)<(L.length:Int):=by omega
   go_wp2
   go_ret
   exact⟨rfl,HBw.out⟩
theorem flat_take_succ {L:List (Grp×GrX)} {k:Nat} (h:k<L.length):(L.take (k+1)).flatMap grC_=(L.take k).flatMap grC_++grC_ (L.getD k gp0):=by
 rw[List.take_add_one,List.flatMap_append,List.getElem?_eq_getElem h,List.getD_eq_getElem?_getD,List.getElem?_eq_getElem h]
 simp
theorem refrights_any (L:List (Grp×GrX)) (A:Option Addr) (c:Nat) (S:Nat→Prop) (w:World) (hl:L.length≤100000) (hR:RowGr w A L) (hG:∀p∈L,GrG w S p) (hT:∀p∈L,∀o∈p.1.ops,o.text.size≤1000000) (hck:∀p∈L,chkB p.1=true) (hnd:(L.map (·.1.s)).Nodup):
  Calls Tryz.prog 106 #[.slice A L.length c] w fun e w'=>∃A' c',e= .returned (.slice A' L.length c')∧w'.ownsRow w.heap.size 45 7 (.slice A' L.length c') L.length (L.flatMap grC_)∧Below w.heap.size w w':=by
 obtain⟨i0,hi,hz0,hz1,hz2⟩:=info_parts infogrC_
 have HR:=hid hR
 have HG:=hid hG
 have HT:=hid hT
 have HCK:=hid hck
 have HND:=hid hnd
 clear hR hG hT hck hnd
 go_enter Tryz.func106,Tryz.ntmps106
 go_upto_region 3 with(fail)
 go_loopw [3,4] (fun o i wr=>∃(k:Nat) (A':Option Addr) (c':Nat),k≤L.length∧i= .int .i64 k∧o= .slice A' k c'∧Hid (wr.ownsRow w.heap.size 45 7 (.slice A' k c') k ((L.take k).flatMap grC_))∧Hid (Below w.heap.size w wr)) (fun o i _=>L.length-(RowKit.intOf i).toNat)
 case atStart=>exact⟨0,none,0,Nat.zero_le _,rfl,rfl,hid (World.ownsRow_nil _ _ _ _),hid (Below.refl _ _)⟩
 case round=>
  obtain⟨k,A',c',hk,rfl,rfl,HO,HBr⟩:=hrel
  by_cases hlt:k<L.length
  ·obtain⟨rb,ro,rfl,hrb,hrange⟩:=RowGr.range (RowGr.below HR.out HBr.out) hlt
   have hbw:rb<w.heap.size:=by obtain⟨b',o',e',-,hb',-⟩:=HR.out k hlt;cases e';exact hb'
   have i0':(0:Int)≤(k:Int):=by omega
   have i1:(k:Int)<(L.length:Int):=by omega
   have hsz:=HBr.out.size
   have hm:L.getD k gp0∈L:=by rw[List.getD_eq_getElem?_getD,List.getElem?_eq_getElem hlt];exact List.getElem_mem hlt
   have hgood:GrG wr S (L.getD k gp0):=(HG.out _ hm).agr (Agr.below HBr.out)
   have htx:=HT.out _ hm
   have hch:=HCK.out _ hm
   have HTK:=hid (flat_take_succ hlt)
   have hne:∀q∈L.take k,q.1.s.eqb (L.getD k gp0).1.s=false:=fun q hq=>by
    cases e:q.1.s.eqb (L.getD k gp0).1.s with
    |false=>rfl
    |true=>
     exfalso
     rw[Gst.eqb_iff] at e
     obtain⟨j,hj,rfl⟩:=List.getElem_of_mem hq
     have hjk:j<k:=by rw[List.length_take] at hj;omega
     rw[List.getElem_take] at e
     rw[List.getD_eq_getElem?_getD,List.getElem?_eq_getElem hlt] at e
     have hp:=(List.pairwise_iff_getElem.1 HND.out) j k (by rw[List.length_map];omega) (by rw[List.length_map];exact hlt) hjk
     rw[List.getElem_map,List.getElem_map] at hp
     exact hp e
   have hRt:RowGr wr A' (L.take k):=by
    have hlk:(L.take k).length=k:=by rw[List.length_take];omega
    have:=HO.out
    refine RowGr.own (c:=c') (B:=w.heap.size) (E:=45) ?_
    rw[hlk];exact this
   have hlk:(L.take k).length=k:=by rw[List.length_take];omega
   generalize L.getD k gp0=p at *
   obtain⟨⟨⟨t,r⟩,n,dv,⟨ut,ur⟩,ops⟩,⟨dA,dc,oA,oc⟩⟩:=p
   have hch:chkB ⟨⟨t,r⟩,n,dv,⟨ut,ur⟩,ops⟩=true:=hch
   have HCC:=hid (vchk_any ⟨⟨t,r⟩,n,dv,⟨ut,ur⟩,ops⟩ dA dc oA oc S wr hgood (fun _=>htx) hch)
   rw[hch,if_pos rfl] at HCC
   have HFN:=hid (fun W (hB:Below wr.heap.size wr W)=>show Calls Tryz.prog 165 #[.slice A' k c',.agg #[.int .i64 t,.int .i64 r]] W fun e w'=>e= .returned (.int .i64 (-1))∧Below W.heap.size W w' from by
    have:=reffind_none (L.take k) A' c' ⟨t,r⟩ W (by omega) (RowGr.below hRt hB) hne
    rw[hlk] at this
    exact this)
   have y0:wr.cell? ⟨rb,ro+k*7,none⟩=some (.int .i64 t):=hrange 0 _ rfl
   have y1:wr.cell? ⟨rb,ro+k*7+1,none⟩=some (.int .i64 r):=hrange 1 _ rfl
   have y2:wr.cell? ⟨rb,ro+k*7+2,none⟩=some (.int .i64 n):=hrange 2 _ rfl
   have y3:wr.cell? ⟨rb,ro+k*7+3,none⟩=some (.slice dA dv.length dc):=hrange 3 _ rfl
   have y4:wr.cell? ⟨rb,ro+k*7+4,none⟩=some (.int .i64 ut):=hrange 4 _ rfl
   have y5:wr.cell? ⟨rb,ro+k*7+5,none⟩=some (.int .i64 ur):=hrange 5 _ rfl
   have y6:wr.cell? ⟨rb,ro+k*7+6,none⟩=some (.slice oA ops.length oc):=hrange 6 _ rfl
   clear hrange hgood htx hch hm hne hRt hlk
   go_upto_region 6 with(first
    |(go_at_call 54;refine HCC.out.mono ?_;rintro e w1 ⟨rfl,hB1⟩;have HB1:=hid hB1;have z0:=(World.cell?_of_block (w:=wr) (w':=w1) (a:=⟨rb,ro+k*7,none⟩) (hB1.block rb (by omega))).trans y0;have z1:=(World.cell?_of_block (w:=wr) (w':=w1) (a:=⟨rb,ro+k*7+1,none⟩) (hB1.block rb (by omega))).trans y1;have z2:=(World.cell?_of_block (w:=wr) (w':=w1) (a:=⟨rb,ro+k*7+2,none⟩) (hB1.block rb (by omega))).trans y2;have z3:=(World.cell?_of_block (w:=wr) (w':=w1) (a:=⟨rb,ro+k*7+3,none⟩) (hB1.block rb (by omega))).trans y3;have z4:=(World.cell?_of_block (w:=wr) (w':=w1) (a:=⟨rb,ro+k*7+4,none⟩) (hB1.block rb (by omega))).trans y4;have z5:=(World.cell?_of_block (w:=wr) (w':=w1) (a:=⟨rb,ro+k*7+5,none⟩) (hB1.block rb (by omega))).trans y5;have z6:=(World.cell?_of_block (w:=wr) (w':=w1) (a:=⟨rb,ro+k*7+6,none⟩) (hB1.block rb (by omega))).trans y6;clear hB1)
    |(go_at_call 165;refine(HFN.out w1 HB1.out).mono ?_;rintro e w2 ⟨rfl,hB2⟩;have HB2:=hid (HB1.out.trans (hB2.mono HB1.out.size));have hs1:=HB1.out.size;have v0:=(World.cell?_of_block (w:=w1) (w':=w2) (a:=⟨rb,ro+k*7,none⟩) (hB2.block rb (by omega))).trans z0;have v1:=(World.cell?_of_block (w:=w1) (w':=w2) (a:=⟨rb,ro+k*7+1,none⟩) (hB2.block rb (by omega))).trans z1;have v2:=(World.cell?_of_block (w:=w1) (w':=w2) (a:=⟨rb,ro+k*7+2,none⟩) (hB2.block rb (by omega))).trans z2;have v3:=(World.cell?_of_block (w:=w1) (w':=w2) (a:=⟨rb,ro+k*7+3,none⟩) (hB2.block rb (by omega))).trans z3;have v4:=(World.cell?_of_block (w:=w1) (w':=w2) (a:=⟨rb,ro+k*7+4,none⟩) (hB2.block rb (by omega))).trans z4;have v5:=(World.cell?_of_block (w:=w1) (w':=w2) (a:=⟨rb,ro+k*7+5,none⟩) (hB2.block rb (by omega))).trans z5;have v6:=(World.cell?_of_block (w:=w1) (w':=w2) (a:=⟨rb,ro+k*7+6,none⟩) (hB2.block rb (by omega))).trans z6;clear hB2))
   have hs2:=HB2.out.size
   have HO2:=hid (HO.out.kept (gby_below (r:=none) HB2.out) (Classical.em _))
   have HBw2:=hid (HBr.out.trans (HB2.out.mono hsz))
   clear y0 y1 y2 y3 y4 y5 y6 z0 z1 z2 z3 z4 z5 z6
   go_wp2_with (at_builtin;refine wpList_append_own _ rfl _ _ 25 rfl w.heap.size 45 i0 (.agg #[.int .i64 0,.int .i64 0,.int .i64 0,.slice none 0 0,.int .i64 0,.int .i64 0,.slice none 0 0]) 7 88 Tryz.underlying25 hi hz0 hz1 hz2 rfl (by decide) _ _ _ rfl (by exact HO2.out.alloc _) ⟨w2.heap.size,0,none⟩ 1 1 [.int .i64 t,.int .i64 r,.int .i64 n,.slice dA dv.length dc,.int .i64 ut,.int .i64 ur,.slice oA ops.length oc] rfl rfl (fun j y h=>cellsN w2 [.int .i64 t,.int .i64 r,.int .i64 n,.slice dA dv.length dc,.int .i64 ut,.int .i64 ur,.slice oA ops.length oc] 45 j y h) (ocgrC_ (⟨⟨t,r⟩,n,dv,⟨ut,ur⟩,ops⟩,⟨dA,dc,oA,oc⟩)) (by unfold maxLen;omega) (by omega) (by simp;omega) ?_;intro v' w3 hown hgrow hnil)
   obtain⟨A3,c3,rfl⟩:=row_slice hown
   have HO3:=hid (show w3.ownsRow w.heap.size 45 7 (.slice A3 (k+1) c3) (k+1) ((L.take (k+1)).flatMap grC_) by rw[HTK.out];exact hown)
   have HB3:=hid ((HBw2.out.alloc HBw2.out.size _).grown hgrow (by simp;have:=HBw2.out.size;omega) (fun b hb=>HO.out.lt b hb |>.1))
   clear hown hgrow hnil
   go_roundw
   case rel=>exact⟨k+1,A3,c3,by omega,by go_num,rfl,HO3,HB3⟩
   case measure=>(simp[RowKit.intOf];omega)
  ·obtain rfl:k=L.length:=by omega
   have i1:¬(L.length:Int)<(L.length:Int):=by omega
   go_wp2
   go_ret
   refine⟨A',c',rfl,?_,HBr.out⟩
   have:=HO.out
   rw[List.take_length] at this
   exact this
end
end Go.Proofs.YtkhmicndehlneaaGreatDoor
