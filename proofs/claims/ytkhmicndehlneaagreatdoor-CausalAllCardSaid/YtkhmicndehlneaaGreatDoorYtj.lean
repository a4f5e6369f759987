/- Part 10 of the walks and plain laws that this claim uses, joined. Conditions: as each theorem states. -/
import Derived.ChangeSame
import Derived.Deep.Slices
import Derived.DeepKeys4
import Derived.Lib.VarintBits
import Derived.Lib.Zigzag
import Derived.Maps.AppendAt
import Derived.Maps.OwnSet
import Derived.OrdersHeld
import Derived.OwnWalk
import Derived.SizedLaws
import Derived.Tactics
import Derived.Test.YtkhmicndehlneaaGreatDoorYti
namespace Go.Proofs.YtkhmicndehlneaaGreatDoor
set_option maxRecDepth 100000
set_option maxHeartbeats 16000000
section
open Go.RowKit Go.Lib Go.Sort
set_option linter.unusedVariables false
attribute [local go_sem ↓] Go.wp_at_zero Go.wp_at_succ
theorem vop_any (gt gr:Int) (n':Int) (dA':Option Addr) (dn' dc':Nat) (ut ur:Int) (oA:Option Addr) (on oc:Nat) (k:Nat) (o:Gop) (x:OpX) (S:Nat→Prop) (w:World) (hI:OpIn w S o x) (ht:o.text.size≤1000000) (hvt:opB ⟨gt,gr⟩ o k=true):
  Calls Tryz.prog 104 #[.agg #[.int .i64 gt,.int .i64 gr,.int .i64 n',.slice dA' dn' dc',.int .i64 ut,.int .i64 ur,.slice oA on oc],.agg (opA o x),.int .i64 k] w fun e w'=>e= .returned (.int .i64 (v9refV ⟨gt,gr⟩ o k))∧Below w.heap.size w w':=by
 have hvt:(kindB ⟨gt,gr⟩ o k && bareB o)=true:=by rw[Bool.and_comm];exact hvt
 obtain⟨kind,⟨⟨nt,nr⟩,ni⟩,⟨⟨pt,pr⟩,pi⟩,name,dir,dots,⟨⟨at_,ar⟩,ai⟩,⟨⟨et,er⟩,ei⟩,text,elems⟩:=o
 obtain⟨dA,dc,eA,ec⟩:=x
 have hdl:=Nat.le_trans hI.dle hI.dmax
 have hel:=Nat.le_trans hI.ele hI.emax
 have hna:=hI.name
 have hDo:=hI.dots
 have hEl:=hI.elems
 simp only[maxLen] at hdl hel hna hDo hEl ht
 by_cases k0:kind=0
 ·subst k0
  exact vop_0 gt gr n' dA' dn' dc' ut ur oA on oc k nt nr ni pt pr pi name dir dots at_ ar ai et er ei text elems dA dc eA ec S w (by omega) (by omega) (by omega) hDo hEl hvt
 by_cases k1:kind=1
 ·subst k1
  exact vop_1 gt gr n' dA' dn' dc' ut ur oA on oc k nt nr ni pt pr pi name dir dots at_ ar ai et er ei text elems dA dc eA ec S w (by omega) (by omega) (by omega) hDo hEl hvt
 by_cases k2:kind=2
 ·subst k2
  exact vop_2 gt gr n' dA' dn' dc' ut ur oA on oc k nt nr ni pt pr pi name dir dots at_ ar ai et er ei text elems dA dc eA ec S w (by omega) (by omega) (by omega) hDo hEl hvt
 by_cases k4:kind=4
 ·subst k4
  exact vop_4 gt gr n' dA' dn' dc' ut ur oA on oc k nt nr ni pt pr pi name dir dots at_ ar ai et er ei text elems dA dc eA ec S w (by omega) (by omega) (by omega) hDo hEl hvt
 by_cases k3:kind=3
 ·subst k3
  cases hc:cnt text.data.toList with
  |none=>
   exfalso
   have h9:=(Bool.and_eq_true_iff.1 hvt).1
   unfold kindB at h9
   simp only[textB,cnt_valid,hc] at h9
   simp at h9
  |some m=>exact vop_3s gt gr n' dA' dn' dc' ut ur oA on oc k nt nr ni pt pr pi name dir dots at_ ar ai et er ei text elems dA dc eA ec S w (by omega) (by omega) (by omega) hDo hEl ht m hc hvt
 exfalso
 have h9:=(Bool.and_eq_true_iff.1 hvt).1
 unfold kindB at h9
 simp[k0,k1,k2,k3,k4] at h9
theorem v9head_parts {t r n:Int} {v:List Int} {ut ur:Int} {ops:List Gop} (h:headB ⟨⟨t,r⟩,n,v,⟨ut,ur⟩,ops⟩=true):Gst.right ⟨t,r⟩=true∧1≤n∧n≤1099511627776∧vecB v=true∧atV v r=n-1:=by
 simp only[headB,Bool.and_eq_true,decide_eq_true_eq] at h
 exact⟨h.1.1.1.1,h.1.1.1.2,h.1.1.2,h.1.2,h.2⟩
theorem vchk_undo (t r n:Int) (v:List Int) (ut ur:Int) (ops:List Gop) (dA:Option Addr) (dc:Nat) (oA:Option Addr) (oc:Nat) (w:World) (hl:v.length≤dc) (hc:dc≤9223372036854775807) (hn:i63 n) (hD:VecR w dA v) (hh:headB ⟨⟨t,r⟩,n,v,⟨ut,ur⟩,ops⟩=true) (hu:Gst.eqb ⟨ut,ur⟩ ⟨0,0⟩=false) (z:Int) (hz:z=if (Gst.right ⟨ut,ur⟩ && Gst.lt ⟨ut,ur⟩ ⟨t,r⟩ && decide (ops.length=0))=true then 0 else 80) (hvz:z≠80):
  Calls Tryz.prog 54 #[.agg #[.int .i64 t,.int .i64 r,.int .i64 n,.slice dA v.length dc,.int .i64 ut,.int .i64 ur,.slice oA ops.length oc]] w fun e w'=>e= .returned (.int .i64 z)∧Below w.heap.size w w':=by
 have HZ:=hid hz
 have HVT:=hid hvz
 clear hvz
 clear hz
 obtain⟨hR,h1,h2,hV,h3⟩:=v9head_parts hh
 have hn2:=hn
 unfold i63 at hn2
 obtain⟨W,hW⟩:∃W,W=w.alloc (.cells #[.int .i64 t,.int .i64 r,.int .i64 n,.slice dA v.length dc,.int .i64 ut,.int .i64 ur,.slice oA ops.length oc] 45):=⟨_,rfl⟩
 have hBW:Below w.heap.size w W:=by subst hW;exact(Below.refl _ _).alloc (Nat.le_refl _) _
 have hD2:=hD.below hBW
 have hA:W.heap[w.heap.size]? =some (.cells #[.int .i64 t,.int .i64 r,.int .i64 n,.slice dA v.length dc,.int .i64 ut,.int .i64 ur,.slice oA ops.length oc] 45 (0,0)):=by subst hW;exact heap_alloc_new _ _
 have x0:=rg0 hA
 have x1:=rg1 hA
 have x2:=rg2 hA
 have x3:=rg3 hA
 have cR:=fun d os=>Calls.regrown_of (refright_any t r (grow (redrawn W d) os))
 have cV:=fun d os=>Calls.regrown_of (refvector_any dA dc v (grow (redrawn W d) os) hl (by omega) (hD2.regrown d os))
 have cA:=fun d os=>Calls.regrown_same (refat_any dA dc v r (grow (redrawn W d) os) (by omega) (hD2.regrown d os))
 have HW:=hid hW
 have HA:=hid hA
 have HBW:=hid hBW
 clear hA hD2 hW hBW
 rw[hR] at cR
 rw[hV] at cV
 have t1:decide (n<1)=false:=decide_eq_false (by omega)
 have s1:¬n<1:=by omega
 have t2:decide (1099511627776<n)=false:=decide_eq_false (by omega)
 have s2:¬1099511627776<n:=by omega
 have hw:IntKind.i64.wrap (n-1)=n-1:=IntWalk.i64_in _ (by omega)
 have HD:=hid hD
 rw[h3] at cA
 have t3:(n-1 == n-1)=true:=beq_self_eq_true _
 have t4:(n-1 != n-1)=false:=by rw[bne_eq_false_iff_eq]
 have hne:=ne_st ut ur 0 0 false hu
 clear hh h3 hV hR hl hc hn hn2 hD hu h1 h2
 go_enter Tryz.func54,Tryz.ntmps54
 go_upto_region 1 with fail
 rw[←HW.out]
 refine rqb ?_
 repeat(any_goals(first|go_big_quiet_step (with_reducible first|exact cR _ _|exact cV _ _|exact cA _ _)|quiet_step (with_reducible first|exact cR _ _|exact cV _ _|exact cA _ _)))
 refine qz fun wq hBq=> ?_
 have HA2:=hid ((hBq.block w.heap.size (lt_of_block HA.out)).trans HA.out)
 have HB2:=hid (HBW.out.trans (hBq.mono HBW.out.size))
 clear hBq x0 x1 x2 x3 cR cV cA t1 t2 s1 s2 hw t3 t4 HW HA HBW
 have r0:=cw0 HA2.out
 have r1:=cw1 HA2.out
 have r2:=cw2 HA2.out
 have r3:=cw3 HA2.out
 have r4:=cw4 HA2.out
 have r5:=cw5 HA2.out
 have r6:=cw6 HA2.out
 go_upto_region 4 with fail
 clear hne
 have x0:=rg0 HA2.out
 have x1:=rg1 HA2.out
 have x4:=rg4 HA2.out
 have x5:=rg5 HA2.out
 have x6:=rg6 HA2.out
 have cU:=fun d os=>Calls.regrown_of (refright_any ut ur (grow (redrawn wq d) os))
 have cB:=fun d os=>Calls.regrown_of (before_any ut ur t r (grow (redrawn wq d) os))
 clear r0 r1 r2 r3 r4 r5 r6 HA2 HD
 cases hU:Gst.right ⟨ut,ur⟩ with
 |false=>
  obtain rfl:z=80:=by rw[HZ.out,hU];simp
  exact absurd rfl HVT.out
 |true=>
 have HU:=hid hU
 rw[hU] at cU
 clear hU
 cases hL:Gst.lt ⟨ut,ur⟩ ⟨t,r⟩ with
 |false=>
  obtain rfl:z=80:=by rw[HZ.out,hL];simp
  exact absurd rfl HVT.out
 |true=>
 have HL:=hid hL
 rw[hL] at cB
 clear hL
 by_cases h0:ops.length=0
 ·obtain rfl:z=0:=by rw[HZ.out,HU.out,HL.out,h0];simp
  have e1:ops=[]:=List.eq_nil_of_length_eq_zero h0
  subst e1
  clear h0
  refine wp_plain_quiet_below ?_
  repeat(any_goals(first|go_big_quiet_step (with_reducible first|exact cU _ _|exact cB _ _)|quiet_step (with_reducible first|exact cU _ _|exact cB _ _)))
  refine qz fun wq hBq=> ?_
  go_wp2
  go_ret
  exact⟨rfl,HB2.out.trans (hBq.mono HB2.out.size)⟩
 ·obtain rfl:z=80:=by rw[HZ.out,decide_eq_false h0];simp
  exact absurd rfl HVT.out
theorem v9refV_opB {g:Gst} {o:Gop} {k:Nat} (b:Bool) (h:b=opB g o k):v9refV g o k=if b=true then (moreOf o:Int) else -1:=by
 unfold v9refV
 rw[h]
 unfold opB
 rw[Bool.and_comm]
theorem vchk_ops (t r n:Int) (v:List Int) (ut ur:Int) (ops:List Gop) (dA:Option Addr) (dc:Nat) (oA:Option Addr) (oc:Nat) (w:World) (hl:v.length≤dc) (hc:dc≤9223372036854775807) (hn:i63 n) (hD:VecR w dA v) (hh:headB ⟨⟨t,r⟩,n,v,⟨ut,ur⟩,ops⟩=true) (hu:Gst.eqb ⟨ut,ur⟩ ⟨0,0⟩=true) (h1:1≤ops.length) (h2:ops.length≤200) (S:Nat→Prop) (hO:OpsS w S oA ops) (hTx:∀o∈ops,o.text.size≤1000000) (z:Int) (hz:z=if opsB ⟨t,r⟩ ops 0=true then 0 else 80) (hvz:z≠80):
  Calls Tryz.prog 54 #[.agg #[.int .i64 t,.int .i64 r,.int .i64 n,.slice dA v.length dc,.int .i64 ut,.int .i64 ur,.slice oA ops.length oc]] w fun e w'=>e= .returned (.int .i64 z)∧Below w.heap.size w w':=by
 have HO:=hid hO
 have HTx:=hid hTx
 have HZ:=hid hz
 have HVT:=hid hvz
 clear hvz
 have H1:=hid h1
 have H2:=hid h2
 clear hO hTx hz h1 h2
 obtain⟨hR,h1,h2,hV,h3⟩:=v9head_parts hh
 have hn2:=hn
 unfold i63 at hn2
 obtain⟨W,hW⟩:∃W,W=w.alloc (.cells #[.int .i64 t,.int .i64 r,.int .i64 n,.slice dA v.length dc,.int .i64 ut,.int .i64 ur,.slice oA ops.length oc] 45):=⟨_,rfl⟩
 have hBW:Below w.heap.size w W:=by subst hW;exact(Below.refl _ _).alloc (Nat.le_refl _) _
 have hD2:=hD.below hBW
 have hA:W.heap[w.heap.size]? =some (.cells #[.int .i64 t,.int .i64 r,.int .i64 n,.slice dA v.length dc,.int .i64 ut,.int .i64 ur,.slice oA ops.length oc] 45 (0,0)):=by subst hW;exact heap_alloc_new _ _
 have x0:=rg0 hA
 have x1:=rg1 hA
 have x2:=rg2 hA
 have x3:=rg3 hA
 have cR:=fun d os=>Calls.regrown_of (refright_any t r (grow (redrawn W d) os))
 have cV:=fun d os=>Calls.regrown_of (refvector_any dA dc v (grow (redrawn W d) os) hl (by omega) (hD2.regrown d os))
 have cA:=fun d os=>Calls.regrown_same (refat_any dA dc v r (grow (redrawn W d) os) (by omega) (hD2.regrown d os))
 have HW:=hid hW
 have HA:=hid hA
 have HBW:=hid hBW
 clear hA hD2 hW hBW
 rw[hR] at cR
 rw[hV] at cV
 have t1:decide (n<1)=false:=decide_eq_false (by omega)
 have s1:¬n<1:=by omega
 have t2:decide (1099511627776<n)=false:=decide_eq_false (by omega)
 have s2:¬1099511627776<n:=by omega
 have hw:IntKind.i64.wrap (n-1)=n-1:=IntWalk.i64_in _ (by omega)
 have HD:=hid hD
 rw[h3] at cA
 have t3:(n-1 == n-1)=true:=beq_self_eq_true _
 have t4:(n-1 != n-1)=false:=by rw[bne_eq_false_iff_eq]
 have hne:=ne_st ut ur 0 0 true hu
 clear hh h3 hV hR hl hc hn hn2 hD hu h1 h2
 go_enter Tryz.func54,Tryz.ntmps54
 go_upto_region 1 with fail
 rw[←HW.out]
 refine rqb ?_
 repeat(any_goals(first|go_big_quiet_step (with_reducible first|exact cR _ _|exact cV _ _|exact cA _ _)|quiet_step (with_reducible first|exact cR _ _|exact cV _ _|exact cA _ _)))
 refine qz fun wq hBq=> ?_
 have HA2:=hid ((hBq.block w.heap.size (lt_of_block HA.out)).trans HA.out)
 have HB2:=hid (HBW.out.trans (hBq.mono HBW.out.size))
 clear hBq x0 x1 x2 x3 cR cV cA t1 t2 s1 s2 hw t3 t4 HW HA HBW
 have r0:=cw0 HA2.out
 have r1:=cw1 HA2.out
 have r2:=cw2 HA2.out
 have r3:=cw3 HA2.out
 have r4:=cw4 HA2.out
 have r5:=cw5 HA2.out
 have r6:=cw6 HA2.out
 have b1:decide (ops.length<1)=false:=by rw[decide_eq_false_iff_not];have:=H1.out;omega
 have b2:¬(ops.length:Int)<1:=by have:=H1.out;omega
 have b3:decide (200<ops.length)=false:=by rw[decide_eq_false_iff_not];have:=H2.out;omega
 have b4:¬200<(ops.length:Int):=by have:=H2.out;omega
 have b5:decide (ops.length=0)=false:=by rw[decide_eq_false_iff_not];have:=H1.out;omega
 have b6:decide (0<ops.length)=true:=by rw[decide_eq_true_eq];have:=H1.out;omega
 have b7:¬ops=[]:=by intro e;have:=H1.out;rw[e] at this;simp at this
 go_upto_region 11 with(fail)
 clear b1 b2 b3 b4 b5 b6 b7 hne
 go_loopw [3,4] (fun k i wr=>∃j kk:Nat,j≤ops.length∧i= .int .i64 j∧k= .int .i64 kk∧kk≤2000*j∧Hid (opsB ⟨t,r⟩ ops 0=opsB ⟨t,r⟩ (ops.drop j) kk)∧Hid (Below w.heap.size w wr)∧Hid (wr.heap[w.heap.size]? =some (.cells #[.int .i64 t,.int .i64 r,.int .i64 n,.slice dA v.length dc,.int .i64 ut,.int .i64 ur,.slice oA ops.length oc] 45 (0,0)))) (fun _ i _=>ops.length-(RowKit.intOf i).toNat)
 case atStart=>exact⟨0,0,by omega,rfl,rfl,by omega,hid rfl,HB2,HA2⟩
 case round=>
  clear r0 r1 r2 r3 r4 r5 r6
  obtain⟨j,kk,hj,rfl,rfl,hkk,HK,HBr,HAr⟩:=hrel
  have r6:=cw6 HAr.out
  by_cases hjl:j<ops.length
  ·have hl1:(j:Int)<(ops.length:Int):=by omega
   have hl2:decide ((j:Int)<(ops.length:Int))=true:=decide_eq_true hl1
   go_upto_region 13 with fail
   obtain⟨X,hX1,hX2⟩:=OpsS.agr HO.out (Agr.below HBr.out)
   obtain⟨ob,oo,rfl,hS,hob,hc⟩:=hX1 j hjl
   have hIn:=hX2 j hjl
   obtain⟨o,ho⟩:∃o,o=ops.getD j (opO 0 .zero):=⟨_,rfl⟩
   obtain⟨x,hx⟩:∃x,x=X j:=⟨_,rfl⟩
   rw[←ho] at hIn
   simp only[←ho,←hx] at hIn hc
   have hot:o.text.size≤1000000:=HTx.out o (by rw[ho];simp[List.getD,hjl])
   have HST:=hid (show opsB ⟨t,r⟩ (ops.drop j) kk=(opB ⟨t,r⟩ o kk && opsB ⟨t,r⟩ (ops.drop (j+1)) (kk+moreOf o)) by rw[ho];exact opsB_step (g:=⟨t,r⟩) (k:=kk) hjl (opO 0 .zero))
   have hmo:=fun h=>more_le (g:=⟨t,r⟩) (o:=o) (k:=kk) h
   obtain⟨bb,hbb⟩:∃m,m=opB ⟨t,r⟩ o kk:=⟨_,rfl⟩
   have hbt:opB ⟨t,r⟩ o kk=true:=by
    have h8:opsB ⟨t,r⟩ ops 0=true:=by
     cases h7:opsB ⟨t,r⟩ ops 0 with
     |true=>rfl
     |false=>exact absurd (by rw[HZ.out,h7];rfl) HVT.out
    have h9:=HST.out
    rw[←HK.out,h8] at h9
    exact(Bool.and_eq_true_iff.1 h9.symm).1
   have hOp:=fun d os=>Calls.regrown_of (vop_any t r n dA v.length dc ut ur (some ⟨ob,oo,none⟩) ops.length oc kk o x S (grow (redrawn wr d) os) (hIn.agr (Agr.below (below_regrown wr d os))) hot hbt)
   rw[v9refV_opB bb hbb] at hOp
   obtain⟨mo,hmo2⟩:∃m,m=moreOf o:=⟨_,rfl⟩
   simp only[←hmo2,←hbb] at hOp hmo
   have HST2:Hid (opsB ⟨t,r⟩ (ops.drop j) kk=(bb && opsB ⟨t,r⟩ (ops.drop (j+1)) (kk+mo))):=hid (by rw[hbb,hmo2];exact HST.out)
   have HRR:=hid (range_regrown (op_range hc))
   obtain⟨opl,hol⟩:∃l,l=opL o x:=⟨_,rfl⟩
   rw[←hol] at HRR
   have HNL:=hid (show(Tryz.prog.info? 125).map (·.size)=some opl.length by rw[hol];kernel_rfl)
   clear hbt HST hmo2 hbb ho hx hIn hot hX1 hX2 hc r6
   have HMo:=hid hmo
   clear hmo
   have HOL:=hid (show(.agg opl.toArray:Value)= .agg (opA o x) by rw[hol];rfl)
   clear hol
   have x0:=rg0 HAr.out
   have x1:=rg1 HAr.out
   have x2:=rg2 HAr.out
   have x3:=rg3 HAr.out
   have x4:=rg4 HAr.out
   have x5:=rg5 HAr.out
   have x6:=rg6 HAr.out
   have hwk:IntKind.i64.wrap ((j:Int)+1)=(j:Int)+1:=IntWalk.i64_in _ (by have:=H2.out;omega)
   have hix:j<ops.length:=hjl
   cases bb with
   |false=>
    obtain rfl:z=80:=by rw[HZ.out,HK.out,HST2.out];rfl
    exact absurd rfl HVT.out
   |true=>
    simp only[if_true] at hOp
    have hwm:IntKind.i64.wrap ((kk:Int)+(mo:Int))=(kk:Int)+(mo:Int):=IntWalk.i64_in _ (by have:=H2.out;have:=HMo.out rfl;omega)
    have m1:¬(mo:Int)<0:=by omega
    have m2:decide ((mo:Int)<0)=false:=decide_eq_false m1
    refine rqb ?_
    repeat(any_goals(first|(refine quiet_load_mid rfl _ _ rfl ob (oo+j*18) rfl opl _ HRR.out Tryz.underlying125 rfl HNL.out ?_;rw[HOL.out])|go_big_quiet_step (with_reducible exact hOp _ _)|quiet_step (with_reducible exact hOp _ _)))
    refine wpQuiet_nil ?_
    intro _ hw'
    obtain⟨⟨dq,osq⟩,hw''⟩:=hw'
    subst hw''
    have hBq:=below_regrown wr dq osq
    generalize grow (redrawn wr dq) osq=wq2 at *
    have HA3:=hid ((hBq.block w.heap.size (lt_of_block HAr.out)).trans HAr.out)
    have HB3:=hid (HBr.out.trans (hBq.mono HBr.out.size))
    clear hBq hOp x0 x1 x2 x3 x4 x5 x6
    go_wp2
    go_roundw
    case rel=>exact⟨j+1,kk+mo,by omega,by go_num,by go_num,by have:=HMo.out rfl;omega,hid (by rw[HK.out,HST2.out];rfl),HB3,HA3⟩
    case measure=>simp[RowKit.intOf];omega
  ·obtain rfl:j=ops.length:=by omega
   obtain rfl:z=0:=by rw[HZ.out,HK.out,List.drop_length];rfl
   go_wp2
   go_ret
   exact⟨rfl,HBr.out⟩
theorem vchk_any (g:Grp) (dA:Option Addr) (dc:Nat) (oA:Option Addr) (oc:Nat) (S:Nat→Prop) (w:World) (hI:GrIn w S g dA dc oA oc) (hTx:g.ops.length≤200→∀o∈g.ops,o.text.size≤1000000) (hck:chkB g=true):
  Calls Tryz.prog 54 #[.agg (grA g dA dc oA oc)] w fun e w'=>e= .returned (.int .i64 (if chkB g=true then 0 else 80))∧Below w.heap.size w w':=by
 obtain⟨⟨t,r⟩,n,v,⟨ut,ur⟩,ops⟩:=g
 have hl:=hI.dle
 have hc:dc≤9223372036854775807:=by have:=hI.dmax;simp only[maxLen] at this;omega
 have hn:=hI.nin
 have hD:=hI.deps.vec
 simp only at hl hn hD hTx
 rw[hck,if_pos rfl]
 have h9:=hck
 simp only[chkB,Bool.and_eq_true] at h9
 obtain⟨hh,h9⟩:=h9
 cases hu:Gst.eqb ⟨ut,ur⟩ ⟨0,0⟩ with
 |false=>
  refine vchk_undo t r n v ut ur ops dA dc oA oc w hl hc hn hD hh hu 0 ?_ (by decide)
  rw[if_neg (by rw[show Gst.eqb ⟨ut,ur⟩ .zero=false from hu];decide)] at h9
  rw[if_pos h9]
 |true=>
  rw[if_pos (show Gst.eqb ⟨ut,ur⟩ .zero=true from hu)] at h9
  simp only[Bool.and_eq_true,decide_eq_true_eq] at h9
  refine vchk_ops t r n v ut ur ops dA dc oA oc w hl hc hn hD hh hu h9.1.1 h9.1.2 S hI.ops (hTx h9.1.2) 0 ?_ (by decide)
  rw[if_pos h9.2]
end
section
section
open Go.RowKit Go.Lib Go.Sort
set_option linter.unusedVariables false
attribute [local go_sem ↓] Go.wp_at_zero Go.wp_at_succ
def firstO:Gop:={ opO 0 ⟨⟨1,1⟩,0⟩ with name:=⟨#[97]⟩,dir:=true }
def firstG:Grp:=⟨⟨1,1⟩,1,[],⟨0,0⟩,[firstO]⟩
theorem first_in (w:World) (g:Nat) (B:Nat) (hB:B≤g) (h:w.heap[g]? =some (.cells #[.int .i64 0,.int .i64 1,.int .i64 1,.int .i64 0,.int .i64 0,.int .i64 0,.int .i64 0,.string ⟨#[97]⟩,.bool true,.slice none 0 0,.int .i64 0,.int .i64 0,.int .i64 0,.int .i64 0,.int .i64 0,.int .i64 0,.string ⟨#[]⟩,.slice none 0 0] 125 (0,0))):
  GrIn w (fun k=>B≤k) firstG none 0 (some ⟨g,0,none⟩) 1:=by
 refine⟨RowG.zero,⟨fun _=>⟨none,0,none,0⟩,?_,?_⟩,Nat.le_refl _,Nat.le_refl _,Nat.zero_le _,by decide,⟨by decide,by decide⟩,fun x hx=>(by cases hx)⟩
 ·intro k hk
  obtain rfl:k=0:=by have:k<1:=hk;omega
  have hl:g<w.heap.size:=by
   rcases Nat.lt_or_ge g w.heap.size with hlt|hge
   ·exact hlt
   ·rw[Array.getElem?_eq_none hge] at h;cases h
  refine⟨g,0,rfl,hB,hl,fun j hj=> ?_⟩
  have e:(0+0*18+j:Nat)=j:=by omega
  rw[e,cell_of_row _ _ _ _ _ _ h]
  match j,hj with
  |0,_=>rfl
  |1,_=>rfl
  |2,_=>rfl
  |3,_=>rfl
  |4,_=>rfl
  |5,_=>rfl
  |6,_=>rfl
  |7,_=>rfl
  |8,_=>rfl
  |9,_=>rfl
  |10,_=>rfl
  |11,_=>rfl
  |12,_=>rfl
  |13,_=>rfl
  |14,_=>rfl
  |15,_=>rfl
  |16,_=>rfl
  |17,_=>rfl
  |n+18,h=>exact absurd h (by omega)
 ·intro k hk
  obtain rfl:k=0:=by have:k<1:=hk;omega
  exact⟨RowG.zero,RowG.zero,Nat.le_refl _,Nat.le_refl _,Nat.zero_le _,Nat.zero_le _,by decide,Nat.zero_le _⟩
def FirstQ (w:World) (e:Ending) (w':World):Prop:=∃a,e= .returned (.agg #[.int .i64 1,.int .i64 1,.int .i64 1,.slice none 0 0,.int .i64 0,.int .i64 0,.slice (some ⟨a,0,none⟩) 1 1])∧GrIn w' (fun k=>w.heap.size≤k) firstG none 0 (some ⟨a,0,none⟩) 1∧Below w.heap.size w w'
theorem firstg_any (w:World):Calls Tryz.prog 42 #[] w (FirstQ w):=by
 go_enter Tryz.func42,Tryz.ntmps42
 go_wp2
 refine bodyPost_ret (v:= .agg #[.int .i64 1,.int .i64 1,.int .i64 1,.slice none 0 0,.int .i64 0,.int .i64 0,.slice (some ⟨w.heap.size+1+1,0,none⟩) 1 1]) (by simp[results,Tryz.results42,go_sem]) rfl ?_
 exact⟨w.heap.size+1+1,rfl,first_in _ _ _ (by omega) (heap_alloc_newC _ _ (by simp)),(((Below.refl _ _).alloc (Nat.le_refl _) _).alloc (by simp) _).alloc (by simp;omega) _⟩
end
end
section
open Go.RowKit Go.Lib
section
variable {w : World} {g i : Nat} {T : TypeId} {fr : Nat × Nat} {c : Array Value} {v : Value}
theorem tk {P:Program} {md:Region.Mode} {ops:Array Oper} {Q:Exit→Act→World→Prop} {S:World→Prop} (i:Nat) (v:Value) {oi:Oper} {fuel:Nat} {listed:Array Bool} {a:Act} (hS:S w)
  (h:wpAnyH P md ops Q S fuel (listed.setIfInBounds i true) (a.put oi.dst v) w) (hi:ops[i]? =some oi:=by rfl)
  (hs:Region.noSelect ops=true:=by kernel_rfl) (hf:Region.free md ops listed i=true:=by kernel_rfl) (hr:(Region.ready md ops listed).contains i=true:=by kernel_rfl)
  (hQ:∀c a w,Q (.panic c) (a.put oi.dst v) w→Q (.panic c) a w:=by exact fun _ _ _ h=>h) (hy:YieldsIf P ops S oi v a:=by exact Or.inl ⟨by rfl,fun W' hW'=>by go_simp⟩):wpAnyH P md ops Q S (fuel+1) listed a w:=
 wpAnyH_take hi hs hf hr hQ hy hS h
end
end
section
section
open Go.RowKit Go.Lib Go.Sort
set_option linter.unusedVariables false
section
variable {w w1 w2 : World} {r : Option Nat}
theorem gby_below (h:Below w.heap.size w w1):w.grownBy w1 r:=⟨h.os,h.tape,h.output,h.size,fun i hi _=>h.block i hi⟩
theorem gby_set (b o:Nat) (v:Value):w.grownBy (w.setCell ⟨b,o,none⟩ v) (some b):=
 ⟨rfl,rfl,rfl,by simp[World.setCell],fun i hi hr=>Below.heap_setCell _ _ _ _ (fun e=>hr (by rw[e]))⟩
end
end
section
open Go.RowKit Go.Lib Go.Sort
set_option linter.unusedVariables false
theorem cellsN (W:World) (xs:List Value) (e:TypeId) (j:Nat) (u:Value) (h:xs[j]? =some u):(W.alloc (.cells xs.toArray e)).cell? ((⟨W.heap.size,0,none⟩:Addr).add j)=some u:=by
 rw[add_zero']
 have:=World.cell?_alloc_mark W xs.toArray e (0,0) j
 rw[this]
 simpa using h
theorem row_slice {w:World} {B:Nat} {e:TypeId} {size:Nat} {v:Value} {n:Nat} {xs:List Value} (h:w.ownsRow B e size v n xs):∃A c,v= .slice A n c:=by
 rcases h.2 with⟨rfl,rfl⟩|⟨g,cap,cur,rfl,_⟩
 ·exact⟨_,_,rfl⟩
 ·exact⟨_,_,rfl⟩
def intC_ (x:Int):List Value:=[.int .i64 x]
theorem lenintC_ (xs:List Int):(xs.flatMap intC_).length=xs.length*1:=by
 induction xs with
 |nil=>rfl
 |cons x xs ih=>rw[List.flatMap_cons,List.length_append,ih,List.length_cons];show 1+_=_;omega
theorem ocintC_ (x:Int):∀u∈intC_ x,u.oneCell'=true:=by
 intro u hu
 simp only[intC_,List.mem_cons,List.not_mem_nil,or_false] at hu
 subst hu;rfl
theorem infointC_:(Tryz.prog.info? 3).map (fun i=>(i.zero,i.size,i.bytes))=some (some (.int .i64 0),1,8):=by kernel_rfl
end
section
open Go.RowKit Go.Lib Go.Sort
set_option linter.unusedVariables false
attribute [local go_sem ↓] Go.wp_at_zero Go.wp_at_succ
theorem lt_of_block {w:World} {g:Nat} {o:Obj} (h:w.heap[g]? =some o):g<w.heap.size:=by
 rcases Nat.lt_or_ge g w.heap.size with hlt|hge
 ·exact hlt
 ·rw[Array.getElem?_eq_none hge] at h;cases h
section
variable {w0 w w' : World} {b R O : Nat} {T : TypeId} {zc oc : Array Value} {s s' : ByteArray} {bad bad' : Bool}
theorem setRow_other (w:World) (g k:Nat) (c:Array Value) (h:k≠g):(w.setRow g c).heap[k]? =w.heap[k]? :=by
 simp only[World.setRow,Array.getElem?_modify]
 rw[if_neg (fun e=>h e.symm)]
end
theorem rowG_own {w:World} {B:Nat} {e:TypeId} {s:Nat} {A:Option Addr} {n c:Nat} {xs:List Value} {f:Nat→Nat→Value} (h:w.ownsRow B e s (.slice A n c) n xs) (hf:∀k j,k<n→j<s→xs[k*s+j]? =some (f k j)):RowG w (fun k=>B≤k) A n s f:=fun k hk=>by
 rcases h.2 with⟨h1,h2⟩|⟨g,cap,cur,h1,hB,hg,h2⟩
 ·omega
 ·cases h1
  have hlt:=lt_of_block hg
  refine⟨g,0,rfl,hB,hlt,fun j hj=> ?_⟩
  have:=h.cells (g:=g) rfl (k*s+j) _ (hf k j hk hj)
  rw[add_zero'] at this
  rw[Nat.zero_add]
  exact this
theorem own_cap {w:World} {B:Nat} {e:TypeId} {s:Nat} {A:Option Addr} {n c:Nat} {xs:List Value} (h:w.ownsRow B e s (.slice A n c) n xs):n≤c∧c≤maxLen:=by
 rcases h.2 with⟨h1,h2⟩|⟨g,cap,cur,h1,hB,hg,h2,h3,_⟩
 ·cases h1;exact⟨Nat.le_refl _,Nat.zero_le _⟩
 ·cases h1;exact⟨h2,h3⟩
theorem flat_get {α:Type} {f:α→List Value} {s:Nat} (hl:∀x,(f x).length=s):∀(xs:List α) (k j:Nat) (z:α),k<xs.length→j<s→(xs.flatMap f)[k*s+j]? =(f (xs.getD k z))[j]?
 | [],k,j,z,h,_=>by simp at h
 |x::xs,0,j,z,h,hj=>by
  rw[List.flatMap_cons,Nat.zero_mul,Nat.zero_add,List.getElem?_append_left (by rw[hl];exact hj)]
  rfl
 |x::xs,k+1,j,z,h,hj=>by
  rw[List.flatMap_cons,List.getElem?_append_right (by rw[hl,Nat.succ_mul];omega),hl]
  have e:(k+1)*s+j-s=k*s+j:=by rw[Nat.succ_mul];omega
  rw[e,flat_get hl xs k j z (by simpa using h) hj]
  rfl
end
section
open Go.RowKit Go.Lib Go.Sort
set_option linter.unusedVariables false
theorem oc_of {c:Array Value} (h:c.toList.all (·.oneCell')=true):∀u∈c.toList,u.oneCell'=true:=List.all_eq_true.1 h
end
end
section
open Go.ChangeShapes Go.WideShapes Go.RowKit Go.Lib Go.Deep
set_option linter.unusedVariables false
def Here (w:World):Nat→Prop:=fun b=>b<w.heap.size
theorem range_getD {α:Type} (f:Nat→α) (z:α) {n k:Nat} (h:k<n):((List.range n).map f).getD k z=f k:=by
 rw[List.getD_eq_getElem?_getD,List.getElem?_map,List.getElem?_range h];rfl
theorem range_len {α:Type} (f:Nat→α) (n:Nat):((List.range n).map f).length=n:=by simp
section
variable {H : Type} {enc : TypeId × Value → H} {w : World} {spare : Nat → Bool} {held : Bool} {fuel : Nat} {cs : List Value} {x : DataW H × List MemPlace}
theorem weightsAll_mem {P:Program} {e:TypeId}:∀{l:List (DataW H)} {d:DataW H} {n:Nat},d∈l→n∈d.weights P e→n∈DataW.weightsAll P e l
 |y::l,d,n,h,hn=>by
  show _∈y.weights P e++DataW.weightsAll P e l
  rcases List.mem_cons.1 h with rfl|h
  ·exact List.mem_append_left _ hn
  ·exact List.mem_append_right _ (weightsAll_mem h hn)
theorem opn_rows {P:Program} {α:Type} [Inhabited α] {t e:TypeId} {s:Nat} (hs:0<s) (ht:P.underlying t=some (.slice e)) (hc:P.cellsOf e=s) (V:α→Nat→Value) (P1:α→DataW H→Prop)
  (elem:∀(n:Nat) (cs':List Value) (d:DataW H) (p:List MemPlace),DataW.trod enc P w 0 spare held n e cs'=some (d,p)→∃x:α,(∀j,j<s→cs'[j]? =some (V x j))∧P1 x d)
  (h:DataW.trod enc P w 0 spare held fuel t cs=some x):
  ∃(A:Option Addr) (len c:Nat) (f:Nat→α),cs=[.slice A len c]∧len≤c∧c≤maxLen∧RowG w (Here w) A len s (fun k j=>V (f k) j)∧∀k,k<len→∃d,P1 (f k) d∧∀n∈d.weights P e,n∈x.1.weights P t:=by
 rcases open_slice ht h with⟨h1,h2⟩|⟨a,len,cap,m,n,D,Pl,hcs,hb,hl,hm,hmm,hx,hi⟩
 ·exact⟨none,0,0,fun _=>default,h1,Nat.le_refl _,Nat.zero_le _,RowG.zero,fun k hk=>absurd hk (by omega)⟩
 ·have hlm:len≤m:=by rw[hmm];split<;>omega
  have hall:∀i,i<len→∃x:α,(∀j,j<s→w.cell? ((a.add (i*s)).add j)=some (V x j))∧P1 x (D i):=fun i hi'=>by
   obtain⟨cs',h3,h4⟩:=hi i (by omega)
   rw[hc] at h3
   obtain⟨_,hcl,hat⟩:=World.cells?_some h3
   obtain⟨x,h5,h6⟩:=elem n cs' _ _ h4
   exact⟨x,fun j hj=>by rw[hat j hj,h5 j hj],h6⟩
  obtain⟨f,hf⟩:=choose_lt hall
  refine⟨some a,len,cap,f,hcs,hl,hm,fun k hk=> ?_,fun k hk=>⟨D k,(hf k hk).2,fun n hn=> ?_⟩⟩
  ·obtain⟨b,o,sp⟩:=a
   have h0:=(hf 0 (by omega)).1 0 hs
   have hsp:sp=none:=by
    cases sp with
    |none=>rfl
    |some q=>
     exfalso
     rw[Nat.zero_mul] at h0
     simp only[Addr.add,if_true,World.cell?,Option.isSome_some] at h0
     split at h0<;>cases h0
   subst hsp
   have hbl:b<w.heap.size:=by
    have:=lt_of_cell h0
    simpa[Addr.add] using this
   refine⟨b,o,rfl,hbl,hbl,fun j hj=> ?_⟩
   have:=(hf k hk).1 j hj
   rw[add_add,Addr.add_mid] at this
   rw[show o+k*s+j=o+(k*s+j) from by omega]
   exact this
  ·rw[hx]
   simp only[DataW.weights,ht]
   exact List.mem_cons_of_mem _ (List.mem_append_left _ (weightsAll_mem (List.mem_map.2 ⟨k,List.mem_range.2 hk,rfl⟩) hn))
theorem fld {P:Program} {ty:TypeId} {n off c:Nat} {l:List Value} {ys:List (DataW H×List MemPlace)} {i:Nat} {y:DataW H×List MemPlace}
  (hf:DataW.trod enc P w 0 spare held n ty ((cs.drop off).take (P.cellsOf ty))=ys[i]?) (hc:P.cellsOf ty=c) (hl:(cs.drop off).take c=l) (hy:ys[i]? =some y):DataW.trod enc P w 0 spare held n ty l=some y:=by
 rw[hc,hl,hy] at hf;exact hf
theorem cells_int:Tryz.prog.cellsOf 3=1:=by kernel_rfl
theorem cells_bool:Tryz.prog.cellsOf 4=1:=by kernel_rfl
theorem cells_st:Tryz.prog.cellsOf 42=2:=by kernel_rfl
instance:Inhabited Gst:=⟨.zero⟩
instance:Inhabited Gid:=⟨.zero⟩
instance:Inhabited OpX:=⟨⟨none,0,none,0⟩⟩
instance:Inhabited Gop:=⟨opO 0 .zero⟩
structure GrX where
 dA:Option Addr
 dc:Nat
 oA:Option Addr
 oc:Nat
instance:Inhabited GrX:=⟨⟨none,0,none,0⟩⟩
instance:Inhabited Grp:=⟨⟨.zero,0,[],.zero,[]⟩⟩
end
end
section
open Go.RowKit Go.Lib Go.Sort
set_option linter.unusedVariables false
structure GrB (O:Nat→Prop) (w w':World):Prop where
 os:w'.os=w.os
 tape:w'.tape=w.tape
 output:w'.output=w.output
 size:w.heap.size≤w'.heap.size
 block:∀i,i<w.heap.size→¬O i→w'.heap[i]? =w.heap[i]?
section
variable {O O1 : Nat → Prop} {w w1 w2 : World}
theorem GrB.refl:GrB O w w:=⟨rfl,rfl,rfl,Nat.le_refl _,fun _ _ _=>rfl⟩
theorem GrB.trans (h:GrB O w w1) (k:GrB O1 w1 w2) (hO:∀i,i<w.heap.size→O1 i→O i):GrB O w w2:=
 ⟨k.os.trans h.os,k.tape.trans h.tape,k.output.trans h.output,Nat.le_trans h.size k.size,fun i hi hn=>(k.block i (Nat.lt_of_lt_of_le hi h.size) (fun e=>hn (hO i hi e))).trans (h.block i hi hn)⟩
theorem GrB.of_grown {r:Option Nat} (h:w.grownBy w1 r) (hr:∀g,r=some g→g<w.heap.size→O g):GrB O w w1:=⟨h.os,h.tape,h.output,h.size,fun i hi hn=>h.block i hi (fun e=>hn (hr i e.symm hi))⟩
theorem GrB.of_below (h:Below w.heap.size w w1):GrB O w w1:=⟨h.os,h.tape,h.output,h.size,fun i hi _=>h.block i hi⟩
theorem GrB.below {n:Nat} (h:GrB O w w1) (hn:n≤w.heap.size) (hO:∀i,O i→n≤i):Below n w w1:=⟨h.os,h.tape,h.output,h.size,fun i hi=>h.block i (Nat.lt_of_lt_of_le hi hn) (fun e=>by have:=hO i e;omega)⟩
theorem GrB.agr {S:Nat→Prop} (h:GrB O w w1) (hS:∀i,i<w.heap.size→S i→¬O i):Agr S w w1:=⟨h.size,fun b hb hl=>h.block b hl (hS b hl hb)⟩
theorem GrB.set (h:GrB O w w1) (b o:Nat) (v:Value) (hb:b<w.heap.size→O b):GrB O w (w1.setCell ⟨b,o,none⟩ v):=
 h.trans (O1:=fun i=>i=b) (GrB.of_grown (gby_set b o v) (fun g e _=>by cases e;rfl)) (fun i hi e=>by subst e;exact hb hi)
theorem GrB.grown (h:GrB O w w1) {r:Option Nat} (k:w1.grownBy w2 r) (hr:∀g,r=some g→g<w.heap.size→O g):GrB O w w2:=
 h.trans (O1:=fun i=>r=some i) (GrB.of_grown k (fun g e _=>e)) (fun i hi e=>hr i e hi)
theorem GrB.cells {i:Nat} {o:Obj} (h:GrB O w w1) (hi:w.heap[i]? =some o) (hn:¬O i):w1.heap[i]? =some o:=(h.block i (lt_of_block hi) hn).trans hi
end
def grL (g:Grp) (x:GrX):List Value:=[.int .i64 g.s.t,.int .i64 g.s.r,.int .i64 g.n,.slice x.dA g.deps.length x.dc,.int .i64 g.u.t,.int .i64 g.u.r,.slice x.oA g.ops.length x.oc]
def grC_ (p:Grp×GrX):List Value:=grL p.1 p.2
theorem lengrC_ (xs:List (Grp×GrX)):(xs.flatMap grC_).length=xs.length*7:=by
 induction xs with
 |nil=>rfl
 |cons x xs ih=>rw[List.flatMap_cons,List.length_append,ih,List.length_cons];show 7+_=_;omega
theorem ocgrC_ (x:Grp×GrX):∀u∈grC_ x,u.oneCell'=true:=oc_of (c:=(grL x.1 x.2).toArray) rfl
theorem infogrC_:(Tryz.prog.info? 45).map (fun i=>(i.zero,i.size,i.bytes))=some (some (.agg #[.int .i64 0,.int .i64 0,.int .i64 0,.slice none 0 0,.int .i64 0,.int .i64 0,.slice none 0 0]),7,88):=by kernel_rfl
def GrG (w:World) (S:Nat→Prop) (p:Grp×GrX):Prop:=GrIn w S p.1 p.2.dA p.2.dc p.2.oA p.2.oc
theorem GrG.agr {w w':World} {S:Nat→Prop} {p:Grp×GrX} (h:GrG w S p) (ha:Agr S w w'):GrG w' S p:=GrIn.agr h ha
theorem GrG.sub {w:World} {S T:Nat→Prop} {p:Grp×GrX} (h:GrG w S p) (hs:∀b,b<w.heap.size→S b→T b):GrG w T p:=GrIn.sub h hs
def gp0:Grp×GrX:=(gz,⟨none,0,none,0⟩)
def RowGr (w:World) (A:Option Addr) (L:List (Grp×GrX)):Prop:=RowG w (fun _=>True) A L.length 7 (fun k j=>(grL (L.getD k gp0).1 (L.getD k gp0).2).getD j undef)
theorem RowGr.range {w:World} {A:Option Addr} {L:List (Grp×GrX)} (h:RowGr w A L) {k:Nat} (hk:k<L.length):∃b o,A=some ⟨b,o,none⟩∧b<w.heap.size∧w.rangeAt b (o+k*7) (grL (L.getD k gp0).1 (L.getD k gp0).2):=by
 obtain⟨b,o,e,-,hb,hc⟩:=h k hk
 refine⟨b,o,e,hb,fun j v hv=> ?_⟩
 have hj:j<7:=(List.getElem?_eq_some_iff.1 hv).1
 rw[hc j hj]
 show some ((grL (L.getD k gp0).1 (L.getD k gp0).2).getD j undef)=some v
 rw[List.getD_eq_getElem?_getD,hv]
 rfl
theorem RowGr.own {w:World} {B:Nat} {A:Option Addr} {c:Nat} {L:List (Grp×GrX)} {E:TypeId} (h:w.ownsRow B E 7 (.slice A L.length c) L.length (L.flatMap grC_)):RowGr w A L:=by
 refine RowG.sub (rowG_own h fun k j hk hj=> ?_) fun _ _ _=>trivial
 rw[flat_get (s:=7) (fun _=>rfl) L k j gp0 hk hj]
 generalize L.getD k gp0=p
 have:j<(grC_ p).length:=hj
 rw[List.getElem?_eq_getElem this,List.getD_eq_getElem?_getD]
 show some _=some ((grC_ p)[j]?.getD undef)
 rw[List.getElem?_eq_getElem this]
 rfl
theorem RowGr.agr {w w':World} {A:Option Addr} {L:List (Grp×GrX)} (h:RowGr w A L) (ha:Agr (fun _=>True) w w'):RowGr w' A L:=RowG.agr h ha
theorem RowGr.below {w w':World} {A:Option Addr} {L:List (Grp×GrX)} (h:RowGr w A L) (ha:Below w.heap.size w w'):RowGr w' A L:=RowG.agr h (Agr.below ha)
end
section
open Go.RowKit Go.Lib Go.Sort Go.Maps Go.ChangeShapes Go.WideShapes
set_option linter.unusedVariables false
theorem kLaid:laidOutB Tryz.prog=true:=by kernel_rfl
theorem kRow:(42:TypeId)<Tryz.prog.types.size:=of_decide_eq_true (by kernel_rfl)
theorem kWide:(match Tryz.prog.underlying 42 with|some (.array _ _)|some (.struct _)=>true|_=>false)=true:=by rw[Tryz.underlying42]
theorem law_st:Keyed Tryz.prog 42:=Keyed.of_law (deep_law_laid kLaid (m:=3) (by omega) kRow (by kernel_rfl) kWide)
theorem kType:Tryz.prog.keyType 42=true:=by kernel_rfl
theorem kFormed (a b:Value):(Value.agg #[a,b]).formed Tryz.prog 42=true:=by
 simp[Value.formed,Tryz.underlying42,cells_st]
def kst (s:Gst):Lit:= .string (keyBytes [.int .i64 s.t,.int .i64 s.r])
theorem wf_of_i63 {n:Int} (h:i63 n):(Lit.int .i64 n).wf=true:=by
 have: -9223372036854775808≤n∧n≤9223372036854775807:=⟨h.1,by have:=h.2;omega⟩
 simpa[Lit.wf,IntKind.min,IntKind.max,IntKind.bits,IntKind.signed] using this
theorem key_st (s:Gst) (h1:i63 s.t) (h2:i63 s.r):keyOf Tryz.prog 42 (.agg #[.int .i64 s.t,.int .i64 s.r])=some (kst s):=by
 have w1:=wf_of_i63 h1
 have w2:=wf_of_i63 h2
 obtain⟨m,hm⟩:∃m,Tryz.prog.types.size=m+1:=Nat.exists_eq_succ_of_ne_zero (fun e=>by have:=kRow;rw[e] at this;exact absurd this (Nat.not_lt_zero _))
 unfold keyOf
 rw[Tryz.underlying42]
 simp only[kType,kFormed,Bool.and_self,if_true,hm]
 have e:Tryz.prog.keyLits (m+1+1) 42 [.int .i64 s.t,.int .i64 s.r]=some [.int .i64 s.t,.int .i64 s.r]:=by
  unfold Program.keyLits
  rw[Tryz.underlying42]
  simp[cells_st,cells_int,Program.keyLits,Tryz.underlying3,w1,w2]
 show(Tryz.prog.keyLits (m+1+1) 42 [.int .i64 s.t,.int .i64 s.r]).map _=_
 rw[e]
 rfl
theorem kst_inj {a b:Gst} (ha:i63 a.t∧i63 a.r) (hb:i63 b.t∧i63 b.r) (h:kst a=kst b):a=b:=by
 have h1:=key_st a ha.1 ha.2
 have h2:=key_st b hb.1 hb.2
 rw[h] at h1
 have:=law_st.inj h1 h2
 cases a;cases b
 simpa using this
theorem right_i63 {s:Gst} (h:s.right=true):i63 s.t∧i63 s.r:=by
 simp only[Gst.right,Bool.and_eq_true,decide_eq_true_eq] at h
 exact⟨⟨by omega,by omega⟩,by omega,by omega⟩
def setG {H:Type} (l:List Grp):DataW H:=Maps.setOf (.agg []) (l.map fun g=>kst g.s)
theorem setG_snoc {H:Type} (l:List Grp) (g:Grp):(setG (l++[g]):DataW H)=(setG l).put (kst g.s) (.agg []):=by
 unfold setG
 rw[List.map_append]
 exact Maps.setOf_snoc _ _ _
theorem kst_key (s:Gst) (h:i63 s.t∧i63 s.r):WideAt.IsKeyLit (kst s):=law_st.key (key_st s h.1 h.2)
theorem has_setG {H:Type} (l:List Grp) (s:Gst) (hl:∀g∈l,g.s.right=true) (hs:s.right=true):Maps.has (setG l:DataW H) (kst s)=l.any (fun d=>d.s.eqb s):=by
 unfold setG
 rw[Maps.has_setOf _ _ _ (fun x hx=>by
  obtain⟨g,hg,rfl⟩:=List.mem_map.1 hx
  exact kst_key _ (right_i63 (hl g hg)))]
 rw[Bool.eq_iff_iff,List.any_eq_true,List.any_eq_true]
 constructor
 ·rintro⟨x,hx,he⟩
  obtain⟨g,hg,rfl⟩:=List.mem_map.1 hx
  refine⟨g,hg,Gst.eqb_iff.2 (kst_inj (right_i63 (hl g hg)) (right_i63 hs) ?_)⟩
  rcases Classical.em (kst g.s=kst s) with h|h
  ·exact h
  ·rw[Maps.sameKey_ne h] at he;cases he
 ·rintro⟨g,hg,he⟩
  refine⟨kst g.s,List.mem_map.2 ⟨g,hg,rfl⟩,?_⟩
  rw[Gst.eqb_iff.1 he]
  simp[kst,Lit.sameKey]
end
section
open Go.RowKit Go.Lib Go.Sort
set_option linter.unusedVariables false
structure BoxX where
 dv:Value
 wv:Value
 vA:Option Addr
 vc:Nat
 bm:Nat
 L:List (Grp×GrX)
 M:List (Grp×GrX)
def Own (P:Nat) (X:BoxX) (k:Nat):Prop:=k=P∨k=X.bm∨X.dv.ownBlock=some k∨X.wv.ownBlock=some k
structure BoxIn (B P:Nat) (S:Nat→Prop) (dn mp wt:List Grp) (v:List Int) (X:BoxX) (w:World):Prop where
 obj:w.heap[P]? =some (.cells #[X.dv,X.wv,.map (some X.bm),.slice X.vA v.length X.vc] 89 (0,0))
 done:w.ownsRow B 45 7 X.dv X.L.length (X.L.flatMap grC_)
 wait:w.ownsRow B 45 7 X.wv X.M.length (X.M.flatMap grC_)
 dl:X.L.map Prod.fst=dn
 wl:X.M.map Prod.fst=wt
 map:w.ownsMap Tryz.prog 42 (unitElem (H:=Unit)) X.bm mp.length (setG mp)
 vec:VecS w S X.vA v
 vle:v.length≤X.vc
 vmax:X.vc≤maxLen
 vlen:v.length≤16
 good:∀p∈X.L++X.M,GrG w S p
 hP:B≤P
 hm:B≤X.bm
 pm:P≠X.bm
 dP:X.dv.ownBlock≠some P
 dm:X.dv.ownBlock≠some X.bm
 wP:X.wv.ownBlock≠some P
 wm:X.wv.ownBlock≠some X.bm
 dw:∀g,X.dv.ownBlock=some g→X.wv.ownBlock≠some g
 sep:∀k,S k→k<w.heap.size∧¬Own P X k
structure BTo (P:Nat) (X:BoxX) (S:Nat→Prop) (w:World) (X':BoxX) (S':Nat→Prop) (w':World):Prop where
 gr:GrB (Own P X) w w'
 own:∀k,Own P X' k→Own P X k∨w.heap.size≤k
 more:∀k,S k→S' k
 new:∀k,S' k→S k∨(w.heap.size≤k∧k<w'.heap.size)
theorem agr_setCell {S:Nat→Prop} (w:World) (g i:Nat) (v:Value) (h:¬S g):Agr S w (w.setCell ⟨g,i,none⟩ v):=⟨by simp[World.setCell],fun b hb _=>Below.heap_setCell _ _ _ _ (fun e:b=g=>h (e ▸ hb))⟩
section
variable {B P : Nat} {S S' S'' : Nat → Prop} {dn mp wt : List Grp} {v : List Int} {X X' X'' : BoxX} {w w' w'' : World}
theorem BTo.refl:BTo P X S w X S w:=⟨GrB.refl,fun _ h=> .inl h,fun _ h=>h,fun _ h=> .inl h⟩
theorem BTo.trans (h:BTo P X S w X' S' w') (k:BTo P X' S' w' X'' S'' w''):BTo P X S w X'' S'' w'':=
 ⟨h.gr.trans k.gr fun i hi e=>(h.own i e).resolve_right (by omega),fun i hi=>by
  rcases k.own i hi with h1|h1
  ·exact h.own i h1
  ·exact .inr (Nat.le_trans h.gr.size h1),fun i hi=>k.more i (h.more i hi),fun i hi=>by
  rcases k.new i hi with h1|h1
  ·rcases h.new i h1 with h2|h2
   ·exact .inl h2
   ·exact .inr ⟨h2.1,Nat.lt_of_lt_of_le h2.2 k.gr.size⟩
  ·exact .inr ⟨Nat.le_trans h.gr.size h1.1,h1.2⟩⟩
theorem BTo.of_below (h:Below w.heap.size w w'):BTo P X S w X S w':=⟨GrB.of_below h,fun _ h=> .inl h,fun _ h=>h,fun _ h=> .inl h⟩
theorem BoxIn.own_lt (h:BoxIn B P S dn mp wt v X w) {k:Nat} (hk:Own P X k):B≤k∧k<w.heap.size:=by
 rcases hk with rfl|rfl|hk|hk
 ·exact⟨h.hP,lt_of_block h.obj⟩
 ·exact⟨h.hm,h.map.lt⟩
 ·exact h.done.lt k hk
 ·exact h.wait.lt k hk
theorem BoxIn.below (h:BoxIn B P S dn mp wt v X w) (hb:Below w.heap.size w w'):BoxIn B P S dn mp wt v X w':=by
 have hg:=gby_below (r:=none) hb
 refine⟨(hb.block P (lt_of_block h.obj)).trans h.obj,h.done.kept hg (Classical.em _),h.wait.kept hg (Classical.em _),h.dl,h.wl,h.map.kept hg (by simp),h.vec.agr (Agr.below hb),h.vle,h.vmax,h.vlen,fun p hp=>(h.good p hp).agr (Agr.below hb),h.hP,h.hm,h.pm,h.dP,h.dm,h.wP,h.wm,h.dw,fun k hk=>⟨Nat.lt_of_lt_of_le (h.sep k hk).1 hb.size,(h.sep k hk).2⟩⟩
theorem BoxIn.sup (h:BoxIn B P S dn mp wt v X w) (h1:∀k,S k→S' k) (h2:∀k,S' k→S k∨(k<w.heap.size∧¬Own P X k)):BoxIn B P S' dn mp wt v X w:=
 ⟨h.obj,h.done,h.wait,h.dl,h.wl,h.map,RowG.sub h.vec (fun k _ hk=>h1 k hk),h.vle,h.vmax,h.vlen,fun p hp=>(h.good p hp).sub (fun k _ hk=>h1 k hk),h.hP,h.hm,h.pm,h.dP,h.dm,h.wP,h.wm,h.dw,fun k hk=>(h2 k hk).elim (h.sep k) id⟩
theorem BoxIn.cell (h:BoxIn B P S dn mp wt v X w) (i:Nat):w.cell? ⟨P,i,none⟩=#[X.dv,X.wv,.map (some X.bm),.slice X.vA v.length X.vc][i]? :=cell_of_row _ _ _ _ _ _ h.obj
theorem BoxIn.dlen (h:BoxIn B P S dn mp wt v X w):X.L.length=dn.length:=by rw[←h.dl,List.length_map]
theorem BoxIn.wlen (h:BoxIn B P S dn mp wt v X w):X.M.length=wt.length:=by rw[←h.wl,List.length_map]
theorem set_obj {w:World} {P:Nat} {c c':Array Value} {T:TypeId} (h:w.heap[P]? =some (.cells c T (0,0))) (i:Nat) (u:Value) (hc:c.setIfInBounds i u=c'):(w.setCell ⟨P,i,none⟩ u).heap[P]? =some (.cells c' T (0,0)):=by
 simp[World.setCell,Array.getElem?_modify,h,hc]
theorem own_set {w:World} {B E s n:Nat} {u:Value} {xs:List Value} (h:w.ownsRow B E s u n xs) {P:Nat} (hu:u.ownBlock≠some P) (i:Nat) (x:Value):(w.setCell ⟨P,i,none⟩ x).ownsRow B E s u n xs:=
 h.kept (gby_set P i x) (.inr hu)
theorem kept_or {a b:Option Nat} (h:∀g,a=some g→b≠some g):b=none∨b≠a:=by
 cases b with
 |none=>exact .inl rfl
 |some g=>exact .inr fun e=>h g e.symm rfl
theorem own_new {u u':Value} {P n m:Nat} (hat:u'.ownBlock=u.ownBlock∨u'.ownBlock=some m) (h:u.ownBlock≠some P) (hP:P<n) (hm:n≤m):u'.ownBlock≠some P:=by
 rcases hat with e|e
 ·rw[e];exact h
 ·rw[e];intro e2;injection e2 with e2;omega
theorem BoxIn.dput (h:BoxIn B P S dn mp wt v X w) {w1 w3:World} {dv':Value} {p:Grp×GrX} (hb:Below w.heap.size w w1) (hg:w1.grownBy w3 X.dv.ownBlock) (hown:w3.ownsRow B 45 7 dv' (X.L.length+1) (X.L.flatMap grC_++grC_ p))
  (hat:dv'.ownBlock=X.dv.ownBlock∨dv'.ownBlock=some w1.heap.size) (hp:GrG w S p):
  BoxIn B P S (dn++[p.1]) mp wt v { X with dv:=dv',L:=X.L++[p] } (w3.setCell ⟨P,0,none⟩ dv')∧BTo P X S w { X with dv:=dv',L:=X.L++[p] } S (w3.setCell ⟨P,0,none⟩ dv'):=by
 have hPl:=lt_of_block h.obj
 have hml:=h.map.lt
 have h1:=h.below hb
 have hs1:=hb.size
 have hS:∀g,X.dv.ownBlock=some g→¬S g:=fun g e hS=>(h.sep g hS).2 (.inr (.inr (.inl e)))
 have hPS:¬S P:=fun hs=>(h.sep P hs).2 (.inl rfl)
 have ha:Agr S w (w3.setCell ⟨P,0,none⟩ dv'):=((Agr.below hb).trans (Agr.grown hg hS)).trans (agr_setCell w3 P 0 dv' hPS)
 have hgr:GrB (Own P X) w (w3.setCell ⟨P,0,none⟩ dv'):=((GrB.of_below hb).grown hg (fun g e _=> .inr (.inr (.inl e)))).set P 0 dv' (fun _=> .inl rfl)
 have hown':∀k,Own P { X with dv:=dv',L:=X.L++[p] } k→Own P X k∨w.heap.size≤k:=fun k hk=>by
  rcases hk with e|e|e|e
  ·exact .inl (.inl e)
  ·exact .inl (.inr (.inl e))
  ·have e:dv'.ownBlock=some k:=e
   rcases hat with e3|e3
   ·exact .inl (.inr (.inr (.inl (e3.symm.trans e))))
   ·right;rw[e3] at e;injection e with e;omega
  ·exact .inl (.inr (.inr (.inr e)))
 refine⟨⟨set_obj (c:=#[X.dv,X.wv,.map (some X.bm),.slice X.vA v.length X.vc]) ((hg.block P (by omega) (fun e=>h.dP e.symm)).trans h1.obj) 0 dv' rfl,?_,own_set (h1.wait.kept hg (kept_or h.dw)) h.wP 0 dv',?_,h.wl,?_,RowG.agr h.vec ha,h.vle,h.vmax,h.vlen,?_,h.hP,h.hm,h.pm,own_new hat h.dP hPl hs1,own_new hat h.dm hml hs1,h.wP,h.wm,?_,?_⟩,⟨hgr,hown',fun _ h=>h,fun _ h=> .inl h⟩⟩
 ·refine own_set ?_ (own_new hat h.dP hPl hs1) 0 dv'
  show w3.ownsRow B _ 7 dv' (X.L++[p]).length ((X.L++[p]).flatMap grC_)
  rw[List.length_append,List.flatMap_append,List.flatMap_singleton];exact hown
 ·show(X.L++[p]).map Prod.fst=_
  rw[List.map_append,h.dl];rfl
 ·exact(h1.map.kept hg (fun e=>h.dm e.symm)).setCell (fun e=>h.pm e.symm) dv'
 ·intro q hq
  have hq:q∈(X.L++[p])++X.M:=hq
  rw[List.append_assoc,List.mem_append,List.mem_append,List.mem_singleton] at hq
  rcases hq with hq|rfl|hq
  ·exact(h.good q (List.mem_append.2 (.inl hq))).agr ha
  ·exact hp.agr ha
  ·exact(h.good q (List.mem_append.2 (.inr hq))).agr ha
 ·intro g e e2
  have e:dv'.ownBlock=some g:=e
  rcases hat with e3|e3
  ·rw[e3] at e;exact h.dw g e e2
  ·rw[e3] at e;injection e with e;have:=(h.wait.lt g e2).2;omega
 ·intro k hk
  have h3:=h.sep k hk
  exact⟨Nat.lt_of_lt_of_le h3.1 hgr.size,fun ho=>(hown' k ho).elim h3.2 (by omega)⟩
theorem BoxIn.mput (h:BoxIn B P S dn mp wt v X w) {g:Grp} (hg:w.grownBy w' (some X.bm)) (hm:w'.ownsMap Tryz.prog 42 (unitElem (H:=Unit)) X.bm (mp.length+1) ((setG mp).put (kst g.s) (.agg []))):
  BoxIn B P S dn (mp++[g]) wt v X w'∧BTo P X S w X S w':=by
 have hPl:=lt_of_block h.obj
 have hS:∀b,some X.bm=some b→¬S b:=fun b e hs=>by cases e;exact(h.sep _ hs).2 (.inr (.inl rfl))
 have ha:Agr S w w':=Agr.grown hg hS
 have hgr:GrB (Own P X) w w':=GrB.of_grown hg (fun b e _=>by cases e;exact .inr (.inl rfl))
 refine⟨⟨(hg.block P hPl (fun e=>by injection e with e;exact h.pm e)).trans h.obj,h.done.kept hg (.inr h.dm),h.wait.kept hg (.inr h.wm),h.dl,h.wl,?_,RowG.agr h.vec ha,h.vle,h.vmax,h.vlen,fun p hp=>(h.good p hp).agr ha,h.hP,h.hm,h.pm,h.dP,h.dm,h.wP,h.wm,h.dw,fun k hk=>⟨Nat.lt_of_lt_of_le (h.sep k hk).1 hg.size,(h.sep k hk).2⟩⟩,⟨hgr,fun _ h=> .inl h,fun _ h=>h,fun _ h=> .inl h⟩⟩
 rw[List.length_append,setG_snoc];exact hm
theorem BoxIn.vput (h:BoxIn B P S dn mp wt v X w) {w1:World} {A:Option Addr} {c:Nat} {u:List Int} (hb:Below w.heap.size w w1) (hv:VecS w1 (fun k=>w.heap.size≤k) A u) (hc:u.length≤c) (hc2:c≤maxLen) (hl:u.length≤16):
  BoxIn B P (fun k=>S k∨(w.heap.size≤k∧k<w1.heap.size)) dn mp wt u { X with vA:=A,vc:=c } (w1.setCell ⟨P,3,none⟩ (.slice A u.length c))∧BTo P X S w { X with vA:=A,vc:=c } (fun k=>S k∨(w.heap.size≤k∧k<w1.heap.size)) (w1.setCell ⟨P,3,none⟩ (.slice A u.length c)):=by
 have hPl:=lt_of_block h.obj
 have h1:=h.below hb
 have hPS:¬S P:=fun hs=>(h.sep P hs).2 (.inl rfl)
 have hgr:GrB (Own P X) w (w1.setCell ⟨P,3,none⟩ (.slice A u.length c)):=(GrB.of_below hb).set P 3 _ (fun _=> .inl rfl)
 have ha1:Agr S w1 (w1.setCell ⟨P,3,none⟩ (.slice A u.length c)):=agr_setCell w1 P 3 _ hPS
 have hsz:(w1.setCell ⟨P,3,none⟩ (.slice A u.length c)).heap.size=w1.heap.size:=by simp
 refine⟨⟨set_obj (c:=#[X.dv,X.wv,.map (some X.bm),.slice X.vA v.length X.vc]) h1.obj 3 _ rfl,own_set h1.done h.dP 3 _,own_set h1.wait h.wP 3 _,h.dl,h.wl,h1.map.setCell (fun e=>h.pm e.symm) _,?_,hc,hc2,hl,fun p hp=> ?_,h.hP,h.hm,h.pm,h.dP,h.dm,h.wP,h.wm,h.dw,fun k hk=> ?_⟩,⟨hgr,fun _ h=> .inl h,fun _ h=> .inl h,fun k hk=>hk.imp id (fun h=>⟨h.1,by rw[hsz];exact h.2⟩)⟩⟩
 ·exact(hv.agr (agr_setCell w1 P 3 _ (by show ¬w.heap.size≤P;omega))).sub (fun k hk h=> .inr ⟨h,by rw[hsz] at hk;exact hk⟩)
 ·exact((h1.good p hp).agr ha1).sub (fun k _ hk=> .inl hk)
 ·rw[hsz]
  rcases hk with hk|hk
  ·exact⟨Nat.lt_of_lt_of_le (h.sep k hk).1 hb.size,(h.sep k hk).2⟩
  ·exact⟨hk.2,fun ho=>by have:=(h.own_lt ho).2;omega⟩
theorem BoxIn.wset (h:BoxIn B P S dn mp wt v X w) {w1 w3:World} {wv':Value} {M':List (Grp×GrX)} (hb:Below w.heap.size w w1) (hg:w1.grownBy w3 X.wv.ownBlock) (hown:w3.ownsRow B 45 7 wv' M'.length (M'.flatMap grC_))
  (hat:wv'.ownBlock=X.wv.ownBlock∨wv'.ownBlock=some w1.heap.size) (hgood:∀p∈M',GrG w S p):
  BoxIn B P S dn mp (M'.map Prod.fst) v { X with wv:=wv',M:=M' } (w3.setCell ⟨P,1,none⟩ wv')∧BTo P X S w { X with wv:=wv',M:=M' } S (w3.setCell ⟨P,1,none⟩ wv'):=by
 have hPl:=lt_of_block h.obj
 have hml:=h.map.lt
 have h1:=h.below hb
 have hs1:=hb.size
 have hS:∀g,X.wv.ownBlock=some g→¬S g:=fun g e hS=>(h.sep g hS).2 (.inr (.inr (.inr e)))
 have hPS:¬S P:=fun hs=>(h.sep P hs).2 (.inl rfl)
 have ha:Agr S w (w3.setCell ⟨P,1,none⟩ wv'):=((Agr.below hb).trans (Agr.grown hg hS)).trans (agr_setCell w3 P 1 wv' hPS)
 have hgr:GrB (Own P X) w (w3.setCell ⟨P,1,none⟩ wv'):=((GrB.of_below hb).grown hg (fun g e _=> .inr (.inr (.inr e)))).set P 1 wv' (fun _=> .inl rfl)
 have hown':∀k,Own P { X with wv:=wv',M:=M' } k→Own P X k∨w.heap.size≤k:=fun k hk=>by
  rcases hk with e|e|e|e
  ·exact .inl (.inl e)
  ·exact .inl (.inr (.inl e))
  ·exact .inl (.inr (.inr (.inl e)))
  ·have e:wv'.ownBlock=some k:=e
   rcases hat with e3|e3
   ·exact .inl (.inr (.inr (.inr (e3.symm.trans e))))
   ·right;rw[e3] at e;injection e with e;omega
 refine⟨⟨set_obj (c:=#[X.dv,X.wv,.map (some X.bm),.slice X.vA v.length X.vc]) ((hg.block P (by omega) (fun e=>h.wP e.symm)).trans h1.obj) 1 wv' rfl,own_set (h1.done.kept hg (kept_or (fun g e e2=>h.dw g e2 e))) h.dP 1 wv',own_set hown (own_new hat h.wP hPl hs1) 1 wv',h.dl,rfl,?_,RowG.agr h.vec ha,h.vle,h.vmax,h.vlen,?_,h.hP,h.hm,h.pm,h.dP,h.dm,own_new hat h.wP hPl hs1,own_new hat h.wm hml hs1,?_,?_⟩,⟨hgr,hown',fun _ h=>h,fun _ h=> .inl h⟩⟩
 ·exact(h1.map.kept hg (fun e=>h.wm e.symm)).setCell (fun e=>h.pm e.symm) wv'
 ·intro q hq
  rcases List.mem_append.1 hq with hq|hq
  ·exact(h.good q (List.mem_append.2 (.inl hq))).agr ha
  ·exact(hgood q hq).agr ha
 ·intro g e e2
  have e2:wv'.ownBlock=some g:=e2
  rcases hat with e3|e3
  ·rw[e3] at e2;exact h.dw g e e2
  ·rw[e3] at e2;injection e2 with e2;have:=(h.done.lt g e).2;omega
 ·intro k hk
  have h3:=h.sep k hk
  exact⟨Nat.lt_of_lt_of_le h3.1 hgr.size,fun ho=>(hown' k ho).elim h3.2 (by omega)⟩
end
end
end Go.Proofs.YtkhmicndehlneaaGreatDoor
