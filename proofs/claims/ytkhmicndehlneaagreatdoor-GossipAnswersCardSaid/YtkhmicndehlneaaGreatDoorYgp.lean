/- Part 16 of the walks and plain laws that this claim uses, joined. Conditions: as each theorem states. -/
import Derived.Deep.AppendLies
import Derived.Deep.LoopGhost
import Derived.Deep.RegionLaw
import Derived.DeepKeys4
import Derived.Laws.CopyOwn
import Derived.Lib.SliceRun
import Derived.Maps.OwnSet
import Derived.OrdersHeld
import Derived.Tactics
import Derived.WalkMore
import Derived.Test.YtkhmicndehlneaaGreatDoorYgo
namespace Go.Proofs.YtkhmicndehlneaaGreatDoor
set_option maxRecDepth 100000
set_option maxHeartbeats 16000000
set_option linter.unusedVariables false
section
open Go.RowKit Go.Lib Go.Sort
attribute [local go_sem ↓] Go.wp_at_zero Go.wp_at_succ
theorem vop_any (gt gr:Int) (n':Int) (dA':Option Addr) (dn' dc':Nat) (ut ur:Int) (oA:Option Addr) (on oc:Nat) (k:Nat) (o:Gop) (x:OpX) (S:Nat->Prop) (w:World) (hI:OpIn w S o x) (ht:o.text.size<=1000000) (hvt:opB ⟨gt,gr⟩ o k=true):
  Calls Tryz.prog 104 #[.agg #[gt,gr,n',.slice dA' dn' dc',ut,ur,.slice oA on oc],.agg (opA o x),.int .i64 k] w λe w'=>e= .returned (.int .i64 (v9refV ⟨gt,gr⟩ o k))∧Below w.heap.size w w':=by
 have hvt:(kindB ⟨gt,gr⟩ o k && bareB o)=true:=by rw[Bool.and_comm];exact hvt
 obtain⟨kind,⟨⟨nt,nr⟩,ni⟩,⟨⟨pt,pr⟩,pi⟩,name,dir,dots,⟨⟨at_,ar⟩,ai⟩,⟨⟨et,er⟩,ei⟩,text,elems⟩:=o;obtain⟨dA,dc,eA,ec⟩:=x;have hdl:=Nat.le_trans hI.dle hI.dmax;have hel:=Nat.le_trans hI.ele hI.emax;have hna:=hI.name;have hDo:=hI.dots;have hEl:=hI.elems;simp only[maxLen] at hdl hel hna hDo hEl ht;by_cases k0:kind=0
 ·subst k0;exact vop_0 gt gr n' dA' dn' dc' ut ur oA on oc k nt nr ni pt pr pi name dir dots at_ ar ai et er ei text elems dA dc eA ec S w (by omega) (by omega) (by omega) hDo hEl hvt
 by_cases k1:kind=1
 ·subst k1;exact vop_1 gt gr n' dA' dn' dc' ut ur oA on oc k nt nr ni pt pr pi name dir dots at_ ar ai et er ei text elems dA dc eA ec S w (by omega) (by omega) (by omega) hDo hEl hvt
 by_cases k2:kind=2
 ·subst k2;exact vop_2 gt gr n' dA' dn' dc' ut ur oA on oc k nt nr ni pt pr pi name dir dots at_ ar ai et er ei text elems dA dc eA ec S w (by omega) (by omega) (by omega) hDo hEl hvt
 by_cases k4:kind=4
 ·subst k4;exact vop_4 gt gr n' dA' dn' dc' ut ur oA on oc k nt nr ni pt pr pi name dir dots at_ ar ai et er ei text elems dA dc eA ec S w (by omega) (by omega) (by omega) hDo hEl hvt
 by_cases k3:kind=3
 ·subst k3;cases hc:cnt text.data.toList with
  |none=>
   exfalso;have h9:=(Bool.and_eq_true_iff.1 hvt).1;unfold kindB at h9;simp only[textB,cnt_valid,hc] at h9;simp at h9
  |some m=>exact vop_3s gt gr n' dA' dn' dc' ut ur oA on oc k nt nr ni pt pr pi name dir dots at_ ar ai et er ei text elems dA dc eA ec S w (by omega) (by omega) (by omega) hDo hEl ht m hc hvt
 exfalso;have h9:=(Bool.and_eq_true_iff.1 hvt).1;unfold kindB at h9;simp[k0,k1,k2,k3,k4] at h9
theorem v9head_parts {t r n:Int} {v:List Int} {ut ur:Int} {ops:List Gop} (h:headB ⟨⟨t,r⟩,n,v,⟨ut,ur⟩,ops⟩=true):Gst.right ⟨t,r⟩=true∧1<=n∧n<=1099511627776∧vecB v=true∧atV v r=n-1:=by
 simp only[headB,Bool.and_eq_true,decide_eq_true_eq] at h;exact⟨h.1.1.1.1,h.1.1.1.2,h.1.1.2,h.1.2,h.2⟩
theorem vchk_undo (t r n:Int) (v:List Int) (ut ur:Int) (ops:List Gop) (dA:Option Addr) (dc:Nat) (oA:Option Addr) (oc:Nat) (w:World) (hl:v.length<=dc) (hc:dc<=9223372036854775807) (hn:i63 n) (hD:VecR w dA v) (hh:headB ⟨⟨t,r⟩,n,v,⟨ut,ur⟩,ops⟩=true) (hu:Gst.eqb ⟨ut,ur⟩ ⟨0,0⟩=false) (z:Int) (hz:z=if (Gst.right ⟨ut,ur⟩ && Gst.lt ⟨ut,ur⟩ ⟨t,r⟩ && decide (ops.length=0))=true then 0 else 80) (hvz:z≠80):
  Calls Tryz.prog 54 #[.agg #[t,r,n,.slice dA v.length dc,ut,ur,.slice oA ops.length oc]] w λe w'=>e= .returned (.int .i64 z)∧Below w.heap.size w w':=by
 have HZ:=hid hz;have HVT:=hid hvz;clear hvz;clear hz;obtain⟨hR,h1,h2,hV,h3⟩:=v9head_parts hh;have hn2:=hn;unfold i63 at hn2;obtain⟨W,hW⟩:∃W,W=w.alloc (.cells #[t,r,n,.slice dA v.length dc,ut,ur,.slice oA ops.length oc] 45):=⟨_,rfl⟩;have hBW:Below w.heap.size w W:=by subst hW;exact(Below.refl _ _).alloc (Nat.le_refl _) _
 have hD2:=hD.below hBW;have hA:W.heap[w.heap.size]? =some (.cells #[t,r,n,.slice dA v.length dc,ut,ur,.slice oA ops.length oc] 45 (0,0)):=by subst hW;exact heap_alloc_new _ _
 have x0:=rg0 hA;have x1:=rg1 hA;have x2:=rg2 hA;have x3:=rg3 hA;have cR:=λd os=>Calls.regrown_of (refright_any t r (grow (redrawn W d) os));have cV:=λd os=>Calls.regrown_of (refvector_any dA dc v (grow (redrawn W d) os) hl (by omega) (hD2.regrown d os));have cA:=λd os=>Calls.regrown_same (refat_any dA dc v r (grow (redrawn W d) os) (by omega) (hD2.regrown d os));have HW:=hid hW;have HA:=hid hA;have HBW:=hid hBW;clear hA hD2 hW hBW;rw[hR] at cR;rw[hV] at cV;have t1:decide (n<1)=false:=decide_eq_false (by omega);have s1:¬n<1:=by omega
 have t2:decide (1099511627776<n)=false:=decide_eq_false (by omega);have s2:¬1099511627776<n:=by omega
 have hw:IntKind.i64.wrap (n-1)=n-1:=IntWalk.i64_in _ (by omega);have HD:=hid hD;rw[h3] at cA;have t3:(n-1 == n-1)=true:=beq_self_eq_true _;have t4:(n-1 != n-1)=false:=by rw[bne_eq_false_iff_eq]
 have hne:=ne_st ut ur 0 0 false hu;clear hh h3 hV hR hl hc hn hn2 hD hu h1 h2;go_enter Tryz.func54,Tryz.ntmps54;go_upto_region 1 with fail;rw[<-HW.out];refine rqb ?_
 repeat(any_goals(first|go_big_quiet_step (with_reducible first|exact cR _ _|exact cV _ _|exact cA _ _)|quiet_step (with_reducible first|exact cR _ _|exact cV _ _|exact cA _ _)))
 refine qz λwq hBq=> ?_;have HA2:=hid ((hBq.block w.heap.size (lt_of_block HA.out)).trans HA.out);have HB2:=hid (HBW.out.trans (hBq.mono HBW.out.size));clear hBq x0 x1 x2 x3 cR cV cA t1 t2 s1 s2 hw t3 t4 HW HA HBW;have r0:=cw0 HA2.out;have r1:=cw1 HA2.out;have r2:=cw2 HA2.out;have r3:=cw3 HA2.out;have r4:=cw4 HA2.out;have r5:=cw5 HA2.out;have r6:=cw6 HA2.out;go_upto_region 4 with fail;clear hne;have x0:=rg0 HA2.out;have x1:=rg1 HA2.out;have x4:=rg4 HA2.out;have x5:=rg5 HA2.out;have x6:=rg6 HA2.out;have cU:=λd os=>Calls.regrown_of (refright_any ut ur (grow (redrawn wq d) os));have cB:=λd os=>Calls.regrown_of (before_any ut ur t r (grow (redrawn wq d) os));clear r0 r1 r2 r3 r4 r5 r6 HA2 HD;cases hU:Gst.right ⟨ut,ur⟩ with
 |false=>
  obtain rfl:z=80:=by rw[HZ.out,hU];simp
  exact absurd rfl HVT.out
 |true=>
 have HU:=hid hU;rw[hU] at cU;clear hU;cases hL:Gst.lt ⟨ut,ur⟩ ⟨t,r⟩ with
 |false=>
  obtain rfl:z=80:=by rw[HZ.out,hL];simp
  exact absurd rfl HVT.out
 |true=>
 have HL:=hid hL;rw[hL] at cB;clear hL;by_cases h0:ops.length=0
 ·obtain rfl:z=0:=by rw[HZ.out,HU.out,HL.out,h0];simp
  have e1:ops=[]:=List.eq_nil_of_length_eq_zero h0;subst e1;clear h0;refine wp_plain_quiet_below ?_
  repeat(any_goals(first|go_big_quiet_step (with_reducible first|exact cU _ _|exact cB _ _)|quiet_step (with_reducible first|exact cU _ _|exact cB _ _)))
  refine qz λwq hBq=> ?_;go_wp2;go_ret;exact⟨rfl,HB2.out.trans (hBq.mono HB2.out.size)⟩
 ·obtain rfl:z=80:=by rw[HZ.out,decide_eq_false h0];simp
  exact absurd rfl HVT.out
theorem v9refV_opB {g:Gst} {o:Gop} {k:Nat} (b:Bool) (h:b=opB g o k):v9refV g o k=if b=true then (moreOf o:Int) else -1:=by
 unfold v9refV;rw[h];unfold opB;rw[Bool.and_comm]
theorem vchk_ops (t r n:Int) (v:List Int) (ut ur:Int) (ops:List Gop) (dA:Option Addr) (dc:Nat) (oA:Option Addr) (oc:Nat) (w:World) (hl:v.length<=dc) (hc:dc<=9223372036854775807) (hn:i63 n) (hD:VecR w dA v) (hh:headB ⟨⟨t,r⟩,n,v,⟨ut,ur⟩,ops⟩=true) (hu:Gst.eqb ⟨ut,ur⟩ ⟨0,0⟩=true) (h1:1<=ops.length) (h2:ops.length<=200) (S:Nat->Prop) (hO:OpsS w S oA ops) (hTx:∀o∈ops,o.text.size<=1000000) (z:Int) (hz:z=if opsB ⟨t,r⟩ ops 0=true then 0 else 80) (hvz:z≠80):
  Calls Tryz.prog 54 #[.agg #[t,r,n,.slice dA v.length dc,ut,ur,.slice oA ops.length oc]] w λe w'=>e= .returned (.int .i64 z)∧Below w.heap.size w w':=by
 have HO:=hid hO;have HTx:=hid hTx;have HZ:=hid hz;have HVT:=hid hvz;clear hvz;have H1:=hid h1;have H2:=hid h2;clear hO hTx hz h1 h2;obtain⟨hR,h1,h2,hV,h3⟩:=v9head_parts hh;have hn2:=hn;unfold i63 at hn2;obtain⟨W,hW⟩:∃W,W=w.alloc (.cells #[t,r,n,.slice dA v.length dc,ut,ur,.slice oA ops.length oc] 45):=⟨_,rfl⟩;have hBW:Below w.heap.size w W:=by subst hW;exact(Below.refl _ _).alloc (Nat.le_refl _) _
 have hD2:=hD.below hBW;have hA:W.heap[w.heap.size]? =some (.cells #[t,r,n,.slice dA v.length dc,ut,ur,.slice oA ops.length oc] 45 (0,0)):=by subst hW;exact heap_alloc_new _ _
 have x0:=rg0 hA;have x1:=rg1 hA;have x2:=rg2 hA;have x3:=rg3 hA;have cR:=λd os=>Calls.regrown_of (refright_any t r (grow (redrawn W d) os));have cV:=λd os=>Calls.regrown_of (refvector_any dA dc v (grow (redrawn W d) os) hl (by omega) (hD2.regrown d os));have cA:=λd os=>Calls.regrown_same (refat_any dA dc v r (grow (redrawn W d) os) (by omega) (hD2.regrown d os));have HW:=hid hW;have HA:=hid hA;have HBW:=hid hBW;clear hA hD2 hW hBW;rw[hR] at cR;rw[hV] at cV;have t1:decide (n<1)=false:=decide_eq_false (by omega);have s1:¬n<1:=by omega
 have t2:decide (1099511627776<n)=false:=decide_eq_false (by omega);have s2:¬1099511627776<n:=by omega
 have hw:IntKind.i64.wrap (n-1)=n-1:=IntWalk.i64_in _ (by omega);have HD:=hid hD;rw[h3] at cA;have t3:(n-1 == n-1)=true:=beq_self_eq_true _;have t4:(n-1 != n-1)=false:=by rw[bne_eq_false_iff_eq]
 have hne:=ne_st ut ur 0 0 true hu;clear hh h3 hV hR hl hc hn hn2 hD hu h1 h2;go_enter Tryz.func54,Tryz.ntmps54;go_upto_region 1 with fail;rw[<-HW.out];refine rqb ?_
 repeat(any_goals(first|go_big_quiet_step (with_reducible first|exact cR _ _|exact cV _ _|exact cA _ _)|quiet_step (with_reducible first|exact cR _ _|exact cV _ _|exact cA _ _)))
 refine qz λwq hBq=> ?_;have HA2:=hid ((hBq.block w.heap.size (lt_of_block HA.out)).trans HA.out);have HB2:=hid (HBW.out.trans (hBq.mono HBW.out.size));clear hBq x0 x1 x2 x3 cR cV cA t1 t2 s1 s2 hw t3 t4 HW HA HBW;have r0:=cw0 HA2.out;have r1:=cw1 HA2.out;have r2:=cw2 HA2.out;have r3:=cw3 HA2.out;have r4:=cw4 HA2.out;have r5:=cw5 HA2.out;have r6:=cw6 HA2.out;have b1:decide (ops.length<1)=false:=by rw[decide_eq_false_iff_not];have:=H1.out;omega
 have b2:¬(ops.length:Int)<1:=by have:=H1.out;omega
 have b3:decide (200<ops.length)=false:=by rw[decide_eq_false_iff_not];have:=H2.out;omega
 have b4:¬200<(ops.length:Int):=by have:=H2.out;omega
 have b5:decide (ops.length=0)=false:=by rw[decide_eq_false_iff_not];have:=H1.out;omega
 have b6:decide (0<ops.length)=true:=by rw[decide_eq_true_eq];have:=H1.out;omega
 have b7:¬ops=[]:=by intro e;have:=H1.out;rw[e] at this;simp at this
 go_upto_region 11 with(fail);clear b1 b2 b3 b4 b5 b6 b7 hne;go_loopw [3,4] (λk i wr=>∃j kk:Nat,j<=ops.length∧i= .int .i64 j∧k= .int .i64 kk∧kk<=2000*j∧Hid (opsB ⟨t,r⟩ ops 0=opsB ⟨t,r⟩ (ops.drop j) kk)∧Hid (Below w.heap.size w wr)∧Hid (wr.heap[w.heap.size]? =some (.cells #[t,r,n,.slice dA v.length dc,ut,ur,.slice oA ops.length oc] 45 (0,0)))) (λ_ i _=>ops.length-(RowKit.intOf i).toNat)
 case atStart=>exact⟨0,0,by omega,rfl,rfl,by omega,hid rfl,HB2,HA2⟩
 case round=>
  clear r0 r1 r2 r3 r4 r5 r6;obtain⟨j,kk,hj,rfl,rfl,hkk,HK,HBr,HAr⟩:=hrel;have r6:=cw6 HAr.out;by_cases hjl:j<ops.length
  ·have hl1:(j:Int)<(ops.length:Int):=by omega
   have hl2:decide ((j:Int)<(ops.length:Int))=true:=decide_eq_true hl1;go_upto_region 13 with fail;obtain⟨X,hX1,hX2⟩:=OpsS.agr HO.out (Agr.below HBr.out);obtain⟨ob,oo,rfl,hS,hob,hc⟩:=hX1 j hjl;have hIn:=hX2 j hjl;obtain⟨o,ho⟩:∃o,o=ops.getD j (opO 0 .zero):=⟨_,rfl⟩;obtain⟨x,hx⟩:∃x,x=X j:=⟨_,rfl⟩;rw[<-ho] at hIn;simp only[<-ho,<-hx] at hIn hc;have hot:o.text.size<=1000000:=HTx.out o (by rw[ho];simp[List.getD,hjl]);have HST:=hid (show opsB ⟨t,r⟩ (ops.drop j) kk=(opB ⟨t,r⟩ o kk && opsB ⟨t,r⟩ (ops.drop (j+1)) (kk+moreOf o)) by rw[ho];exact opsB_step (g:=⟨t,r⟩) (k:=kk) hjl (opO 0 .zero));have hmo:=λh=>more_le (g:=⟨t,r⟩) (o:=o) (k:=kk) h;obtain⟨bb,hbb⟩:∃m,m=opB ⟨t,r⟩ o kk:=⟨_,rfl⟩;have hbt:opB ⟨t,r⟩ o kk=true:=by
    have h8:opsB ⟨t,r⟩ ops 0=true:=by
     cases h7:opsB ⟨t,r⟩ ops 0 with
     |true=>rfl
     |false=>exact absurd (by rw[HZ.out,h7];rfl) HVT.out
    have h9:=HST.out;rw[<-HK.out,h8] at h9;exact(Bool.and_eq_true_iff.1 h9.symm).1
   have hOp:=λd os=>Calls.regrown_of (vop_any t r n dA v.length dc ut ur (some ⟨ob,oo,none⟩) ops.length oc kk o x S (grow (redrawn wr d) os) (hIn.agr (Agr.below (below_regrown wr d os))) hot hbt);rw[v9refV_opB bb hbb] at hOp;obtain⟨mo,hmo2⟩:∃m,m=moreOf o:=⟨_,rfl⟩;simp only[<-hmo2,<-hbb] at hOp hmo;have HST2:Hid (opsB ⟨t,r⟩ (ops.drop j) kk=(bb && opsB ⟨t,r⟩ (ops.drop (j+1)) (kk+mo))):=hid (by rw[hbb,hmo2];exact HST.out);have HRR:=hid (range_regrown (op_range hc));obtain⟨opl,hol⟩:∃l,l=opL o x:=⟨_,rfl⟩;rw[<-hol] at HRR;have HNL:=hid (show(Tryz.prog.info? 125).map (·.size)=some opl.length by rw[hol];kernel_rfl);clear hbt HST hmo2 hbb ho hx hIn hot hX1 hX2 hc r6;have HMo:=hid hmo;clear hmo;have HOL:=hid (show(.agg opl.toArray:Value)= .agg (opA o x) by rw[hol];rfl);clear hol;have x0:=rg0 HAr.out;have x1:=rg1 HAr.out;have x2:=rg2 HAr.out;have x3:=rg3 HAr.out;have x4:=rg4 HAr.out;have x5:=rg5 HAr.out;have x6:=rg6 HAr.out;have hwk:IntKind.i64.wrap ((j:Int)+1)=(j:Int)+1:=IntWalk.i64_in _ (by have:=H2.out;omega);have hix:j<ops.length:=hjl;cases bb with
   |false=>
    obtain rfl:z=80:=by rw[HZ.out,HK.out,HST2.out];rfl
    exact absurd rfl HVT.out
   |true=>
    simp only[if_true] at hOp;have hwm:IntKind.i64.wrap ((kk:Int)+(mo:Int))=(kk:Int)+(mo:Int):=IntWalk.i64_in _ (by have:=H2.out;have:=HMo.out rfl;omega);have m1:¬(mo:Int)<0:=by omega
    have m2:decide ((mo:Int)<0)=false:=decide_eq_false m1;refine rqb ?_
    repeat(any_goals(first|(refine quiet_load_mid rfl _ _ rfl ob (oo+j*18) rfl opl _ HRR.out Tryz.underlying125 rfl HNL.out ?_;rw[HOL.out])|go_big_quiet_step (with_reducible exact hOp _ _)|quiet_step (with_reducible exact hOp _ _)))
    refine wpQuiet_nil ?_;intro _ hw';obtain⟨⟨dq,osq⟩,hw''⟩:=hw';subst hw'';have hBq:=below_regrown wr dq osq;generalize grow (redrawn wr dq) osq=wq2 at *;have HA3:=hid ((hBq.block w.heap.size (lt_of_block HAr.out)).trans HAr.out);have HB3:=hid (HBr.out.trans (hBq.mono HBr.out.size));clear hBq hOp x0 x1 x2 x3 x4 x5 x6;go_wp2;go_roundw
    case rel=>exact⟨j+1,kk+mo,by omega,by go_num,by go_num,by have:=HMo.out rfl;omega,hid (by rw[HK.out,HST2.out];rfl),HB3,HA3⟩
    case measure=>simp[RowKit.intOf];omega
  ·obtain rfl:j=ops.length:=by omega
   obtain rfl:z=0:=by rw[HZ.out,HK.out,List.drop_length];rfl
   go_wp2;go_ret;exact⟨rfl,HBr.out⟩
theorem vchk_any (g:Grp) (dA:Option Addr) (dc:Nat) (oA:Option Addr) (oc:Nat) (S:Nat->Prop) (w:World) (hI:GrIn w S g dA dc oA oc) (hTx:g.ops.length<=200->∀o∈g.ops,o.text.size<=1000000) (hck:chkB g=true):
  Calls Tryz.prog 54 #[.agg (grA g dA dc oA oc)] w λe w'=>e= .returned (.int .i64 (if chkB g=true then 0 else 80))∧Below w.heap.size w w':=by
 obtain⟨⟨t,r⟩,n,v,⟨ut,ur⟩,ops⟩:=g;have hl:=hI.dle;have hc:dc<=9223372036854775807:=by have:=hI.dmax;simp only[maxLen] at this;omega
 have hn:=hI.nin;have hD:=hI.deps.vec;simp only at hl hn hD hTx;rw[hck,if_pos rfl];have h9:=hck;simp only[chkB,Bool.and_eq_true] at h9;obtain⟨hh,h9⟩:=h9;cases hu:Gst.eqb ⟨ut,ur⟩ ⟨0,0⟩ with
 |false=>
  refine vchk_undo t r n v ut ur ops dA dc oA oc w hl hc hn hD hh hu 0 ?_ (by decide);rw[if_neg (by rw[show Gst.eqb ⟨ut,ur⟩ .zero=false from hu];decide)] at h9;rw[if_pos h9]
 |true=>
  rw[if_pos (show Gst.eqb ⟨ut,ur⟩ .zero=true from hu)] at h9;simp only[Bool.and_eq_true,decide_eq_true_eq] at h9;refine vchk_ops t r n v ut ur ops dA dc oA oc w hl hc hn hD hh hu h9.1.1 h9.1.2 S hI.ops (hTx h9.1.2) 0 ?_ (by decide);rw[if_pos h9.2]
end
section
open Go.RowKit Go.Lib
section
variable {w : World} {g i : Nat} {T : TypeId} {fr : Nat × Nat} {c : Array Value} {v : Value}
theorem tk {P:Program} {md:Region.Mode} {ops:Array Oper} {Q:Exit→Act→World→Prop} {S:World→Prop} (i:Nat) (v:Value) {oi:Oper} {fuel:Nat} {listed:Array Bool} {a:Act} (hS:S w)
  (h:wpAnyH P md ops Q S fuel (listed.setIfInBounds i true) (a.put oi.dst v) w) (hi:ops[i]? =some oi:=by rfl)
  (hs:Region.noSelect ops=true:=by kernel_rfl) (hf:Region.free md ops listed i=true:=by kernel_rfl) (hr:(Region.ready md ops listed).contains i=true:=by kernel_rfl)
  (hQ:∀c a w,Q (.panic c) (a.put oi.dst v) w→Q (.panic c) a w:=by exact fun _ _ _ h=>h) (hy:YieldsIf P ops S oi v a:=by exact Or.inl ⟨by rfl,fun W' hW'=>by go_simp⟩):wpAnyH P md ops Q S (fuel+1) listed a w:=
 wpAnyH_take hi hs hf hr hQ hy hS h
end
end
section
open Go.RowKit Go.Lib Go.Sort
def grL (g:Grp) (x:GrX):List Value:=[.int .i64 g.s.t,.int .i64 g.s.r,.int .i64 g.n,.slice x.dA g.deps.length x.dc,.int .i64 g.u.t,.int .i64 g.u.r,.slice x.oA g.ops.length x.oc]
def grC_ (p:Grp×GrX):List Value:=grL p.1 p.2
theorem lengrC_ (xs:List (Grp×GrX)):(xs.flatMap grC_).length=xs.length*7:=by
 induction xs with
 |nil=>rfl
 |cons x xs ih=>rw[List.flatMap_cons,List.length_append,ih,List.length_cons];show 7+_=_;omega
theorem ocgrC_ (x:Grp×GrX):∀u∈grC_ x,u.oneCell'=true:=oc_of (c:=(grL x.1 x.2).toArray) rfl
theorem infogrC_:(Tryz.prog.info? 45).map (λi=>(i.zero,i.size,i.bytes))=some (some (.agg #[(0:Int),(0:Int),(0:Int),.slice none 0 0,(0:Int),(0:Int),.slice none 0 0]),7,88):=by kernel_rfl
def GrG (w:World) (S:Nat->Prop) (p:Grp×GrX):Prop:=GrIn w S p.1 p.2.dA p.2.dc p.2.oA p.2.oc
theorem GrG.agr {w w':World} {S:Nat->Prop} {p:Grp×GrX} (h:GrG w S p) (ha:Agr S w w'):GrG w' S p:=GrIn.agr h ha
theorem GrG.sub {w:World} {S T:Nat->Prop} {p:Grp×GrX} (h:GrG w S p) (hs:∀b,b<w.heap.size->S b->T b):GrG w T p:=GrIn.sub h hs
def gp0:Grp×GrX:=(gz,⟨none,0,none,0⟩)
def RowGr (w:World) (A:Option Addr) (L:List (Grp×GrX)):Prop:=RowG w (λ_=>True) A L.length 7 (λk j=>(grL (L.getD k gp0).1 (L.getD k gp0).2).getD j undef)
theorem RowGr.range {w:World} {A:Option Addr} {L:List (Grp×GrX)} (h:RowGr w A L) {k:Nat} (hk:k<L.length):∃b o,A=some ⟨b,o,none⟩∧b<w.heap.size∧w.rangeAt b (o+k*7) (grL (L.getD k gp0).1 (L.getD k gp0).2):=by
 obtain⟨b,o,e,-,hb,hc⟩:=h k hk;refine⟨b,o,e,hb,λj v hv=> ?_⟩;have hj:j<7:=(List.getElem?_eq_some_iff.1 hv).1;rw[hc j hj];show some ((grL (L.getD k gp0).1 (L.getD k gp0).2).getD j undef)=some v;rw[List.getD_eq_getElem?_getD,hv];rfl
theorem RowGr.own {w:World} {B:Nat} {A:Option Addr} {c:Nat} {L:List (Grp×GrX)} {E:TypeId} (h:w.ownsRow B E 7 (.slice A L.length c) L.length (L.flatMap grC_)):RowGr w A L:=by
 refine RowG.sub (rowG_own h λk j hk hj=> ?_) λ_ _ _=>trivial;rw[flat_get (s:=7) (λ_=>rfl) L k j gp0 hk hj];generalize L.getD k gp0=p;have:j<(grC_ p).length:=hj;rw[List.getElem?_eq_getElem this,List.getD_eq_getElem?_getD];show some _=some ((grC_ p)[j]?.getD undef);rw[List.getElem?_eq_getElem this];rfl
theorem RowGr.agr {w w':World} {A:Option Addr} {L:List (Grp×GrX)} (h:RowGr w A L) (ha:Agr (λ_=>True) w w'):RowGr w' A L:=RowG.agr h ha
theorem RowGr.below {w w':World} {A:Option Addr} {L:List (Grp×GrX)} (h:RowGr w A L) (ha:Below w.heap.size w w'):RowGr w' A L:=RowG.agr h (Agr.below ha)
structure BoxX where
 dv:Value
 wv:Value
 vA:Option Addr
 vc:Nat
 bm:Nat
 L:List (Grp×GrX)
 M:List (Grp×GrX)
section
variable {B P : Nat} {S S' S'' : Nat → Prop} {dn mp wt : List Grp} {v : List Int} {X X' X'' : BoxX} {w w' w'' : World}
theorem set_obj {w:World} {P:Nat} {c c':Array Value} {T:TypeId} (h:w.heap[P]? =some (.cells c T (0,0))) (i:Nat) (u:Value) (hc:c.setIfInBounds i u=c'):(w.setCell ⟨P,i,none⟩ u).heap[P]? =some (.cells c' T (0,0)):=by
 simp[World.setCell,Array.getElem?_modify,h,hc]
theorem own_set {w:World} {B E s n:Nat} {u:Value} {xs:List Value} (h:w.ownsRow B E s u n xs) {P:Nat} (hu:u.ownBlock≠some P) (i:Nat) (x:Value):(w.setCell ⟨P,i,none⟩ x).ownsRow B E s u n xs:=
 h.kept (gby_set P i x) (.inr hu)
end
end
section
open Go.RowKit Go.Lib Go.Sort
attribute [local go_sem ↓] Go.wp_at_zero Go.wp_at_succ
theorem setV_len (v:List Int) (r n:Int):(setV v r n).length=max v.length r.toNat:=by unfold setV;simp
theorem vecS_plain {w:World} {S:Nat->Prop} {A:Option Addr} {xs:List Int} (h:VecS w S A xs):VecS w S A (plainV xs):=λk hk=>by
 obtain⟨b,o,e,hS,hb,hc⟩:=h k (Nat.lt_of_lt_of_le hk (pv_len xs));exact⟨b,o,e,hS,hb,λj hj=>by rw[hc j hj];simp only[pv_getD]⟩
theorem take_int (l:List Int) (k:Nat) (h:k<l.length):(l.take (k+1)).flatMap intC_=(l.take k).flatMap intC_++intC_ (l.getD k 0):=by
 rw[List.take_succ_eq_append_getElem h,List.flatMap_append];have:l.getD k 0=l[k]:=by rw[List.getD_eq_getElem?_getD,List.getElem?_eq_getElem h];rfl
 rw[this];simp
def WithQ (r:List Int) (w:World) (e:Ending) (w':World):Prop:=Below w.heap.size w w'∧∃A c,e= .returned (.tuple #[.slice A r.length c,(0:Int)])∧VecS w' (λk=>w.heap.size<=k) A r∧r.length<=c∧c<=maxLen
theorem refwith_any (A:Option Addr) (c:Nat) (v:List Int) (r n:Int) (w:World) (hv:v.length<=1000) (hr1:1<=r) (hr2:r<=16) (hA:VecR w A v):
  Calls Tryz.prog 56 #[.slice A v.length c,r,n] w λe w'=>WithQ (withV v r n) w e w':=by
 obtain⟨xs,hxs⟩:∃xs,xs=setV v r n:=⟨_,rfl⟩;have HW:=hid (show withV v r n=plainV xs by rw[hxs];rfl);have hxl:xs.length=max v.length r.toNat:=by rw[hxs,setV_len]
 have HXG:=hid (show ∀k:Nat,xs.getD k 0=if (k:Int)+1=r then n else v.getD k 0 from λk=>by rw[hxs];exact setV_getD v r n k hr1);obtain⟨m,hm⟩:∃m,m=xs.length:=⟨_,rfl⟩;have hml:m<=1000:=by omega
 have HM:=hid (show m=max v.length r.toNat by rw[hm,hxl]);have HXL:=hid hm;have HA:=hid hA;rw[HW.out];obtain⟨i0,hi,hz0,hz1,hz2⟩:=info_parts infointC_;have t1:¬r<1:=by omega
 have t2:¬16<r:=by omega
 have t3:decide (r<1)=false:=decide_eq_false t1;have t4:decide (16<r)=false:=decide_eq_false t2;clear hxs hxl hm hA;go_enter Tryz.func56,Tryz.ntmps56;by_cases hlt0:(v.length:Int)<r
 all_goals
  go_wp2_with fail;clear t3 t4;go_loopw [8,9] (λo i wr=>∃k:Nat,i= .int .i64 ((k:Int)+1)∧k<=m∧wr.ownsRow w.heap.size 3 1 o k ((xs.take k).flatMap intC_)∧Hid (Below w.heap.size w wr)) (λ_ i _=>m+1-(RowKit.intOf i).toNat)
  case atStart=>exact⟨0,by go_num,Nat.zero_le _,⟨rfl,.inl ⟨rfl,rfl⟩⟩,hid (Below.refl _ _)⟩
  case round=>
   obtain⟨k,rfl,hk,hO,HB⟩:=hrel;have tU:(v.length:Int)<r->((k:Int)+1<=r↔k<m):=λh=>by have:=HM.out;omega
   have tV:¬(v.length:Int)<r->((k:Int)+1<=(v.length:Int)↔k<m):=λh=>by have:=HM.out;omega
   by_cases hlt:k<m
   ·first
     |(have tt:=(tU hlt0).2 hlt)
     |(have tt:=(tV (Int.not_lt.2 hlt0)).2 hlt)
    have td:=decide_eq_true tt;have HTK:=hid (take_int xs k (by rw[<-HXL.out];exact hlt));have HBO:=hid (λg e=>(hO.lt g e).1);have HO1:=hid hO;have hsz:=HB.out.size;clear hO tU tV;by_cases hkr:(k:Int)+1=r
    ·have s1:((k:Int)+1 == r)=true:=by rw[beq_iff_eq];exact hkr
     have HX:=hid (show xs.getD k 0=n by rw[HXG.out,if_pos hkr]);have HKR:=hid hkr;clear hkr;go_wp2_with (at_builtin;refine wpList_append_own _ rfl _ _ 27 rfl w.heap.size 3 i0 (.int .i64 0) 1 8 Tryz.underlying27 hi hz0 hz1 hz2 rfl (by decide) _ _ _ rfl (by exact HO1.out.alloc _) ⟨wr.heap.size,0,none⟩ 1 1 (intC_ n) rfl rfl (by exact cellsN _ _ _) (by exact ocintC_ _) (by unfold maxLen;omega) (by omega) (by simp;omega) ?_;intro v' w3 hown' hgrow _;have HO3:=hid hown';have HG3:=hid hgrow;clear hown' hgrow);go_roundw
     case rel=>exact⟨k+1,by go_num,by omega,by rw[HTK.out,HX.out];exact HO3.out,hid ((HB.out.alloc HB.out.size _).grown HG3.out (HB.out.alloc HB.out.size _).size (λg e=>HBO.out g e))⟩
     case measure=>simp[RowKit.intOf];omega
    ·have s1:((k:Int)+1 == r)=false:=by rw[beq_eq_false_iff_ne];exact hkr
     have HX:=hid (show xs.getD k 0=v.getD k 0 by rw[HXG.out,if_neg hkr]);have CA:=refat_any A c v ((k:Int)+1) wr (by omega) (HA.out.below HB.out);rw[show atV v ((k:Int)+1)=v.getD k 0 from atV_in] at CA;obtain⟨y,hy⟩:∃y,y=v.getD k 0:=⟨_,rfl⟩;rw[<-hy] at CA;have HY:=hid hy;have HCA:=hid CA;clear hkr CA hy;go_wp2_with fail;refine HCA.out.mono ?_;rintro e w1 ⟨rfl,rfl⟩;go_wp2_with (at_builtin;refine wpList_append_own _ rfl _ _ 27 rfl w.heap.size 3 i0 (.int .i64 0) 1 8 Tryz.underlying27 hi hz0 hz1 hz2 rfl (by decide) _ _ _ rfl (by exact HO1.out.alloc _) ⟨w1.heap.size,0,none⟩ 1 1 (intC_ y) rfl rfl (by exact cellsN _ _ _) (by exact ocintC_ _) (by unfold maxLen;omega) (by omega) (by simp;omega) ?_;intro v' w3 hown' hgrow _;have HO3:=hid hown';have HG3:=hid hgrow;clear hown' hgrow);go_roundw
     case rel=>exact⟨k+1,by go_num,by omega,by rw[HTK.out,HX.out,<-HY.out];exact HO3.out,hid ((HB.out.alloc HB.out.size _).grown HG3.out (HB.out.alloc HB.out.size _).size (λg e=>HBO.out g e))⟩
     case measure=>simp[RowKit.intOf];omega
   ·obtain rfl:k=m:=by omega
    first
     |(have tt:¬((k:Int)+1<=r):=λh=>hlt ((tU hlt0).1 h))
     |(have tt:¬((k:Int)+1<=(v.length:Int)):=λh=>hlt ((tV (Int.not_lt.2 hlt0)).1 h))
    have td:=decide_eq_false tt;obtain⟨o,oc,rfl⟩:=row_slice hO;have hO2:wr.ownsRow w.heap.size 3 1 (.slice o xs.length oc) xs.length (xs.flatMap intC_):=by
     have:=hO;rw[HXL.out,List.take_length] at this;exact this
    have hVS:=vec_own hO2;have hcap:=own_cap hO2;have HVS:=hid hVS;have HCP:=hid hcap;have hcl:oc<=9223372036854775807:=by have:=hcap.2;unfold maxLen at this;omega
    have HPL:=hid (show Calls Tryz.prog 105 #[.slice o k oc] wr λe w'=>e= .returned (.slice o (plainV xs).length oc)∧w'=wr by have:=refplain_any o oc xs wr hcap.1 (by omega) hVS.vec;rw[<-HXL.out] at this;exact this);clear hO hO2 hVS hcap hlt tU tV;go_wp2_with fail;refine HPL.out.mono ?_;rintro e w1 ⟨rfl,rfl⟩;go_wp2;go_ret2;exact⟨HB.out,o,oc,rfl,vecS_plain HVS.out,by have:=pv_len xs;have:=HCP.out.1;omega,HCP.out.2⟩
theorem range_of_block {W:World} {g:Nat} {l:List Value} {T:TypeId} (h:W.heap[g]? =some (.cells l.toArray T (0,0))):W.rangeAt g 0 l:=λj v hv=>by
 rw[Nat.zero_add,cell_of_row _ _ _ _ _ _ h,List.getElem?_toArray];exact hv
theorem row_at {w:World} {B E s n:Nat} {A:Option Addr} {c:Nat} {xs:List Value} (h:w.ownsRow B E s (.slice A n c) n xs):(A=none->n=0)∧∀ad,A=some ad->∀j u,xs[j]? =some u->w.cell? (ad.add j)=some u:=by
 rcases h.2 with⟨e,rfl⟩|⟨g,cap,cur,e,-,hg,-,-,-,htk⟩
 ·cases e;exact⟨λ_=>rfl,(λad e=>by cases e)⟩
 ·cases e;refine⟨(λe=>by cases e),λad e j u hj=> ?_⟩;cases e;rw[Addr.add_mid,Nat.zero_add,cell_of_row _ _ _ _ _ _ hg,<-Array.getElem?_toList];rw[<-htk,List.getElem?_take] at hj;split at hj
  ·exact hj
  ·cases hj
theorem row_cap {w:World} {B E s n c:Nat} {A:Option Addr} {xs:List Value} (h:w.ownsRow B E s (.slice A n c) n xs):n<=c:=by
 rcases h.2 with⟨e,rfl⟩|⟨g,cap,cur,e,-,-,h3,-⟩
 ·exact Nat.zero_le _
 ·cases e;exact h3
end
section
section
open Go.RowKit Go.Lib Go.Sort
attribute [local go_sem ↓] Go.wp_at_zero Go.wp_at_succ
def missL (v:List Int) (L:List (Grp×GrX)):List (Grp×GrX):=L.filter (λp=> !oldB v p.1)
theorem missL_len (v:List Int) (L:List (Grp×GrX)):(missL v L).length<=L.length:=List.length_filter_le _ _
theorem missL_succ {v:List Int} {L:List (Grp×GrX)} {k:Nat} (h:k<L.length):missL v (L.take (k+1))=missL v (L.take k)++(if oldB v (L.getD k gp0).1=true then [] else [L.getD k gp0]):=by
 unfold missL;rw[List.take_add_one,List.filter_append,List.getElem?_eq_getElem h,List.getD_eq_getElem?_getD,List.getElem?_eq_getElem h];congr 1;cases e:oldB v L[k].1<;>simp[e]
end
end
section
open Go.RowKit Go.Lib Go.Sort
section
variable {α : Type}
def RowF (w:World) (S:Nat->Prop) (A:Option Addr) (s:Nat) (f:α->List Value) (z:α) (L:List α):Prop:=RowG w S A L.length s (λk j=>(f (L.getD k z)).getD j undef)
variable {w w' : World} {S T : Nat → Prop} {A : Option Addr} {s : Nat} {f : α → List Value} {z : α} {L : List α}
theorem RowF.range (h:RowF w S A s f z L) (hf:∀x,(f x).length=s) {k:Nat} (hk:k<L.length):∃b o,A=some ⟨b,o,none⟩∧S b∧b<w.heap.size∧w.rangeAt b (o+k*s) (f (L.getD k z)):=by
 obtain⟨b,o,e,hS,hb,hc⟩:=h k hk;refine⟨b,o,e,hS,hb,λj v hv=> ?_⟩;have hj:j<s:=by rw[<-hf (L.getD k z)];exact(List.getElem?_eq_some_iff.1 hv).1
 rw[hc j hj];show some ((f (L.getD k z)).getD j undef)=some v;rw[List.getD_eq_getElem?_getD,hv];rfl
theorem RowF.agr (h:RowF w S A s f z L) (ha:Agr S w w'):RowF w' S A s f z L:=RowG.agr h ha
theorem RowF.below (h:RowF w S A s f z L) (ha:Below w.heap.size w w'):RowF w' S A s f z L:=RowG.agr h (Agr.below ha)
theorem RowF.sub (h:RowF w S A s f z L) (hs:∀b,b<w.heap.size->S b->T b):RowF w T A s f z L:=RowG.sub h hs
theorem RowF.nil {c:Option Addr}:RowF w S c s f z ([]:List α):=λk hk=>absurd hk (Nat.not_lt_zero k)
theorem RowF.own {B E:Nat} {c:Nat} (hf:∀x,(f x).length=s) (h:w.ownsRow B E s (.slice A L.length c) L.length (L.flatMap f)):RowF w (λk=>B<=k) A s f z L:=by
 refine rowG_own h λk j hk hj=> ?_;rw[flat_get (s:=s) hf L k j z hk hj];have:j<(f (L.getD k z)).length:=by rw[hf];exact hj
 generalize f (L.getD k z)=q at *;rw[List.getElem?_eq_getElem this,List.getD_eq_getElem?_getD,List.getElem?_eq_getElem this];rfl
theorem own_block {B E n c:Nat} {xs:List Value} (h:w.ownsRow B E s (.slice A n c) n xs) (h0:0<n):∃g cur,A=some ⟨g,0,none⟩∧B<=g∧w.heap[g]? =some (.cells cur E (0,0))∧n<=c∧c<=maxLen∧cur.size=c*s∧cur.toList.take (n*s)=xs:=by
 rcases h.2 with⟨e1,e2⟩|⟨g,cap,cur,e1,e2,e3,e4,e5,e6,e7⟩
 ·omega
 ·cases e1;exact⟨g,cur,rfl,e2,e3,e4,e5,e6,e7⟩
theorem own_range {B E c:Nat} (hf:∀x,(f x).length=s) (h:w.ownsRow B E s (.slice A L.length c) L.length (L.flatMap f)) {k:Nat} (hk:k<L.length) (z:α):∃g,A=some ⟨g,0,none⟩∧B<=g∧g<w.heap.size∧w.rangeAt g (k*s) (f (L.getD k z)):=by
 obtain⟨g,cur,rfl,hB,hg,-,-,hsz,htk⟩:=own_block h (by omega);refine⟨g,rfl,hB,lt_of_block hg,λj v hv=> ?_⟩;have hj:j<s:=by rw[<-hf (L.getD k z)];exact(List.getElem?_eq_some_iff.1 hv).1
 have hlt:k*s+j<L.length*s:=by
  have:(k+1)*s<=L.length*s:=Nat.mul_le_mul_right s hk;rw[Nat.add_mul,Nat.one_mul] at this;omega
 rw[crw hg,<-Array.getElem?_toList];have h9:=flat_get (s:=s) hf L k j z hk hj;rw[<-htk,List.getElem?_take,if_pos hlt] at h9;rw[h9];exact hv
theorem own_there {B E n c:Nat} {xs:List Value} (h:w.ownsRow B E s (.slice A n c) n xs) {k:Nat} (hk:k<n):∃g,A=some ⟨g,0,none⟩∧w.there g (k*s) s:=by
 obtain⟨g,cur,rfl,hB,hg,h1,-,hsz,htk⟩:=own_block h (by omega);refine⟨g,rfl,λj hj=>⟨?_,frozen_of_row _ _ _ _ _ hg⟩⟩;have hlt:k*s+j<c*s:=by
  have:(k+1)*s<=c*s:=Nat.mul_le_mul_right s (by omega);rw[Nat.add_mul,Nat.one_mul] at this;omega
 rw[crw hg,Array.getElem?_eq_getElem (by omega)];rfl
theorem putL_size':∀(vs:List Value) (o:Nat) (c:Array Value),(putL c o vs).size=c.size
 | [],_,_=>rfl
 |v::vs,o,c=>by rw[putL,putL_size' vs];simp
theorem putL_get':∀(vs:List Value) (o:Nat) (c:Array Value) (i:Nat),o+vs.length<=c.size->(putL c o vs)[i]? =if o<=i∧i<o+vs.length then vs[i-o]? else c[i]?
 | [],o,c,i,h=>by rw[putL,if_neg (by simp)]
 | v::vs,o,c,i,h=>by
  have hl:(v::vs).length=vs.length+1:=rfl;rw[putL,putL_get' vs (o+1) _ i (by simp;omega)];by_cases h1:o+1<=i∧i<o+1+vs.length
  ·rw[if_pos h1,if_pos (by omega)];obtain⟨k,rfl⟩:∃k,i=o+1+k:=⟨i-(o+1),by omega⟩;rw[show o+1+k-(o+1)=k by omega,show o+1+k-o=k+1 by omega];rfl
  ·rw[if_neg h1];by_cases h2:i=o
   ·subst h2;rw[if_pos (by omega),Nat.sub_self,Array.getElem?_setIfInBounds_self_of_lt (by omega)];rfl
   ·rw[if_neg (by omega),Array.getElem?_setIfInBounds_ne (λe=>h2 e.symm)]
theorem own_put {B E c:Nat} (hf:∀x,(f x).length=s) (hs:0<s) {g:Nat} (h:w.ownsRow B E s (.slice (some ⟨g,0,none⟩) L.length c) L.length (L.flatMap f)) {k:Nat} (hk:k<L.length) (y:α):
  (w.setCells g (k*s) (f y)).ownsRow B E s (.slice (some ⟨g,0,none⟩) (L.set k y).length c) (L.set k y).length ((L.set k y).flatMap f)∧w.grownBy (w.setCells g (k*s) (f y)) (some g):=by
 obtain⟨g',cur,e,hB,hg,h1,h2,hsz,htk⟩:=own_block h (by omega);cases e;have hfl:∀M:List α,(M.flatMap f).length=M.length*s:=λM=>by
  induction M with
  |nil=>simp
  |cons x M ih=>rw[List.flatMap_cons,List.length_append,ih,hf,List.length_cons,Nat.add_mul,Nat.one_mul,Nat.add_comm]
 have hkc:k*s+s<=c*s:=by
  have:(k+1)*s<=c*s:=Nat.mul_le_mul_right s (by omega);rw[Nat.add_mul,Nat.one_mul] at this;omega
 rw[setCells_put g E _ _ cur w hg];refine⟨⟨by rw[hfl],.inr ⟨g,c,putL cur (k*s) (f y),rfl,hB,heap_setRow_same _ hg,by rw[List.length_set];exact h1,h2,by rw[putL_size',hsz],?_⟩⟩,rfl,rfl,rfl,by simp[World.setRow],λi _ hn=> ?_⟩
 ·apply List.ext_getElem?;intro i;rw[List.getElem?_take,Array.getElem?_toList,List.length_set];by_cases hi:i<L.length*s
  ·rw[if_pos hi,putL_get' _ _ _ _ (by rw[hf,hsz];exact hkc),hf];have hq:i / s<L.length:=(Nat.div_lt_iff_lt_mul hs).2 hi;have hd:=Nat.div_add_mod i s;have hm:=Nat.mod_lt i hs;have hd2:i=i / s*s+i % s:=by rw[Nat.mul_comm];omega
   have e1:=flat_get (s:=s) hf (L.set k y) (i / s) (i % s) y (by rw[List.length_set];exact hq) hm;rw[<-hd2] at e1;rw[e1];by_cases hik:i / s=k
   ·have hd3:i=k*s+i % s:=by rw[<-hik];exact hd2
    rw[if_pos (by omega),hik,List.getD_eq_getElem?_getD,List.getElem?_set_self (by omega)];show(f y)[i-k*s]? =(f y)[i % s]?;congr 1;omega
   ·have hne:¬(k*s<=i∧i<k*s+s):=λ⟨a,b⟩=>hik (by
     have:=(Nat.div_eq_iff hs).2 ⟨a,by omega⟩
     exact this)
    rw[if_neg hne];have e2:=flat_get (s:=s) hf L (i / s) (i % s) y hq hm;rw[<-hd2,<-htk,List.getElem?_take,if_pos hi,Array.getElem?_toList] at e2;rw[e2,List.getD_eq_getElem?_getD,List.getD_eq_getElem?_getD,List.getElem?_set_ne (by omega)]
  ·rw[if_neg hi,List.getElem?_eq_none (by rw[hfl,List.length_set];omega)]
 ·have hn:i≠g:=λe=>hn (by rw[e]);exact setRow_other _ _ _ _ hn
theorem flat_len (hf:∀x,(f x).length=s) (M:List α):(M.flatMap f).length=M.length*s:=by
 induction M with
 |nil=>simp
 |cons x M ih=>rw[List.flatMap_cons,List.length_append,ih,hf,List.length_cons,Nat.add_mul,Nat.one_mul,Nat.add_comm]
theorem takeD_succ {L:List α} {k:Nat} (h:k<L.length) (z:α):L.take (k+1)=L.take k++[L.getD k z]:=by
 rw[List.take_add_one,List.getElem?_eq_getElem h,List.getD_eq_getElem?_getD,List.getElem?_eq_getElem h];rfl
theorem getD_memF {L:List α} {k:Nat} (h:k<L.length) (z:α):L.getD k z∈L:=by
 rw[List.getD_eq_getElem?_getD,List.getElem?_eq_getElem h];exact List.getElem_mem h
end
section
variable {α : Type} {w : World} {A : Option Addr} {s : Nat} {f : α → List Value} {L : List α}
theorem ownN_range {B E c n:Nat} (hf:∀x,(f x).length=s) (hn:n=L.length) (h:w.ownsRow B E s (.slice A n c) n (L.flatMap f)) {k:Nat} (hk:k<n) (z:α):∃g,A=some ⟨g,0,none⟩∧B<=g∧g<w.heap.size∧w.rangeAt g (k*s) (f (L.getD k z)):=by
 subst hn;exact own_range hf h hk z
theorem ownN_put {B E c n:Nat} (hf:∀x,(f x).length=s) (hs:0<s) (hn:n=L.length) {g:Nat} (h:w.ownsRow B E s (.slice (some ⟨g,0,none⟩) n c) n (L.flatMap f)) {k:Nat} (hk:k<n) (y:α):
  (w.setCells g (k*s) (f y)).ownsRow B E s (.slice (some ⟨g,0,none⟩) n c) n ((L.set k y).flatMap f)∧w.grownBy (w.setCells g (k*s) (f y)) (some g):=by
 subst hn;have:=own_put hf hs h hk y;rwa[List.length_set] at this
theorem ownN_rowF {B E c n:Nat} {z:α} (hf:∀x,(f x).length=s) (hn:n=L.length) (h:w.ownsRow B E s (.slice A n c) n (L.flatMap f)):RowF w (λk=>B<=k) A s f z L:=by
 subst hn;exact RowF.own hf h
end
section
variable {P : Program} {ops : Array Oper} {o : Oper} {a : Act} {w : World} {K : Act → World → Prop} {Q : Exit → Act → World → Prop} {E : Prop}
theorem step_load_mid (hgd:o.guard=none) (ty:TypeId) (x:Operand) (ho:o.op= .load ty x) (b off:Nat) (hx:a.eval x= .pointer (some ⟨b,off,none⟩)) (cs:List Value) (d:TypeDesc) (hc:w.rangeAt b off cs)
  (hu:P.underlying ty=some d) (hd:d.isRow=true) (hi:(P.info? ty).map (·.size)=some cs.length) (h:K (a.put o.dst (.agg cs.toArray)) w):if Region.wanted o (yielded ops a.tmps)=true then Oper.wp P o a w K Q else E:=by
 rw[if_pos (by simp[Region.wanted,hgd])];exact wp_load_mid ty x ho b off hx cs d hc hu hd hi h
theorem step_store_mid (hgd:o.guard=none) (ty:TypeId) (x y:Operand) (ho:o.op= .store ty x y) (b off:Nat) (cells:Array Value) (hx:a.eval x= .pointer (some ⟨b,off,none⟩)) (hy:a.eval y= .agg cells)
  (ht:w.there b off cells.size) (hi:(P.info? ty).map (·.size)=some cells.size) (h1:cells.all (·.oneCell')=true) (h:K (a.put o.dst undef) (w.setCells b off cells.toList)):if Region.wanted o (yielded ops a.tmps)=true then Oper.wp P o a w K Q else E:=by
 rw[if_pos (by simp[Region.wanted,hgd])];exact wp_store_mid ty x y ho b off cells hx hy ht hi h1 h
end
def slid {α:Type} (L:List α) (x:α) (k:Nat):List α:=L.take k++x::L.drop k
theorem slid_len {α:Type} (L:List α) (x:α) (k:Nat):(slid L x k).length=L.length+1:=by
 unfold slid;rw[List.length_append,List.length_cons,List.length_take,List.length_drop];omega
theorem slid_end {α:Type} (L:List α) (x:α):slid L x L.length=L++[x]:=by unfold slid;rw[List.take_length,List.drop_length]
theorem slid_at {α:Type} {L:List α} {x z:α} {k:Nat} (h:k<=L.length):(slid L x k).getD k z=x:=by
 unfold slid;rw[List.getD_eq_getElem?_getD,List.getElem?_append_right (by rw[List.length_take];omega),List.length_take,show k-min k L.length=0 by omega];rfl
theorem slid_pre {α:Type} {L:List α} {x z:α} {k:Nat} (h:k+1<=L.length):(slid L x (k+1)).getD k z=L.getD k z:=by
 unfold slid;rw[List.getD_eq_getElem?_getD,List.getElem?_append_left (by rw[List.length_take];omega),List.getElem?_take,if_pos (by omega),List.getD_eq_getElem?_getD]
theorem slid_swap {α:Type} {L:List α} {x z:α} {k:Nat} (h:k+1<=L.length):((slid L x (k+1)).set (k+1) (L.getD k z)).set k x=slid L x k:=by
 apply List.ext_getElem?;intro i;have hl:(slid L x (k+1)).length=L.length+1:=slid_len _ _ _;have e2:L.drop k=L.getD k z::L.drop (k+1):=by
  rw[List.drop_eq_getElem_cons (by omega),List.getD_eq_getElem?_getD,List.getElem?_eq_getElem (by omega)];rfl
 by_cases h1:i=k
 ·subst h1;rw[List.getElem?_set_self (by rw[List.length_set,hl];omega)];unfold slid;rw[List.getElem?_append_right (by rw[List.length_take];omega),List.length_take,show i-min i L.length=0 by omega];rfl
 ·rw[List.getElem?_set_ne (λe=>h1 e.symm)];by_cases h2:i=k+1
  ·subst h2;rw[List.getElem?_set_self (by rw[hl];omega)];unfold slid;rw[List.getElem?_append_right (by rw[List.length_take];omega),List.length_take,show k+1-min k L.length=1 by omega,e2];rfl
  ·rw[List.getElem?_set_ne (λe=>h2 e.symm)];unfold slid;rcases Nat.lt_or_ge i k with h3|h3
   ·rw[List.getElem?_append_left (by rw[List.length_take];omega),List.getElem?_append_left (by rw[List.length_take];omega),List.getElem?_take,List.getElem?_take,if_pos (by omega),if_pos h3]
   ·rw[List.getElem?_append_right (by rw[List.length_take];omega),List.getElem?_append_right (by rw[List.length_take];omega),List.length_take,List.length_take,e2];rw[show i-min (k+1) L.length=(i-k-2)+1 by omega,show i-min k L.length=(i-k-2)+1+1 by omega];rfl
structure Dt where
 n:Gid
 b:Gst
structure Plc where
 n:Gid
 p:Gid
 name:ByteArray
 dir:Bool
structure Told where
 a:Gid
 p:Plc
structure Hd where
 s:Gst
 u:Gst
structure Elt where
 id:Gid
 af:Gid
 pc:ByteArray
structure Rn where
 af:Gid
 el:Gid
 tx:ByteArray
structure Itm where
 n:Gid
 path:ByteArray
 dir:Bool
 back:Bool
def dt0:Dt:=⟨.zero,.zero⟩
def plc0:Plc:=⟨.zero,.zero,⟨#[]⟩,false⟩
def told0:Told:=⟨.zero,plc0⟩
def hd0:Hd:=⟨.zero,.zero⟩
def elt0:Elt:=⟨.zero,.zero,⟨#[]⟩⟩
def rn0:Rn:=⟨.zero,.zero,⟨#[]⟩⟩
def itm0:Itm:=⟨.zero,⟨#[]⟩,false,false⟩
def stL (s:Gst):List Value:=[.int .i64 s.t,.int .i64 s.r]
def idL (x:Gid):List Value:=[.int .i64 x.s.t,.int .i64 x.s.r,.int .i64 x.i]
def dtL (d:Dt):List Value:=[.int .i64 d.n.s.t,.int .i64 d.n.s.r,.int .i64 d.n.i,.int .i64 d.b.t,.int .i64 d.b.r]
def plcL (p:Plc):List Value:=[.int .i64 p.n.s.t,.int .i64 p.n.s.r,.int .i64 p.n.i,.int .i64 p.p.s.t,.int .i64 p.p.s.r,.int .i64 p.p.i,.string p.name,.bool p.dir]
def toldL (p:Told):List Value:=[.int .i64 p.a.s.t,.int .i64 p.a.s.r,.int .i64 p.a.i,.int .i64 p.p.n.s.t,.int .i64 p.p.n.s.r,.int .i64 p.p.n.i,.int .i64 p.p.p.s.t,.int .i64 p.p.p.s.r,.int .i64 p.p.p.i,.string p.p.name,.bool p.p.dir]
def hdL (h:Hd):List Value:=[.int .i64 h.s.t,.int .i64 h.s.r,.int .i64 h.u.t,.int .i64 h.u.r]
def eltL (e:Elt):List Value:=[.int .i64 e.id.s.t,.int .i64 e.id.s.r,.int .i64 e.id.i,.int .i64 e.af.s.t,.int .i64 e.af.s.r,.int .i64 e.af.i,.string e.pc]
def rnL (e:Rn):List Value:=[.int .i64 e.af.s.t,.int .i64 e.af.s.r,.int .i64 e.af.i,.int .i64 e.el.s.t,.int .i64 e.el.s.r,.int .i64 e.el.i,.string e.tx]
def itmL (p:Itm):List Value:=[.int .i64 p.n.s.t,.int .i64 p.n.s.r,.int .i64 p.n.i,.string p.path,.bool p.dir,.bool p.back]
def Dt.eqb (a b:Dt):Bool:=a.n.eqb b.n && a.b.eqb b.b
theorem eq_dt (a b i p q c d j s t:Int) (v:Bool) (h:Dt.eqb ⟨⟨⟨a,b⟩,i⟩,⟨p,q⟩⟩ ⟨⟨⟨c,d⟩,j⟩,⟨s,t⟩⟩=v) (w:World):(binOp .eql 163 (.agg #[a,b,i,p,q]) (.agg #[c,d,j,s,t])).run Tryz.prog w= .ok (.bool v) w:=by
 subst h;go_simp;simp only[Dt.eqb,Gid.eqb,Gst.eqb];by_cases h1:a=c<;>by_cases h2:b=d<;>by_cases h3:i=j<;>by_cases h4:p=s<;>by_cases h5:q=t<;>simp[h1,h2,h3,h4,h5]
def ixI:Option Nat->Int
 |none=> -1
 |some k=>(k:Int)
theorem ix_some {α:Type} {L:List α} {p:α->Bool} {k:Nat} {z:α} (hk:k<L.length) (h:p (L.getD k z)=true) (hn:∀j,j<k->p (L.getD j z)=false):L.findIdx? p=some k:=by
 rw[List.findIdx?_eq_some_iff_getElem];rw[List.getD_eq_getElem?_getD,List.getElem?_eq_getElem hk] at h;refine⟨hk,h,λj hj=> ?_⟩;have:=hn j hj;rw[List.getD_eq_getElem?_getD,List.getElem?_eq_getElem (by omega)] at this;simpa using this
theorem ix_none {α:Type} {L:List α} {p:α->Bool} {z:α} (hn:∀j,j<L.length->p (L.getD j z)=false):L.findIdx? p=none:=by
 rw[List.findIdx?_eq_none_iff];intro x hx;obtain⟨j,hj,rfl⟩:=List.mem_iff_getElem.1 hx;have:=hn j hj;rw[List.getD_eq_getElem?_getD,List.getElem?_eq_getElem hj] at this;exact this
theorem any_yes {α:Type} {L:List α} {p:α->Bool} {k:Nat} {z:α} (hk:k<L.length) (h:p (L.getD k z)=true):L.any p=true:=List.any_eq_true.2 ⟨_,getD_memF hk z,h⟩
theorem any_no {α:Type} {L:List α} {p:α->Bool} {z:α} (hn:∀j,j<L.length->p (L.getD j z)=false):L.any p=false:=by
 rw[List.any_eq_false];intro x hx;obtain⟨j,hj,rfl⟩:=List.mem_iff_getElem.1 hx;have:=hn j hj;rw[List.getD_eq_getElem?_getD,List.getElem?_eq_getElem hj] at this;rw[show L[j]=(some L[j]).getD z from rfl,this];decide
end
section
open Go.RowKit Go.Lib Go.Sort
attribute [local go_sem ↓] Go.wp_at_zero Go.wp_at_succ
theorem hasstamp_any (L:List Gst) (A:Option Addr) (c:Nat) (x:Gst) (S:Nat→Prop) (w:World) (hl:L.length≤1000000) (hR:RowF w S A 2 stL .zero L):
  Calls Tryz.prog 109 #[.slice A L.length c,.agg (stL x).toArray] w fun e w'=>e= .returned (.bool (L.any (fun y=>y.eqb x)))∧Below w.heap.size w w':=by
 obtain⟨ans,hans⟩:∃q,q=(L.any (fun y=>y.eqb x)):=⟨_,rfl⟩
 rw[←hans]
 have HANS:=hid hans
 clear hans
 obtain⟨xt,xr⟩:=x
 have hb0:Below w.heap.size w (w.alloc (.cells #[.int .i64 xt,.int .i64 xr] 42)):=(Below.refl _ _).alloc (Nat.le_refl _) _
 have HC:=hid (heap_alloc_new w (.cells #[.int .i64 xt,.int .i64 xr] 42))
 have hs0:(w.alloc (.cells #[.int .i64 xt,.int .i64 xr] 42)).heap.size=w.heap.size+1:=by simp
 have HS:=hid hs0
 have HB:=hid hb0
 have HR:=hid hR
 clear hb0 hR hs0
 show Calls _ _ #[.slice A L.length c,.agg #[.int .i64 xt,.int .i64 xr]] _ _
 go_enter Tryz.func109,Tryz.ntmps109
 go_upto_region 2 with(fail)
 generalize hW0:w.alloc (.cells #[.int .i64 xt,.int .i64 xr] 42)=W0 at *
 clear hW0
 go_loopw [5] (fun i wr=>∃k:Nat,i= .int .i64 k∧k≤L.length∧Hid (Below W0.heap.size W0 wr)∧Hid (∀j,j<k→(fun y:Gst=>y.eqb ⟨xt,xr⟩) (L.getD j .zero)=false)) (fun i _=>L.length-(RowKit.intOf i).toNat)
 case atStart=>exact⟨0,rfl,Nat.zero_le _,hid (Below.refl _ _),hid (fun j hj=>absurd hj (Nat.not_lt_zero j))⟩
 case round=>
  obtain⟨k,rfl,hk,HBr,HK⟩:=hrel
  have HBw:=hid (HB.out.trans (HBr.out.mono HB.out.size))
  by_cases hlt:k<L.length
  ·obtain⟨rb,ro,rfl,-,hrb,hrange⟩:=(HR.out.below HBw.out).range (fun _=>rfl) hlt
   have i0:(0:Int)≤(k:Int):=by omega
   have i1:(k:Int)<(L.length:Int):=by omega
   obtain⟨p,hp⟩:∃p,p=L.getD k .zero:=⟨_,rfl⟩
   rw[←hp] at hrange
   obtain⟨b,hb⟩:∃b,b=(fun y:Gst=>y.eqb ⟨xt,xr⟩) p:=⟨_,rfl⟩
   have HP:=hid (show(fun y:Gst=>y.eqb ⟨xt,xr⟩) (L.getD k .zero)=b by rw[←hp,hb])
   clear hp
   obtain⟨t,r⟩:=p
   have q1:=eq_st t r xt xr b hb.symm
   have HCr:=hid ((HBr.out.block w.heap.size (by rw[HS.out];omega)).trans HC.out)
   have x0:=rg0 HCr.out
   have x1:=rg1 HCr.out
   have y0:=cell_regrown (w:=wr) (a:=⟨rb,ro+k*2,none⟩) (v:= .int .i64 t) (hrange 0 _ rfl)
   have y1:=cell_regrown (w:=wr) (a:=⟨rb,ro+k*2+1,none⟩) (v:= .int .i64 r) (hrange 1 _ rfl)
   clear hrange hb
   cases b with
   |true=>
    go_upto_region 4 with(fail)
    refine rqb ?_
    repeat(any_goals(first|go_big_quiet_step (fail)|quiet_step (fail)))
    refine qz fun wq hBq=> ?_
    go_wp2
    go_ret
    exact⟨by rw[HANS.out,any_yes hlt HP.out];rfl,HBw.out.trans (hBq.mono HBw.out.size)⟩
   |false=>
    have HK2:=hid (show ∀j,j<k+1→(fun y:Gst=>y.eqb ⟨xt,xr⟩) (L.getD j .zero)=false from fun j hj=>if h:j<k then HK.out j h else (by(obtain rfl:j=k:=(by omega));exact HP.out))
    go_upto_region 4 with(fail)
    refine rqb ?_
    repeat(any_goals(first|go_big_quiet_step (fail)|quiet_step (fail)))
    refine qz fun wq hBq=> ?_
    go_wp2
    go_roundw
    case rel=>exact⟨k+1,by go_num,by omega,hid (HBr.out.trans (hBq.mono HBr.out.size)),HK2⟩
    case measure=>(simp[RowKit.intOf];omega)
  ·obtain rfl:k=L.length:=by omega
   have i1:¬(L.length:Int)<(L.length:Int):=by omega
   go_wp2
   go_ret
   exact⟨by rw[HANS.out,any_no HK.out];rfl,HBw.out⟩
theorem hasid_any (L:List Gid) (A:Option Addr) (c:Nat) (x:Gid) (S:Nat→Prop) (w:World) (hl:L.length≤1000000) (hR:RowF w S A 3 idL .zero L):
  Calls Tryz.prog 173 #[.slice A L.length c,.agg (idL x).toArray] w fun e w'=>e= .returned (.bool (L.any (fun y=>y.eqb x)))∧Below w.heap.size w w':=by
 obtain⟨ans,hans⟩:∃q,q=(L.any (fun y=>y.eqb x)):=⟨_,rfl⟩
 rw[←hans]
 have HANS:=hid hans
 clear hans
 obtain⟨⟨xt,xr⟩,xi⟩:=x
 have hb0:Below w.heap.size w (w.alloc (.cells #[.int .i64 xt,.int .i64 xr,.int .i64 xi] 108)):=(Below.refl _ _).alloc (Nat.le_refl _) _
 have HC:=hid (heap_alloc_new w (.cells #[.int .i64 xt,.int .i64 xr,.int .i64 xi] 108))
 have hs0:(w.alloc (.cells #[.int .i64 xt,.int .i64 xr,.int .i64 xi] 108)).heap.size=w.heap.size+1:=by simp
 have HS:=hid hs0
 have HB:=hid hb0
 have HR:=hid hR
 clear hb0 hR hs0
 show Calls _ _ #[.slice A L.length c,.agg #[.int .i64 xt,.int .i64 xr,.int .i64 xi]] _ _
 go_enter Tryz.func173,Tryz.ntmps173
 go_upto_region 2 with(fail)
 generalize hW0:w.alloc (.cells #[.int .i64 xt,.int .i64 xr,.int .i64 xi] 108)=W0 at *
 clear hW0
 go_loopw [5] (fun i wr=>∃k:Nat,i= .int .i64 k∧k≤L.length∧Hid (Below W0.heap.size W0 wr)∧Hid (∀j,j<k→(fun y:Gid=>y.eqb ⟨⟨xt,xr⟩,xi⟩) (L.getD j .zero)=false)) (fun i _=>L.length-(RowKit.intOf i).toNat)
 case atStart=>exact⟨0,rfl,Nat.zero_le _,hid (Below.refl _ _),hid (fun j hj=>absurd hj (Nat.not_lt_zero j))⟩
 case round=>
  obtain⟨k,rfl,hk,HBr,HK⟩:=hrel
  have HBw:=hid (HB.out.trans (HBr.out.mono HB.out.size))
  by_cases hlt:k<L.length
  ·obtain⟨rb,ro,rfl,-,hrb,hrange⟩:=(HR.out.below HBw.out).range (fun _=>rfl) hlt
   have i0:(0:Int)≤(k:Int):=by omega
   have i1:(k:Int)<(L.length:Int):=by omega
   obtain⟨p,hp⟩:∃p,p=L.getD k .zero:=⟨_,rfl⟩
   rw[←hp] at hrange
   obtain⟨b,hb⟩:∃b,b=(fun y:Gid=>y.eqb ⟨⟨xt,xr⟩,xi⟩) p:=⟨_,rfl⟩
   have HP:=hid (show(fun y:Gid=>y.eqb ⟨⟨xt,xr⟩,xi⟩) (L.getD k .zero)=b by rw[←hp,hb])
   clear hp
   obtain⟨⟨t,r⟩,n⟩:=p
   have q1:=eq_id t r n xt xr xi b hb.symm
   have HCr:=hid ((HBr.out.block w.heap.size (by rw[HS.out];omega)).trans HC.out)
   have x0:=rg0 HCr.out
   have x1:=rg1 HCr.out
   have x2:=rg2 HCr.out
   have y0:=cell_regrown (w:=wr) (a:=⟨rb,ro+k*3,none⟩) (v:= .int .i64 t) (hrange 0 _ rfl)
   have y1:=cell_regrown (w:=wr) (a:=⟨rb,ro+k*3+1,none⟩) (v:= .int .i64 r) (hrange 1 _ rfl)
   have y2:=cell_regrown (w:=wr) (a:=⟨rb,ro+k*3+2,none⟩) (v:= .int .i64 n) (hrange 2 _ rfl)
   clear hrange hb
   cases b with
   |true=>
    go_upto_region 4 with(fail)
    refine rqb ?_
    repeat(any_goals(first|go_big_quiet_step (fail)|quiet_step (fail)))
    refine qz fun wq hBq=> ?_
    go_wp2
    go_ret
    exact⟨by rw[HANS.out,any_yes hlt HP.out];rfl,HBw.out.trans (hBq.mono HBw.out.size)⟩
   |false=>
    have HK2:=hid (show ∀j,j<k+1→(fun y:Gid=>y.eqb ⟨⟨xt,xr⟩,xi⟩) (L.getD j .zero)=false from fun j hj=>if h:j<k then HK.out j h else (by(obtain rfl:j=k:=(by omega));exact HP.out))
    go_upto_region 4 with(fail)
    refine rqb ?_
    repeat(any_goals(first|go_big_quiet_step (fail)|quiet_step (fail)))
    refine qz fun wq hBq=> ?_
    go_wp2
    go_roundw
    case rel=>exact⟨k+1,by go_num,by omega,hid (HBr.out.trans (hBq.mono HBr.out.size)),HK2⟩
    case measure=>(simp[RowKit.intOf];omega)
  ·obtain rfl:k=L.length:=by omega
   have i1:¬(L.length:Int)<(L.length:Int):=by omega
   go_wp2
   go_ret
   exact⟨by rw[HANS.out,any_no HK.out];rfl,HBw.out⟩
theorem hasdot_any (L:List Dt) (A:Option Addr) (c:Nat) (x:Dt) (S:Nat→Prop) (w:World) (hl:L.length≤1000000) (hR:RowF w S A 5 dtL dt0 L):
  Calls Tryz.prog 174 #[.slice A L.length c,.agg (dtL x).toArray] w fun e w'=>e= .returned (.bool (L.any (fun y=>y.eqb x)))∧Below w.heap.size w w':=by
 obtain⟨ans,hans⟩:∃q,q=(L.any (fun y=>y.eqb x)):=⟨_,rfl⟩
 rw[←hans]
 have HANS:=hid hans
 clear hans
 obtain⟨⟨⟨xt,xr⟩,xi⟩,⟨xu,xv⟩⟩:=x
 have hb0:Below w.heap.size w (w.alloc (.cells #[.int .i64 xt,.int .i64 xr,.int .i64 xi,.int .i64 xu,.int .i64 xv] 163)):=(Below.refl _ _).alloc (Nat.le_refl _) _
 have HC:=hid (heap_alloc_new w (.cells #[.int .i64 xt,.int .i64 xr,.int .i64 xi,.int .i64 xu,.int .i64 xv] 163))
 have hs0:(w.alloc (.cells #[.int .i64 xt,.int .i64 xr,.int .i64 xi,.int .i64 xu,.int .i64 xv] 163)).heap.size=w.heap.size+1:=by simp
 have HS:=hid hs0
 have HB:=hid hb0
 have HR:=hid hR
 clear hb0 hR hs0
 show Calls _ _ #[.slice A L.length c,.agg #[.int .i64 xt,.int .i64 xr,.int .i64 xi,.int .i64 xu,.int .i64 xv]] _ _
 go_enter Tryz.func174,Tryz.ntmps174
 go_upto_region 2 with(fail)
 generalize hW0:w.alloc (.cells #[.int .i64 xt,.int .i64 xr,.int .i64 xi,.int .i64 xu,.int .i64 xv] 163)=W0 at *
 clear hW0
 go_loopw [5] (fun i wr=>∃k:Nat,i= .int .i64 k∧k≤L.length∧Hid (Below W0.heap.size W0 wr)∧Hid (∀j,j<k→(fun y:Dt=>y.eqb ⟨⟨⟨xt,xr⟩,xi⟩,⟨xu,xv⟩⟩) (L.getD j dt0)=false)) (fun i _=>L.length-(RowKit.intOf i).toNat)
 case atStart=>exact⟨0,rfl,Nat.zero_le _,hid (Below.refl _ _),hid (fun j hj=>absurd hj (Nat.not_lt_zero j))⟩
 case round=>
  obtain⟨k,rfl,hk,HBr,HK⟩:=hrel
  have HBw:=hid (HB.out.trans (HBr.out.mono HB.out.size))
  by_cases hlt:k<L.length
  ·obtain⟨rb,ro,rfl,-,hrb,hrange⟩:=(HR.out.below HBw.out).range (fun _=>rfl) hlt
   have i0:(0:Int)≤(k:Int):=by omega
   have i1:(k:Int)<(L.length:Int):=by omega
   obtain⟨p,hp⟩:∃p,p=L.getD k dt0:=⟨_,rfl⟩
   rw[←hp] at hrange
   obtain⟨b,hb⟩:∃b,b=(fun y:Dt=>y.eqb ⟨⟨⟨xt,xr⟩,xi⟩,⟨xu,xv⟩⟩) p:=⟨_,rfl⟩
   have HP:=hid (show(fun y:Dt=>y.eqb ⟨⟨⟨xt,xr⟩,xi⟩,⟨xu,xv⟩⟩) (L.getD k dt0)=b by rw[←hp,hb])
   clear hp
   obtain⟨⟨⟨t,r⟩,n⟩,⟨bt,br⟩⟩:=p
   have q1:=eq_dt t r n bt br xt xr xi xu xv b hb.symm
   have HCr:=hid ((HBr.out.block w.heap.size (by rw[HS.out];omega)).trans HC.out)
   have x0:=rg0 HCr.out
   have x1:=rg1 HCr.out
   have x2:=rg2 HCr.out
   have x3:=rg3 HCr.out
   have x4:=rg4 HCr.out
   have y0:=cell_regrown (w:=wr) (a:=⟨rb,ro+k*5,none⟩) (v:= .int .i64 t) (hrange 0 _ rfl)
   have y1:=cell_regrown (w:=wr) (a:=⟨rb,ro+k*5+1,none⟩) (v:= .int .i64 r) (hrange 1 _ rfl)
   have y2:=cell_regrown (w:=wr) (a:=⟨rb,ro+k*5+2,none⟩) (v:= .int .i64 n) (hrange 2 _ rfl)
   have y3:=cell_regrown (w:=wr) (a:=⟨rb,ro+k*5+3,none⟩) (v:= .int .i64 bt) (hrange 3 _ rfl)
   have y4:=cell_regrown (w:=wr) (a:=⟨rb,ro+k*5+4,none⟩) (v:= .int .i64 br) (hrange 4 _ rfl)
   clear hrange hb
   cases b with
   |true=>
    go_upto_region 4 with(fail)
    refine rqb ?_
    repeat(any_goals(first|go_big_quiet_step (fail)|quiet_step (fail)))
    refine qz fun wq hBq=> ?_
    go_wp2
    go_ret
    exact⟨by rw[HANS.out,any_yes hlt HP.out];rfl,HBw.out.trans (hBq.mono HBw.out.size)⟩
   |false=>
    have HK2:=hid (show ∀j,j<k+1→(fun y:Dt=>y.eqb ⟨⟨⟨xt,xr⟩,xi⟩,⟨xu,xv⟩⟩) (L.getD j dt0)=false from fun j hj=>if h:j<k then HK.out j h else (by(obtain rfl:j=k:=(by omega));exact HP.out))
    go_upto_region 4 with(fail)
    refine rqb ?_
    repeat(any_goals(first|go_big_quiet_step (fail)|quiet_step (fail)))
    refine qz fun wq hBq=> ?_
    go_wp2
    go_roundw
    case rel=>exact⟨k+1,by go_num,by omega,hid (HBr.out.trans (hBq.mono HBr.out.size)),HK2⟩
    case measure=>(simp[RowKit.intOf];omega)
  ·obtain rfl:k=L.length:=by omega
   have i1:¬(L.length:Int)<(L.length:Int):=by omega
   go_wp2
   go_ret
   exact⟨by rw[HANS.out,any_no HK.out];rfl,HBw.out⟩
theorem findplc_any (L:List Plc) (A:Option Addr) (c:Nat) (x:Gid) (S:Nat→Prop) (w:World) (hl:L.length≤1000000) (hR:RowF w S A 8 plcL plc0 L):
  Calls Tryz.prog 169 #[.slice A L.length c,.agg (idL x).toArray] w fun e w'=>e= .returned (.int .i64 (ixI (L.findIdx? (fun y=>y.n.eqb x))))∧Below w.heap.size w w':=by
 obtain⟨ans,hans⟩:∃q,q=(ixI (L.findIdx? (fun y=>y.n.eqb x))):=⟨_,rfl⟩
 rw[←hans]
 have HANS:=hid hans
 clear hans
 obtain⟨⟨xt,xr⟩,xi⟩:=x
 have hb0:Below w.heap.size w (w.alloc (.cells #[.int .i64 xt,.int .i64 xr,.int .i64 xi] 108)):=(Below.refl _ _).alloc (Nat.le_refl _) _
 have HC:=hid (heap_alloc_new w (.cells #[.int .i64 xt,.int .i64 xr,.int .i64 xi] 108))
 have hs0:(w.alloc (.cells #[.int .i64 xt,.int .i64 xr,.int .i64 xi] 108)).heap.size=w.heap.size+1:=by simp
 have HS:=hid hs0
 have HB:=hid hb0
 have HR:=hid hR
 clear hb0 hR hs0
 show Calls _ _ #[.slice A L.length c,.agg #[.int .i64 xt,.int .i64 xr,.int .i64 xi]] _ _
 go_enter Tryz.func169,Tryz.ntmps169
 go_upto_region 2 with(fail)
 generalize hW0:w.alloc (.cells #[.int .i64 xt,.int .i64 xr,.int .i64 xi] 108)=W0 at *
 clear hW0
 go_loopw [5] (fun i wr=>∃k:Nat,i= .int .i64 k∧k≤L.length∧Hid (Below W0.heap.size W0 wr)∧Hid (∀j,j<k→(fun y:Plc=>y.n.eqb ⟨⟨xt,xr⟩,xi⟩) (L.getD j plc0)=false)) (fun i _=>L.length-(RowKit.intOf i).toNat)
 case atStart=>exact⟨0,rfl,Nat.zero_le _,hid (Below.refl _ _),hid (fun j hj=>absurd hj (Nat.not_lt_zero j))⟩
 case round=>
  obtain⟨k,rfl,hk,HBr,HK⟩:=hrel
  have HBw:=hid (HB.out.trans (HBr.out.mono HB.out.size))
  by_cases hlt:k<L.length
  ·obtain⟨rb,ro,rfl,-,hrb,hrange⟩:=(HR.out.below HBw.out).range (fun _=>rfl) hlt
   have i0:(0:Int)≤(k:Int):=by omega
   have i1:(k:Int)<(L.length:Int):=by omega
   obtain⟨p,hp⟩:∃p,p=L.getD k plc0:=⟨_,rfl⟩
   rw[←hp] at hrange
   obtain⟨b,hb⟩:∃b,b=(fun y:Plc=>y.n.eqb ⟨⟨xt,xr⟩,xi⟩) p:=⟨_,rfl⟩
   have HP:=hid (show(fun y:Plc=>y.n.eqb ⟨⟨xt,xr⟩,xi⟩) (L.getD k plc0)=b by rw[←hp,hb])
   clear hp
   obtain⟨⟨⟨t,r⟩,n⟩,pp,pn,pd⟩:=p
   have q1:=eq_id t r n xt xr xi b hb.symm
   have HCr:=hid ((HBr.out.block w.heap.size (by rw[HS.out];omega)).trans HC.out)
   have x0:=rg0 HCr.out
   have x1:=rg1 HCr.out
   have x2:=rg2 HCr.out
   have y0:=cell_regrown (w:=wr) (a:=⟨rb,ro+k*8,none⟩) (v:= .int .i64 t) (hrange 0 _ rfl)
   have y1:=cell_regrown (w:=wr) (a:=⟨rb,ro+k*8+1,none⟩) (v:= .int .i64 r) (hrange 1 _ rfl)
   have y2:=cell_regrown (w:=wr) (a:=⟨rb,ro+k*8+2,none⟩) (v:= .int .i64 n) (hrange 2 _ rfl)
   clear hrange hb
   cases b with
   |true=>
    go_upto_region 4 with(fail)
    refine rqb ?_
    repeat(any_goals(first|go_big_quiet_step (fail)|quiet_step (fail)))
    refine qz fun wq hBq=> ?_
    go_wp2
    go_ret
    exact⟨by rw[HANS.out,ix_some hlt HP.out HK.out];rfl,HBw.out.trans (hBq.mono HBw.out.size)⟩
   |false=>
    have HK2:=hid (show ∀j,j<k+1→(fun y:Plc=>y.n.eqb ⟨⟨xt,xr⟩,xi⟩) (L.getD j plc0)=false from fun j hj=>if h:j<k then HK.out j h else (by(obtain rfl:j=k:=(by omega));exact HP.out))
    go_upto_region 4 with(fail)
    refine rqb ?_
    repeat(any_goals(first|go_big_quiet_step (fail)|quiet_step (fail)))
    refine qz fun wq hBq=> ?_
    go_wp2
    go_roundw
    case rel=>exact⟨k+1,by go_num,by omega,hid (HBr.out.trans (hBq.mono HBr.out.size)),HK2⟩
    case measure=>(simp[RowKit.intOf];omega)
  ·obtain rfl:k=L.length:=by omega
   have i1:¬(L.length:Int)<(L.length:Int):=by omega
   go_wp2
   go_ret
   exact⟨by rw[HANS.out,ix_none HK.out];rfl,HBw.out⟩
theorem range_mid {w:World} {b o:Nat} {pre mid post:List Value} (h:w.rangeAt b o (pre++(mid++post))):w.rangeAt b (o+pre.length) mid:=λj v hv=>by
 have:=h (pre.length+j) v (by rw[List.getElem?_append_right (by omega),show pre.length+j-pre.length=j by omega,List.getElem?_append_left (List.getElem?_eq_some_iff.1 hv).1];exact hv);rwa[Nat.add_assoc]
theorem rangeB {w w':World} {b o:Nat} {cs:List Value} (h:w.rangeAt b o cs) (hb:b<w.heap.size) (hB:Below w.heap.size w w'):w'.rangeAt b o cs:=λj v hv=>(World.cell?_of_block (w:=w) (w':=w') (a:=⟨b,o+j,none⟩) (hB.block b hb)).trans (h j v hv)
theorem info_st:(Tryz.prog.info? 42).map (λi=>(i.zero,i.size,i.bytes))=some (some (.agg #[(0:Int),(0:Int)]),2,16):=by kernel_rfl
theorem info_id:(Tryz.prog.info? 108).map (λi=>(i.zero,i.size,i.bytes))=some (some (.agg #[(0:Int),(0:Int),(0:Int)]),3,24):=by kernel_rfl
theorem oc_idL (x:Gid):∀u∈idL x,u.oneCell'=true:=oc_of (c:=(idL x).toArray) rfl
theorem info_dt:(Tryz.prog.info? 163).map (λi=>(i.zero,i.size,i.bytes))=some (some (.agg #[(0:Int),(0:Int),(0:Int),(0:Int),(0:Int)]),5,40):=by kernel_rfl
theorem info_plc:(Tryz.prog.info? 161).map (λi=>(i.zero,i.size,i.bytes))=some (some (.agg #[(0:Int),(0:Int),(0:Int),(0:Int),(0:Int),(0:Int),.string ⟨#[]⟩,false]),8,72):=by kernel_rfl
theorem info_told:(Tryz.prog.info? 228).map (λi=>(i.zero,i.size,i.bytes))=some (some (.agg #[(0:Int),(0:Int),(0:Int),(0:Int),(0:Int),(0:Int),(0:Int),(0:Int),(0:Int),.string ⟨#[]⟩,false]),11,96):=by kernel_rfl
theorem info_hd:(Tryz.prog.info? 224).map (λi=>(i.zero,i.size,i.bytes))=some (some (.agg #[(0:Int),(0:Int),(0:Int),(0:Int)]),4,32):=by kernel_rfl
theorem info_elt:(Tryz.prog.info? 169).map (λi=>(i.zero,i.size,i.bytes))=some (some (.agg #[(0:Int),(0:Int),(0:Int),(0:Int),(0:Int),(0:Int),.string ⟨#[]⟩]),7,64):=by kernel_rfl
theorem info_rn:(Tryz.prog.info? 238).map (λi=>(i.zero,i.size,i.bytes))=some (some (.agg #[(0:Int),(0:Int),(0:Int),(0:Int),(0:Int),(0:Int),.string ⟨#[]⟩]),7,64):=by kernel_rfl
theorem info_itm:(Tryz.prog.info? 110).map (λi=>(i.zero,i.size,i.bytes))=some (some (.agg #[(0:Int),(0:Int),(0:Int),.string ⟨#[]⟩,false,false]),6,48):=by kernel_rfl
def hdOf (p:Grp×GrX):Hd:=⟨p.1.s,p.1.u⟩
theorem heads_any (L:List (Grp×GrX)) (A:Option Addr) (c:Nat) (w:World) (hl:L.length<=100000) (hR:RowGr w A L):
  Calls Tryz.prog 108 #[.slice A L.length c] w λe w'=>∃A' c',e= .returned (.slice A' L.length c')∧w'.ownsRow w.heap.size 224 4 (.slice A' L.length c') L.length ((L.map hdOf).flatMap hdL)∧Below w.heap.size w w':=by
 obtain⟨i0,hi,hz0,hz1,hz2⟩:=info_parts info_hd;have HR:=hid hR;clear hR;go_enter Tryz.func108,Tryz.ntmps108;go_upto_region 3 with fail;go_loopw [3,4] (λo i wr=>∃(k:Nat) (A':Option Addr) (c':Nat),k<=L.length∧i= .int .i64 k∧o= .slice A' k c'∧Hid (wr.ownsRow w.heap.size 224 4 (.slice A' k c') k (((L.take k).map hdOf).flatMap hdL))∧Hid (Below w.heap.size w wr)) (λo i _=>L.length-(RowKit.intOf i).toNat)
 case atStart=>exact⟨0,none,0,Nat.zero_le _,rfl,rfl,hid (World.ownsRow_nil _ _ _ _),hid (Below.refl _ _)⟩
 case round=>
  obtain⟨k,A',c',hk,rfl,rfl,HO,HBr⟩:=hrel;by_cases hlt:k<L.length
  ·have i1:(0:Int)<=(k:Int):=by omega
   have i2:(k:Int)<(L.length:Int):=by omega
   obtain⟨rb,ro,rfl,hrb,hrange⟩:=HR.out.range hlt;have htk:L.take (k+1)=L.take k++[L.getD k gp0]:=takeD_succ hlt gp0;generalize L.getD k gp0=p at *;obtain⟨⟨⟨t,r⟩,n,dv,⟨ut,ur⟩,ops⟩,⟨dA,dc,oA,oc⟩⟩:=p;have HRW:=hid (λW (hB:Below w.heap.size w W)=>show W.rangeAt rb (ro+k*7) [t,r,n,.slice dA dv.length dc,ut,ur,.slice oA ops.length oc] from rangeB hrange hrb hB);have HRG:=hid (HRW.out wr HBr.out);have HTK:=hid htk;have hsz:=HBr.out.size;clear hrange hrb htk;go_upto_region 5 with fail;refine wp_region_held (S:=λw'=>w'.rangeAt rb (ro+k*7) [t,r,n,.slice dA dv.length dc,ut,ur,.slice oA ops.length oc]) (by kernel_rfl) ?_
   try(change wpAnyH _ _ _ _ _ _ _ _ (World.drew _))
   refine tk 0 (.slice A' k c') ((show wr.drew.rangeAt _ _ _ from HRG.out)) ?_;go_simp;refine tk 1 (.slice (some ⟨rb,ro,none⟩) L.length c) ((show wr.drew.rangeAt _ _ _ from HRG.out)) ?_;go_simp;refine tk 2 (.int .i64 (k:Int)) ((show wr.drew.rangeAt _ _ _ from HRG.out)) ?_;go_simp;refine tk 3 (.pointer (some ⟨rb,ro+k*7,none⟩)) ((show wr.drew.rangeAt _ _ _ from HRG.out)) ?_;go_simp;refine tk 4 (.pointer (some ⟨rb,ro+k*7,none⟩)) ((show wr.drew.rangeAt _ _ _ from HRG.out)) ?_;go_simp;refine tk2 5 (.agg #[t,r]) rfl (yieldsIf_load_mid (by rfl) _ _ rfl rb (ro+k*7) rfl [t,r] _ (λW' hW'=>range_mid (pre:=[]) (mid:=[t,r]) (post:=[n,.slice dA dv.length dc,ut,ur,.slice oA ops.length oc]) (hW')) Tryz.underlying42 rfl (by kernel_rfl)) ((show wr.drew.rangeAt _ _ _ from HRG.out)) ?_;go_simp;refine tk 6 (.slice (some ⟨rb,ro,none⟩) L.length c) ((show wr.drew.rangeAt _ _ _ from HRG.out)) ?_;go_simp;refine tk 7 (.int .i64 (k:Int)) ((show wr.drew.rangeAt _ _ _ from HRG.out)) ?_;go_simp;refine tk 8 (.pointer (some ⟨rb,ro+k*7,none⟩)) ((show wr.drew.rangeAt _ _ _ from HRG.out)) ?_;go_simp;refine tk 9 (.pointer (some ⟨rb,ro+k*7+4,none⟩)) ((show wr.drew.rangeAt _ _ _ from HRG.out)) ?_;go_simp;refine tk2 10 (.agg #[ut,ur]) rfl (yieldsIf_load_mid (by rfl) _ _ rfl rb (ro+k*7+4) rfl [ut,ur] _ (λW' hW'=>range_mid (pre:=[t,r,n,.slice dA dv.length dc]) (mid:=[ut,ur]) (post:=[.slice oA ops.length oc]) (hW')) Tryz.underlying42 rfl (by kernel_rfl)) ((show wr.drew.rangeAt _ _ _ from HRG.out)) ?_;go_simp
   refine tk 11 (.agg #[t,r,ut,ur]) ((show wr.drew.rangeAt _ _ _ from HRG.out)) ?_;go_simp;have hsA:(wr.alloc (.cells #[t,r,ut,ur] 224)).drew.heap.size=wr.heap.size+1:=by show(wr.alloc _).heap.size=_;simp
   have HDN:=hid (HO.out.alloc (.cells #[t,r,ut,ur] 224));have HNC:=hid (λ(j:Nat) (y:Value) (h:([t,r,ut,ur]:List Value)[j]? =some y)=>cellsN wr [t,r,ut,ur] 224 j y h);have HOC:=hid (show ∀u∈([t,r,ut,ur]:List Value),u.oneCell'=true from oc_of (c:=#[t,r,ut,ur]) rfl);have HBA:=hid ((HBr.out.alloc HBr.out.size (.cells #[t,r,ut,ur] 224)).drew);refine rd1 12 λK hK=> ?_;go_simp;refine hK.out _ _ (HRW.out _ HBA.out) (λ_=> ?_);clear hK K;refine rd1 13 λK hK=> ?_;refine step_append_lies _ (by rfl) _ _ 157 (by rfl) w.heap.size 224 i0 (.agg #[(0:Int),(0:Int),(0:Int),(0:Int)]) 4 32 Tryz.underlying157 hi hz0 hz1 hz2 rfl (by decide) (.slice A' k c') k _ (by rfl) (by exact HDN.out) ⟨wr.heap.size,0,none⟩ 1 1 [t,r,ut,ur] (by rfl) (by rfl) (by exact HNC.out) HOC.out (by decide) (by unfold maxLen;omega) (by omega) (by rw[hsA];have:=HBr.out.size;omega) (wr.heap.size+1) hsA ?_;intro gq cap w5 hown1 hgrow hat hlt3;have HO5:=hid hown1;have HB5:=hid (HBA.out.grown hgrow (by rw[hsA];have:=HBr.out.size;omega) (λb hb=>(HO.out.lt b hb).1));clear hown1 hgrow hat hlt3;refine hK.out _ _ (HRW.out _ HB5.out) (λ_=> ?_);clear hK K;refine tk 14 (.slice (some ⟨gq,0,none⟩) (k+1) cap) (HRW.out _ HB5.out) ?_;go_simp;refine wpAnyH_done (by kernel_rfl) ?_ _;go_simp;go_wp2;go_roundw
   case rel=>exact⟨k+1,some ⟨gq,0,none⟩,cap,by omega,by go_num,rfl,hid (by rw[HTK.out,List.map_append,List.flatMap_append];exact HO5.out),HB5⟩
   case measure=>(simp[RowKit.intOf];omega)
  ·obtain rfl:k=L.length:=by omega
   have i2:¬(L.length:Int)<(L.length:Int):=by omega
   have HO9:=hid (show wr.ownsRow w.heap.size 224 4 (.slice A' L.length c') L.length ((L.map hdOf).flatMap hdL) by have h9:=HO.out;rw[List.take_length] at h9;exact h9);go_wp2;go_ret;exact⟨A',c',rfl,HO9.out,HBr.out⟩
end
end Go.Proofs.YtkhmicndehlneaaGreatDoor
