/- Part 9 of the walks and plain laws that this claim uses, joined. Conditions: as each theorem states. -/
import Derived.Test.YtkhmicndehlneaaGreatDoorYth
namespace Go.Proofs.YtkhmicndehlneaaGreatDoor
set_option maxRecDepth 100000
set_option maxHeartbeats 16000000
section
section
open Go.RowKit Go.Lib Go.Sort
set_option linter.unusedVariables false
attribute [local go_sem ↓] Go.wp_at_zero Go.wp_at_succ
theorem check_few (t r n:Int) (v:List Int) (ut ur:Int) (ops:List Gop) (dA:Option Addr) (dc:Nat) (oA:Option Addr) (oc:Nat) (w:World) (hl:v.length≤dc) (hc:dc≤9223372036854775807) (hn:i63 n) (hD:VecR w dA v)
  (hh:headB ⟨⟨t,r⟩,n,v,⟨ut,ur⟩,ops⟩=true) (hu:Gst.eqb ⟨ut,ur⟩ ⟨0,0⟩=true) (hz:¬(1≤ops.length∧ops.length≤200)):
  Calls Tryz.prog 48 #[.agg #[.int .i64 t,.int .i64 r,.int .i64 n,.slice dA v.length dc,.int .i64 ut,.int .i64 ur,.slice oA ops.length oc]] w fun e w'=>e= .returned (.int .i64 80)∧Below w.heap.size w w':=by
 have HH:Hid (∀W,Below w.heap.size w W→Calls Tryz.prog 91 #[.agg #[.int .i64 t,.int .i64 r,.int .i64 n,.slice dA v.length dc,.int .i64 ut,.int .i64 ur,.slice oA ops.length oc]] W fun e w'=>e= .returned (.bool true)∧Below W.heap.size W w'):=
  hid (fun W hB=>(head_any ⟨⟨t,r⟩,n,v,⟨ut,ur⟩,ops⟩ dA dc oA oc W hl hc hn (hD.below hB)).mono (by rintro e w' ⟨rfl,hB⟩;exact⟨by rw[hh],hB⟩))
 have hne:=ne_st ut ur 0 0 true hu
 clear hh hD hu
 have hB0:Below w.heap.size w (w.alloc (.cells #[.int .i64 t,.int .i64 r,.int .i64 n,.slice dA v.length dc,.int .i64 ut,.int .i64 ur,.slice oA ops.length oc] 45)):=(Below.refl _ _).alloc (Nat.le_refl _) _
 have HB0:=hid hB0
 clear hB0
 go_enter Tryz.func48,Tryz.ntmps48
 go_upto_region 3 with(first|(go_at_call 91;refine(HH.out _ HB0.out).mono ?_;rintro e w1 ⟨rfl,hB1⟩))
 have HA1:=hid ((hB1.block w.heap.size (by simp)).trans (heap_alloc_new _ _))
 have hT1:Below w.heap.size w w1:=HB0.out.trans (hB1.mono (by simp))
 have hlt:w.heap.size<w1.heap.size:=by have:=hB1.size;simp at this;omega
 clear hB1
 have r0:=cw0 HA1.out
 have r1:=cw1 HA1.out
 have r2:=cw2 HA1.out
 have r3:=cw3 HA1.out
 have r4:=cw4 HA1.out
 have r5:=cw5 HA1.out
 have r6:=cw6 HA1.out
 by_cases h1:1≤ops.length
 ·have b1:decide (ops.length<1)=false:=by rw[decide_eq_false_iff_not];omega
  have b2:¬(ops.length:Int)<1:=by omega
  have b3:decide (200<ops.length)=true:=by rw[decide_eq_true_eq];omega
  have b4:200<(ops.length:Int):=by omega
  have b5:decide (ops.length=0)=false:=by rw[decide_eq_false_iff_not];omega
  have b6:decide (0<ops.length)=true:=by rw[decide_eq_true_eq];omega
  have b7:¬ops=[]:=by intro e;rw[e] at h1;simp at h1
  clear h1 hz
  go_wp2
  go_ret
  exact⟨rfl,hT1⟩
 ·have b1:decide (ops.length<1)=true:=by rw[decide_eq_true_eq];omega
  have b2:(ops.length:Int)<1:=by omega
  have b5:decide (ops.length=0)=true:=by rw[decide_eq_true_eq];omega
  have b6:ops=[]:=List.eq_nil_of_length_eq_zero (by omega)
  clear h1 hz b1 b5
  subst b6
  go_wp2
  go_ret
  exact⟨rfl,hT1⟩
theorem OpFin.size {b:Nat} {w w':World} {o:Obj} {ans:Bool} {k c:Nat} (hb:b<w.heap.size) (h:OpFin b (w.alloc o) ans k c w'):b<w'.heap.size:=by
 rcases h with⟨h,-⟩|⟨w2,v,h,rfl,-⟩
 ·have:=h.size;simp at this;omega
 ·have:=h.size;simp[World.setCell] at this ⊢;omega
theorem OpFin.frozen {b:Nat} {w w':World} {ans:Bool} {k c:Nat} (h:OpFin b w ans k c w') (hb:b<w.heap.size):w'.frozen? ⟨b,7,none⟩=w.frozen? ⟨b,7,none⟩:=by
 rcases h with⟨h,-⟩|⟨w2,v,h,rfl,-⟩
 ·exact h.frozen (p:=⟨b,7,none⟩) hb
 ·exact(World.frozen?_setCell _ _ _ _).trans (h.frozen (p:=⟨b,7,none⟩) hb)
theorem opsB_step {g:Gst} {l:List Gop} {j k:Nat} (hj:j<l.length) (d:Gop):opsB g (l.drop j) k=(opB g (l.getD j d) k && opsB g (l.drop (j+1)) (k+moreOf (l.getD j d))):=by
 have:l.getD j d=l[j]:=by simp[List.getD,hj]
 rw[this,List.drop_eq_getElem_cons hj]
 rfl
theorem check_ops (t r n:Int) (v:List Int) (ut ur:Int) (ops:List Gop) (dA:Option Addr) (dc:Nat) (oA:Option Addr) (oc:Nat) (w:World) (hl:v.length≤dc) (hc:dc≤9223372036854775807) (hn:i63 n) (hD:VecR w dA v)
  (hh:headB ⟨⟨t,r⟩,n,v,⟨ut,ur⟩,ops⟩=true) (hu:Gst.eqb ⟨ut,ur⟩ ⟨0,0⟩=true) (h1:1≤ops.length) (h2:ops.length≤200) (S:Nat→Prop) (hO:OpsS w S oA ops) (hTx:∀o∈ops,o.text.size<9223372036854775807) (hTb:Tabs w) (z:Int) (hz:z=if opsB ⟨t,r⟩ ops 0=true then 0 else 80):
  Calls Tryz.prog 48 #[.agg #[.int .i64 t,.int .i64 r,.int .i64 n,.slice dA v.length dc,.int .i64 ut,.int .i64 ur,.slice oA ops.length oc]] w fun e w'=>e= .returned (.int .i64 z)∧Below w.heap.size w w':=by
 have HO:=hid hO
 have HTx:=hid hTx
 have HTb:=hid hTb
 have HZ:=hid hz
 clear hO hTx hTb hz
 have H1:=hid h1
 have H2:=hid h2
 have HH:Hid (∀W,Below w.heap.size w W→Calls Tryz.prog 91 #[.agg #[.int .i64 t,.int .i64 r,.int .i64 n,.slice dA v.length dc,.int .i64 ut,.int .i64 ur,.slice oA ops.length oc]] W fun e w'=>e= .returned (.bool true)∧Below W.heap.size W w'):=
  hid (fun W hB=>(head_any ⟨⟨t,r⟩,n,v,⟨ut,ur⟩,ops⟩ dA dc oA oc W hl hc hn (hD.below hB)).mono (by rintro e w' ⟨rfl,hB⟩;exact⟨by rw[hh],hB⟩))
 have hne:=ne_st ut ur 0 0 true hu
 clear hh hD hu
 have hB0:Below w.heap.size w (w.alloc (.cells #[.int .i64 t,.int .i64 r,.int .i64 n,.slice dA v.length dc,.int .i64 ut,.int .i64 ur,.slice oA ops.length oc] 45)):=(Below.refl _ _).alloc (Nat.le_refl _) _
 have HB0:=hid hB0
 clear hB0
 go_enter Tryz.func48,Tryz.ntmps48
 go_upto_region 3 with(first|(go_at_call 91;refine(HH.out _ HB0.out).mono ?_;rintro e w1 ⟨rfl,hB1⟩))
 have HA1:=hid ((hB1.block w.heap.size (by simp)).trans (heap_alloc_new _ _))
 have hT1:Below w.heap.size w w1:=HB0.out.trans (hB1.mono (by simp))
 have hlt:w.heap.size<w1.heap.size:=by have:=hB1.size;simp at this;omega
 clear hB1
 have r0:=cw0 HA1.out
 have r1:=cw1 HA1.out
 have r2:=cw2 HA1.out
 have r3:=cw3 HA1.out
 have r4:=cw4 HA1.out
 have r5:=cw5 HA1.out
 have r6:=cw6 HA1.out
 have b1:decide (ops.length<1)=false:=by rw[decide_eq_false_iff_not];omega
 have b2:¬(ops.length:Int)<1:=by omega
 have b3:decide (200<ops.length)=false:=by rw[decide_eq_false_iff_not];omega
 have b4:¬200<(ops.length:Int):=by omega
 have b5:decide (ops.length=0)=false:=by rw[decide_eq_false_iff_not];omega
 have b6:decide (0<ops.length)=true:=by rw[decide_eq_true_eq];omega
 have b7:¬ops=[]:=by intro e;rw[e] at h1;simp at h1
 clear h1 h2
 go_upto_region 11 with(fail)
 go_loopw [50] (fun i wr=>∃j kk:Nat,j≤ops.length∧i= .int .i64 j∧kk≤2000*j∧Hid (opsB ⟨t,r⟩ ops 0=opsB ⟨t,r⟩ (ops.drop j) kk)∧Below w.heap.size w wr∧w1.heap.size<wr.heap.size∧Hid (Chkr wr w1.heap.size ⟨t,r⟩ kk)∧Hid (wr.frozen? ⟨w1.heap.size,7,none⟩=false)) (fun i _=>ops.length-(RowKit.intOf i).toNat)
 case atStart=>exact⟨0,0,by omega,rfl,by omega,hid rfl,hT1.alloc hT1.size _,by simp,hid ⟨(cell_of_row _ _ _ _ _ _ (heap_alloc_new _ _)).trans rfl,(cell_of_row _ _ _ _ _ _ (heap_alloc_new _ _)).trans rfl,(cell_of_row _ _ _ _ _ _ (heap_alloc_new _ _)).trans rfl⟩,hid (frozen_of_row _ _ _ _ _ (heap_alloc_new _ _))⟩
 case round=>
  clear r0 r1 r2 r3 r4 r5 r6
  obtain⟨j,kk,hj,rfl,hkk,HK,hBr,hsz,HCr,HFr⟩:=hrel
  by_cases hjl:j<ops.length
  ·obtain⟨X,hX1,hX2⟩:=OpsS.agr HO.out (Agr.below hBr)
   obtain⟨ob,oo,rfl,hS,hob,hc⟩:=hX1 j hjl
   have hIn:=hX2 j hjl
   obtain⟨o,ho⟩:∃o,o=ops.getD j (opO 0 .zero):=⟨_,rfl⟩
   obtain⟨x,hx⟩:∃x,x=X j:=⟨_,rfl⟩
   rw[←ho] at hIn
   simp only[←ho,←hx] at hIn hc
   have hot:o.text.size<9223372036854775807:=HTx.out o (by rw[ho];simp[List.getD,hjl])
   have hst:=opsB_step (g:=⟨t,r⟩) (k:=kk) hjl (opO 0 .zero)
   rw[←ho] at hst
   have HST:=hid hst
   have hA0:∀c,Below wr.heap.size wr (wr.alloc c):=fun c=>(Below.refl _ _).alloc (Nat.le_refl _) _
   have hOp:=fun c=>op_any w1.heap.size ⟨t,r⟩ kk (by have:=H2.out;omega) o x S (wr.alloc c) (HCr.out.alloc _) (((hA0 c).frozen (p:=⟨w1.heap.size,7,none⟩) hsz).trans HFr.out) (hIn.agr (Agr.below (hA0 c))) hot ((HTb.out.below hBr).below (hA0 c))
   have hmo:=fun h=>more_le (g:=⟨t,r⟩) (o:=o) (k:=kk) h
   clear hst ho hx hIn hot hX1 hX2
   obtain⟨mo,hmo2⟩:∃m,m=moreOf o:=⟨_,rfl⟩
   obtain⟨bb,hbb⟩:∃m,m=opB ⟨t,r⟩ o kk:=⟨_,rfl⟩
   simp only[←hmo2,←hbb] at hOp hmo
   have HST2:Hid (opsB ⟨t,r⟩ (ops.drop j) kk=(bb && opsB ⟨t,r⟩ (ops.drop (j+1)) (kk+mo))):=hid (by rw[hbb,hmo2];exact HST.out)
   clear HST hmo2 hbb
   have HMo:=hid hmo
   clear hmo
   obtain⟨kind,⟨⟨nt,nr⟩,ni⟩,⟨⟨pt,pr⟩,pi⟩,name,dir,dots,⟨⟨at_,ar⟩,ai⟩,⟨⟨et,er⟩,ei⟩,text,elems⟩:=o
   obtain⟨xd,xdc,xe,xec⟩:=x
   have HOp:Hid (∀c,Calls Tryz.prog 94 #[.pointer (some ⟨w1.heap.size,0,none⟩),.agg #[.int .i64 kind,.int .i64 nt,.int .i64 nr,.int .i64 ni,.int .i64 pt,.int .i64 pr,.int .i64 pi,.string name,.bool dir,.slice xd dots.length xdc,.int .i64 at_,.int .i64 ar,.int .i64 ai,.int .i64 et,.int .i64 er,.int .i64 ei,.string text,.slice xe elems.length xec]] (wr.alloc c) fun e w'=>e= .returned (.bool bb)∧OpFin w1.heap.size (wr.alloc c) bb kk mo w'):=hid hOp
   clear hOp
   have c0:wr.cell? ⟨ob,oo+j*18,none⟩=some (.int .i64 kind):=hc 0 (by omega)
   have c1:wr.cell? ⟨ob,oo+j*18+1,none⟩=some (.int .i64 nt):=hc 1 (by omega)
   have c2:wr.cell? ⟨ob,oo+j*18+2,none⟩=some (.int .i64 nr):=hc 2 (by omega)
   have c3:wr.cell? ⟨ob,oo+j*18+3,none⟩=some (.int .i64 ni):=hc 3 (by omega)
   have c4:wr.cell? ⟨ob,oo+j*18+4,none⟩=some (.int .i64 pt):=hc 4 (by omega)
   have c5:wr.cell? ⟨ob,oo+j*18+5,none⟩=some (.int .i64 pr):=hc 5 (by omega)
   have c6:wr.cell? ⟨ob,oo+j*18+6,none⟩=some (.int .i64 pi):=hc 6 (by omega)
   have c7:wr.cell? ⟨ob,oo+j*18+7,none⟩=some (.string name):=hc 7 (by omega)
   have c8:wr.cell? ⟨ob,oo+j*18+8,none⟩=some (.bool dir):=hc 8 (by omega)
   have c9:wr.cell? ⟨ob,oo+j*18+9,none⟩=some (.slice xd dots.length xdc):=hc 9 (by omega)
   have c10:wr.cell? ⟨ob,oo+j*18+10,none⟩=some (.int .i64 at_):=hc 10 (by omega)
   have c11:wr.cell? ⟨ob,oo+j*18+11,none⟩=some (.int .i64 ar):=hc 11 (by omega)
   have c12:wr.cell? ⟨ob,oo+j*18+12,none⟩=some (.int .i64 ai):=hc 12 (by omega)
   have c13:wr.cell? ⟨ob,oo+j*18+13,none⟩=some (.int .i64 et):=hc 13 (by omega)
   have c14:wr.cell? ⟨ob,oo+j*18+14,none⟩=some (.int .i64 er):=hc 14 (by omega)
   have c15:wr.cell? ⟨ob,oo+j*18+15,none⟩=some (.int .i64 ei):=hc 15 (by omega)
   have c16:wr.cell? ⟨ob,oo+j*18+16,none⟩=some (.string text):=hc 16 (by omega)
   have c17:wr.cell? ⟨ob,oo+j*18+17,none⟩=some (.slice xe elems.length xec):=hc 17 (by omega)
   clear hc
   have hwk:IntKind.i64.wrap ((j:Int)+1)=(j:Int)+1:=IntWalk.i64_in _ (by have:=H2.out;omega)
   cases bb with
   | false=>
    obtain rfl:z=80:=by rw[HZ.out,HK.out,HST2.out];rfl
    go_wp2_with (first
     |(go_at_call 94;refine(HOp.out _).mono ?_;rintro e w3 ⟨rfl,hFin⟩)
     |(refine store_last rfl _ _ _ rfl _ _ _ _ rfl ?_ rfl ?_ ?_ ?_ ?_;(focus(simp;done));kernel_rfl;rfl;rfl)
     |(refine load_last rfl _ _ rfl _ _ _ _ rfl ?_ Tryz.underlying125 rfl ?_ ?_;(focus(simp;done));kernel_rfl))
    go_ret
    exact⟨rfl,hBr.trans (((hA0 _).mono hBr.size).trans (hFin.below (by omega) (by have:=hBr.size;simp;omega)))⟩
   | true=>
    go_wp2_with (first
     |(go_at_call 94;refine(HOp.out _).mono ?_;rintro e w3 ⟨rfl,hFin⟩)
     |(refine store_last rfl _ _ _ rfl _ _ _ _ rfl ?_ rfl ?_ ?_ ?_ ?_;(focus(simp;done));kernel_rfl;rfl;rfl)
     |(refine load_last rfl _ _ rfl _ _ _ _ rfl ?_ Tryz.underlying125 rfl ?_ ?_;(focus(simp;done));kernel_rfl))
    go_roundw
    case rel=>exact⟨j+1,kk+mo,by omega,by go_num,by have:=HMo.out (by trivial);omega,hid (by rw[HK.out,HST2.out];rfl),hBr.trans (((hA0 _).mono hBr.size).trans (hFin.below (by omega) (by have:=hBr.size;simp;omega))),OpFin.size hsz hFin,hid (hFin.chkr (HCr.out.alloc _)),hid ((hFin.frozen (by simp;omega)).trans (((hA0 _).frozen (p:=⟨w1.heap.size,7,none⟩) hsz).trans HFr.out))⟩
    case measure=>simp[RowKit.intOf];omega
  ·obtain rfl:j=ops.length:=by omega
   obtain rfl:z=0:=by rw[HZ.out,HK.out,List.drop_length];rfl
   go_wp2
   go_ret
   exact⟨rfl,hBr⟩
end
section
open Go.RowKit Go.Lib Go.Sort
set_option linter.unusedVariables false
theorem check_any (g:Grp) (dA:Option Addr) (dc:Nat) (oA:Option Addr) (oc:Nat) (S:Nat→Prop) (w:World) (hI:GrIn w S g dA dc oA oc) (hTx:∀o∈g.ops,o.text.size<9223372036854775807) (hTb:Tabs w):
  Calls Tryz.prog 48 #[.agg (grA g dA dc oA oc)] w fun e w'=>e= .returned (.int .i64 (if chkB g=true then 0 else 80))∧Below w.heap.size w w':=by
 obtain⟨⟨t,r⟩,n,v,⟨ut,ur⟩,ops⟩:=g
 have hl:=hI.dle
 have hc:dc≤9223372036854775807:=by have:=hI.dmax;simp only[maxLen] at this;omega
 have hn:=hI.nin
 have hD:=hI.deps.vec
 simp only at hl hn hD hTx
 cases hh:headB ⟨⟨t,r⟩,n,v,⟨ut,ur⟩,ops⟩ with
 |false=>
  have:chkB ⟨⟨t,r⟩,n,v,⟨ut,ur⟩,ops⟩=false:=by unfold chkB;rw[hh];rfl
  rw[this]
  exact check_head t r n v ut ur ops dA dc oA oc w hl hc hn hD hh
 | true=>
  cases hu:Gst.eqb ⟨ut,ur⟩ ⟨0,0⟩ with
  |false=>
   refine check_undo t r n v ut ur ops dA dc oA oc w hl hc hn hD hh hu _ ?_
   have:Gst.eqb ⟨ut,ur⟩ .zero=false:=hu
   simp only[chkB,hh,this,Bool.true_and,Bool.false_eq_true,if_false]
  | true=>
   have hu2:Gst.eqb ⟨ut,ur⟩ .zero=true:=hu
   by_cases h1:1≤ops.length∧ops.length≤200
   ·refine check_ops t r n v ut ur ops dA dc oA oc w hl hc hn hD hh hu h1.1 h1.2 S hI.ops hTx hTb _ ?_
    simp only[chkB,hh,hu2,Bool.true_and,if_true,decide_eq_true h1.1,decide_eq_true h1.2]
   ·have:chkB ⟨⟨t,r⟩,n,v,⟨ut,ur⟩,ops⟩=false:=by
     simp only[chkB,hh,hu2,Bool.true_and,if_true]
     by_cases h2:1≤ops.length
     ·have:¬ops.length≤200:=fun h=>h1 ⟨h2,h⟩
      simp[this]
     ·simp[h2]
    rw[this]
    exact check_few t r n v ut ur ops dA dc oA oc w hl hc hn hD hh hu h1
end
end
end Go.Proofs.YtkhmicndehlneaaGreatDoor
