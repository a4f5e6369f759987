/- Part 26 of the walks and plain laws that this claim uses, joined. Conditions: as each theorem states. -/
import Derived.Test.YtkhmicndehlneaaGreatDoorYty
namespace Go.Proofs.YtkhmicndehlneaaGreatDoor
set_option maxRecDepth 100000
set_option maxHeartbeats 16000000
section
open Go.RowKit Go.Lib Go.Sort
set_option linter.unusedVariables false
attribute [local go_sem ↓] Go.wp_at_zero Go.wp_at_succ
theorem opsE_succ (x:Gid) {l:List Gop} {j:Nat} (h:j<l.length):opsE x (l.take (j+1))=opsE x (l.take j)++(if (decide ((l.getD j (opO 0 .zero)).kind=4) && (l.getD j (opO 0 .zero)).node.eqb x)=true then (l.getD j (opO 0 .zero)).elems else []):=by
 unfold opsE
 rw[takeD_succ h (opO 0 .zero),List.filter_append,List.flatMap_append]
 congr 1
 generalize l.getD j (opO 0 .zero)=o
 cases e:(decide (o.kind=4) && o.node.eqb x)<;>simp[List.filter,e]
def goneE (on:Bool) (x:Gid) (l:List Gop):List Gid:=if on=true then opsE x l else []
theorem goneE_succ (on:Bool) (x:Gid) {l:List Gop} {j:Nat} (h:j<l.length):goneE on x (l.take (j+1))=goneE on x (l.take j)++(if (decide ((l.getD j (opO 0 .zero)).kind=4) && (l.getD j (opO 0 .zero)).node.eqb x && on)=true then (l.getD j (opO 0 .zero)).elems else []):=by
 unfold goneE
 cases on with
 |false=>simp
 |true=>rw[if_pos rfl,if_pos rfl,opsE_succ x h,Bool.and_true]
theorem idsF {w:World} {S:Nat→Prop} {A:Option Addr} {l:List Gid} (h:IdsS w S A l):RowF w S A 3 idL .zero l:=RowG.congr h fun k j _ hj=>by
 rcases j with _|_|_|j
 ·rfl
 ·rfl
 ·rfl
 ·omega
theorem gone_any (L:List (Grp×GrX)) (A:Option Addr) (c:Nat) (ON:List Gst) (nA:Option Addr) (occ:Nat) (xt xr xi:Int) (S S2:Nat→Prop) (w00:World) (hl:L.length≤20) (hlo:∀p∈L,p.1.ops.length≤2∧∀o∈p.1.ops,o.elems.length≤10) (hon:ON.length≤100000) (hR:RowGr w00 A L) (hG:∀p∈L,GrG w00 S p) (hO:RowF w00 S2 nA 2 stL .zero ON):
  Calls Tryz.prog 116 #[.slice A L.length c,.slice nA ON.length occ,.agg #[.int .i64 xt,.int .i64 xr,.int .i64 xi]] w00 fun e w'=>∃A' c',e= .returned (.slice A' (goneL ON ⟨⟨xt,xr⟩,xi⟩ L).length c')∧(goneL ON ⟨⟨xt,xr⟩,xi⟩ L).length≤400∧w'.ownsRow w00.heap.size 108 3 (.slice A' (goneL ON ⟨⟨xt,xr⟩,xi⟩ L).length c') (goneL ON ⟨⟨xt,xr⟩,xi⟩ L).length ((goneL ON ⟨⟨xt,xr⟩,xi⟩ L).flatMap idL)∧Below w00.heap.size w00 w':=by
 obtain⟨i0,hi,hz0,hz1,hz2⟩:=info_parts info_id
 have hb0:Below w00.heap.size w00 (w00.alloc (.cells #[.int .i64 xt,.int .i64 xr,.int .i64 xi] 108)):=(Below.refl _ _).alloc (Nat.le_refl _) _
 have HB0:=hid hb0
 have HXC:=hid (heap_alloc_new w00 (.cells #[.int .i64 xt,.int .i64 xr,.int .i64 xi] 108))
 have HR:=hid (hR.below hb0)
 have HG:=hid (fun p hp=>(hG p hp).agr (Agr.below hb0))
 have HON:=hid (hO.below hb0)
 clear hR hG hO hb0
 go_enter Tryz.func116,Tryz.ntmps116
 go_upto_region 1 with fail
 generalize hW:w00.alloc (.cells #[.int .i64 xt,.int .i64 xr,.int .i64 xi] 108)=w at *
 clear hW
 generalize hxb:w00.heap.size=xb at *
 have HXB:=hid hxb
 clear hxb
 have HLO:=hid hlo
 clear hlo
 go_upto_region 3 with fail
 go_loopw [7,8] (fun o i wr=>∃(k:Nat) (A':Option Addr) (c' m:Nat),k≤L.length∧i= .int .i64 k∧o= .slice A' m c'∧m≤k*20∧Hid (m=(goneL ON ⟨⟨xt,xr⟩,xi⟩ (L.take k)).length)∧Hid (wr.ownsRow w.heap.size 108 3 (.slice A' m c') m ((goneL ON ⟨⟨xt,xr⟩,xi⟩ (L.take k)).flatMap idL))∧Hid (Below w.heap.size w wr)) (fun o i _=>L.length-(RowKit.intOf i).toNat)
 case atStart=>exact⟨0,none,0,0,Nat.zero_le _,rfl,rfl,Nat.zero_le _,hid rfl,hid (World.ownsRow_nil _ _ _ _),hid (Below.refl _ _)⟩
 case round=>
  obtain⟨k,A',c',m,hk,rfl,rfl,hmk,HML,HO,HBr⟩:=hrel
  by_cases hlt:k<L.length
  ·have i1:(0:Int)≤(k:Int):=by omega
   have i2:(k:Int)<(L.length:Int):=by omega
   obtain⟨rb,ro,rfl,hrb,hrange⟩:=HR.out.range hlt
   have hst:goneL ON ⟨⟨xt,xr⟩,xi⟩ (L.take (k+1))=goneL ON ⟨⟨xt,xr⟩,xi⟩ (L.take k)++goneE (onB ON (L.getD k gp0).1.s) ⟨⟨xt,xr⟩,xi⟩ (L.getD k gp0).1.ops:=by rw[takeD_succ hlt gp0];simp[goneL,goneE]
   have hop:=(HG.out _ (getD_memF hlt gp0)).ops
   have hol:=HLO.out _ (getD_memF hlt gp0)
   generalize goneL ON ⟨⟨xt,xr⟩,xi⟩ (L.take k)=N at *
   generalize L.getD k gp0=p at *
   obtain⟨⟨⟨t,r⟩,n,dv,⟨ut,ur⟩,ops⟩,⟨dA,dc,oA,oc⟩⟩:=p
   obtain⟨X,hX1,hX2⟩:=hop
   have hol:ops.length≤2∧∀o∈ops,o.elems.length≤10:=hol
   have HOL:=hid hol.2
   replace hol:=hol.1
   obtain⟨b3,hb3⟩:∃b,b=onB ON ⟨t,r⟩:=⟨_,rfl⟩
   have HRW:=hid (fun W (hB:Below w.heap.size w W)=>show W.rangeAt rb (ro+k*7) [.int .i64 t,.int .i64 r,.int .i64 n,.slice dA dv.length dc,.int .i64 ut,.int .i64 ur,.slice oA ops.length oc] from rangeB hrange hrb hB)
   have HX1:=hid hX1
   have HX2:=hid hX2
   have HST:=hid (show goneL ON ⟨⟨xt,xr⟩,xi⟩ (L.take (k+1))=N++goneE b3 ⟨⟨xt,xr⟩,xi⟩ ops from by rw[hb3];exact hst)
   have hsz:=HBr.out.size
   have HHS:=hid (fun W (hB:Below w.heap.size w W)=>show Calls Tryz.prog 109 #[.slice nA ON.length occ,.agg #[.int .i64 t,.int .i64 r]] W fun e w'=>e= .returned (.bool b3)∧Below W.heap.size W w' from by rw[hb3];exact hasstamp_any ON nA occ ⟨t,r⟩ S2 W (by omega) (HON.out.below hB))
   clear hrange hrb hst hX1 hX2 hb3
   generalize wr=w0 at *
   go_upto_region 6 with fail
   go_loopw [7,9] (fun o i wr=>∃(j:Nat) (A':Option Addr) (c' m:Nat),j≤ops.length∧i= .int .i64 j∧o= .slice A' m c'∧m≤k*20+j*10∧Hid (m=(N++goneE b3 ⟨⟨xt,xr⟩,xi⟩ (ops.take j)).length)∧Hid (wr.ownsRow w.heap.size 108 3 (.slice A' m c') m ((N++goneE b3 ⟨⟨xt,xr⟩,xi⟩ (ops.take j)).flatMap idL))∧Hid (Below w.heap.size w wr)) (fun o i _=>ops.length-(RowKit.intOf i).toNat)
   case atStart=>exact⟨0,A',c',m,Nat.zero_le _,rfl,rfl,hmk,hid (by rw[HML.out];simp[goneE,opsE]),hid (by have h9:=HO.out;simpa[goneE,opsE] using h9),HBr⟩
   case round=>
    obtain⟨j,A',c',m,hj,rfl,rfl,hmj,HML,HO,HBr⟩:=hrel
    have HRG:=hid (HRW.out wr HBr.out)
    have hszr:=HBr.out.size
    have g6:wr.cell? ⟨rb,ro+k*7+6,none⟩=some (.slice oA ops.length oc):=HRG.out 6 _ rfl
    by_cases hjl:j<ops.length
    ·have j1:(0:Int)≤(j:Int):=by omega
     have j2:(j:Int)<(ops.length:Int):=by omega
     obtain⟨ob,oo,rfl,-,hob,hoc⟩:=HX1.out j hjl
     have hor:=op_range hoc
     have hxi:=HX2.out j hjl
     have hel:=HOL.out _ (getD_memF hjl (opO 0 .zero))
     have hst2:=goneE_succ b3 ⟨⟨xt,xr⟩,xi⟩ hjl
     generalize ops.getD j (opO 0 .zero)=o at *
     generalize X j=x at *
     obtain⟨kd,⟨⟨nt,nr⟩,ni⟩,⟨⟨pt,pr⟩,pi⟩,nm,dd,dots,⟨⟨at_,ar⟩,ai⟩,⟨⟨et,er⟩,ei⟩,tx,elems⟩:=o
     obtain⟨sA,sc,eA,ec⟩:=x
     have HOR:=hid (fun W (hB:Below w.heap.size w W)=>show W.rangeAt ob (oo+j*18) [.int .i64 kd,.int .i64 nt,.int .i64 nr,.int .i64 ni,.int .i64 pt,.int .i64 pr,.int .i64 pi,.string nm,.bool dd,.slice sA dots.length sc,.int .i64 at_,.int .i64 ar,.int .i64 ai,.int .i64 et,.int .i64 er,.int .i64 ei,.string tx,.slice eA elems.length ec] from rangeB hor hob hB)
     have HS2:=hid hst2
     have HEL:=hid (idsF hxi.elems)
     have hel:elems.length≤10:=hel
     clear hor hob hoc hst2 hxi
     obtain⟨b1,hb1⟩:∃b,b=decide (kd=4):=⟨_,rfl⟩
     obtain⟨b2,hb2⟩:∃b,b=Gid.eqb ⟨⟨nt,nr⟩,ni⟩ ⟨⟨xt,xr⟩,xi⟩:=⟨_,rfl⟩
     have q1:(kd == 4)=b1:=by rw[hb1];rfl
     have q2:=eq_id nt nr ni xt xr xi b2 hb2.symm
     have HS2:=hid (show goneE b3 ⟨⟨xt,xr⟩,xi⟩ (ops.take (j+1))=goneE b3 ⟨⟨xt,xr⟩,xi⟩ (ops.take j)++(if (b1 && b2 && b3)=true then elems else []) by rw[HS2.out,hb1,hb2])
     have HOw:=hid (HOR.out wr HBr.out)
     clear hb1 hb2
     go_upto_region 9 with(first
      |(refine wpList_load_mid rfl _ _ rfl ob (oo+j*18) rfl [.int .i64 kd,.int .i64 nt,.int .i64 nr,.int .i64 ni,.int .i64 pt,.int .i64 pr,.int .i64 pi,.string nm,.bool dd,.slice sA dots.length sc,.int .i64 at_,.int .i64 ar,.int .i64 ai,.int .i64 et,.int .i64 er,.int .i64 ei,.string tx,.slice eA elems.length ec] _ HOw.out Tryz.underlying125 rfl (by kernel_rfl) ?_)
      |(refine store_last rfl _ _ _ rfl _ _ _ _ rfl ?_ rfl ?_ ?_ ?_ ?_;(focus(simp;done));kernel_rfl;rfl;rfl))
     have hba:=HBr.out.alloc hszr (.cells #[.int .i64 kd,.int .i64 nt,.int .i64 nr,.int .i64 ni,.int .i64 pt,.int .i64 pr,.int .i64 pi,.string nm,.bool dd,.slice sA dots.length sc,.int .i64 at_,.int .i64 ar,.int .i64 ai,.int .i64 et,.int .i64 er,.int .i64 ei,.string tx,.slice eA elems.length ec] 125)
     have hbx:Below wr.heap.size wr (wr.alloc (.cells #[.int .i64 kd,.int .i64 nt,.int .i64 nr,.int .i64 ni,.int .i64 pt,.int .i64 pr,.int .i64 pi,.string nm,.bool dd,.slice sA dots.length sc,.int .i64 at_,.int .i64 ar,.int .i64 ai,.int .i64 et,.int .i64 er,.int .i64 ei,.string tx,.slice eA elems.length ec] 125)):=(Below.refl _ _).alloc (Nat.le_refl _) _
     have HCX:=hid (heap_alloc_new wr (.cells #[.int .i64 kd,.int .i64 nt,.int .i64 nr,.int .i64 ni,.int .i64 pt,.int .i64 pr,.int .i64 pi,.string nm,.bool dd,.slice sA dots.length sc,.int .i64 at_,.int .i64 ar,.int .i64 ai,.int .i64 et,.int .i64 er,.int .i64 ei,.string tx,.slice eA elems.length ec] 125))
     have HXr:=hid ((hba.block xb (lt_of_block HXC.out)).trans HXC.out)
     generalize hW:wr.alloc (.cells #[.int .i64 kd,.int .i64 nt,.int .i64 nr,.int .i64 ni,.int .i64 pt,.int .i64 pr,.int .i64 pi,.string nm,.bool dd,.slice sA dots.length sc,.int .i64 at_,.int .i64 ar,.int .i64 ai,.int .i64 et,.int .i64 er,.int .i64 ei,.string tx,.slice eA elems.length ec] 125)=W at *
     have HBW:=hid hba
     have hszW:=hba.size
     have HOW:=hid (HO.out.kept (gby_below (r:=none) hbx) (Classical.em _))
     clear hW hba hbx
     have z0:W.cell? ⟨wr.heap.size,0,none⟩=some (.int .i64 kd):=cell_of_row _ _ _ _ _ _ HCX.out
     have z1:W.cell? ⟨wr.heap.size,1,none⟩=some (.int .i64 nt):=cell_of_row _ _ _ _ _ _ HCX.out
     have z2:W.cell? ⟨wr.heap.size,2,none⟩=some (.int .i64 nr):=cell_of_row _ _ _ _ _ _ HCX.out
     have z3:W.cell? ⟨wr.heap.size,3,none⟩=some (.int .i64 ni):=cell_of_row _ _ _ _ _ _ HCX.out
     have z17:W.cell? ⟨wr.heap.size,17,none⟩=some (.slice eA elems.length ec):=cell_of_row _ _ _ _ _ _ HCX.out
     have HRW1:=hid (HRW.out W HBW.out)
     have y0:W.cell? ⟨rb,ro+k*7,none⟩=some (.int .i64 t):=HRW1.out 0 _ rfl
     have y1:W.cell? ⟨rb,ro+k*7+1,none⟩=some (.int .i64 r):=HRW1.out 1 _ rfl
     have x0:W.cell? ⟨xb,0,none⟩=some (.int .i64 xt):=cell_of_row _ _ _ _ _ _ HXr.out
     have x1:W.cell? ⟨xb,1,none⟩=some (.int .i64 xr):=cell_of_row _ _ _ _ _ _ HXr.out
     have x2:W.cell? ⟨xb,2,none⟩=some (.int .i64 xi):=cell_of_row _ _ _ _ _ _ HXr.out
     have HEW:=hid (HEL.out.below HBW.out)
     cases b1 with
     |false=>
      go_wp2
      go_roundw
      case rel=>exact⟨j+1,A',c',m,by omega,by go_num,rfl,by omega,hid (by rw[HS2.out];simpa using HML.out),hid (by rw[HS2.out];simpa using HOW.out),HBW⟩
      case measure=>(simp[RowKit.intOf];omega)
     | true=>
      cases b2 with
      |false=>
       go_wp2
       go_roundw
       case rel=>exact⟨j+1,A',c',m,by omega,by go_num,rfl,by omega,hid (by rw[HS2.out];simpa using HML.out),hid (by rw[HS2.out];simpa using HOW.out),HBW⟩
       case measure=>(simp[RowKit.intOf];omega)
      | true=>
       cases b3 with
       |false=>
        go_wp2_with (go_at_call 109;refine(HHS.out W HBW.out).mono ?_;rintro e w2 ⟨rfl,hB2⟩;have HB2:=hid (HBW.out.trans (hB2.mono hszW));have HO2:=hid (HOW.out.kept (gby_below (r:=none) hB2) (Classical.em _));clear hB2)
        go_roundw
        case rel=>exact⟨j+1,A',c',m,by omega,by go_num,rfl,by omega,hid (by rw[HS2.out];simpa using HML.out),hid (by rw[HS2.out];simpa using HO2.out),HB2⟩
        case measure=>(simp[RowKit.intOf];omega)
       | true=>
        have HS9:=hid (show goneE true ⟨⟨xt,xr⟩,xi⟩ (ops.take (j+1))=goneE true ⟨⟨xt,xr⟩,xi⟩ (ops.take j)++elems by rw[HS2.out];rfl)
        have HLE:=hid (flat_len (f:=idL) (s:=3) (fun _=>rfl) elems)
        have HUE:=hid (show ∀u∈elems.flatMap idL,u.oneCell'=true from fun u hu=>by obtain⟨x,-,hx⟩:=List.mem_flatMap.1 hu;exact oc_idL x u hx)
        go_wp2_with (first
         |(at_builtin;refine wpList_append_flat rfl _ _ 123 rfl w.heap.size 108 i0 (.agg #[.int .i64 0,.int .i64 0,.int .i64 0]) 3 24 Tryz.underlying123 hi hz0 hz1 hz2 rfl (by decide) (.slice A' m c') m _ rfl HO2.out eA elems.length ec (elems.flatMap idL) rfl HLE.out (HEW2.out.flat (fun _=>rfl)) HUE.out (by unfold maxLen;omega) (by omega) hsz2 ?_;intro A5 c5 w5 hown hgrow;have HO5:=hid hown;have HB5:=hid (HB2.out.grown hgrow hsz2 (fun b hb=>(HO2.out.lt b hb).1));clear hown hgrow)
         |(go_at_call 109;refine(HHS.out W HBW.out).mono ?_;rintro e w2 ⟨rfl,hB2⟩;have HB2:=hid (HBW.out.trans (hB2.mono hszW));have hsz2:=HB2.out.size;have HO2:=hid (HOW.out.kept (gby_below (r:=none) hB2) (Classical.em _));have HC2:=hid ((hB2.block _ (lt_of_block HCX.out)).trans HCX.out);have z17:w2.cell? ⟨wr.heap.size,17,none⟩=some (.slice eA elems.length ec):=cell_of_row _ _ _ _ _ _ HC2.out;have HEW2:=hid (HEW.out.below hB2);clear hB2))
        go_roundw
        case rel=>exact⟨j+1,A5,c5,m+elems.length,by omega,by go_num,by rfl,by omega,hid (by rw[HS9.out,←List.append_assoc,List.length_append,←HML.out]),hid (by rw[HS9.out,←List.append_assoc,List.flatMap_append];exact HO5.out),HB5⟩
        case measure=>(simp[RowKit.intOf];omega)
    ·obtain rfl:j=ops.length:=by omega
     have j2:¬(ops.length:Int)<(ops.length:Int):=by omega
     have HM9:=hid (show m=(goneL ON ⟨⟨xt,xr⟩,xi⟩ (L.take (k+1))).length by rw[HST.out];have h9:=HML.out;rw[List.take_length] at h9;exact h9)
     have HO9:=hid (show wr.ownsRow w.heap.size 108 3 (.slice A' m c') m ((goneL ON ⟨⟨xt,xr⟩,xi⟩ (L.take (k+1))).flatMap idL) by rw[HST.out];have h9:=HO.out;rw[List.take_length] at h9;exact h9)
     go_wp2
     go_roundw
     case rel=>exact⟨k+1,A',c',m,by omega,by go_num,rfl,by omega,HM9,HO9,HBr⟩
     case measure=>(simp[RowKit.intOf];omega)
  ·obtain rfl:k=L.length:=by omega
   have i2:¬(L.length:Int)<(L.length:Int):=by omega
   have HM9:=hid (show m=(goneL ON ⟨⟨xt,xr⟩,xi⟩ L).length by have h9:=HML.out;rw[List.take_length] at h9;exact h9)
   have HO9:=hid (show wr.ownsRow w.heap.size 108 3 (.slice A' m c') m ((goneL ON ⟨⟨xt,xr⟩,xi⟩ L).flatMap idL) by have h9:=HO.out;rw[List.take_length] at h9;exact h9)
   obtain rfl:=HXB.out
   go_wp2
   go_ret
   refine⟨A',c',by rw[←HM9.out];rfl,by rw[←HM9.out];omega,?_,HB0.out.trans (HBr.out.mono HB0.out.size)⟩
   rw[←HM9.out];exact own_base HO9.out HB0.out.size
theorem reffind_none (L:List (Grp×GrX)) (A:Option Addr) (c:Nat) (x:Gst) (w:World) (hl:L.length≤1000000) (hR:RowGr w A L) (hn:∀p∈L,p.1.s.eqb x=false):
  Calls Tryz.prog 165 #[.slice A L.length c,.agg #[.int .i64 x.t,.int .i64 x.r]] w fun e w'=>e= .returned (.int .i64 (-1))∧Below w.heap.size w w':=by
 obtain⟨xt,xr⟩:=x
 have hb0:Below w.heap.size w (w.alloc (.cells #[.int .i64 xt,.int .i64 xr] 42)):=(Below.refl _ _).alloc (Nat.le_refl _) _
 have HC:=hid (heap_alloc_new w (.cells #[.int .i64 xt,.int .i64 xr] 42))
 have hs0:(w.alloc (.cells #[.int .i64 xt,.int .i64 xr] 42)).heap.size=w.heap.size+1:=by simp
 have HS:=hid hs0
 have HB:=hid hb0
 have HR:=hid hR
 have HN:=hid hn
 clear hb0 hR hn hs0
 show Calls _ _ #[.slice A L.length c,.agg #[.int .i64 xt,.int .i64 xr]] _ _
 go_enter Tryz.func165,Tryz.ntmps165
 go_upto_region 2 with(fail)
 generalize hW0:w.alloc (.cells #[.int .i64 xt,.int .i64 xr] 42)=W0 at *
 clear hW0
 go_loopw [5] (fun i wr=>∃k:Nat,i= .int .i64 k∧k≤L.length∧Hid (Below W0.heap.size W0 wr)) (fun i _=>L.length-(RowKit.intOf i).toNat)
 case atStart=>exact⟨0,rfl,Nat.zero_le _,hid (Below.refl _ _)⟩
 case round=>
  obtain⟨k,rfl,hk,HBr⟩:=hrel
  have HBw:=hid (HB.out.trans (HBr.out.mono HB.out.size))
  by_cases hlt:k<L.length
  ·obtain⟨rb,ro,rfl,hrb,hrange⟩:=RowGr.range (RowGr.below HR.out HBw.out) hlt
   have i0:(0:Int)≤(k:Int):=by omega
   have i1:(k:Int)<(L.length:Int):=by omega
   have hm:L.getD k gp0∈L:=by rw[List.getD_eq_getElem?_getD,List.getElem?_eq_getElem hlt];exact List.getElem_mem hlt
   have hne:=HN.out _ hm
   generalize L.getD k gp0=p at *
   obtain⟨⟨⟨t,r⟩,n,dv,⟨ut,ur⟩,ops⟩,⟨dA,dc,oA,oc⟩⟩:=p
   have q1:=eq_st t r xt xr false hne
   have HCr:=hid ((HBr.out.block w.heap.size (by rw[HS.out];omega)).trans HC.out)
   have x0:=rg0 HCr.out
   have x1:=rg1 HCr.out
   have y0:=cell_regrown (w:=wr) (a:=⟨rb,ro+k*7,none⟩) (v:= .int .i64 t) (hrange 0 _ rfl)
   have y1:=cell_regrown (w:=wr) (a:=⟨rb,ro+k*7+1,none⟩) (v:= .int .i64 r) (hrange 1 _ rfl)
   clear hne hm hrange
   go_upto_region 4 with(fail)
   refine rqb ?_
   repeat(any_goals(first|go_big_quiet_step (fail)|quiet_step (fail)))
   refine qz fun wq hBq=> ?_
   go_wp2
   go_roundw
   case rel=>exact⟨k+1,by go_num,by omega,hid (HBr.out.trans (hBq.mono HBr.out.size))⟩
   case measure=>(simp[RowKit.intOf];omega)
  ·obtain rfl:k=L.length:=by omega
   have i1:¬(L.length:Int)<(L.length:Int):=by omega
   go_wp2
   go_ret
   exact⟨rfl,HBw.out⟩
theorem flat_take_succ {L:List (Grp×GrX)} {k:Nat} (h:k<L.length):(L.take (k+1)).flatMap grC_=(L.take k).flatMap grC_++grC_ (L.getD k gp0):=by
 rw[List.take_add_one,List.flatMap_append,List.getElem?_eq_getElem h,List.getD_eq_getElem?_getD,List.getElem?_eq_getElem h]
 simp
theorem refrights_any (L:List (Grp×GrX)) (A:Option Addr) (c:Nat) (S:Nat→Prop) (w:World) (hl:L.length≤100000) (hR:RowGr w A L) (hG:∀p∈L,GrG w S p) (hT:∀p∈L,∀o∈p.1.ops,o.text.size≤1000000) (hck:∀p∈L,chkB p.1=true) (hnd:(L.map (·.1.s)).Nodup):
  Calls Tryz.prog 106 #[.slice A L.length c] w fun e w'=>∃A' c',e= .returned (.slice A' L.length c')∧w'.ownsRow w.heap.size 45 7 (.slice A' L.length c') L.length (L.flatMap grC_)∧Below w.heap.size w w':=by
 obtain⟨i0,hi,hz0,hz1,hz2⟩:=info_parts infogrC_
 have HR:=hid hR
 have HG:=hid hG
 have HT:=hid hT
 have HCK:=hid hck
 have HND:=hid hnd
 clear hR hG hT hck hnd
 go_enter Tryz.func106,Tryz.ntmps106
 go_upto_region 3 with(fail)
 go_loopw [3,4] (fun o i wr=>∃(k:Nat) (A':Option Addr) (c':Nat),k≤L.length∧i= .int .i64 k∧o= .slice A' k c'∧Hid (wr.ownsRow w.heap.size 45 7 (.slice A' k c') k ((L.take k).flatMap grC_))∧Hid (Below w.heap.size w wr)) (fun o i _=>L.length-(RowKit.intOf i).toNat)
 case atStart=>exact⟨0,none,0,Nat.zero_le _,rfl,rfl,hid (World.ownsRow_nil _ _ _ _),hid (Below.refl _ _)⟩
 case round=>
  obtain⟨k,A',c',hk,rfl,rfl,HO,HBr⟩:=hrel
  by_cases hlt:k<L.length
  ·obtain⟨rb,ro,rfl,hrb,hrange⟩:=RowGr.range (RowGr.below HR.out HBr.out) hlt
   have hbw:rb<w.heap.size:=by obtain⟨b',o',e',-,hb',-⟩:=HR.out k hlt;cases e';exact hb'
   have i0':(0:Int)≤(k:Int):=by omega
   have i1:(k:Int)<(L.length:Int):=by omega
   have hsz:=HBr.out.size
   have hm:L.getD k gp0∈L:=by rw[List.getD_eq_getElem?_getD,List.getElem?_eq_getElem hlt];exact List.getElem_mem hlt
   have hgood:GrG wr S (L.getD k gp0):=(HG.out _ hm).agr (Agr.below HBr.out)
   have htx:=HT.out _ hm
   have hch:=HCK.out _ hm
   have HTK:=hid (flat_take_succ hlt)
   have hne:∀q∈L.take k,q.1.s.eqb (L.getD k gp0).1.s=false:=fun q hq=>by
    cases e:q.1.s.eqb (L.getD k gp0).1.s with
    |false=>rfl
    |true=>
     exfalso
     rw[Gst.eqb_iff] at e
     obtain⟨j,hj,rfl⟩:=List.getElem_of_mem hq
     have hjk:j<k:=by rw[List.length_take] at hj;omega
     rw[List.getElem_take] at e
     rw[List.getD_eq_getElem?_getD,List.getElem?_eq_getElem hlt] at e
     have hp:=(List.pairwise_iff_getElem.1 HND.out) j k (by rw[List.length_map];omega) (by rw[List.length_map];exact hlt) hjk
     rw[List.getElem_map,List.getElem_map] at hp
     exact hp e
   have hRt:RowGr wr A' (L.take k):=by
    have hlk:(L.take k).length=k:=by rw[List.length_take];omega
    have:=HO.out
    refine RowGr.own (c:=c') (B:=w.heap.size) (E:=45) ?_
    rw[hlk];exact this
   have hlk:(L.take k).length=k:=by rw[List.length_take];omega
   generalize L.getD k gp0=p at *
   obtain⟨⟨⟨t,r⟩,n,dv,⟨ut,ur⟩,ops⟩,⟨dA,dc,oA,oc⟩⟩:=p
   have hch:chkB ⟨⟨t,r⟩,n,dv,⟨ut,ur⟩,ops⟩=true:=hch
   have HCC:=hid (vchk_any ⟨⟨t,r⟩,n,dv,⟨ut,ur⟩,ops⟩ dA dc oA oc S wr hgood (fun _=>htx) hch)
   rw[hch,if_pos rfl] at HCC
   have HFN:=hid (fun W (hB:Below wr.heap.size wr W)=>show Calls Tryz.prog 165 #[.slice A' k c',.agg #[.int .i64 t,.int .i64 r]] W fun e w'=>e= .returned (.int .i64 (-1))∧Below W.heap.size W w' from by
    have:=reffind_none (L.take k) A' c' ⟨t,r⟩ W (by omega) (RowGr.below hRt hB) hne
    rw[hlk] at this
    exact this)
   have y0:wr.cell? ⟨rb,ro+k*7,none⟩=some (.int .i64 t):=hrange 0 _ rfl
   have y1:wr.cell? ⟨rb,ro+k*7+1,none⟩=some (.int .i64 r):=hrange 1 _ rfl
   have y2:wr.cell? ⟨rb,ro+k*7+2,none⟩=some (.int .i64 n):=hrange 2 _ rfl
   have y3:wr.cell? ⟨rb,ro+k*7+3,none⟩=some (.slice dA dv.length dc):=hrange 3 _ rfl
   have y4:wr.cell? ⟨rb,ro+k*7+4,none⟩=some (.int .i64 ut):=hrange 4 _ rfl
   have y5:wr.cell? ⟨rb,ro+k*7+5,none⟩=some (.int .i64 ur):=hrange 5 _ rfl
   have y6:wr.cell? ⟨rb,ro+k*7+6,none⟩=some (.slice oA ops.length oc):=hrange 6 _ rfl
   clear hrange hgood htx hch hm hne hRt hlk
   go_upto_region 6 with(first
    |(go_at_call 54;refine HCC.out.mono ?_;rintro e w1 ⟨rfl,hB1⟩;have HB1:=hid hB1;have z0:=(World.cell?_of_block (w:=wr) (w':=w1) (a:=⟨rb,ro+k*7,none⟩) (hB1.block rb (by omega))).trans y0;have z1:=(World.cell?_of_block (w:=wr) (w':=w1) (a:=⟨rb,ro+k*7+1,none⟩) (hB1.block rb (by omega))).trans y1;have z2:=(World.cell?_of_block (w:=wr) (w':=w1) (a:=⟨rb,ro+k*7+2,none⟩) (hB1.block rb (by omega))).trans y2;have z3:=(World.cell?_of_block (w:=wr) (w':=w1) (a:=⟨rb,ro+k*7+3,none⟩) (hB1.block rb (by omega))).trans y3;have z4:=(World.cell?_of_block (w:=wr) (w':=w1) (a:=⟨rb,ro+k*7+4,none⟩) (hB1.block rb (by omega))).trans y4;have z5:=(World.cell?_of_block (w:=wr) (w':=w1) (a:=⟨rb,ro+k*7+5,none⟩) (hB1.block rb (by omega))).trans y5;have z6:=(World.cell?_of_block (w:=wr) (w':=w1) (a:=⟨rb,ro+k*7+6,none⟩) (hB1.block rb (by omega))).trans y6;clear hB1)
    |(go_at_call 165;refine(HFN.out w1 HB1.out).mono ?_;rintro e w2 ⟨rfl,hB2⟩;have HB2:=hid (HB1.out.trans (hB2.mono HB1.out.size));have hs1:=HB1.out.size;have v0:=(World.cell?_of_block (w:=w1) (w':=w2) (a:=⟨rb,ro+k*7,none⟩) (hB2.block rb (by omega))).trans z0;have v1:=(World.cell?_of_block (w:=w1) (w':=w2) (a:=⟨rb,ro+k*7+1,none⟩) (hB2.block rb (by omega))).trans z1;have v2:=(World.cell?_of_block (w:=w1) (w':=w2) (a:=⟨rb,ro+k*7+2,none⟩) (hB2.block rb (by omega))).trans z2;have v3:=(World.cell?_of_block (w:=w1) (w':=w2) (a:=⟨rb,ro+k*7+3,none⟩) (hB2.block rb (by omega))).trans z3;have v4:=(World.cell?_of_block (w:=w1) (w':=w2) (a:=⟨rb,ro+k*7+4,none⟩) (hB2.block rb (by omega))).trans z4;have v5:=(World.cell?_of_block (w:=w1) (w':=w2) (a:=⟨rb,ro+k*7+5,none⟩) (hB2.block rb (by omega))).trans z5;have v6:=(World.cell?_of_block (w:=w1) (w':=w2) (a:=⟨rb,ro+k*7+6,none⟩) (hB2.block rb (by omega))).trans z6;clear hB2))
   have hs2:=HB2.out.size
   have HO2:=hid (HO.out.kept (gby_below (r:=none) HB2.out) (Classical.em _))
   have HBw2:=hid (HBr.out.trans (HB2.out.mono hsz))
   clear y0 y1 y2 y3 y4 y5 y6 z0 z1 z2 z3 z4 z5 z6
   go_wp2_with (at_builtin;refine wpList_append_own _ rfl _ _ 25 rfl w.heap.size 45 i0 (.agg #[.int .i64 0,.int .i64 0,.int .i64 0,.slice none 0 0,.int .i64 0,.int .i64 0,.slice none 0 0]) 7 88 Tryz.underlying25 hi hz0 hz1 hz2 rfl (by decide) _ _ _ rfl (by exact HO2.out.alloc _) ⟨w2.heap.size,0,none⟩ 1 1 [.int .i64 t,.int .i64 r,.int .i64 n,.slice dA dv.length dc,.int .i64 ut,.int .i64 ur,.slice oA ops.length oc] rfl rfl (fun j y h=>cellsN w2 [.int .i64 t,.int .i64 r,.int .i64 n,.slice dA dv.length dc,.int .i64 ut,.int .i64 ur,.slice oA ops.length oc] 45 j y h) (ocgrC_ (⟨⟨t,r⟩,n,dv,⟨ut,ur⟩,ops⟩,⟨dA,dc,oA,oc⟩)) (by unfold maxLen;omega) (by omega) (by simp;omega) ?_;intro v' w3 hown hgrow hnil)
   obtain⟨A3,c3,rfl⟩:=row_slice hown
   have HO3:=hid (show w3.ownsRow w.heap.size 45 7 (.slice A3 (k+1) c3) (k+1) ((L.take (k+1)).flatMap grC_) by rw[HTK.out];exact hown)
   have HB3:=hid ((HBw2.out.alloc HBw2.out.size _).grown hgrow (by simp;have:=HBw2.out.size;omega) (fun b hb=>HO.out.lt b hb |>.1))
   clear hown hgrow hnil
   go_roundw
   case rel=>exact⟨k+1,A3,c3,by omega,by go_num,rfl,HO3,HB3⟩
   case measure=>(simp[RowKit.intOf];omega)
  ·obtain rfl:k=L.length:=by omega
   have i1:¬(L.length:Int)<(L.length:Int):=by omega
   go_wp2
   go_ret
   refine⟨A',c',rfl,?_,HBr.out⟩
   have:=HO.out
   rw[List.take_length] at this
   exact this
end
end Go.Proofs.YtkhmicndehlneaaGreatDoor
