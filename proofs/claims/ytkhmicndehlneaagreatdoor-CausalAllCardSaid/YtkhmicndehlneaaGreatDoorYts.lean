/- Part 19 of the walks and plain laws that this claim uses, joined. Conditions: as each theorem states. -/
import Derived.Test.YtkhmicndehlneaaGreatDoorYtr
namespace Go.Proofs.YtkhmicndehlneaaGreatDoor
set_option maxRecDepth 100000
set_option maxHeartbeats 16000000
section
open Go.RowKit Go.Lib Go.Sort
set_option linter.unusedVariables false
attribute [local go_sem ↓] Go.wp_at_zero Go.wp_at_succ
def opsM (p:Plc) (l:List Gop):List Plc:=(l.filter (fun o=>decide (o.kind=0) && o.node.eqb p.n)).map fun o=>⟨p.n,p.p,p.name,o.dir⟩
def madeP (L:List (Grp×GrX)) (p:Plc):List Plc:=L.flatMap fun g=>opsM p g.1.ops
def madeL (L:List (Grp×GrX)) (P:List Plc):List Plc:=P.flatMap (madeP L)
theorem opsM_succ (p:Plc) {l:List Gop} {j:Nat} (h:j<l.length):opsM p (l.take (j+1))=opsM p (l.take j)++(if (decide ((l.getD j (opO 0 .zero)).kind=0) && (l.getD j (opO 0 .zero)).node.eqb p.n)=true then [⟨p.n,p.p,p.name,(l.getD j (opO 0 .zero)).dir⟩] else []):=by
 unfold opsM
 rw[takeD_succ h (opO 0 .zero),List.filter_append,List.map_append]
 congr 1
 generalize l.getD j (opO 0 .zero)=o
 cases e:(decide (o.kind=0) && o.node.eqb p.n)<;>simp[List.filter,e]
theorem made_any (L:List (Grp×GrX)) (A:Option Addr) (c:Nat) (P:List Plc) (pA:Option Addr) (pc:Nat) (S S2:Nat→Prop) (w:World) (hl:L.length≤100) (hlo:∀p∈L,p.1.ops.length≤100) (hp:P.length≤10000) (hR:RowGr w A L) (hG:∀p∈L,GrG w S p) (hP:RowF w S2 pA 8 plcL plc0 P):
  Calls Tryz.prog 110 #[.slice A L.length c,.slice pA P.length pc] w fun e w'=>∃A' c',e= .returned (.slice A' (madeL L P).length c')∧w'.ownsRow w.heap.size 161 8 (.slice A' (madeL L P).length c') (madeL L P).length ((madeL L P).flatMap plcL)∧Below w.heap.size w w':=by
 obtain⟨i0,hi,hz0,hz1,hz2⟩:=info_parts info_plc
 have HR:=hid hR
 have HG:=hid hG
 have HP:=hid hP
 have HLO:=hid hlo
 clear hR hG hP hlo
 go_enter Tryz.func110,Tryz.ntmps110
 go_upto_region 3 with fail
 go_loopw [5,6] (fun o i wr=>∃(k0:Nat) (A':Option Addr) (c' m:Nat),k0≤P.length∧i= .int .i64 k0∧o= .slice A' m c'∧m≤k0*10000∧Hid (m=(madeL L (P.take k0)).length)∧Hid (wr.ownsRow w.heap.size 161 8 (.slice A' m c') m ((madeL L (P.take k0)).flatMap plcL))∧Hid (Below w.heap.size w wr)) (fun o i _=>P.length-(RowKit.intOf i).toNat)
 case atStart=>exact⟨0,none,0,0,Nat.zero_le _,rfl,rfl,Nat.zero_le _,hid rfl,hid (World.ownsRow_nil _ _ _ _),hid (Below.refl _ _)⟩
 case round=>
  obtain⟨k0,A',c',m,hk0,rfl,rfl,hmk0,HML,HO,HBr⟩:=hrel
  by_cases hlt0:k0<P.length
  ·have i1:(0:Int)≤(k0:Int):=by omega
   have i2:(k0:Int)<(P.length:Int):=by omega
   obtain⟨pb,po,rfl,-,hpb,hprange⟩:=HP.out.range (fun _=>rfl) hlt0
   have hst0:madeL L (P.take (k0+1))=madeL L (P.take k0)++madeP L (P.getD k0 plc0):=by rw[takeD_succ hlt0 plc0];simp[madeL]
   generalize madeL L (P.take k0)=N0 at *
   generalize P.getD k0 plc0=q at *
   obtain⟨⟨⟨qt,qr⟩,qi⟩,⟨⟨st,sr⟩,si⟩,qm,qd⟩:=q
   have HPW:=hid (fun W (hB:Below w.heap.size w W)=>show W.rangeAt pb (po+k0*8) [.int .i64 qt,.int .i64 qr,.int .i64 qi,.int .i64 st,.int .i64 sr,.int .i64 si,.string qm,.bool qd] from rangeB hprange hpb hB)
   have HST0:=hid hst0
   clear hprange hpb hst0
   generalize wr=w0 at *
   go_upto_region 6 with fail
   go_loopw [5,7] (fun o i wr=>∃(k:Nat) (A':Option Addr) (c' m:Nat),k≤L.length∧i= .int .i64 k∧o= .slice A' m c'∧m≤k0*10000+k*100∧Hid (m=(N0++madeP (L.take k) ⟨⟨⟨qt,qr⟩,qi⟩,⟨⟨st,sr⟩,si⟩,qm,qd⟩).length)∧Hid (wr.ownsRow w.heap.size 161 8 (.slice A' m c') m ((N0++madeP (L.take k) ⟨⟨⟨qt,qr⟩,qi⟩,⟨⟨st,sr⟩,si⟩,qm,qd⟩).flatMap plcL))∧Hid (Below w.heap.size w wr)) (fun o i _=>L.length-(RowKit.intOf i).toNat)
   case atStart=>exact⟨0,A',c',m,Nat.zero_le _,rfl,rfl,by omega,hid (by rw[HML.out];simp[madeP]),hid (by have h9:=HO.out;simpa[madeP] using h9),HBr⟩
   case round=>
    obtain⟨k,A',c',m,hk,rfl,rfl,hmk,HML,HO,HBr⟩:=hrel
    by_cases hlt:k<L.length
    ·have j1:(0:Int)≤(k:Int):=by omega
     have j2:(k:Int)<(L.length:Int):=by omega
     obtain⟨rb,ro,rfl,hrb,hrange⟩:=HR.out.range hlt
     have hst:madeP (L.take (k+1)) ⟨⟨⟨qt,qr⟩,qi⟩,⟨⟨st,sr⟩,si⟩,qm,qd⟩=madeP (L.take k) ⟨⟨⟨qt,qr⟩,qi⟩,⟨⟨st,sr⟩,si⟩,qm,qd⟩++opsM ⟨⟨⟨qt,qr⟩,qi⟩,⟨⟨st,sr⟩,si⟩,qm,qd⟩ (L.getD k gp0).1.ops:=by rw[takeD_succ hlt gp0];simp[madeP]
     have hop:=(HG.out _ (getD_memF hlt gp0)).ops
     have hol:=HLO.out _ (getD_memF hlt gp0)
     generalize madeP (L.take k) ⟨⟨⟨qt,qr⟩,qi⟩,⟨⟨st,sr⟩,si⟩,qm,qd⟩=N at *
     generalize L.getD k gp0=p at *
     obtain⟨⟨⟨t,r⟩,n,dv,⟨ut,ur⟩,ops⟩,⟨dA,dc,oA,oc⟩⟩:=p
     obtain⟨X,hX1,hX2⟩:=hop
     have hol:ops.length≤100:=hol
     have HRW:=hid (fun W (hB:Below w.heap.size w W)=>show W.rangeAt rb (ro+k*7) [.int .i64 t,.int .i64 r,.int .i64 n,.slice dA dv.length dc,.int .i64 ut,.int .i64 ur,.slice oA ops.length oc] from rangeB hrange hrb hB)
     have HX1:=hid hX1
     have HST:=hid (show madeP (L.take (k+1)) ⟨⟨⟨qt,qr⟩,qi⟩,⟨⟨st,sr⟩,si⟩,qm,qd⟩=N++opsM ⟨⟨⟨qt,qr⟩,qi⟩,⟨⟨st,sr⟩,si⟩,qm,qd⟩ ops from hst)
     clear hrange hrb hst hX1 hX2
     generalize wr=w1 at *
     go_upto_region 9 with fail
     go_loopw [5,8] (fun o i wr=>∃(j:Nat) (A':Option Addr) (c' m:Nat),j≤ops.length∧i= .int .i64 j∧o= .slice A' m c'∧m≤k0*10000+k*100+j∧Hid (m=(N0++N++opsM ⟨⟨⟨qt,qr⟩,qi⟩,⟨⟨st,sr⟩,si⟩,qm,qd⟩ (ops.take j)).length)∧Hid (wr.ownsRow w.heap.size 161 8 (.slice A' m c') m ((N0++N++opsM ⟨⟨⟨qt,qr⟩,qi⟩,⟨⟨st,sr⟩,si⟩,qm,qd⟩ (ops.take j)).flatMap plcL))∧Hid (Below w.heap.size w wr)) (fun o i _=>ops.length-(RowKit.intOf i).toNat)
     case atStart=>exact⟨0,A',c',m,Nat.zero_le _,rfl,rfl,by omega,hid (by rw[HML.out];simp[opsM]),hid (by have h9:=HO.out;simpa[opsM] using h9),HBr⟩
     case round=>
      obtain⟨j,A',c',m,hj,rfl,rfl,hmj,HML,HO,HBr⟩:=hrel
      have HRG:=hid (HRW.out wr HBr.out)
      have hszr:=HBr.out.size
      have g6:wr.cell? ⟨rb,ro+k*7+6,none⟩=some (.slice oA ops.length oc):=HRG.out 6 _ rfl
      by_cases hjl:j<ops.length
      ·have l1:(0:Int)≤(j:Int):=by omega
       have l2:(j:Int)<(ops.length:Int):=by omega
       obtain⟨ob,oo,rfl,-,hob,hoc⟩:=HX1.out j hjl
       have hor:=op_range hoc
       have hst2:=opsM_succ ⟨⟨⟨qt,qr⟩,qi⟩,⟨⟨st,sr⟩,si⟩,qm,qd⟩ hjl
       generalize ops.getD j (opO 0 .zero)=o at *
       generalize X j=x at *
       obtain⟨kd,⟨⟨nt,nr⟩,ni⟩,⟨⟨pt,pr⟩,pi⟩,nm,dd,dots,⟨⟨at_,ar⟩,ai⟩,⟨⟨et,er⟩,ei⟩,tx,elems⟩:=o
       obtain⟨sA,sc,eA,ec⟩:=x
       have HOR:=hid (fun W (hB:Below w.heap.size w W)=>show W.rangeAt ob (oo+j*18) [.int .i64 kd,.int .i64 nt,.int .i64 nr,.int .i64 ni,.int .i64 pt,.int .i64 pr,.int .i64 pi,.string nm,.bool dd,.slice sA dots.length sc,.int .i64 at_,.int .i64 ar,.int .i64 ai,.int .i64 et,.int .i64 er,.int .i64 ei,.string tx,.slice eA elems.length ec] from rangeB hor hob hB)
       obtain⟨b1,hb1⟩:∃b,b=decide (kd=0):=⟨_,rfl⟩
       obtain⟨b2,hb2⟩:∃b,b=Gid.eqb ⟨⟨nt,nr⟩,ni⟩ ⟨⟨qt,qr⟩,qi⟩:=⟨_,rfl⟩
       have q1:(kd == 0)=b1:=by rw[hb1];rfl
       have q2:=eq_id nt nr ni qt qr qi b2 hb2.symm
       have HS2:=hid (show opsM ⟨⟨⟨qt,qr⟩,qi⟩,⟨⟨st,sr⟩,si⟩,qm,qd⟩ (ops.take (j+1))=opsM ⟨⟨⟨qt,qr⟩,qi⟩,⟨⟨st,sr⟩,si⟩,qm,qd⟩ (ops.take j)++(if (b1 && b2)=true then [(⟨⟨⟨qt,qr⟩,qi⟩,⟨⟨st,sr⟩,si⟩,qm,dd⟩:Plc)] else []) by rw[hst2,hb1,hb2])
       have HOw:=hid (HOR.out wr HBr.out)
       have HPw:=hid (HPW.out wr HBr.out)
       have y6:=cell_regrown g6
       have z0:=cell_regrown (w:=wr) (a:=⟨ob,oo+j*18,none⟩) (v:= .int .i64 kd) (HOw.out 0 _ rfl)
       have z1:=cell_regrown (w:=wr) (a:=⟨ob,oo+j*18+1,none⟩) (v:= .int .i64 nt) (HOw.out 1 _ rfl)
       have z2:=cell_regrown (w:=wr) (a:=⟨ob,oo+j*18+2,none⟩) (v:= .int .i64 nr) (HOw.out 2 _ rfl)
       have z2':=cell_regrown (w:=wr) (a:=⟨ob,oo+j*18+1+1,none⟩) (v:= .int .i64 nr) (HOw.out 2 _ rfl)
       have z3:=cell_regrown (w:=wr) (a:=⟨ob,oo+j*18+3,none⟩) (v:= .int .i64 ni) (HOw.out 3 _ rfl)
       have z3':=cell_regrown (w:=wr) (a:=⟨ob,oo+j*18+1+2,none⟩) (v:= .int .i64 ni) (HOw.out 3 _ rfl)
       have p0:=cell_regrown (w:=wr) (a:=⟨pb,po+k0*8,none⟩) (v:= .int .i64 qt) (HPw.out 0 _ rfl)
       have p1:=cell_regrown (w:=wr) (a:=⟨pb,po+k0*8+1,none⟩) (v:= .int .i64 qr) (HPw.out 1 _ rfl)
       have p2:=cell_regrown (w:=wr) (a:=⟨pb,po+k0*8+2,none⟩) (v:= .int .i64 qi) (HPw.out 2 _ rfl)
       clear hor hob hoc hst2 hb1 hb2
       cases b1 with
       |false=>
        go_upto_region 11 with fail
        refine rqb ?_
        repeat(any_goals(first|go_big_quiet_step (fail)|quiet_step (fail)))
        refine qz fun wq hBq=> ?_
        have HOq:=hid (HO.out.kept (gby_below (r:=none) hBq) (Classical.em _))
        have HBq2:=hid (HBr.out.trans (hBq.mono hszr))
        go_wp2
        go_roundw
        case rel=>exact⟨j+1,A',c',m,by omega,by go_num,rfl,by omega,hid (by rw[HS2.out];simpa using HML.out),hid (by rw[HS2.out];simpa using HOq.out),HBq2⟩
        case measure=>(simp[RowKit.intOf];omega)
       | true=>
        cases b2 with
        |false=>
         go_upto_region 11 with fail
         refine rqb ?_
         repeat(any_goals(first|go_big_quiet_step (fail)|quiet_step (fail)))
         refine qz fun wq hBq=> ?_
         have HOq:=hid (HO.out.kept (gby_below (r:=none) hBq) (Classical.em _))
         have HBq2:=hid (HBr.out.trans (hBq.mono hszr))
         go_wp2
         go_roundw
         case rel=>exact⟨j+1,A',c',m,by omega,by go_num,rfl,by omega,hid (by rw[HS2.out];simpa using HML.out),hid (by rw[HS2.out];simpa using HOq.out),HBq2⟩
         case measure=>(simp[RowKit.intOf];omega)
        | true=>
         go_upto_region 11 with fail
         refine rqb ?_
         repeat(any_goals(first|go_big_quiet_step (fail)|quiet_step (fail)))
         refine qz fun wq hBq=> ?_
         have HOq:=hid (HO.out.kept (gby_below (r:=none) hBq) (Classical.em _))
         have HBq2:=hid (HBr.out.trans (hBq.mono hszr))
         have HPq:=hid (HPW.out wq HBq2.out)
         have HOo:=hid (HOR.out wq HBq2.out)
         have HGq:=hid (HRW.out wq HBq2.out)
         have hszq:=HBq2.out.size
         clear y6 z0 z1 z2 z2' z3 z3' p0 p1 p2 g6
         go_upto_region 13 with(first
          |(refine wpList_load_mid rfl _ _ rfl pb (po+k0*8) rfl [.int .i64 qt,.int .i64 qr,.int .i64 qi,.int .i64 st,.int .i64 sr,.int .i64 si,.string qm,.bool qd] _ HPq.out Tryz.underlying161 rfl (by kernel_rfl) ?_)
          |(refine store_last rfl _ _ _ rfl _ _ _ _ rfl ?_ rfl ?_ ?_ ?_ ?_;(focus(simp;done));kernel_rfl;rfl;rfl))
         have hba:=HBq2.out.alloc hszq (.cells #[.int .i64 qt,.int .i64 qr,.int .i64 qi,.int .i64 st,.int .i64 sr,.int .i64 si,.string qm,.bool qd] 161)
         have hbx:Below wq.heap.size wq (wq.alloc (.cells #[.int .i64 qt,.int .i64 qr,.int .i64 qi,.int .i64 st,.int .i64 sr,.int .i64 si,.string qm,.bool qd] 161)):=(Below.refl _ _).alloc (Nat.le_refl _) _
         have HCX:=hid (heap_alloc_new wq (.cells #[.int .i64 qt,.int .i64 qr,.int .i64 qi,.int .i64 st,.int .i64 sr,.int .i64 si,.string qm,.bool qd] 161))
         generalize hW:wq.alloc (.cells #[.int .i64 qt,.int .i64 qr,.int .i64 qi,.int .i64 st,.int .i64 sr,.int .i64 si,.string qm,.bool qd] 161)=W at *
         have HBW:=hid hba
         have HOW:=hid (HOq.out.kept (gby_below (r:=none) hbx) (Classical.em _))
         have hOw9:=HOR.out W hba
         have hGw9:=HRW.out W hba
         have c6:W.cell? ⟨rb,ro+k*7+6,none⟩=some (.slice (some ⟨ob,oo,none⟩) ops.length oc):=hGw9 6 _ rfl
         have c8:W.cell? ⟨ob,oo+j*18+8,none⟩=some (.bool dd):=hOw9 8 _ rfl
         have c7:W.cell? ⟨wq.heap.size,7,none⟩=some (.bool qd):=cell_of_row _ _ _ _ _ _ HCX.out
         have f7:W.frozen? ⟨wq.heap.size,7,none⟩=false:=frozen_of_row _ _ _ _ _ HCX.out
         have hqn:∀b,(Value.slice A' m c').ownBlock=some b→b≠wq.heap.size:=fun b e=>by have:=(HOq.out.lt b e).2;omega
         have HQN:=hid (show(Value.slice A' m c').ownBlock≠some wq.heap.size from fun e=>hqn _ e rfl)
         clear hW hba hbx hOw9 hGw9 hqn
         go_upto_region 14 with fail
         obtain⟨V1,hV1⟩:∃V,V=W.setCell ⟨wq.heap.size,7,none⟩ (.bool dd):=⟨_,rfl⟩
         have HC4:=hid (show V1.heap[wq.heap.size]? =some (.cells #[.int .i64 qt,.int .i64 qr,.int .i64 qi,.int .i64 st,.int .i64 sr,.int .i64 si,.string qm,.bool dd] 161 (0,0)) by rw[hV1];exact set_obj (c:=#[.int .i64 qt,.int .i64 qr,.int .i64 qi,.int .i64 st,.int .i64 sr,.int .i64 si,.string qm,.bool qd]) HCX.out 7 (.bool dd) rfl)
         have HO4:=hid (show V1.ownsRow w.heap.size 161 8 (.slice A' m c') m ((N0++N++opsM ⟨⟨⟨qt,qr⟩,qi⟩,⟨⟨st,sr⟩,si⟩,qm,qd⟩ (ops.take j)).flatMap plcL) by rw[hV1];exact own_set HOW.out HQN.out 7 (.bool dd))
         have HB4:=hid (show Below w.heap.size w V1 by rw[hV1];exact HBW.out.grown (gby_set wq.heap.size 7 (.bool dd)) HBW.out.size (fun b e=>by cases e;exact hszq))
         have hsz4:=HB4.out.size
         rw[←hV1]
         clear hV1 c6 c7 c8 f7
         go_wp2_with (first
          |(refine load_at rfl _ _ rfl wq.heap.size _ _ _ rfl HC4.out Tryz.underlying161 rfl ?_ ?_;kernel_rfl)
          |(at_builtin;refine wpList_append_lies _ rfl _ _ 101 rfl w.heap.size 161 i0 (.agg #[.int .i64 0,.int .i64 0,.int .i64 0,.int .i64 0,.int .i64 0,.int .i64 0,.string ⟨#[]⟩,.bool false]) 8 72 Tryz.underlying101 hi hz0 hz1 hz2 rfl (by decide) (.slice A' m c') m _ rfl (by exact HO4.out.alloc _) ⟨V1.heap.size,0,none⟩ 1 1 [.int .i64 qt,.int .i64 qr,.int .i64 qi,.int .i64 st,.int .i64 sr,.int .i64 si,.string qm,.bool dd] rfl rfl (fun j y h=>cellsN V1 [.int .i64 qt,.int .i64 qr,.int .i64 qi,.int .i64 st,.int .i64 sr,.int .i64 si,.string qm,.bool dd] 161 j y h) (oc_of (c:=#[.int .i64 qt,.int .i64 qr,.int .i64 qi,.int .i64 st,.int .i64 sr,.int .i64 si,.string qm,.bool dd]) rfl) (by decide) (by unfold maxLen;omega) (by omega) (by simp;omega) (V1.heap.size+1) (by simp) ?_;intro gq cap w5 hown hgrow ha hlt5;have HO5:=hid hown;have HB5:=hid ((HB4.out.alloc hsz4 _).grown hgrow (by simp;omega) (fun b hb=>(HO4.out.lt b hb).1));clear hown hgrow ha hlt5))
         go_roundw
         case rel=>exact⟨j+1,some ⟨gq,0,none⟩,cap,m+1,by omega,by go_num,rfl,by omega,hid (by rw[HS2.out,if_pos (show(true && true)=true from rfl),←List.append_assoc,List.length_append,←HML.out];rfl),hid (by rw[HS2.out,if_pos (show(true && true)=true from rfl),←List.append_assoc,List.flatMap_append];exact HO5.out),HB5⟩
         case measure=>(simp[RowKit.intOf];omega)
      ·obtain rfl:j=ops.length:=by omega
       have l2:¬(ops.length:Int)<(ops.length:Int):=by omega
       have HM9:=hid (show m=(N0++madeP (L.take (k+1)) ⟨⟨⟨qt,qr⟩,qi⟩,⟨⟨st,sr⟩,si⟩,qm,qd⟩).length by rw[HST.out,←List.append_assoc];have h9:=HML.out;rw[List.take_length] at h9;exact h9)
       have HO9:=hid (show wr.ownsRow w.heap.size 161 8 (.slice A' m c') m ((N0++madeP (L.take (k+1)) ⟨⟨⟨qt,qr⟩,qi⟩,⟨⟨st,sr⟩,si⟩,qm,qd⟩).flatMap plcL) by rw[HST.out,←List.append_assoc];have h9:=HO.out;rw[List.take_length] at h9;exact h9)
       go_wp2
       go_roundw
       case rel=>exact⟨k+1,A',c',m,by omega,by go_num,rfl,by omega,HM9,HO9,HBr⟩
       case measure=>(simp[RowKit.intOf];omega)
    ·obtain rfl:k=L.length:=by omega
     have j2:¬(L.length:Int)<(L.length:Int):=by omega
     have HM9:=hid (show m=(madeL L (P.take (k0+1))).length by rw[HST0.out];have h9:=HML.out;rw[List.take_length] at h9;exact h9)
     have HO9:=hid (show wr.ownsRow w.heap.size 161 8 (.slice A' m c') m ((madeL L (P.take (k0+1))).flatMap plcL) by rw[HST0.out];have h9:=HO.out;rw[List.take_length] at h9;exact h9)
     go_wp2
     go_roundw
     case rel=>exact⟨k0+1,A',c',m,by omega,by go_num,rfl,by omega,HM9,HO9,HBr⟩
     case measure=>(simp[RowKit.intOf];omega)
  ·obtain rfl:k0=P.length:=by omega
   have i2:¬(P.length:Int)<(P.length:Int):=by omega
   have HM9:=hid (show m=(madeL L P).length by have h9:=HML.out;rw[List.take_length] at h9;exact h9)
   have HO9:=hid (show wr.ownsRow w.heap.size 161 8 (.slice A' m c') m ((madeL L P).flatMap plcL) by have h9:=HO.out;rw[List.take_length] at h9;exact h9)
   go_wp2
   go_ret
   refine⟨A',c',by rw[←HM9.out];rfl,?_,HBr.out⟩
   rw[←HM9.out];exact HO9.out
def cntD (t:ByteArray):Nat:=(cnt t.data.toList).getD 0
theorem cnt_le:∀(n:Nat) (l:List UInt8),l.length≤n→∀m,cnt l=some m→m≤l.length
 |n,[],_,m,h=>by rw[cnt_nil] at h;cases h;exact Nat.le_refl _
 |0,a::l,hl,m,h=>by simp at hl
 | n+1,a::l,hl,m,h=>by
  have hne:a::l≠[]:=by simp
  rw[cnt_step hne] at h
  cases hr:rfL (a::l) with
  |none=>rw[hr] at h;cases h
  | some p=>
   obtain⟨c,k⟩:=p
   rw[hr] at h
   simp only at h
   have hk:=rfL_width hne hr
   have hd:((a::l).drop k).length=(a::l).length-k:=List.length_drop ..
   cases hc:cnt ((a::l).drop k) with
   |none=>rw[hc] at h;cases h
   |some q=>
    rw[hc] at h
    have h2:=cnt_le n ((a::l).drop k) (by omega) q hc
    have h3:q+1=m:=by injection h
    omega
theorem cntD_le (t:ByteArray):cntD t≤t.size:=by
 unfold cntD
 cases h:cnt t.data.toList with
 |none=>exact Nat.zero_le _
 |some m=>
  have:=cnt_le _ _ (Nat.le_refl _) m h
  simpa using this
def names (r:Rn):List Gid:=(List.range (cntD r.tx)).map fun (k:Nat)=>⟨r.el.s,r.el.i+(k:Int)⟩
def eltStep (N:List Gid) (x:Gid):List Gid:=if N.any (fun y=>y.eqb x)=true then N else N++[x]
def elemIds (L:List Rn):List Gid:=L.foldl (fun N r=>(names r).foldl eltStep N) []
theorem names_len (r:Rn):(names r).length=cntD r.tx:=by unfold names;simp
theorem names_at (r:Rn) {k:Nat} (h:k<cntD r.tx) (z:Gid):(names r).getD k z=⟨r.el.s,r.el.i+(k:Int)⟩:=by
 unfold names
 rw[List.getD_eq_getElem?_getD,List.getElem?_map,List.getElem?_range h];rfl
theorem any_map (M:List Elt) (x:Gid):(M.map (·.id)).any (fun y=>y.eqb x)=M.any (fun y:Elt=>Gid.eqb y.id x):=by
 rw[List.any_map];rfl
theorem RowF.one {α:Type} {w:World} {B s:Nat} {A:Option Addr} {f:α→List Value} {z:α} {L:List α} (h:RowF w (fun b=>B≤b) A s f z L):∃pb,RowF w (fun b=>b=pb) A s f z L∧B≤pb∧(0<L.length→pb<w.heap.size):=by
 by_cases h0:0<L.length
 ·obtain⟨b,o,e,hS,hb,hc⟩:=h 0 h0
  refine⟨b,fun k hk=> ?_,hS,fun _=>hb⟩
  obtain⟨b',o',e',hS',hb',hc'⟩:=h k hk
  rw[e] at e'
  cases e'
  exact⟨b,o,e,rfl,hb,hc'⟩
 ·exact⟨B,fun k hk=>absurd hk (by omega),Nat.le_refl _,fun h=>absurd h h0⟩
theorem gby_setRow (w:World) (g:Nat) (c:Array Value):w.grownBy (w.setRow g c) (some g):=
 ⟨rfl,rfl,rfl,by simp[World.setRow],fun k _ hk=>setRow_other _ _ _ _ (fun e=>hk (by rw[e]))⟩
theorem range_block {w w':World} {b o:Nat} {cs:List Value} (h:w.rangeAt b o cs) (hb:w'.heap[b]? =w.heap[b]?):w'.rangeAt b o cs:=fun j v hv=>(World.cell?_of_block (w:=w) (w':=w') (a:=⟨b,o+j,none⟩) hb).trans (h j v hv)
theorem there_of {w:World} {g:Nat} {T:TypeId} {c:Array Value} (h:w.heap[g]? =some (.cells c T (0,0))):w.there g 0 c.size:=fun j hj=>by
 refine⟨?_,frozen_of_row _ _ _ _ _ h⟩
 rw[crw h,Nat.zero_add,Array.getElem?_eq_getElem hj];rfl
theorem split6_all (t:ByteArray) (w:World) (hs:t.size≤1000000):Calls Tryz.prog 193 #[.string t] w fun e w'=>∃A c ps z,e= .returned (.tuple #[.slice A (cntD t) c,.int .i64 z])∧cntD t=List.length ps∧RowF w' (fun b=>w.heap.size≤b) A 1 strL ⟨#[]⟩ ps∧Below w.heap.size w w':=by
 refine(split6_row t w hs).mono ?_
 intro e w' h
 unfold cntD
 cases hc:cnt t.data.toList with
 |none=>rw[hc] at h;exact⟨none,0,[],60,h.1,rfl,RowF.nil,h.2⟩
 |some m=>
  rw[hc] at h
  obtain⟨A,c,ps,hm,he,ho,hb⟩:=h
  exact⟨A,c,ps,0,he,hm,ownN_rowF (fun _=>rfl) hm ho,hb⟩
theorem elements9_any (L:List Rn) (A:Option Addr) (c:Nat) (S:Nat→Prop) (w:World) (hl:L.length≤10000) (hh:∀p∈L,p.tx.size≤1000∧0<p.el.s.t∧0≤p.el.i∧p.el.i≤1000000) (hR:RowF w S A 7 rnL rn0 L):
  Calls Tryz.prog 183 #[.slice A L.length c] w fun e w'=>∃A' c' m,∃M:List Elt,e= .returned (.slice A' m c')∧m=M.length∧M.map (·.id)=elemIds L∧m≤L.length*1000∧w'.ownsRow w.heap.size 169 7 (.slice A' m c') m (M.flatMap eltL)∧Below w.heap.size w w':=by
 obtain⟨i0,hi,hz0,hz1,hz2⟩:=info_parts info_elt
 have HR:=hid hR
 have HH:=hid hh
 clear hR hh
 go_enter Tryz.func183,Tryz.ntmps183
 go_upto_region 3 with fail
 go_loopw [3,4] (fun o i wr=>∃(k:Nat) (A':Option Addr) (c' m:Nat) (M:List Elt),k≤L.length∧i= .int .i64 k∧o= .slice A' m c'∧m≤k*1000∧Hid (m=M.length)∧Hid (M.map (·.id)=elemIds (L.take k))∧Hid (wr.ownsRow w.heap.size 169 7 (.slice A' m c') m (M.flatMap eltL))∧Hid (Below w.heap.size w wr)) (fun o i _=>L.length-(RowKit.intOf i).toNat)
 case atStart=>exact⟨0,none,0,0,[],Nat.zero_le _,rfl,rfl,Nat.zero_le _,hid rfl,hid rfl,hid (World.ownsRow_nil w w.heap.size 169 7),hid (Below.refl _ _)⟩
 case round=>
  obtain⟨k,A',c',m,M,hk,rfl,rfl,hmk,HML,HM,HO,HBr⟩:=hrel
  by_cases hlt:k<L.length
  ·have i1:(0:Int)≤(k:Int):=by omega
   have i2:(k:Int)<(L.length:Int):=by omega
   obtain⟨rb,ro,rfl,-,hrb,hrange⟩:=HR.out.range (fun _=>rfl) hlt
   have hst:elemIds (L.take (k+1))=(names (L.getD k rn0)).foldl eltStep (elemIds (L.take k)):=foldl_take _ _ hlt rn0
   have hhp:=HH.out _ (getD_memF hlt rn0)
   generalize elemIds (L.take k)=N at *
   generalize L.getD k rn0=p at *
   obtain⟨⟨⟨at_,ar⟩,ai⟩,⟨⟨et,er⟩,ei⟩,tx⟩:=p
   obtain⟨htx,het,hei,hei2⟩:=(show tx.size≤1000∧0<et∧0≤ei∧ei≤1000000 from hhp)
   have HRW:=hid (fun W (hB:Below w.heap.size w W)=>show W.rangeAt rb (ro+k*7) [.int .i64 at_,.int .i64 ar,.int .i64 ai,.int .i64 et,.int .i64 er,.int .i64 ei,.string tx] from rangeB hrange hrb hB)
   have HST:=hid hst
   have hsz0:=HBr.out.size
   have hcd:=cntD_le tx
   have HSP:=hid (split6_all tx wr (by omega))
   have HLT:=hid HO.out.lt
   have g6:wr.cell? ⟨rb,ro+k*7+6,none⟩=some (.string tx):=HRW.out wr HBr.out 6 _ rfl
   clear hrange hrb hst hhp
   generalize wr=w0 at *
   go_upto_region 6 with(go_at_call 193;refine HSP.out.mono ?_;rintro e w1 ⟨pA,pc,ps,z,rfl,hps,hP1,hB1⟩;have HP1:=hid hP1;have HB1:=hid hB1;have HPS:=hid hps;clear hP1 hB1 hps)
   obtain⟨pb,hP2,hpb1,hpb2⟩:=HP1.out.one
   have HBW1:=hid (HBr.out.trans (HB1.out.mono hsz0))
   have hs1:=HB1.out.size
   have HRM:=hid (show w1.rangeAt rb (ro+k*7) [.int .i64 at_,.int .i64 ar,.int .i64 ai] from range_mid (pre:=[]) (mid:=[.int .i64 at_,.int .i64 ar,.int .i64 ai]) (post:=[.int .i64 et,.int .i64 er,.int .i64 ei,.string tx]) (HRW.out w1 HBW1.out))
   have HO1:=hid (HO.out.kept (gby_below (r:=none) HB1.out) (Classical.em _))
   have NPB0:=hid (show(Value.slice A' m c').ownBlock≠some pb from fun e=>by have:=(HLT.out pb e).2;omega)
   have NAB0:=hid (show(Value.slice A' m c').ownBlock≠some w1.heap.size from fun e=>by have:=(HLT.out _ e).2;omega)
   have HPA0:=hid (show 0<ps.length→pb<w1.heap.size from hpb2)
   have HP2:=hid hP2
   clear g6 hP2 hpb1 hpb2
   go_upto_region 7 with(first
    |(refine wpList_load_mid rfl _ _ rfl rb (ro+k*7) rfl [.int .i64 at_,.int .i64 ar,.int .i64 ai] _ HRM.out Tryz.underlying108 rfl (by kernel_rfl) ?_)
    |(refine store_last rfl _ _ _ rfl _ _ _ _ rfl ?_ rfl ?_ ?_ ?_ ?_;(focus(simp;done));kernel_rfl;rfl;rfl))
   have hbx:Below w1.heap.size w1 (w1.alloc (.cells #[.int .i64 at_,.int .i64 ar,.int .i64 ai] 108)):=(Below.refl _ _).alloc (Nat.le_refl _) _
   have HAW:=hid (heap_alloc_new w1 (.cells #[.int .i64 at_,.int .i64 ar,.int .i64 ai] 108))
   have HBW:=hid (HBW1.out.trans (hbx.mono HBW1.out.size))
   have HOW:=hid (HO1.out.kept (gby_below (r:=none) hbx) (Classical.em _))
   have HPW:=hid (HP2.out.below hbx)
   have HAB:=hid (show w.heap.size≤w1.heap.size from HBW1.out.size)
   generalize hW:w1.alloc (.cells #[.int .i64 at_,.int .i64 ar,.int .i64 ai] 108)=W at *
   generalize hab:w1.heap.size=aB at *
   clear hW hab hbx HSP HP1 HB1 HBW1 HO1 HO HBr HP2 HRM HLT hs1 hsz0
   go_upto_region 8 with fail
   go_loopw [3,8] (fun o i wr=>∃(q:Nat) (A':Option Addr) (c' m:Nat) (M:List Elt) (qt qr qi:Int),q≤cntD tx∧i= .int .i64 q∧o= .slice A' m c'∧m≤k*1000+q∧Hid (m=M.length)∧Hid (M.map (·.id)=((names (⟨⟨⟨at_,ar⟩,ai⟩,⟨⟨et,er⟩,ei⟩,tx⟩:Rn)).take q).foldl eltStep N)∧Hid (wr.ownsRow w.heap.size 169 7 (.slice A' m c') m (M.flatMap eltL))∧Hid (Below w.heap.size w wr)∧Hid (wr.heap[aB]? =some (.cells #[.int .i64 qt,.int .i64 qr,.int .i64 qi] 108 (0,0)))∧Hid (RowF wr (fun b=>b=pb) pA 1 strL ⟨#[]⟩ ps)∧Hid ((Value.slice A' m c').ownBlock≠some pb)∧Hid ((Value.slice A' m c').ownBlock≠some aB)) (fun o i _=>cntD tx-(RowKit.intOf i).toNat)
   case atStart=>exact⟨0,A',c',m,M,at_,ar,ai,Nat.zero_le _,rfl,rfl,by omega,HML,hid (by rw[HM.out];rfl),HOW,HBW,HAW,HPW,NPB0,NAB0⟩
   case round=>
    clear HML HM HOW HBW HAW HPW NPB0 NAB0 hmk
    obtain⟨q,A',c',m,M,qt,qr,qi,hj,rfl,rfl,hmj,HML,HM,HO,HBr,HA,HP,NPB,NAB⟩:=hrel
    by_cases hjl:q<cntD tx
    ·have j1:(0:Int)≤(q:Int):=by omega
     have j2:(q:Int)<(cntD tx:Int):=by omega
     have hjp:q<ps.length:=by rw[←HPS.out];exact hjl
     obtain⟨pb2,po,hpA,hpe,hpl,hpr⟩:=HP.out.range (fun _=>rfl) hjp
     rw[show pb2=pb from hpe] at hpA hpl hpr
     obtain rfl:=hpA
     have HPA:=hid (HPA0.out (by omega))
     have hst2:(((names ⟨⟨⟨at_,ar⟩,ai⟩,⟨⟨et,er⟩,ei⟩,tx⟩).take (q+1)).foldl eltStep N)=eltStep (M.map (·.id)) ⟨⟨et,er⟩,ei+(q:Int)⟩:=by rw[foldl_take _ _ (by rw[names_len];exact hjl) Gid.zero,names_at _ hjl,HM.out]
     generalize ps.getD q ⟨#[]⟩=pt at *
     have HST2:=hid hst2
     have HPT0:=hid (show wr.rangeAt pb (po+q*1) [.string pt] from hpr)
     have q0:=eq_id et er (ei+(q:Int)) 0 0 0 false (by rw[←Bool.not_eq_true,Gid.eqb_iff];intro e;injection e with e1 e2;injection e1 with e3 e4;omega)
     have k6:IntKind.i64.wrap (ei+(q:Int))=(ei+(q:Int)):=by rw[IntKind.wrap_i64];omega
     have hszr:=HBr.out.size
     have HRr:=hid (HRW.out wr HBr.out)
     have HBZ:=hid ((HBr.out.alloc hszr (.cells #[.int .i64 0,.int .i64 0,.int .i64 0] 108)).drew)
     have HZ0:=hid (show(wr.alloc (.cells #[.int .i64 0,.int .i64 0,.int .i64 0] 108)).drew.heap[wr.heap.size]? =some (.cells #[.int .i64 0,.int .i64 0,.int .i64 0] 108 (0,0)) from heap_alloc_new wr (.cells #[.int .i64 0,.int .i64 0,.int .i64 0] 108))
     have HTZ:=hid (show(wr.alloc (.cells #[.int .i64 0,.int .i64 0,.int .i64 0] 108)).drew.there wr.heap.size 0 3 from there_of HZ0.out)
     have HAX:=hid (show(#[.int .i64 et,.int .i64 er,.int .i64 (ei+(q:Int))]:Array Value).all (·.oneCell')=true by rw[←Array.all_toList];rfl)
     have HALL:=hid (show(#[.int .i64 et,.int .i64 er,.int .i64 (ei+(q:Int))]:Array Value).toList.all (·.oneCell')=true from rfl)
     obtain⟨wv,hV⟩:∃V,V=(wr.alloc (.cells #[.int .i64 0,.int .i64 0,.int .i64 0] 108)).drew.setCells wr.heap.size 0 (#[.int .i64 et,.int .i64 er,.int .i64 (ei+(q:Int))]:Array Value).toList:=⟨_,rfl⟩
     have hVr:wv=(wr.alloc (.cells #[.int .i64 0,.int .i64 0,.int .i64 0] 108)).drew.setRow wr.heap.size #[.int .i64 et,.int .i64 er,.int .i64 (ei+(q:Int))]:=by rw[hV];exact setCells_put _ _ _ _ _ _ HZ0.out
     have HBVr:=hid (show Below wr.heap.size wr wv by rw[hVr];exact Below.setRow' (((Below.refl _ _).alloc (Nat.le_refl _) _).drew) (Nat.le_refl _) _)
     have HX:=hid (show wv.heap[wr.heap.size]? =some (.cells #[.int .i64 et,.int .i64 er,.int .i64 (ei+(q:Int))] 108 (0,0)) by rw[hVr];exact heap_setRow_same _ HZ0.out)
     have HBV:=hid (HBr.out.trans (HBVr.out.mono hszr))
     have HV:=hid hV
     have HOV:=hid (HO.out.kept (gby_below (r:=none) HBVr.out) (Classical.em _))
     have HPV:=hid (HP.out.below HBVr.out)
     have HAV:=hid ((HBVr.out.block _ (lt_of_block HA.out)).trans HA.out)
     have HPT:=hid (rangeB HPT0.out hpl HBVr.out)
     have HPL0:=hid (Nat.lt_of_lt_of_le hpl HBVr.out.size)
     have NXB:=hid (show(Value.slice A' m c').ownBlock≠some wr.heap.size from fun e=>by have:=(HO.out.lt _ e).2;omega)
     clear hst2 hpr hV hVr hpe
     go_upto_region 10 with fail
     refine wp_region_held (S:=fun W'=>W'.rangeAt rb (ro+k*7) [.int .i64 at_,.int .i64 ar,.int .i64 ai,.int .i64 et,.int .i64 er,.int .i64 ei,.string tx]) (by kernel_rfl) ?_
     try(change wpAnyH _ _ _ _ _ _ _ _ (World.drew _))
     refine tk 0 (.slice (some ⟨rb,ro,none⟩) L.length c) (HRr.out) ?_
     go_simp
     refine tk 1 (.int .i64 (k:Int)) (HRr.out) ?_
     go_simp
     refine tk 2 (.pointer (some ⟨rb,ro+k*7,none⟩)) (HRr.out) ?_
     go_simp
     refine tk 3 (.pointer (some ⟨rb,ro+k*7+3,none⟩)) (HRr.out) ?_
     go_simp
     refine tk 4 (.pointer (some ⟨rb,ro+k*7+3,none⟩)) (HRr.out) ?_
     go_simp
     refine wpAnyH_take (i:=5) (v:= .agg #[.int .i64 et,.int .i64 er]) rfl (by kernel_rfl) (by kernel_rfl) (by kernel_rfl) (fun _ _ _ h=>h) (yieldsIf_load_mid (by rfl) _ _ rfl rb (ro+k*7+3) rfl [.int .i64 et,.int .i64 er] _ (fun W' hW'=>range_mid (pre:=[.int .i64 at_,.int .i64 ar,.int .i64 ai]) (mid:=[.int .i64 et,.int .i64 er]) (post:=[.int .i64 ei,.string tx]) (hW')) Tryz.underlying42 rfl (by kernel_rfl)) (HRr.out) ?_
     go_simp
     refine tk 6 (.slice (some ⟨rb,ro,none⟩) L.length c) (HRr.out) ?_
     go_simp
     refine tk 7 (.int .i64 (k:Int)) (HRr.out) ?_
     go_simp
     refine tk 8 (.pointer (some ⟨rb,ro+k*7,none⟩)) (HRr.out) ?_
     go_simp
     refine tk 9 (.pointer (some ⟨rb,ro+k*7+3,none⟩)) (HRr.out) ?_
     go_simp
     refine tk 10 (.pointer (some ⟨rb,ro+k*7+3+2,none⟩)) (HRr.out) ?_
     go_simp
     refine wpAnyH_take (i:=11) (v:= .int .i64 ei) rfl (by kernel_rfl) (by kernel_rfl) (by kernel_rfl) (fun _ _ _ h=>h) (Or.inl ⟨by rfl,fun W' hW'=>by(have c_:W'.cell? ⟨rb,ro+k*7+3+2,none⟩=some (.int .i64 ei):=hW' 5 _ rfl;go_simp)⟩) (HRr.out) ?_
     go_simp
     refine tk 12 (.int .i64 (q:Int)) (HRr.out) ?_
     go_simp
     refine tk 13 (.int .i64 (ei+(q:Int))) (HRr.out) ?_
     go_simp
     refine tk 14 (.agg #[.int .i64 et,.int .i64 er,.int .i64 (ei+(q:Int))]) (HRr.out) ?_
     go_simp
     refine wpAnyH_ready (rs:=[15]) (by kernel_rfl) (by simp) ?_
     refine AllReadyH.cons rfl (fun K hK=> ?_) AllReadyH.nil
     go_simp
     refine hK.out _ _ (HRW.out _ HBZ.out) (fun _=> ?_)
     clear hK K
     refine wpAnyH_ready (rs:=[16]) (by kernel_rfl) (by simp) ?_
     refine AllReadyH.cons rfl (fun K hK=> ?_) AllReadyH.nil
     refine step_store_mid rfl _ _ _ rfl wr.heap.size 0 #[.int .i64 et,.int .i64 er,.int .i64 (ei+(q:Int))] (by rfl) (by rfl) HTZ.out (by kernel_rfl) HAX.out ?_
     rw[←HV.out]
     refine hK.out _ _ (HRW.out _ HBV.out) (fun _=> ?_)
     clear hK K
     refine wpAnyH_done (by kernel_rfl) ?_ _
     go_simp
     generalize hxb:wr.heap.size=xB at *
     clear hxb HZ0 HTZ HBZ HBVr HPT0 HRr HO HBr HP HA HV hpl
     go_upto_region 13 with(refine load_at rfl _ _ rfl xB _ _ _ rfl HX.out Tryz.underlying108 rfl ?_ ?_;kernel_rfl)
     go_loopw [10,11] (fun h i wr=>∃(j:Nat) (b:Bool),j≤m∧i= .int .i64 j∧h= .bool b∧Hid (b=(M.take j).any (fun y:Elt=>Gid.eqb y.id ⟨⟨et,er⟩,ei+(q:Int)⟩))∧Hid (Below wv.heap.size wv wr)) (fun h i _=>m-(RowKit.intOf i).toNat)
     case atStart=>exact⟨0,false,Nat.zero_le _,rfl,rfl,hid rfl,hid (Below.refl _ _)⟩
     case round=>
      obtain⟨j,b,hj,rfl,rfl,HB,HBj⟩:=hrel
      have HBw:=hid (HBV.out.trans (HBj.out.mono HBV.out.size))
      have HOj:=hid (HOV.out.kept (gby_below (r:=none) HBj.out) (Classical.em _))
      by_cases hjm:j<m
      ·have j1:(0:Int)≤(j:Int):=by omega
       have j2:(j:Int)<(m:Int):=by omega
       obtain⟨g2,rfl,-,hg2,hr2⟩:=ownN_range (f:=eltL) (fun _=>rfl) HML.out HOj.out hjm elt0
       have htk:(M.take (j+1)).any (fun y:Elt=>Gid.eqb y.id ⟨⟨et,er⟩,ei+(q:Int)⟩)=((M.take j).any (fun y:Elt=>Gid.eqb y.id ⟨⟨et,er⟩,ei+(q:Int)⟩) || (fun y:Elt=>Gid.eqb y.id ⟨⟨et,er⟩,ei+(q:Int)⟩) (M.getD j elt0)):=by rw[takeD_succ (by rw[←HML.out];exact hjm) elt0,List.any_append];simp
       generalize M.getD j elt0=y at *
       obtain⟨⟨⟨t2,r2⟩,n2⟩,⟨⟨u2,v2⟩,i2⟩,p2⟩:=y
       obtain⟨b2,hb2⟩:∃b,b=(fun y:Elt=>Gid.eqb y.id ⟨⟨et,er⟩,ei+(q:Int)⟩) ⟨⟨⟨t2,r2⟩,n2⟩,⟨⟨u2,v2⟩,i2⟩,p2⟩:=⟨_,rfl⟩
       have q1:=eq_id t2 r2 n2 et er (ei+(q:Int)) b2 hb2.symm
       have HTK:=hid (show(M.take (j+1)).any (fun y:Elt=>Gid.eqb y.id ⟨⟨et,er⟩,ei+(q:Int)⟩)=(b || b2) by rw[htk,HB.out,hb2])
       have y0:=cell_regrown (w:=wr) (a:=⟨g2,j*7,none⟩) (v:= .int .i64 t2) (hr2 0 _ rfl)
       have y1:=cell_regrown (w:=wr) (a:=⟨g2,j*7+1,none⟩) (v:= .int .i64 r2) (hr2 1 _ rfl)
       have y2:=cell_regrown (w:=wr) (a:=⟨g2,j*7+2,none⟩) (v:= .int .i64 n2) (hr2 2 _ rfl)
       have hxr:=(HBj.out.block _ (lt_of_block HX.out)).trans HX.out
       have x0:=cell_regrown (w:=wr) (a:=⟨xB,0,none⟩) (v:= .int .i64 et) (crw hxr)
       have x1:=cell_regrown (w:=wr) (a:=⟨xB,1,none⟩) (v:= .int .i64 er) (crw hxr)
       have x2:=cell_regrown (w:=wr) (a:=⟨xB,2,none⟩) (v:= .int .i64 (ei+(q:Int))) (crw hxr)
       clear hxr
       clear hr2 hb2 htk
       cases b with
       |true=>
        go_upto_region 15 with fail
        refine rqb ?_
        repeat(any_goals(first|go_big_quiet_step (fail)|quiet_step (fail)))
        refine qz fun wq hBq=> ?_
        go_wp2
        go_roundw
        case rel=>exact⟨j+1,true,by omega,by go_num,rfl,hid (by rw[HTK.out];rfl),hid (HBj.out.trans (hBq.mono HBj.out.size))⟩
        case measure=>(simp[RowKit.intOf];omega)
       |false=>
        go_upto_region 15 with fail
        refine rqb ?_
        repeat(any_goals(first|go_big_quiet_step (fail)|quiet_step (fail)))
        refine qz fun wq hBq=> ?_
        go_wp2
        go_roundw
        case rel=>exact⟨j+1,b2,by omega,by go_num,rfl,hid (by rw[HTK.out];rfl),hid (HBj.out.trans (hBq.mono HBj.out.size))⟩
        case measure=>(simp[RowKit.intOf];omega)
      ·obtain rfl:j=m:=by omega
       have j2:¬(j:Int)<(j:Int):=by omega
       have hany:b=M.any (fun y:Elt=>Gid.eqb y.id ⟨⟨et,er⟩,ei+(q:Int)⟩):=by rw[HB.out,HML.out,List.take_length]
       cases b with
       | true=>
        have HS9:=hid (show(((names ⟨⟨⟨at_,ar⟩,ai⟩,⟨⟨et,er⟩,ei⟩,tx⟩).take (q+1)).foldl eltStep N)=M.map (·.id) by rw[HST2.out];unfold eltStep;rw[any_map,if_pos hany.symm])
        clear hany
        have HXr:=hid ((HBj.out.block _ (lt_of_block HX.out)).trans HX.out)
        have HAr:=hid ((HBj.out.block _ (lt_of_block HAV.out)).trans HAV.out)
        have HPr:=hid (HPV.out.agr (Agr.below HBj.out))
        go_upto_region 18 with fail
        obtain⟨V3,hV3⟩:∃V,V=wr.setRow aB #[.int .i64 et,.int .i64 er,.int .i64 (ei+(q:Int))]:=⟨_,rfl⟩
        have HV3:=hid hV3
        have HA3:=hid (show V3.heap[aB]? =some (.cells #[.int .i64 et,.int .i64 er,.int .i64 (ei+(q:Int))] 108 (0,0)) by rw[hV3];exact heap_setRow_same _ HAr.out)
        have HB3:=hid (show Below w.heap.size w V3 by rw[hV3];exact Below.setRow' HBw.out HAB.out _)
        have HG3:=hid (show wr.grownBy V3 (some aB) by rw[hV3];exact gby_setRow _ _ _)
        have HO3:=hid (HOj.out.kept HG3.out (.inr NAB.out))
        have HP3:=hid (HPr.out.agr (Agr.grown HG3.out (fun g e1 e2=>by cases e1;exact absurd (show aB=pb from e2) (by have:=HPA.out;omega))))
        clear hV3
        go_wp2_with (first
         |(refine load_at rfl _ _ rfl xB _ _ _ rfl HXr.out Tryz.underlying108 rfl ?_ ?_;kernel_rfl)
         |(refine store_at rfl _ _ _ rfl aB 108 #[.int .i64 qt,.int .i64 qr,.int .i64 qi] #[.int .i64 et,.int .i64 er,.int .i64 (ei+(q:Int))] rfl rfl HAr.out (by kernel_rfl) rfl HALL.out ?_;rw[←HV3.out]))
        go_roundw
        case rel=>exact⟨q+1,A',c',j,M,et,er,(ei+(q:Int)),by omega,by go_num,rfl,by omega,HML,hid HS9.out.symm,HO3,HB3,HA3,HP3,NPB,NAB⟩
        case measure=>(simp[RowKit.intOf];omega)
       | false=>
        have HS9:=hid (show(((names ⟨⟨⟨at_,ar⟩,ai⟩,⟨⟨et,er⟩,ei⟩,tx⟩).take (q+1)).foldl eltStep N)=(M++[(⟨⟨⟨et,er⟩,ei+(q:Int)⟩,⟨⟨qt,qr⟩,qi⟩,pt⟩:Elt)]).map (·.id) by rw[HST2.out];unfold eltStep;rw[any_map,if_neg (by rw[←hany];decide),List.map_append];rfl)
        clear hany
        have HXr:=hid ((HBj.out.block _ (lt_of_block HX.out)).trans HX.out)
        have HAr:=hid ((HBj.out.block _ (lt_of_block HAV.out)).trans HAV.out)
        have HPr:=hid (HPV.out.agr (Agr.below HBj.out))
        have HRx:=hid (show wr.rangeAt xB 0 [.int .i64 et,.int .i64 er,.int .i64 (ei+(q:Int))] from range_of_block HXr.out)
        have HRa:=hid (show wr.rangeAt aB 0 [.int .i64 qt,.int .i64 qr,.int .i64 qi] from range_of_block HAr.out)
        have HRp:=hid (show wr.rangeAt pb (po+q) [.string pt] by have h9:=rangeB HPT.out HPL0.out HBj.out;rwa[Nat.mul_one] at h9)
        have HPL:=hid (Nat.lt_of_lt_of_le HPL0.out HBj.out.size)
        have hszw:=HBw.out.size
        go_upto_region 17 with fail
        refine wp_region_held (S:=fun W'=>W'.rangeAt xB 0 [.int .i64 et,.int .i64 er,.int .i64 (ei+(q:Int))]∧W'.rangeAt aB 0 [.int .i64 qt,.int .i64 qr,.int .i64 qi]∧W'.rangeAt pb (po+q) [.string pt]) (by kernel_rfl) ?_
        try(change wpAnyH _ _ _ _ _ _ _ _ (World.drew _))
        refine tk 0 (.slice A' j c') (⟨HRx.out,HRa.out,HRp.out⟩) ?_
        go_simp
        refine wpAnyH_take (i:=1) (v:= .agg #[.int .i64 et,.int .i64 er,.int .i64 (ei+(q:Int))]) rfl (by kernel_rfl) (by kernel_rfl) (by kernel_rfl) (fun _ _ _ h=>h) (yieldsIf_load_mid (by rfl) _ _ rfl xB (0) rfl [.int .i64 et,.int .i64 er,.int .i64 (ei+(q:Int))] _ (fun W' hW'=>range_mid (pre:=[]) (mid:=[.int .i64 et,.int .i64 er,.int .i64 (ei+(q:Int))]) (post:=[]) (hW'.1)) Tryz.underlying108 rfl (by kernel_rfl)) (⟨HRx.out,HRa.out,HRp.out⟩) ?_
        go_simp
        refine wpAnyH_take (i:=2) (v:= .agg #[.int .i64 qt,.int .i64 qr,.int .i64 qi]) rfl (by kernel_rfl) (by kernel_rfl) (by kernel_rfl) (fun _ _ _ h=>h) (yieldsIf_load_mid (by rfl) _ _ rfl aB (0) rfl [.int .i64 qt,.int .i64 qr,.int .i64 qi] _ (fun W' hW'=>range_mid (pre:=[]) (mid:=[.int .i64 qt,.int .i64 qr,.int .i64 qi]) (post:=[]) (hW'.2.1)) Tryz.underlying108 rfl (by kernel_rfl)) (⟨HRx.out,HRa.out,HRp.out⟩) ?_
        go_simp
        refine tk 3 (.slice (some ⟨pb,po,none⟩) (cntD tx) pc) (⟨HRx.out,HRa.out,HRp.out⟩) ?_
        go_simp
        refine tk 4 (.int .i64 (q:Int)) (⟨HRx.out,HRa.out,HRp.out⟩) ?_
        go_simp
        refine tk 5 (.pointer (some ⟨pb,po+q,none⟩)) (⟨HRx.out,HRa.out,HRp.out⟩) ?_
        go_simp
        refine wpAnyH_take (i:=6) (v:= .string pt) rfl (by kernel_rfl) (by kernel_rfl) (by kernel_rfl) (fun _ _ _ h=>h) (Or.inl ⟨by rfl,fun W' hW'=>by(have c_:W'.cell? ⟨pb,po+q,none⟩=some (.string pt):=hW'.2.2 0 _ rfl;go_simp)⟩) (⟨HRx.out,HRa.out,HRp.out⟩) ?_
        go_simp
        refine tk 7 (.agg #[.int .i64 et,.int .i64 er,.int .i64 (ei+(q:Int)),.int .i64 qt,.int .i64 qr,.int .i64 qi,.string pt]) (⟨HRx.out,HRa.out,HRp.out⟩) ?_
        go_simp
        have hsA:(wr.alloc (.cells #[.int .i64 et,.int .i64 er,.int .i64 (ei+(q:Int)),.int .i64 qt,.int .i64 qr,.int .i64 qi,.string pt] 169)).drew.heap.size=wr.heap.size+1:=by show(wr.alloc _).heap.size=_;simp
        have HDN:=hid (HOj.out.alloc (.cells #[.int .i64 et,.int .i64 er,.int .i64 (ei+(q:Int)),.int .i64 qt,.int .i64 qr,.int .i64 qi,.string pt] 169))
        have HNC:=hid (fun (i:Nat) (y:Value) (h:([.int .i64 et,.int .i64 er,.int .i64 (ei+(q:Int)),.int .i64 qt,.int .i64 qr,.int .i64 qi,.string pt]:List Value)[i]? =some y)=>cellsN wr [.int .i64 et,.int .i64 er,.int .i64 (ei+(q:Int)),.int .i64 qt,.int .i64 qr,.int .i64 qi,.string pt] 169 i y h)
        have HOC:=hid (show ∀u∈([.int .i64 et,.int .i64 er,.int .i64 (ei+(q:Int)),.int .i64 qt,.int .i64 qr,.int .i64 qi,.string pt]:List Value),u.oneCell'=true from oc_of (c:=#[.int .i64 et,.int .i64 er,.int .i64 (ei+(q:Int)),.int .i64 qt,.int .i64 qr,.int .i64 qi,.string pt]) rfl)
        have HBA:=hid ((HBw.out.alloc HBw.out.size (.cells #[.int .i64 et,.int .i64 er,.int .i64 (ei+(q:Int)),.int .i64 qt,.int .i64 qr,.int .i64 qi,.string pt] 169)).drew)
        have HGA:=hid (show Below wr.heap.size wr (wr.alloc (.cells #[.int .i64 et,.int .i64 er,.int .i64 (ei+(q:Int)),.int .i64 qt,.int .i64 qr,.int .i64 qi,.string pt] 169)).drew from((Below.refl _ _).alloc (Nat.le_refl _) _).drew)
        refine wpAnyH_ready (rs:=[8]) (by kernel_rfl) (by simp) ?_
        refine AllReadyH.cons rfl (fun K hK=> ?_) AllReadyH.nil
        go_simp
        refine hK.out _ _ (⟨rangeB HRx.out (lt_of_block HXr.out) HGA.out,rangeB HRa.out (lt_of_block HAr.out) HGA.out,rangeB HRp.out HPL.out HGA.out⟩) (fun _=> ?_)
        clear hK K
        refine wpAnyH_ready (rs:=[9]) (by kernel_rfl) (by simp) ?_
        refine AllReadyH.cons rfl (fun K hK=> ?_) AllReadyH.nil
        refine step_append_lies _ (by rfl) _ _ 112 (by rfl) w.heap.size 169 i0 (.agg #[.int .i64 0,.int .i64 0,.int .i64 0,.int .i64 0,.int .i64 0,.int .i64 0,.string ⟨#[]⟩]) 7 64 Tryz.underlying112 hi hz0 hz1 hz2 rfl (by decide) (.slice A' j c') j _ (by rfl) (by exact HDN.out) ⟨wr.heap.size,0,none⟩ 1 1 [.int .i64 et,.int .i64 er,.int .i64 (ei+(q:Int)),.int .i64 qt,.int .i64 qr,.int .i64 qi,.string pt] (by rfl) (by rfl) (by exact HNC.out) HOC.out (by decide) (by unfold maxLen;omega) (by omega) (by rw[hsA];have:=HBw.out.size;omega) (wr.heap.size+1) hsA ?_
        intro gq cap w5 hown1 hgrow hat hlt3
        have HO5:=hid hown1
        have HB5:=hid (HBA.out.grown hgrow (by rw[hsA];have:=HBw.out.size;omega) (fun b hb=>(HOj.out.lt b hb).1))
        have HX5:=hid ((hgrow.block xB (by rw[hsA];have:=lt_of_block HXr.out;omega) (fun e=>NXB.out e.symm)).trans ((HGA.out.block _ (lt_of_block HXr.out)).trans HXr.out))
        have HA5:=hid ((hgrow.block aB (by rw[hsA];have:=lt_of_block HAr.out;omega) (fun e=>NAB.out e.symm)).trans ((HGA.out.block _ (lt_of_block HAr.out)).trans HAr.out))
        have HP5:=hid ((HPr.out.below HGA.out).agr (Agr.grown hgrow (fun g e1 e2=>NPB.out (e1.trans (congrArg some e2)))))
        have NA5:=hid (show(Value.slice (some ⟨gq,0,none⟩) (j+1) cap).ownBlock≠some aB from fun e=>by(injection (show some gq=some aB from e) with e;rcases hat with h|h;exact NAB.out (by rw[h,e]);have:=lt_of_block HAr.out;omega))
        have NP5:=hid (show(Value.slice (some ⟨gq,0,none⟩) (j+1) cap).ownBlock≠some pb from fun e=>by(injection (show some gq=some pb from e) with e;rcases hat with h|h;exact NPB.out (by rw[h,e]);have:=HPL.out;omega))
        have hgA:=(HGA.out.block _ (lt_of_block HXr.out))
        have HR5:=hid (show w5.rangeAt xB 0 [.int .i64 et,.int .i64 er,.int .i64 (ei+(q:Int))]∧w5.rangeAt aB 0 [.int .i64 qt,.int .i64 qr,.int .i64 qi]∧w5.rangeAt pb (po+q) [.string pt] from⟨range_of_block HX5.out,range_of_block HA5.out,range_block (rangeB HRp.out HPL.out HGA.out) (hgrow.block pb (by rw[hsA];have:=HPL.out;omega) (fun e=>NPB.out e.symm))⟩)
        clear hown1 hgrow hat hlt3 hgA
        refine hK.out _ _ (HR5.out) (fun _=> ?_)
        clear hK K
        refine tk 10 (.slice (some ⟨gq,0,none⟩) (j+1) cap) (HR5.out) ?_
        go_simp
        refine wpAnyH_done (by kernel_rfl) ?_ _
        go_simp
        go_upto_region 18 with fail
        have HML5:=hid (show j+1=(M++[(⟨⟨⟨et,er⟩,ei+(q:Int)⟩,⟨⟨qt,qr⟩,qi⟩,pt⟩:Elt)]).length by rw[List.length_append,←HML.out];rfl)
        have HO6:=hid (show w5.ownsRow w.heap.size 169 7 (.slice (some ⟨gq,0,none⟩) (j+1) cap) (j+1) ((M++[(⟨⟨⟨et,er⟩,ei+(q:Int)⟩,⟨⟨qt,qr⟩,qi⟩,pt⟩:Elt)]).flatMap eltL) by rw[List.flatMap_append];exact HO5.out)
        obtain⟨V3,hV3⟩:∃V,V=w5.setRow aB #[.int .i64 et,.int .i64 er,.int .i64 (ei+(q:Int))]:=⟨_,rfl⟩
        have HV3:=hid hV3
        have HA3:=hid (show V3.heap[aB]? =some (.cells #[.int .i64 et,.int .i64 er,.int .i64 (ei+(q:Int))] 108 (0,0)) by rw[hV3];exact heap_setRow_same _ HA5.out)
        have HB3:=hid (show Below w.heap.size w V3 by rw[hV3];exact Below.setRow' HB5.out HAB.out _)
        have HG3:=hid (show w5.grownBy V3 (some aB) by rw[hV3];exact gby_setRow _ _ _)
        have HO3:=hid (HO6.out.kept HG3.out (.inr NA5.out))
        have HP3:=hid (HP5.out.agr (Agr.grown HG3.out (fun g e1 e2=>by cases e1;exact absurd (show aB=pb from e2) (by have:=HPA.out;omega))))
        clear hV3
        go_wp2_with (first
         |(refine load_at rfl _ _ rfl xB _ _ _ rfl HX5.out Tryz.underlying108 rfl ?_ ?_;kernel_rfl)
         |(refine store_at rfl _ _ _ rfl aB 108 #[.int .i64 qt,.int .i64 qr,.int .i64 qi] #[.int .i64 et,.int .i64 er,.int .i64 (ei+(q:Int))] rfl rfl HA5.out (by kernel_rfl) rfl HALL.out ?_;rw[←HV3.out]))
        go_roundw
        case rel=>exact⟨q+1,some ⟨gq,0,none⟩,cap,j+1,M++[(⟨⟨⟨et,er⟩,ei+(q:Int)⟩,⟨⟨qt,qr⟩,qi⟩,pt⟩:Elt)],et,er,(ei+(q:Int)),by omega,by go_num,rfl,by omega,HML5,hid HS9.out.symm,HO3,HB3,HA3,HP3,NP5,NA5⟩
        case measure=>(simp[RowKit.intOf];omega)
    ·obtain rfl:q=cntD tx:=by omega
     have j2:¬((cntD tx:Nat):Int)<((cntD tx:Nat):Int):=by omega
     have HM9:=hid (show M.map (·.id)=elemIds (L.take (k+1)) by rw[HST.out];have h9:=HM.out;rw[←names_len (⟨⟨⟨at_,ar⟩,ai⟩,⟨⟨et,er⟩,ei⟩,tx⟩:Rn),List.take_length] at h9;exact h9)
     go_wp2
     go_roundw
     case rel=>exact⟨k+1,A',c',m,M,by omega,by go_num,rfl,by omega,HML,HM9,HO,HBr⟩
     case measure=>(simp[RowKit.intOf];omega)
  ·obtain rfl:k=L.length:=by omega
   have i2:¬(L.length:Int)<(L.length:Int):=by omega
   have HM9:=hid (show M.map (·.id)=elemIds L by have h9:=HM.out;rw[List.take_length] at h9;exact h9)
   go_wp2
   go_ret
   exact⟨A',c',m,rfl,M,HML.out,HM9.out,hmk,HO.out,HBr.out⟩
end
end Go.Proofs.YtkhmicndehlneaaGreatDoor
