/- Part 22 of the walks and plain laws that this claim uses, joined. Conditions: as each theorem states. -/
import Derived.Test.YtkhmicndehlneaaGreatDoorYtu
namespace Go.Proofs.YtkhmicndehlneaaGreatDoor
set_option maxRecDepth 100000
set_option maxHeartbeats 16000000
section
open Go.RowKit Go.Lib Go.Sort
set_option linter.unusedVariables false
attribute [local go_sem ↓] Go.wp_at_zero Go.wp_at_succ
def nameN (L:List Plc) (p:Plc):ByteArray:=if L.any (fun q:Plc=>q.p.eqb p.p && decide (q.name=p.name) && Gid.lt q.n p.n)=true then clashN p.name p.n else p.name
theorem nameN_size (L:List Plc) (p:Plc):(nameN L p).size≤p.name.size+61:=by
 unfold nameN clashN
 have h:=txtB_size p.n
 split
 ·split
  ·split
   ·exact Nat.zero_le _
   ·simp only[ByteArray.size_append]
    rw[show(⟨#[126]⟩:ByteArray).size=1 from rfl];omega
  ·exact Nat.zero_le _
 ·omega
theorem name15_any (L:List Plc) (A:Option Addr) (c:Nat) (nt nr ni pt pr pi:Int) (nm:ByteArray) (dd:Bool) (S:Nat→Prop) (w00:World) (hl:L.length≤100000) (hnm:nm.size≤1000000) (hR:RowF w00 S A 8 plcL plc0 L):
  Calls Tryz.prog 197 #[.slice A L.length c,.agg #[.int .i64 nt,.int .i64 nr,.int .i64 ni,.int .i64 pt,.int .i64 pr,.int .i64 pi,.string nm,.bool dd]] w00 fun e w'=>e= .returned (.string (nameN L ⟨⟨⟨nt,nr⟩,ni⟩,⟨⟨pt,pr⟩,pi⟩,nm,dd⟩))∧Below w00.heap.size w00 w':=by
 obtain⟨T,hT⟩:∃T,T=nameN L ⟨⟨⟨nt,nr⟩,ni⟩,⟨⟨pt,pr⟩,pi⟩,nm,dd⟩:=⟨_,rfl⟩
 rw[←hT]
 obtain⟨Z,hZ⟩:∃Z,Z=clashN nm ⟨⟨nt,nr⟩,ni⟩:=⟨_,rfl⟩
 have HT:=hid (show T=if L.any (fun q:Plc=>q.p.eqb ⟨⟨pt,pr⟩,pi⟩ && decide (q.name=nm) && Gid.lt q.n ⟨⟨nt,nr⟩,ni⟩)=true then Z else nm by rw[hT,hZ];rfl)
 have hb0:Below w00.heap.size w00 (w00.alloc (.cells #[.int .i64 nt,.int .i64 nr,.int .i64 ni,.int .i64 pt,.int .i64 pr,.int .i64 pi,.string nm,.bool dd] 161)):=(Below.refl _ _).alloc (Nat.le_refl _) _
 have HB0:=hid hb0
 have HX0:=hid (heap_alloc_new w00 (.cells #[.int .i64 nt,.int .i64 nr,.int .i64 ni,.int .i64 pt,.int .i64 pr,.int .i64 pi,.string nm,.bool dd] 161))
 have HR:=hid (hR.below hb0)
 have HCL:=hid (fun W=>show Calls Tryz.prog 213 #[.string nm,.agg #[.int .i64 nt,.int .i64 nr,.int .i64 ni]] W fun e w'=>∃z,e= .returned (.tuple #[.string Z,.int .i64 z])∧Below W.heap.size W w' from by rw[hZ];exact clash_any nm nt nr ni W hnm)
 clear hR hT hZ hb0
 go_enter Tryz.func197,Tryz.ntmps197
 go_upto_region 2 with fail
 generalize hW:w00.alloc (.cells #[.int .i64 nt,.int .i64 nr,.int .i64 ni,.int .i64 pt,.int .i64 pr,.int .i64 pi,.string nm,.bool dd] 161)=w at *
 clear hW
 have hxs:=HB0.out.size
 generalize hxb:w00.heap.size=xb at *
 have HXB:=hid hxb
 clear hxb
 go_loopw [5] (fun i wr=>∃(k:Nat),k≤L.length∧i= .int .i64 k∧Hid ((L.take k).any (fun q:Plc=>q.p.eqb ⟨⟨pt,pr⟩,pi⟩ && decide (q.name=nm) && Gid.lt q.n ⟨⟨nt,nr⟩,ni⟩)=false)∧Hid (Below w.heap.size w wr)) (fun i _=>L.length-(RowKit.intOf i).toNat)
 case atStart=>exact⟨0,Nat.zero_le _,rfl,hid rfl,hid (Below.refl _ _)⟩
 case round=>
  obtain⟨k,hk,rfl,HA,HBr⟩:=hrel
  have HXr:=hid ((HBr.out.block _ (lt_of_block HX0.out)).trans HX0.out)
  have hxr:=Nat.le_trans hxs HBr.out.size
  have HBX:=hid (HB0.out.trans (HBr.out.mono hxs))
  by_cases hlt:k<L.length
  ·have i1:(0:Int)≤(k:Int):=by omega
   have i2:(k:Int)<(L.length:Int):=by omega
   obtain⟨rb,ro,rfl,-,hrb,hrange⟩:=HR.out.range (fun _=>rfl) hlt
   have htk:(L.take (k+1)).any (fun q:Plc=>q.p.eqb ⟨⟨pt,pr⟩,pi⟩ && decide (q.name=nm) && Gid.lt q.n ⟨⟨nt,nr⟩,ni⟩)=(fun q:Plc=>q.p.eqb ⟨⟨pt,pr⟩,pi⟩ && decide (q.name=nm) && Gid.lt q.n ⟨⟨nt,nr⟩,ni⟩) (L.getD k plc0):=by rw[takeD_succ hlt plc0,List.any_append,HA.out];simp
   have hmem:(fun q:Plc=>q.p.eqb ⟨⟨pt,pr⟩,pi⟩ && decide (q.name=nm) && Gid.lt q.n ⟨⟨nt,nr⟩,ni⟩) (L.getD k plc0)=true→L.any (fun q:Plc=>q.p.eqb ⟨⟨pt,pr⟩,pi⟩ && decide (q.name=nm) && Gid.lt q.n ⟨⟨nt,nr⟩,ni⟩)=true:=fun h=>List.any_eq_true.2 ⟨_,getD_memF hlt plc0,h⟩
   generalize L.getD k plc0=p at *
   obtain⟨⟨⟨t2,r2⟩,n2⟩,⟨⟨u2,v2⟩,i2⟩,m2,d2⟩:=p
   obtain⟨c1,hc1⟩:∃b,b=Gid.eqb ⟨⟨u2,v2⟩,i2⟩ ⟨⟨pt,pr⟩,pi⟩:=⟨_,rfl⟩
   obtain⟨c2,hc2⟩:∃b,b=decide (m2=nm):=⟨_,rfl⟩
   obtain⟨b2,hb2⟩:∃b,b=Gid.lt ⟨⟨t2,r2⟩,n2⟩ ⟨⟨nt,nr⟩,ni⟩:=⟨_,rfl⟩
   have HTK:=hid (show(L.take (k+1)).any (fun q:Plc=>q.p.eqb ⟨⟨pt,pr⟩,pi⟩ && decide (q.name=nm) && Gid.lt q.n ⟨⟨nt,nr⟩,ni⟩)=(c1 && c2 && b2) by rw[htk,hc1,hc2,hb2])
   have HME:=hid (show(c1 && c2 && b2)=true→L.any (fun q:Plc=>q.p.eqb ⟨⟨pt,pr⟩,pi⟩ && decide (q.name=nm) && Gid.lt q.n ⟨⟨nt,nr⟩,ni⟩)=true from fun h=>hmem (by rw[hc1,hc2,hb2] at h;exact h))
   have hrw:wr.rangeAt rb (ro+k*8) [.int .i64 t2,.int .i64 r2,.int .i64 n2,.int .i64 u2,.int .i64 v2,.int .i64 i2,.string m2,.bool d2]:=rangeB hrange hrb HBr.out
   have q1:=eq_id u2 v2 i2 pt pr pi c1 hc1.symm
   have q2:(m2.toList == nm.toList)=c2:=beq_str hc2.symm
   have y0:=cell_regrown (w:=wr) (a:=⟨rb,ro+k*8,none⟩) (v:= .int .i64 t2) (hrw 0 _ rfl)
   have y1:=cell_regrown (w:=wr) (a:=⟨rb,ro+k*8+1,none⟩) (v:= .int .i64 r2) (hrw 1 _ rfl)
   have y2:=cell_regrown (w:=wr) (a:=⟨rb,ro+k*8+2,none⟩) (v:= .int .i64 n2) (hrw 2 _ rfl)
   have y3:=cell_regrown (w:=wr) (a:=⟨rb,ro+k*8+3,none⟩) (v:= .int .i64 u2) (hrw 3 _ rfl)
   have y4:=cell_regrown (w:=wr) (a:=⟨rb,ro+k*8+4,none⟩) (v:= .int .i64 v2) (hrw 4 _ rfl)
   have y5:=cell_regrown (w:=wr) (a:=⟨rb,ro+k*8+5,none⟩) (v:= .int .i64 i2) (hrw 5 _ rfl)
   have y6:=cell_regrown (w:=wr) (a:=⟨rb,ro+k*8+6,none⟩) (v:= .string m2) (hrw 6 _ rfl)
   have y4':=cell_regrown (w:=wr) (a:=⟨rb,ro+k*8+3+1,none⟩) (v:= .int .i64 v2) (hrw 4 _ rfl)
   have y5':=cell_regrown (w:=wr) (a:=⟨rb,ro+k*8+3+2,none⟩) (v:= .int .i64 i2) (hrw 5 _ rfl)
   have x0:=cell_regrown (w:=wr) (a:=⟨xb,0,none⟩) (v:= .int .i64 nt) (crw HXr.out)
   have x1:=cell_regrown (w:=wr) (a:=⟨xb,1,none⟩) (v:= .int .i64 nr) (crw HXr.out)
   have x2:=cell_regrown (w:=wr) (a:=⟨xb,2,none⟩) (v:= .int .i64 ni) (crw HXr.out)
   have x3:=cell_regrown (w:=wr) (a:=⟨xb,3,none⟩) (v:= .int .i64 pt) (crw HXr.out)
   have x4:=cell_regrown (w:=wr) (a:=⟨xb,4,none⟩) (v:= .int .i64 pr) (crw HXr.out)
   have x5:=cell_regrown (w:=wr) (a:=⟨xb,5,none⟩) (v:= .int .i64 pi) (crw HXr.out)
   have x6:=cell_regrown (w:=wr) (a:=⟨xb,6,none⟩) (v:= .string nm) (crw HXr.out)
   have HBF:=fun W=>refcmpid_any t2 r2 n2 nt nr ni W
   obtain⟨zc,hzc⟩:∃z,z=rcmpD ⟨⟨t2,r2⟩,n2⟩ ⟨⟨nt,nr⟩,ni⟩:=⟨_,rfl⟩
   rw[←hzc] at HBF
   have hz2:decide (0≤zc)= !b2:=by rw[hzc,rcmpD_ge,hb2]
   have hz3:decide (zc<0)=b2:=by cases b2<;>simp at hz2 ⊢ <;>omega
   clear hzc hz2
   have cA:=fun d os=>Calls.regrown_of (HBF (grow (redrawn wr d) os))
   clear hrange hrb hrw hc1 hc2 hb2 htk hmem
   cases c1 with
   |false=>
    go_upto_region 4 with fail
    refine rqb ?_
    repeat(any_goals(first|go_big_quiet_step (with_reducible exact cA _ _)|quiet_step (with_reducible exact cA _ _)))
    refine qz fun wq hBq=> ?_
    have HBq:=hid (HBr.out.trans (hBq.mono HBr.out.size))
    go_wp2
    go_roundw
    case rel=>exact⟨k+1,by omega,by go_num,hid HTK.out,HBq⟩
    case measure=>(simp[RowKit.intOf];omega)
   | true=>
    cases c2 with
    |false=>
     go_upto_region 4 with fail
     refine rqb ?_
     repeat(any_goals(first|go_big_quiet_step (with_reducible exact cA _ _)|quiet_step (with_reducible exact cA _ _)))
     refine qz fun wq hBq=> ?_
     have HBq:=hid (HBr.out.trans (hBq.mono HBr.out.size))
     go_wp2
     go_roundw
     case rel=>exact⟨k+1,by omega,by go_num,hid HTK.out,HBq⟩
     case measure=>(simp[RowKit.intOf];omega)
    | true=>
     cases b2 with
     |false=>
      go_upto_region 4 with fail
      refine rqb ?_
      repeat(any_goals(first|go_big_quiet_step (with_reducible exact cA _ _)|quiet_step (with_reducible exact cA _ _)))
      refine qz fun wq hBq=> ?_
      have HBq:=hid (HBr.out.trans (hBq.mono HBr.out.size))
      go_wp2
      go_roundw
      case rel=>exact⟨k+1,by omega,by go_num,hid HTK.out,HBq⟩
      case measure=>(simp[RowKit.intOf];omega)
     |true=>
      have HT2:=hid (show T=Z by rw[HT.out,if_pos (HME.out rfl)])
      go_upto_region 4 with fail
      refine rqb ?_
      repeat(any_goals(first|go_big_quiet_step (with_reducible exact cA _ _)|quiet_step (with_reducible exact cA _ _)))
      refine qz fun wq hBq=> ?_
      have HBq:=hid (HBr.out.trans (hBq.mono HBr.out.size))
      have HXq:=hid ((hBq.block _ (lt_of_block HXr.out)).trans HXr.out)
      have HBQ:=hid (HBX.out.trans (hBq.mono hxr))
      have hxq:=Nat.le_trans hxr hBq.size
      have z0:wq.cell? ⟨xb,0,none⟩=some (.int .i64 nt):=cell_of_row _ _ _ _ _ _ HXq.out;have z1:wq.cell? ⟨xb,1,none⟩=some (.int .i64 nr):=cell_of_row _ _ _ _ _ _ HXq.out;have z2:wq.cell? ⟨xb,2,none⟩=some (.int .i64 ni):=cell_of_row _ _ _ _ _ _ HXq.out;have z6:wq.cell? ⟨xb,6,none⟩=some (.string nm):=cell_of_row _ _ _ _ _ _ HXq.out
      clear x0 y0 x1 y1 x2 y2 x3 y3 x4 y4 x5 y5 x6 y6 y4' y5' cA
      go_wp2_with (go_at_call 213;refine(HCL.out _).mono ?_;rintro e w3 ⟨zz,rfl,hB3⟩;have HB3:=hid (HBQ.out.trans (hB3.mono hxq));clear hB3)
      go_ret
      exact⟨by rw[HT2.out];rfl,by rw[HXB.out];exact HB3.out⟩
  ·obtain rfl:k=L.length:=by omega
   have i2:¬(L.length:Int)<(L.length:Int):=by omega
   have HT2:=hid (show T=nm by rw[HT.out,if_neg (by have h9:=HA.out;rw[List.take_length] at h9;rw[h9];decide)])
   have z6:wr.cell? ⟨xb,6,none⟩=some (.string nm):=cell_of_row _ _ _ _ _ _ HXr.out
   go_wp2
   go_ret
   exact⟨by rw[HT2.out];rfl,by rw[HXB.out];exact HBX.out⟩
def climbs (L:List Plc):Nat→Plc→Bool
 |0,p=>p.p.eqb .zero
 |f+1,p=>if p.p.eqb .zero=true then true else match findP L p.p with
  |none=>false
  |some k=>climbs L f (L.getD k plc0)
def pathF (L:List Plc):Nat→Plc→ByteArray→ByteArray
 |0,_,s=>s
 |f+1,p,s=>if p.p.eqb .zero=true then s else match findP L p.p with
  |none=>s
  |some k=>pathF L f (L.getD k plc0) ((⟨#[47]⟩:ByteArray)++nameN L (L.getD k plc0)++s)
def pathN (L:List Plc) (f:Nat) (p:Plc):ByteArray:=pathF L f p ((⟨#[47]⟩:ByteArray)++nameN L p)
theorem pathF_zero (L:List Plc) (f:Nat) (p:Plc) (s:ByteArray) (h:p.p.eqb .zero=true):pathF L f p s=s:=by
 cases f with
 |zero=>rfl
 |succ f=>rw[pathF,if_pos h]
theorem path15_any (L:List Plc) (A:Option Addr) (c:Nat) (f0:Nat) (nt nr ni pt pr pi:Int) (nm:ByteArray) (dd:Bool) (S:Nat→Prop) (w00:World) (hl:L.length≤100000) (hnms:∀p∈L,p.name.size≤1000) (hnm:nm.size≤1000) (hf0:f0≤10000) (hcl:climbs L f0 (⟨⟨⟨nt,nr⟩,ni⟩,⟨⟨pt,pr⟩,pi⟩,nm,dd⟩:Plc)=true) (hR:RowF w00 S A 8 plcL plc0 L):
  Calls Tryz.prog 172 #[.slice A L.length c,.agg #[.int .i64 nt,.int .i64 nr,.int .i64 ni,.int .i64 pt,.int .i64 pr,.int .i64 pi,.string nm,.bool dd]] w00 fun e w'=>e= .returned (.string (pathN L f0 (⟨⟨⟨nt,nr⟩,ni⟩,⟨⟨pt,pr⟩,pi⟩,nm,dd⟩:Plc)))∧Below w00.heap.size w00 w':=by
 obtain⟨Z,hZ⟩:∃T,T=pathN L f0 (⟨⟨⟨nt,nr⟩,ni⟩,⟨⟨pt,pr⟩,pi⟩,nm,dd⟩:Plc):=⟨_,rfl⟩
 rw[←hZ]
 obtain⟨N0,hN0⟩:∃T,T=nameN L (⟨⟨⟨nt,nr⟩,ni⟩,⟨⟨pt,pr⟩,pi⟩,nm,dd⟩:Plc):=⟨_,rfl⟩
 have HZ:=hid (show Z=pathF L f0 (⟨⟨⟨nt,nr⟩,ni⟩,⟨⟨pt,pr⟩,pi⟩,nm,dd⟩:Plc) ((⟨#[47]⟩:ByteArray)++N0) by rw[hZ,hN0];rfl)
 have hs0:N0.size≤1061:=by rw[hN0];have h:=nameN_size L (⟨⟨⟨nt,nr⟩,ni⟩,⟨⟨pt,pr⟩,pi⟩,nm,dd⟩:Plc);have h2:(⟨⟨⟨nt,nr⟩,ni⟩,⟨⟨pt,pr⟩,pi⟩,nm,dd⟩:Plc).name.size≤1000:=hnm;omega
 have hb0:Below w00.heap.size w00 (w00.alloc (.cells #[.int .i64 nt,.int .i64 nr,.int .i64 ni,.int .i64 pt,.int .i64 pr,.int .i64 pi,.string nm,.bool dd] 161)):=(Below.refl _ _).alloc (Nat.le_refl _) _
 have HB0:=hid hb0
 have HX0:=hid (heap_alloc_new w00 (.cells #[.int .i64 nt,.int .i64 nr,.int .i64 ni,.int .i64 pt,.int .i64 pr,.int .i64 pi,.string nm,.bool dd] 161))
 have HR:=hid hR
 have HCL:=hid hcl
 have HNS:=hid hnms
 have HN1:=hid (show Calls Tryz.prog 197 #[.slice A L.length c,.agg #[.int .i64 nt,.int .i64 nr,.int .i64 ni,.int .i64 pt,.int .i64 pr,.int .i64 pi,.string nm,.bool dd]] (w00.alloc (.cells #[.int .i64 nt,.int .i64 nr,.int .i64 ni,.int .i64 pt,.int .i64 pr,.int .i64 pi,.string nm,.bool dd] 161)) fun e w'=>e= .returned (.string N0)∧Below (w00.alloc (.cells #[.int .i64 nt,.int .i64 nr,.int .i64 ni,.int .i64 pt,.int .i64 pr,.int .i64 pi,.string nm,.bool dd] 161)).heap.size (w00.alloc (.cells #[.int .i64 nt,.int .i64 nr,.int .i64 ni,.int .i64 pt,.int .i64 pr,.int .i64 pi,.string nm,.bool dd] 161)) w' from by rw[hN0];exact name15_any L A c nt nr ni pt pr pi nm dd S _ hl (by omega) (hR.below hb0))
 clear hR hZ hN0 hb0 hcl hnms
 go_enter Tryz.func172,Tryz.ntmps172
 go_upto_region 1 with fail
 generalize hW:w00.alloc (.cells #[.int .i64 nt,.int .i64 nr,.int .i64 ni,.int .i64 pt,.int .i64 pr,.int .i64 pi,.string nm,.bool dd] 161)=w at *
 clear hW
 have hxs:=HB0.out.size
 generalize hxb:w00.heap.size=xb at *
 have HXB:=hid hxb
 clear hxb
 go_upto_region 2 with(first
  |(refine load_at rfl _ _ rfl xb _ _ _ rfl HX0.out Tryz.underlying161 rfl ?_ ?_;kernel_rfl)
  |(go_at_call 197;refine HN1.out.mono ?_;rintro e w1 ⟨rfl,hB1⟩;have HX1:=hid ((hB1.block _ (lt_of_block HX0.out)).trans HX0.out);have HB1:=hid (HB0.out.trans (hB1.mono hxs));have hx1:=Nat.le_trans hxs hB1.size;clear hB1))
 have HSS:=hid (show((⟨#[47]⟩:ByteArray)++N0).size≤1100 by simp only[ByteArray.size_append];rw[show(⟨#[47]⟩:ByteArray).size=1 from rfl];omega)
 obtain⟨T0,hT0⟩:∃T,T=(⟨#[47]⟩:ByteArray)++N0:=⟨_,rfl⟩
 rw[←hT0] at HSS HZ
 have hT0b:T0.size≤1100:=HSS.out
 have HT0:=hid hT0
 simp only[←hT0]
 clear hT0
 go_loopw [5] (fun s wr=>∃(f:Nat) (p:Plc) (T:ByteArray),s= .string T∧f≤10000∧T.size+f*1100≤20000000∧p.name.size≤1000∧Hid (climbs L f p=true)∧Hid (wr.heap[xb]? =some (.cells (plcL p).toArray 161 (0,0)))∧Hid (Z=pathF L f p T)∧Hid (Below xb w00 wr)∧xb≤wr.heap.size) (fun s _=>match s with| .string T=>20000000-T.size|_=>0)
 case atStart=>exact⟨f0,(⟨⟨⟨nt,nr⟩,ni⟩,⟨⟨pt,pr⟩,pi⟩,nm,dd⟩:Plc),T0,rfl,hf0,by omega,hnm,HCL,HX1,HZ,HB1,hx1⟩
 case round=>
  obtain⟨f,p,T,rfl,hf,hT,hpn,HC,HX,HA,HBr,hxr⟩:=hrel
  obtain⟨⟨⟨nt,nr⟩,ni⟩,⟨⟨pt,pr⟩,pi⟩,nm,dd⟩:=p
  have HX:Hid (wr.heap[xb]? =some (.cells #[.int .i64 nt,.int .i64 nr,.int .i64 ni,.int .i64 pt,.int .i64 pr,.int .i64 pi,.string nm,.bool dd] 161 (0,0))):=HX
  obtain⟨b0,hb0⟩:∃b,b=Gid.eqb ⟨⟨pt,pr⟩,pi⟩ .zero:=⟨_,rfl⟩
  have q0:=ne_id pt pr pi 0 0 0 b0 hb0.symm
  have HPR:=hid (show wr.rangeAt xb 3 [.int .i64 pt,.int .i64 pr,.int .i64 pi] from range_mid (pre:=[.int .i64 nt,.int .i64 nr,.int .i64 ni]) (mid:=[.int .i64 pt,.int .i64 pr,.int .i64 pi]) (post:=[.string nm,.bool dd]) (range_of_block HX.out))
  cases b0 with
  |true=>
   have HA2:=hid (show Z=T by rw[HA.out];exact pathF_zero L f _ T hb0.symm)
   clear hb0
   go_wp2_with (refine wpList_load_mid rfl _ _ rfl xb 3 rfl [.int .i64 pt,.int .i64 pr,.int .i64 pi] _ HPR.out Tryz.underlying108 rfl (by kernel_rfl) ?_)
   go_ret
   exact⟨by rw[HA2.out];rfl,by rw[HXB.out];exact HBr.out⟩
  | false=>
   cases f with
   |zero=>exact absurd (show Gid.eqb ⟨⟨pt,pr⟩,pi⟩ .zero=true from HC.out) (by rw[←hb0];decide)
   | succ f=>
    have hc:=HC.out
    rw[climbs,if_neg (show ¬Gid.eqb ⟨⟨pt,pr⟩,pi⟩ .zero=true by rw[←hb0];decide)] at hc
    have ha:=HA.out
    rw[pathF,if_neg (show ¬Gid.eqb ⟨⟨pt,pr⟩,pi⟩ .zero=true by rw[←hb0];decide)] at ha
    have hfd9:findP L (⟨⟨⟨nt,nr⟩,ni⟩,⟨⟨pt,pr⟩,pi⟩,nm,dd⟩:Plc).p=findP L ⟨⟨pt,pr⟩,pi⟩:=rfl
    rw[hfd9] at hc ha
    have hrow:RowF wr S A 8 plcL plc0 L:=HR.out.below (by rw[HXB.out];exact HBr.out)
    have HFD:=hid (show Calls Tryz.prog 169 #[.slice A L.length c,.agg #[.int .i64 pt,.int .i64 pr,.int .i64 pi]] wr fun e w'=>e= .returned (.int .i64 (ixI (findP L ⟨⟨pt,pr⟩,pi⟩)))∧Below wr.heap.size wr w' from findplc_any L A c ⟨⟨pt,pr⟩,pi⟩ S wr (by omega) hrow)
    cases hfd:findP L ⟨⟨pt,pr⟩,pi⟩ with
    |none=>rw[hfd] at hc;exact absurd (show false=true from hc) (by decide)
    | some k=>
     obtain⟨hk,-⟩:=findP_lt hfd
     rw[hfd] at hc ha HFD
     have hc:climbs L f (L.getD k plc0)=true:=hc
     have ha:Z=pathF L f (L.getD k plc0) ((⟨#[47]⟩:ByteArray)++nameN L (L.getD k plc0)++T):=ha
     obtain⟨rb,ro,hAe,-,hrb,hrange⟩:=hrow.range (fun _=>rfl) hk
     have hns:=HNS.out _ (getD_memF hk plc0)
     have i3:(0:Int)≤(k:Int):=by omega
     have i4:(k:Int)<(L.length:Int):=by omega
     obtain⟨y,hy⟩:∃y,y=L.getD k plc0:=⟨_,rfl⟩
     rw[←hy] at hc ha hrange hns
     obtain⟨⟨⟨t2,r2⟩,n2⟩,⟨⟨u2,v2⟩,i2⟩,m2,d2⟩:=y
     have hm2:m2.size≤1000:=hns
     obtain⟨M,hM⟩:∃M,M=nameN L (⟨⟨⟨t2,r2⟩,n2⟩,⟨⟨u2,v2⟩,i2⟩,m2,d2⟩:Plc):=⟨_,rfl⟩
     have hms:M.size≤1061:=by rw[hM];have h:=nameN_size L (⟨⟨⟨t2,r2⟩,n2⟩,⟨⟨u2,v2⟩,i2⟩,m2,d2⟩:Plc);have h2:(⟨⟨⟨t2,r2⟩,n2⟩,⟨⟨u2,v2⟩,i2⟩,m2,d2⟩:Plc).name.size≤1000:=hm2;omega
     rw[←hM] at ha
     have HNM:=hid (fun W (hB:Below xb w00 W)=>show Calls Tryz.prog 197 #[.slice A L.length c,.agg #[.int .i64 t2,.int .i64 r2,.int .i64 n2,.int .i64 u2,.int .i64 v2,.int .i64 i2,.string m2,.bool d2]] W fun e w'=>e= .returned (.string M)∧Below W.heap.size W w' from by rw[hM];exact name15_any L A c t2 r2 n2 u2 v2 i2 m2 d2 S W hl (by omega) (HR.out.below (by rw[HXB.out];exact hB)))
     have HRW:=hid (fun W (hB:Below wr.heap.size wr W)=>show W.rangeAt rb (ro+k*8) [.int .i64 t2,.int .i64 r2,.int .i64 n2,.int .i64 u2,.int .i64 v2,.int .i64 i2,.string m2,.bool d2] from rangeB hrange hrb hB)
     have HC2:=hid hc
     have HPC:=hid (show(#[.int .i64 t2,.int .i64 r2,.int .i64 n2,.int .i64 u2,.int .i64 v2,.int .i64 i2,.string m2,.bool d2]:Array Value).toList.all (·.oneCell')=true from rfl)
     have HA3:=hid ha
     have HMS:=hid (show((⟨#[47]⟩:ByteArray)++M++T).size=1+M.size+T.size by simp only[ByteArray.size_append];rfl)
     subst hAe
     clear hb0 hc ha hfd9 hrow hfd hrange hrb hns hy hM HA HC
     go_upto_region 3 with(refine wpList_load_mid rfl _ _ rfl xb 3 rfl [.int .i64 pt,.int .i64 pr,.int .i64 pi] _ HPR.out Tryz.underlying108 rfl (by kernel_rfl) ?_)
     go_upto_region 4 with(first
      |(refine wpList_load_mid rfl _ _ rfl xb 3 rfl [.int .i64 pt,.int .i64 pr,.int .i64 pi] _ HPR.out Tryz.underlying108 rfl (by kernel_rfl) ?_)
      |(go_at_call 169;refine HFD.out.mono ?_;rintro e w2 ⟨rfl,hB2⟩;have HX2:=hid ((hB2.block _ (lt_of_block HX.out)).trans HX.out);have HB2:=hid (HBr.out.trans (hB2.mono hxr));have hx2:=Nat.le_trans hxr hB2.size;have HRX:=hid (HRW.out w2 hB2);obtain⟨V,hV⟩:∃V,V=w2.setRow xb #[.int .i64 t2,.int .i64 r2,.int .i64 n2,.int .i64 u2,.int .i64 v2,.int .i64 i2,.string m2,.bool d2]:=⟨_,rfl⟩;have HV:=hid hV;have HX3:=hid (show V.heap[xb]? =some (.cells #[.int .i64 t2,.int .i64 r2,.int .i64 n2,.int .i64 u2,.int .i64 v2,.int .i64 i2,.string m2,.bool d2] 161 (0,0)) by rw[hV];exact heap_setRow_same _ HX2.out);have HB3:=hid (show Below xb w00 V by rw[hV];exact Below.setRow' HB2.out (Nat.le_refl _) _);have hx3:xb≤V.heap.size:=(by rw[hV];simpa[World.setRow] using hx2);clear hB2 hV;dsimp only[ixI])
      |(refine wpList_load_mid rfl _ _ rfl rb (ro+k*8) rfl [.int .i64 t2,.int .i64 r2,.int .i64 n2,.int .i64 u2,.int .i64 v2,.int .i64 i2,.string m2,.bool d2] _ HRX.out Tryz.underlying161 rfl (by kernel_rfl) ?_)
      |(refine store_at rfl _ _ _ rfl xb 161 #[.int .i64 nt,.int .i64 nr,.int .i64 ni,.int .i64 pt,.int .i64 pr,.int .i64 pi,.string nm,.bool dd] #[.int .i64 t2,.int .i64 r2,.int .i64 n2,.int .i64 u2,.int .i64 v2,.int .i64 i2,.string m2,.bool d2] rfl rfl HX2.out (by kernel_rfl) rfl HPC.out ?_;rw[←HV.out]))
     go_wp2_with (first
      |(refine load_at rfl _ _ rfl xb _ _ _ rfl HX3.out Tryz.underlying161 rfl ?_ ?_;kernel_rfl)
      |(go_at_call 197;refine(HNM.out V HB3.out).mono ?_;rintro e w4 ⟨rfl,hB4⟩;have HX4:=hid ((hB4.block _ (lt_of_block HX3.out)).trans HX3.out);have HB4:=hid (HB3.out.trans (hB4.mono hx3));have hx4:=Nat.le_trans hx3 hB4.size;clear hB4))
     go_roundw
     case rel=>exact⟨f,(⟨⟨⟨t2,r2⟩,n2⟩,⟨⟨u2,v2⟩,i2⟩,m2,d2⟩:Plc),_,rfl,by omega,by rw[HMS.out];omega,hm2,HC2,HX4,HA3,HB4,hx4⟩
     case measure=>show 20000000-((⟨#[47]⟩:ByteArray)++M++T).size<20000000-T.size;rw[HMS.out];omega
def ltS (a b:ByteArray):Bool:=Op.bytesLess a.toList b.toList
def stepI (N:List Plc) (V:List Gid) (f0:Nat) (out:List Itm) (p:Plc):List Itm:=insB (fun y:Itm=>ltS (pathN N f0 p) y.path) itm0 out ⟨p.n,pathN N f0 p,p.dir,!(V.any (fun y=>y.eqb p.n))⟩
def itemsL (f0:Nat) (L:List Plc) (V:List Gid):List Itm:=(seenP L V).foldl (stepI (seenP L V) V f0) []
theorem seenP_len (L:List Plc) (V:List Gid):(seenP L V).length≤L.length:=Nat.le_trans (List.length_filter_le _ _) (rightP_len L)
theorem items15_any (L:List Plc) (A:Option Addr) (c:Nat) (V:List Gid) (vA:Option Addr) (vc f0:Nat) (S S2:Nat→Prop) (w00:World) (hl:L.length≤100000) (hv:V.length≤100000) (hnm:∀p∈L,p.name.size≤1000) (hsn:∀p∈seenP L V,p.name.size≤1000∧climbs (seenP L V) f0 p=true) (hf0:f0≤10000) (hR:RowF w00 S A 8 plcL plc0 L) (hV:RowF w00 S2 vA 3 idL Gid.zero V):
  Calls Tryz.prog 112 #[.slice A L.length c,.slice vA V.length vc] w00 fun e w'=>∃A' c',e= .returned (.slice A' (itemsL f0 L V).length c')∧w'.ownsRow w00.heap.size 110 6 (.slice A' (itemsL f0 L V).length c') (itemsL f0 L V).length ((itemsL f0 L V).flatMap itmL)∧Below w00.heap.size w00 w':=by
 obtain⟨i0,hi,hz0,hz1,hz2⟩:=info_parts info_itm
 have HSE:=hid (seen15_any L A c V vA vc S S2 w00 hl hv (fun p hp=>Nat.le_trans (hnm p hp) (by decide)) hR hV)
 have HV0:=hid hV
 have hnl:=seenP_len L V
 obtain⟨N,hN⟩:∃N,N=seenP L V:=⟨_,rfl⟩
 obtain⟨R,hRd⟩:∃R,R=itemsL f0 L V:=⟨_,rfl⟩
 have HRR:=hid (show R=N.foldl (stepI N V f0) [] by rw[hRd,hN];rfl)
 rw[←hRd]
 rw[←hN] at HSE hnl hsn
 have HSN:=hid hsn
 clear hR hV hN hRd hnm hsn
 go_enter Tryz.func112,Tryz.ntmps112
 go_upto_region 4 with(go_at_call 171;refine HSE.out.mono ?_;rintro e w ⟨A1,c1,rfl,hown1,hB1⟩;have HN:=hid (ownN_rowF (f:=plcL) (z:=plc0) (fun _=>rfl) rfl hown1);have HB1:=hid hB1;have HV:=hid (HV0.out.below hB1);clear hown1 hB1)
 go_loopw [6,7] (fun o i wr=>∃(k:Nat) (A':Option Addr) (c' m:Nat) (M:List Itm),k≤N.length∧i= .int .i64 k∧o= .slice A' m c'∧m≤k∧Hid (m=M.length)∧Hid (M=(N.take k).foldl (stepI N V f0) [])∧Hid (wr.ownsRow w.heap.size 110 6 (.slice A' m c') m (M.flatMap itmL))∧Hid (Below w.heap.size w wr)) (fun o i _=>N.length-(RowKit.intOf i).toNat)
 case atStart=>exact⟨0,none,0,0,[],Nat.zero_le _,rfl,rfl,Nat.le_refl _,hid rfl,hid rfl,hid (World.ownsRow_nil w w.heap.size 110 6),hid (Below.refl _ _)⟩
 case round=>
  obtain⟨k,A',c',m,M,hk,rfl,rfl,hmk,HML,HM,HO,HBr⟩:=hrel
  by_cases hlt:k<N.length
  ·have i1:(0:Int)≤(k:Int):=by omega
   have i2:(k:Int)<(N.length:Int):=by omega
   obtain⟨rb,ro,hAe,-,hrb,hrange⟩:=HN.out.range (fun _=>rfl) hlt
   have hst:((N.take (k+1)).foldl (stepI N V f0) [])=stepI N V f0 M (N.getD k plc0):=by rw[HM.out];exact foldl_take _ _ hlt plc0
   have hsp:=HSN.out _ (getD_memF hlt plc0)
   obtain⟨p,hp⟩:∃p,p=N.getD k plc0:=⟨_,rfl⟩
   rw[←hp] at hst hrange hsp
   obtain⟨⟨⟨nt,nr⟩,ni⟩,⟨⟨pt,pr⟩,pi⟩,nm,dd⟩:=p
   obtain⟨hs1,hs2⟩:=hsp
   have hsz:=HBr.out.size
   have hm63:m≤100000:=by omega
   obtain⟨Z,hZ⟩:∃Z,Z=pathN N f0 (⟨⟨⟨nt,nr⟩,ni⟩,⟨⟨pt,pr⟩,pi⟩,nm,dd⟩:Plc):=⟨_,rfl⟩
   obtain⟨bh,hbh⟩:∃b,b=V.any (fun y=>y.eqb ⟨⟨nt,nr⟩,ni⟩):=⟨_,rfl⟩
   have HS9:=hid (show((N.take (k+1)).foldl (stepI N V f0) [])=insB (fun y:Itm=>ltS Z y.path) itm0 M ⟨⟨⟨nt,nr⟩,ni⟩,Z,dd,!bh⟩ by rw[hst,hZ,hbh];rfl)
   have HPX:=hid (show wr.rangeAt rb (ro+k*8) [.int .i64 nt,.int .i64 nr,.int .i64 ni,.int .i64 pt,.int .i64 pr,.int .i64 pi,.string nm,.bool dd] from rangeB hrange hrb HBr.out)
   have HPA:=hid (fun W (hB:Below w.heap.size w W)=>show Calls Tryz.prog 172 #[.slice A1 N.length c1,.agg #[.int .i64 nt,.int .i64 nr,.int .i64 ni,.int .i64 pt,.int .i64 pr,.int .i64 pi,.string nm,.bool dd]] W fun e w'=>e= .returned (.string Z)∧Below W.heap.size W w' from by rw[hZ];exact path15_any N A1 c1 f0 nt nr ni pt pr pi nm dd _ W (by omega) (fun p hp=>(HSN.out p hp).1) hs1 hf0 hs2 (HN.out.below hB))
   have HHA:=hid (fun W (hB:Below w.heap.size w W)=>show Calls Tryz.prog 173 #[.slice vA V.length vc,.agg #[.int .i64 nt,.int .i64 nr,.int .i64 ni]] W fun e w'=>e= .returned (.bool bh)∧Below W.heap.size W w' from by rw[hbh];exact hasid_any V vA vc ⟨⟨nt,nr⟩,ni⟩ S2 W (by omega) (HV.out.below hB))
   have HAE:=hid hAe
   have hb1:=HAE.out
   clear hst hrange hrb hp hs1 hs2 hZ hbh hb1
   go_upto_region 6 with fail
   rw[hAe]
   go_upto_region 7 with(first
    |(refine wpList_load_mid rfl _ _ rfl rb (ro+k*8) rfl [.int .i64 nt,.int .i64 nr,.int .i64 ni,.int .i64 pt,.int .i64 pr,.int .i64 pi,.string nm,.bool dd] _ HPX.out Tryz.underlying161 rfl (by kernel_rfl) ?_)
    |(refine store_last rfl _ _ _ rfl _ _ _ _ rfl ?_ rfl ?_ ?_ ?_ ?_;(focus(simp;done));kernel_rfl;rfl;rfl))
   rw[←hAe]
   have hba:=HBr.out.alloc hsz (.cells #[.int .i64 nt,.int .i64 nr,.int .i64 ni,.int .i64 pt,.int .i64 pr,.int .i64 pi,.string nm,.bool dd] 161)
   have hbx:Below wr.heap.size wr (wr.alloc (.cells #[.int .i64 nt,.int .i64 nr,.int .i64 ni,.int .i64 pt,.int .i64 pr,.int .i64 pi,.string nm,.bool dd] 161)):=(Below.refl _ _).alloc (Nat.le_refl _) _
   have HCX:=hid (heap_alloc_new wr (.cells #[.int .i64 nt,.int .i64 nr,.int .i64 ni,.int .i64 pt,.int .i64 pr,.int .i64 pi,.string nm,.bool dd] 161))
   have NPB:=hid (show(Value.slice A' m c').ownBlock≠some wr.heap.size from fun e=>by have:=(HO.out.lt _ e).2;omega)
   generalize hW:wr.alloc (.cells #[.int .i64 nt,.int .i64 nr,.int .i64 ni,.int .i64 pt,.int .i64 pr,.int .i64 pi,.string nm,.bool dd] 161)=W at *
   have HBW:=hid hba
   have HOW:=hid (HO.out.kept (gby_below (r:=none) hbx) (Classical.em _))
   have HBD:=hid (show Below w.heap.size w W.drew from hba.trans ⟨rfl,rfl,rfl,Nat.le_refl _,fun _ _=>rfl⟩)
   generalize hpb:wr.heap.size=pB at *
   have hpD:pB<W.drew.heap.size:=lt_of_block HCX.out
   clear hW hba hbx hpb HO HBr hAe
   refine wp_region_held (S:=fun W'=>W'.heap[pB]? =some (.cells #[.int .i64 nt,.int .i64 nr,.int .i64 ni,.int .i64 pt,.int .i64 pr,.int .i64 pi,.string nm,.bool dd] 161 (0,0))) (by kernel_rfl) ?_
   try(change wpAnyH _ _ _ _ _ _ _ _ (World.drew _))
   refine tk 0 (.slice A' m c') ((show W.drew.heap[pB]? =_ from HCX.out)) ?_
   go_simp
   refine tk 1 (.pointer (some ⟨pB,0,none⟩)) ((show W.drew.heap[pB]? =_ from HCX.out)) ?_
   go_simp
   refine wpAnyH_take (i:=2) (v:= .agg #[.int .i64 nt,.int .i64 nr,.int .i64 ni]) rfl (by kernel_rfl) (by kernel_rfl) (by kernel_rfl) (fun _ _ _ h=>h) (yieldsIf_load_mid (by rfl) _ _ rfl pB (0) rfl [.int .i64 nt,.int .i64 nr,.int .i64 ni] _ (fun W' hW'=>range_mid (pre:=[]) (mid:=[.int .i64 nt,.int .i64 nr,.int .i64 ni]) (post:=[.int .i64 pt,.int .i64 pr,.int .i64 pi,.string nm,.bool dd]) (range_of_block hW')) Tryz.underlying108 rfl (by kernel_rfl)) ((show W.drew.heap[pB]? =_ from HCX.out)) ?_
   go_simp
   refine tk 3 (.slice A1 N.length c1) ((show W.drew.heap[pB]? =_ from HCX.out)) ?_
   go_simp
   refine wpAnyH_take (i:=4) (v:= .agg #[.int .i64 nt,.int .i64 nr,.int .i64 ni,.int .i64 pt,.int .i64 pr,.int .i64 pi,.string nm,.bool dd]) rfl (by kernel_rfl) (by kernel_rfl) (by kernel_rfl) (fun _ _ _ h=>h) (yieldsIf_load_mid (by rfl) _ _ rfl pB (0) rfl [.int .i64 nt,.int .i64 nr,.int .i64 ni,.int .i64 pt,.int .i64 pr,.int .i64 pi,.string nm,.bool dd] _ (fun W' hW'=>range_mid (pre:=[]) (mid:=[.int .i64 nt,.int .i64 nr,.int .i64 ni,.int .i64 pt,.int .i64 pr,.int .i64 pi,.string nm,.bool dd]) (post:=[]) (range_of_block hW')) Tryz.underlying161 rfl (by kernel_rfl)) ((show W.drew.heap[pB]? =_ from HCX.out)) ?_
   go_simp
   refine tk 6 (.pointer (some ⟨pB,7,none⟩)) ((show W.drew.heap[pB]? =_ from HCX.out)) ?_
   go_simp
   refine wpAnyH_take (i:=7) (v:= .bool dd) rfl (by kernel_rfl) (by kernel_rfl) (by kernel_rfl) (fun _ _ _ h=>h) (Or.inl ⟨by rfl,fun W' hW'=>by(have c_:W'.cell? ⟨pB,7,none⟩=some (.bool dd):=cell_of_row _ _ _ _ _ _ hW';go_simp)⟩) ((show W.drew.heap[pB]? =_ from HCX.out)) ?_
   go_simp
   refine tk 8 (.slice vA V.length vc) ((show W.drew.heap[pB]? =_ from HCX.out)) ?_
   go_simp
   refine tk 9 (.pointer (some ⟨pB,0,none⟩)) ((show W.drew.heap[pB]? =_ from HCX.out)) ?_
   go_simp
   refine wpAnyH_take (i:=10) (v:= .agg #[.int .i64 nt,.int .i64 nr,.int .i64 ni]) rfl (by kernel_rfl) (by kernel_rfl) (by kernel_rfl) (fun _ _ _ h=>h) (yieldsIf_load_mid (by rfl) _ _ rfl pB (0) rfl [.int .i64 nt,.int .i64 nr,.int .i64 ni] _ (fun W' hW'=>range_mid (pre:=[]) (mid:=[.int .i64 nt,.int .i64 nr,.int .i64 ni]) (post:=[.int .i64 pt,.int .i64 pr,.int .i64 pi,.string nm,.bool dd]) (range_of_block hW')) Tryz.underlying108 rfl (by kernel_rfl)) ((show W.drew.heap[pB]? =_ from HCX.out)) ?_
   go_simp
   refine wpAnyH_ready (rs:=[5]) (by kernel_rfl) (by simp) ?_
   refine AllReadyH.cons rfl (fun K hK=> ?_) AllReadyH.nil
   go_simp
   refine(HPA.out W.drew HBD.out).mono ?_
   rintro e wa ⟨rfl,hBa⟩
   have HBa:=hid (HBD.out.trans (hBa.mono HBD.out.size))
   have HCa:=hid ((hBa.block pB hpD).trans HCX.out)
   have HOa:=hid (HOW.out.kept (gby_below (r:=none) (show Below W.heap.size W wa from⟨hBa.os,hBa.tape,hBa.output,hBa.size,hBa.block⟩)) (Classical.em _))
   clear hBa
   go_simp
   refine hK.out _ _ (HCa.out) (fun _=> ?_)
   clear hK K
   refine wpAnyH_ready (rs:=[11]) (by kernel_rfl) (by simp) ?_
   refine AllReadyH.cons rfl (fun K hK=> ?_) AllReadyH.nil
   go_simp
   refine(HHA.out wa HBa.out).mono ?_
   rintro e wr ⟨rfl,hBb⟩
   have HBb:=hid (HBa.out.trans (hBb.mono HBa.out.size))
   have HCb:=hid ((hBb.block pB (lt_of_block HCa.out)).trans HCa.out)
   have HOb:=hid (HOa.out.kept (gby_below (r:=none) hBb) (Classical.em _))
   clear hBb
   go_simp
   refine hK.out _ _ (HCb.out) (fun _=> ?_)
   clear hK K
   refine tk 12 (.bool (!bh)) (HCb.out) ?_
   go_simp
   refine tk 13 (.agg #[.int .i64 nt,.int .i64 nr,.int .i64 ni,.string Z,.bool dd,.bool (!bh)]) (HCb.out) ?_
   go_simp
   have hsA:(wr.alloc (.cells #[.int .i64 nt,.int .i64 nr,.int .i64 ni,.string Z,.bool dd,.bool (!bh)] 110)).heap.size=wr.heap.size+1:=by simp
   have HDN:=hid (HOb.out.alloc (.cells #[.int .i64 nt,.int .i64 nr,.int .i64 ni,.string Z,.bool dd,.bool (!bh)] 110))
   have HNC:=hid (fun (i:Nat) (y:Value) (h:([.int .i64 nt,.int .i64 nr,.int .i64 ni,.string Z,.bool dd,.bool (!bh)]:List Value)[i]? =some y)=>cellsN wr [.int .i64 nt,.int .i64 nr,.int .i64 ni,.string Z,.bool dd,.bool (!bh)] 110 i y h)
   have HOC:=hid (show ∀u∈([.int .i64 nt,.int .i64 nr,.int .i64 ni,.string Z,.bool dd,.bool (!bh)]:List Value),u.oneCell'=true from oc_of (c:=#[.int .i64 nt,.int .i64 nr,.int .i64 ni,.string Z,.bool dd,.bool (!bh)]) rfl)
   have HBA:=hid (HBb.out.alloc HBb.out.size (.cells #[.int .i64 nt,.int .i64 nr,.int .i64 ni,.string Z,.bool dd,.bool (!bh)] 110))
   have HCA:=hid ((Below.heap_alloc wr (.cells #[.int .i64 nt,.int .i64 nr,.int .i64 ni,.string Z,.bool dd,.bool (!bh)] 110) pB (lt_of_block HCb.out)).trans HCb.out)
   refine wpAnyH_ready (rs:=[14]) (by kernel_rfl) (by simp) ?_
   refine AllReadyH.cons rfl (fun K hK=> ?_) AllReadyH.nil
   go_simp
   refine hK.out _ _ (HCA.out) (fun _=> ?_)
   clear hK K
   refine wpAnyH_ready (rs:=[15]) (by kernel_rfl) (by simp) ?_
   refine AllReadyH.cons rfl (fun K hK=> ?_) AllReadyH.nil
   refine step_append_lies _ (by rfl) _ _ 103 (by rfl) w.heap.size 110 i0 (.agg #[.int .i64 0,.int .i64 0,.int .i64 0,.string ⟨#[]⟩,.bool false,.bool false]) 6 48 Tryz.underlying103 hi hz0 hz1 hz2 rfl (by decide) (.slice A' m c') m _ (by rfl) (by exact HDN.out) ⟨wr.heap.size,0,none⟩ 1 1 [.int .i64 nt,.int .i64 nr,.int .i64 ni,.string Z,.bool dd,.bool (!bh)] (by rfl) (by rfl) (by exact HNC.out) HOC.out (by decide) (by unfold maxLen;omega) (by omega) (by rw[hsA];have:=HBb.out.size;omega) (wr.heap.size+1) hsA ?_
   intro gq cap w5 hown1 hgrow hat hlt3
   have HO5:=hid hown1
   have HB5:=hid (HBA.out.grown hgrow (by rw[hsA];have:=HBb.out.size;omega) (fun b hb=>(HOb.out.lt b hb).1))
   have HC5:=hid ((hgrow.block pB (by rw[hsA];have:=lt_of_block HCb.out;omega) (fun e=>NPB.out e.symm)).trans HCA.out)
   clear hown1 hgrow hat hlt3
   refine hK.out _ _ (HC5.out) (fun _=> ?_)
   clear hK K
   refine tk 16 (.slice (some ⟨gq,0,none⟩) (m+1) cap) (HC5.out) ?_
   go_simp
   refine wpAnyH_done (by kernel_rfl) ?_ _
   go_simp
   go_upto_region 9 with fail
   clear HPX HPA HHA HBD HBa HCa HOa HBb HCb HOb HDN HNC HOC HBA HCA hsA HC5 HCX HBW HOW NPB hpD
   have hs9:slid M (⟨⟨⟨nt,nr⟩,ni⟩,Z,dd,!bh⟩:Itm) m=M++[⟨⟨⟨nt,nr⟩,ni⟩,Z,dd,!bh⟩]:=by rw[HML.out];exact slid_end _ _
   have HO6:=hid (show w5.ownsRow w.heap.size 110 6 (.slice (some ⟨gq,0,none⟩) (m+1) cap) (m+1) ((slid M (⟨⟨⟨nt,nr⟩,ni⟩,Z,dd,!bh⟩:Itm) m).flatMap itmL) by rw[hs9,List.flatMap_append];exact HO5.out)
   clear hs9 HO5
   generalize w5=w6 at *
   go_loopw [9] (fun i wx=>∃(q:Nat),i= .int .i64 q∧q≤m∧Hid (insIx (fun y:Itm=>ltS Z y.path) itm0 M q=insIx (fun y:Itm=>ltS Z y.path) itm0 M M.length)∧Hid (wx.ownsRow w.heap.size 110 6 (.slice (some ⟨gq,0,none⟩) (m+1) cap) (m+1) ((slid M (⟨⟨⟨nt,nr⟩,ni⟩,Z,dd,!bh⟩:Itm) q).flatMap itmL))∧Hid (Below w.heap.size w wx)) (fun i _=>(RowKit.intOf i).toNat)
   case atStart=>exact⟨m,rfl,Nat.le_refl _,hid (by rw[HML.out]),HO6,HB5⟩
   case round=>
    obtain⟨q,rfl,hq,HIX,HOq,HBq⟩:=hrel
    by_cases h0:0<q
    ·obtain⟨q,rfl⟩:∃p,q=p+1:=⟨q-1,by omega⟩
     have hqm:q+1≤M.length:=by rw[←HML.out];exact hq
     have hl1:m+1=(slid M (⟨⟨⟨nt,nr⟩,ni⟩,Z,dd,!bh⟩:Itm) (q+1)).length:=by rw[slid_len,←HML.out]
     obtain⟨g3,e3,-,hg3,hr3⟩:=ownN_range (f:=itmL) (fun _=>rfl) hl1 HOq.out (k:=q) (by omega) itm0
     cases e3
     obtain⟨g4,e4,-,-,hr4⟩:=ownN_range (f:=itmL) (fun _=>rfl) hl1 HOq.out (k:=q+1) (by omega) itm0
     cases e4
     rw[slid_pre hqm] at hr3
     rw[slid_at hqm] at hr4
     have hsw:=slid_swap (L:=M) (x:=(⟨⟨⟨nt,nr⟩,ni⟩,Z,dd,!bh⟩:Itm)) (z:=itm0) hqm
     obtain⟨y,hy⟩:∃y,y=M.getD q itm0:=⟨_,rfl⟩
     rw[←hy] at hr3 hsw
     obtain⟨b2,hb2⟩:∃b,b=(fun y:Itm=>ltS Z y.path) y:=⟨_,rfl⟩
     have HPY:=hid (show(fun y:Itm=>ltS Z y.path) (M.getD q itm0)=b2 by rw[←hy,hb2])
     clear hy
     obtain⟨⟨⟨t2,r2⟩,n2⟩,z2,d2,bk2⟩:=y
     have HR3:=hid (show wr.rangeAt gq (q*6) [.int .i64 t2,.int .i64 r2,.int .i64 n2,.string z2,.bool d2,.bool bk2] from hr3)
     have HR4:=hid (show wr.rangeAt gq ((q+1)*6) [.int .i64 nt,.int .i64 nr,.int .i64 ni,.string Z,.bool dd,.bool (!bh)] from hr4)
     have y3:=cell_regrown (w:=wr) (a:=⟨gq,q*6+3,none⟩) (v:= .string z2) (hr3 3 _ rfl)
     have x3:=cell_regrown (w:=wr) (a:=⟨gq,(q+1)*6+3,none⟩) (v:= .string Z) (hr4 3 _ rfl)
     have HSW:=hid hsw
     have k1:(0:Int)<(q:Int)+1:=by omega
     have k2:(0:Int)≤(q:Int):=by omega
     have k3:(q:Int)<(m:Int)+1:=by omega
     have k4:(q:Int)+1<(m:Int)+1:=by omega
     have k5:(0:Int)≤(q:Int)+1:=by omega
     have k6:IntKind.i64.wrap (q:Int)=(q:Int):=by rw[IntKind.wrap_i64];omega
     have HL1:=hid hl1
     have q2:Op.bytesLess Z.toList z2.toList=b2:=hb2.symm
     have cA:=trivial
     clear hr3 hr4 hb2 hsw hl1
     cases b2 with
     |false=>
      go_upto_region 9 with fail
      refine rqb ?_
      repeat(any_goals(first|go_big_quiet_step (with_reducible exact cA _ _)|quiet_step (with_reducible exact cA _ _)))
      refine qz fun wq hBq=> ?_
      have HS8:=hid (show((N.take (k+1)).foldl (stepI N V f0) [])=slid M (⟨⟨⟨nt,nr⟩,ni⟩,Z,dd,!bh⟩:Itm) (q+1) by rw[HS9.out];unfold insB;rw[←HIX.out,insIx_stop (.inr ⟨q,rfl,HPY.out⟩)])
      have HOx:=hid (HOq.out.kept (gby_below (r:=none) hBq) (Classical.em _))
      have HBx:=hid (HBq.out.trans (hBq.mono HBq.out.size))
      go_wp2
      go_roundw
      case rel=>exact⟨k+1,some ⟨gq,0,none⟩,cap,m+1,_,by omega,by go_num,rfl,by omega,HL1,hid HS8.out.symm,HOx,HBx⟩
      case measure=>(simp[RowKit.intOf];omega)
     | true=>
      go_upto_region 9 with fail
      refine rqb ?_
      repeat(any_goals(first|go_big_quiet_step (with_reducible exact cA _ _)|quiet_step (with_reducible exact cA _ _)))
      refine qz fun wq hBq=> ?_
      have HIX2:=hid (show insIx (fun y:Itm=>ltS Z y.path) itm0 M q=insIx (fun y:Itm=>ltS Z y.path) itm0 M M.length by rw[←HIX.out,insIx_go HPY.out])
      have HR3q:=hid (rangeB HR3.out hg3 hBq)
      have HR4q:=hid (rangeB HR4.out hg3 hBq)
      have HOq2:=hid (HOq.out.kept (gby_below (r:=none) hBq) (Classical.em _))
      have HBq2:=hid (HBq.out.trans (hBq.mono HBq.out.size))
      clear y3 x3 cA HOq hBq
      go_upto_region 11 with fail
      obtain⟨V1,hV1⟩:∃V,V=wq.drew.setCells gq ((q+1)*6) (#[.int .i64 t2,.int .i64 r2,.int .i64 n2,.string z2,.bool d2,.bool bk2]:Array Value).toList:=⟨_,rfl⟩
      have hP1:V1.ownsRow w.heap.size 110 6 (.slice (some ⟨gq,0,none⟩) (m+1) cap) (m+1) (((slid M (⟨⟨⟨nt,nr⟩,ni⟩,Z,dd,!bh⟩:Itm) (q+1)).set (q+1) (⟨⟨⟨t2,r2⟩,n2⟩,z2,d2,bk2⟩:Itm)).flatMap itmL)∧wq.drew.grownBy V1 (some gq):=by rw[hV1];exact ownN_put (f:=itmL) (fun _=>rfl) (by decide) HL1.out (show wq.drew.ownsRow _ _ _ _ _ _ from HOq2.out) (by omega) (⟨⟨⟨t2,r2⟩,n2⟩,z2,d2,bk2⟩:Itm)
      obtain⟨V2,hV2⟩:∃V,V=V1.setCells gq (q*6) (#[.int .i64 nt,.int .i64 nr,.int .i64 ni,.string Z,.bool dd,.bool (!bh)]:Array Value).toList:=⟨_,rfl⟩
      have hP2:V2.ownsRow w.heap.size 110 6 (.slice (some ⟨gq,0,none⟩) (m+1) cap) (m+1) ((((slid M (⟨⟨⟨nt,nr⟩,ni⟩,Z,dd,!bh⟩:Itm) (q+1)).set (q+1) (⟨⟨⟨t2,r2⟩,n2⟩,z2,d2,bk2⟩:Itm)).set q (⟨⟨⟨nt,nr⟩,ni⟩,Z,dd,!bh⟩:Itm)).flatMap itmL)∧V1.grownBy V2 (some gq):=by rw[hV2];exact ownN_put (f:=itmL) (fun _=>rfl) (by decide) (by rw[List.length_set];exact HL1.out) hP1.1 (by omega) (⟨⟨⟨nt,nr⟩,ni⟩,Z,dd,!bh⟩:Itm)
      obtain⟨g5,e5,ht5⟩:=own_there (show wq.drew.ownsRow _ _ _ _ _ _ from HOq2.out) (k:=q+1) (by omega)
      cases e5
      obtain⟨g6,e6,ht6⟩:=own_there hP1.1 (k:=q) (by omega)
      cases e6
      have HP2:=hid hP2.1
      have HG2:=hid (show wq.heap.size≤V2.heap.size∧(Below w.heap.size w wq→w.heap.size≤gq→Below w.heap.size w V2) from⟨Nat.le_trans (show wq.drew.heap.size≤V1.heap.size from hP1.2.size) hP2.2.size,fun hb hl=>(hb.drew.grown hP1.2 (by exact hb.size) (fun b e=>by cases e;exact hl)).grown hP2.2 (Nat.le_trans hb.size (show wq.drew.heap.size≤V1.heap.size from hP1.2.size)) (fun b e=>by cases e;exact hl)⟩)
      have HV1:=hid hV1
      have HV2:=hid hV2
      have HT5:=hid ht5
      have HT6:=hid ht6
      have HAY:=hid (show(#[.int .i64 t2,.int .i64 r2,.int .i64 n2,.string z2,.bool d2,.bool bk2]:Array Value).all (·.oneCell')=true by rw[←Array.all_toList];rfl)
      have HAX:=hid (show(#[.int .i64 nt,.int .i64 nr,.int .i64 ni,.string Z,.bool dd,.bool (!bh)]:Array Value).all (·.oneCell')=true by rw[←Array.all_toList];rfl)
      clear hP1 hP2 hV1 hV2 ht5 ht6
      refine wp_region_held (S:=fun _=>True) (by kernel_rfl) ?_
      try(change wpAnyH _ _ _ _ _ _ _ _ (World.drew _))
      refine tk 0 (.slice (some ⟨gq,0,none⟩) (m+1) cap) (trivial) ?_
      go_simp
      refine tk 1 (.int .i64 ((q:Int)+1)) (trivial) ?_
      go_simp
      refine tk 2 (.slice (some ⟨gq,0,none⟩) (m+1) cap) (trivial) ?_
      go_simp
      refine tk 3 (.int .i64 ((q:Int)+1)) (trivial) ?_
      go_simp
      refine tk 4 (.int .i64 (q:Int)) (trivial) ?_
      go_simp
      refine tk 5 (.slice (some ⟨gq,0,none⟩) (m+1) cap) (trivial) ?_
      go_simp
      refine tk 6 (.int .i64 ((q:Int)+1)) (trivial) ?_
      go_simp
      refine tk 7 (.int .i64 (q:Int)) (trivial) ?_
      go_simp
      refine tk 8 (.pointer (some ⟨gq,q*6,none⟩)) (trivial) ?_
      go_simp
      refine tk 10 (.slice (some ⟨gq,0,none⟩) (m+1) cap) (trivial) ?_
      go_simp
      refine tk 11 (.int .i64 ((q:Int)+1)) (trivial) ?_
      go_simp
      refine tk 12 (.pointer (some ⟨gq,(q+1)*6,none⟩)) (trivial) ?_
      go_simp
      refine wpAnyH_ready (rs:=[9,13]) (by kernel_rfl) (by simp) ?_
      refine AllReadyH.cons rfl (fun K hK=> ?_) (AllReadyH.cons rfl (fun K hK=> ?_) AllReadyH.nil)
      focus
       refine step_load_mid rfl _ _ rfl gq (q*6) rfl [.int .i64 t2,.int .i64 r2,.int .i64 n2,.string z2,.bool d2,.bool bk2] _ (show wq.drew.rangeAt _ _ _ from HR3q.out) Tryz.underlying110 rfl (by kernel_rfl) ?_
       refine hK.out _ _ (trivial) (fun _=> ?_)
       clear hK K
       refine wpAnyH_ready (rs:=[13]) (by kernel_rfl) (by simp) ?_
       refine AllReadyH.cons rfl (fun K hK=> ?_) AllReadyH.nil
       refine step_load_mid rfl _ _ rfl gq ((q+1)*6) rfl [.int .i64 nt,.int .i64 nr,.int .i64 ni,.string Z,.bool dd,.bool (!bh)] _ (show wq.drew.rangeAt _ _ _ from HR4q.out) Tryz.underlying110 rfl (by kernel_rfl) ?_
       refine hK.out _ _ (trivial) (fun _=> ?_)
       clear hK K
      rotate_left
      focus
       refine step_load_mid rfl _ _ rfl gq ((q+1)*6) rfl [.int .i64 nt,.int .i64 nr,.int .i64 ni,.string Z,.bool dd,.bool (!bh)] _ (show wq.drew.rangeAt _ _ _ from HR4q.out) Tryz.underlying110 rfl (by kernel_rfl) ?_
       refine hK.out _ _ (trivial) (fun _=> ?_)
       clear hK K
       refine wpAnyH_ready (rs:=[9]) (by kernel_rfl) (by simp) ?_
       refine AllReadyH.cons rfl (fun K hK=> ?_) AllReadyH.nil
       refine step_load_mid rfl _ _ rfl gq (q*6) rfl [.int .i64 t2,.int .i64 r2,.int .i64 n2,.string z2,.bool d2,.bool bk2] _ (show wq.drew.rangeAt _ _ _ from HR3q.out) Tryz.underlying110 rfl (by kernel_rfl) ?_
       refine hK.out _ _ (trivial) (fun _=> ?_)
       clear hK K
      all_goals
       refine tk 14 (.pointer (some ⟨gq,(q+1)*6,none⟩)) (trivial) ?_
       go_simp
       refine wpAnyH_ready (rs:=[15]) (by kernel_rfl) (by simp) ?_
       refine AllReadyH.cons rfl (fun K hK=> ?_) AllReadyH.nil
       refine step_store_mid rfl _ _ _ rfl gq ((q+1)*6) #[.int .i64 t2,.int .i64 r2,.int .i64 n2,.string z2,.bool d2,.bool bk2] (by rfl) (by rfl) HT5.out (by kernel_rfl) HAY.out ?_
       rw[←HV1.out]
       refine hK.out _ _ (trivial) (fun _=> ?_)
       clear hK K
       refine tk 16 (.pointer (some ⟨gq,q*6,none⟩)) (trivial) ?_
       go_simp
       refine wpAnyH_ready (rs:=[17]) (by kernel_rfl) (by simp) ?_
       refine AllReadyH.cons rfl (fun K hK=> ?_) AllReadyH.nil
       refine step_store_mid rfl _ _ _ rfl gq (q*6) #[.int .i64 nt,.int .i64 nr,.int .i64 ni,.string Z,.bool dd,.bool (!bh)] (by rfl) (by rfl) HT6.out (by kernel_rfl) HAX.out ?_
       rw[←HV2.out]
       refine hK.out _ _ (trivial) (fun _=> ?_)
       clear hK K
       refine wpAnyH_done (by kernel_rfl) ?_ _
       go_simp
       go_wp2
       go_roundw
       case rel=>exact⟨q,by go_num,by omega,HIX2,hid (by rw[←HSW.out];exact HP2.out),hid (HG2.out.2 HBq2.out (HOq2.out.lt gq rfl).1)⟩
       case measure=>(simp[RowKit.intOf];try omega)
    ·obtain rfl:q=0:=by omega
     go_upto_region 9 with fail
     refine rqb ?_
     repeat(any_goals(first|go_big_quiet_step (fail)|quiet_step (fail)))
     refine qz fun wq hBq=> ?_
     have HS8:=hid (show((N.take (k+1)).foldl (stepI N V f0) [])=slid M (⟨⟨⟨nt,nr⟩,ni⟩,Z,dd,!bh⟩:Itm) 0 by rw[HS9.out];unfold insB;rw[←HIX.out];rfl)
     have HL1:=hid (show m+1=(slid M (⟨⟨⟨nt,nr⟩,ni⟩,Z,dd,!bh⟩:Itm) 0).length by rw[slid_len,←HML.out])
     have HOx:=hid (HOq.out.kept (gby_below (r:=none) hBq) (Classical.em _))
     have HBx:=hid (HBq.out.trans (hBq.mono HBq.out.size))
     go_wp2
     go_roundw
     case rel=>exact⟨k+1,some ⟨gq,0,none⟩,cap,m+1,_,by omega,by go_num,rfl,by omega,HL1,hid HS8.out.symm,HOx,HBx⟩
     case measure=>(simp[RowKit.intOf];omega)
  ·obtain rfl:k=N.length:=by omega
   have i2:¬(N.length:Int)<(N.length:Int):=by omega
   have HM9:=hid (show M=R by rw[HRR.out];have h9:=HM.out;rw[List.take_length] at h9;exact h9)
   go_wp2
   go_ret
   refine⟨A',c',by rw[←HM9.out,←HML.out];rfl,?_,HB1.out.trans (HBr.out.mono HB1.out.size)⟩
   rw[←HM9.out,←HML.out];exact own_base HO.out HB1.out.size
end
section
open Go.RowKit Go.Lib Go.Sort
set_option linter.unusedVariables false
theorem pigeon:∀(n m:Nat) (f:Nat→Nat),(∀i,i<m→f i<n)→(∀i j,i<m→j<m→f i=f j→i=j)→m≤n
 |n,0,_,_,_=>Nat.zero_le _
 |0,m+1,f,h1,_=>absurd (h1 0 (Nat.succ_pos _)) (Nat.not_lt_zero _)
 | n +1,m+1,f,h1,h2=>by
  have h:=pigeon n m (fun i=>if f i=n then f m else f i) (fun i hi=>by
   have a:=h1 i (by omega)
   have b:=h1 m (by omega)
   show(if f i=n then f m else f i)<n
   split
   ·rename_i e
    have:f m≠n:=fun e2=>by have:=h2 i m (by omega) (by omega) (by rw[e,e2]);omega
    omega
   ·omega) (fun i j hi hj e=>by
   have e:(if f i=n then f m else f i)=(if f j=n then f m else f j):=e
   split at e
   ·rename_i e1
    split at e
    ·rename_i e2
     exact h2 i j (by omega) (by omega) (by rw[e1,e2])
    ·have:=h2 m j (by omega) (by omega) e;omega
   ·split at e
    ·have:=h2 i m (by omega) (by omega) e;omega
    ·exact h2 i j (by omega) (by omega) e)
  omega
def reach (N:List Plc):Nat→Gid→Prop
 |0,x=>x= .zero
 |m+1,x=>x≠ .zero∧∃k,findP N x=some k∧reach N m (N.getD k plc0).p
def ups (N:List Plc):Nat→Gid→Gid→Prop
 |0,x,y=>x=y
 |s+1,x,y=>∃k,findP N x=some k∧ups N s (N.getD k plc0).p y
theorem reach_one {N:List Plc}:∀{m m':Nat} {x:Gid},reach N m x→reach N m' x→m=m'
 |0,0,_,_,_=>rfl
 |0,m'+1,_,h,h'=>absurd h h'.1
 |m+1,0,_,h,h'=>absurd h' h.1
 |m+1,m'+1,x,⟨_,k,hk,h⟩,⟨_,k',hk',h'⟩=>by
  rw[hk] at hk';cases hk'
  rw[reach_one h h']
theorem reach_idx {N:List Plc}:∀{m:Nat} {x:Gid},reach N m x→∃g:Nat→Nat,∀i,i<m→∃y,reach N (m-i) y∧findP N y=some (g i)
 |0,_,_=>⟨fun _=>0,fun i hi=>absurd hi (Nat.not_lt_zero _)⟩
 | m+1,x,⟨hx,k,hk,h⟩=>by
  obtain⟨g,hg⟩:=reach_idx h
  refine⟨fun i=>match i with|0=>k|i+1=>g i,fun i hi=> ?_⟩
  cases i with
  |zero=>exact⟨x,⟨hx,k,hk,h⟩,hk⟩
  |succ i=>
   obtain⟨y,h1,h2⟩:=hg i (by omega)
   exact⟨y,by rw[show m+1-(i+1)=m-i by omega];exact h1,h2⟩
theorem reach_le {N:List Plc} {m:Nat} {x:Gid} (h:reach N m x):m≤N.length:=by
 obtain⟨g,hg⟩:=reach_idx h
 refine pigeon _ _ g (fun i hi=> ?_) (fun i j hi hj e=> ?_)
 ·obtain⟨y,_,h2⟩:=hg i hi
  exact(findP_lt h2).1
 ·obtain⟨y,h1,h2⟩:=hg i hi
  obtain⟨y',h1',h2'⟩:=hg j hj
  have e1:=(findP_lt h2).2
  have e2:=(findP_lt h2').2
  rw[e,e2] at e1
  rw[e1] at h1'
  have:=reach_one h1 h1'
  omega
theorem rooted_reach {N:List Plc} (hz:findP N .zero=none):∀(f:Nat) (x:Gid),rootedF N f x=true→∃m,reach N (m+1) x
 |0,_,h=>by cases h
 | f +1,x,h=>by
  rw[rootedF] at h
  cases hk:findP N x with
  |none=>rw[hk] at h;cases h
  | some k=>
   have hx:x≠ .zero:=fun e=>by rw[e,hz] at hk;cases hk
   rw[hk] at h
   simp only at h
   by_cases hp:(N.getD k plc0).p.eqb .zero=true
   ·exact⟨0,hx,k,hk,Gid.eqb_iff.1 hp⟩
   ·rw[if_neg hp] at h
    cases hk2:findP N (N.getD k plc0).p with
    |none=>rw[hk2] at h;cases h
    | some k2=>
     rw[hk2] at h
     simp only at h
     by_cases hd:(N.getD k2 plc0).dir=true
     ·rw[if_pos hd] at h
      obtain⟨m,hm⟩:=rooted_reach hz f _ h
      exact⟨m+1,hx,k,hk,hm⟩
     ·rw[if_neg hd] at h;cases h
theorem within_ups {N:List Plc} (hz:findP N .zero=none) {y:Gid} (hy:y≠ .zero):∀(f m:Nat) (x:Gid),m<f→reach N m x→withinF N y f x=true→∃s,ups N s x y
 |0,m,x,hm,_,_=>absurd hm (Nat.not_lt_zero _)
 | f +1,m,x,hm,hr,h=>by
  rw[withinF] at h
  by_cases e:x.eqb y=true
  ·exact⟨0,Gid.eqb_iff.1 e⟩
  ·rw[if_neg e] at h
   cases hk:findP N x with
   |none=>rw[hk] at h;cases h
   | some k=>
    rw[hk] at h
    cases m with
    |zero=>rw[show x= .zero from hr,hz] at hk;cases hk
    |succ m=>
     obtain⟨_,k',hk',hr'⟩:=hr
     rw[hk] at hk';cases hk'
     obtain⟨s,hs⟩:=within_ups hz hy f m _ (by omega) hr' h
     exact⟨s+1,k,hk,hs⟩
theorem ups_within {N:List Plc} {y:Gid}:∀(s f:Nat) (x:Gid),s<f→ups N s x y→withinF N y f x=true
 |_,0,_,h,_=>absurd h (Nat.not_lt_zero _)
 |0,f+1,x,_,h=>by rw[withinF,if_pos (Gid.eqb_iff.2 h)]
 |s+1,f+1,x,hs,⟨k,hk,h⟩=>by
  rw[withinF]
  split
  ·rfl
  ·rw[hk];exact ups_within s f _ (by omega) h
theorem ups_tail {N:List Plc} {y:Gid} {k:Nat} (hk:findP N y=some k):∀(s:Nat) (x:Gid),ups N s x y→ups N (s+1) x (N.getD k plc0).p
 |0,x,h=>by have h:x=y:=h;subst h;exact⟨k,hk,rfl⟩
 |s+1,x,⟨k',hk',h⟩=>⟨k',hk',ups_tail hk s _ h⟩
theorem ups_reach {N:List Plc} {y:Gid}:∀(s m:Nat) (x:Gid),(y≠ .zero→True)→reach N m x→findP N .zero=none→ups N s x y→∃r,r+s=m∧reach N r y
 |0,m,x,_,hr,_,h=>by have h:x=y:=h;subst h;exact⟨m,rfl,hr⟩
 |s+1,0,x,_,hr,hz,⟨k,hk,h⟩=>by rw[show x= .zero from hr,hz] at hk;cases hk
 |s+1,m+1,x,t,⟨_,k',hk',hr⟩,hz,⟨k,hk,h⟩=>by
  rw[hk] at hk';cases hk'
  obtain⟨r,e,h2⟩:=ups_reach s m _ t hr hz h
  exact⟨r,by omega,h2⟩
theorem findP_mem {S:List Plc} {p:Plc} (h:p∈S):∃k,findP S p.n=some k:=by
 cases e:findP S p.n with
 |some k=>exact⟨k,rfl⟩
 |none=>
  unfold findP at e
  rw[List.findIdx?_eq_none_iff] at e
  have:=e p h
  rw[show p.n.eqb p.n=true from Gid.eqb_iff.2 rfl] at this
  cases this
structure RightR (N:List Plc):Prop where
 one:∀p∈N,∀q∈N,p.n=q.n→p=q
 ok:∀p∈N,p.n.right=true∧nameB p.name=true
theorem RightR.step {N:List Plc} (h:RightR N) (p:Plc):RightR (stepR N p):=by
 unfold stepR
 split
 ·rename_i c
  simp only[Bool.and_eq_true] at c
  obtain⟨⟨c1,c2⟩,c3⟩:=c
  have hno:∀q∈N,q.n≠p.n:=fun q hq e=>by
   obtain⟨k,hk⟩:=findP_mem hq
   rw[e] at hk;rw[hk] at c3;cases c3
  refine⟨fun a ha b hb e=> ?_,fun a ha=> ?_⟩
  ·rcases List.mem_append.1 ha with ha|ha<;>rcases List.mem_append.1 hb with hb|hb
   ·exact h.one a ha b hb e
   ·rw[List.mem_singleton.1 hb] at e;exact absurd e (hno a ha)
   ·rw[List.mem_singleton.1 ha] at e;exact absurd e.symm (hno b hb)
   ·rw[List.mem_singleton.1 ha,List.mem_singleton.1 hb]
  ·rcases List.mem_append.1 ha with ha|ha
   ·exact h.ok a ha
   ·rw[List.mem_singleton.1 ha];exact⟨c1,c2⟩
 ·exact h
theorem RightR.fold:∀(l:List Plc) {N:List Plc},RightR N→RightR (l.foldl stepR N)
 | [],_,h=>h
 |p::l,_,h=>RightR.fold l (h.step p)
theorem rightP_ok (L:List Plc):RightR (rightP L):=RightR.fold L ⟨fun _ h=>absurd h List.not_mem_nil,fun _ h=>absurd h List.not_mem_nil⟩
theorem RightR.zero {N:List Plc} (h:RightR N):findP N .zero=none:=by
 cases e:findP N .zero with
 |none=>rfl
 |some k=>
  obtain⟨hk,h2⟩:=findP_lt e
  have:=(h.ok _ (getD_memF hk plc0)).1
  rw[h2] at this
  exact absurd this (by decide)
theorem climbs_seen {N:List Plc} {V:List Gid} (h:RightR N) {q:Plc} (hq:q∈N) (hv:V.any (fun y=>y.eqb q.n)=true) (hro:rooted N q.n=true) {m:Nat} (hm:reach N m q.n):
  ∀(r s f:Nat) (p:Plc),r+s=m→r≤f+1→p∈N→reach N r p.n→ups N s q.n p.n→climbs (N.filter (isSeen N V)) f p=true
 |0,s,f,p,_,_,hp,hr,_=>by
  have:=(h.ok p hp).1
  rw[show p.n= .zero from hr] at this
  exact absurd this (by decide)
 | r +1,s,f,p,hrs,hf,hp,⟨hx,k,hk,hr⟩,hu=>by
  obtain⟨hk1,hk2⟩:=findP_lt hk
  have hpk:N.getD k plc0=p:=h.one _ (getD_memF hk1 plc0) _ hp hk2
  rw[hpk] at hr
  by_cases hz:p.p.eqb .zero=true
  ·cases f with
   |zero=>exact hz
   |succ f=>rw[climbs,if_pos hz]
  ·cases r with
   |zero=>exact absurd (Gid.eqb_iff.2 hr) hz
   | succ r=>
    have hr0:=hr
    obtain⟨hx2,k2,hk2',hr2⟩:=hr
    obtain⟨j1,j2⟩:=findP_lt hk2'
    have hm2:=getD_memF j1 plc0
    have hu2:ups N (s+1) q.n p.p:=by have:=ups_tail hk s _ hu;rw[hpk] at this;exact this
    have hml:=reach_le hm
    have hsee:isSeen N V (N.getD k2 plc0)=true:=by
     unfold isSeen
     rw[List.any_eq_true]
     refine⟨q,hq,?_⟩
     rw[hv,hro,j2]
     show withinF N p.p (N.length+1) q.n=true
     exact ups_within (s+1) _ _ (by omega) hu2
    have hmem:N.getD k2 plc0∈N.filter (isSeen N V):=List.mem_filter.2 ⟨hm2,hsee⟩
    obtain⟨k3,hk3⟩:=findP_mem hmem
    obtain⟨l1,l2⟩:=findP_lt hk3
    have he:(N.filter (isSeen N V)).getD k3 plc0=N.getD k2 plc0:=h.one _ (List.mem_filter.1 (getD_memF l1 plc0)).1 _ hm2 l2
    rw[j2] at hk3
    cases f with
    |zero=>omega
    |succ f=>
     rw[climbs,if_neg hz,hk3]
     show climbs _ f _=true
     rw[he]
     exact climbs_seen h hq hv hro hm (r+1) (s+1) f _ (by omega) (by omega) hm2 (by rw[j2];exact hr0) (by rw[j2];exact hu2)
theorem seen_climbs (L:List Plc) (V:List Gid) (f:Nat) (hf:L.length≤f+1):∀p∈seenP L V,nameB p.name=true∧climbs (seenP L V) f p=true:=by
 intro p hp
 have h:=rightP_ok L
 have hl:=rightP_len L
 unfold seenP at hp ⊢
 generalize rightP L=N at *
 obtain⟨hp1,hp2⟩:=List.mem_filter.1 hp
 refine⟨(h.ok p hp1).2,?_⟩
 unfold isSeen at hp2
 obtain⟨q,hq,hc⟩:=List.any_eq_true.1 hp2
 simp only[Bool.and_eq_true] at hc
 obtain⟨⟨hv,hro⟩,hw⟩:=hc
 obtain⟨m,hm⟩:=rooted_reach h.zero _ _ hro
 have hml:=reach_le hm
 have hpz:p.n≠ .zero:=fun e=>by have:=(h.ok p hp1).1;rw[e] at this;exact absurd this (by decide)
 obtain⟨s,hs⟩:=within_ups h.zero hpz (N.length+1) (m+1) q.n (by omega) hm hw
 obtain⟨r,e,hr⟩:=ups_reach s (m+1) q.n (fun _=>trivial) hm h.zero hs
 exact climbs_seen h hq hv hro hm r s f p e (by omega) hp1 hr hs
end
end Go.Proofs.YtkhmicndehlneaaGreatDoor
