/- Part 17 of the walks and plain laws that this claim uses, joined. Conditions: as each theorem states. -/
import Derived.Test.YtkhmicndehlneaaGreatDoorYtm
import Derived.Test.YtkhmicndehlneaaGreatDoorYtp
namespace Go.Proofs.YtkhmicndehlneaaGreatDoor
set_option maxRecDepth 100000
set_option maxHeartbeats 16000000
section
open Go.RowKit Go.Lib Go.Sort
set_option linter.unusedVariables false
attribute [local go_sem ↓] Go.wp_at_zero Go.wp_at_succ
def knownL (v:List Int) (L:List (Grp×GrX)):List (Grp×GrX):=L.filter (fun p=>oldB v p.1)
theorem knownL_len (v:List Int) (L:List (Grp×GrX)):(knownL v L).length≤L.length:=List.length_filter_le _ _
theorem knownL_mem {v:List Int} {L:List (Grp×GrX)} {p:Grp×GrX} (h:p∈knownL v L):p∈L:=(List.mem_filter.1 h).1
theorem knownL_succ {v:List Int} {L:List (Grp×GrX)} {k:Nat} (h:k<L.length):knownL v (L.take (k+1))=knownL v (L.take k)++(if oldB v (L.getD k gp0).1=true then [L.getD k gp0] else []):=by
 unfold knownL
 rw[List.take_add_one,List.filter_append,List.getElem?_eq_getElem h,List.getD_eq_getElem?_getD,List.getElem?_eq_getElem h]
 congr 1
 cases e:oldB v L[k].1<;>simp[e]
theorem known_any (L:List (Grp×GrX)) (A:Option Addr) (c:Nat) (vA:Option Addr) (vc:Nat) (v:List Int) (w:World) (hl:L.length≤100000) (hv:v.length≤1000) (hR:RowGr w A L) (hV:VecR w vA v):
  Calls Tryz.prog 88 #[.slice A L.length c,.slice vA v.length vc] w fun e w'=>∃A' c',e= .returned (.slice A' (knownL v L).length c')∧w'.ownsRow w.heap.size 45 7 (.slice A' (knownL v L).length c') (knownL v L).length ((knownL v L).flatMap grC_)∧Below w.heap.size w w':=by
 obtain⟨i0,hi,hz0,hz1,hz2⟩:=info_parts infogrC_
 have HR:=hid hR
 have HV:=hid hV
 clear hR hV
 go_enter Tryz.func88,Tryz.ntmps88
 go_upto_region 3 with fail
 go_loopw [5,6] (fun o i wr=>∃(k:Nat) (A':Option Addr) (c' m:Nat),k≤L.length∧i= .int .i64 k∧o= .slice A' m c'∧m≤k∧Hid (m=(knownL v (L.take k)).length)∧Hid (wr.ownsRow w.heap.size 45 7 (.slice A' m c') m ((knownL v (L.take k)).flatMap grC_))∧Hid (Below w.heap.size w wr)) (fun o i _=>L.length-(RowKit.intOf i).toNat)
 case atStart=>exact⟨0,none,0,0,Nat.zero_le _,rfl,rfl,Nat.le_refl _,hid rfl,hid (World.ownsRow_nil _ _ _ _),hid (Below.refl _ _)⟩
 case round=>
  obtain⟨k,A',c',m,hk,rfl,rfl,hmk,HML,HO,HBr⟩:=hrel
  by_cases hlt:k<L.length
  ·have i1:(0:Int)≤(k:Int):=by omega
   have i2:(k:Int)<(L.length:Int):=by omega
   obtain⟨rb,ro,rfl,hrb,hrange⟩:=HR.out.range hlt
   have hst:=knownL_succ (v:=v) hlt
   have hsz:=HBr.out.size
   generalize L.getD k gp0=p at *
   obtain⟨⟨⟨t,r⟩,n,dv,⟨ut,ur⟩,ops⟩,⟨dA,dc,oA,oc⟩⟩:=p
   obtain⟨z,hz⟩:∃z,z=atV v r:=⟨_,rfl⟩
   obtain⟨od,hod⟩:∃b,b=decide (n≤z):=⟨_,rfl⟩
   have hzo:decide (n≤z)=od:=hod.symm
   have HST:=hid (show knownL v (L.take (k+1))=knownL v (L.take k)++(if od=true then [(⟨⟨⟨t,r⟩,n,dv,⟨ut,ur⟩,ops⟩,⟨dA,dc,oA,oc⟩⟩:Grp×GrX)] else []) by rw[hst];congr 1;rw[hod,hz];rfl)
   have HRW:=hid (fun W (hB:Below w.heap.size w W)=>show W.rangeAt rb (ro+k*7) [.int .i64 t,.int .i64 r,.int .i64 n,.slice dA dv.length dc,.int .i64 ut,.int .i64 ur,.slice oA ops.length oc] from rangeB hrange hrb hB)
   have HRG:=hid (HRW.out wr HBr.out)
   have HAT:=hid (fun W (hB:Below w.heap.size w W)=>show Calls Tryz.prog 55 #[.slice vA v.length vc,.int .i64 r] W fun e w'=>e= .returned (.int .i64 z)∧Below W.heap.size W w' from by
    rw[hz]
    exact(refat_any vA vc v r W (by omega) (HV.out.below hB)).mono (by rintro e w' ⟨rfl,rfl⟩;exact⟨rfl,Below.refl _ _⟩))
   have y1:=cell_regrown (w:=wr) (a:=⟨rb,ro+k*7+1,none⟩) (v:= .int .i64 r) (HRG.out 1 _ rfl)
   have y2:=cell_regrown (w:=wr) (a:=⟨rb,ro+k*7+2,none⟩) (v:= .int .i64 n) (HRG.out 2 _ rfl)
   have cA:=fun d os=>Calls.regrown_of (HAT.out (grow (redrawn wr d) os) (HBr.out.trans ((below_regrown wr d os).mono hsz)))
   clear hst hz hod hrange hrb
   cases od with
   |false=>
    have hzh:¬n≤z:=by simpa using hzo
    go_upto_region 5 with fail
    refine rqb ?_
    repeat(any_goals(first|go_big_quiet_step (with_reducible exact cA _ _)|quiet_step (with_reducible exact cA _ _)))
    refine qz fun wq hBq=> ?_
    have HO3:=hid (HO.out.kept (gby_below (r:=none) hBq) (Classical.em _))
    have HB3:=hid (HBr.out.trans (hBq.mono hsz))
    go_wp2
    go_roundw
    case rel=>exact⟨k+1,A',c',m,by omega,by go_num,rfl,by omega,hid (by rw[HST.out];simpa using HML.out),hid (by rw[HST.out];simpa using HO3.out),HB3⟩
    case measure=>(simp[RowKit.intOf];omega)
   | true=>
    have hzh:n≤z:=by simpa using hzo
    go_upto_region 5 with fail
    refine rqb ?_
    repeat(any_goals(first|go_big_quiet_step (with_reducible exact cA _ _)|quiet_step (with_reducible exact cA _ _)))
    refine qz fun wq hBq=> ?_
    have HO3:=hid (HO.out.kept (gby_below (r:=none) hBq) (Classical.em _))
    have HB3:=hid (HBr.out.trans (hBq.mono hsz))
    have hsz3:=HB3.out.size
    have HRq:=hid (HRW.out wq HB3.out)
    clear y1 y2 cA hBq
    go_wp2_with (first
     |(refine wpList_load_mid rfl _ _ rfl rb (ro+k*7) rfl [.int .i64 t,.int .i64 r,.int .i64 n,.slice dA dv.length dc,.int .i64 ut,.int .i64 ur,.slice oA ops.length oc] _ HRq.out Tryz.underlying45 rfl (by kernel_rfl) ?_)
     |(at_builtin;refine wpList_append_lies _ rfl _ _ 25 rfl w.heap.size 45 i0 (.agg #[.int .i64 0,.int .i64 0,.int .i64 0,.slice none 0 0,.int .i64 0,.int .i64 0,.slice none 0 0]) 7 88 Tryz.underlying25 hi hz0 hz1 hz2 rfl (by decide) (.slice A' m c') m _ rfl (by exact HO3.out.alloc _) ⟨wq.heap.size,0,none⟩ 1 1 [.int .i64 t,.int .i64 r,.int .i64 n,.slice dA dv.length dc,.int .i64 ut,.int .i64 ur,.slice oA ops.length oc] rfl rfl (fun j y h=>cellsN wq [.int .i64 t,.int .i64 r,.int .i64 n,.slice dA dv.length dc,.int .i64 ut,.int .i64 ur,.slice oA ops.length oc] 45 j y h) (oc_of (c:=#[.int .i64 t,.int .i64 r,.int .i64 n,.slice dA dv.length dc,.int .i64 ut,.int .i64 ur,.slice oA ops.length oc]) rfl) (by decide) (by unfold maxLen;omega) (by omega) (by simp;omega) (wq.heap.size+1) (by simp) ?_;intro gq cap w5 hown hgrow ha hlt5;have HO5:=hid hown;have HB5:=hid ((HB3.out.alloc hsz3 _).grown hgrow (by simp;omega) (fun b hb=>(HO3.out.lt b hb).1));clear hown hgrow ha hlt5))
    go_roundw
    case rel=>exact⟨k+1,some ⟨gq,0,none⟩,cap,m+1,by omega,by go_num,rfl,by omega,hid (by rw[HST.out,if_pos rfl,List.length_append,←HML.out];rfl),hid (by rw[HST.out,if_pos rfl,List.flatMap_append];exact HO5.out),HB5⟩
    case measure=>(simp[RowKit.intOf];omega)
  ·obtain rfl:k=L.length:=by omega
   have i2:¬(L.length:Int)<(L.length:Int):=by omega
   have HM9:=hid (show m=(knownL v L).length by have h9:=HML.out;rw[List.take_length] at h9;exact h9)
   have HO9:=hid (show wr.ownsRow w.heap.size 45 7 (.slice A' m c') m ((knownL v L).flatMap grC_) by have h9:=HO.out;rw[List.take_length] at h9;exact h9)
   go_wp2
   go_ret
   refine⟨A',c',by rw[←HM9.out];rfl,?_,HBr.out⟩
   rw[←HM9.out];exact HO9.out
def latT (L:List (Grp×GrX)):Int:=L.foldl (fun t p=>max t p.1.s.t) 0
theorem latest_any (L:List (Grp×GrX)) (A:Option Addr) (c:Nat) (w:World) (hl:L.length≤100000) (hR:RowGr w A L):
  Calls Tryz.prog 89 #[.slice A L.length c] w fun e w'=>e= .returned (.int .i64 (latT L))∧Below w.heap.size w w':=by
 have HR:=hid hR
 clear hR
 go_enter Tryz.func89,Tryz.ntmps89
 go_upto_region 3 with fail
 go_loopw [3,4] (fun o i wr=>∃(k:Nat) (T:Int),k≤L.length∧i= .int .i64 k∧o= .int .i64 T∧Hid (T=latT (L.take k))∧Hid (Below w.heap.size w wr)) (fun o i _=>L.length-(RowKit.intOf i).toNat)
 case atStart=>exact⟨0,0,Nat.zero_le _,rfl,rfl,hid rfl,hid (Below.refl _ _)⟩
 case round=>
  obtain⟨k,T,hk,rfl,rfl,HT,HBr⟩:=hrel
  by_cases hlt:k<L.length
  ·have i1:(0:Int)≤(k:Int):=by omega
   have i2:(k:Int)<(L.length:Int):=by omega
   obtain⟨rb,ro,rfl,hrb,hrange⟩:=HR.out.range hlt
   have hst:latT (L.take (k+1))=max T (L.getD k gp0).1.s.t:=by rw[HT.out];exact foldl_take _ _ hlt gp0
   generalize L.getD k gp0=p at *
   obtain⟨⟨⟨t,r⟩,n,dv,⟨ut,ur⟩,ops⟩,⟨dA,dc,oA,oc⟩⟩:=p
   obtain⟨T2,hT2⟩:∃q,q=max T t:=⟨_,rfl⟩
   have e1:max T t=T2:=hT2.symm
   have HST:=hid (show latT (L.take (k+1))=T2 by rw[hst,hT2])
   have y0:wr.cell? ⟨rb,ro+k*7,none⟩=some (.int .i64 t):=(rangeB hrange hrb HBr.out) 0 _ rfl
   clear hst hT2 hrange hrb
   go_wp2
   go_roundw
   case rel=>exact⟨k+1,T2,by omega,by go_num,rfl,hid HST.out.symm,HBr⟩
   case measure=>(simp[RowKit.intOf];omega)
  ·obtain rfl:k=L.length:=by omega
   have i2:¬(L.length:Int)<(L.length:Int):=by omega
   have HM9:=hid (show T=latT L by have h9:=HT.out;rw[List.take_length] at h9;exact h9)
   go_wp2
   go_ret
   exact⟨by rw[←HM9.out];rfl,HBr.out⟩
def mixL (L:List (Grp×GrX)) (P:List Int):List (Grp×GrX):=P.map fun q=>L.getD (q.toNat % L.length) gp0
def mixN (L:List (Grp×GrX)) (P:List Int):Nat:=if L.length=0 then 0 else min P.length 30
def mixed (L:List (Grp×GrX)) (P:List Int):List (Grp×GrX):=mixL L (P.take (mixN L P))
theorem mixed_mem {L:List (Grp×GrX)} {P:List Int} {p:Grp×GrX} (h:p∈mixed L P):p∈L:=by
 unfold mixed mixL at h
 obtain⟨q,hq,rfl⟩:=List.mem_map.1 h
 by_cases h0:L.length=0
 ·unfold mixN at hq;rw[if_pos h0,List.take_zero] at hq;cases hq
 ·exact getD_memF (Nat.mod_lt _ (by omega)) gp0
theorem mixed_len (L:List (Grp×GrX)) (P:List Int):(mixed L P).length≤30:=by
 unfold mixed mixL mixN
 rw[List.length_map,List.length_take]
 split<;>omega
def u8L (q:Int):List Value:=[.int .u8 q]
theorem mixed_any (L:List (Grp×GrX)) (A:Option Addr) (c:Nat) (P:List Int) (pA:Option Addr) (pc:Nat) (S:Nat→Prop) (w:World) (hl:L.length≤100000) (hp:P.length≤9223372036854775807) (hR:RowGr w A L) (hP:RowF w S pA 1 u8L 0 P) (hb:∀q∈P,0≤q∧q≤255):
  Calls Tryz.prog 19 #[.slice A L.length c,.slice pA P.length pc] w fun e w'=>∃A' c',e= .returned (.slice A' (mixed L P).length c')∧w'.ownsRow w.heap.size 45 7 (.slice A' (mixed L P).length c') (mixed L P).length ((mixed L P).flatMap grC_)∧Below w.heap.size w w':=by
 obtain⟨i0,hi,hz0,hz1,hz2⟩:=info_parts infogrC_
 have HR:=hid hR
 have HP:=hid hP
 have HBD:=hid hb
 obtain⟨N,hN⟩:∃N,N=mixN L P:=⟨_,rfl⟩
 have hN30:N≤30∧N≤P.length:=by rw[hN];unfold mixN;split<;>omega
 have HMX:=hid (show mixed L P=mixL L (P.take N) by rw[hN];rfl)
 have HLN:=hid (show(mixL L (P.take N)).length=N by unfold mixL;rw[List.length_map,List.length_take];omega)
 have HN:=hid hN
 rw[HMX.out,HLN.out]
 clear hR hP hb hN
 go_enter Tryz.func19,Tryz.ntmps19
 go_upto_region 3 with fail
 go_loopw [5,6] (fun o i wr=>∃(k:Nat) (A':Option Addr) (c':Nat),k≤N∧i= .int .i64 k∧o= .slice A' k c'∧Hid (wr.ownsRow w.heap.size 45 7 (.slice A' k c') k ((mixL L (P.take k)).flatMap grC_))∧Hid (Below w.heap.size w wr)) (fun o i _=>30-(RowKit.intOf i).toNat)
 case atStart=>exact⟨0,none,0,Nat.zero_le _,rfl,rfl,hid (World.ownsRow_nil _ _ _ _),hid (Below.refl _ _)⟩
 case round=>
  obtain⟨k,A',c',hk,rfl,rfl,HO,HBr⟩:=hrel
  have hsz:=HBr.out.size
  by_cases hlt:k<N
  ·have hL0:0<L.length:=by
    rcases Nat.eq_zero_or_pos L.length with h0|h0
    ·have:=HN.out;unfold mixN at this;rw[if_pos h0] at this;omega
    ·exact h0
   have i1:(k:Int)<(P.length:Int):=by omega
   have i2:(k:Int)<30:=by omega
   have i3:(0:Int)<(L.length:Int):=by omega
   have i4:(0:Int)≤(k:Int):=by omega
   obtain⟨pb,po,rfl,-,hpb,hprange⟩:=HP.out.range (fun _=>rfl) (k:=k) (by omega)
   have hst:P.take (k+1)=P.take k++[P.getD k 0]:=takeD_succ (by omega) 0
   have hbd:=HBD.out _ (getD_memF (L:=P) (k:=k) (by omega) 0)
   generalize P.getD k 0=q at *
   obtain⟨q,rfl⟩:∃x:Nat,q=(x:Int):=⟨q.toNat,by omega⟩
   obtain⟨u,hu⟩:∃u,u=q % L.length:=⟨_,rfl⟩
   have hul:u<L.length:=by rw[hu];exact Nat.mod_lt _ hL0
   have j1:IntKind.i64.wrap (q:Int)=(q:Int):=by rw[IntKind.wrap_i64];omega
   have j2:((q:Int)).tmod (L.length:Int)=(u:Int):=by rw[Int.tmod_eq_emod_of_nonneg (by omega),hu];rfl
   have j3:IntKind.i64.wrap (u:Int)=(u:Int):=by rw[IntKind.wrap_i64];omega
   have j4:(0:Int)≤(u:Int):=by omega
   have j5:(u:Int)<(L.length:Int):=by omega
   have j6:¬(L.length:Int)=0:=by omega
   have j7:((L.length:Int) == 0)=false:=by rw[beq_eq_false_iff_ne];omega
   obtain⟨rb,ro,rfl,hrb,hrange⟩:=HR.out.range hul
   have HST:=hid (show mixL L (P.take (k+1))=mixL L (P.take k)++[L.getD u gp0] by unfold mixL;rw[hst,List.map_append,List.map_cons,List.map_nil,Int.toNat_natCast,←hu])
   have y0:wr.cell? ⟨pb,po+k,none⟩=some (.int .u8 (q:Int)):=by
    have h9:=(rangeB hprange hpb HBr.out) 0 _ rfl
    rwa[Nat.mul_one] at h9
   generalize L.getD u gp0=p at *
   obtain⟨⟨⟨t,r⟩,n,dv,⟨ut,ur⟩,ops⟩,⟨dA,dc,oA,oc⟩⟩:=p
   have HRq:=hid (show wr.rangeAt rb (ro+u*7) [.int .i64 t,.int .i64 r,.int .i64 n,.slice dA dv.length dc,.int .i64 ut,.int .i64 ur,.slice oA ops.length oc] from rangeB hrange hrb HBr.out)
   clear hst hu hprange hrange
   go_wp2_with (first
    |(refine wpList_load_mid rfl _ _ rfl rb (ro+u*7) rfl [.int .i64 t,.int .i64 r,.int .i64 n,.slice dA dv.length dc,.int .i64 ut,.int .i64 ur,.slice oA ops.length oc] _ HRq.out Tryz.underlying45 rfl (by kernel_rfl) ?_)
    |(at_builtin;refine wpList_append_lies _ rfl _ _ 25 rfl w.heap.size 45 i0 (.agg #[.int .i64 0,.int .i64 0,.int .i64 0,.slice none 0 0,.int .i64 0,.int .i64 0,.slice none 0 0]) 7 88 Tryz.underlying25 hi hz0 hz1 hz2 rfl (by decide) (.slice A' k c') k _ rfl (by exact HO.out.alloc _) ⟨wr.heap.size,0,none⟩ 1 1 [.int .i64 t,.int .i64 r,.int .i64 n,.slice dA dv.length dc,.int .i64 ut,.int .i64 ur,.slice oA ops.length oc] rfl rfl (fun j y h=>cellsN wr [.int .i64 t,.int .i64 r,.int .i64 n,.slice dA dv.length dc,.int .i64 ut,.int .i64 ur,.slice oA ops.length oc] 45 j y h) (oc_of (c:=#[.int .i64 t,.int .i64 r,.int .i64 n,.slice dA dv.length dc,.int .i64 ut,.int .i64 ur,.slice oA ops.length oc]) rfl) (by decide) (by unfold maxLen;omega) (by omega) (by simp;omega) (wr.heap.size+1) (by simp) ?_;intro gq cap w5 hown hgrow ha hlt5;have HO5:=hid hown;have HB5:=hid ((HBr.out.alloc hsz _).grown hgrow (by simp;omega) (fun b hb=>(HO.out.lt b hb).1));clear hown hgrow ha hlt5))
   go_roundw
   case rel=>exact⟨k+1,some ⟨gq,0,none⟩,cap,by omega,by go_num,rfl,hid (by rw[HST.out,List.flatMap_append];exact HO5.out),HB5⟩
   case measure=>(simp[RowKit.intOf];omega)
  ·obtain rfl:k=N:=by omega
   have hcase:P.length≤k∨30≤k∨L.length=0:=by
    have h9:=HN.out;unfold mixN at h9;split at h9<;>omega
   have i1:¬((k:Int)<(P.length:Int)∧(k:Int)<30∧(0:Int)<(L.length:Int)):=by omega
   by_cases c1:k<P.length
   ·by_cases c2:k<30
    ·have i3:(k:Int)<(P.length:Int):=by omega
     have i4:(k:Int)<30:=by omega
     have i5:¬(0:Int)<(L.length:Int):=by omega
     go_wp2
     go_ret
     exact⟨A',c',rfl,HO.out,HBr.out⟩
    ·have i3:(k:Int)<(P.length:Int):=by omega
     have i4:¬(k:Int)<30:=by omega
     go_wp2
     go_ret
     exact⟨A',c',rfl,HO.out,HBr.out⟩
   ·have i3:¬(k:Int)<(P.length:Int):=by omega
    go_wp2
    go_ret
    exact⟨A',c',rfl,HO.out,HBr.out⟩
def maxV (v u:List Int):List Int:=(List.range (max v.length u.length)).map fun k=>max (v.getD k 0) (u.getD k 0)
def mergeV (v u:List Int):List Int:=plainV (maxV v u)
theorem maxV_len (v u:List Int):(maxV v u).length=max v.length u.length:=by unfold maxV;simp
theorem getD_out {v:List Int} {k:Nat} (h:v.length≤k):v.getD k 0=0:=by rw[List.getD_eq_getElem?_getD,List.getElem?_eq_none h];rfl
theorem maxV_getD (v u:List Int) (k:Nat):(maxV v u).getD k 0=max (v.getD k 0) (u.getD k 0):=by
 unfold maxV
 rw[List.getD_eq_getElem?_getD,List.getElem?_map]
 by_cases h:k<max v.length u.length
 ·rw[List.getElem?_range h];rfl
 ·rw[List.getElem?_eq_none (by simpa using h),Option.map_none,Option.getD_none,getD_out (by omega),getD_out (by omega)];rfl
theorem mergeV_getD (v u:List Int) (k:Nat):(mergeV v u).getD k 0=max (v.getD k 0) (u.getD k 0):=by unfold mergeV;rw[pv_getD,maxV_getD]
theorem mergeV_len (v u:List Int):(mergeV v u).length≤max v.length u.length:=by
 unfold mergeV
 have h1:=pv_len (maxV v u)
 rw[maxV_len] at h1;exact h1
theorem own_capmax {w:World} {B E s n c:Nat} {A:Option Addr} {xs:List Value} (h:w.ownsRow B E s (.slice A n c) n xs):c≤maxLen:=by
 rcases h.2 with⟨e1,e2⟩|⟨g,cap,cur,e1,e2,e3,e4,e5,e6⟩
 ·cases e1;exact Nat.zero_le _
 ·cases e1;exact e5
theorem refmerge_any (A A2:Option Addr) (c c2:Nat) (v u:List Int) (w:World) (hv:v.length≤1000) (hu:u.length≤1000) (hA:VecR w A v) (hA2:VecR w A2 u):
  Calls Tryz.prog 87 #[.slice A v.length c,.slice A2 u.length c2] w fun e w'=>∃A' c',e= .returned (.slice A' (mergeV v u).length c')∧VecS w' (fun k=>w.heap.size≤k) A' (mergeV v u)∧(mergeV v u).length≤c'∧c'≤maxLen∧Below w.heap.size w w':=by
 obtain⟨i0,hi,hz0,hz1,hz2⟩:=info_parts infointC_
 obtain⟨xs,hxs⟩:∃xs,xs=maxV v u:=⟨_,rfl⟩
 have HMG:=hid (show mergeV v u=plainV xs by rw[hxs];rfl)
 have HXG:=hid (show ∀k:Nat,xs.getD k 0=max (v.getD k 0) (u.getD k 0) from fun k=>by rw[hxs];exact maxV_getD v u k)
 have hxl:xs.length=max v.length u.length:=by rw[hxs,maxV_len]
 obtain⟨m,hm⟩:∃m,m=xs.length:=⟨_,rfl⟩
 have hm1:m≤1000:=by omega
 have e0:max (v.length:Int) (u.length:Int)=(m:Int):=by omega
 have HXL:=hid hm
 have HA:=hid hA
 have HA2:=hid hA2
 rw[HMG.out]
 clear hxs hxl hm hA hA2
 go_enter Tryz.func87,Tryz.ntmps87
 go_upto_region 3 with fail
 go_loopw [5,6] (fun o i wr=>∃(k:Nat) (A':Option Addr) (c':Nat),k≤m∧i= .int .i64 ((k:Int)+1)∧o= .slice A' k c'∧Hid (wr.ownsRow w.heap.size 3 1 (.slice A' k c') k ((xs.take k).flatMap intC_))∧Hid (Below w.heap.size w wr)) (fun o i _=>m+1-(RowKit.intOf i).toNat)
 case atStart=>exact⟨0,none,0,Nat.zero_le _,by go_num,rfl,hid (World.ownsRow_nil _ _ _ _),hid (Below.refl _ _)⟩
 case round=>
  obtain⟨k,A',c',hk,rfl,rfl,HO,HBr⟩:=hrel
  have hsz:=HBr.out.size
  by_cases hlt:k<m
  ·have i1:(k:Int)+1≤(m:Int):=by omega
   have HTK:=hid (take_int xs k (by rw[←HXL.out];exact hlt))
   have HCA:=hid (fun W (hB:Below w.heap.size w W)=>by have h9:=refat_any A c v ((k:Int)+1) W (by omega) (HA.out.below hB);rw[show atV v ((k:Int)+1)=v.getD k 0 from atV_in] at h9;exact h9)
   have HCB:=hid (fun W (hB:Below w.heap.size w W)=>by have h9:=refat_any A2 c2 u ((k:Int)+1) W (by omega) (HA2.out.below hB);rw[show atV u ((k:Int)+1)=u.getD k 0 from atV_in] at h9;exact h9)
   have hx:=HXG.out k
   generalize v.getD k 0=a at *
   generalize u.getD k 0=b at *
   obtain⟨z,hz⟩:∃z,z=max a b:=⟨_,rfl⟩
   have e1:max a b=z:=hz.symm
   have HX:=hid (show xs.getD k 0=z by rw[hx,hz])
   clear hz hx
   go_wp2_with (first
    |(go_at_call 55;refine(HCA.out wr HBr.out).mono ?_;rintro e w' ⟨rfl,rfl⟩)
    |(go_at_call 55;refine(HCB.out _ HBr.out).mono ?_;rintro e w' ⟨rfl,rfl⟩)
    |(at_builtin;refine wpList_append_own _ rfl _ _ 27 rfl w.heap.size 3 i0 (.int .i64 0) 1 8 Tryz.underlying27 hi hz0 hz1 hz2 rfl (by decide) (.slice A' k c') k _ rfl (by exact HO.out.alloc _) ⟨_,0,none⟩ 1 1 (intC_ z) rfl rfl (by exact cellsN _ _ _) (by exact ocintC_ _) (by unfold maxLen;omega) (by omega) (by simp;omega) ?_;intro v' w3 hown' hgrow _;have HO3:=hid hown';have HB3:=hid ((HBr.out.alloc hsz _).grown hgrow (by simp;omega) (fun b hb=>(HO.out.lt b hb).1));clear hown' hgrow))
   obtain⟨A9,c9,rfl⟩:=row_slice HO3.out
   go_roundw
   case rel=>exact⟨k+1,A9,c9,by omega,by go_num,rfl,hid (by rw[HTK.out,HX.out];exact HO3.out),HB3⟩
   case measure=>(simp[RowKit.intOf];omega)
  ·obtain rfl:k=m:=by omega
   have i1:¬(k:Int)+1≤(k:Int):=by omega
   have hO9:wr.ownsRow w.heap.size 3 1 (.slice A' k c') k (xs.flatMap intC_):=by have h9:=HO.out;rw[HXL.out,List.take_length,←HXL.out] at h9;exact h9
   have hO8:=hO9
   rw[HXL.out] at hO8
   have hvs:=vec_own hO8
   have hcap:=row_cap hO9
   have HVS:=hid (vecS_plain hvs)
   have hpl:=pv_len xs
   have hxl9:=HXL.out
   have HCM:=hid (own_capmax hO9)
   have HPL:=hid (show Calls Tryz.prog 105 #[.slice A' k c'] wr fun e w'=>e= .returned (.slice A' (plainV xs).length c')∧w'=wr from by
    have h9:=refplain_any A' c' xs wr (by omega) (by omega) (VecS.vec hvs)
    rw[←HXL.out] at h9;exact h9)
   have HLE:=hid (show(plainV xs).length≤c' by omega)
   clear hO9 hO8 hvs hcap hpl hxl9
   go_wp2_with (go_at_call 105;refine HPL.out.mono ?_;rintro e w9 ⟨rfl,rfl⟩)
   go_ret
   exact⟨A',c',rfl,HVS.out,HLE.out,HCM.out,HBr.out⟩
def pickD (l:List Gid) (n:Nat):Gid:=l.getD (n % (l.length+1)) .zero
theorem pick_any (L:List Gid) (A:Option Addr) (c:Nat) (q:Nat) (S:Nat→Prop) (w:World) (hl:L.length≤100000) (hq:q≤255) (hR:RowF w S A 3 idL .zero L):
  Calls Tryz.prog 143 #[.slice A L.length c,.int .u8 (q:Int)] w fun e w'=>e= .returned (.agg (idL (pickD L q)).toArray)∧Below w.heap.size w w':=by
 obtain⟨u,hu⟩:∃u,u=q % (L.length+1):=⟨_,rfl⟩
 have hul:u≤L.length:=by have:=Nat.mod_lt q (show 0<L.length+1 by omega);omega
 have j1:IntKind.i64.wrap (q:Int)=(q:Int):=by rw[IntKind.wrap_i64];omega
 have j2:((q:Int)).tmod ((L.length:Int)+1)=(u:Int):=by rw[Int.tmod_eq_emod_of_nonneg (by omega),hu];rfl
 have j3:IntKind.i64.wrap (u:Int)=(u:Int):=by rw[IntKind.wrap_i64];omega
 have j6:¬(L.length:Int)+1=0:=by omega
 have HPK:=hid (show pickD L q=L.getD u .zero by unfold pickD;rw[hu])
 have HR:=hid hR
 have HB0:=hid (show Below w.heap.size w (w.alloc (.cells #[.int .i64 0,.int .i64 0,.int .i64 0] 108)) from(Below.refl _ _).alloc (Nat.le_refl _) _)
 clear hu hR
 rw[HPK.out]
 by_cases h:u=L.length
 ·have k1:((u:Int) == (L.length:Int))=true:=by rw[beq_iff_eq];omega
  have HZ:=hid (show L.getD u Gid.zero=Gid.zero by rw[List.getD_eq_getElem?_getD,List.getElem?_eq_none (by omega)];rfl)
  rw[HZ.out]
  go_enter Tryz.func143,Tryz.ntmps143
  go_wp2
  refine bodyPost_ret (v:= .agg #[.int .i64 0,.int .i64 0,.int .i64 0]) (by simp[results,Tryz.results143,go_sem]) rfl ?_
  exact⟨rfl,HB0.out⟩
 ·have k1:((u:Int) == (L.length:Int))=false:=by rw[beq_eq_false_iff_ne];omega
  have k2:(0:Int)≤(u:Int):=by omega
  have k3:(u:Int)<(L.length:Int):=by omega
  obtain⟨rb,ro,rfl,-,hrb,hrange⟩:=HR.out.range (fun _=>rfl) (k:=u) (by omega)
  generalize L.getD u Gid.zero=x at *
  obtain⟨⟨t,r⟩,n⟩:=x
  have HRG:=hid (rangeB (show w.rangeAt rb (ro+u*3) [.int .i64 t,.int .i64 r,.int .i64 n] from hrange) hrb HB0.out)
  clear hrange hrb
  go_enter Tryz.func143,Tryz.ntmps143
  go_wp2_with (first
   |(refine wpList_load_mid rfl _ _ rfl rb (ro+u*3) rfl [.int .i64 t,.int .i64 r,.int .i64 n] _ HRG.out Tryz.underlying108 rfl (by kernel_rfl) ?_)
   |(refine store_last rfl _ _ _ rfl _ _ _ _ rfl ?_ rfl ?_ ?_ ?_ ?_;(focus(simp;done));kernel_rfl;rfl;rfl))
  refine bodyPost_ret (v:= .agg #[.int .i64 t,.int .i64 r,.int .i64 n]) (by simp[results,Tryz.results143,go_sem]) rfl ?_
  exact⟨rfl,(Below.refl _ _).alloc (Nat.le_refl _) _⟩
theorem joined_any (L M:List Gid) (A A2:Option Addr) (c c2 B B2:Nat) (w:World) (hl:L.length≤100000) (hl2:M.length≤100000) (hO:w.ownsRow B 108 3 (.slice A L.length c) L.length (L.flatMap idL)) (hO2:w.ownsRow B2 108 3 (.slice A2 M.length c2) M.length (M.flatMap idL)):
  Calls Tryz.prog 144 #[.slice A L.length c,.slice A2 M.length c2] w fun e w'=>∃A' c',e= .returned (.slice A' (L++M).length c')∧w'.ownsRow w.heap.size 108 3 (.slice A' (L++M).length c') (L++M).length ((L++M).flatMap idL)∧Below w.heap.size w w':=by
 obtain⟨i0,hi,hz0,hz1,hz2⟩:=info_parts info_id
 have hx:=row_at hO
 have hx2:=row_at hO2
 have hbb:∀ad,A2=some ad→ad.block<w.heap.size:=fun ad e=>by
  rcases hO2.2 with⟨e1,e2⟩|⟨g,cap,cur,e1,e2,e3,e4⟩
  ·injection e1 with e5;rw[e5] at e;cases e
  ·injection e1 with e5;rw[e5] at e;injection e with e;rw[←e];exact lt_of_block e3
 clear hO hO2
 have HFL:=hid (flat_len (f:=idL) (s:=3) (fun _=>rfl) L)
 have HFM:=hid (flat_len (f:=idL) (s:=3) (fun _=>rfl) M)
 have HUL:=hid (show ∀u∈L.flatMap idL,u.oneCell'=true from fun u hu=>by obtain⟨x,-,hx⟩:=List.mem_flatMap.1 hu;exact oc_idL x u hx)
 have HUM:=hid (show ∀u∈M.flatMap idL,u.oneCell'=true from fun u hu=>by obtain⟨x,-,hx⟩:=List.mem_flatMap.1 hu;exact oc_idL x u hx)
 cases A with
 | none=>
  have h0:=hx.1 rfl
  obtain rfl:L=[]:=List.length_eq_zero_iff.1 h0
  cases A2 with
  |none=>
   have h1:=hx2.1 rfl
   obtain rfl:M=[]:=List.length_eq_zero_iff.1 h1
   go_enter Tryz.func144,Tryz.ntmps144
   go_wp2
   go_ret
   exact⟨none,0,rfl,World.ownsRow_nil _ _ _ _,Below.refl _ _⟩
  |some ad2=>
   have HC2:=hid (hx2.2 ad2 rfl)
   clear hx hx2
   go_enter Tryz.func144,Tryz.ntmps144
   go_upto_region 3 with fail
   go_wp2_with (at_builtin;refine wpList_append_own _ rfl _ _ 123 rfl w.heap.size 108 i0 (.agg #[.int .i64 0,.int .i64 0,.int .i64 0]) 3 24 Tryz.underlying123 hi hz0 hz1 hz2 rfl (by decide) (.slice none 0 0) 0 _ rfl (by exact(World.ownsRow_nil w w.heap.size 108 3)) ad2 M.length c2 (M.flatMap idL) rfl HFM.out HC2.out HUM.out (by unfold maxLen;omega) (by omega) (by simp) ?_;intro v' w5 hown hgrow _;have HO5:=hid hown;have HB5:=hid (Below.grown (Below.refl w.heap.size w) hgrow (by simp) (fun b hb=>(World.ownsRow.lt (World.ownsRow_nil w w.heap.size 108 3) b hb).1));clear hown hgrow)
   obtain⟨A9,c9,rfl⟩:=row_slice HO5.out
   rw[Nat.zero_add] at HO5 ⊢
   go_ret
   exact⟨A9,c9,rfl,HO5.out,HB5.out⟩
 | some ad=>
  have HC:=hid (hx.2 ad rfl)
  cases A2 with
  | none=>
   have h1:=hx2.1 rfl
   obtain rfl:M=[]:=List.length_eq_zero_iff.1 h1
   clear hx hx2
   go_enter Tryz.func144,Tryz.ntmps144
   go_upto_region 3 with(at_builtin;refine wpList_append_own _ rfl _ _ 123 rfl w.heap.size 108 i0 (.agg #[.int .i64 0,.int .i64 0,.int .i64 0]) 3 24 Tryz.underlying123 hi hz0 hz1 hz2 rfl (by decide) (.slice none 0 0) 0 _ rfl (by exact(World.ownsRow_nil w w.heap.size 108 3)) ad L.length c (L.flatMap idL) rfl HFL.out HC.out HUL.out (by unfold maxLen;omega) (by omega) (by simp) ?_;intro v' w5 hown hgrow _;have HO5:=hid hown;have HB5:=hid (Below.grown (Below.refl w.heap.size w) hgrow (by simp) (fun b hb=>(World.ownsRow.lt (World.ownsRow_nil w w.heap.size 108 3) b hb).1));clear hown hgrow)
   rw[Nat.zero_add] at HO5
   obtain⟨A9,c9,rfl⟩:=row_slice HO5.out
   have HO6:=hid (show w5.ownsRow w.heap.size 108 3 (.slice A9 L.length c9) L.length ((L++[]).flatMap idL) by rw[List.append_nil];exact HO5.out)
   rcases HO6.out.2 with⟨e1,e2⟩|⟨g,cap,cur,e1,e2,e3,e4,e5,e6⟩
   ·injection e1 with e7 e8 e9
    subst e7
    have hL:L=[]:=List.length_eq_zero_iff.1 e8
    subst hL e9
    go_wp2
    go_ret
    exact⟨none,0,rfl,HO6.out,HB5.out⟩
   ·injection e1 with e7 e8 e9
    subst e7 e9
    have k1:¬c9<L.length:=by omega
    have k2:¬c9<L.length+0:=by omega
    have HU:=hid e4
    clear e2 e3 e5 e6 e8
    go_wp2
    go_ret
    first
     |exact⟨_,c9,rfl,HO6.out,HB5.out⟩
     |(have h9:=HO6.out;refine⟨_,c9,rfl,?_,HB5.out⟩;simpa using h9)
  |some ad2=>
   have HC2:=hid (hx2.2 ad2 rfl)
   have HBB:=hid (hbb ad2 rfl)
   clear hx hx2 hbb
   go_enter Tryz.func144,Tryz.ntmps144
   go_upto_region 3 with(at_builtin;refine wpList_append_own _ rfl _ _ 123 rfl w.heap.size 108 i0 (.agg #[.int .i64 0,.int .i64 0,.int .i64 0]) 3 24 Tryz.underlying123 hi hz0 hz1 hz2 rfl (by decide) (.slice none 0 0) 0 _ rfl (by exact(World.ownsRow_nil w w.heap.size 108 3)) ad L.length c (L.flatMap idL) rfl HFL.out HC.out HUL.out (by unfold maxLen;omega) (by omega) (by simp) ?_;intro v' w5 hown hgrow _;have HO5:=hid hown;have HB5:=hid (Below.grown (Below.refl w.heap.size w) hgrow (by simp) (fun b hb=>(World.ownsRow.lt (World.ownsRow_nil w w.heap.size 108 3) b hb).1));clear hown hgrow)
   rw[Nat.zero_add] at HO5
   obtain⟨A9,c9,rfl⟩:=row_slice HO5.out
   have HO6:=hid HO5.out
   have HB6:=hid HB5.out
   have HC3:=hid (show ∀(j:Nat) (u:Value),(M.flatMap idL)[j]? =some u→w5.cell? (ad2.add j)=some u from fun j u hj=>(World.cell?_of_block (w:=w) (w':=w5) (a:=ad2.add j) (by rw[show(ad2.add j).block=ad2.block from by unfold Addr.add;split<;>rfl];exact HB5.out.block _ HBB.out)).trans (HC2.out j u hj))
   generalize w5=w6 at *
   clear HO5 HB5 HC HC2 HBB
   have hsz6:=HB6.out.size
   go_wp2_with (at_builtin;refine wpList_append_own _ rfl _ _ 123 rfl w.heap.size 108 i0 (.agg #[.int .i64 0,.int .i64 0,.int .i64 0]) 3 24 Tryz.underlying123 hi hz0 hz1 hz2 rfl (by decide) (.slice A9 L.length c9) L.length _ rfl (by exact HO6.out) ad2 M.length c2 (M.flatMap idL) rfl HFM.out HC3.out HUM.out (by unfold maxLen;omega) (by omega) (by omega) ?_;intro v' w5 hown hgrow _;have HO5:=hid hown;have HB5:=hid (Below.grown HB6.out hgrow (by omega) (fun b hb=>(World.ownsRow.lt HO6.out b hb).1));clear hown hgrow)
   obtain⟨A8,c8,rfl⟩:=row_slice HO5.out
   have HO8:=hid (show w5.ownsRow w.heap.size 108 3 (.slice A8 (L++M).length c8) (L++M).length ((L++M).flatMap idL) by rw[List.length_append,List.flatMap_append];exact HO5.out)
   go_ret
   refine⟨A8,c8,?_,?_,HB5.out⟩
   ·first
     |rfl
     |(rw[List.length_append];rfl)
     |simp
   ·first
     |exact HO8.out
     |(have h9:=HO8.out;rw[List.length_append] at h9;exact h9)
     |(have h9:=HO8.out;simpa using h9)
def opsN (d:Bool) (l:List Gop):List Gid:=(l.filter (fun o=>decide (o.kind=0) && (o.dir == d))).map (·.node)
def nodesL (d:Bool) (L:List (Grp×GrX)):List Gid:=L.flatMap fun p=>opsN d p.1.ops
theorem opsN_succ (d:Bool) {l:List Gop} {j:Nat} (h:j<l.length):opsN d (l.take (j+1))=opsN d (l.take j)++(if (decide ((l.getD j (opO 0 .zero)).kind=0) && ((l.getD j (opO 0 .zero)).dir == d))=true then [(l.getD j (opO 0 .zero)).node] else []):=by
 unfold opsN
 rw[takeD_succ h (opO 0 .zero),List.filter_append,List.map_append]
 congr 1
 generalize l.getD j (opO 0 .zero)=o
 cases e:(decide (o.kind=0) && (o.dir == d))<;>simp[List.filter,e]
def opsR (x:Gid) (l:List Gop):List Rn:=(l.filter (fun o=>decide (o.kind=3) && o.node.eqb x)).map fun o=>⟨o.after,o.elem,o.text⟩
def runsL (x:Gid) (L:List (Grp×GrX)):List Rn:=L.flatMap fun p=>opsR x p.1.ops
theorem opsR_succ (x:Gid) {l:List Gop} {j:Nat} (h:j<l.length):opsR x (l.take (j+1))=opsR x (l.take j)++(if (decide ((l.getD j (opO 0 .zero)).kind=3) && (l.getD j (opO 0 .zero)).node.eqb x)=true then [⟨(l.getD j (opO 0 .zero)).after,(l.getD j (opO 0 .zero)).elem,(l.getD j (opO 0 .zero)).text⟩] else []):=by
 unfold opsR
 rw[takeD_succ h (opO 0 .zero),List.filter_append,List.map_append]
 congr 1
 generalize l.getD j (opO 0 .zero)=o
 cases e:(decide (o.kind=3) && o.node.eqb x)<;>simp[List.filter,e]
theorem nodes_any (L:List (Grp×GrX)) (A:Option Addr) (c:Nat) (d:Bool) (S:Nat→Prop) (w:World) (hl:L.length≤1000) (hlo:∀p∈L,p.1.ops.length≤1000) (hR:RowGr w A L) (hG:∀p∈L,GrG w S p):
  Calls Tryz.prog 142 #[.slice A L.length c,.bool d] w fun e w'=>∃A' c',e= .returned (.slice A' (nodesL d L).length c')∧w'.ownsRow w.heap.size 108 3 (.slice A' (nodesL d L).length c') (nodesL d L).length ((nodesL d L).flatMap idL)∧Below w.heap.size w w':=by
 obtain⟨i0,hi,hz0,hz1,hz2⟩:=info_parts info_id
 have HR:=hid hR
 have HG:=hid hG
 clear hR hG
 go_enter Tryz.func142,Tryz.ntmps142
 have HLO:=hid hlo
 clear hlo
 go_upto_region 3 with fail
 go_loopw [5,6] (fun o i wr=>∃(k:Nat) (A':Option Addr) (c' m:Nat),k≤L.length∧i= .int .i64 k∧o= .slice A' m c'∧m≤k*1000∧Hid (m=(nodesL d (L.take k)).length)∧Hid (wr.ownsRow w.heap.size 108 3 (.slice A' m c') m ((nodesL d (L.take k)).flatMap idL))∧Hid (Below w.heap.size w wr)) (fun o i _=>L.length-(RowKit.intOf i).toNat)
 case atStart=>exact⟨0,none,0,0,Nat.zero_le _,rfl,rfl,Nat.zero_le _,hid rfl,hid (World.ownsRow_nil _ _ _ _),hid (Below.refl _ _)⟩
 case round=>
  obtain⟨k,A',c',m,hk,rfl,rfl,hmk,HML,HO,HBr⟩:=hrel
  by_cases hlt:k<L.length
  ·have i1:(0:Int)≤(k:Int):=by omega
   have i2:(k:Int)<(L.length:Int):=by omega
   obtain⟨rb,ro,rfl,hrb,hrange⟩:=HR.out.range hlt
   have hst:nodesL d (L.take (k+1))=nodesL d (L.take k)++opsN d (L.getD k gp0).1.ops:=by rw[takeD_succ hlt gp0];simp[nodesL]
   have hop:=(HG.out _ (getD_memF hlt gp0)).ops
   have hol:=HLO.out _ (getD_memF hlt gp0)
   generalize nodesL d (L.take k)=N at *
   generalize L.getD k gp0=p at *
   obtain⟨⟨⟨t,r⟩,n,dv,⟨ut,ur⟩,ops⟩,⟨dA,dc,oA,oc⟩⟩:=p
   obtain⟨X,hX1,hX2⟩:=hop
   have hol:ops.length≤1000:=hol
   have HRW:=hid (fun W (hB:Below w.heap.size w W)=>show W.rangeAt rb (ro+k*7) [.int .i64 t,.int .i64 r,.int .i64 n,.slice dA dv.length dc,.int .i64 ut,.int .i64 ur,.slice oA ops.length oc] from rangeB hrange hrb hB)
   have HX1:=hid hX1
   have HST:=hid (show nodesL d (L.take (k+1))=N++opsN d ops from hst)
   have hsz:=HBr.out.size
   clear hrange hrb hst hX1 hX2
   generalize wr=w0 at *
   go_upto_region 6 with fail
   go_loopw [5,7] (fun o i wr=>∃(j:Nat) (A':Option Addr) (c' m:Nat),j≤ops.length∧i= .int .i64 j∧o= .slice A' m c'∧m≤k*1000+j∧Hid (m=(N++opsN d (ops.take j)).length)∧Hid (wr.ownsRow w.heap.size 108 3 (.slice A' m c') m ((N++opsN d (ops.take j)).flatMap idL))∧Hid (Below w.heap.size w wr)) (fun o i _=>ops.length-(RowKit.intOf i).toNat)
   case atStart=>exact⟨0,A',c',m,Nat.zero_le _,rfl,rfl,hmk,hid (by rw[HML.out];simp[opsN]),hid (by have h9:=HO.out;simpa[opsN] using h9),HBr⟩
   case round=>
    obtain⟨j,A',c',m,hj,rfl,rfl,hmj,HML,HO,HBr⟩:=hrel
    have HRG:=hid (HRW.out wr HBr.out)
    have hszr:=HBr.out.size
    have g6:wr.cell? ⟨rb,ro+k*7+6,none⟩=some (.slice oA ops.length oc):=HRG.out 6 _ rfl
    by_cases hjl:j<ops.length
    ·have j1:(0:Int)≤(j:Int):=by omega
     have j2:(j:Int)<(ops.length:Int):=by omega
     obtain⟨ob,oo,rfl,-,hob,hoc⟩:=HX1.out j hjl
     have hor:=op_range hoc
     have hst2:=opsN_succ d hjl
     generalize ops.getD j (opO 0 .zero)=o at *
     generalize X j=x at *
     obtain⟨kd,⟨⟨nt,nr⟩,ni⟩,⟨⟨pt,pr⟩,pi⟩,nm,dd,dots,⟨⟨at_,ar⟩,ai⟩,⟨⟨et,er⟩,ei⟩,tx,elems⟩:=o
     obtain⟨sA,sc,eA,ec⟩:=x
     have HOR:=hid (fun W (hB:Below w.heap.size w W)=>show W.rangeAt ob (oo+j*18) [.int .i64 kd,.int .i64 nt,.int .i64 nr,.int .i64 ni,.int .i64 pt,.int .i64 pr,.int .i64 pi,.string nm,.bool dd,.slice sA dots.length sc,.int .i64 at_,.int .i64 ar,.int .i64 ai,.int .i64 et,.int .i64 er,.int .i64 ei,.string tx,.slice eA elems.length ec] from rangeB hor hob hB)
     have HS2:=hid hst2
     clear hor hob hoc hst2
     obtain⟨b1,hb1⟩:∃b,b=decide (kd=0):=⟨_,rfl⟩
     obtain⟨b2,hb2⟩:∃b,b=(dd == d):=⟨_,rfl⟩
     have q1:(kd == 0)=b1:=by rw[hb1];rfl
     have q2:(dd == d)=b2:=hb2.symm
     have HS2:=hid (show opsN d (ops.take (j+1))=opsN d (ops.take j)++(if (b1 && b2)=true then [⟨⟨nt,nr⟩,ni⟩] else []) by rw[HS2.out,hb1,hb2])
     have HOw:=hid (HOR.out wr HBr.out)
     have z0:wr.cell? ⟨ob,oo+j*18,none⟩=some (.int .i64 kd):=HOw.out 0 _ rfl
     have z8:wr.cell? ⟨ob,oo+j*18+8,none⟩=some (.bool dd):=HOw.out 8 _ rfl
     have HNW:=hid (show wr.rangeAt ob (oo+j*18+1) [.int .i64 nt,.int .i64 nr,.int .i64 ni] from range_mid (pre:=[.int .i64 kd]) (post:=[.int .i64 pt,.int .i64 pr,.int .i64 pi,.string nm,.bool dd,.slice sA dots.length sc,.int .i64 at_,.int .i64 ar,.int .i64 ai,.int .i64 et,.int .i64 er,.int .i64 ei,.string tx,.slice eA elems.length ec]) HOw.out)
     clear hb1 hb2
     cases b1 with
     |false=>
      go_wp2
      go_roundw
      case rel=>exact⟨j+1,A',c',m,by omega,by go_num,rfl,by omega,hid (by rw[HS2.out];simpa using HML.out),hid (by rw[HS2.out];simpa using HO.out),HBr⟩
      case measure=>(simp[RowKit.intOf];omega)
     | true=>
      cases b2 with
      |false=>
       go_wp2
       go_roundw
       case rel=>exact⟨j+1,A',c',m,by omega,by go_num,rfl,by omega,hid (by rw[HS2.out];simpa using HML.out),hid (by rw[HS2.out];simpa using HO.out),HBr⟩
       case measure=>(simp[RowKit.intOf];omega)
      | true=>
       go_wp2_with (first
        |(refine wpList_load_mid rfl _ _ rfl ob (oo+j*18+1) rfl [.int .i64 nt,.int .i64 nr,.int .i64 ni] _ HNW.out Tryz.underlying108 rfl (by kernel_rfl) ?_)
        |(at_builtin;refine wpList_append_lies _ rfl _ _ 123 rfl w.heap.size 108 i0 (.agg #[.int .i64 0,.int .i64 0,.int .i64 0]) 3 24 Tryz.underlying123 hi hz0 hz1 hz2 rfl (by decide) (.slice A' m c') m _ rfl (by exact HO.out.alloc _) ⟨wr.heap.size,0,none⟩ 1 1 [.int .i64 nt,.int .i64 nr,.int .i64 ni] rfl rfl (fun j y h=>cellsN wr [.int .i64 nt,.int .i64 nr,.int .i64 ni] 108 j y h) (oc_of (c:=#[.int .i64 nt,.int .i64 nr,.int .i64 ni]) rfl) (by decide) (by unfold maxLen;omega) (by omega) (by simp;omega) (wr.heap.size+1) (by simp) ?_;intro gq cap w5 hown hgrow ha hlt5;have HO5:=hid hown;have HB5:=hid ((HBr.out.alloc hszr _).grown hgrow (by simp;omega) (fun b hb=>(HO.out.lt b hb).1));clear hown hgrow ha hlt5))
       go_roundw
       case rel=>exact⟨j+1,some ⟨gq,0,none⟩,cap,m+1,by omega,by go_num,rfl,by omega,hid (by rw[HS2.out,if_pos (show(true && true)=true from rfl),←List.append_assoc,List.length_append,←HML.out];rfl),hid (by rw[HS2.out,if_pos (show(true && true)=true from rfl),←List.append_assoc,List.flatMap_append];exact HO5.out),HB5⟩
       case measure=>(simp[RowKit.intOf];omega)
    ·obtain rfl:j=ops.length:=by omega
     have j2:¬(ops.length:Int)<(ops.length:Int):=by omega
     have HM9:=hid (show m=(nodesL d (L.take (k+1))).length by rw[HST.out];have h9:=HML.out;rw[List.take_length] at h9;exact h9)
     have HO9:=hid (show wr.ownsRow w.heap.size 108 3 (.slice A' m c') m ((nodesL d (L.take (k+1))).flatMap idL) by rw[HST.out];have h9:=HO.out;rw[List.take_length] at h9;exact h9)
     go_wp2
     go_roundw
     case rel=>exact⟨k+1,A',c',m,by omega,by go_num,rfl,by omega,HM9,HO9,HBr⟩
     case measure=>(simp[RowKit.intOf];omega)
  ·obtain rfl:k=L.length:=by omega
   have i2:¬(L.length:Int)<(L.length:Int):=by omega
   have HM9:=hid (show m=(nodesL d L).length by have h9:=HML.out;rw[List.take_length] at h9;exact h9)
   have HO9:=hid (show wr.ownsRow w.heap.size 108 3 (.slice A' m c') m ((nodesL d L).flatMap idL) by have h9:=HO.out;rw[List.take_length] at h9;exact h9)
   go_wp2
   go_ret
   refine⟨A',c',by rw[←HM9.out];rfl,?_,HBr.out⟩
   rw[←HM9.out];exact HO9.out
theorem runs_any (L:List (Grp×GrX)) (A:Option Addr) (c:Nat) (xt xr xi:Int) (S:Nat→Prop) (w00:World) (hl:L.length≤1000) (hlo:∀p∈L,p.1.ops.length≤1000) (hR:RowGr w00 A L) (hG:∀p∈L,GrG w00 S p):
  Calls Tryz.prog 115 #[.slice A L.length c,.agg #[.int .i64 xt,.int .i64 xr,.int .i64 xi]] w00 fun e w'=>∃A' c',e= .returned (.slice A' (runsL ⟨⟨xt,xr⟩,xi⟩ L).length c')∧w'.ownsRow w00.heap.size 238 7 (.slice A' (runsL ⟨⟨xt,xr⟩,xi⟩ L).length c') (runsL ⟨⟨xt,xr⟩,xi⟩ L).length ((runsL ⟨⟨xt,xr⟩,xi⟩ L).flatMap rnL)∧Below w00.heap.size w00 w':=by
 obtain⟨i0,hi,hz0,hz1,hz2⟩:=info_parts info_rn
 have hb0:Below w00.heap.size w00 (w00.alloc (.cells #[.int .i64 xt,.int .i64 xr,.int .i64 xi] 108)):=(Below.refl _ _).alloc (Nat.le_refl _) _
 have HB0:=hid hb0
 have HXC:=hid (heap_alloc_new w00 (.cells #[.int .i64 xt,.int .i64 xr,.int .i64 xi] 108))
 have HR:=hid (hR.below hb0)
 have HG:=hid (fun p hp=>(hG p hp).agr (Agr.below hb0))
 clear hR hG hb0
 go_enter Tryz.func115,Tryz.ntmps115
 go_upto_region 1 with fail
 generalize hW:w00.alloc (.cells #[.int .i64 xt,.int .i64 xr,.int .i64 xi] 108)=w at *
 clear hW
 generalize hxb:w00.heap.size=xb at *
 have HXB:=hid hxb
 clear hxb
 have HLO:=hid hlo
 clear hlo
 go_upto_region 3 with fail
 go_loopw [5,6] (fun o i wr=>∃(k:Nat) (A':Option Addr) (c' m:Nat),k≤L.length∧i= .int .i64 k∧o= .slice A' m c'∧m≤k*1000∧Hid (m=(runsL ⟨⟨xt,xr⟩,xi⟩ (L.take k)).length)∧Hid (wr.ownsRow w.heap.size 238 7 (.slice A' m c') m ((runsL ⟨⟨xt,xr⟩,xi⟩ (L.take k)).flatMap rnL))∧Hid (Below w.heap.size w wr)) (fun o i _=>L.length-(RowKit.intOf i).toNat)
 case atStart=>exact⟨0,none,0,0,Nat.zero_le _,rfl,rfl,Nat.zero_le _,hid rfl,hid (World.ownsRow_nil _ _ _ _),hid (Below.refl _ _)⟩
 case round=>
  obtain⟨k,A',c',m,hk,rfl,rfl,hmk,HML,HO,HBr⟩:=hrel
  by_cases hlt:k<L.length
  ·have i1:(0:Int)≤(k:Int):=by omega
   have i2:(k:Int)<(L.length:Int):=by omega
   obtain⟨rb,ro,rfl,hrb,hrange⟩:=HR.out.range hlt
   have hst:runsL ⟨⟨xt,xr⟩,xi⟩ (L.take (k+1))=runsL ⟨⟨xt,xr⟩,xi⟩ (L.take k)++opsR ⟨⟨xt,xr⟩,xi⟩ (L.getD k gp0).1.ops:=by rw[takeD_succ hlt gp0];simp[runsL]
   have hop:=(HG.out _ (getD_memF hlt gp0)).ops
   have hol:=HLO.out _ (getD_memF hlt gp0)
   generalize runsL ⟨⟨xt,xr⟩,xi⟩ (L.take k)=N at *
   generalize L.getD k gp0=p at *
   obtain⟨⟨⟨t,r⟩,n,dv,⟨ut,ur⟩,ops⟩,⟨dA,dc,oA,oc⟩⟩:=p
   obtain⟨X,hX1,hX2⟩:=hop
   have hol:ops.length≤1000:=hol
   have HRW:=hid (fun W (hB:Below w.heap.size w W)=>show W.rangeAt rb (ro+k*7) [.int .i64 t,.int .i64 r,.int .i64 n,.slice dA dv.length dc,.int .i64 ut,.int .i64 ur,.slice oA ops.length oc] from rangeB hrange hrb hB)
   have HX1:=hid hX1
   have HST:=hid (show runsL ⟨⟨xt,xr⟩,xi⟩ (L.take (k+1))=N++opsR ⟨⟨xt,xr⟩,xi⟩ ops from hst)
   have hsz:=HBr.out.size
   clear hrange hrb hst hX1 hX2
   generalize wr=w0 at *
   go_upto_region 6 with fail
   go_loopw [5,7] (fun o i wr=>∃(j:Nat) (A':Option Addr) (c' m:Nat),j≤ops.length∧i= .int .i64 j∧o= .slice A' m c'∧m≤k*1000+j∧Hid (m=(N++opsR ⟨⟨xt,xr⟩,xi⟩ (ops.take j)).length)∧Hid (wr.ownsRow w.heap.size 238 7 (.slice A' m c') m ((N++opsR ⟨⟨xt,xr⟩,xi⟩ (ops.take j)).flatMap rnL))∧Hid (Below w.heap.size w wr)) (fun o i _=>ops.length-(RowKit.intOf i).toNat)
   case atStart=>exact⟨0,A',c',m,Nat.zero_le _,rfl,rfl,hmk,hid (by rw[HML.out];simp[opsR]),hid (by have h9:=HO.out;simpa[opsR] using h9),HBr⟩
   case round=>
    obtain⟨j,A',c',m,hj,rfl,rfl,hmj,HML,HO,HBr⟩:=hrel
    have HRG:=hid (HRW.out wr HBr.out)
    have hszr:=HBr.out.size
    have g6:wr.cell? ⟨rb,ro+k*7+6,none⟩=some (.slice oA ops.length oc):=HRG.out 6 _ rfl
    by_cases hjl:j<ops.length
    ·have j1:(0:Int)≤(j:Int):=by omega
     have j2:(j:Int)<(ops.length:Int):=by omega
     obtain⟨ob,oo,rfl,-,hob,hoc⟩:=HX1.out j hjl
     have hor:=op_range hoc
     have hst2:=opsR_succ ⟨⟨xt,xr⟩,xi⟩ hjl
     generalize ops.getD j (opO 0 .zero)=o at *
     generalize X j=x at *
     obtain⟨kd,⟨⟨nt,nr⟩,ni⟩,⟨⟨pt,pr⟩,pi⟩,nm,dd,dots,⟨⟨at_,ar⟩,ai⟩,⟨⟨et,er⟩,ei⟩,tx,elems⟩:=o
     obtain⟨sA,sc,eA,ec⟩:=x
     have HOR:=hid (fun W (hB:Below w.heap.size w W)=>show W.rangeAt ob (oo+j*18) [.int .i64 kd,.int .i64 nt,.int .i64 nr,.int .i64 ni,.int .i64 pt,.int .i64 pr,.int .i64 pi,.string nm,.bool dd,.slice sA dots.length sc,.int .i64 at_,.int .i64 ar,.int .i64 ai,.int .i64 et,.int .i64 er,.int .i64 ei,.string tx,.slice eA elems.length ec] from rangeB hor hob hB)
     have HS2:=hid hst2
     clear hor hob hoc hst2
     obtain⟨b1,hb1⟩:∃b,b=decide (kd=3):=⟨_,rfl⟩
     obtain⟨b2,hb2⟩:∃b,b=Gid.eqb ⟨⟨nt,nr⟩,ni⟩ ⟨⟨xt,xr⟩,xi⟩:=⟨_,rfl⟩
     have q1:(kd == 3)=b1:=by rw[hb1];rfl
     have q2:=eq_id nt nr ni xt xr xi b2 hb2.symm
     have HS2:=hid (show opsR ⟨⟨xt,xr⟩,xi⟩ (ops.take (j+1))=opsR ⟨⟨xt,xr⟩,xi⟩ (ops.take j)++(if (b1 && b2)=true then [(⟨⟨⟨at_,ar⟩,ai⟩,⟨⟨et,er⟩,ei⟩,tx⟩:Rn)] else []) by rw[HS2.out,hb1,hb2])
     have HOw:=hid (HOR.out wr HBr.out)
     clear hb1 hb2
     go_upto_region 9 with(first
      |(refine wpList_load_mid rfl _ _ rfl ob (oo+j*18) rfl [.int .i64 kd,.int .i64 nt,.int .i64 nr,.int .i64 ni,.int .i64 pt,.int .i64 pr,.int .i64 pi,.string nm,.bool dd,.slice sA dots.length sc,.int .i64 at_,.int .i64 ar,.int .i64 ai,.int .i64 et,.int .i64 er,.int .i64 ei,.string tx,.slice eA elems.length ec] _ HOw.out Tryz.underlying125 rfl (by kernel_rfl) ?_)
      |(refine store_last rfl _ _ _ rfl _ _ _ _ rfl ?_ rfl ?_ ?_ ?_ ?_;(focus(simp;done));kernel_rfl;rfl;rfl))
     have hba:=HBr.out.alloc hszr (.cells #[.int .i64 kd,.int .i64 nt,.int .i64 nr,.int .i64 ni,.int .i64 pt,.int .i64 pr,.int .i64 pi,.string nm,.bool dd,.slice sA dots.length sc,.int .i64 at_,.int .i64 ar,.int .i64 ai,.int .i64 et,.int .i64 er,.int .i64 ei,.string tx,.slice eA elems.length ec] 125)
     have hbx:Below wr.heap.size wr (wr.alloc (.cells #[.int .i64 kd,.int .i64 nt,.int .i64 nr,.int .i64 ni,.int .i64 pt,.int .i64 pr,.int .i64 pi,.string nm,.bool dd,.slice sA dots.length sc,.int .i64 at_,.int .i64 ar,.int .i64 ai,.int .i64 et,.int .i64 er,.int .i64 ei,.string tx,.slice eA elems.length ec] 125)):=(Below.refl _ _).alloc (Nat.le_refl _) _
     have HCX:=hid (heap_alloc_new wr (.cells #[.int .i64 kd,.int .i64 nt,.int .i64 nr,.int .i64 ni,.int .i64 pt,.int .i64 pr,.int .i64 pi,.string nm,.bool dd,.slice sA dots.length sc,.int .i64 at_,.int .i64 ar,.int .i64 ai,.int .i64 et,.int .i64 er,.int .i64 ei,.string tx,.slice eA elems.length ec] 125))
     have HXr:=hid ((hba.block xb (lt_of_block HXC.out)).trans HXC.out)
     generalize hW:wr.alloc (.cells #[.int .i64 kd,.int .i64 nt,.int .i64 nr,.int .i64 ni,.int .i64 pt,.int .i64 pr,.int .i64 pi,.string nm,.bool dd,.slice sA dots.length sc,.int .i64 at_,.int .i64 ar,.int .i64 ai,.int .i64 et,.int .i64 er,.int .i64 ei,.string tx,.slice eA elems.length ec] 125)=W at *
     have HBW:=hid hba
     have hszW:=hba.size
     have HOW:=hid (HO.out.kept (gby_below (r:=none) hbx) (Classical.em _))
     clear hW hba hbx
     have z0:W.cell? ⟨wr.heap.size,0,none⟩=some (.int .i64 kd):=cell_of_row _ _ _ _ _ _ HCX.out
     have z1:W.cell? ⟨wr.heap.size,1,none⟩=some (.int .i64 nt):=cell_of_row _ _ _ _ _ _ HCX.out
     have z2:W.cell? ⟨wr.heap.size,2,none⟩=some (.int .i64 nr):=cell_of_row _ _ _ _ _ _ HCX.out
     have z3:W.cell? ⟨wr.heap.size,3,none⟩=some (.int .i64 ni):=cell_of_row _ _ _ _ _ _ HCX.out
     have z16:W.cell? ⟨wr.heap.size,16,none⟩=some (.string tx):=cell_of_row _ _ _ _ _ _ HCX.out
     have x0:W.cell? ⟨xb,0,none⟩=some (.int .i64 xt):=cell_of_row _ _ _ _ _ _ HXr.out
     have x1:W.cell? ⟨xb,1,none⟩=some (.int .i64 xr):=cell_of_row _ _ _ _ _ _ HXr.out
     have x2:W.cell? ⟨xb,2,none⟩=some (.int .i64 xi):=cell_of_row _ _ _ _ _ _ HXr.out
     have HRB:=hid (show W.rangeAt wr.heap.size 0 [.int .i64 kd,.int .i64 nt,.int .i64 nr,.int .i64 ni,.int .i64 pt,.int .i64 pr,.int .i64 pi,.string nm,.bool dd,.slice sA dots.length sc,.int .i64 at_,.int .i64 ar,.int .i64 ai,.int .i64 et,.int .i64 er,.int .i64 ei,.string tx,.slice eA elems.length ec] from range_of_block HCX.out)
     have HA1:=hid (show W.rangeAt wr.heap.size 10 [.int .i64 at_,.int .i64 ar,.int .i64 ai] from range_mid (pre:=[.int .i64 kd,.int .i64 nt,.int .i64 nr,.int .i64 ni,.int .i64 pt,.int .i64 pr,.int .i64 pi,.string nm,.bool dd,.slice sA dots.length sc]) (post:=[.int .i64 et,.int .i64 er,.int .i64 ei,.string tx,.slice eA elems.length ec]) HRB.out)
     have HE1:=hid (show W.rangeAt wr.heap.size 13 [.int .i64 et,.int .i64 er,.int .i64 ei] from range_mid (pre:=[.int .i64 kd,.int .i64 nt,.int .i64 nr,.int .i64 ni,.int .i64 pt,.int .i64 pr,.int .i64 pi,.string nm,.bool dd,.slice sA dots.length sc,.int .i64 at_,.int .i64 ar,.int .i64 ai]) (post:=[.string tx,.slice eA elems.length ec]) HRB.out)
     cases b1 with
     |false=>
      go_wp2
      go_roundw
      case rel=>exact⟨j+1,A',c',m,by omega,by go_num,rfl,by omega,hid (by rw[HS2.out];simpa using HML.out),hid (by rw[HS2.out];simpa using HOW.out),HBW⟩
      case measure=>(simp[RowKit.intOf];omega)
     | true=>
      cases b2 with
      |false=>
       go_wp2
       go_roundw
       case rel=>exact⟨j+1,A',c',m,by omega,by go_num,rfl,by omega,hid (by rw[HS2.out];simpa using HML.out),hid (by rw[HS2.out];simpa using HOW.out),HBW⟩
       case measure=>(simp[RowKit.intOf];omega)
      | true=>
       go_wp2_with (first
        |(refine wpList_load_mid rfl _ _ rfl wr.heap.size (10) rfl [.int .i64 at_,.int .i64 ar,.int .i64 ai] _ HA1.out Tryz.underlying108 rfl (by kernel_rfl) ?_)
        |(refine wpList_load_mid rfl _ _ rfl wr.heap.size (13) rfl [.int .i64 et,.int .i64 er,.int .i64 ei] _ HE1.out Tryz.underlying108 rfl (by kernel_rfl) ?_)
        |(at_builtin;refine wpList_append_lies _ rfl _ _ 171 rfl w.heap.size 238 i0 (.agg #[.int .i64 0,.int .i64 0,.int .i64 0,.int .i64 0,.int .i64 0,.int .i64 0,.string ⟨#[]⟩]) 7 64 Tryz.underlying171 hi hz0 hz1 hz2 rfl (by decide) (.slice A' m c') m _ rfl (by exact HOW.out.alloc _) ⟨W.heap.size,0,none⟩ 1 1 [.int .i64 at_,.int .i64 ar,.int .i64 ai,.int .i64 et,.int .i64 er,.int .i64 ei,.string tx] rfl rfl (fun j y h=>cellsN W [.int .i64 at_,.int .i64 ar,.int .i64 ai,.int .i64 et,.int .i64 er,.int .i64 ei,.string tx] 238 j y h) (oc_of (c:=#[.int .i64 at_,.int .i64 ar,.int .i64 ai,.int .i64 et,.int .i64 er,.int .i64 ei,.string tx]) rfl) (by decide) (by unfold maxLen;omega) (by omega) (by simp;omega) (W.heap.size+1) (by simp) ?_;intro gq cap w5 hown hgrow ha hlt5;have HO5:=hid hown;have HB5:=hid ((HBW.out.alloc hszW _).grown hgrow (by simp;omega) (fun b hb=>(HOW.out.lt b hb).1));clear hown hgrow ha hlt5))
       go_roundw
       case rel=>exact⟨j+1,some ⟨gq,0,none⟩,cap,m+1,by omega,by go_num,rfl,by omega,hid (by rw[HS2.out,if_pos (show(true && true)=true from rfl),←List.append_assoc,List.length_append,←HML.out];rfl),hid (by rw[HS2.out,if_pos (show(true && true)=true from rfl),←List.append_assoc,List.flatMap_append];exact HO5.out),HB5⟩
       case measure=>(simp[RowKit.intOf];omega)
    ·obtain rfl:j=ops.length:=by omega
     have j2:¬(ops.length:Int)<(ops.length:Int):=by omega
     have HM9:=hid (show m=(runsL ⟨⟨xt,xr⟩,xi⟩ (L.take (k+1))).length by rw[HST.out];have h9:=HML.out;rw[List.take_length] at h9;exact h9)
     have HO9:=hid (show wr.ownsRow w.heap.size 238 7 (.slice A' m c') m ((runsL ⟨⟨xt,xr⟩,xi⟩ (L.take (k+1))).flatMap rnL) by rw[HST.out];have h9:=HO.out;rw[List.take_length] at h9;exact h9)
     go_wp2
     go_roundw
     case rel=>exact⟨k+1,A',c',m,by omega,by go_num,rfl,by omega,HM9,HO9,HBr⟩
     case measure=>(simp[RowKit.intOf];omega)
  ·obtain rfl:k=L.length:=by omega
   have i2:¬(L.length:Int)<(L.length:Int):=by omega
   have HM9:=hid (show m=(runsL ⟨⟨xt,xr⟩,xi⟩ L).length by have h9:=HML.out;rw[List.take_length] at h9;exact h9)
   have HO9:=hid (show wr.ownsRow w.heap.size 238 7 (.slice A' m c') m ((runsL ⟨⟨xt,xr⟩,xi⟩ L).flatMap rnL) by have h9:=HO.out;rw[List.take_length] at h9;exact h9)
   obtain rfl:=HXB.out
   go_wp2
   go_ret
   refine⟨A',c',by rw[←HM9.out];rfl,?_,HB0.out.trans (HBr.out.mono HB0.out.size)⟩
   rw[←HM9.out];exact own_base HO9.out HB0.out.size
end
section
open Go.RowKit Go.Lib Go.Sort
set_option linter.unusedVariables false
def strL (t:ByteArray):List Value:=[.string t]
def SpR (r:Option Nat) (w:World) (e:Ending) (w':World):Prop:=match r with
 |none=>e= .returned (.tuple #[.slice none 0 0,.int .i64 60])∧Below w.heap.size w w'
 |some m=>∃A c,∃ps:List ByteArray,m=ps.length∧e= .returned (.tuple #[.slice A m c,.int .i64 0])∧w'.ownsRow w.heap.size 9 1 (.slice A m c) m (ps.flatMap strL)∧Below w.heap.size w w'
theorem split6_row (s:ByteArray) (w:World) (hs:s.size≤1000000):
  Calls Tryz.prog 193 #[.string s] w fun e w'=>SpR (cnt s.data.toList) w e w':=by
 obtain⟨R,hR⟩:∃R,R=cnt s.data.toList:=⟨_,rfl⟩
 rw[←hR]
 have HR:=hid hR
 clear hR
 obtain⟨i0,hi,hz0,hz1,hz2⟩:=info_parts infoStr
 go_enter Tryz.func193,Tryz.ntmps193
 go_wp2
 go_loopw [0,4] (fun t v wr=>∃T:ByteArray,∃(A:Option Addr) (m c:Nat),∃ps:List ByteArray,t= .string T∧v= .slice A m c∧T.size+m≤s.size∧Hid (m=ps.length)∧Hid (wr.ownsRow w.heap.size 9 1 (.slice A m c) m (ps.flatMap strL))∧Hid (Below w.heap.size w wr)∧Hid (R=cntAdd m (cnt T.data.toList))) (fun t _ _=>match t with| .string T=>T.size|_=>0)
 case atStart=>exact⟨s,none,0,0,[],rfl,rfl,by omega,hid rfl,hid (World.ownsRow_nil w w.heap.size 9 1),hid (Below.refl _ _),by
  show R=_
  rw[HR.out]
  cases cnt s.data.toList<;>rfl⟩
 case round=>
  obtain⟨T,A,m,c,ps,rfl,rfl,hm,HM,HO,HB,HC⟩:=hrel
  have hTl:T.data.toList.length=T.size:=by simp
  by_cases h0:0<T.size
  ·have hne:T.data.toList≠[]:=fun e=>by rw[e] at hTl;simp at hTl;omega
   have hF:=first_any T wr (by omega) h0
   cases hr:rfL T.data.toList with
   |none=>
    rw[hr] at hF
    obtain rfl:R=none:=by rw[HC.out,cntAdd_none hne m hr]
    have HF:Hid (Calls Tryz.prog 212 #[.string T] wr fun e w'=>e= .returned (.tuple #[.int .i64 0,.int .i64 0,.bool false])∧w'=wr):=hF
    clear hF hr hne hTl HO
    go_wp2_with fail
    refine HF.out.mono ?_
    rintro e w1 ⟨rfl,rfl⟩
    go_wp2
    go_ret2
    exact⟨rfl,HB.out⟩
   | some p=>
    obtain⟨cp,k⟩:=p
    rw[hr] at hF
    have hk:=rfL_width hne hr
    rw[hTl] at hk
    have HC2:Hid (R=cntAdd (m+1) (cnt (T.extract k T.size).data.toList)):=by
     show R=_
     rw[HC.out,cntAdd_step hne m hr,drop_ext]
    have HF:Hid (Calls Tryz.prog 212 #[.string T] wr fun e w'=>e= .returned (.tuple #[.int .i64 (cp:Nat),.int .i64 (k:Nat),.bool true])∧w'=wr):=hF
    obtain⟨hk1,hk2⟩:=hk
    have b1:(0:Int)≤(k:Int):=by omega
    have b2:(k:Int)≤(T.size:Int):=by omega
    have hsz:=HB.out.size
    have hex:(T.extract k T.size).size=T.size-k:=by rw[ByteArray.size_extract];omega
    have HEX:=hid hex
    clear hF hr hne hTl hex
    go_wp2_with fail
    refine HF.out.mono ?_
    rintro e w1 ⟨rfl,rfl⟩
    have hO:=HO.out
    go_wp2_with (at_builtin;refine wpList_append_own _ rfl _ _ 60 rfl w.heap.size 9 i0 (.string ⟨#[]⟩) 1 16 Tryz.underlying60 hi hz0 hz1 hz2 rfl (by decide) _ _ _ rfl (by exact hO.alloc _) ⟨w1.heap.size,0,none⟩ 1 1 [.string (T.extract 0 k)] rfl rfl (by exact cell1 _ _ _) (fun u hu=>by simp at hu;subst hu;rfl) (by unfold maxLen;omega) (by omega) (by simp;omega) ?_;intro v' w3 hown' hgrow _)
    obtain⟨A',c',rfl⟩:∃A' c',v'=Value.slice A' (m+1) c':=by
     rcases hown'.2 with⟨rfl,h9⟩|⟨g,cap,cur,rfl,_⟩
     ·exact⟨_,_,by rw[show m+1=0 from h9]⟩
     ·exact⟨_,_,rfl⟩
    go_roundw
    case rel=>exact⟨_,A',m+1,c',ps++[T.extract 0 k],rfl,rfl,by rw[HEX.out];omega,hid (by rw[List.length_append,←HM.out];rfl),hid (by rw[List.flatMap_append];exact hown'),hid ((HB.out.alloc (by omega) _).grown hgrow (by simp;omega) (fun i h=>(hO.lt i h).1)),HC2⟩
    case measure=>show(T.extract k T.size).size<T.size;rw[HEX.out];omega
  ·have he:T.data.toList=[]:=by
    cases e:T.data.toList with
    |nil=>rfl
    |cons a l=>rw[e] at hTl;simp at hTl;omega
   obtain rfl:R=some m:=by rw[HC.out,he,cnt_nil];show some (0+m)=_;rw[Nat.zero_add]
   have hTs:T.size=0:=by omega
   obtain rfl:T=⟨#[]⟩:=bs_nil.1 he
   clear hTl he hTs
   go_wp2
   go_ret2
   exact⟨A,c,ps,HM.out,rfl,HO.out,HB.out⟩
end
end Go.Proofs.YtkhmicndehlneaaGreatDoor
