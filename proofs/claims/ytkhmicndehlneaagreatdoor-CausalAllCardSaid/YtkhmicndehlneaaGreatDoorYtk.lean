/- Part 11 of the walks and plain laws that this claim uses, joined. Conditions: as each theorem states. -/
import Derived.Deep.RegionLaw
import Derived.Laws.CopyOwn
import Derived.Test.YtkhmicndehlneaaGreatDoorYtj
namespace Go.Proofs.YtkhmicndehlneaaGreatDoor
set_option maxRecDepth 100000
set_option maxHeartbeats 16000000
section
open Go.RowKit Go.Lib Go.Sort
set_option linter.unusedVariables false
theorem covers_any (A B:Option Addr) (c d:Nat) (v u:List Int) (w:World) (hv:v.length≤9223372036854775806) (hu:u.length≤9223372036854775806) (hA:VecR w A v) (hB:VecR w B u):
  Calls Tryz.prog 98 #[.slice A v.length c,.slice B u.length d] w fun e w'=>e= .returned (.bool (covB v u))∧w'=w:=by
 obtain⟨ans,hans⟩:∃r,r=covB v u:=⟨_,rfl⟩
 rw[←hans]
 obtain⟨m,hm⟩:∃m,m=max v.length u.length:=⟨_,rfl⟩
 have HANS:=hid (show ans=allIx m fun r=>decide (u.getD r 0≤v.getD r 0) by rw[hans,hm];rfl)
 have hm2:=hid hm
 have hml:m≤9223372036854775806:=by omega
 have CA:=hid (fun r=>at_any A c v r w (by omega) hA)
 have CB:=hid (fun r=>at_any B d u r w (by omega) hB)
 clear hans hm hA hB
 go_enter Tryz.func98,Tryz.ntmps98
 by_cases hlt0:(v.length:Int)<(u.length:Int)
 all_goals
  go_wp2_with fail
  first
   |rw[show max (v.length:Int) (u.length:Int)=(m:Int) from by have:=hm2.out;omega]
   |rw[show(u.length:Int)=(m:Int) from by have:=hm2.out;omega]
   |rw[show(v.length:Int)=(m:Int) from by have:=hm2.out;omega]
  clear hlt0
  go_loop [11] (fun i=>∃k:Nat,i= .int .i64 k∧k≤m∧Hid (∀j,j<k→decide (u.getD j 0≤v.getD j 0)=true)) (fun i=>m-(RowKit.intOf i).toNat)
  case atStart=>exact⟨0,rfl,Nat.zero_le _,hid (fun j hj=>absurd hj (Nat.not_lt_zero j))⟩
  case round=>
   obtain⟨k,rfl,hk,HK⟩:=hrel
   by_cases hlt:k<m
   ·have i1:(k:Int)<(m:Int):=by omega
    have ha:atV v ((k:Int)+1)=v.getD k 0:=atV_in
    have hb:atV u ((k:Int)+1)=u.getD k 0:=atV_in
    have CA1:=hid (CA.out ((k:Int)+1))
    have CB1:=hid (CB.out ((k:Int)+1))
    rw[ha] at CA1
    rw[hb] at CB1
    obtain⟨x,hx⟩:∃x,x=v.getD k 0:=⟨_,rfl⟩
    obtain⟨y,hy⟩:∃y,y=u.getD k 0:=⟨_,rfl⟩
    rw[←hx] at CA1
    rw[←hy] at CB1
    have HX:=hid hx
    have HY:=hid hy
    clear ha hb hx hy
    by_cases hle:y≤x
    ·have t1:¬x<y:=by omega
     have t2:decide (x<y)=false:=decide_eq_false t1
     have HK2:=hid (show ∀j,j<k+1→decide (u.getD j 0≤v.getD j 0)=true from fun j hj=>if h:j<k then HK.out j h else (by(obtain rfl:j=k:=(by omega));rw[←HX.out,←HY.out];exact decide_eq_true hle))
     go_wp2_with fail
     refine CA1.out.mono ?_
     rintro e w1 ⟨rfl,rfl⟩
     go_wp2_with fail
     refine CB1.out.mono ?_
     rintro e w1 ⟨rfl,rfl⟩
     go_wp2
     go_round
     case rel=>exact⟨k+1,by go_num,by omega,HK2⟩
     case measure=>simp[RowKit.intOf];omega
    ·have t1:x<y:=by omega
     have t2:decide (x<y)=true:=decide_eq_true t1
     obtain rfl:ans=false:=by rw[HANS.out];exact allIx_false hlt (by rw[←HX.out,←HY.out];exact decide_eq_false hle)
     go_wp2_with fail
     refine CA1.out.mono ?_
     rintro e w1 ⟨rfl,rfl⟩
     go_wp2_with fail
     refine CB1.out.mono ?_
     rintro e w1 ⟨rfl,rfl⟩
     go_wp2
     go_ret
     exact⟨rfl,rfl⟩
   ·obtain rfl:k=m:=by omega
    obtain rfl:ans=true:=by rw[HANS.out];exact allIx_true HK.out
    have i2:¬(k:Int)<(k:Int):=by omega
    go_wp2
    go_ret
    exact⟨rfl,rfl⟩
theorem refcovers_any (A B:Option Addr) (c d:Nat) (v u:List Int) (w:World) (hv:v.length≤9223372036854775800) (hu:u.length≤9223372036854775800) (hA:VecR w A v) (hB:VecR w B u):
  Calls Tryz.prog 38 #[.slice A v.length c,.slice B u.length d] w fun e w'=>e= .returned (.bool (covB v u))∧w'=w:=by
 obtain⟨ans,hans⟩:∃r,r=covB v u:=⟨_,rfl⟩
 rw[←hans]
 obtain⟨m,hm⟩:∃m,m=max v.length u.length:=⟨_,rfl⟩
 have HANS:=hid (show ans=allIx m fun r=>decide (u.getD r 0≤v.getD r 0) by rw[hans,hm];rfl)
 have hml:m≤9223372036854775806:=by omega
 have HM:=hid hm
 have CA:=hid (fun r=>refat_any A c v r w (by omega) hA)
 have CB:=hid (fun r=>refat_any B d u r w (by omega) hB)
 clear hans hm hA hB
 go_enter Tryz.func38,Tryz.ntmps38
 by_cases hlt0:(v.length:Int)<(u.length:Int)
 all_goals
  go_wp2_with fail
  go_loop [5] (fun i=>∃k:Nat,i= .int .i64 ((k:Int)+1)∧k≤m∧Hid (∀j,j<k→decide (u.getD j 0≤v.getD j 0)=true)) (fun i=>m+1-(RowKit.intOf i).toNat)
  case atStart=>exact⟨0,by go_num,Nat.zero_le _,hid (fun j hj=>absurd hj (Nat.not_lt_zero j))⟩
  case round=>
   obtain⟨k,rfl,hk,HK⟩:=hrel
   by_cases hlt:k<m
   ·have i1:(k:Int)+1≤(u.length:Int)∨(k:Int)+1≤(v.length:Int):=by have:=HM.out;omega
    have i2:(k:Int)+1≤(m:Int):=by omega
    have ha:atV v ((k:Int)+1)=v.getD k 0:=atV_in
    have hb:atV u ((k:Int)+1)=u.getD k 0:=atV_in
    have CA1:=hid (CA.out ((k:Int)+1))
    have CB1:=hid (CB.out ((k:Int)+1))
    rw[ha] at CA1
    rw[hb] at CB1
    obtain⟨x,hx⟩:∃x,x=v.getD k 0:=⟨_,rfl⟩
    obtain⟨y,hy⟩:∃y,y=u.getD k 0:=⟨_,rfl⟩
    rw[←hx] at CA1
    rw[←hy] at CB1
    have HX:=hid hx
    have HY:=hid hy
    have tU:(v.length:Int)<(u.length:Int)→(k:Int)+1≤(u.length:Int):=fun h=>by omega
    have tV:¬(v.length:Int)<(u.length:Int)→(k:Int)+1≤(v.length:Int):=fun h=>by omega
    first
     |(have tt:=tU hlt0)
     |(have tt:=tV (Int.not_lt.2 hlt0))
    have td:=decide_eq_true tt
    clear ha hb hx hy i1 tU tV
    by_cases hle:y≤x
    ·have t1:¬x<y:=by omega
     have t2:decide (x<y)=false:=decide_eq_false t1
     have HK2:=hid (show ∀j,j<k+1→decide (u.getD j 0≤v.getD j 0)=true from fun j hj=>if h:j<k then HK.out j h else (by(obtain rfl:j=k:=(by omega));rw[←HX.out,←HY.out];exact decide_eq_true hle))
     go_wp2_with fail
     refine CA1.out.mono ?_
     rintro e w1 ⟨rfl,rfl⟩
     go_wp2_with fail
     refine CB1.out.mono ?_
     rintro e w1 ⟨rfl,rfl⟩
     go_wp2
     go_round
     case rel=>exact⟨k+1,by go_num,by omega,HK2⟩
     case measure=>simp[RowKit.intOf];omega
    ·have t1:x<y:=by omega
     have t2:decide (x<y)=true:=decide_eq_true t1
     obtain rfl:ans=false:=by rw[HANS.out];exact allIx_false hlt (by rw[←HX.out,←HY.out];exact decide_eq_false hle)
     go_wp2_with fail
     refine CA1.out.mono ?_
     rintro e w1 ⟨rfl,rfl⟩
     go_wp2_with fail
     refine CB1.out.mono ?_
     rintro e w1 ⟨rfl,rfl⟩
     go_wp2
     go_ret
     exact⟨rfl,rfl⟩
   ·obtain rfl:k=m:=by omega
    obtain rfl:ans=true:=by rw[HANS.out];exact allIx_true HK.out
    have tU:(v.length:Int)<(u.length:Int)→¬(k:Int)+1≤(u.length:Int):=fun h=>by have:=HM.out;omega
    have tV:¬(v.length:Int)<(u.length:Int)→¬(k:Int)+1≤(v.length:Int):=fun h=>by have:=HM.out;omega
    first
     |(have tt:=tU hlt0)
     |(have tt:=tV (Int.not_lt.2 hlt0))
    have td:=decide_eq_false tt
    clear tU tV
    go_wp2
    go_ret
    exact⟨rfl,rfl⟩
end
section
open Go.RowKit Go.Lib Go.Sort
set_option linter.unusedVariables false
attribute [local go_sem ↓] Go.wp_at_zero Go.wp_at_succ
theorem vec_own {w:World} {B:Nat} {A:Option Addr} {c:Nat} {xs:List Int} {E:TypeId} (h:w.ownsRow B E 1 (.slice A xs.length c) xs.length (xs.flatMap intC_)):VecS w (fun k=>B≤k) A xs:=by
 refine rowG_own h fun k j hk hj=> ?_
 rw[flat_get (s:=1) (fun _=>rfl) xs k j 0 hk hj]
 rcases j with _|j
 ·rfl
 ·omega
theorem infoIw:(Tryz.prog.info? 3).map (fun i=>(i.zero,i.size,i.bytes))=some (some (.int .i64 0),1,8):=by kernel_rfl
theorem setV_len (v:List Int) (r n:Int):(setV v r n).length=max v.length r.toNat:=by unfold setV;simp
theorem vecS_plain {w:World} {S:Nat→Prop} {A:Option Addr} {xs:List Int} (h:VecS w S A xs):VecS w S A (plainV xs):=fun k hk=>by
 obtain⟨b,o,e,hS,hb,hc⟩:=h k (Nat.lt_of_lt_of_le hk (pv_len xs))
 exact⟨b,o,e,hS,hb,fun j hj=>by rw[hc j hj];simp only[pv_getD]⟩
theorem take_int (l:List Int) (k:Nat) (h:k<l.length):(l.take (k+1)).flatMap intC_=(l.take k).flatMap intC_++intC_ (l.getD k 0):=by
 rw[List.take_succ_eq_append_getElem h,List.flatMap_append]
 have:l.getD k 0=l[k]:=by rw[List.getD_eq_getElem?_getD,List.getElem?_eq_getElem h];rfl
 rw[this];simp
def WithQ (r:List Int) (w:World) (e:Ending) (w':World):Prop:=Below w.heap.size w w'∧∃A c,e= .returned (.tuple #[.slice A r.length c,.int .i64 0])∧VecS w' (fun k=>w.heap.size≤k) A r∧r.length≤c∧c≤maxLen
theorem refwith_any (A:Option Addr) (c:Nat) (v:List Int) (r n:Int) (w:World) (hv:v.length≤1000) (hr1:1≤r) (hr2:r≤16) (hA:VecR w A v):
  Calls Tryz.prog 56 #[.slice A v.length c,.int .i64 r,.int .i64 n] w fun e w'=>WithQ (withV v r n) w e w':=by
 obtain⟨xs,hxs⟩:∃xs,xs=setV v r n:=⟨_,rfl⟩
 have HW:=hid (show withV v r n=plainV xs by rw[hxs];rfl)
 have hxl:xs.length=max v.length r.toNat:=by rw[hxs,setV_len]
 have HXG:=hid (show ∀k:Nat,xs.getD k 0=if (k:Int)+1=r then n else v.getD k 0 from fun k=>by rw[hxs];exact setV_getD v r n k hr1)
 obtain⟨m,hm⟩:∃m,m=xs.length:=⟨_,rfl⟩
 have hml:m≤1000:=by omega
 have HM:=hid (show m=max v.length r.toNat by rw[hm,hxl])
 have HXL:=hid hm
 have HA:=hid hA
 rw[HW.out]
 obtain⟨i0,hi,hz0,hz1,hz2⟩:=info_parts infointC_
 have t1:¬r<1:=by omega
 have t2:¬16<r:=by omega
 have t3:decide (r<1)=false:=decide_eq_false t1
 have t4:decide (16<r)=false:=decide_eq_false t2
 clear hxs hxl hm hA
 go_enter Tryz.func56,Tryz.ntmps56
 by_cases hlt0:(v.length:Int)<r
 all_goals
  go_wp2_with fail
  clear t3 t4
  go_loopw [8,9] (fun o i wr=>∃k:Nat,i= .int .i64 ((k:Int)+1)∧k≤m∧wr.ownsRow w.heap.size 3 1 o k ((xs.take k).flatMap intC_)∧Hid (Below w.heap.size w wr)) (fun _ i _=>m+1-(RowKit.intOf i).toNat)
  case atStart=>exact⟨0,by go_num,Nat.zero_le _,⟨rfl,.inl ⟨rfl,rfl⟩⟩,hid (Below.refl _ _)⟩
  case round=>
   obtain⟨k,rfl,hk,hO,HB⟩:=hrel
   have tU:(v.length:Int)<r→((k:Int)+1≤r↔k<m):=fun h=>by have:=HM.out;omega
   have tV:¬(v.length:Int)<r→((k:Int)+1≤(v.length:Int)↔k<m):=fun h=>by have:=HM.out;omega
   by_cases hlt:k<m
   ·first
     |(have tt:=(tU hlt0).2 hlt)
     |(have tt:=(tV (Int.not_lt.2 hlt0)).2 hlt)
    have td:=decide_eq_true tt
    have HTK:=hid (take_int xs k (by rw[←HXL.out];exact hlt))
    have HBO:=hid (fun g e=>(hO.lt g e).1)
    have HO1:=hid hO
    have hsz:=HB.out.size
    clear hO tU tV
    by_cases hkr:(k:Int)+1=r
    ·have s1:((k:Int)+1 == r)=true:=by rw[beq_iff_eq];exact hkr
     have HX:=hid (show xs.getD k 0=n by rw[HXG.out,if_pos hkr])
     have HKR:=hid hkr
     clear hkr
     go_wp2_with (at_builtin;refine wpList_append_own _ rfl _ _ 27 rfl w.heap.size 3 i0 (.int .i64 0) 1 8 Tryz.underlying27 hi hz0 hz1 hz2 rfl (by decide) _ _ _ rfl (by exact HO1.out.alloc _) ⟨wr.heap.size,0,none⟩ 1 1 (intC_ n) rfl rfl (by exact cellsN _ _ _) (by exact ocintC_ _) (by unfold maxLen;omega) (by omega) (by simp;omega) ?_;intro v' w3 hown' hgrow _;have HO3:=hid hown';have HG3:=hid hgrow;clear hown' hgrow)
     go_roundw
     case rel=>exact⟨k+1,by go_num,by omega,by rw[HTK.out,HX.out];exact HO3.out,hid ((HB.out.alloc HB.out.size _).grown HG3.out (HB.out.alloc HB.out.size _).size (fun g e=>HBO.out g e))⟩
     case measure=>simp[RowKit.intOf];omega
    ·have s1:((k:Int)+1 == r)=false:=by rw[beq_eq_false_iff_ne];exact hkr
     have HX:=hid (show xs.getD k 0=v.getD k 0 by rw[HXG.out,if_neg hkr])
     have CA:=refat_any A c v ((k:Int)+1) wr (by omega) (HA.out.below HB.out)
     rw[show atV v ((k:Int)+1)=v.getD k 0 from atV_in] at CA
     obtain⟨y,hy⟩:∃y,y=v.getD k 0:=⟨_,rfl⟩
     rw[←hy] at CA
     have HY:=hid hy
     have HCA:=hid CA
     clear hkr CA hy
     go_wp2_with fail
     refine HCA.out.mono ?_
     rintro e w1 ⟨rfl,rfl⟩
     go_wp2_with (at_builtin;refine wpList_append_own _ rfl _ _ 27 rfl w.heap.size 3 i0 (.int .i64 0) 1 8 Tryz.underlying27 hi hz0 hz1 hz2 rfl (by decide) _ _ _ rfl (by exact HO1.out.alloc _) ⟨w1.heap.size,0,none⟩ 1 1 (intC_ y) rfl rfl (by exact cellsN _ _ _) (by exact ocintC_ _) (by unfold maxLen;omega) (by omega) (by simp;omega) ?_;intro v' w3 hown' hgrow _;have HO3:=hid hown';have HG3:=hid hgrow;clear hown' hgrow)
     go_roundw
     case rel=>exact⟨k+1,by go_num,by omega,by rw[HTK.out,HX.out,←HY.out];exact HO3.out,hid ((HB.out.alloc HB.out.size _).grown HG3.out (HB.out.alloc HB.out.size _).size (fun g e=>HBO.out g e))⟩
     case measure=>simp[RowKit.intOf];omega
   ·obtain rfl:k=m:=by omega
    first
     |(have tt:¬((k:Int)+1≤r):=fun h=>hlt ((tU hlt0).1 h))
     |(have tt:¬((k:Int)+1≤(v.length:Int)):=fun h=>hlt ((tV (Int.not_lt.2 hlt0)).1 h))
    have td:=decide_eq_false tt
    obtain⟨o,oc,rfl⟩:=row_slice hO
    have hO2:wr.ownsRow w.heap.size 3 1 (.slice o xs.length oc) xs.length (xs.flatMap intC_):=by
     have:=hO
     rw[HXL.out,List.take_length] at this
     exact this
    have hVS:=vec_own hO2
    have hcap:=own_cap hO2
    have HVS:=hid hVS
    have HCP:=hid hcap
    have hcl:oc≤9223372036854775807:=by have:=hcap.2;unfold maxLen at this;omega
    have HPL:=hid (show Calls Tryz.prog 105 #[.slice o k oc] wr fun e w'=>e= .returned (.slice o (plainV xs).length oc)∧w'=wr by have:=refplain_any o oc xs wr hcap.1 (by omega) hVS.vec;rw[←HXL.out] at this;exact this)
    clear hO hO2 hVS hcap hlt tU tV
    go_wp2_with fail
    refine HPL.out.mono ?_
    rintro e w1 ⟨rfl,rfl⟩
    go_wp2
    go_ret2
    exact⟨HB.out,o,oc,rfl,vecS_plain HVS.out,by have:=pv_len xs;have:=HCP.out.1;omega,HCP.out.2⟩
theorem made_ints (n:Nat):madeCells #[Value.int .i64 0] n=(List.replicate n (Value.int .i64 0)).toArray:=by
 apply Array.ext_getElem?
 intro i
 unfold madeCells
 by_cases h:i<n
 ·simp[h,Nat.mod_one]
 ·simp[h]
theorem splice_ints (v:List Int) (m:Nat) (h:v.length≤m) (j:Nat) (hj:j<m):(splice (List.replicate m (Value.int .i64 0)) 0 (v.map (Value.int .i64)))[j]? =some (.int .i64 (v.getD j 0)):=by
 unfold splice
 rw[List.take_zero,List.nil_append,Nat.zero_add,List.length_map]
 by_cases h1:j<v.length
 ·rw[List.getElem?_append_left (by simpa using h1),List.getElem?_map,List.getD_eq_getElem?_getD,List.getElem?_eq_getElem h1];rfl
 ·rw[List.getElem?_append_right (by simp;omega),List.length_map,List.getElem?_drop,List.getElem?_replicate,if_pos (by omega),List.getD_eq_getElem?_getD,List.getElem?_eq_none (by omega)];rfl
theorem with_any (A:Option Addr) (c:Nat) (v:List Int) (q:Nat) (n:Int) (w:World) (hv:v.length≤1000) (hr2:q<16) (hA:VecR w A v):
  Calls Tryz.prog 99 #[.slice A v.length c,.int .i64 ((q:Int)+1),.int .i64 n] w fun e w'=>WithQ (withV v ((q:Int)+1) n) w e w':=by
 obtain⟨xs,hxs⟩:∃xs,xs=setV v ((q:Int)+1) n:=⟨_,rfl⟩
 have HW:=hid (show withV v ((q:Int)+1) n=plainV xs by rw[hxs];rfl)
 have hxl:xs.length=max v.length (q+1):=by rw[hxs,setV_len];congr 1
 have HXG:=hid (show ∀k:Nat,xs.getD k 0=if k=q then n else v.getD k 0 from fun k=>by
  rw[hxs,setV_getD v _ n k (by omega)]
  by_cases h:k=q
  ·rw[if_pos h,if_pos (by omega)]
  ·rw[if_neg h,if_neg (by omega)])
 obtain⟨m,hm⟩:∃m,m=xs.length:=⟨_,rfl⟩
 have hml:m≤1000:=by omega
 have hvm:v.length≤m:=by omega
 have hqm:q<m:=by omega
 have HM:=hid (show m=max v.length (q+1) by rw[hm,hxl])
 have HXL:=hid hm
 have HA:=hid hA
 rw[HW.out]
 have t1:¬(q:Int)+1<1:=by omega
 have t2:¬(16:Int)<(q:Int)+1:=by omega
 have t3:decide ((q:Int)+1<1)=false:=decide_eq_false t1
 have t4:decide ((16:Int)<(q:Int)+1)=false:=decide_eq_false t2
 have t5:(0:Int)≤(q:Int):=by omega
 have t6:(q:Int)<(m:Int):=by omega
 have hmk:=run_make_row' (P:=Tryz.prog) 175 3 (.int .i64 0) 8 Tryz.underlying175 infoIw rfl .i64 .i64 m (by omega) (by omega)
 have hinf:(Tryz.prog.info? 3).map (·.size)=some 1:=by kernel_rfl
 clear hxs hxl hm hA
 go_enter Tryz.func99,Tryz.ntmps99
 have hmax:max (v.length:Int) ((q:Int)+1)=(m:Int):=by have:=HM.out;omega
 go_upto_region 4 with fail
 have HV0:=hid (heap_alloc_new w (.cells (madeCells #[Value.int .i64 0] m) 3))
 rw[made_ints] at HV0 ⊢
 have HB0:=hid (show Below w.heap.size w (w.alloc (.cells (List.replicate m (Value.int .i64 0)).toArray 3)) from(Below.refl _ _).alloc (Nat.le_refl _) _)
 generalize hV:w.alloc (.cells (List.replicate m (Value.int .i64 0)).toArray 3)=V0 at *
 clear hV hmk
 have hcl:(v.map (Value.int .i64)).length=Nat.min v.length m:=by rw[List.length_map];exact(Nat.min_eq_left hvm).symm
 have hpos:0<(v.map (Value.int .i64)).length→(some (⟨w.heap.size,0,none⟩:Addr))=some ⟨w.heap.size,0,none⟩∧∃ad,A=some ad∧∀j u,(v.map (Value.int .i64))[j]? =some u→V0.cell? (ad.add j)=some u:=fun h=>by
  rw[List.length_map] at h
  obtain⟨ad,e0,hb0,-⟩:=(HA.out.below HB0.out) 0 h
  refine⟨rfl,ad,e0,fun j u hu=> ?_⟩
  have hj:j<v.length:=by have:=(List.getElem?_eq_some_iff.1 hu).1;simpa using this
  obtain⟨ad',e1,hb1,hc1⟩:=(HA.out.below HB0.out) j hj
  rw[e0] at e1
  cases e1
  rw[hc1]
  rw[List.getElem?_map,List.getElem?_eq_getElem hj] at hu
  show some (Value.int .i64 (v.getD j 0))=some u
  rw[List.getD_eq_getElem?_getD,List.getElem?_eq_getElem hj]
  exact hu
 have HPOS:=hid hpos
 have HCL:=hid hcl
 have h1c:∀u∈v.map (Value.int .i64),u.oneCell'=true:=fun u hu=>by obtain⟨x,-,rfl⟩:=List.mem_map.1 hu;rfl
 have hfit:0+(v.map (Value.int .i64)).length≤(List.replicate m (Value.int .i64 0)).length:=by simp;exact hvm
 clear hpos hcl
 go_upto_region 5 with(with_reducible refine wpList_copy_splice rfl _ _ 175 27 rfl 3 Tryz.underlying175 hinf (some ⟨w.heap.size,0,none⟩) A m m v.length c rfl rfl w.heap.size 0 (List.replicate m (Value.int .i64 0)) 3 HV0.out (v.map (Value.int .i64)) HCL.out HPOS.out hfit h1c w.heap.size w HB0.out (Nat.le_refl _) ?_;intro w1 HG1 hB1)
 have HB1:=hid hB1
 have hcell:∀j,j<m→w1.cell? ⟨w.heap.size,j,none⟩=some (.int .i64 (v.getD j 0)):=fun j hj=>by
  rw[crw HG1.out,List.getElem?_toArray]
  exact splice_ints v m hvm j hj
 have cq:=hcell q hqm
 have fq:w1.frozen? ⟨w.heap.size,q,none⟩=false:=frozen_of_row _ _ _ _ _ HG1.out
 have hVR:VecR (w1.setCell ⟨w.heap.size,q,none⟩ (.int .i64 n)) (some ⟨w.heap.size,0,none⟩) xs:=fun k hk=>by
  refine⟨⟨w.heap.size,0,none⟩,rfl,by have:=lt_of_block HG1.out;simp;exact this,?_⟩
  show _=some (Value.int .i64 (xs.getD k 0))
  rw[add_zero',HXG.out]
  by_cases hkq:k=q
  ·subst hkq;rw[if_pos rfl];exact World.cell?_setCell_same _ _ _ cq
  ·rw[if_neg hkq];exact(World.cell?_setCell_other _ _ _ _ (by intro e;injection e with _ e2;exact hkq e2.symm)).trans (hcell k (by have:=HXL.out;omega))
 have hVS:VecS (w1.setCell ⟨w.heap.size,q,none⟩ (.int .i64 n)) (fun k=>w.heap.size≤k) (some ⟨w.heap.size,0,none⟩) xs:=fun k hk=>by
  obtain⟨ad,e0,hb,hc⟩:=hVR k hk
  cases e0
  refine⟨w.heap.size,0,rfl,Nat.le_refl _,hb,fun j hj=> ?_⟩
  obtain rfl:j=0:=by omega
  rw[add_zero'] at hc
  simpa using hc
 have HVS:=hid (vecS_plain hVS)
 have HPL:=hid (show Calls Tryz.prog 157 #[.slice (some ⟨w.heap.size,0,none⟩) m m] (w1.setCell ⟨w.heap.size,q,none⟩ (.int .i64 n)) fun e w'=>e= .returned (.slice (some ⟨w.heap.size,0,none⟩) (plainV xs).length m)∧w'=w1.setCell ⟨w.heap.size,q,none⟩ (.int .i64 n) by
  have:=vplain_any (some ⟨w.heap.size,0,none⟩) m xs _ (by have:=HXL.out;omega) (by have:=HXL.out;omega) hVR
  rw[←HXL.out] at this;exact this)
 clear hVS hVR hcell hB1 h1c hfit
 go_wp2_with fail
 refine HPL.out.mono ?_
 rintro e w2 ⟨rfl,rfl⟩
 go_wp2
 go_ret2
 exact⟨HB1.out.grown (gby_set w.heap.size q (.int .i64 n)) HB1.out.size (fun k e=>by cases e;exact Nat.le_refl _),some ⟨w.heap.size,0,none⟩,m,rfl,HVS.out,by have:=pv_len xs;have:=HXL.out;omega,by unfold maxLen;omega⟩
theorem bx_grow {w W:World} {B:Nat} (h:Below B w W) (hB:B≤W.heap.size) (d:Nat) (os:Array Obj):Below B w (grow (redrawn W d) os):=h.trans ((below_regrown W d os).mono hB)
theorem bxready_any {B P:Nat} {S S2:Nat→Prop} {dn mp wt:List Grp} {v:List Int} {X:BoxX} {w:World} (h:BoxIn B P S dn mp wt v X w) (g:Grp) (x:GrX) (hG:GrG w S2 (g,x)) (hdl:g.deps.length≤1000):
  Calls Tryz.prog 50 #[.pointer (some ⟨P,0,none⟩),.agg (grA g x.dA x.dc x.oA x.oc)] w fun e w'=>e= .returned (.bool (readyB v g))∧Below w.heap.size w w':=by
 obtain⟨⟨t,r⟩,n,u,⟨ut,ur⟩,ops⟩:=g
 obtain⟨dA,dc,oA,oc⟩:=x
 obtain⟨ans,hans⟩:∃b,b=readyB v ⟨⟨t,r⟩,n,u,⟨ut,ur⟩,ops⟩:=⟨_,rfl⟩
 rw[←hans]
 have hb0:Below w.heap.size w (w.alloc (.cells #[.int .i64 t,.int .i64 r,.int .i64 n,.slice dA u.length dc,.int .i64 ut,.int .i64 ur,.slice oA ops.length oc] 45)):=(Below.refl _ _).alloc (Nat.le_refl _) _
 have hul:u.length≤9223372036854775806:=by have h1:u.length≤1000:=hdl;omega
 have hCV:∀W,Below w.heap.size w W→Calls Tryz.prog 98 #[.slice X.vA v.length X.vc,.slice dA u.length dc] W fun e w'=>e= .returned (.bool ans)∧Below W.heap.size W w':=fun W hB=>
  (covers_any X.vA dA X.vc dc v u W (by have:=h.vlen;omega) hul (VecS.vec (show VecS W S X.vA v from RowG.agr h.vec (Agr.below hB))) (VecS.vec (show VecS W S2 dA u from RowG.agr hG.deps (Agr.below hB)))).mono (by rintro e w' ⟨rfl,rfl⟩;exact⟨by rw[hans];rfl,Below.refl _ _⟩)
 have HCV:=hid hCV
 have HC:=hid (heap_alloc_new w (.cells #[.int .i64 t,.int .i64 r,.int .i64 n,.slice dA u.length dc,.int .i64 ut,.int .i64 ur,.slice oA ops.length oc] 45))
 have hbx:=h.below hb0
 have HO:=hid hbx.obj
 have HB:=hid hb0
 show Calls _ _ #[.pointer (some ⟨P,0,none⟩),.agg #[.int .i64 t,.int .i64 r,.int .i64 n,.slice dA u.length dc,.int .i64 ut,.int .i64 ur,.slice oA ops.length oc]] _ _
 clear hCV hG h hans hbx hdl
 go_enter Tryz.func50,Tryz.ntmps50
 go_upto_region 1 with fail
 generalize hW:w.alloc (.cells #[.int .i64 t,.int .i64 r,.int .i64 n,.slice dA u.length dc,.int .i64 ut,.int .i64 ur,.slice oA ops.length oc] 45)=W at *
 clear hW
 have x3:=rg3 HO.out
 have y2:=rg2 HC.out
 have y3:=rg3 HC.out
 have cA:=fun d os=>Calls.regrown_of (HCV.out (grow (redrawn W d) os) (bx_grow HB.out HB.out.size d os))
 refine rqb ?_
 repeat(any_goals(first|go_big_quiet_step (with_reducible exact cA _ _)|quiet_step (with_reducible exact cA _ _)))
 refine qz fun wq hBq=> ?_
 go_wp2
 go_ret
 exact⟨rfl,HB.out.trans (hBq.mono HB.out.size)⟩
theorem bxold_any {B P:Nat} {S S2:Nat→Prop} {dn mp wt:List Grp} {v:List Int} {X:BoxX} {w:World} (h:BoxIn B P S dn mp wt v X w) (g:Grp) (x:GrX):
  Calls Tryz.prog 95 #[.pointer (some ⟨P,0,none⟩),.agg (grA g x.dA x.dc x.oA x.oc)] w fun e w'=>e= .returned (.bool (oldB v g))∧Below w.heap.size w w':=by
 obtain⟨⟨t,r⟩,n,u,⟨ut,ur⟩,ops⟩:=g
 obtain⟨dA,dc,oA,oc⟩:=x
 obtain⟨z,hz⟩:∃z,z=atV v r:=⟨_,rfl⟩
 obtain⟨ans,hans⟩:∃b,b=oldB v ⟨⟨t,r⟩,n,u,⟨ut,ur⟩,ops⟩:=⟨_,rfl⟩
 have q1:decide (n≤z)=ans:=by rw[hans,hz];rfl
 rw[←hans]
 have hb0:Below w.heap.size w (w.alloc (.cells #[.int .i64 t,.int .i64 r,.int .i64 n,.slice dA u.length dc,.int .i64 ut,.int .i64 ur,.slice oA ops.length oc] 45)):=(Below.refl _ _).alloc (Nat.le_refl _) _
 have hAT:∀W,Below w.heap.size w W→Calls Tryz.prog 63 #[.slice X.vA v.length X.vc,.int .i64 r] W fun e w'=>e= .returned (.int .i64 z)∧Below W.heap.size W w':=fun W hB=>
  (at_any X.vA X.vc v r W (by have:=h.vlen;omega) (VecS.vec (show VecS W S X.vA v from RowG.agr h.vec (Agr.below hB)))).mono (by rintro e w' ⟨rfl,rfl⟩;exact⟨by rw[hz],Below.refl _ _⟩)
 have HAT:=hid hAT
 have HC:=hid (heap_alloc_new w (.cells #[.int .i64 t,.int .i64 r,.int .i64 n,.slice dA u.length dc,.int .i64 ut,.int .i64 ur,.slice oA ops.length oc] 45))
 have hbx:=h.below hb0
 have HO:=hid hbx.obj
 have HB:=hid hb0
 show Calls _ _ #[.pointer (some ⟨P,0,none⟩),.agg #[.int .i64 t,.int .i64 r,.int .i64 n,.slice dA u.length dc,.int .i64 ut,.int .i64 ur,.slice oA ops.length oc]] _ _
 clear hAT h hans hbx hz
 go_enter Tryz.func95,Tryz.ntmps95
 go_upto_region 1 with fail
 generalize hW:w.alloc (.cells #[.int .i64 t,.int .i64 r,.int .i64 n,.slice dA u.length dc,.int .i64 ut,.int .i64 ur,.slice oA ops.length oc] 45)=W at *
 clear hW
 have x3:=rg3 HO.out
 have y1:=rg1 HC.out
 have y2:=rg2 HC.out
 have cA:=fun d os=>Calls.regrown_of (HAT.out (grow (redrawn W d) os) (bx_grow HB.out HB.out.size d os))
 refine rqb ?_
 repeat(any_goals(first|go_big_quiet_step (with_reducible exact cA _ _)|quiet_step (with_reducible exact cA _ _)))
 refine qz fun wq hBq=> ?_
 go_wp2
 go_ret
 exact⟨rfl,HB.out.trans (hBq.mono HB.out.size)⟩
theorem bxclash_any (a g:Grp) (x y:GrX) (gb:Nat) (w:World) (hC:w.heap[gb]? =some (.cells (grA g y.dA y.dc y.oA y.oc) 45 (0,0))):
  Calls Tryz.prog 97 #[.agg (grA a x.dA x.dc x.oA x.oc),.pointer (some ⟨gb,0,none⟩)] w fun e w'=>e= .returned (.bool (clashB a g))∧Below w.heap.size w w':=by
 obtain⟨⟨t,r⟩,n,u,⟨ut,ur⟩,ops⟩:=a
 obtain⟨⟨t2,r2⟩,n2,u2,⟨ut2,ur2⟩,ops2⟩:=g
 obtain⟨dA,dc,oA,oc⟩:=x
 obtain⟨dA2,dc2,oA2,oc2⟩:=y
 obtain⟨b1,h1⟩:∃b,b=decide (r=r2):=⟨_,rfl⟩
 obtain⟨b2,h2⟩:∃b,b=decide (n=n2):=⟨_,rfl⟩
 obtain⟨b3,h3⟩:∃b,Gst.eqb ⟨t,r⟩ ⟨t2,r2⟩=b:=⟨_,rfl⟩
 have q1:(r == r2)=b1:=by rw[h1];rfl
 have q2:(n == n2)=b2:=by rw[h2];rfl
 have q3:=eq_st t r t2 r2 b3 h3
 obtain⟨ans,hans⟩:∃b,b=clashB ⟨⟨t,r⟩,n,u,⟨ut,ur⟩,ops⟩ ⟨⟨t2,r2⟩,n2,u2,⟨ut2,ur2⟩,ops2⟩:=⟨_,rfl⟩
 have HANS:=hid (show ans=((b1 && b2) || b3) by rw[hans,h1,h2,←h3];rfl)
 rw[←hans]
 have HB:=hid (show Below w.heap.size w (w.alloc (.cells #[.int .i64 t,.int .i64 r,.int .i64 n,.slice dA u.length dc,.int .i64 ut,.int .i64 ur,.slice oA ops.length oc] 45)) from(Below.refl _ _).alloc (Nat.le_refl _) _)
 have HC1:=hid (heap_alloc_new w (.cells #[.int .i64 t,.int .i64 r,.int .i64 n,.slice dA u.length dc,.int .i64 ut,.int .i64 ur,.slice oA ops.length oc] 45))
 have HC2:=hid ((Below.heap_alloc w (.cells #[.int .i64 t,.int .i64 r,.int .i64 n,.slice dA u.length dc,.int .i64 ut,.int .i64 ur,.slice oA ops.length oc] 45) _ (lt_of_block hC)).trans hC)
 show Calls _ _ #[.agg #[.int .i64 t,.int .i64 r,.int .i64 n,.slice dA u.length dc,.int .i64 ut,.int .i64 ur,.slice oA ops.length oc],.pointer (some ⟨gb,0,none⟩)] _ _
 clear hans h1 h2 h3 hC
 cases b1
 all_goals
  cases b2
  all_goals
   cases b3
   all_goals
    go_enter Tryz.func97,Tryz.ntmps97
    go_upto_region 1 with fail
    generalize hW:w.alloc (.cells #[.int .i64 t,.int .i64 r,.int .i64 n,.slice dA u.length dc,.int .i64 ut,.int .i64 ur,.slice oA ops.length oc] 45)=W at *
    clear hW
    have x0:=cw0 HC1.out
    have x1:=cw1 HC1.out
    have x2:=cw2 HC1.out
    have y0:=cw0 HC2.out
    have y1:=cw1 HC2.out
    have y2:=cw2 HC2.out
    go_wp2
    go_ret
    exact⟨ret_bool (by rw[HANS.out];rfl),HB.out⟩
theorem bxindex_any (A:Option Addr) (c:Nat) (M:List (Grp×GrX)) (g:Grp) (y:GrX) (gb:Nat) (w:World) (hl:M.length≤1000000) (hR:RowGr w A M) (hC:w.heap[gb]? =some (.cells (grA g y.dA y.dc y.oA y.oc) 45 (0,0))):
  Calls Tryz.prog 118 #[.slice A M.length c,.func (Fn.func 97) #[] #[.pointer (some ⟨gb,0,none⟩)]] w fun e w'=>(∃z:Int,e= .returned (.int .i64 z)∧decide (0≤z)=(M.map Prod.fst).any (fun a=>clashB a g))∧Below w.heap.size w w':=by
 obtain⟨m,hm⟩:∃m,m=M.length:=⟨_,rfl⟩
 rw[←hm]
 obtain⟨ans,hans⟩:∃b,b=(M.map Prod.fst).any (fun a=>clashB a g):=⟨_,rfl⟩
 rw[←hans]
 have HANS:=hid hans
 clear hans
 have HR:=hid hR
 have HC:=hid hC
 have HM:=hid hm
 have hm63:m≤1000000:=by omega
 clear hR hC hm hl
 go_enter Tryz.func118,Tryz.ntmps118
 go_wp2
 go_loopw [8] (fun i wr=>∃k:Nat,i= .int .i64 k∧k≤m∧Hid (Below w.heap.size w wr)∧Hid (∀j,j<k→clashB (M.getD j gp0).1 g=false)) (fun i _=>m-(RowKit.intOf i).toNat)
 case atStart=>exact⟨0,rfl,Nat.zero_le _,hid (Below.refl _ _),hid (fun j hj=>absurd hj (Nat.not_lt_zero j))⟩
 case round=>
  obtain⟨k,rfl,hk,HB,HK⟩:=hrel
  by_cases hlt:k<m
  ·obtain⟨rb,ro,rfl,hrb,hrange⟩:=RowGr.range (RowGr.below HR.out HB.out) (k:=k) (by rw[←HM.out];exact hlt)
   have i1:(0:Int)≤(k:Int):=by omega
   have i2:(k:Int)<(m:Int):=by omega
   obtain⟨p,hp⟩:∃p,p=M.getD k gp0:=⟨_,rfl⟩
   rw[←hp] at hrange
   have HP:=hid hp
   obtain⟨a,x⟩:=p
   obtain⟨b,hb⟩:∃b,b=clashB a g:=⟨_,rfl⟩
   have HCL:=hid (bxclash_any a g x y gb wr ((HB.out.block gb (lt_of_block HC.out)).trans HC.out))
   rw[←hb] at HCL
   have HBB:=hid (show clashB (M.getD k gp0).1 g=b by rw[←hp,hb])
   clear hb hp
   obtain⟨⟨t,r⟩,n,u,⟨ut,ur⟩,ops⟩:=a
   obtain⟨dA,dc,oA,oc⟩:=x
   have HRG:=hid (show wr.rangeAt rb (ro+k*7) [.int .i64 t,.int .i64 r,.int .i64 n,.slice dA u.length dc,.int .i64 ut,.int .i64 ur,.slice oA ops.length oc] from hrange)
   have HCL2:Hid (Calls Tryz.prog 97 #[.agg #[.int .i64 t,.int .i64 r,.int .i64 n,.slice dA u.length dc,.int .i64 ut,.int .i64 ur,.slice oA ops.length oc],.pointer (some ⟨gb,0,none⟩)] wr fun e w'=>e= .returned (.bool b)∧Below wr.heap.size wr w'):=HCL
   clear hrange HCL
   cases b with
   | true=>
    go_wp2_with (first
     |(refine wpList_load_mid rfl _ _ rfl rb (ro+k*7) rfl [.int .i64 t,.int .i64 r,.int .i64 n,.slice dA u.length dc,.int .i64 ut,.int .i64 ur,.slice oA ops.length oc] _ HRG.out Tryz.underlying45 rfl (by kernel_rfl) ?_)
     |(go_at_call 97;refine HCL2.out.mono ?_;rintro e w2 ⟨rfl,hB2⟩))
    have HB2:=hid (HB.out.trans (hB2.mono HB.out.size))
    clear hB2
    go_ret
    refine⟨⟨(k:Int),rfl,?_⟩,HB2.out⟩
    rw[decide_eq_true i1,HANS.out]
    symm
    rw[List.any_eq_true]
    refine⟨(M.getD k gp0).1,List.mem_map.2 ⟨M.getD k gp0,?_,rfl⟩,HBB.out⟩
    rw[List.getD_eq_getElem?_getD,List.getElem?_eq_getElem (by rw[←HM.out];exact hlt)]
    exact List.getElem_mem _
   | false=>
    have HK2:=hid (show ∀j,j<k+1→clashB (M.getD j gp0).1 g=false from fun j hj=>if h:j<k then HK.out j h else (by(obtain rfl:j=k:=(by omega));exact HBB.out))
    go_wp2_with (first
     |(refine wpList_load_mid rfl _ _ rfl rb (ro+k*7) rfl [.int .i64 t,.int .i64 r,.int .i64 n,.slice dA u.length dc,.int .i64 ut,.int .i64 ur,.slice oA ops.length oc] _ HRG.out Tryz.underlying45 rfl (by kernel_rfl) ?_)
     |(go_at_call 97;refine HCL2.out.mono ?_;rintro e w2 ⟨rfl,hB2⟩))
    have HB2:=hid (HB.out.trans (hB2.mono HB.out.size))
    clear hB2
    exact⟨⟨k+1,by go_num,by omega,HB2,HK2⟩,by simp[RowKit.intOf];omega⟩
  ·obtain rfl:k=m:=by omega
   have i2:¬(k:Int)<(k:Int):=by omega
   go_wp2
   go_ret
   refine⟨⟨-1,by rfl,?_⟩,HB.out⟩
   rw[show decide ((0:Int)≤ -1)=false from rfl,HANS.out]
   symm
   rw[List.any_eq_false]
   intro a ha
   obtain⟨q,hq,rfl⟩:=List.mem_map.1 ha
   obtain⟨j,hj,rfl⟩:=List.mem_iff_getElem.1 hq
   have:=HK.out j (by rw[HM.out];exact hj)
   rw[List.getD_eq_getElem?_getD,List.getElem?_eq_getElem hj] at this
   rw[show(M[j]).1=((some M[j]).getD gp0).1 from rfl,this]
   decide
theorem bxcontains_any (A:Option Addr) (c:Nat) (M:List (Grp×GrX)) (g:Grp) (y:GrX) (gb:Nat) (w:World) (hl:M.length≤1000000) (hR:RowGr w A M) (hC:w.heap[gb]? =some (.cells (grA g y.dA y.dc y.oA y.oc) 45 (0,0))):
  Calls Tryz.prog 96 #[.slice A M.length c,.func (Fn.func 97) #[] #[.pointer (some ⟨gb,0,none⟩)]] w fun e w'=>e= .returned (.bool ((M.map Prod.fst).any (fun a=>clashB a g)))∧Below w.heap.size w w':=by
 have HI:=hid (bxindex_any A c M g y gb w hl hR hC)
 generalize (M.map Prod.fst).any (fun a=>clashB a g)=ans at *
 clear hl hR hC
 go_enter Tryz.func96,Tryz.ntmps96
 go_wp2_with fail
 refine HI.out.mono ?_
 rintro e w1 ⟨⟨z,rfl,hz⟩,hB⟩
 go_wp2
 go_ret
 exact⟨rfl,hB⟩
theorem zeroU (w:World):(zeroValue 150).run Tryz.prog w= .ok (.agg #[]) w:=by kernel_rfl
def knB (mp wt:List Grp) (v:List Int) (g:Grp):Bool:=mp.any (fun d=>d.s.eqb g.s) || oldB v g || wt.any (fun a=>clashB a g)
theorem bxknown_any {B P:Nat} {S S2:Nat→Prop} {dn mp wt:List Grp} {v:List Int} {X:BoxX} {w:World} (h:BoxIn B P S dn mp wt v X w) (g:Grp) (x:GrX) (hmp:∀d∈mp,d.s.right=true) (hg:g.s.right=true) (hwl:wt.length≤1000000):
  Calls Tryz.prog 49 #[.pointer (some ⟨P,0,none⟩),.agg (grA g x.dA x.dc x.oA x.oc)] w fun e w'=>e= .returned (.bool (knB mp wt v g))∧Below w.heap.size w w':=by
 obtain⟨ans,hans⟩:∃b,b=knB mp wt v g:=⟨_,rfl⟩
 rw[←hans]
 obtain⟨b1,h1⟩:∃b,b=mp.any (fun d=>d.s.eqb g.s):=⟨_,rfl⟩
 obtain⟨b2,h2⟩:∃b,b=oldB v g:=⟨_,rfl⟩
 obtain⟨b3,h3⟩:∃b,b=wt.any (fun a=>clashB a g):=⟨_,rfl⟩
 have HANS:=hid (show ans=(b1 || b2 || b3) by rw[hans,h1,h2,h3];rfl)
 have hb0:Below w.heap.size w (w.alloc (.cells (grA g x.dA x.dc x.oA x.oc) 45)):=(Below.refl _ _).alloc (Nat.le_refl _) _
 have HOLD:=hid (show ∀W,Below w.heap.size w W→Calls Tryz.prog 95 #[.pointer (some ⟨P,0,none⟩),.agg (grA g x.dA x.dc x.oA x.oc)] W fun e w'=>e= .returned (.bool b2)∧Below W.heap.size W w' from fun W hB=>by rw[h2];exact bxold_any (S2:=S) (h.below hB) g x)
 obtain⟨wA,wc,hwv⟩:=row_slice h.wait
 have HRW:=hid (show ∀W,Below w.heap.size w W→RowGr W wA X.M from fun W hB=>RowGr.own (by have:=(h.below hB).wait;rw[hwv] at this;exact this))
 have HCON:=hid (show ∀W,Below w.heap.size w W→W.heap[w.heap.size]? =some (.cells (grA g x.dA x.dc x.oA x.oc) 45 (0,0))→Calls Tryz.prog 96 #[.slice wA X.M.length wc,.func (Fn.func 97) #[] #[.pointer (some ⟨w.heap.size,0,none⟩)]] W fun e w'=>e= .returned (.bool b3)∧Below W.heap.size W w' from fun W hB hC=>by
  rw[h3,←h.wl];exact bxcontains_any wA wc X.M g x w.heap.size W (by rw[h.wlen];exact hwl) (HRW.out W hB) hC)
 have HLK:=hid (show ∀W,Below w.heap.size w W→(Instr.lookup 87 (.map (some X.bm)) (.agg #[.int .i64 g.s.t,.int .i64 g.s.r]) true).run Tryz.prog W= .ok (.tuple #[.agg #[],.bool b1]) W from fun W hB=>by
  obtain⟨u,ps,hrun,hu⟩:=(h.below hB).map.look_ok law_st Tryz.underlying87 (zeroU W) (zd:= .agg []) (zp:=[]) unitElem_mk (key_st g.s (right_i63 hg).1 (right_i63 hg).2)
  obtain⟨rfl,-⟩:=unitElem_inv hu
  rw[has_setG mp g.s hmp hg,←h1] at hrun
  exact hrun)
 have HO:=hid (show ∀W,Below w.heap.size w W→W.heap[P]? =some (.cells #[X.dv,.slice wA X.M.length wc,.map (some X.bm),.slice X.vA v.length X.vc] 89 (0,0)) from fun W hB=>by have:=(h.below hB).obj;rw[hwv] at this;exact this)
 have hPl:=lt_of_block h.obj
 clear hans h1 h2 h3 hwv hmp hg hwl
 clear h
 obtain⟨⟨t,r⟩,n,u,⟨ut,ur⟩,ops⟩:=g
 obtain⟨dA,dc,oA,oc⟩:=x
 show Calls _ _ #[.pointer (some ⟨P,0,none⟩),.agg #[.int .i64 t,.int .i64 r,.int .i64 n,.slice dA u.length dc,.int .i64 ut,.int .i64 ur,.slice oA ops.length oc]] _ _
 have HB:=hid hb0
 have HC:=hid (heap_alloc_new w (.cells #[.int .i64 t,.int .i64 r,.int .i64 n,.slice dA u.length dc,.int .i64 ut,.int .i64 ur,.slice oA ops.length oc] 45))
 clear hb0
 go_enter Tryz.func49,Tryz.ntmps49
 go_upto_region 1 with fail
 generalize hW:w.alloc (.cells #[.int .i64 t,.int .i64 r,.int .i64 n,.slice dA u.length dc,.int .i64 ut,.int .i64 ur,.slice oA ops.length oc] 45)=W
 have HB1:Hid (Below w.heap.size w W):=hid (by rw[←hW];exact HB.out)
 have HC1:Hid (W.heap[w.heap.size]? =some (.cells #[.int .i64 t,.int .i64 r,.int .i64 n,.slice dA u.length dc,.int .i64 ut,.int .i64 ur,.slice oA ops.length oc] 45 (0,0))):=hid (by rw[←hW];exact HC.out)
 clear hW HB HC
 refine wp_region_held (S:=fun w'=>Below W.heap.size W w') (by kernel_rfl) ?_
 try(change wpAnyH _ _ _ _ _ _ _ _ (World.drew _))
 have HDR:=hid (show Below W.heap.size W W.drew from⟨rfl,rfl,rfl,Nat.le_refl _,fun _ _=>rfl⟩)
 refine tk 0 (.pointer (some ⟨P,0,none⟩)) HDR.out ?_
 go_simp
 refine tk 1 (.pointer (some ⟨P,0,none⟩)) HDR.out ?_
 go_simp
 refine tk 2 (.pointer (some ⟨P,2,none⟩)) HDR.out ?_
 go_simp
 refine wpAnyH_take (i:=3) (v:= .map (some X.bm)) rfl (by kernel_rfl) (by kernel_rfl) (by kernel_rfl) (fun _ _ _ h=>h) (Or.inl ⟨by rfl,fun W' hW'=>by(have c_:W'.cell? ⟨P,2,none⟩=some (.map (some X.bm)):=(by rw[crw (HO.out W' (HB1.out.trans (hW'.mono HB1.out.size)))];rfl);go_simp)⟩) HDR.out ?_
 go_simp
 refine tk 4 (.pointer (some ⟨w.heap.size,0,none⟩)) HDR.out ?_
 go_simp
 refine wpAnyH_take (i:=5) (v:= .agg #[.int .i64 t,.int .i64 r]) rfl (by kernel_rfl) (by kernel_rfl) (by kernel_rfl) (fun _ _ _ h=>h) (Or.inl ⟨by rfl,fun W' hW'=>by(have c0:W'.cell? ⟨w.heap.size,0,none⟩=some (.int .i64 t):=(by rw[crw ((hW'.block w.heap.size (lt_of_block HC1.out)).trans HC1.out)];rfl);have c1:W'.cell? ⟨w.heap.size,1,none⟩=some (.int .i64 r):=(by rw[crw ((hW'.block w.heap.size (lt_of_block HC1.out)).trans HC1.out)];rfl);go_simp)⟩) HDR.out ?_
 go_simp
 refine wpAnyH_take (i:=6) (v:= .tuple #[.agg #[],.bool b1]) rfl (by kernel_rfl) (by kernel_rfl) (by kernel_rfl) (fun _ _ _ h=>h) (Or.inl ⟨by rfl,fun W' hW'=>by(have hl:=HLK.out W' (HB1.out.trans (hW'.mono HB1.out.size));go_simp)⟩) HDR.out ?_
 go_simp
 refine tk 7 (.tuple #[.agg #[],.bool b1]) HDR.out ?_
 go_simp
 refine tk 8 (.agg #[]) HDR.out ?_
 go_simp
 refine tk 9 (.bool b1) HDR.out ?_
 go_simp
 refine wpAnyH_ready (rs:=[10]) (by kernel_rfl) (by simp) ?_
 refine AllReadyH.cons rfl (fun K hK=> ?_) AllReadyH.nil
 go_simp
 have HDA:=hid (HDR.out.alloc HDR.out.size (.cells #[] 150))
 refine hK.out _ _ HDA.out (fun _=> ?_)
 clear hK K
 refine wpAnyH_ready (rs:=[11]) (by kernel_rfl) (by simp) ?_
 refine AllReadyH.cons rfl (fun K hK=> ?_) AllReadyH.nil
 go_simp
 refine hK.out _ _ (show Below W.heap.size W _ from HDA.out) (fun _=> ?_)
 clear hK K
 refine tk 12 (.bool b1) (show Below W.heap.size W _ from HDA.out) ?_
 go_simp
 refine wpAnyH_done (by kernel_rfl) ?_ _
 go_simp
 generalize hV:(W.alloc (.cells #[] 150)).drew=V
 have HBV:=hid (show Below w.heap.size w V by rw[←hV];exact HB1.out.trans ((show Below W.heap.size W _ from HDA.out).mono HB1.out.size))
 have HCV:=hid (show V.heap[w.heap.size]? =some (.cells #[.int .i64 t,.int .i64 r,.int .i64 n,.slice dA u.length dc,.int .i64 ut,.int .i64 ur,.slice oA ops.length oc] 45 (0,0)) by rw[←hV];exact((show Below W.heap.size W _ from HDA.out).block w.heap.size (lt_of_block HC1.out)).trans HC1.out)
 clear hV HDA HDR
 have e0:=cw0 HCV.out
 have e1:=cw1 HCV.out
 have e2:=cw2 HCV.out
 have e3:=cw3 HCV.out
 have e4:=cw4 HCV.out
 have e5:=cw5 HCV.out
 have e6:=cw6 HCV.out
 cases b1 with
 |true=>
  obtain rfl:ans=true:=by rw[HANS.out];rfl
  go_wp2
  go_ret
  exact⟨rfl,HBV.out⟩
 | false=>
  cases b2 with
  | true=>
   obtain rfl:ans=true:=by rw[HANS.out];rfl
   go_wp2_with (first
    |(refine load_at rfl _ _ rfl w.heap.size _ _ _ rfl HCV.out Tryz.underlying45 rfl ?_ ?_;kernel_rfl)
    |(go_at_call 95;refine(HOLD.out V HBV.out).mono ?_;rintro e w2 ⟨rfl,hB2⟩))
   go_ret
   exact⟨rfl,HBV.out.trans (hB2.mono HBV.out.size)⟩
  | false=>
   obtain rfl:ans=b3:=by rw[HANS.out];cases b3<;>rfl
   go_wp2_with (first
    |(refine load_at rfl _ _ rfl w.heap.size _ _ _ rfl HCV.out Tryz.underlying45 rfl ?_ ?_;kernel_rfl)
    |(go_at_call 95;refine(HOLD.out V HBV.out).mono ?_;rintro e w2 ⟨rfl,hB2⟩;have HB2:=hid (HBV.out.trans (hB2.mono HBV.out.size));have HC2:=hid ((hB2.block w.heap.size (lt_of_block HCV.out)).trans HCV.out);have p1:w2.cell? ⟨P,1,none⟩=some (.slice wA X.M.length wc):=(by rw[crw (HO.out w2 HB2.out)];rfl);clear hB2)
    |(go_at_call 96;refine(HCON.out w2 HB2.out HC2.out).mono ?_;rintro e w3 ⟨rfl,hB3⟩))
   go_ret
   exact⟨rfl,HB2.out.trans (hB3.mono HB2.out.size)⟩
end
end Go.Proofs.YtkhmicndehlneaaGreatDoor
