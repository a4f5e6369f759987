/- Part 2 of the walks and plain laws that this claim uses, joined. Conditions: as each theorem states. -/
import Derived.Deep.DeepCutAuto
import Derived.Deep.DrawnRows
import Derived.Deep.MidRow
import Derived.Deep.QuietTactic
import Derived.Deep.RegionHeld3
import Derived.Deep.WholeRow
import Derived.Test.YtkhmicndehlneaaGreatDoorYta
namespace Go.Proofs.YtkhmicndehlneaaGreatDoor
set_option maxRecDepth 100000
set_option maxHeartbeats 16000000
section
section
open Go.RowKit Go.Lib Go.Sort
set_option linter.unusedVariables false
attribute [local go_sem ↓] Go.wp_at_zero Go.wp_at_succ
def orI (x y:Int):Int:=if x=0 then y else x
def cmpI (x y:Int):Int:=if x<y then -1 else if y<x then 1 else 0
def cmpS (a b:Gst):Int:=orI (cmpI a.t b.t) (cmpI a.r b.r)
theorem cmpS_lt (a b:Gst):decide (cmpS a b<0)=a.lt b:=by
 rw[Bool.eq_iff_iff,decide_eq_true_eq]
 simp only[cmpS,orI,cmpI,Gst.lt,Bool.or_eq_true,Bool.and_eq_true,decide_eq_true_eq]
 repeat' split
 all_goals omega
theorem cmpS_gt (a b:Gst):decide (0<cmpS a b)=b.lt a:=by
 rw[Bool.eq_iff_iff,decide_eq_true_eq]
 simp only[cmpS,orI,cmpI,Gst.lt,Bool.or_eq_true,Bool.and_eq_true,decide_eq_true_eq]
 repeat' split
 all_goals omega
theorem cmpS_ge (a b:Gst):decide (0≤cmpS a b)= !a.lt b:=by
 rw[←cmpS_lt,Bool.eq_iff_iff]
 simp
theorem below_dn {B:Nat} {a w:World} (h:Below B a w) (n:Nat):Below B a (w.drewN n):=⟨h.os,h.tape,h.output,h.size,h.block⟩
theorem ret_bool {a b:Bool} (h:a=b):Ending.returned (Value.bool a)= .returned (.bool b):=by rw[h]
def idV (x:Gid):Value:= .agg #[.int .i64 x.s.t,.int .i64 x.s.r,.int .i64 x.i]
theorem right_any (t r:Int) (w:World):
  Calls Tryz.prog 92 #[.agg #[.int .i64 t,.int .i64 r]] w fun e w'=>e= .returned (.bool (Gst.right ⟨t,r⟩))∧Below w.heap.size w w':=by
 obtain⟨v,hv⟩:∃v,v=Gst.right ⟨t,r⟩:=⟨_,rfl⟩
 have HV:=hid hv
 rw[←hv]
 clear hv
 go_enter Tryz.func92,Tryz.ntmps92
 go_wp2
 all_goals
  go_ret
  refine⟨ret_bool ?_,(Below.refl _ _).alloc (Nat.le_refl _) _⟩
  rw[HV.out]
  simp[Gst.right]
  try omega
theorem compare_any (x y:Int) (w:World):
  Calls Tryz.prog 148 #[.int .i64 x,.int .i64 y] w fun e w'=>e= .returned (.int .i64 (cmpI x y))∧w'=w:=by
 obtain⟨v,hv⟩:∃v,v=cmpI x y:=⟨_,rfl⟩
 have HV:=hid hv
 rw[←hv]
 clear hv
 go_enter Tryz.func148,Tryz.ntmps148
 go_wp2
 all_goals
  go_ret
  refine⟨ret_int ?_,rfl⟩
  rw[HV.out]
  unfold cmpI
  first|rw[if_pos (by omega)]|rw[if_neg (by omega),if_pos (by omega)]|rw[if_neg (by omega),if_neg (by omega)]
theorem or_any (b:Nat) (x y:Int) (w:World) (h0:w.cell? ⟨b,0,none⟩=some (.int .i64 x)) (h1:w.cell? ⟨b,1,none⟩=some (.int .i64 y)):
  Calls Tryz.prog 147 #[.slice (some ⟨b,0,none⟩) 2 2] w fun e w'=>e= .returned (.int .i64 (orI x y))∧w'=w:=by
 go_enter Tryz.func147,Tryz.ntmps147
 by_cases hx:x=0
 ·subst hx
  have hv:orI 0 y=y:=by unfold orI;rw[if_pos rfl]
  rw[hv]
  clear hv
  by_cases hy:y=0
  ·subst hy
   go_wp2
   go_loop [8] (fun i=>∃k:Nat,k≤2∧i= .int .i64 k) (fun i=>2-(RowKit.intOf i).toNat)
   case atStart=>exact⟨0,by omega,rfl⟩
   case round=>
    obtain⟨k,hk,rfl⟩:=hrel
    obtain rfl|rfl|rfl:k=0∨k=1∨k=2:=by omega
    ·go_wp2
     go_round
     case rel=>exact⟨1,by omega,rfl⟩
     case measure=>simp[RowKit.intOf]
    ·go_wp2
     go_round
     case rel=>exact⟨2,by omega,rfl⟩
     case measure=>simp[RowKit.intOf]
    ·go_wp2
     go_ret
     exact⟨rfl,rfl⟩
  ·have t1:(y != 0)=true:=by rw[bne_iff_ne];exact hy
   go_wp2
   go_loop [8] (fun i=>∃k:Nat,k≤1∧i= .int .i64 k) (fun i=>2-(RowKit.intOf i).toNat)
   case atStart=>exact⟨0,by omega,rfl⟩
   case round=>
    obtain⟨k,hk,rfl⟩:=hrel
    obtain rfl|rfl:k=0∨k=1:=by omega
    ·go_wp2
     go_round
     case rel=>exact⟨1,by omega,rfl⟩
     case measure=>simp[RowKit.intOf]
    ·go_wp2
     go_ret
     exact⟨rfl,rfl⟩
 ·have t1:(x != 0)=true:=by rw[bne_iff_ne];exact hx
  have hv:orI x y=x:=by unfold orI;rw[if_neg hx]
  rw[hv]
  clear hv
  go_wp2
  go_loop [8] (fun i=>i= .int .i64 0) (fun i=>2-(RowKit.intOf i).toNat)
  case atStart=>rfl
  case round=>
   obtain rfl:=hrel
   go_wp2
   go_ret
   exact⟨rfl,rfl⟩
theorem or_new (x y:Int) (w:World) (n:Nat) (T:TypeId) (hn:w.heap.size=n):
  Calls Tryz.prog 147 #[.slice (some ⟨n,0,none⟩) 2 2] (w.alloc (.cells #[.int .i64 x,.int .i64 y] T)).drew fun e w'=>e= .returned (.int .i64 (orI x y))∧w'=(w.alloc (.cells #[.int .i64 x,.int .i64 y] T)).drew:=by
 subst hn
 have hb:(w.alloc (.cells #[.int .i64 x,.int .i64 y] T)).drew.heap[w.heap.size]? =some (.cells #[.int .i64 x,.int .i64 y] T (0,0)):=heap_alloc_new w _
 exact or_any _ _ _ _ (by rw[crw hb];rfl) (by rw[crw hb];rfl)
theorem cmp_any (t r t' r':Int) (w:World):
  Calls Tryz.prog 93 #[.agg #[.int .i64 t,.int .i64 r],.agg #[.int .i64 t',.int .i64 r']] w fun e w'=>e= .returned (.int .i64 (cmpS ⟨t,r⟩ ⟨t',r'⟩))∧Below w.heap.size w w':=by
 go_enter Tryz.func93,Tryz.ntmps93
 go_wp2
 go_region_held3 (fun w'=>w'.cell? ⟨w.heap.size,0,none⟩=some (.int .i64 t)∧w'.cell? ⟨w.heap.size,1,none⟩=some (.int .i64 r)∧w'.cell? ⟨w.heap.size+1,0,none⟩=some (.int .i64 t')∧w'.cell? ⟨w.heap.size+1,1,none⟩=some (.int .i64 r')) (go_keep) (first
  |(go_at_call_of 148 (t);refine(compare_any _ _ _).mono ?_;rintro e w1 ⟨rfl,rfl⟩)
  |(go_at_call_of 148 (r);refine(compare_any _ _ _).mono ?_;rintro e w1 ⟨rfl,rfl⟩)
  |(go_at_call 147;refine(or_new _ _ _ _ _ (by simp)).mono ?_;rintro e w1 ⟨rfl,rfl⟩))
 all_goals
  go_wp2
  go_ret
  exact⟨rfl,((((Below.refl _ _).alloc (Nat.le_refl _) _).alloc (by simp) _).alloc (by simp;omega) _).drew⟩
theorem rightid_any (t r i:Int) (w:World):
  Calls Tryz.prog 187 #[.agg #[.int .i64 t,.int .i64 r,.int .i64 i]] w fun e w'=>e= .returned (.bool (Gid.right ⟨⟨t,r⟩,i⟩))∧Below w.heap.size w w':=by
 obtain⟨v,hv⟩:∃v,v=Gid.right ⟨⟨t,r⟩,i⟩:=⟨_,rfl⟩
 have HV:=hid hv
 rw[←hv]
 clear hv
 cases hs:Gst.right ⟨t,r⟩ with
 |false=>
  have HS:=hid hs
  clear hs
  go_enter Tryz.func187,Tryz.ntmps187
  go_wp2_with fail
  refine(right_any _ _ _).mono ?_
  rw[HS.out]
  rintro e w1 ⟨rfl,hB⟩
  go_wp2
  go_ret
  refine⟨ret_bool ?_,((Below.refl _ _).alloc (Nat.le_refl _) _).trans (hB.mono (by simp))⟩
  rw[HV.out]
  simp[Gid.right,HS.out]
 | true=>
  have HS:=hid hs
  clear hs
  go_enter Tryz.func187,Tryz.ntmps187
  go_wp2_with fail
  refine(right_any _ _ _).mono ?_
  rw[HS.out]
  rintro e w1 ⟨rfl,hB⟩
  have hc:w1.cell? ⟨w.heap.size,2,none⟩=some (.int .i64 i):=by
   rw[hB.cell (by simp)];go_simp
  go_wp2
  all_goals
   go_ret
   refine⟨ret_bool ?_,((Below.refl _ _).alloc (Nat.le_refl _) _).trans (hB.mono (by simp))⟩
   rw[HV.out]
   simp[Gid.right,HS.out]
   try omega
theorem eq_st (a b c d:Int) (v:Bool) (h:Gst.eqb ⟨a,b⟩ ⟨c,d⟩=v) (w:World):(binOp .eql 42 (.agg #[.int .i64 a,.int .i64 b]) (.agg #[.int .i64 c,.int .i64 d])).run Tryz.prog w= .ok (.bool v) w:=by
 subst h
 go_simp
 simp only[Gst.eqb]
 by_cases h1:a=c<;>by_cases h2:b=d<;>simp[h1,h2]
theorem eq_id (a b i c d j:Int) (v:Bool) (h:Gid.eqb ⟨⟨a,b⟩,i⟩ ⟨⟨c,d⟩,j⟩=v) (w:World):(binOp .eql 108 (.agg #[.int .i64 a,.int .i64 b,.int .i64 i]) (.agg #[.int .i64 c,.int .i64 d,.int .i64 j])).run Tryz.prog w= .ok (.bool v) w:=by
 subst h
 go_simp
 simp only[Gid.eqb,Gst.eqb]
 by_cases h1:a=c<;>by_cases h2:b=d<;>by_cases h3:i=j<;>simp[h1,h2,h3]
theorem ne_st (a b c d:Int) (v:Bool) (h:Gst.eqb ⟨a,b⟩ ⟨c,d⟩=v) (w:World):(binOp .neq 42 (.agg #[.int .i64 a,.int .i64 b]) (.agg #[.int .i64 c,.int .i64 d])).run Tryz.prog w= .ok (.bool !v) w:=by
 subst h
 go_simp
 simp only[Gst.eqb]
 by_cases h1:a=c<;>by_cases h2:b=d<;>simp[h1,h2]
theorem ne_id (a b i c d j:Int) (v:Bool) (h:Gid.eqb ⟨⟨a,b⟩,i⟩ ⟨⟨c,d⟩,j⟩=v) (w:World):(binOp .neq 108 (.agg #[.int .i64 a,.int .i64 b,.int .i64 i]) (.agg #[.int .i64 c,.int .i64 d,.int .i64 j])).run Tryz.prog w= .ok (.bool !v) w:=by
 subst h
 go_simp
 simp only[Gid.eqb,Gst.eqb]
 by_cases h1:a=c<;>by_cases h2:b=d<;>by_cases h3:i=j<;>simp[h1,h2,h3]
theorem ahead_any (b:Nat) (g:Gst) (k:Nat) (x:Gid) (w:World) (h0:w.cell? ⟨b,0,none⟩=some (.int .i64 g.t)) (h1:w.cell? ⟨b,1,none⟩=some (.int .i64 g.r)) (h7:w.cell? ⟨b,7,none⟩=some (.int .i64 k)):
  Calls Tryz.prog 153 #[.pointer (some ⟨b,0,none⟩),idV x] w fun e w'=>e= .returned (.bool (aheadB g x k))∧Below w.heap.size w w':=by
 obtain⟨⟨t,r⟩,i⟩:=x
 obtain⟨gt,gr⟩:=g
 show Calls _ _ #[_,.agg #[.int .i64 t,.int .i64 r,.int .i64 i]] _ _
 simp only at h0 h1
 have k0:=cell_regrown (w:=w.alloc (.cells #[.int .i64 t,.int .i64 r,.int .i64 i] 108)) (a:=⟨b,0,none⟩) (v:= .int .i64 gt) (by rw[World.cell?_alloc_lt _ _ _ (lt_of_cell h0)];exact h0)
 have k1:=cell_regrown (w:=w.alloc (.cells #[.int .i64 t,.int .i64 r,.int .i64 i] 108)) (a:=⟨b,1,none⟩) (v:= .int .i64 gr) (by rw[World.cell?_alloc_lt _ _ _ (lt_of_cell h1)];exact h1)
 have k7:=cell_regrown (w:=w.alloc (.cells #[.int .i64 t,.int .i64 r,.int .i64 i] 108)) (a:=⟨b,7,none⟩) (v:= .int .i64 k) (by rw[World.cell?_alloc_lt _ _ _ (lt_of_cell h7)];exact h7)
 have x0:=cell_regrown (w:=w.alloc (.cells #[.int .i64 t,.int .i64 r,.int .i64 i] 108)) (a:=⟨w.heap.size,0,none⟩) (v:= .int .i64 t) (by go_simp)
 have x1:=cell_regrown (w:=w.alloc (.cells #[.int .i64 t,.int .i64 r,.int .i64 i] 108)) (a:=⟨w.heap.size,1,none⟩) (v:= .int .i64 r) (by go_simp)
 have x2:=cell_regrown (w:=w.alloc (.cells #[.int .i64 t,.int .i64 r,.int .i64 i] 108)) (a:=⟨w.heap.size,2,none⟩) (v:= .int .i64 i) (by go_simp)
 clear h0 h1 h7
 have cR:=fun d os=>Calls.regrown_of (rightid_any t r i (grow (redrawn (w.alloc (.cells #[.int .i64 t,.int .i64 r,.int .i64 i] 108)) d) os))
 have cC:=fun d os=>Calls.regrown_of (cmp_any t r gt gr (grow (redrawn (w.alloc (.cells #[.int .i64 t,.int .i64 r,.int .i64 i] 108)) d) os))
 have hc:=cmpS_lt ⟨t,r⟩ ⟨gt,gr⟩
 cases hR:Gid.right ⟨⟨t,r⟩,i⟩ with
 |false=>
  rw[hR] at cR
  have HR:=hid hR
  clear hR cC hc
  go_enter Tryz.func153,Tryz.ntmps153
  go_wp2
  refine rqb ?_
  repeat(any_goals(first|go_big_quiet_step (first|exact cR _ _)|quiet_step (first|exact cR _ _)))
  refine qz fun wq hBq=> ?_
  go_wp2
  go_ret
  refine⟨ret_bool ?_,?_⟩
  ·simp[aheadB,HR.out]
  ·exact((Below.refl _ _).alloc (Nat.le_refl _) _).trans (hBq.mono (by simp))
 | true=>
  rw[hR] at cR
  have HR:=hid hR
  clear hR
  cases hL:Gst.lt ⟨t,r⟩ ⟨gt,gr⟩ with
  |true=>
   rw[hL] at hc
   have HL:=hid hL
   clear hL
   go_enter Tryz.func153,Tryz.ntmps153
   go_wp2
   refine rqb ?_
   repeat(any_goals(first|go_big_quiet_step (first|exact cR _ _|exact cC _ _)|quiet_step (first|exact cR _ _|exact cC _ _)))
   refine qz fun wq hBq=> ?_
   go_wp2
   go_ret
   refine⟨ret_bool ?_,?_⟩
   ·simp[aheadB,HR.out,HL.out]
   ·exact((Below.refl _ _).alloc (Nat.le_refl _) _).trans (hBq.mono (by simp))
  | false=>
   rw[hL] at hc
   have HL:=hid hL
   clear hL
   cases hE:Gst.eqb ⟨t,r⟩ ⟨gt,gr⟩ with
   |false=>
    have he:=eq_st t r gt gr false hE
    have HE:=hid hE
    clear hE
    go_enter Tryz.func153,Tryz.ntmps153
    go_wp2
    refine rqb ?_
    repeat(any_goals(first|go_big_quiet_step (first|exact cR _ _|exact cC _ _)|quiet_step (first|exact cR _ _|exact cC _ _)))
    refine qz fun wq hBq=> ?_
    go_wp2
    go_ret
    refine⟨ret_bool ?_,?_⟩
    ·simp[aheadB,HR.out,HL.out,HE.out]
    ·exact((Below.refl _ _).alloc (Nat.le_refl _) _).trans (hBq.mono (by simp))
   |true=>
    have he:=eq_st t r gt gr true hE
    have HE:=hid hE
    clear hE
    go_enter Tryz.func153,Tryz.ntmps153
    go_wp2
    refine rqb ?_
    repeat(any_goals(first|go_big_quiet_step (first|exact cR _ _|exact cC _ _)|quiet_step (first|exact cR _ _|exact cC _ _)))
    refine qz fun wq hBq=> ?_
    go_wp2
    go_ret
    refine⟨ret_bool ?_,?_⟩
    ·simp[aheadB,HR.out,HL.out,HE.out]
    ·exact((Below.refl _ _).alloc (Nat.le_refl _) _).trans (hBq.mono (by simp))
end
section
open Go.RowKit Go.Lib Go.Sort
set_option linter.unusedVariables false
def VecR (w:World) (A:Option Addr) (v:List Int):Prop:=Row1 w w.heap.size A v.length (fun i=> .int .i64 (v.getD i 0))
theorem VecR.below {w w':World} {A:Option Addr} {v:List Int} (h:VecR w A v) (hb:Below w.heap.size w w'):VecR w' A v:=(Row1.below h hb).more hb.size
theorem atV_low {v:List Int} {r:Int} (h:r<1):atV v r=0:=by unfold atV;rw[if_pos h]
theorem atV_in {v:List Int} {k:Nat}:atV v ((k:Int)+1)=v.getD k 0:=by
 unfold atV;rw[if_neg (by omega)];congr 1;omega
theorem atV_out {v:List Int} {k:Nat} (h:v.length≤k):v.getD k 0=0:=by
 rw[List.getD_eq_getElem?_getD,List.getElem?_eq_none h];rfl
theorem vat_any (A:Option Addr) (c:Nat) (v:List Int) (r:Int) (w:World) (hl:v.length≤9223372036854775807) (h:VecR w A v):
  Calls Tryz.prog 119 #[.slice A v.length c,.int .i64 r] w fun e w'=>e= .returned (.int .i64 (atV v r))∧w'=w:=by
 unfold VecR at h
 by_cases h1:r<1
 ·rw[atV_low h1]
  clear h
  go_enter Tryz.func119,Tryz.ntmps119
  go_wp2
  go_ret
  exact⟨rfl,rfl⟩
 obtain⟨k,rfl⟩:∃k:Nat,r=(k:Int)+1:=⟨(r-1).toNat,by omega⟩
 rw[atV_in]
 by_cases h2:k<v.length
 ·obtain⟨ad,rfl,-,hc⟩:=h k h2
  replace hc:w.cell? (ad.add k)=some (.int .i64 (v.getD k 0)):=hc
  generalize v.getD k 0=x at *
  generalize v.length=n at *
  have t1:¬(n:Int)<(k:Int)+1:=by omega
  clear h
  go_enter Tryz.func119,Tryz.ntmps119
  go_wp2
  go_ret
  exact⟨rfl,rfl⟩
 ·rw[atV_out (by omega)]
  generalize v.length=n at *
  have t1:(n:Int)<(k:Int)+1:=by omega
  clear h
  go_enter Tryz.func119,Tryz.ntmps119
  go_wp2
  go_ret
  exact⟨rfl,rfl⟩
theorem at_any (A:Option Addr) (c:Nat) (v:List Int) (r:Int) (w:World) (hl:v.length≤9223372036854775807) (h:VecR w A v):
  Calls Tryz.prog 63 #[.slice A v.length c,.int .i64 r] w fun e w'=>e= .returned (.int .i64 (atV v r))∧w'=w:=by
 go_enter Tryz.func63,Tryz.ntmps63
 go_wp2_with fail
 refine(vat_any A c v r _ hl h).mono ?_
 rintro e w1 ⟨rfl,rfl⟩
 go_wp2
 go_ret
 exact⟨rfl,rfl⟩
theorem refat_any (A:Option Addr) (c:Nat) (v:List Int) (r:Int) (w:World) (hl:v.length≤9223372036854775807) (h:VecR w A v):
  Calls Tryz.prog 55 #[.slice A v.length c,.int .i64 r] w fun e w'=>e= .returned (.int .i64 (atV v r))∧w'=w:=by
 unfold VecR at h
 by_cases h1:r<1
 ·rw[atV_low h1]
  clear h
  go_enter Tryz.func55,Tryz.ntmps55
  go_wp2
  go_ret
  exact⟨rfl,rfl⟩
 obtain⟨k,rfl⟩:∃k:Nat,r=(k:Int)+1:=⟨(r-1).toNat,by omega⟩
 rw[atV_in]
 by_cases h2:k<v.length
 ·obtain⟨ad,rfl,-,hc⟩:=h k h2
  replace hc:w.cell? (ad.add k)=some (.int .i64 (v.getD k 0)):=hc
  generalize v.getD k 0=x at *
  generalize v.length=n at *
  have t1:¬(n:Int)<(k:Int)+1:=by omega
  clear h
  go_enter Tryz.func55,Tryz.ntmps55
  go_wp2
  go_ret
  exact⟨rfl,rfl⟩
 ·rw[atV_out (by omega)]
  generalize v.length=n at *
  have t1:(n:Int)<(k:Int)+1:=by omega
  clear h
  go_enter Tryz.func55,Tryz.ntmps55
  go_wp2
  go_ret
  exact⟨rfl,rfl⟩
theorem plainV_snoc0 (v:List Int):plainV (v++[0])=plainV v:=by
 unfold plainV;simp
theorem plainV_snoc (v:List Int) (x:Int) (h:x≠0):plainV (v++[x])=v++[x]:=by
 unfold plainV;simp[h]
theorem take_succ_getD (v:List Int) (k:Nat) (h:k<v.length):v.take (k+1)=v.take k++[v.getD k 0]:=by
 rw[List.take_succ_eq_append_getElem h,List.getD_eq_getElem?_getD,List.getElem?_eq_getElem h];rfl
theorem plainV_len (v:List Int):(plainV v).length≤v.length:=by
 unfold plainV
 rw[List.length_reverse]
 have:=(List.dropWhile_sublist (l:=v.reverse) (fun x=>decide (x=0))).length_le
 rw[List.length_reverse] at this
 exact this
theorem plainV_take (v:List Int):plainV v=v.take (plainV v).length:=by
 unfold plainV
 obtain⟨p,hp⟩:=List.dropWhile_suffix (l:=v.reverse) (fun x=>decide (x=0))
 obtain⟨q,hq⟩:∃q,q=List.dropWhile (fun x=>decide (x=0)) v.reverse:=⟨_,rfl⟩
 rw[←hq] at hp ⊢
 have h2:=congrArg List.reverse hp
 rw[List.reverse_append,List.reverse_reverse] at h2
 rw[←h2,List.take_left]
theorem vplain_any (A:Option Addr) (c:Nat) (v:List Int) (w:World) (hc0:v.length≤c) (hl:v.length≤9223372036854775807) (h:VecR w A v):
  Calls Tryz.prog 157 #[.slice A v.length c] w fun e w'=>e= .returned (.slice A (plainV v).length c)∧w'=w:=by
 unfold VecR at h
 have HR:=hid h
 obtain⟨n,hn⟩:∃n,n=v.length:=⟨_,rfl⟩
 obtain⟨p,hp⟩:∃p,p=(plainV v).length:=⟨_,rfl⟩
 rw[←hn] at hc0 hl ⊢
 rw[←hp]
 have HN:=hid hn
 have HP:=hid hp
 clear h hn hp
 go_enter Tryz.func157,Tryz.ntmps157
 go_wp2
 go_loop [0] (fun s=>∃k:Nat,k≤n∧s= .slice A k c∧Hid (plainV v=plainV (v.take k))) (fun s=>match s with| .slice _ k _=>k|_=>0)
 case atStart=>exact⟨n,Nat.le_refl _,rfl,by show _=_;rw[HN.out,List.take_length]⟩
 case round=>
  obtain⟨k,hk,rfl,HK⟩:=hrel
  cases k with
  |zero=>
   have hp0:p=0:=by rw[HP.out,HK.out];rfl
   subst hp0
   go_wp2
   go_ret
   exact⟨rfl,rfl⟩
  | succ k=>
   obtain⟨ad,hA,-,hc⟩:=HR.out k (by have:=HN.out;omega)
   subst hA
   replace hc:w.cell? (ad.add k)=some (.int .i64 (v.getD k 0)):=hc
   have HT:=hid (take_succ_getD v k (by have:=HN.out;omega))
   obtain⟨x,hx⟩:∃x,x=v.getD k 0:=⟨_,rfl⟩
   rw[←hx] at hc
   have HX:=hid hx
   clear hx
   have b1:(0:Int)≤(k:Int):=by omega
   have b2:(k:Int)+1-1=(k:Int):=by omega
   have b3:(k:Int)≤(c:Int):=by omega
   by_cases hx0:x=0
   ·subst hx0
    have HK2:Hid (plainV v=plainV (v.take k)):=by show _=_;rw[HK.out,HT.out,←HX.out,plainV_snoc0]
    go_wp2
    go_round
    case rel=>exact⟨k,by omega,rfl,HK2⟩
    case measure=>simp
   ·have t1:(x == 0)=false:=by rw[beq_eq_false_iff_ne];exact hx0
    have hpk:p=k+1:=by
     rw[HP.out,HK.out,HT.out,←HX.out,plainV_snoc _ _ hx0,List.length_append,List.length_take]
     have:=HN.out
     simp;omega
    subst hpk
    go_wp2
    go_ret
    exact⟨rfl,rfl⟩
theorem plain_any (A:Option Addr) (c:Nat) (v:List Int) (w:World) (hc0:v.length≤c) (hl:v.length≤9223372036854775807) (h:VecR w A v):
  Calls Tryz.prog 121 #[.slice A v.length c] w fun e w'=>e= .returned (.slice A (plainV v).length c)∧w'=w:=by
 go_enter Tryz.func121,Tryz.ntmps121
 go_wp2_with fail
 refine(vplain_any A c v _ hc0 hl h).mono ?_
 rintro e w1 ⟨rfl,rfl⟩
 go_wp2
 go_ret
 exact⟨rfl,rfl⟩
theorem refplain_any (A:Option Addr) (c:Nat) (v:List Int) (w:World) (hc0:v.length≤c) (hl:v.length≤9223372036854775807) (h:VecR w A v):
  Calls Tryz.prog 105 #[.slice A v.length c] w fun e w'=>e= .returned (.slice A (plainV v).length c)∧w'=w:=by
 unfold VecR at h
 have HR:=hid h
 obtain⟨n,hn⟩:∃n,n=v.length:=⟨_,rfl⟩
 obtain⟨p,hp⟩:∃p,p=(plainV v).length:=⟨_,rfl⟩
 rw[←hn] at hc0 hl ⊢
 rw[←hp]
 have HN:=hid hn
 have HP:=hid hp
 clear h hn hp
 go_enter Tryz.func105,Tryz.ntmps105
 go_wp2
 go_loop [3] (fun s=>∃k:Nat,k≤n∧s= .int .i64 k∧Hid (plainV v=plainV (v.take k))) (fun s=>(RowKit.intOf s).toNat)
 case atStart=>exact⟨n,Nat.le_refl _,rfl,by show _=_;rw[HN.out,List.take_length]⟩
 case round=>
  obtain⟨k,hk,rfl,HK⟩:=hrel
  cases k with
  |zero=>
   have hp0:p=0:=by rw[HP.out,HK.out];rfl
   subst hp0
   go_wp2
   go_ret
   exact⟨rfl,rfl⟩
  | succ k=>
   obtain⟨ad,hA,-,hc⟩:=HR.out k (by have:=HN.out;omega)
   subst hA
   replace hc:w.cell? (ad.add k)=some (.int .i64 (v.getD k 0)):=hc
   have HT:=hid (take_succ_getD v k (by have:=HN.out;omega))
   obtain⟨x,hx⟩:∃x,x=v.getD k 0:=⟨_,rfl⟩
   rw[←hx] at hc
   have HX:=hid hx
   clear hx
   have b1:(0:Int)≤(k:Int):=by omega
   have b2:(k:Int)+1-1=(k:Int):=by omega
   have b3:(k:Int)+1≤(c:Int):=by omega
   by_cases hx0:x=0
   ·subst hx0
    have HK2:Hid (plainV v=plainV (v.take k)):=by show _=_;rw[HK.out,HT.out,←HX.out,plainV_snoc0]
    go_wp2
    go_round
    case rel=>exact⟨k,by omega,by go_num,HK2⟩
    case measure=>simp[RowKit.intOf]
   ·have t1:(x == 0)=false:=by rw[beq_eq_false_iff_ne];exact hx0
    have hpk:p=k+1:=by
     rw[HP.out,HK.out,HT.out,←HX.out,plainV_snoc _ _ hx0,List.length_append,List.length_take]
     have:=HN.out
     simp;omega
    subst hpk
    go_wp2
    go_ret
    exact⟨rfl,rfl⟩
theorem same_any (A B:Option Addr) (c d:Nat) (v u:List Int) (w:World) (hl:v.length≤9223372036854775807) (hA:VecR w A v) (hB:VecR w B u):
  Calls Tryz.prog 29 #[.slice A v.length c,.slice B u.length d] w fun e w'=>e= .returned (.bool (decide (v=u)))∧Below w.heap.size w w':=by
 unfold VecR at hA hB
 have HA:=hid hA
 have HB:=hid hB
 clear hA hB
 obtain⟨n,hn⟩:∃n,n=v.length:=⟨_,rfl⟩
 obtain⟨m,hm⟩:∃m,m=u.length:=⟨_,rfl⟩
 rw[←hn] at hl ⊢
 rw[←hm]
 obtain⟨r,hr⟩:∃r,r=decide (v=u):=⟨_,rfl⟩
 rw[←hr]
 have HN:=hid hn
 have HM:=hid hm
 have HV:=hid hr
 clear hn hm hr
 by_cases hnm:n=m
 ·subst hnm
  go_enter Tryz.func29,Tryz.ntmps29
  go_wp2
  go_loopw [5] (fun i wr=>∃k j:Nat,k≤n∧i= .int .i64 k∧wr=w.drewN j∧Hid (∀i,i<k→v.getD i 0=u.getD i 0)) (fun i _=>n-(RowKit.intOf i).toNat)
  case atStart=>exact⟨0,0,by omega,rfl,rfl,fun i hi=>absurd hi (by omega)⟩
  case round=>
   obtain⟨k,j,hk,rfl,rfl,HK⟩:=hrel
   by_cases hlt:k<n
   ·obtain⟨ad,hA,-,hc⟩:=HA.out k (by have:=HN.out;omega)
    obtain⟨bd,hB,-,hd⟩:=HB.out k (by have:=HM.out;omega)
    subst hA hB
    replace hc:w.cell? (ad.add k)=some (.int .i64 (v.getD k 0)):=hc
    replace hd:w.cell? (bd.add k)=some (.int .i64 (u.getD k 0)):=hd
    obtain⟨x,hx⟩:∃x,x=v.getD k 0:=⟨_,rfl⟩
    obtain⟨y,hy⟩:∃y,y=u.getD k 0:=⟨_,rfl⟩
    rw[←hx] at hc
    rw[←hy] at hd
    by_cases hxy:x=y
    ·have HK2:Hid (∀i,i<k+1→v.getD i 0=u.getD i 0):=fun i hi=>by
      rcases Nat.lt_or_ge i k with h|h
      ·exact HK.out i h
      ·obtain rfl:i=k:=by omega
       rw[←hx,←hy,hxy]
     clear hx hy
     subst hxy
     go_wp2
     go_quiet (fail)
     go_wp2
     go_roundw
     case rel=>exact⟨k+1,_,by omega,by go_num,rfl,HK2⟩
     case measure=>simp[RowKit.intOf];omega
    ·have t1:(x != y)=true:=by rw[bne_iff_ne];exact hxy
     have hr:r=false:=by
      rw[HV.out,decide_eq_false_iff_not]
      rintro rfl
      exact hxy (hx.trans hy.symm)
     subst hr
     clear hx hy
     go_wp2
     go_quiet (fail)
     go_wp2
     go_ret
     exact⟨rfl,below_dn (below_dn (Below.refl _ _) _) _⟩
   ·obtain rfl:k=n:=by omega
    have hr:r=true:=by
     rw[HV.out,decide_eq_true_eq]
     refine List.ext_getElem (by rw[←HN.out,←HM.out]) fun i h1 h2=> ?_
     have:=HK.out i (by rw[HN.out];exact h1)
     rw[List.getD_eq_getElem?_getD,List.getD_eq_getElem?_getD,List.getElem?_eq_getElem h1,List.getElem?_eq_getElem h2] at this
     exact this
    subst hr
    go_wp2
    go_ret
    exact⟨rfl,below_dn (Below.refl _ _) _⟩
 ·have t1:((n:Int) != (m:Int))=true:=by rw[bne_iff_ne];omega
  have hr:r=false:=by
   rw[HV.out,decide_eq_false_iff_not]
   rintro rfl
   exact hnm (HN.out.trans HM.out.symm)
  subst hr
  go_enter Tryz.func29,Tryz.ntmps29
  go_wp2
  go_ret
  exact⟨rfl,Below.refl _ _⟩
theorem vecB_neg {v:List Int} {k:Nat} (hk:k<v.length) (h:v.getD k 0<0):vecB v=false:=by
 rw[←Bool.not_eq_true]
 intro hv
 simp only[vecB,Bool.and_eq_true,List.all_eq_true,decide_eq_true_eq] at hv
 have:=hv.1.1 (v.getD k 0) (by
  rw[List.getD_eq_getElem?_getD,List.getElem?_eq_getElem hk];exact List.getElem_mem hk)
 omega
theorem vecB_pos {v:List Int} (h:∀k,k<v.length→0≤v.getD k 0):vecB v=(decide (v.length≤16) && decide ((plainV v).length=v.length)):=by
 have:v.all (fun x=>decide (0≤x))=true:=by
  rw[List.all_eq_true]
  intro x hx
  obtain⟨i,hi,rfl⟩:=getD_of_mem (z:=(0:Int)) hx
  exact decide_eq_true (h i hi)
 simp only[vecB,this,Bool.true_and]
theorem vector_any (A:Option Addr) (c:Nat) (v:List Int) (w:World) (hc0:v.length≤c) (hl:v.length≤9223372036854775807) (h:VecR w A v):
  Calls Tryz.prog 71 #[.slice A v.length c] w fun e w'=>e= .returned (.bool (vecB v))∧w'=w:=by
 have HP:=hid (plain_any A c v w hc0 hl h)
 unfold VecR at h
 have HR:=hid h
 obtain⟨r,hr⟩:∃r,r=vecB v:=⟨_,rfl⟩
 rw[←hr]
 obtain⟨n,hn⟩:∃n,n=v.length:=⟨_,rfl⟩
 rw[←hn] at hc0 hl HP ⊢
 obtain⟨p,hp⟩:∃p,p=(plainV v).length:=⟨_,rfl⟩
 rw[←hp] at HP
 have HN:=hid hn
 have HV:=hid hr
 have HPP:=hid hp
 have hpn:p≤n:=by rw[hp,hn];exact plainV_len v
 clear h hn hr hp
 go_enter Tryz.func71,Tryz.ntmps71
 go_wp2
 go_loop [7] (fun i=>∃k:Nat,k≤n∧i= .int .i64 k∧Hid (∀i,i<k→0≤v.getD i 0)) (fun i=>n-(RowKit.intOf i).toNat)
 case atStart=>exact⟨0,by omega,rfl,fun i hi=>absurd hi (by omega)⟩
 case round=>
  obtain⟨k,hk,rfl,HK⟩:=hrel
  by_cases hlt:k<n
  ·obtain⟨ad,hA,-,hc⟩:=HR.out k (by have:=HN.out;omega)
   subst hA
   replace hc:w.cell? (ad.add k)=some (.int .i64 (v.getD k 0)):=hc
   obtain⟨x,hx⟩:∃x,x=v.getD k 0:=⟨_,rfl⟩
   rw[←hx] at hc
   by_cases h0:x<0
   ·have hr:r=false:=by rw[HV.out,vecB_neg (by have h9:=HN.out;rw[←h9];exact hlt) (by rw[←hx];exact h0)]
    subst hr
    clear hx
    go_wp2
    go_ret
    exact⟨rfl,rfl⟩
   ·have HK2:Hid (∀i,i<k+1→0≤v.getD i 0):=fun i hi=>by
     rcases Nat.lt_or_ge i k with h|h
     ·exact HK.out i h
     ·obtain rfl:i=k:=by omega
      rw[←hx];exact Int.not_lt.1 h0
    clear hx
    have h0':0≤x:=by omega
    clear h0
    go_wp2
    go_round
    case rel=>exact⟨k+1,by omega,by go_num,HK2⟩
    case measure=>simp[RowKit.intOf];omega
  ·obtain rfl:k=n:=by omega
   have hr:r=(decide (k≤16) && decide (p=k)):=by
    rw[HV.out,vecB_pos (fun i hi=>HK.out i (by have:=HN.out;omega)),←HN.out,←HPP.out]
   by_cases h16:k≤16
   ·have t1:(k:Int)≤16:=by omega
    by_cases hpk:p=k
    ·have hr2:r=true:=by rw[hr];simp[h16,hpk]
     clear hr
     subst hr2 hpk
     go_wp2_with (go_at_call 121;refine HP.out.mono ?_;rintro e w1 ⟨rfl,rfl⟩)
     go_ret
     exact⟨rfl,rfl⟩
    ·have hr2:r=false:=by rw[hr];simp[hpk]
     have t2:((p:Int) == (k:Int))=false:=by rw[beq_eq_false_iff_ne];omega
     clear hr
     subst hr2
     go_wp2_with (go_at_call 121;refine HP.out.mono ?_;rintro e w1 ⟨rfl,rfl⟩)
     go_ret
     exact⟨rfl,rfl⟩
   ·have hr2:r=false:=by rw[hr];simp;omega
    have t1:¬(k:Int)≤16:=by omega
    clear hr
    subst hr2
    go_wp2
    go_ret
    exact⟨rfl,rfl⟩
theorem refvector_any (A:Option Addr) (c:Nat) (v:List Int) (w:World) (hc0:v.length≤c) (hl:v.length≤9223372036854775807) (h:VecR w A v):
  Calls Tryz.prog 102 #[.slice A v.length c] w fun e w'=>e= .returned (.bool (vecB v))∧Below w.heap.size w w':=by
 have HP:=hid (refplain_any A c v w hc0 hl h)
 have hh:=plainV_take v
 have hpl:=plainV_len v
 have HS:=hid (same_any A A c c v (plainV v) w hl h (by
  intro k hk
  obtain⟨ad,e,hb,hx⟩:=h k (by omega)
  refine⟨ad,e,hb,?_⟩
  rw[hx]
  show some (Value.int .i64 (v.getD k 0))=some (.int .i64 ((plainV v).getD k 0))
  have e2:(plainV v).getD k 0=v.getD k 0:=by
   rw[hh,List.getD_eq_getElem?_getD,List.getD_eq_getElem?_getD,List.getElem?_take_of_lt hk]
  rw[e2]))
 have hd:decide (v=plainV v)=decide ((plainV v).length=v.length):=by
  rw[Bool.eq_iff_iff,decide_eq_true_eq,decide_eq_true_eq]
  exact⟨fun e=>by rw[←e],fun e=>by rw[hh,e,List.take_length]⟩
 rw[hd] at HS
 clear hd hh
 unfold VecR at h
 have HR:=hid h
 obtain⟨r,hr⟩:∃r,r=vecB v:=⟨_,rfl⟩
 rw[←hr]
 obtain⟨n,hn⟩:∃n,n=v.length:=⟨_,rfl⟩
 rw[←hn] at hc0 hl HP HS ⊢
 obtain⟨p,hp⟩:∃p,p=(plainV v).length:=⟨_,rfl⟩
 rw[←hp] at HP HS
 have HN:=hid hn
 have HV:=hid hr
 have HPP:=hid hp
 have hpn:p≤n:=by rw[hp,hn];exact plainV_len v
 clear h hn hr hp
 go_enter Tryz.func102,Tryz.ntmps102
 go_wp2
 go_loop [3] (fun i=>∃k:Nat,k≤n∧i= .int .i64 k∧Hid (∀i,i<k→0≤v.getD i 0)) (fun i=>n-(RowKit.intOf i).toNat)
 case atStart=>exact⟨0,by omega,rfl,fun i hi=>absurd hi (by omega)⟩
 case round=>
  obtain⟨k,hk,rfl,HK⟩:=hrel
  by_cases hlt:k<n
  ·obtain⟨ad,hA,-,hc⟩:=HR.out k (by have:=HN.out;omega)
   subst hA
   replace hc:w.cell? (ad.add k)=some (.int .i64 (v.getD k 0)):=hc
   obtain⟨x,hx⟩:∃x,x=v.getD k 0:=⟨_,rfl⟩
   rw[←hx] at hc
   by_cases h0:x<0
   ·have hr:r=false:=by rw[HV.out,vecB_neg (by have h9:=HN.out;rw[←h9];exact hlt) (by rw[←hx];exact h0)]
    subst hr
    clear hx
    go_wp2
    go_ret
    exact⟨rfl,Below.refl _ _⟩
   ·have HK2:Hid (∀i,i<k+1→0≤v.getD i 0):=fun i hi=>by
     rcases Nat.lt_or_ge i k with h|h
     ·exact HK.out i h
     ·obtain rfl:i=k:=by omega
      rw[←hx];exact Int.not_lt.1 h0
    clear hx
    have h0':0≤x:=by omega
    clear h0
    go_wp2
    go_round
    case rel=>exact⟨k+1,by omega,by go_num,HK2⟩
    case measure=>simp[RowKit.intOf];omega
  ·obtain rfl:k=n:=by omega
   have hr:r=(decide (k≤16) && decide (p=k)):=by
    rw[HV.out,vecB_pos (fun i hi=>HK.out i (by have:=HN.out;omega)),←HN.out,←HPP.out]
   by_cases h16:k≤16
   ·have t1:(k:Int)≤16:=by omega
    have hr2:r=decide (p=k):=by rw[hr];simp[h16]
    clear hr
    subst hr2
    go_wp2_with fail
    refine HP.out.mono ?_
    rintro e w1 ⟨rfl,rfl⟩
    go_wp2_with fail
    refine HS.out.mono ?_
    rintro e w1 ⟨rfl,hB⟩
    go_wp2
    go_ret
    exact⟨rfl,hB⟩
   ·have hr2:r=false:=by rw[hr];simp;omega
    have t1:¬(k:Int)≤16:=by omega
    clear hr
    subst hr2
    go_wp2
    go_ret
    exact⟨rfl,Below.refl _ _⟩
end
section
open Go.RowKit Go.Lib Go.Sort
set_option linter.unusedVariables false
def RowG (w:World) (S:Nat→Prop) (A:Option Addr) (n s:Nat) (f:Nat→Nat→Value):Prop:=
 ∀k,k<n→∃b o,A=some ⟨b,o,none⟩∧S b∧b<w.heap.size∧∀j,j<s→w.cell? ⟨b,o+k*s+j,none⟩=some (f k j)
def Agr (S:Nat→Prop) (w w':World):Prop:=w.heap.size≤w'.heap.size∧∀b,S b→b<w.heap.size→w'.heap[b]? =w.heap[b]?
theorem Agr.trans {S:Nat→Prop} {w w1 w2:World} (h:Agr S w w1) (k:Agr S w1 w2):Agr S w w2:=⟨Nat.le_trans h.1 k.1,fun b hb hl=>(k.2 b hb (Nat.lt_of_lt_of_le hl h.1)).trans (h.2 b hb hl)⟩
theorem Agr.below {S:Nat→Prop} {w w':World} (h:Below w.heap.size w w'):Agr S w w':=⟨h.size,fun b _ hl=>h.block b hl⟩
theorem Agr.grown {S:Nat→Prop} {w w':World} {row:Option Nat} (h:w.grownBy w' row) (hr:∀g,row=some g→¬S g):Agr S w w':=⟨h.size,fun b hb hl=>h.block b hl (fun e=>hr b e.symm hb)⟩
section
variable {w w' : World} {S T : Nat → Prop} {A : Option Addr} {n s : Nat} {f g : Nat → Nat → Value}
theorem RowG.agr (h:RowG w S A n s f) (ha:Agr S w w'):RowG w' S A n s f:=fun k hk=>by
 obtain⟨b,o,e,hS,hb,hc⟩:=h k hk
 exact⟨b,o,e,hS,Nat.lt_of_lt_of_le hb ha.1,fun j hj=>(World.cell?_of_block (w:=w) (a:=⟨b,o+k*s+j,none⟩) (ha.2 b hS hb)).trans (hc j hj)⟩
theorem RowG.sub (h:RowG w S A n s f) (hs:∀b,b<w.heap.size→S b→T b):RowG w T A n s f:=fun k hk=>by
 obtain⟨b,o,e,hS,hb,hc⟩:=h k hk
 exact⟨b,o,e,hs b hb hS,hb,hc⟩
theorem RowG.congr (h:RowG w S A n s f) (e:∀k j,k<n→j<s→f k j=g k j):RowG w S A n s g:=fun k hk=>by
 obtain⟨b,o,e1,hS,hb,hc⟩:=h k hk
 exact⟨b,o,e1,hS,hb,fun j hj=>by rw[hc j hj,e k j hk hj]⟩
theorem RowG.zero:RowG w S A 0 s f:=fun k hk=>absurd hk (by omega)
end
def VecS (w:World) (S:Nat→Prop) (A:Option Addr) (v:List Int):Prop:=RowG w S A v.length 1 (fun k _=> .int .i64 (v.getD k 0))
def StsS (w:World) (S:Nat→Prop) (A:Option Addr) (l:List Gst):Prop:=RowG w S A l.length 2 (fun k j=>if j=0 then .int .i64 (l.getD k .zero).t else .int .i64 (l.getD k .zero).r)
def IdsS (w:World) (S:Nat→Prop) (A:Option Addr) (l:List Gid):Prop:=RowG w S A l.length 3 (fun k j=>if j=0 then .int .i64 (l.getD k .zero).s.t else if j=1 then .int .i64 (l.getD k .zero).s.r else .int .i64 (l.getD k .zero).i)
theorem VecS.vec {w:World} {S:Nat→Prop} {A:Option Addr} {v:List Int} (h:VecS w S A v):VecR w A v:=fun k hk=>by
 obtain⟨b,o,e,_,hb,hc⟩:=h k hk
 have:=hc 0 (by omega)
 refine⟨⟨b,o,none⟩,e,hb,?_⟩
 rw[Addr.add_mid]
 simpa using this
theorem StsS.at_ {w:World} {S:Nat→Prop} {A:Option Addr} {l:List Gst} (h:StsS w S A l) {k:Nat} (hk:k<l.length):
  ∃b o,A=some ⟨b,o,none⟩∧S b∧b<w.heap.size∧w.cell? ⟨b,o+k*2,none⟩=some (.int .i64 (l.getD k .zero).t)∧w.cell? ⟨b,o+k*2+1,none⟩=some (.int .i64 (l.getD k .zero).r):=by
 obtain⟨b,o,e,hS,hb,hc⟩:=h k hk
 exact⟨b,o,e,hS,hb,hc 0 (by omega),hc 1 (by omega)⟩
theorem IdsS.at_ {w:World} {S:Nat→Prop} {A:Option Addr} {l:List Gid} (h:IdsS w S A l) {k:Nat} (hk:k<l.length):
  ∃b o,A=some ⟨b,o,none⟩∧S b∧b<w.heap.size∧w.cell? ⟨b,o+k*3,none⟩=some (.int .i64 (l.getD k .zero).s.t)∧w.cell? ⟨b,o+k*3+1,none⟩=some (.int .i64 (l.getD k .zero).s.r)∧w.cell? ⟨b,o+k*3+2,none⟩=some (.int .i64 (l.getD k .zero).i):=by
 obtain⟨b,o,e,hS,hb,hc⟩:=h k hk
 exact⟨b,o,e,hS,hb,hc 0 (by omega),hc 1 (by omega),hc 2 (by omega)⟩
structure OpX where
 dA:Option Addr
 dc:Nat
 eA:Option Addr
 ec:Nat
def opA (o:Gop) (x:OpX):Array Value:=
 #[.int .i64 o.kind,.int .i64 o.node.s.t,.int .i64 o.node.s.r,.int .i64 o.node.i,.int .i64 o.parent.s.t,.int .i64 o.parent.s.r,.int .i64 o.parent.i,.string o.name,.bool o.dir,.slice x.dA o.dots.length x.dc,
  .int .i64 o.after.s.t,.int .i64 o.after.s.r,.int .i64 o.after.i,.int .i64 o.elem.s.t,.int .i64 o.elem.s.r,.int .i64 o.elem.i,.string o.text,.slice x.eA o.elems.length x.ec]
def i63 (x:Int):Prop:= -9223372036854775808≤x∧x<9223372036854775808
structure OpIn (w:World) (S:Nat→Prop) (o:Gop) (x:OpX):Prop where
 dots:StsS w S x.dA o.dots
 elems:IdsS w S x.eA o.elems
 dle:o.dots.length≤x.dc
 ele:o.elems.length≤x.ec
 dmax:x.dc≤maxLen
 emax:x.ec≤maxLen
 name:o.name.size≤maxLen
 text:o.text.size≤maxLen
def OpsS (w:World) (S:Nat→Prop) (A:Option Addr) (l:List Gop):Prop:=
 ∃X:Nat→OpX,RowG w S A l.length 18 (fun k j=>(opA (l.getD k (opO 0 .zero)) (X k)).getD j undef)∧∀k,k<l.length→OpIn w S (l.getD k (opO 0 .zero)) (X k)
theorem OpIn.agr {w w':World} {S:Nat→Prop} {o:Gop} {x:OpX} (h:OpIn w S o x) (ha:Agr S w w'):OpIn w' S o x:=
 ⟨RowG.agr h.dots ha,RowG.agr h.elems ha,h.dle,h.ele,h.dmax,h.emax,h.name,h.text⟩
theorem OpIn.sub {w:World} {S T:Nat→Prop} {o:Gop} {x:OpX} (h:OpIn w S o x) (hs:∀b,b<w.heap.size→S b→T b):OpIn w T o x:=
 ⟨RowG.sub h.dots hs,RowG.sub h.elems hs,h.dle,h.ele,h.dmax,h.emax,h.name,h.text⟩
theorem OpsS.agr {w w':World} {S:Nat→Prop} {A:Option Addr} {l:List Gop} (h:OpsS w S A l) (ha:Agr S w w'):OpsS w' S A l:=by
 obtain⟨X,h1,h2⟩:=h
 exact⟨X,RowG.agr h1 ha,fun k hk=>(h2 k hk).agr ha⟩
theorem OpsS.sub {w:World} {S T:Nat→Prop} {A:Option Addr} {l:List Gop} (h:OpsS w S A l) (hs:∀b,b<w.heap.size→S b→T b):OpsS w T A l:=by
 obtain⟨X,h1,h2⟩:=h
 exact⟨X,RowG.sub h1 hs,fun k hk=>(h2 k hk).sub hs⟩
def grA (g:Grp) (dA:Option Addr) (dc:Nat) (oA:Option Addr) (oc:Nat):Array Value:=
 #[.int .i64 g.s.t,.int .i64 g.s.r,.int .i64 g.n,.slice dA g.deps.length dc,.int .i64 g.u.t,.int .i64 g.u.r,.slice oA g.ops.length oc]
structure GrIn (w:World) (S:Nat→Prop) (g:Grp) (dA:Option Addr) (dc:Nat) (oA:Option Addr) (oc:Nat):Prop where
 deps:VecS w S dA g.deps
 ops:OpsS w S oA g.ops
 dle:g.deps.length≤dc
 ole:g.ops.length≤oc
 dmax:dc≤maxLen
 omax:oc≤maxLen
 nin:i63 g.n
 din:∀x∈g.deps,i63 x
theorem GrIn.agr {w w':World} {S:Nat→Prop} {g:Grp} {dA oA:Option Addr} {dc oc:Nat} (h:GrIn w S g dA dc oA oc) (ha:Agr S w w'):GrIn w' S g dA dc oA oc:=
 ⟨RowG.agr h.deps ha,h.ops.agr ha,h.dle,h.ole,h.dmax,h.omax,h.nin,h.din⟩
theorem GrIn.sub {w:World} {S T:Nat→Prop} {g:Grp} {dA oA:Option Addr} {dc oc:Nat} (h:GrIn w S g dA dc oA oc) (hs:∀b,b<w.heap.size→S b→T b):GrIn w T g dA dc oA oc:=
 ⟨RowG.sub h.deps hs,h.ops.sub hs,h.dle,h.ole,h.dmax,h.omax,h.nin,h.din⟩
end
section
open Go.RowKit Go.Lib Go.Sort
set_option linter.unusedVariables false
section
variable {P : Program} {ops : Array Oper} {rest : List Oper} {o : Oper} {a : Act} {Q : Exit → Act → World → Prop}
theorem wp_store_at {K:Act→World→Prop} {w:World} (ty:TypeId) (x y:Operand) (ho:o.op= .store ty x y) (g:Nat) (T:TypeId) (c c':Array Value)
  (hx:a.eval x= .pointer (some ⟨g,0,none⟩)) (hy:a.eval y= .agg c') (hg:w.heap[g]? =some (.cells c T (0,0))) (hi:(P.info? ty).map (·.size)=some c'.size) (hs:c.size=c'.size) (h1:c'.toList.all (·.oneCell')=true)
  (h:K (a.put o.dst undef) (w.setRow g c')):o.wp P a w K Q:=by
 unfold Oper.wp execOp
 simp only[ho,hx,hy,Instr.storeAt,Instr.sureAddr,Sem.run_bind,Sem.run_pure,Result.andThen_ok,run_storeVar_row w g T ty c c' hg hi hs (by rw[←Array.all_toList];exact h1)]
 exact h
theorem store_last {w:World} (hgd:o.guard=none) (ty:TypeId) (x y:Operand) (ho:o.op= .store ty x y) (g:Nat) (T:TypeId) (c c':Array Value)
  (hx:a.eval x= .pointer (some ⟨g,0,none⟩)) (hn:w.heap.size=g) (hy:a.eval y= .agg c') (hi:(P.info? ty).map (·.size)=some c'.size) (hs:c.size=c'.size) (h1:c'.toList.all (·.oneCell')=true)
  (h:wpList P ops Q rest (a.put o.dst undef) (w.alloc (.cells c' T))):wpList P ops Q (o::rest) a (w.alloc (.cells c T)):=by
 subst hn
 exact wpList_plain hgd fun _ hK=>wp_store_at ty x y ho _ T c c' hx hy (heap_alloc_new w _) hi hs h1 (by rw[World.setRow_alloc_new];exact hK _ _ h)
theorem World.setRow_alloc_old (w:World) (g:Nat) (c:Array Value) (ob:Obj) (hg:g<w.heap.size):(w.alloc ob).setRow g c=(w.setRow g c).alloc ob:=by
 simp only[World.setRow,World.alloc]
 congr 1
 apply Array.ext_getElem?
 intro i
 rw[Array.getElem?_modify,Array.getElem?_push,Array.getElem?_push,Array.getElem?_modify]
 by_cases h:g=i
 ·subst h
  have:¬g=w.heap.size:=by omega
  simp[this]
 ·simp[h]
theorem store_last2 {w:World} {ob:Obj} (hgd:o.guard=none) (ty:TypeId) (x y:Operand) (ho:o.op= .store ty x y) (g:Nat) (T:TypeId) (c c':Array Value)
  (hx:a.eval x= .pointer (some ⟨g,0,none⟩)) (hn:w.heap.size=g) (hy:a.eval y= .agg c') (hi:(P.info? ty).map (·.size)=some c'.size) (hs:c.size=c'.size) (h1:c'.toList.all (·.oneCell')=true)
  (h:wpList P ops Q rest (a.put o.dst undef) ((w.alloc (.cells c' T)).alloc ob)):wpList P ops Q (o::rest) a ((w.alloc (.cells c T)).alloc ob):=by
 subst hn
 refine wpList_plain hgd fun _ hK=>wp_store_at ty x y ho _ T c c' hx hy ?_ hi hs h1 ?_
 ·exact(Below.heap_alloc _ ob _ (by simp)).trans (heap_alloc_new w _)
 ·rw[World.setRow_alloc_old _ _ _ _ (by simp),World.setRow_alloc_new];exact hK _ _ h
def putL:Array Value→Nat→List Value→Array Value
 |c,_,[]=>c
 |c,o,v::vs=>putL (c.setIfInBounds o v) (o+1) vs
theorem setCells_put (g:Nat) (T:TypeId):∀(vs:List Value) (o:Nat) (c:Array Value) (w:World),w.heap[g]? =some (.cells c T (0,0))→w.setCells g o vs=w.setRow g (putL c o vs)
 | [],o,c,w,hg=>by
  show w=w.setRow g c
  obtain⟨hlt,hv⟩:=Array.getElem?_eq_some_iff.1 hg
  simp only[World.setRow]
  have:w.heap.modify g (fun x=>match x with| .cells _ t fr=> .cells c t fr|o=>o)=w.heap:=by
   apply Array.ext_getElem?
   intro i
   rw[Array.getElem?_modify]
   by_cases h:g=i
   ·subst h;simp[hg]
   ·simp[h]
  cases w
  simp only at this ⊢
  congr 1
  exact this.symm
 |v::vs,o,c,w,hg=>by
  show(w.setCell ⟨g,o,none⟩ v).setCells g (o+1) vs=_
  rw[setCells_put g T vs (o+1) (c.setIfInBounds o v) _ (heap_setCell_same w g o c T v hg)]
  show _=w.setRow g (putL (c.setIfInBounds o v) (o+1) vs)
  simp only[World.setRow,World.setCell]
  congr 1
  apply Array.ext_getElem?
  intro i
  rw[Array.getElem?_modify,Array.getElem?_modify,Array.getElem?_modify]
  by_cases h:g=i
  ·subst h;simp[hg]
  ·simp[h]
theorem run_store_any (w:World) (b o:Nat) (ty:TypeId) (v:Value) (ht:w.there b o v.cells.size) (hi:(P.info? ty).map (·.size)=some v.cells.size) (h1:v.cells.toList.all (·.oneCell')=true):
  (storeVar ty ⟨b,o,none⟩ v).run P w= .ok () (w.setCells b o v.cells.toList):=by
 have:=run_storeCells_cells (P:=P) b o v.cells.toList 0 w (fun j hj=>by simpa using(ht j (by simpa using hj)).1) (fun j hj=>by simpa using(ht j (by simpa using hj)).2)
  (fun x hx=>(List.all_eq_true.1 h1) x hx)
 cases hq:P.info? ty with
 |none=>simp[hq] at hi
 |some i=>
  have hs:v.cells.size=i.size:=by simp[hq] at hi;omega
  simp only[Nat.add_zero] at this
  simp[storeVar,sizeOf,typeInfo,hq,hs,this]
theorem store_part {w:World} (hgd:o.guard=none) (ty:TypeId) (x y:Operand) (ho:o.op= .store ty x y) (g off:Nat) (T:TypeId) (c c':Array Value) (v:Value)
  (hx:a.eval x= .pointer (some ⟨g,off,none⟩)) (hn:w.heap.size=g) (hy:a.eval y=v) (hi:(P.info? ty).map (·.size)=some v.cells.size) (hs:off+v.cells.size≤c.size) (h1:v.cells.toList.all (·.oneCell')=true) (hc:putL c off v.cells.toList=c')
  (h:wpList P ops Q rest (a.put o.dst undef) (w.alloc (.cells c' T))):wpList P ops Q (o::rest) a (w.alloc (.cells c T)):=by
 subst hn hc
 refine wpList_plain hgd fun _ hK=> ?_
 have hg:=heap_alloc_new w (.cells c T)
 have ht:(w.alloc (.cells c T)).there w.heap.size off v.cells.size:=fun j hj=>by
  rw[crw hg]
  exact⟨by rw[Array.getElem?_eq_getElem (by omega)];rfl,frozen_of_row _ _ _ _ _ hg⟩
 unfold Oper.wp execOp
 simp only[ho,hx,hy,Instr.storeAt,Instr.sureAddr,Sem.run_bind,Sem.run_pure,Result.andThen_ok,run_store_any (P:=P) _ _ off ty v ht hi h1]
 rw[setCells_put _ _ _ _ _ _ hg,World.setRow_alloc_new]
 exact hK _ _ h
theorem load_last {w:World} (hgd:o.guard=none) (ty:TypeId) (x:Operand) (ho:o.op= .load ty x) (g:Nat) (T:TypeId) (c:Array Value) (d:TypeDesc)
  (hx:a.eval x= .pointer (some ⟨g,0,none⟩)) (hn:w.heap.size=g) (hu:P.underlying ty=some d) (hd:d.isRow=true) (hi:(P.info? ty).map (·.size)=some c.size)
  (h:wpList P ops Q rest (a.put o.dst (.agg c)) (w.alloc (.cells c T))):wpList P ops Q (o::rest) a (w.alloc (.cells c T)):=by
 subst hn
 refine wpList_plain hgd fun _ hK=> ?_
 unfold Oper.wp execOp
 simp only[ho,hx,Instr.loadAt,Instr.sureAddr,Sem.run_bind,Sem.run_pure,Result.andThen_ok,run_loadVar_row (w.alloc (.cells c T)) w.heap.size T ty c (0,0) d (heap_alloc_new w _) hu (by cases d<;>simp_all) hi]
 exact hK _ _ h
theorem store_at {w:World} (hgd:o.guard=none) (ty:TypeId) (x y:Operand) (ho:o.op= .store ty x y) (g:Nat) (T:TypeId) (c c':Array Value)
  (hx:a.eval x= .pointer (some ⟨g,0,none⟩)) (hy:a.eval y= .agg c') (hg:w.heap[g]? =some (.cells c T (0,0))) (hi:(P.info? ty).map (·.size)=some c'.size) (hs:c.size=c'.size) (h1:c'.toList.all (·.oneCell')=true)
  (h:wpList P ops Q rest (a.put o.dst undef) (w.setRow g c')):wpList P ops Q (o::rest) a w:=
 wpList_plain hgd fun _ hK=>wp_store_at ty x y ho g T c c' hx hy hg hi hs h1 (hK _ _ h)
theorem load_at {w:World} (hgd:o.guard=none) (ty:TypeId) (x:Operand) (ho:o.op= .load ty x) (g:Nat) (T:TypeId) (c:Array Value) (d:TypeDesc)
  (hx:a.eval x= .pointer (some ⟨g,0,none⟩)) (hg:w.heap[g]? =some (.cells c T (0,0))) (hu:P.underlying ty=some d) (hd:d.isRow=true) (hi:(P.info? ty).map (·.size)=some c.size)
  (h:wpList P ops Q rest (a.put o.dst (.agg c)) w):wpList P ops Q (o::rest) a w:=
 wpList_load_row hgd ty x ho g hx T c (0,0) d hg hu (by cases d<;>simp_all) hi h
theorem heap_setRow_same {w:World} {g:Nat} {T:TypeId} {c:Array Value} (c':Array Value) (hg:w.heap[g]? =some (.cells c T (0,0))):(w.setRow g c').heap[g]? =some (.cells c' T (0,0)):=by
 simp[World.setRow,Array.getElem?_modify,hg]
theorem Below.setRow' {B:Nat} {a w:World} (h:Below B a w) {g:Nat} (hg:B≤g) (c:Array Value):Below B a (w.setRow g c):=
 h.trans ⟨rfl,rfl,rfl,by simp[World.setRow],fun k hk=>by
  simp only[World.setRow,Array.getElem?_modify]
  rw[if_neg (by omega)]⟩
end
end
end
end Go.Proofs.YtkhmicndehlneaaGreatDoor
