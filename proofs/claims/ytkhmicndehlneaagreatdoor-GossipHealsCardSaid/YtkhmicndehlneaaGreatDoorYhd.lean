/- Part 4 of the walks and plain laws that this claim uses, joined. Conditions: as each theorem states. -/
import Derived.Deep.DeepCutAuto
import Derived.Deep.DrawnRows
import Derived.Deep.MidRow
import Derived.Deep.RegionHeld3
import Derived.Deep.WholeRow
import Derived.Test.YtkhmicndehlneaaGreatDoorYhc
namespace Go.Proofs.YtkhmicndehlneaaGreatDoor
set_option maxRecDepth 100000
set_option maxHeartbeats 16000000
set_option linter.unusedVariables false
section
section
open Go.RowKit Go.Lib Go.Sort
attribute [local go_sem ↓] Go.wp_at_zero Go.wp_at_succ
def orI (x y:Int):Int:=if x=0 then y else x
def cmpI (x y:Int):Int:=if x<y then -1 else if y<x then 1 else 0
def cmpS (a b:Gst):Int:=orI (cmpI a.t b.t) (cmpI a.r b.r)
theorem cmpS_lt (a b:Gst):decide (cmpS a b<0)=a.lt b:=by
 rw[bw,ak];simp only[cmpS,orI,cmpI,Gst.lt,ch,ap,ak]
 repeat' split
 all_goals omega
theorem cmpS_gt (a b:Gst):decide (0<cmpS a b)=b.lt a:=by
 rw[bw,ak];simp only[cmpS,orI,cmpI,Gst.lt,ch,ap,ak]
 repeat' split
 all_goals omega
theorem cmpS_ge (a b:Gst):decide (0<=cmpS a b)= !a.lt b:=by
 rw[<-cmpS_lt,bw];simp
theorem jy {B:Nat} {a w:World} (h:Below B a w) (n:Nat):Below B a (w.drewN n):=⟨h.os,h.tape,h.output,h.size,h.block⟩
theorem dk {a b:Bool} (h:a=b):Ending.returned (Value.bool a)= .returned (.bool b):=by rw[h]
def stV (s:Gst):Value:= .agg #[.int .i64 s.t,.int .i64 s.r]
def idV (x:Gid):Value:= .agg #[.int .i64 x.s.t,.int .i64 x.s.r,.int .i64 x.i]
theorem jV (t r:Int) (w:World):
  Calls Tryz.prog 92 #[.agg #[t,r]] w λe w'=>e= .returned (.bool (Gst.right ⟨t,r⟩))∧Below w.heap.size w w':=by
 obtain⟨v,hv⟩:∃v,v=Gst.right ⟨t,r⟩:=⟨_,rfl⟩;have HV:=hid hv;rw[<-hv];clear hv;go_enter Tryz.func92,Tryz.ntmps92;go_wp2
 all_goals
  go_ret;refine⟨dk ?_,(ag _ _).alloc (aa _) _⟩;rw[HV.out];simp[Gst.right]
  try omega
theorem compare_any (x y:Int) (w:World):
  Calls Tryz.prog 148 #[x,y] w λe w'=>e= .returned (.int .i64 (cmpI x y))∧w'=w:=by
 obtain⟨v,hv⟩:∃v,v=cmpI x y:=⟨_,rfl⟩;have HV:=hid hv;rw[<-hv];clear hv;go_enter Tryz.func148,Tryz.ntmps148;go_wp2
 all_goals
  go_ret;refine⟨ret_int ?_,rfl⟩;rw[HV.out];unfold cmpI
  first|rw[aJ (by omega)]|rw[aC (by omega),aJ (by omega)]|rw[aC (by omega),aC (by omega)]
theorem or_any (b:Nat) (x y:Int) (w:World) (h0:w.cell? ⟨b,0,none⟩=some (.int .i64 x)) (h1:w.cell? ⟨b,1,none⟩=some (.int .i64 y)):
  Calls Tryz.prog 147 #[.slice (some ⟨b,0,none⟩) 2 2] w λe w'=>e= .returned (.int .i64 (orI x y))∧w'=w:=by
 go_enter Tryz.func147,Tryz.ntmps147;by_cases hx:x=0
 ·subst hx;have hv:orI 0 y=y:=by unfold orI;rw[aJ rfl]
  rw[hv];clear hv;by_cases hy:y=0
  ·subst hy;go_wp2;go_loop [8] (λi=>∃k:Nat,k<=2∧i= .int .i64 k) (λi=>2-(RowKit.intOf i).toNat)
   case atStart=>exact⟨0,by omega,rfl⟩
   case round=>
    obtain⟨k,hk,rfl⟩:=hrel;obtain rfl|rfl|rfl:k=0∨k=1∨k=2:=by omega
    ·go_wp2;go_round
     case rel=>exact⟨1,by omega,rfl⟩
     case measure=>simp[RowKit.intOf]
    ·go_wp2;go_round
     case rel=>exact⟨2,by omega,rfl⟩
     case measure=>simp[RowKit.intOf]
    ·go_wp2;go_ret;exact⟨rfl,rfl⟩
  ·have t1:(y != 0)=true:=by rw[eM];exact hy
   go_wp2;go_loop [8] (λi=>∃k:Nat,k<=1∧i= .int .i64 k) (λi=>2-(RowKit.intOf i).toNat)
   case atStart=>exact⟨0,by omega,rfl⟩
   case round=>
    obtain⟨k,hk,rfl⟩:=hrel;obtain rfl|rfl:k=0∨k=1:=by omega
    ·go_wp2;go_round
     case rel=>exact⟨1,by omega,rfl⟩
     case measure=>simp[RowKit.intOf]
    ·go_wp2;go_ret;exact⟨rfl,rfl⟩
 ·have t1:(x != 0)=true:=by rw[eM];exact hx
  have hv:orI x y=x:=by unfold orI;rw[aC hx]
  rw[hv];clear hv;go_wp2;go_loop [8] (λi=>i= .int .i64 0) (λi=>2-(RowKit.intOf i).toNat)
  case atStart=>rfl
  case round=>
   obtain rfl:=hrel;go_wp2;go_ret;exact⟨rfl,rfl⟩
theorem or_new (x y:Int) (w:World) (n:Nat) (T:TypeId) (hn:w.heap.size=n):
  Calls Tryz.prog 147 #[.slice (some ⟨n,0,none⟩) 2 2] (w.alloc (.cells #[x,y] T)).drew λe w'=>e= .returned (.int .i64 (orI x y))∧w'=(w.alloc (.cells #[x,y] T)).drew:=by
 subst hn;have hb:(w.alloc (.cells #[x,y] T)).drew.heap[w.heap.size]? =some (.cells #[x,y] T (0,0)):=am w _;exact or_any _ _ _ _ (by rw[crw hb];rfl) (by rw[crw hb];rfl)
theorem cmp_any (t r t' r':Int) (w:World):
  Calls Tryz.prog 93 #[.agg #[t,r],.agg #[t',r']] w λe w'=>e= .returned (.int .i64 (cmpS ⟨t,r⟩ ⟨t',r'⟩))∧Below w.heap.size w w':=by
 go_enter Tryz.func93,Tryz.ntmps93;go_wp2
 go_region_held3 (λw'=>w'.cell? ⟨w.heap.size,0,none⟩=some (.int .i64 t)∧w'.cell? ⟨w.heap.size,1,none⟩=some (.int .i64 r)∧w'.cell? ⟨w.heap.size+1,0,none⟩=some (.int .i64 t')∧w'.cell? ⟨w.heap.size+1,1,none⟩=some (.int .i64 r')) (go_keep) (first
  |(go_at_call_of 148 (t);refine(compare_any _ _ _).mono ?_;rintro e w1 ⟨rfl,rfl⟩)
  |(go_at_call_of 148 (r);refine(compare_any _ _ _).mono ?_;rintro e w1 ⟨rfl,rfl⟩)
  |(go_at_call 147;refine(or_new _ _ _ _ _ (by simp)).mono ?_;rintro e w1 ⟨rfl,rfl⟩))
 all_goals
  go_wp2;go_ret;exact⟨rfl,((((ag _ _).alloc (aa _) _).alloc (by simp) _).alloc (by simp;omega) _).drew⟩
theorem rightid_any (t r i:Int) (w:World):
  Calls Tryz.prog 187 #[.agg #[t,r,i]] w λe w'=>e= .returned (.bool (Gid.right ⟨⟨t,r⟩,i⟩))∧Below w.heap.size w w':=by
 obtain⟨v,hv⟩:∃v,v=Gid.right ⟨⟨t,r⟩,i⟩:=⟨_,rfl⟩;have HV:=hid hv;rw[<-hv];clear hv;cases hs:Gst.right ⟨t,r⟩ with
 |false=>
  have HS:=hid hs;clear hs;go_enter Tryz.func187,Tryz.ntmps187;go_wp2_with fail;refine(jV _ _ _).mono ?_;rw[HS.out];rintro e w1 ⟨rfl,hB⟩;go_wp2;go_ret;refine⟨dk ?_,((ag _ _).alloc (aa _) _).trans (hB.mono (by simp))⟩;rw[HV.out];simp[Gid.right,HS.out]
 | true=>
  have HS:=hid hs;clear hs;go_enter Tryz.func187,Tryz.ntmps187;go_wp2_with fail;refine(jV _ _ _).mono ?_;rw[HS.out];rintro e w1 ⟨rfl,hB⟩;have hc:w1.cell? ⟨w.heap.size,2,none⟩=some (.int .i64 i):=by
   rw[hB.cell (by simp)];go_simp
  go_wp2
  all_goals
   go_ret;refine⟨dk ?_,((ag _ _).alloc (aa _) _).trans (hB.mono (by simp))⟩;rw[HV.out];simp[Gid.right,HS.out]
   try omega
theorem eq_st (a b c d:Int) (v:Bool) (h:Gst.eqb ⟨a,b⟩ ⟨c,d⟩=v) (w:World):(binOp .eql 42 (.agg #[a,b]) (.agg #[c,d])).run Tryz.prog w= .ok (.bool v) w:=by
 subst h;go_simp;simp only[Gst.eqb];by_cases h1:a=c<;>by_cases h2:b=d<;>simp[h1,h2]
theorem eJ (a b i c d j:Int) (v:Bool) (h:Gid.eqb ⟨⟨a,b⟩,i⟩ ⟨⟨c,d⟩,j⟩=v) (w:World):(binOp .eql 108 (.agg #[a,b,i]) (.agg #[c,d,j])).run Tryz.prog w= .ok (.bool v) w:=by
 subst h;go_simp;simp only[Gid.eqb,Gst.eqb];by_cases h1:a=c<;>by_cases h2:b=d<;>by_cases h3:i=j<;>simp[h1,h2,h3]
theorem ne_st (a b c d:Int) (v:Bool) (h:Gst.eqb ⟨a,b⟩ ⟨c,d⟩=v) (w:World):(binOp .neq 42 (.agg #[a,b]) (.agg #[c,d])).run Tryz.prog w= .ok (.bool !v) w:=by
 subst h;go_simp;simp only[Gst.eqb];by_cases h1:a=c<;>by_cases h2:b=d<;>simp[h1,h2]
theorem ne_id (a b i c d j:Int) (v:Bool) (h:Gid.eqb ⟨⟨a,b⟩,i⟩ ⟨⟨c,d⟩,j⟩=v) (w:World):(binOp .neq 108 (.agg #[a,b,i]) (.agg #[c,d,j])).run Tryz.prog w= .ok (.bool !v) w:=by
 subst h;go_simp;simp only[Gid.eqb,Gst.eqb];by_cases h1:a=c<;>by_cases h2:b=d<;>by_cases h3:i=j<;>simp[h1,h2,h3]
theorem it (b:Nat) (g:Gst) (k:Nat) (x:Gid) (w:World) (h0:w.cell? ⟨b,0,none⟩=some (.int .i64 g.t)) (h1:w.cell? ⟨b,1,none⟩=some (.int .i64 g.r)) (h7:w.cell? ⟨b,7,none⟩=some (.int .i64 k)):
  Calls Tryz.prog 153 #[.pointer (some ⟨b,0,none⟩),idV x] w λe w'=>e= .returned (.bool (cL g x k))∧Below w.heap.size w w':=by
 obtain⟨⟨t,r⟩,i⟩:=x;obtain⟨gt,gr⟩:=g;show Calls _ _ #[_,.agg #[t,r,i]] _ _;simp only at h0 h1;have k0:=aj (w:=w.alloc (.cells #[t,r,i] 108)) (a:=⟨b,0,none⟩) (v:= .int .i64 gt) (by rw[ej _ _ _ (eK h0)];exact h0);have k1:=aj (w:=w.alloc (.cells #[t,r,i] 108)) (a:=⟨b,1,none⟩) (v:= .int .i64 gr) (by rw[ej _ _ _ (eK h1)];exact h1);have k7:=aj (w:=w.alloc (.cells #[t,r,i] 108)) (a:=⟨b,7,none⟩) (v:= .int .i64 k) (by rw[ej _ _ _ (eK h7)];exact h7);have x0:=aj (w:=w.alloc (.cells #[t,r,i] 108)) (a:=⟨w.heap.size,0,none⟩) (v:= .int .i64 t) (by go_simp);have x1:=aj (w:=w.alloc (.cells #[t,r,i] 108)) (a:=⟨w.heap.size,1,none⟩) (v:= .int .i64 r) (by go_simp);have x2:=aj (w:=w.alloc (.cells #[t,r,i] 108)) (a:=⟨w.heap.size,2,none⟩) (v:= .int .i64 i) (by go_simp);clear h0 h1 h7;have cR:=λd os=>ay (rightid_any t r i (grow (redrawn (w.alloc (.cells #[t,r,i] 108)) d) os));have cC:=λd os=>ay (cmp_any t r gt gr (grow (redrawn (w.alloc (.cells #[t,r,i] 108)) d) os));have hc:=cmpS_lt ⟨t,r⟩ ⟨gt,gr⟩;cases hR:Gid.right ⟨⟨t,r⟩,i⟩ with
 |false=>
  rw[hR] at cR;have HR:=hid hR;clear hR cC hc;go_enter Tryz.func153,Tryz.ntmps153;go_wp2;refine rqb ?_
  repeat(any_goals(first|go_big_quiet_step (first|exact cR _ _)|quiet_step (first|exact cR _ _)))
  refine qz λwq hBq=> ?_;go_wp2;go_ret;refine⟨dk ?_,?_⟩
  ·simp[cL,HR.out]
  ·exact((ag _ _).alloc (aa _) _).trans (hBq.mono (by simp))
 | true=>
  rw[hR] at cR;have HR:=hid hR;clear hR;cases hL:Gst.lt ⟨t,r⟩ ⟨gt,gr⟩ with
  |true=>
   rw[hL] at hc;have HL:=hid hL;clear hL;go_enter Tryz.func153,Tryz.ntmps153;go_wp2;refine rqb ?_
   repeat(any_goals(first|go_big_quiet_step (first|exact cR _ _|exact cC _ _)|quiet_step (first|exact cR _ _|exact cC _ _)))
   refine qz λwq hBq=> ?_;go_wp2;go_ret;refine⟨dk ?_,?_⟩
   ·simp[cL,HR.out,HL.out]
   ·exact((ag _ _).alloc (aa _) _).trans (hBq.mono (by simp))
  | false=>
   rw[hL] at hc;have HL:=hid hL;clear hL;cases hE:Gst.eqb ⟨t,r⟩ ⟨gt,gr⟩ with
   |false=>
    have he:=eq_st t r gt gr false hE;have HE:=hid hE;clear hE;go_enter Tryz.func153,Tryz.ntmps153;go_wp2;refine rqb ?_
    repeat(any_goals(first|go_big_quiet_step (first|exact cR _ _|exact cC _ _)|quiet_step (first|exact cR _ _|exact cC _ _)))
    refine qz λwq hBq=> ?_;go_wp2;go_ret;refine⟨dk ?_,?_⟩
    ·simp[cL,HR.out,HL.out,HE.out]
    ·exact((ag _ _).alloc (aa _) _).trans (hBq.mono (by simp))
   |true=>
    have he:=eq_st t r gt gr true hE;have HE:=hid hE;clear hE;go_enter Tryz.func153,Tryz.ntmps153;go_wp2;refine rqb ?_
    repeat(any_goals(first|go_big_quiet_step (first|exact cR _ _|exact cC _ _)|quiet_step (first|exact cR _ _|exact cC _ _)))
    refine qz λwq hBq=> ?_;go_wp2;go_ret;refine⟨dk ?_,?_⟩
    ·simp[cL,HR.out,HL.out,HE.out]
    ·exact((ag _ _).alloc (aa _) _).trans (hBq.mono (by simp))
end
section
open Go.RowKit Go.Lib Go.Sort
def VecR (w:World) (A:Option Addr) (v:List Int):Prop:=Row1 w w.heap.size A v.length (λi=> .int .i64 (v.getD i 0))
theorem VecR.below {w w':World} {A:Option Addr} {v:List Int} (h:VecR w A v) (hb:Below w.heap.size w w'):VecR w' A v:=(Row1.below h hb).more hb.size
theorem atV_low {v:List Int} {r:Int} (h:r<1):atV v r=0:=by unfold atV;rw[aJ h]
theorem kG {v:List Int} {k:Nat}:atV v ((k:Int)+1)=v.getD k 0:=by
 unfold atV;rw[aC (by omega)];congr 1;omega
theorem atV_out {v:List Int} {k:Nat} (h:v.length<=k):v.getD k 0=0:=by
 rw[ae,ck h];rfl
theorem vat_any (A:Option Addr) (c:Nat) (v:List Int) (r:Int) (w:World) (hl:v.length<=9223372036854775807) (h:VecR w A v):
  Calls Tryz.prog 119 #[.slice A v.length c,r] w λe w'=>e= .returned (.int .i64 (atV v r))∧w'=w:=by
 unfold VecR at h;by_cases h1:r<1
 ·rw[atV_low h1];clear h;go_enter Tryz.func119,Tryz.ntmps119;go_wp2;go_ret;exact⟨rfl,rfl⟩
 obtain⟨k,rfl⟩:∃k:Nat,r=(k:Int)+1:=⟨(r-1).toNat,by omega⟩;rw[kG];by_cases h2:k<v.length
 ·obtain⟨ad,rfl,-,hc⟩:=h k h2;replace hc:w.cell? (ad.add k)=some (.int .i64 (v.getD k 0)):=hc;generalize v.getD k 0=x at *;generalize v.length=n at *;have t1:¬(n:Int)<(k:Int)+1:=by omega
  clear h;go_enter Tryz.func119,Tryz.ntmps119;go_wp2;go_ret;exact⟨rfl,rfl⟩
 ·rw[atV_out (by omega)];generalize v.length=n at *;have t1:(n:Int)<(k:Int)+1:=by omega
  clear h;go_enter Tryz.func119,Tryz.ntmps119;go_wp2;go_ret;exact⟨rfl,rfl⟩
theorem at_any (A:Option Addr) (c:Nat) (v:List Int) (r:Int) (w:World) (hl:v.length<=9223372036854775807) (h:VecR w A v):
  Calls Tryz.prog 63 #[.slice A v.length c,r] w λe w'=>e= .returned (.int .i64 (atV v r))∧w'=w:=by
 go_enter Tryz.func63,Tryz.ntmps63;go_wp2_with fail;refine(vat_any A c v r _ hl h).mono ?_;rintro e w1 ⟨rfl,rfl⟩;go_wp2;go_ret;exact⟨rfl,rfl⟩
theorem fh (A:Option Addr) (c:Nat) (v:List Int) (r:Int) (w:World) (hl:v.length<=9223372036854775807) (h:VecR w A v):
  Calls Tryz.prog 55 #[.slice A v.length c,r] w λe w'=>e= .returned (.int .i64 (atV v r))∧w'=w:=by
 unfold VecR at h;by_cases h1:r<1
 ·rw[atV_low h1];clear h;go_enter Tryz.func55,Tryz.ntmps55;go_wp2;go_ret;exact⟨rfl,rfl⟩
 obtain⟨k,rfl⟩:∃k:Nat,r=(k:Int)+1:=⟨(r-1).toNat,by omega⟩;rw[kG];by_cases h2:k<v.length
 ·obtain⟨ad,rfl,-,hc⟩:=h k h2;replace hc:w.cell? (ad.add k)=some (.int .i64 (v.getD k 0)):=hc;generalize v.getD k 0=x at *;generalize v.length=n at *;have t1:¬(n:Int)<(k:Int)+1:=by omega
  clear h;go_enter Tryz.func55,Tryz.ntmps55;go_wp2;go_ret;exact⟨rfl,rfl⟩
 ·rw[atV_out (by omega)];generalize v.length=n at *;have t1:(n:Int)<(k:Int)+1:=by omega
  clear h;go_enter Tryz.func55,Tryz.ntmps55;go_wp2;go_ret;exact⟨rfl,rfl⟩
theorem plainV_snoc0 (v:List Int):bW (v++[0])=bW v:=by
 unfold bW;simp
theorem plainV_snoc (v:List Int) (x:Int) (h:x≠0):bW (v++[x])=v++[x]:=by
 unfold bW;simp[h]
theorem take_succ_getD (v:List Int) (k:Nat) (h:k<v.length):v.take (k+1)=v.take k++[v.getD k 0]:=by
 rw[cv h,ae,an h];rfl
theorem plainV_len (v:List Int):(bW v).length<=v.length:=by
 unfold bW;rw[iT];have:=(List.dropWhile_sublist (l:=v.reverse) (λx=>decide (x=0))).length_le;rw[iT] at this;exact this
theorem plainV_take (v:List Int):bW v=v.take (bW v).length:=by
 unfold bW;obtain⟨p,hp⟩:=List.dropWhile_suffix (l:=v.reverse) (λx=>decide (x=0));obtain⟨q,hq⟩:∃q,q=List.dropWhile (λx=>decide (x=0)) v.reverse:=⟨_,rfl⟩;rw[<-hq] at hp ⊢;have h2:=congrArg List.reverse hp;rw[List.reverse_append,List.reverse_reverse] at h2;rw[<-h2,List.take_left]
theorem vplain_any (A:Option Addr) (c:Nat) (v:List Int) (w:World) (hc0:v.length<=c) (hl:v.length<=9223372036854775807) (h:VecR w A v):
  Calls Tryz.prog 157 #[.slice A v.length c] w λe w'=>e= .returned (.slice A (bW v).length c)∧w'=w:=by
 unfold VecR at h;have HR:=hid h;obtain⟨n,hn⟩:∃n,n=v.length:=⟨_,rfl⟩;obtain⟨p,hp⟩:∃p,p=(bW v).length:=⟨_,rfl⟩;rw[<-hn] at hc0 hl ⊢;rw[<-hp];have HN:=hid hn;have HP:=hid hp;clear h hn hp;go_enter Tryz.func157,Tryz.ntmps157;go_wp2;go_loop [0] (λs=>∃k:Nat,k<=n∧s= .slice A k c∧Hid (bW v=bW (v.take k))) (λs=>match s with| .slice _ k _=>k|_=>0)
 case atStart=>exact⟨n,aa _,rfl,by show _=_;rw[HN.out,aK]⟩
 case round=>
  obtain⟨k,hk,rfl,HK⟩:=hrel;cases k with
  |zero=>
   have hp0:p=0:=by rw[HP.out,HK.out];rfl
   subst hp0;go_wp2;go_ret;exact⟨rfl,rfl⟩
  | succ k=>
   obtain⟨ad,hA,-,hc⟩:=HR.out k (by have:=HN.out;omega);subst hA;replace hc:w.cell? (ad.add k)=some (.int .i64 (v.getD k 0)):=hc;have HT:=hid (take_succ_getD v k (by have:=HN.out;omega));obtain⟨x,hx⟩:∃x,x=v.getD k 0:=⟨_,rfl⟩;rw[<-hx] at hc;have HX:=hid hx;clear hx;have b1:(0:Int)<=(k:Int):=by omega
   have b2:(k:Int)+1-1=(k:Int):=by omega
   have b3:(k:Int)<=(c:Int):=by omega
   by_cases hx0:x=0
   ·subst hx0;have HK2:Hid (bW v=bW (v.take k)):=by show _=_;rw[HK.out,HT.out,<-HX.out,plainV_snoc0]
    go_wp2;go_round
    case rel=>exact⟨k,by omega,rfl,HK2⟩
    case measure=>simp
   ·have t1:(x == 0)=false:=by rw[aV];exact hx0
    have hpk:p=k+1:=by
     rw[HP.out,HK.out,HT.out,<-HX.out,plainV_snoc _ _ hx0,al,aP];have:=HN.out;simp;omega
    subst hpk;go_wp2;go_ret;exact⟨rfl,rfl⟩
theorem plain_any (A:Option Addr) (c:Nat) (v:List Int) (w:World) (hc0:v.length<=c) (hl:v.length<=9223372036854775807) (h:VecR w A v):
  Calls Tryz.prog 121 #[.slice A v.length c] w λe w'=>e= .returned (.slice A (bW v).length c)∧w'=w:=by
 go_enter Tryz.func121,Tryz.ntmps121;go_wp2_with fail;refine(vplain_any A c v _ hc0 hl h).mono ?_;rintro e w1 ⟨rfl,rfl⟩;go_wp2;go_ret;exact⟨rfl,rfl⟩
theorem kz (A:Option Addr) (c:Nat) (v:List Int) (w:World) (hc0:v.length<=c) (hl:v.length<=9223372036854775807) (h:VecR w A v):
  Calls Tryz.prog 105 #[.slice A v.length c] w λe w'=>e= .returned (.slice A (bW v).length c)∧w'=w:=by
 unfold VecR at h;have HR:=hid h;obtain⟨n,hn⟩:∃n,n=v.length:=⟨_,rfl⟩;obtain⟨p,hp⟩:∃p,p=(bW v).length:=⟨_,rfl⟩;rw[<-hn] at hc0 hl ⊢;rw[<-hp];have HN:=hid hn;have HP:=hid hp;clear h hn hp;go_enter Tryz.func105,Tryz.ntmps105;go_wp2;go_loop [3] (λs=>∃k:Nat,k<=n∧s= .int .i64 k∧Hid (bW v=bW (v.take k))) (λs=>(RowKit.intOf s).toNat)
 case atStart=>exact⟨n,aa _,rfl,by show _=_;rw[HN.out,aK]⟩
 case round=>
  obtain⟨k,hk,rfl,HK⟩:=hrel;cases k with
  |zero=>
   have hp0:p=0:=by rw[HP.out,HK.out];rfl
   subst hp0;go_wp2;go_ret;exact⟨rfl,rfl⟩
  | succ k=>
   obtain⟨ad,hA,-,hc⟩:=HR.out k (by have:=HN.out;omega);subst hA;replace hc:w.cell? (ad.add k)=some (.int .i64 (v.getD k 0)):=hc;have HT:=hid (take_succ_getD v k (by have:=HN.out;omega));obtain⟨x,hx⟩:∃x,x=v.getD k 0:=⟨_,rfl⟩;rw[<-hx] at hc;have HX:=hid hx;clear hx;have b1:(0:Int)<=(k:Int):=by omega
   have b2:(k:Int)+1-1=(k:Int):=by omega
   have b3:(k:Int)+1<=(c:Int):=by omega
   by_cases hx0:x=0
   ·subst hx0;have HK2:Hid (bW v=bW (v.take k)):=by show _=_;rw[HK.out,HT.out,<-HX.out,plainV_snoc0]
    go_wp2;go_round
    case rel=>exact⟨k,by omega,by go_num,HK2⟩
    case measure=>simp[RowKit.intOf]
   ·have t1:(x == 0)=false:=by rw[aV];exact hx0
    have hpk:p=k+1:=by
     rw[HP.out,HK.out,HT.out,<-HX.out,plainV_snoc _ _ hx0,al,aP];have:=HN.out;simp;omega
    subst hpk;go_wp2;go_ret;exact⟨rfl,rfl⟩
theorem same_any (A B:Option Addr) (c d:Nat) (v u:List Int) (w:World) (hl:v.length<=9223372036854775807) (hA:VecR w A v) (hB:VecR w B u):
  Calls Tryz.prog 29 #[.slice A v.length c,.slice B u.length d] w λe w'=>e= .returned (.bool (decide (v=u)))∧Below w.heap.size w w':=by
 unfold VecR at hA hB;have HA:=hid hA;have HB:=hid hB;clear hA hB;obtain⟨n,hn⟩:∃n,n=v.length:=⟨_,rfl⟩;obtain⟨m,hm⟩:∃m,m=u.length:=⟨_,rfl⟩;rw[<-hn] at hl ⊢;rw[<-hm];obtain⟨r,hr⟩:∃r,r=decide (v=u):=⟨_,rfl⟩;rw[<-hr];have HN:=hid hn;have HM:=hid hm;have HV:=hid hr;clear hn hm hr;by_cases hnm:n=m
 ·subst hnm;go_enter Tryz.func29,Tryz.ntmps29;go_wp2;go_loopw [5] (λi wr=>∃k j:Nat,k<=n∧i= .int .i64 k∧wr=w.drewN j∧Hid (∀i,i<k->v.getD i 0=u.getD i 0)) (λi _=>n-(RowKit.intOf i).toNat)
  case atStart=>exact⟨0,0,by omega,rfl,rfl,λi hi=>absurd hi (by omega)⟩
  case round=>
   obtain⟨k,j,hk,rfl,rfl,HK⟩:=hrel;by_cases hlt:k<n
   ·obtain⟨ad,hA,-,hc⟩:=HA.out k (by have:=HN.out;omega);obtain⟨bd,hB,-,hd⟩:=HB.out k (by have:=HM.out;omega);subst hA hB;replace hc:w.cell? (ad.add k)=some (.int .i64 (v.getD k 0)):=hc;replace hd:w.cell? (bd.add k)=some (.int .i64 (u.getD k 0)):=hd;obtain⟨x,hx⟩:∃x,x=v.getD k 0:=⟨_,rfl⟩;obtain⟨y,hy⟩:∃y,y=u.getD k 0:=⟨_,rfl⟩;rw[<-hx] at hc;rw[<-hy] at hd;by_cases hxy:x=y
    ·have HK2:Hid (∀i,i<k+1->v.getD i 0=u.getD i 0):=λi hi=>by
      rcases cj i k with h|h
      ·exact HK.out i h
      ·obtain rfl:i=k:=by omega
       rw[<-hx,<-hy,hxy]
     clear hx hy;subst hxy;go_wp2;go_quiet (fail);go_wp2;go_roundw
     case rel=>exact⟨k+1,_,by omega,by go_num,rfl,HK2⟩
     case measure=>simp[RowKit.intOf];omega
    ·have t1:(x != y)=true:=by rw[eM];exact hxy
     have hr:r=false:=by
      rw[HV.out,aU];rintro rfl;exact hxy (hx.trans hy.symm)
     subst hr;clear hx hy;go_wp2;go_quiet (fail);go_wp2;go_ret;exact⟨rfl,jy (jy (ag _ _) _) _⟩
   ·obtain rfl:k=n:=by omega
    have hr:r=true:=by
     rw[HV.out,ak];refine List.ext_getElem (by rw[<-HN.out,<-HM.out]) λi h1 h2=> ?_;have:=HK.out i (by rw[HN.out];exact h1);rw[ae,ae,an h1,an h2] at this;exact this
    subst hr;go_wp2;go_ret;exact⟨rfl,jy (ag _ _) _⟩
 ·have t1:((n:Int) != (m:Int))=true:=by rw[eM];omega
  have hr:r=false:=by
   rw[HV.out,aU];rintro rfl;exact hnm (HN.out.trans HM.out.symm)
  subst hr;go_enter Tryz.func29,Tryz.ntmps29;go_wp2;go_ret;exact⟨rfl,ag _ _⟩
theorem vecB_neg {v:List Int} {k:Nat} (hk:k<v.length) (h:v.getD k 0<0):vecB v=false:=by
 rw[<-Bool.not_eq_true];intro hv;simp only[vecB,ap,dJ,ak] at hv
 have:=hv.1.1 (v.getD k 0) (by
  rw[ae,an hk];exact bU hk)
 omega
theorem vecB_pos {v:List Int} (h:∀k,k<v.length->0<=v.getD k 0):vecB v=(decide (v.length<=16) && decide ((bW v).length=v.length)):=by
 have:v.all (λx=>decide (0<=x))=true:=by
  rw[dJ];intro x hx;obtain⟨i,hi,rfl⟩:=jM (z:=(0:Int)) hx;exact aN (h i hi)
 simp only[vecB,this,aY]
theorem vector_any (A:Option Addr) (c:Nat) (v:List Int) (w:World) (hc0:v.length<=c) (hl:v.length<=9223372036854775807) (h:VecR w A v):
  Calls Tryz.prog 71 #[.slice A v.length c] w λe w'=>e= .returned (.bool (vecB v))∧w'=w:=by
 have HP:=hid (plain_any A c v w hc0 hl h);unfold VecR at h;have HR:=hid h;obtain⟨r,hr⟩:∃r,r=vecB v:=⟨_,rfl⟩;rw[<-hr];obtain⟨n,hn⟩:∃n,n=v.length:=⟨_,rfl⟩;rw[<-hn] at hc0 hl HP ⊢;obtain⟨p,hp⟩:∃p,p=(bW v).length:=⟨_,rfl⟩;rw[<-hp] at HP;have HN:=hid hn;have HV:=hid hr;have HPP:=hid hp;have hpn:p<=n:=by rw[hp,hn];exact plainV_len v
 clear h hn hr hp;go_enter Tryz.func71,Tryz.ntmps71;go_wp2;go_loop [7] (λi=>∃k:Nat,k<=n∧i= .int .i64 k∧Hid (∀i,i<k->0<=v.getD i 0)) (λi=>n-(RowKit.intOf i).toNat)
 case atStart=>exact⟨0,by omega,rfl,λi hi=>absurd hi (by omega)⟩
 case round=>
  obtain⟨k,hk,rfl,HK⟩:=hrel;by_cases hlt:k<n
  ·obtain⟨ad,hA,-,hc⟩:=HR.out k (by have:=HN.out;omega);subst hA;replace hc:w.cell? (ad.add k)=some (.int .i64 (v.getD k 0)):=hc;obtain⟨x,hx⟩:∃x,x=v.getD k 0:=⟨_,rfl⟩;rw[<-hx] at hc;by_cases h0:x<0
   ·have hr:r=false:=by rw[HV.out,vecB_neg (by have h9:=HN.out;rw[<-h9];exact hlt) (by rw[<-hx];exact h0)]
    subst hr;clear hx;go_wp2;go_ret;exact⟨rfl,rfl⟩
   ·have HK2:Hid (∀i,i<k+1->0<=v.getD i 0):=λi hi=>by
     rcases cj i k with h|h
     ·exact HK.out i h
     ·obtain rfl:i=k:=by omega
      rw[<-hx];exact Int.not_lt.1 h0
    clear hx;have h0':0<=x:=by omega
    clear h0;go_wp2;go_round
    case rel=>exact⟨k+1,by omega,by go_num,HK2⟩
    case measure=>simp[RowKit.intOf];omega
  ·obtain rfl:k=n:=by omega
   have hr:r=(decide (k<=16) && decide (p=k)):=by
    rw[HV.out,vecB_pos (λi hi=>HK.out i (by have:=HN.out;omega)),<-HN.out,<-HPP.out]
   by_cases h16:k<=16
   ·have t1:(k:Int)<=16:=by omega
    by_cases hpk:p=k
    ·have hr2:r=true:=by rw[hr];simp[h16,hpk]
     clear hr;subst hr2 hpk;go_wp2_with (go_at_call 121;refine HP.out.mono ?_;rintro e w1 ⟨rfl,rfl⟩);go_ret;exact⟨rfl,rfl⟩
    ·have hr2:r=false:=by rw[hr];simp[hpk]
     have t2:((p:Int) == (k:Int))=false:=by rw[aV];omega
     clear hr;subst hr2;go_wp2_with (go_at_call 121;refine HP.out.mono ?_;rintro e w1 ⟨rfl,rfl⟩);go_ret;exact⟨rfl,rfl⟩
   ·have hr2:r=false:=by rw[hr];simp;omega
    have t1:¬(k:Int)<=16:=by omega
    clear hr;subst hr2;go_wp2;go_ret;exact⟨rfl,rfl⟩
theorem refvector_any (A:Option Addr) (c:Nat) (v:List Int) (w:World) (hc0:v.length<=c) (hl:v.length<=9223372036854775807) (h:VecR w A v):
  Calls Tryz.prog 102 #[.slice A v.length c] w λe w'=>e= .returned (.bool (vecB v))∧Below w.heap.size w w':=by
 have HP:=hid (kz A c v w hc0 hl h);have hh:=plainV_take v;have hpl:=plainV_len v
 have HS:=hid (same_any A A c c v (bW v) w hl h (by
  intro k hk;obtain⟨ad,e,hb,hx⟩:=h k (by omega);refine⟨ad,e,hb,?_⟩;rw[hx];show some (Value.int .i64 (v.getD k 0))=some (.int .i64 ((bW v).getD k 0));have e2:(bW v).getD k 0=v.getD k 0:=by
   rw[hh,ae,ae,List.getElem?_take_of_lt hk]
  rw[e2]))
 have hd:decide (v=bW v)=decide ((bW v).length=v.length):=by
  rw[bw,ak,ak];exact⟨λe=>by rw[<-e],λe=>by rw[hh,e,aK]⟩
 rw[hd] at HS;clear hd hh;unfold VecR at h;have HR:=hid h;obtain⟨r,hr⟩:∃r,r=vecB v:=⟨_,rfl⟩;rw[<-hr];obtain⟨n,hn⟩:∃n,n=v.length:=⟨_,rfl⟩;rw[<-hn] at hc0 hl HP HS ⊢;obtain⟨p,hp⟩:∃p,p=(bW v).length:=⟨_,rfl⟩;rw[<-hp] at HP HS;have HN:=hid hn;have HV:=hid hr;have HPP:=hid hp;have hpn:p<=n:=by rw[hp,hn];exact plainV_len v
 clear h hn hr hp;go_enter Tryz.func102,Tryz.ntmps102;go_wp2;go_loop [3] (λi=>∃k:Nat,k<=n∧i= .int .i64 k∧Hid (∀i,i<k->0<=v.getD i 0)) (λi=>n-(RowKit.intOf i).toNat)
 case atStart=>exact⟨0,by omega,rfl,λi hi=>absurd hi (by omega)⟩
 case round=>
  obtain⟨k,hk,rfl,HK⟩:=hrel;by_cases hlt:k<n
  ·obtain⟨ad,hA,-,hc⟩:=HR.out k (by have:=HN.out;omega);subst hA;replace hc:w.cell? (ad.add k)=some (.int .i64 (v.getD k 0)):=hc;obtain⟨x,hx⟩:∃x,x=v.getD k 0:=⟨_,rfl⟩;rw[<-hx] at hc;by_cases h0:x<0
   ·have hr:r=false:=by rw[HV.out,vecB_neg (by have h9:=HN.out;rw[<-h9];exact hlt) (by rw[<-hx];exact h0)]
    subst hr;clear hx;go_wp2;go_ret;exact⟨rfl,ag _ _⟩
   ·have HK2:Hid (∀i,i<k+1->0<=v.getD i 0):=λi hi=>by
     rcases cj i k with h|h
     ·exact HK.out i h
     ·obtain rfl:i=k:=by omega
      rw[<-hx];exact Int.not_lt.1 h0
    clear hx;have h0':0<=x:=by omega
    clear h0;go_wp2;go_round
    case rel=>exact⟨k+1,by omega,by go_num,HK2⟩
    case measure=>simp[RowKit.intOf];omega
  ·obtain rfl:k=n:=by omega
   have hr:r=(decide (k<=16) && decide (p=k)):=by
    rw[HV.out,vecB_pos (λi hi=>HK.out i (by have:=HN.out;omega)),<-HN.out,<-HPP.out]
   by_cases h16:k<=16
   ·have t1:(k:Int)<=16:=by omega
    have hr2:r=decide (p=k):=by rw[hr];simp[h16]
    clear hr;subst hr2;go_wp2_with fail;refine HP.out.mono ?_;rintro e w1 ⟨rfl,rfl⟩;go_wp2_with fail;refine HS.out.mono ?_;rintro e w1 ⟨rfl,hB⟩;go_wp2;go_ret;exact⟨rfl,hB⟩
   ·have hr2:r=false:=by rw[hr];simp;omega
    have t1:¬(k:Int)<=16:=by omega
    clear hr;subst hr2;go_wp2;go_ret;exact⟨rfl,ag _ _⟩
end
section
open Go.RowKit Go.Lib Go.Sort
def RowG (w:World) (S:Nat->Prop) (A:Option Addr) (n s:Nat) (f:Nat->Nat->Value):Prop:=
 ∀k,k<n->∃b o,A=some ⟨b,o,none⟩∧S b∧b<w.heap.size∧∀j,j<s->w.cell? ⟨b,o+k*s+j,none⟩=some (f k j)
def Agr (S:Nat->Prop) (w w':World):Prop:=w.heap.size<=w'.heap.size∧∀b,S b->b<w.heap.size->w'.heap[b]? =w.heap[b]?
theorem Agr.refl {S:Nat->Prop} {w:World}:Agr S w w:=⟨aa _,λ_ _ _=>rfl⟩
theorem Agr.trans {S:Nat->Prop} {w w1 w2:World} (h:Agr S w w1) (k:Agr S w1 w2):Agr S w w2:=⟨aL h.1 k.1,λb hb hl=>(k.2 b hb (bC hl h.1)).trans (h.2 b hb hl)⟩
theorem Agr.below {S:Nat->Prop} {w w':World} (h:Below w.heap.size w w'):Agr S w w':=⟨h.size,λb _ hl=>h.block b hl⟩
theorem Agr.grown {S:Nat->Prop} {w w':World} {row:Option Nat} (h:w.grownBy w' row) (hr:∀g,row=some g->¬S g):Agr S w w':=⟨h.size,λb hb hl=>h.block b hl (λe=>hr b e.symm hb)⟩
theorem Agr.sub {S T:Nat->Prop} {w w':World} (h:Agr S w w') (hs:∀b,T b->S b):Agr T w w':=⟨h.1,λb hb hl=>h.2 b (hs b hb) hl⟩
section
variable {w w' : World} {S T : Nat → Prop} {A : Option Addr} {n s : Nat} {f g : Nat → Nat → Value}
theorem RowG.agr (h:RowG w S A n s f) (ha:Agr S w w'):RowG w' S A n s f:=λk hk=>by
 obtain⟨b,o,e,hS,hb,hc⟩:=h k hk
 exact⟨b,o,e,hS,bC hb ha.1,λj hj=>(aS (w:=w) (a:=⟨b,o+k*s+j,none⟩) (ha.2 b hS hb)).trans (hc j hj)⟩
theorem RowG.sub (h:RowG w S A n s f) (hs:∀b,b<w.heap.size->S b->T b):RowG w T A n s f:=λk hk=>by
 obtain⟨b,o,e,hS,hb,hc⟩:=h k hk
 exact⟨b,o,e,hs b hb hS,hb,hc⟩
theorem RowG.congr (h:RowG w S A n s f) (e:∀k j,k<n->j<s->f k j=g k j):RowG w S A n s g:=λk hk=>by
 obtain⟨b,o,e1,hS,hb,hc⟩:=h k hk
 exact⟨b,o,e1,hS,hb,λj hj=>by rw[hc j hj,e k j hk hj]⟩
theorem RowG.zero:RowG w S A 0 s f:=λk hk=>absurd hk (by omega)
end
def VecS (w:World) (S:Nat->Prop) (A:Option Addr) (v:List Int):Prop:=RowG w S A v.length 1 (λk _=> .int .i64 (v.getD k 0))
def StsS (w:World) (S:Nat->Prop) (A:Option Addr) (l:List Gst):Prop:=RowG w S A l.length 2 (λk j=>if j=0 then .int .i64 (l.getD k .zero).t else .int .i64 (l.getD k .zero).r)
def IdsS (w:World) (S:Nat->Prop) (A:Option Addr) (l:List Gid):Prop:=RowG w S A l.length 3 (λk j=>if j=0 then .int .i64 (l.getD k .zero).s.t else if j=1 then .int .i64 (l.getD k .zero).s.r else .int .i64 (l.getD k .zero).i)
theorem VecS.vec {w:World} {S:Nat->Prop} {A:Option Addr} {v:List Int} (h:VecS w S A v):VecR w A v:=λk hk=>by
 obtain⟨b,o,e,_,hb,hc⟩:=h k hk
 have:=hc 0 (by omega)
 refine⟨⟨b,o,none⟩,e,hb,?_⟩
 rw[Addr.add_mid]
 simpa using this
theorem StsS.at_ {w:World} {S:Nat->Prop} {A:Option Addr} {l:List Gst} (h:StsS w S A l) {k:Nat} (hk:k<l.length):
  ∃b o,A=some ⟨b,o,none⟩∧S b∧b<w.heap.size∧w.cell? ⟨b,o+k*2,none⟩=some (.int .i64 (l.getD k .zero).t)∧w.cell? ⟨b,o+k*2+1,none⟩=some (.int .i64 (l.getD k .zero).r):=by
 obtain⟨b,o,e,hS,hb,hc⟩:=h k hk;exact⟨b,o,e,hS,hb,hc 0 (by omega),hc 1 (by omega)⟩
theorem IdsS.at_ {w:World} {S:Nat->Prop} {A:Option Addr} {l:List Gid} (h:IdsS w S A l) {k:Nat} (hk:k<l.length):
  ∃b o,A=some ⟨b,o,none⟩∧S b∧b<w.heap.size∧w.cell? ⟨b,o+k*3,none⟩=some (.int .i64 (l.getD k .zero).s.t)∧w.cell? ⟨b,o+k*3+1,none⟩=some (.int .i64 (l.getD k .zero).s.r)∧w.cell? ⟨b,o+k*3+2,none⟩=some (.int .i64 (l.getD k .zero).i):=by
 obtain⟨b,o,e,hS,hb,hc⟩:=h k hk;exact⟨b,o,e,hS,hb,hc 0 (by omega),hc 1 (by omega),hc 2 (by omega)⟩
structure OpX where
 dA:Option Addr
 dc:Nat
 eA:Option Addr
 ec:Nat
def opA (o:Gop) (x:OpX):Array Value:=
 #[.int .i64 o.kind,.int .i64 o.node.s.t,.int .i64 o.node.s.r,.int .i64 o.node.i,.int .i64 o.parent.s.t,.int .i64 o.parent.s.r,.int .i64 o.parent.i,.string o.name,.bool o.dir,.slice x.dA o.dots.length x.dc,
  .int .i64 o.after.s.t,.int .i64 o.after.s.r,.int .i64 o.after.i,.int .i64 o.elem.s.t,.int .i64 o.elem.s.r,.int .i64 o.elem.i,.string o.text,.slice x.eA o.elems.length x.ec]
def i63 (x:Int):Prop:= -9223372036854775808<=x∧x<9223372036854775808
structure OpIn (w:World) (S:Nat->Prop) (o:Gop) (x:OpX):Prop where
 dots:StsS w S x.dA o.dots
 elems:IdsS w S x.eA o.elems
 dle:o.dots.length<=x.dc
 ele:o.elems.length<=x.ec
 dmax:x.dc<=maxLen
 emax:x.ec<=maxLen
 name:o.name.size<=maxLen
 text:o.text.size<=maxLen
def OpsS (w:World) (S:Nat->Prop) (A:Option Addr) (l:List Gop):Prop:=
 ∃X:Nat->OpX,RowG w S A l.length 18 (λk j=>(opA (l.getD k (opO 0 .zero)) (X k)).getD j undef)∧∀k,k<l.length->OpIn w S (l.getD k (opO 0 .zero)) (X k)
theorem OpIn.agr {w w':World} {S:Nat->Prop} {o:Gop} {x:OpX} (h:OpIn w S o x) (ha:Agr S w w'):OpIn w' S o x:=
 ⟨RowG.agr h.dots ha,RowG.agr h.elems ha,h.dle,h.ele,h.dmax,h.emax,h.name,h.text⟩
theorem OpIn.sub {w:World} {S T:Nat->Prop} {o:Gop} {x:OpX} (h:OpIn w S o x) (hs:∀b,b<w.heap.size->S b->T b):OpIn w T o x:=
 ⟨RowG.sub h.dots hs,RowG.sub h.elems hs,h.dle,h.ele,h.dmax,h.emax,h.name,h.text⟩
theorem OpsS.agr {w w':World} {S:Nat->Prop} {A:Option Addr} {l:List Gop} (h:OpsS w S A l) (ha:Agr S w w'):OpsS w' S A l:=by
 obtain⟨X,h1,h2⟩:=h;exact⟨X,RowG.agr h1 ha,λk hk=>(h2 k hk).agr ha⟩
theorem OpsS.sub {w:World} {S T:Nat->Prop} {A:Option Addr} {l:List Gop} (h:OpsS w S A l) (hs:∀b,b<w.heap.size->S b->T b):OpsS w T A l:=by
 obtain⟨X,h1,h2⟩:=h;exact⟨X,RowG.sub h1 hs,λk hk=>(h2 k hk).sub hs⟩
def grA (g:Grp) (dA:Option Addr) (dc:Nat) (oA:Option Addr) (oc:Nat):Array Value:=
 #[.int .i64 g.s.t,.int .i64 g.s.r,.int .i64 g.n,.slice dA g.deps.length dc,.int .i64 g.u.t,.int .i64 g.u.r,.slice oA g.ops.length oc]
structure GrIn (w:World) (S:Nat->Prop) (g:Grp) (dA:Option Addr) (dc:Nat) (oA:Option Addr) (oc:Nat):Prop where
 deps:VecS w S dA g.deps
 ops:OpsS w S oA g.ops
 dle:g.deps.length<=dc
 ole:g.ops.length<=oc
 dmax:dc<=maxLen
 omax:oc<=maxLen
 nin:i63 g.n
 din:∀x∈g.deps,i63 x
theorem GrIn.agr {w w':World} {S:Nat->Prop} {g:Grp} {dA oA:Option Addr} {dc oc:Nat} (h:GrIn w S g dA dc oA oc) (ha:Agr S w w'):GrIn w' S g dA dc oA oc:=
 ⟨RowG.agr h.deps ha,h.ops.agr ha,h.dle,h.ole,h.dmax,h.omax,h.nin,h.din⟩
theorem GrIn.sub {w:World} {S T:Nat->Prop} {g:Grp} {dA oA:Option Addr} {dc oc:Nat} (h:GrIn w S g dA dc oA oc) (hs:∀b,b<w.heap.size->S b->T b):GrIn w T g dA dc oA oc:=
 ⟨RowG.sub h.deps hs,h.ops.sub hs,h.dle,h.ole,h.dmax,h.omax,h.nin,h.din⟩
end
section
open Go.RowKit Go.Lib Go.Sort
section
variable {P : Program} {ops : Array Oper} {rest : List Oper} {o : Oper} {a : Act} {Q : Exit → Act → World → Prop}
theorem jF {K:Act->World->Prop} {w:World} (ty:TypeId) (x y:Operand) (ho:o.op= .store ty x y) (g:Nat) (T:TypeId) (c c':Array Value)
  (hx:a.eval x= .pointer (some ⟨g,0,none⟩)) (hy:a.eval y= .agg c') (hg:w.heap[g]? =some (.cells c T (0,0))) (hi:(P.info? ty).map (·.size)=some c'.size) (hs:c.size=c'.size) (h1:c'.toList.all (·.oneCell')=true)
  (h:K (a.put o.dst undef) (w.setRow g c')):o.wp P a w K Q:=by
 unfold Oper.wp execOp;simp only[ho,hx,hy,Instr.storeAt,Instr.sureAddr,Sem.run_bind,Sem.run_pure,Result.andThen_ok,run_storeVar_row w g T ty c c' hg hi hs (by rw[<-cg];exact h1)];exact h
theorem bM {w:World} (hgd:o.guard=none) (ty:TypeId) (x y:Operand) (ho:o.op= .store ty x y) (g:Nat) (T:TypeId) (c c':Array Value)
  (hx:a.eval x= .pointer (some ⟨g,0,none⟩)) (hn:w.heap.size=g) (hy:a.eval y= .agg c') (hi:(P.info? ty).map (·.size)=some c'.size) (hs:c.size=c'.size) (h1:c'.toList.all (·.oneCell')=true)
  (h:wpList P ops Q rest (a.put o.dst undef) (w.alloc (.cells c' T))):wpList P ops Q (o::rest) a (w.alloc (.cells c T)):=by
 subst hn;exact wpList_plain hgd λ_ hK=>jF ty x y ho _ T c c' hx hy (am w _) hi hs h1 (by rw[World.setRow_alloc_new];exact hK _ _ h)
theorem World.setRow_alloc_old (w:World) (g:Nat) (c:Array Value) (ob:Obj) (hg:g<w.heap.size):(w.alloc ob).setRow g c=(w.setRow g c).alloc ob:=by
 simp only[World.setRow,World.alloc];congr 1;apply Array.ext_getElem?;intro i;rw[cx,Array.getElem?_push,Array.getElem?_push,cx];by_cases h:g=i
 ·subst h;have:¬g=w.heap.size:=by omega
  simp[this]
 ·simp[h]
theorem gU {w:World} {ob:Obj} (hgd:o.guard=none) (ty:TypeId) (x y:Operand) (ho:o.op= .store ty x y) (g:Nat) (T:TypeId) (c c':Array Value)
  (hx:a.eval x= .pointer (some ⟨g,0,none⟩)) (hn:w.heap.size=g) (hy:a.eval y= .agg c') (hi:(P.info? ty).map (·.size)=some c'.size) (hs:c.size=c'.size) (h1:c'.toList.all (·.oneCell')=true)
  (h:wpList P ops Q rest (a.put o.dst undef) ((w.alloc (.cells c' T)).alloc ob)):wpList P ops Q (o::rest) a ((w.alloc (.cells c T)).alloc ob):=by
 subst hn;refine wpList_plain hgd λ_ hK=>jF ty x y ho _ T c c' hx hy ?_ hi hs h1 ?_
 ·exact(ax _ ob _ (by simp)).trans (am w _)
 ·rw[World.setRow_alloc_old _ _ _ _ (by simp),World.setRow_alloc_new];exact hK _ _ h
def putL:Array Value->Nat->List Value->Array Value
 |c,_,[]=>c
 |c,o,v::vs=>putL (c.setIfInBounds o v) (o+1) vs
theorem fk (g:Nat) (T:TypeId):∀(vs:List Value) (o:Nat) (c:Array Value) (w:World),w.heap[g]? =some (.cells c T (0,0))->w.setCells g o vs=w.setRow g (putL c o vs)
 | [],o,c,w,hg=>by
  show w=w.setRow g c
  obtain⟨hlt,hv⟩:=Array.getElem?_eq_some_iff.1 hg
  simp only[World.setRow]
  have:w.heap.modify g (λx=>match x with| .cells _ t fr=> .cells c t fr|o=>o)=w.heap:=by
   apply Array.ext_getElem?;intro i;rw[cx];by_cases h:g=i
   ·subst h;simp[hg]
   ·simp[h]
  cases w;simp only at this ⊢;congr 1;exact this.symm
 |v::vs,o,c,w,hg=>by
  show(w.setCell ⟨g,o,none⟩ v).setCells g (o+1) vs=_;rw[fk g T vs (o+1) (c.setIfInBounds o v) _ (cn w g o c T v hg)];show _=w.setRow g (putL (c.setIfInBounds o v) (o+1) vs);simp only[World.setRow,World.setCell];congr 1;apply Array.ext_getElem?;intro i;rw[cx,cx,cx];by_cases h:g=i
  ·subst h;simp[hg]
  ·simp[h]
theorem run_store_any (w:World) (b o:Nat) (ty:TypeId) (v:Value) (ht:w.there b o v.cells.size) (hi:(P.info? ty).map (·.size)=some v.cells.size) (h1:v.cells.toList.all (·.oneCell')=true):
  (storeVar ty ⟨b,o,none⟩ v).run P w= .ok () (w.setCells b o v.cells.toList):=by
 have:=run_storeCells_cells (P:=P) b o v.cells.toList 0 w (λj hj=>by simpa using(ht j (by simpa using hj)).1) (λj hj=>by simpa using(ht j (by simpa using hj)).2)
  (λx hx=>(dJ.1 h1) x hx)
 cases hq:P.info? ty with
 |none=>simp[hq] at hi
 |some i=>
  have hs:v.cells.size=i.size:=by simp[hq] at hi;omega
  simp only[Nat.add_zero] at this;simp[storeVar,sizeOf,typeInfo,hq,hs,this]
theorem im {w:World} (hgd:o.guard=none) (ty:TypeId) (x y:Operand) (ho:o.op= .store ty x y) (g off:Nat) (T:TypeId) (c c':Array Value) (v:Value)
  (hx:a.eval x= .pointer (some ⟨g,off,none⟩)) (hn:w.heap.size=g) (hy:a.eval y=v) (hi:(P.info? ty).map (·.size)=some v.cells.size) (hs:off+v.cells.size<=c.size) (h1:v.cells.toList.all (·.oneCell')=true) (hc:putL c off v.cells.toList=c')
  (h:wpList P ops Q rest (a.put o.dst undef) (w.alloc (.cells c' T))):wpList P ops Q (o::rest) a (w.alloc (.cells c T)):=by
 subst hn hc;refine wpList_plain hgd λ_ hK=> ?_;have hg:=am w (.cells c T);have ht:(w.alloc (.cells c T)).there w.heap.size off v.cells.size:=λj hj=>by
  rw[crw hg];exact⟨by rw[dh (by omega)];rfl,aW _ _ _ _ _ hg⟩
 unfold Oper.wp execOp;simp only[ho,hx,hy,Instr.storeAt,Instr.sureAddr,Sem.run_bind,Sem.run_pure,Result.andThen_ok,run_store_any (P:=P) _ _ off ty v ht hi h1];rw[fk _ _ _ _ _ _ hg,World.setRow_alloc_new];exact hK _ _ h
theorem df {w:World} (hgd:o.guard=none) (ty:TypeId) (x:Operand) (ho:o.op= .load ty x) (g:Nat) (T:TypeId) (c:Array Value) (d:TypeDesc)
  (hx:a.eval x= .pointer (some ⟨g,0,none⟩)) (hn:w.heap.size=g) (hu:P.underlying ty=some d) (hd:d.isRow=true) (hi:(P.info? ty).map (·.size)=some c.size)
  (h:wpList P ops Q rest (a.put o.dst (.agg c)) (w.alloc (.cells c T))):wpList P ops Q (o::rest) a (w.alloc (.cells c T)):=by
 subst hn;refine wpList_plain hgd λ_ hK=> ?_;unfold Oper.wp execOp;simp only[ho,hx,Instr.loadAt,Instr.sureAddr,Sem.run_bind,Sem.run_pure,Result.andThen_ok,run_loadVar_row (w.alloc (.cells c T)) w.heap.size T ty c (0,0) d (am w _) hu (by cases d<;>simp_all) hi];exact hK _ _ h
theorem da {w:World} (hgd:o.guard=none) (ty:TypeId) (x y:Operand) (ho:o.op= .store ty x y) (g:Nat) (T:TypeId) (c c':Array Value)
  (hx:a.eval x= .pointer (some ⟨g,0,none⟩)) (hy:a.eval y= .agg c') (hg:w.heap[g]? =some (.cells c T (0,0))) (hi:(P.info? ty).map (·.size)=some c'.size) (hs:c.size=c'.size) (h1:c'.toList.all (·.oneCell')=true)
  (h:wpList P ops Q rest (a.put o.dst undef) (w.setRow g c')):wpList P ops Q (o::rest) a w:=
 wpList_plain hgd λ_ hK=>jF ty x y ho g T c c' hx hy hg hi hs h1 (hK _ _ h)
theorem cu {w:World} (hgd:o.guard=none) (ty:TypeId) (x:Operand) (ho:o.op= .load ty x) (g:Nat) (T:TypeId) (c:Array Value) (d:TypeDesc)
  (hx:a.eval x= .pointer (some ⟨g,0,none⟩)) (hg:w.heap[g]? =some (.cells c T (0,0))) (hu:P.underlying ty=some d) (hd:d.isRow=true) (hi:(P.info? ty).map (·.size)=some c.size)
  (h:wpList P ops Q rest (a.put o.dst (.agg c)) w):wpList P ops Q (o::rest) a w:=
 wpList_load_row hgd ty x ho g hx T c (0,0) d hg hu (by cases d<;>simp_all) hi h
theorem aM {w:World} {g:Nat} {T:TypeId} {c:Array Value} (c':Array Value) (hg:w.heap[g]? =some (.cells c T (0,0))):(w.setRow g c').heap[g]? =some (.cells c' T (0,0)):=by
 simp[World.setRow,cx,hg]
theorem Below.setRow' {B:Nat} {a w:World} (h:Below B a w) {g:Nat} (hg:B<=g) (c:Array Value):Below B a (w.setRow g c):=
 h.trans ⟨rfl,rfl,rfl,by simp[World.setRow],λk hk=>by
  simp only[World.setRow,cx]
  rw[aC (by omega)]⟩
end
end
section
open Go.RowKit Go.Lib Go.Sort
section
variable {w w1 w2 : World} {r : Option Nat}
theorem gby_refl:w.grownBy w r:=⟨rfl,rfl,rfl,aa _,λ_ _ _=>rfl⟩
theorem dC (h:w.grownBy w1 r) (k:w1.grownBy w2 r):w.grownBy w2 r:=
 ⟨k.os.trans h.os,k.tape.trans h.tape,k.output.trans h.output,aL h.size k.size,λi hi hr=>(k.block i (bC hi h.size) hr).trans (h.block i hi hr)⟩
theorem dg (h:Below w.heap.size w w1):w.grownBy w1 r:=⟨h.os,h.tape,h.output,h.size,λi hi _=>h.block i hi⟩
theorem gby_new {q:Option Nat} (h:w.grownBy w1 r) (k:w1.grownBy w2 q) (hq:∀g,q=some g->w.heap.size<=g):w.grownBy w2 r:=
 ⟨k.os.trans h.os,k.tape.trans h.tape,k.output.trans h.output,aL h.size k.size,λi hi hr=>(k.block i (bC hi h.size) (λe=>by have:=hq i e.symm;omega)).trans (h.block i hi hr)⟩
theorem eF (b o:Nat) (v:Value):w.grownBy (w.setCell ⟨b,o,none⟩ v) (some b):=
 ⟨rfl,rfl,rfl,by simp[World.setCell],λi hi hr=>cK _ _ _ _ (λe=>hr (by rw[e]))⟩
theorem jx (h:w.grownBy w1 r) (b o:Nat) (v:Value) (hb:w.heap.size<=b):w.grownBy (w1.setCell ⟨b,o,none⟩ v) r:=
 gby_new h (eF b o v) (λg e=>by cases e;exact hb)
theorem jg (h:w.grownBy w1 r) (o:Obj):w.grownBy (w1.alloc o) r:=dC h (bi w1 o r)
theorem jN (h:w.grownBy w1 r) (b:Nat) (c:Array Value) (hb:w.heap.size<=b):w.grownBy (w1.setRow b c) r:=by
 have hB:Below b w1 (w1.setRow b c):=Below.setRow' (ag b w1) (aa b) c;exact⟨hB.os.trans h.os,hB.tape.trans h.tape,hB.output.trans h.output,aL h.size hB.size,λi hi hr=>(hB.block i (by omega)).trans (h.block i hi hr)⟩
theorem gby_drewN (h:w.grownBy w1 r) (k:Nat):w.grownBy (w1.drewN k) r:=⟨h.os,h.tape,h.output,h.size,h.block⟩
end
def Rdr (w:World) (b:Nat) (s:ByteArray) (bad:Bool):Prop:=w.heap[b]? =some (.cells #[s,bad] 133 (0,0))
section
variable {w w' : World} {b : Nat} {s : ByteArray} {bad : Bool}
theorem Rdr.c0 (h:Rdr w b s bad):w.cell? ⟨b,0,none⟩=some (.string s):=by rw[crw h];rfl
theorem Rdr.c1 (h:Rdr w b s bad):w.cell? ⟨b,1,none⟩=some (.bool bad):=by rw[crw h];rfl
theorem Rdr.f (h:Rdr w b s bad) (j:Nat):w.frozen? ⟨b,j,none⟩=false:=aW _ _ _ _ _ h
theorem Rdr.lt (h:Rdr w b s bad):b<w.heap.size:=eK h.c0
theorem Rdr.set (h:Rdr w b s bad) (s':ByteArray) (bad':Bool):Rdr ((w.setCell ⟨b,0,none⟩ (.string s')).setCell ⟨b,1,none⟩ (.bool bad')) b s' bad':=by
 unfold Rdr at h ⊢;simp[World.setCell,cx,h]
theorem Rdr.set1 (h:Rdr w b s bad) (bad':Bool):Rdr (w.setCell ⟨b,1,none⟩ (.bool bad')) b s bad':=by
 unfold Rdr at h ⊢;simp[World.setCell,cx,h]
theorem Rdr.kept {r:Option Nat} (h:Rdr w b s bad) (hg:w.grownBy w' r) (hr:r≠some b):Rdr w' b s bad:=(hg.block b h.lt (λe=>hr e.symm)).trans h
theorem Rdr.keptN (h:Rdr w b s bad) (k:Nat):Rdr (w.drewN k) b s bad:=h
end
def RdQ {α:Type} (p:Rd α) (P:α->World->Value->Prop) (b:Nat) (s:ByteArray) (bad:Bool) (w:World) (e:Ending) (w':World):Prop:=
 ∃(x:α) (v:Value) (s':ByteArray) (bad':Bool),e= .returned v∧P x w' v∧Rdr w' b s' bad'∧w.grownBy w' (some b)∧RdIs p s.data.toList bad x s'.data.toList bad'
def PInt (n:Int) (_:World) (v:Value):Prop:=v= .int .i64 n∧okI n
def PStr (x:ByteArray) (_:World) (v:Value):Prop:=v= .string x∧x.size<=1000000
def PSt (x:Gst) (_:World) (v:Value):Prop:=v=stV x
def PId (x:Gid) (_:World) (v:Value):Prop:=v=idV x
theorem RdIs.take {s:ByteArray} {n:Nat} {R:ByteArray} {c:Nat} (h:TkIs s.data.toList n R c) (bad:Bool):RdIs intR s.data.toList bad (n:Int) R.data.toList (bad || decide (c≠0)):=by
 have hl:R.data.toList.length=R.size:=by simp
 refine⟨λe=>by rw[e];rfl,λe=> ?_,by rw[hl];exact h.len⟩;obtain⟨rfl,rfl,rfl⟩:=h;unfold intR tkE tkN tkR;cases e2:Vr.take s.data.toList with
 |ok n r=>exact .inl ⟨by rw[e];simp,rfl⟩
 |err c=>
  refine .inr ⟨?_,rfl⟩;have h1:c≠0:=by have:=Vr.takeF_err _ _ _ _ e2;omega
  simp[h1]
theorem fX (b:Nat) (s:ByteArray) (bad:Bool) (w:World) (hs:s.size<=1000000) (hR:Rdr w b s bad):
  Calls Tryz.prog 82 #[.pointer (some ⟨b,0,none⟩)] w (RdQ intR PInt b s bad w):=by
 obtain⟨n,R,c,hT⟩:∃n R c,TkIs s.data.toList n R c:=⟨_,_,_,rfl,rfl,rfl⟩;have hfin:∀k v,v=(bad || decide (c≠0))->RdQ intR PInt b s bad w (.returned (.int .i64 n)) (((w.drewN k).setCell ⟨b,0,none⟩ (.string R)).setCell ⟨b,1,none⟩ (.bool v)):=λk v hv=>
  ⟨n,_,R,_,rfl,⟨rfl,by omega,by have:=hT.lt;omega⟩,(hR.keptN k).set R v,dC (dC (gby_drewN gby_refl k) (eF _ _ _)) (eF _ _ _),by rw[hv];exact RdIs.take hT bad⟩
 have HF:=hid hfin;have HT:=hid (ja s (by unfold maxLen;omega) n R c hT);have c0:=hR.c0;have c1:=hR.c1;have f0:=hR.f 0;have f1:=hR.f 1;clear hfin hT hR;cases bad with
 |true=>
  go_enter Tryz.func82,Tryz.ntmps82;go_wp2_with fail;refine(HT.out _).mono ?_;rintro e w1 ⟨rfl,k,rfl⟩;go_wp2;go_ret;exact HF.out k _ rfl
 | false=>
  by_cases hc:c=0
  ·subst hc;go_enter Tryz.func82,Tryz.ntmps82;go_wp2_with fail;refine(HT.out _).mono ?_;rintro e w1 ⟨rfl,k,rfl⟩;go_wp2;go_ret;exact HF.out k _ rfl
  ·have t1:((c:Int) != 0)=true:=by rw[eM];omega
   have hv:true=(false || decide (c≠0)):=by simp[hc]
   have HV:=hid hv;clear hv hc;go_enter Tryz.func82,Tryz.ntmps82;go_wp2_with fail;refine(HT.out _).mono ?_;rintro e w1 ⟨rfl,k,rfl⟩;go_wp2;go_ret;exact HF.out k _ HV.out
theorem RdIs.takeb {s:ByteArray} {n:Nat} {R:ByteArray} {c:Nat} (h:TkIs s.data.toList n R c) (hs:s.size<=1000000) (bad:Bool):
  RdIs fu s.data.toList bad (tbT n R c) (tbR n R c).data.toList (bad || decide (tbE n R c≠0))∧(tbT n R c).size<=1000000:=by
 have hl:R.data.toList.length=R.size:=by simp
 have hle:=h.len;have hsl:s.data.toList.length=s.size:=by simp
 have hi:=RdIs.take h bad;by_cases hc:c=0
 ·subst hc;by_cases hn:R.size<n
  ·have e1:tbT n R 0=⟨#[]⟩:=by unfold tbT;rw[aC (by omega),aJ hn]
   have e2:tbR n R 0=⟨#[]⟩:=by unfold tbR;rw[aC (by omega),aJ hn]
   have e3:tbE n R 0=10:=by unfold tbE;rw[aC (by omega),aJ hn]
   rw[e1,e2,e3];refine⟨⟨λe=>by rw[e];rfl,λe=> .inr ⟨by simp,?_⟩,by simp⟩,by decide⟩;rcases hi.step e with⟨_,h2⟩|⟨h1,_⟩
   ·unfold fu;rw[bH h2,dL,aJ (by omega)]
   ·rw[e] at h1;simp at h1
  ·have e1:tbT n R 0=R.extract 0 n:=by unfold tbT;rw[aC (by omega),aC hn]
   have e2:tbR n R 0=R.extract n R.size:=by unfold tbR;rw[aC (by omega),aC hn]
   have e3:tbE n R 0=0:=by unfold tbE;rw[aC (by omega),aC hn]
   have e4:(R.extract n R.size).data.toList=R.data.toList.drop n:=by rw[rest_of]
   have e5:R.extract 0 n=⟨(R.data.toList.take n).toArray⟩:=by
    apply fD;rw[gT];apply eH.1;rw[iw,fS];simp
   rw[e1,e2,e3,e4];refine⟨⟨λe=>by rw[e];rfl,λe=> .inl ⟨by rw[e];simp,?_⟩,by rw[bI];omega⟩,by rw[cI];omega⟩;rcases hi.step e with⟨_,h2⟩|⟨h1,_⟩
   ·unfold fu;rw[bH h2,dL,aC (by omega),e5]
   ·rw[e] at h1;simp at h1
 ·have e1:tbT n R c=⟨#[]⟩:=by unfold tbT;rw[aJ hc]
  have e2:tbR n R c=⟨#[]⟩:=by unfold tbR;rw[aJ hc]
  have e3:tbE n R c=c:=by unfold tbE;rw[aJ hc]
  rw[e1,e2,e3];refine⟨⟨λe=>by rw[e];rfl,λe=> .inr ⟨by simp[hc],?_⟩,by simp⟩,by decide⟩;rcases hi.step e with⟨h1,_⟩|⟨_,h2⟩
  ·simp[hc] at h1
  ·unfold fu;rw[gP h2]
theorem rbytes_any (b:Nat) (s:ByteArray) (bad:Bool) (w:World) (hs:s.size<=1000000) (hR:Rdr w b s bad):
  Calls Tryz.prog 137 #[.pointer (some ⟨b,0,none⟩)] w (RdQ fu PStr b s bad w):=by
 obtain⟨n,R,c,hT⟩:∃n R c,TkIs s.data.toList n R c:=⟨_,_,_,rfl,rfl,rfl⟩;obtain⟨hd,hx⟩:=RdIs.takeb hT hs bad;have HC:=takebytes_any s (by unfold maxLen;omega) n R c hT;generalize tbT n R c=X at *;generalize tbR n R c=Y at *;generalize tbE n R c=z at *;have hfin:∀k v,v=(bad || decide (z≠0))->RdQ fu PStr b s bad w (.returned (.string X)) (((w.drewN k).setCell ⟨b,0,none⟩ (.string Y)).setCell ⟨b,1,none⟩ (.bool v)):=λk v hv=>
  ⟨X,_,Y,_,rfl,⟨rfl,hx⟩,(hR.keptN k).set Y v,dC (dC (gby_drewN gby_refl k) (eF _ _ _)) (eF _ _ _),by rw[hv];exact hd⟩
 have HF:=hid hfin;have HT:=hid HC;have c0:=hR.c0;have c1:=hR.c1;have f0:=hR.f 0;have f1:=hR.f 1;clear hfin HC hR hd hx hT;cases bad with
 |true=>
  go_enter Tryz.func137,Tryz.ntmps137;go_wp2_with fail;refine(HT.out _).mono ?_;rintro e w1 ⟨rfl,k,rfl⟩;go_wp2;go_ret;exact HF.out k _ rfl
 | false=>
  by_cases hc:z=0
  ·subst hc;go_enter Tryz.func137,Tryz.ntmps137;go_wp2_with fail;refine(HT.out _).mono ?_;rintro e w1 ⟨rfl,k,rfl⟩;go_wp2;go_ret;exact HF.out k _ rfl
  ·have t1:((z:Int) != 0)=true:=by rw[eM];omega
   have hv:true=(false || decide (z≠0)):=by simp[hc]
   have HV:=hid hv;clear hv hc;go_enter Tryz.func137,Tryz.ntmps137;go_wp2_with fail;refine(HT.out _).mono ?_;rintro e w1 ⟨rfl,k,rfl⟩;go_wp2;go_ret;exact HF.out k _ HV.out
theorem eB {s s':ByteArray} {α:Type} {p:Rd α} {b b':Bool} {x:α} (h:RdIs p s.data.toList b x s'.data.toList b') (hs:s.size<=1000000):s'.size<=1000000:=by
 have:=h.le;have h1:s.data.toList.length=s.size:=by simp
 have h2:s'.data.toList.length=s'.size:=by simp
 omega
theorem ky (b:Nat) (s:ByteArray) (bad:Bool) (w:World) (hs:s.size<=1000000) (hR:Rdr w b s bad):
  Calls Tryz.prog 81 #[.pointer (some ⟨b,0,none⟩)] w (RdQ stR PSt b s bad w):=by
 have hlt:=hR.lt;have hA0:=am w (.cells #[(0:Int),(0:Int)] 42);have HR0:=hid (hR.kept (bi w (.cells #[(0:Int),(0:Int)] 42) none) (by simp));have HA0:=hid hA0;have HR:=hid hR;clear hA0 hR;go_enter Tryz.func81,Tryz.ntmps81;go_wp2_with fail;refine(fX b s bad _ hs HR0.out).mono ?_;rintro e w1 ⟨t,v,s1,bad1,rfl,⟨rfl,ht⟩,hR1,hg1,hd1⟩;have HT:=hid (fX b s1 bad1 w1 (eB hd1 hs) hR1);have HD1:=hid hd1;have HG1:=hid hg1;have HO1:=hid ht;clear hR1 hg1 hd1 ht;go_wp2_with fail;refine HT.out.mono ?_;rintro e w2 ⟨r,v,s2,bad2,rfl,⟨rfl,hr⟩,hR2,hg2,hd2⟩;have hg:=dC HG1.out hg2;have hA2:=(hg.block w.heap.size (by simp) (by intro e;cases e;omega)).trans HA0.out;have c0:=cw0 hA2;have c1:=cw1 hA2;have f0:w2.frozen? ⟨w.heap.size,0,none⟩=false:=aW _ _ _ _ _ hA2;have f1:w2.frozen? ⟨w.heap.size,1,none⟩=false:=aW _ _ _ _ _ hA2;have HR2:=hid hR2;have HG:=hid hg;have HD2:=hid hd2;clear hg hg2 hA2 hR2 hd2;go_wp2;refine bB (v:= .agg #[t,r]) (by simp[results,Tryz.results81,go_sem,c0,c1]) rfl ?_;refine⟨⟨t,r⟩,_,s2,bad2,rfl,rfl,?_,jx (jx (dC (bi _ _ _) HG.out) _ _ _ (aa _)) _ _ _ (aa _),RdIs.st HD1.out HD2.out⟩;exact(HR2.out.kept (eF _ _ _) (by intro e;cases e;omega)).kept (eF _ _ _) (by intro e;cases e;omega)
theorem rid_any (b:Nat) (s:ByteArray) (bad:Bool) (w:World) (hs:s.size<=1000000) (hR:Rdr w b s bad):
  Calls Tryz.prog 136 #[.pointer (some ⟨b,0,none⟩)] w (RdQ idR PId b s bad w):=by
 have hlt:=hR.lt;have HR0:=hid (hR.kept (bi w (.cells #[(0:Int),(0:Int),(0:Int)] 108) none) (by simp));have HA0:=hid (am w (.cells #[(0:Int),(0:Int),(0:Int)] 108));have HG0:=hid (bi w (.cells #[(0:Int),(0:Int),(0:Int)] 108) (some b));clear hR;go_enter Tryz.func136,Tryz.ntmps136;go_wp2_with fail;refine(ky b s bad _ hs HR0.out).mono ?_;rintro e w1 ⟨⟨t,r⟩,v,s1,bad1,rfl,hv,hR1,hg1,hd1⟩;obtain rfl:v= .agg #[t,r]:=hv;have hs1:=eB hd1 hs;have HD1:=hid hd1;have HG1:=hid (dC HG0.out hg1);have HA1:=hid ((hg1.block w.heap.size (by simp) (by intro e;cases e;omega)).trans HA0.out);have hlt1:w.heap.size<w1.heap.size:=by have:=hg1.size;simp at this;omega
 have HR1:=hid hR1;clear hd1 hg1 hR1;go_upto_region 2 with(fail);generalize hW:w1.alloc (.cells #[t,r] 42)=W;have HC:=hid (show W.heap[w1.heap.size]? =some (.cells #[t,r] 42 (0,0)) by subst hW;exact am _ _);have HA:=hid (show W.heap[w.heap.size]? =some (.cells #[(0:Int),(0:Int),(0:Int)] 108 (0,0)) by subst hW;exact(ax _ _ _ hlt1).trans HA1.out);have HR:=hid (show Rdr W b s1 bad1 by subst hW;exact HR1.out.kept (bi w1 _ none) (by simp));have HG:=hid (show w.grownBy W (some b) by subst hW;exact jg HG1.out _);have hWs:w1.heap.size<W.heap.size:=by subst hW;simp
 clear hW;have c0:=cw0 HC.out;have c1:=cw1 HC.out;go_region_with (go_at_call 82;refine(fX b s1 bad1 _ (by exact hs1) (by exact HR.out)).mono ?_;rintro e w2 ⟨i,v,s2,bad2,rfl,⟨rfl,hi⟩,hR2,hg2,hd2⟩;have HC2:=hid ((hg2.block w1.heap.size hWs (by intro e;cases e;omega)).trans HC.out);have HA2:=hid ((hg2.block w.heap.size (Nat.lt_trans hlt1 hWs) (by intro e;cases e;omega)).trans HA.out);have HR2:=hid hR2;have HD2:=hid hd2;have HG2:=hid (dC HG.out (dC (⟨rfl,rfl,rfl,aa _,λ_ _ _=>rfl⟩:W.grownBy W.drew (some b)) hg2));clear hR2 hd2 hg2;have d0:w2.cell? ⟨w1.heap.size,0,none⟩=some (.int .i64 t):=by { rw[crw HC2.out];rfl };have d1:w2.cell? ⟨w1.heap.size,1,none⟩=some (.int .i64 r):=by { rw[crw HC2.out];rfl };have a0:w2.cell? ⟨w.heap.size,0,none⟩=some (.int .i64 0):=by { rw[crw HA2.out];rfl };have a1:w2.cell? ⟨w.heap.size,1,none⟩=some (.int .i64 0):=by { rw[crw HA2.out];rfl };have a2:w2.cell? ⟨w.heap.size,2,none⟩=some (.int .i64 0):=by { rw[crw HA2.out];rfl };have f0:w2.frozen? ⟨w.heap.size,0,none⟩=false:=aW _ _ _ _ _ HA2.out;have f1:w2.frozen? ⟨w.heap.size,1,none⟩=false:=aW _ _ _ _ _ HA2.out;have f2:w2.frozen? ⟨w.heap.size,2,none⟩=false:=aW _ _ _ _ _ HA2.out)
 all_goals
  go_wp2;refine bB (v:= .agg #[t,r,i]) (by simp[results,Tryz.results136,go_sem,a0,a1,a2]) rfl ?_;refine⟨⟨⟨t,r⟩,i⟩,_,s2,bad2,rfl,rfl,?_,jx (jx (jx HG2.out _ _ _ (aa _)) _ _ _ (aa _)) _ _ _ (aa _),RdIs.id HD1.out HD2.out⟩;exact((HR2.out.kept (eF _ _ _) (by intro e;cases e;omega)).kept (eF _ _ _) (by intro e;cases e;omega)).kept (eF _ _ _) (by intro e;cases e;omega)
end
section
open Go.RowKit Go.Lib Go.Sort
theorem dH (W:World) (xs:List Value) (e:TypeId) (j:Nat) (u:Value) (h:xs[j]? =some u):(W.alloc (.cells xs.toArray e)).cell? ((⟨W.heap.size,0,none⟩:Addr).add j)=some u:=by
 rw[jm];have:=World.cell?_alloc_mark W xs.toArray e (0,0) j;rw[this];simpa using h
def PRow {α:Type} (B:Nat) (e:TypeId) (size:Nat) (enc:α->List Value) (xs:List α) (w':World) (v:Value):Prop:=
 (∃A c,v= .slice A xs.length c)∧w'.ownsRow B e size v xs.length (xs.flatMap enc)∧xs.length<=1000001
def PRowI (B:Nat) (e:TypeId) (size:Nat) (enc:Int->List Value) (xs:List Int) (w':World) (v:Value):Prop:=
 (∃A c,v= .slice A xs.length c)∧w'.ownsRow B e size v xs.length (xs.flatMap enc)∧xs.length<=1000001∧∀x∈xs,okI x
theorem bZ {w:World} {B:Nat} {e:TypeId} {size:Nat} {v:Value} {n:Nat} {xs:List Value} (h:w.ownsRow B e size v n xs):∃A c,v= .slice A n c:=by
 rcases h.2 with⟨rfl,rfl⟩|⟨g,cap,cur,rfl,_⟩
 ·exact⟨_,_,rfl⟩
 ·exact⟨_,_,rfl⟩
def iE (x:Int):List Value:=[x]
theorem ocintC_ (x:Int):∀u∈iE x,u.oneCell'=true:=by
 intro u hu;simp only[iE,bY,eZ,or_false] at hu;subst hu;rfl
theorem infointC_:(Tryz.prog.info? 3).map (λi=>(i.zero,i.size,i.bytes))=some (some (.int .i64 0),1,8):=by kernel_rfl
theorem rmany_int (b:Nat) (s:ByteArray) (bad:Bool) (w:World) (hs:s.size<=1000000) (hR:Rdr w b s bad):
  Calls Tryz.prog 83 #[.pointer (some ⟨b,0,none⟩),.func (Fn.func 82) #[.pointer (some ⟨b,0,none⟩)] #[]] w (RdQ (fx intR) (PRowI w.heap.size 3 1 iE) b s bad w):=by
 obtain⟨i0,hi,hz0,hz1,hz2⟩:=bD infointC_;have hlt:=hR.lt;have HR0:=hid (hR.kept (bi w (.cells #[] 3) none) (by simp));have HA0:=hid (am w (.cells #[] 3));have HG0:=hid (bi w (.cells #[] 3) (some b));clear hR;go_enter Tryz.func83,Tryz.ntmps83;go_wp2_with fail;refine(fX b s bad _ hs HR0.out).mono ?_;rintro e w1 ⟨n0,v,s1,bad1,rfl,⟨rfl,hn0⟩,hR1,hg1,hd1⟩;obtain⟨n,rfl⟩:=fm hn0.1;have hn:n<9223372036854775808:=by have:=hn0.2;omega
 have hs1:=eB hd1 hs;have HD1:=hid hd1;have HG1:=hid (dC HG0.out hg1);have HA1:=hid ((hg1.block w.heap.size (by simp) (by intro e;cases e;omega)).trans HA0.out);have HR1:=hid hR1;clear hd1 hg1 hR1 hn0;go_wp2;go_loopw [5,6] (λv m wr=>∃(k:Nat) (xs:List Int) (s':ByteArray) (bad':Bool),m= .int .i64 k∧k<=n∧wr.ownsRow w.heap.size 3 1 v xs.length (xs.flatMap iE)∧Hid (Rdr wr b s' bad')∧Hid (w.grownBy wr (some b))∧Hid (ManyAt intR n s1.data.toList bad1 k xs s'.data.toList bad')∧Hid (∀x∈xs,okI x)) (λ_ m _=>(RowKit.intOf m).toNat)
 case atStart=>exact⟨n,[],s1,bad1,rfl,aa _,⟨rfl,.inr ⟨w.heap.size,0,#[],rfl,aa _,HA1.out,aa _,by unfold maxLen;omega,rfl,rfl⟩⟩,HR1,HG1,hid ManyAt.start,hid (λx hx=>by cases hx)⟩
 case round=>
  obtain⟨k,xs,s',bad',rfl,hk,hO,HR,HG,HM,HX⟩:=hrel;have hle:=HM.out.le;have hfew:=HM.out.few;have hl1:s1.data.toList.length=s1.size:=by simp
  have hl2:s'.data.toList.length=s'.size:=by simp
  have hxl:xs.length<=1000001:=by split at hfew<;>omega
  have hfin:∀h:bad'=true∨k=0,RdQ (fx intR) (PRowI w.heap.size 3 1 iE) b s bad w (.returned u5) wr:=λh=>
   ⟨xs,u5,s',bad',rfl,⟨bZ hO,hO,hxl,HX.out⟩,HR.out,HG.out,RdIs.many HD1.out (by rw[dL];exact HM.out.done h)⟩
  have HF:=hid hfin;have c1:=HR.out.c1;have hs':s'.size<=1000000:=by omega
  clear hfin hle hfew hl1 hl2;cases bad' with
  | true=>
   go_wp2
   all_goals
    go_ret;exact HF.out (.inl (by first|rfl|trivial))
  | false=>
   by_cases h0:0<k
   ·obtain⟨m,rfl⟩:∃m,k=m+1:=⟨k-1,by omega⟩;have HC:=hid (fX b s' false wr hs' HR.out);have HB:=hid (λg e=>(hO.lt g e).1);have HB2:=hid (show u5.ownBlock≠some b from λe=>by have:=(hO.lt b e).1;omega);have hsz:=HG.out.size;have HO1:=hid hO;clear hO
    go_wp2_with (first
     |(go_at_call 82;refine HC.out.mono ?_;rintro e w2 ⟨x,v2,s2,bad2,rfl,⟨hv,hx⟩,hR2,hg2,hd2⟩;obtain rfl:v2= .int .i64 x:=hv;have HR2:=hid hR2;have HG2:=hid hg2;have HD2:=hid hd2;have hsz2:=hg2.size;have HO2:=hid (HO1.out.kept hg2 (.inr HB2.out));clear hR2 hg2 hd2;have HO:=hid hx;clear hx)
     |(at_builtin;refine bu _ rfl _ _ 27 rfl w.heap.size 3 i0 (.int .i64 0) 1 8 Tryz.underlying27 hi hz0 hz1 hz2 rfl (by decide) _ _ _ rfl (by exact HO2.out.alloc _) ⟨w2.heap.size,0,none⟩ 1 1 (iE x) rfl rfl (by exact dH _ _ _) (by exact ocintC_ _) (by unfold maxLen;omega) (by omega) (by simp;omega) ?_;intro v' w3 hown' hgrow _;have HO3:=hid hown';have HG3:=hid hgrow;clear hown' hgrow))
    go_roundw
    case rel=>exact⟨m,xs++[x],s2,bad2,by go_num,by omega,by rw[al,aI,bP];exact HO3.out,hid ((HR2.out.kept (bi w2 _ none) (by simp)).kept HG3.out HB2.out),hid (gby_new (jg (dC HG.out HG2.out) _) HG3.out HB.out),hid (HM.out.next intT HD2.out),hid (λy hy=>by rcases au.1 hy with hy|hy;exact HX.out y hy;simp at hy;rw[hy];exact HO.out)⟩
    case measure=>simp[RowKit.intOf]
   ·obtain rfl:k=0:=by omega
    go_wp2;go_ret;exact HF.out (.inr (by first|rfl|trivial))
def stC_ (x:Gst):List Value:=[.int .i64 x.t,.int .i64 x.r]
theorem ocstC_ (x:Gst):∀u∈stC_ x,u.oneCell'=true:=by
 intro u hu;simp only[stC_,bY,eZ,or_false] at hu;rcases hu with rfl|rfl<;>rfl
theorem infostC_:(Tryz.prog.info? 42).map (λi=>(i.zero,i.size,i.bytes))=some (some (.agg #[(0:Int),(0:Int)]),2,16):=by kernel_rfl
theorem rmany_st (b:Nat) (s:ByteArray) (bad:Bool) (w:World) (hs:s.size<=1000000) (hR:Rdr w b s bad):
  Calls Tryz.prog 138 #[.pointer (some ⟨b,0,none⟩),.func (Fn.func 81) #[.pointer (some ⟨b,0,none⟩)] #[]] w (RdQ (fx stR) (PRow w.heap.size 42 2 stC_) b s bad w):=by
 obtain⟨i0,hi,hz0,hz1,hz2⟩:=bD infostC_;have hlt:=hR.lt;have HR0:=hid (hR.kept (bi w (.cells #[] 42) none) (by simp));have HA0:=hid (am w (.cells #[] 42));have HG0:=hid (bi w (.cells #[] 42) (some b));clear hR;go_enter Tryz.func138,Tryz.ntmps138;go_wp2_with fail;refine(fX b s bad _ hs HR0.out).mono ?_;rintro e w1 ⟨n0,v,s1,bad1,rfl,⟨rfl,hn0⟩,hR1,hg1,hd1⟩;obtain⟨n,rfl⟩:=fm hn0.1;have hn:n<9223372036854775808:=by have:=hn0.2;omega
 have hs1:=eB hd1 hs;have HD1:=hid hd1;have HG1:=hid (dC HG0.out hg1);have HA1:=hid ((hg1.block w.heap.size (by simp) (by intro e;cases e;omega)).trans HA0.out);have HR1:=hid hR1;clear hd1 hg1 hR1 hn0;go_wp2;go_loopw [5,6] (λv m wr=>∃(k:Nat) (xs:List Gst) (s':ByteArray) (bad':Bool),m= .int .i64 k∧k<=n∧wr.ownsRow w.heap.size 42 2 v xs.length (xs.flatMap stC_)∧Hid (Rdr wr b s' bad')∧Hid (w.grownBy wr (some b))∧Hid (ManyAt stR n s1.data.toList bad1 k xs s'.data.toList bad')) (λ_ m _=>(RowKit.intOf m).toNat)
 case atStart=>exact⟨n,[],s1,bad1,rfl,aa _,⟨rfl,.inr ⟨w.heap.size,0,#[],rfl,aa _,HA1.out,aa _,by unfold maxLen;omega,rfl,rfl⟩⟩,HR1,HG1,hid ManyAt.start⟩
 case round=>
  obtain⟨k,xs,s',bad',rfl,hk,hO,HR,HG,HM⟩:=hrel;have hle:=HM.out.le;have hfew:=HM.out.few;have hl1:s1.data.toList.length=s1.size:=by simp
  have hl2:s'.data.toList.length=s'.size:=by simp
  have hxl:xs.length<=1000001:=by split at hfew<;>omega
  have hfin:∀h:bad'=true∨k=0,RdQ (fx stR) (PRow w.heap.size 42 2 stC_) b s bad w (.returned u5) wr:=λh=>
   ⟨xs,u5,s',bad',rfl,⟨bZ hO,hO,hxl⟩,HR.out,HG.out,RdIs.many HD1.out (by rw[dL];exact HM.out.done h)⟩
  have HF:=hid hfin;have c1:=HR.out.c1;have hs':s'.size<=1000000:=by omega
  clear hfin hle hfew hl1 hl2;cases bad' with
  | true=>
   go_wp2
   all_goals
    go_ret;exact HF.out (.inl (by first|rfl|trivial))
  | false=>
   by_cases h0:0<k
   ·obtain⟨m,rfl⟩:∃m,k=m+1:=⟨k-1,by omega⟩;have HC:=hid (ky b s' false wr hs' HR.out);have HB:=hid (λg e=>(hO.lt g e).1);have HB2:=hid (show u5.ownBlock≠some b from λe=>by have:=(hO.lt b e).1;omega);have hsz:=HG.out.size;have HO1:=hid hO;clear hO
    go_wp2_with (first
     |(go_at_call 81;refine HC.out.mono ?_;rintro e w2 ⟨⟨t,r⟩,v2,s2,bad2,rfl,hv,hR2,hg2,hd2⟩;obtain rfl:v2= .agg #[t,r]:=hv;have HR2:=hid hR2;have HG2:=hid hg2;have HD2:=hid hd2;have hsz2:=hg2.size;have HO2:=hid (HO1.out.kept hg2 (.inr HB2.out));clear hR2 hg2 hd2)
     |(at_builtin;refine bu _ rfl _ _ 100 rfl w.heap.size 42 i0 (.agg #[(0:Int),(0:Int)]) 2 16 Tryz.underlying100 hi hz0 hz1 hz2 rfl (by decide) _ _ _ rfl (by exact HO2.out.alloc _) ⟨w2.heap.size,0,none⟩ 1 1 (stC_ (⟨t,r⟩:Gst)) rfl rfl (by exact dH _ _ _) (by exact ocstC_ _) (by unfold maxLen;omega) (by omega) (by simp;omega) ?_;intro v' w3 hown' hgrow _;have HO3:=hid hown';have HG3:=hid hgrow;clear hown' hgrow))
    go_roundw
    case rel=>exact⟨m,xs++[(⟨t,r⟩:Gst)],s2,bad2,by go_num,by omega,by rw[al,aI,bP];exact HO3.out,hid ((HR2.out.kept (bi w2 _ none) (by simp)).kept HG3.out HB2.out),hid (gby_new (jg (dC HG.out HG2.out) _) HG3.out HB.out),hid (HM.out.next stT HD2.out)⟩
    case measure=>simp[RowKit.intOf]
   ·obtain rfl:k=0:=by omega
    go_wp2;go_ret;exact HF.out (.inr (by first|rfl|trivial))
def idC_ (x:Gid):List Value:=[.int .i64 x.s.t,.int .i64 x.s.r,.int .i64 x.i]
theorem ocidC_ (x:Gid):∀u∈idC_ x,u.oneCell'=true:=by
 intro u hu;simp only[idC_,bY,eZ,or_false] at hu;rcases hu with rfl|rfl|rfl<;>rfl
theorem infoidC_:(Tryz.prog.info? 108).map (λi=>(i.zero,i.size,i.bytes))=some (some (.agg #[(0:Int),(0:Int),(0:Int)]),3,24):=by kernel_rfl
theorem rmany_id (b:Nat) (s:ByteArray) (bad:Bool) (w:World) (hs:s.size<=1000000) (hR:Rdr w b s bad):
  Calls Tryz.prog 139 #[.pointer (some ⟨b,0,none⟩),.func (Fn.func 136) #[.pointer (some ⟨b,0,none⟩)] #[]] w (RdQ (fx idR) (PRow w.heap.size 108 3 idC_) b s bad w):=by
 obtain⟨i0,hi,hz0,hz1,hz2⟩:=bD infoidC_;have hlt:=hR.lt;have HR0:=hid (hR.kept (bi w (.cells #[] 108) none) (by simp));have HA0:=hid (am w (.cells #[] 108));have HG0:=hid (bi w (.cells #[] 108) (some b));clear hR;go_enter Tryz.func139,Tryz.ntmps139;go_wp2_with fail;refine(fX b s bad _ hs HR0.out).mono ?_;rintro e w1 ⟨n0,v,s1,bad1,rfl,⟨rfl,hn0⟩,hR1,hg1,hd1⟩;obtain⟨n,rfl⟩:=fm hn0.1;have hn:n<9223372036854775808:=by have:=hn0.2;omega
 have hs1:=eB hd1 hs;have HD1:=hid hd1;have HG1:=hid (dC HG0.out hg1);have HA1:=hid ((hg1.block w.heap.size (by simp) (by intro e;cases e;omega)).trans HA0.out);have HR1:=hid hR1;clear hd1 hg1 hR1 hn0;go_wp2;go_loopw [5,6] (λv m wr=>∃(k:Nat) (xs:List Gid) (s':ByteArray) (bad':Bool),m= .int .i64 k∧k<=n∧wr.ownsRow w.heap.size 108 3 v xs.length (xs.flatMap idC_)∧Hid (Rdr wr b s' bad')∧Hid (w.grownBy wr (some b))∧Hid (ManyAt idR n s1.data.toList bad1 k xs s'.data.toList bad')) (λ_ m _=>(RowKit.intOf m).toNat)
 case atStart=>exact⟨n,[],s1,bad1,rfl,aa _,⟨rfl,.inr ⟨w.heap.size,0,#[],rfl,aa _,HA1.out,aa _,by unfold maxLen;omega,rfl,rfl⟩⟩,HR1,HG1,hid ManyAt.start⟩
 case round=>
  obtain⟨k,xs,s',bad',rfl,hk,hO,HR,HG,HM⟩:=hrel;have hle:=HM.out.le;have hfew:=HM.out.few;have hl1:s1.data.toList.length=s1.size:=by simp
  have hl2:s'.data.toList.length=s'.size:=by simp
  have hxl:xs.length<=1000001:=by split at hfew<;>omega
  have hfin:∀h:bad'=true∨k=0,RdQ (fx idR) (PRow w.heap.size 108 3 idC_) b s bad w (.returned u5) wr:=λh=>
   ⟨xs,u5,s',bad',rfl,⟨bZ hO,hO,hxl⟩,HR.out,HG.out,RdIs.many HD1.out (by rw[dL];exact HM.out.done h)⟩
  have HF:=hid hfin;have c1:=HR.out.c1;have hs':s'.size<=1000000:=by omega
  clear hfin hle hfew hl1 hl2;cases bad' with
  | true=>
   go_wp2
   all_goals
    go_ret;exact HF.out (.inl (by first|rfl|trivial))
  | false=>
   by_cases h0:0<k
   ·obtain⟨m,rfl⟩:∃m,k=m+1:=⟨k-1,by omega⟩;have HC:=hid (rid_any b s' false wr hs' HR.out);have HB:=hid (λg e=>(hO.lt g e).1);have HB2:=hid (show u5.ownBlock≠some b from λe=>by have:=(hO.lt b e).1;omega);have hsz:=HG.out.size;have HO1:=hid hO;clear hO
    go_wp2_with (first
     |(go_at_call 136;refine HC.out.mono ?_;rintro e w2 ⟨⟨⟨t,r⟩,i⟩,v2,s2,bad2,rfl,hv,hR2,hg2,hd2⟩;obtain rfl:v2= .agg #[t,r,i]:=hv;have HR2:=hid hR2;have HG2:=hid hg2;have HD2:=hid hd2;have hsz2:=hg2.size;have HO2:=hid (HO1.out.kept hg2 (.inr HB2.out));clear hR2 hg2 hd2)
     |(at_builtin;refine bu _ rfl _ _ 123 rfl w.heap.size 108 i0 (.agg #[(0:Int),(0:Int),(0:Int)]) 3 24 eQ hi hz0 hz1 hz2 rfl (by decide) _ _ _ rfl (by exact HO2.out.alloc _) ⟨w2.heap.size,0,none⟩ 1 1 (idC_ (⟨⟨t,r⟩,i⟩:Gid)) rfl rfl (by exact dH _ _ _) (by exact ocidC_ _) (by unfold maxLen;omega) (by omega) (by simp;omega) ?_;intro v' w3 hown' hgrow _;have HO3:=hid hown';have HG3:=hid hgrow;clear hown' hgrow))
    go_roundw
    case rel=>exact⟨m,xs++[(⟨⟨t,r⟩,i⟩:Gid)],s2,bad2,by go_num,by omega,by rw[al,aI,bP];exact HO3.out,hid ((HR2.out.kept (bi w2 _ none) (by simp)).kept HG3.out HB2.out),hid (gby_new (jg (dC HG.out HG2.out) _) HG3.out HB.out),hid (HM.out.next idT HD2.out)⟩
    case measure=>simp[RowKit.intOf]
   ·obtain rfl:k=0:=by omega
    go_wp2;go_ret;exact HF.out (.inr (by first|rfl|trivial))
end
end
end Go.Proofs.YtkhmicndehlneaaGreatDoor
