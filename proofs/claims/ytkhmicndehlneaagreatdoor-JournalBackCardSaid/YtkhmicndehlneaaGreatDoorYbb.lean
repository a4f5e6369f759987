/- Part 2 of the walks and plain laws that this claim uses, joined. Conditions: as each theorem states. -/
import Derived.Deep.DeepCutAuto
import Derived.Deep.DrawnRows
import Derived.Deep.MidRow
import Derived.Deep.QuietTactic
import Derived.Deep.RegionHeld3
import Derived.Deep.WholeRow
import Derived.Outline
import Derived.Test.YtkhmicndehlneaaGreatDoorYba
namespace Go.Proofs.YtkhmicndehlneaaGreatDoor
set_option maxRecDepth 100000
set_option maxHeartbeats 16000000
set_option linter.unusedVariables false
section
section
open Go.RowKit Go.Lib Go.Sort
attribute [local go_sem ↓] Go.wp_at_zero Go.wp_at_succ
def orI (x y:Int):Int:=if x=0 then y else x
def cmpI (x y:Int):Int:=if x<y then -1 else if y<x then 1 else 0
def cmpS (a b:Gst):Int:=orI (cmpI a.t b.t) (cmpI a.r b.r)
theorem cmpS_lt (a b:Gst):decide (cmpS a b<0)=a.lt b:=by
 rw[bw,ak];simp only[cmpS,orI,cmpI,Gst.lt,ch,ap,ak]
 repeat' split
 all_goals omega
theorem cmpS_gt (a b:Gst):decide (0<cmpS a b)=b.lt a:=by
 rw[bw,ak];simp only[cmpS,orI,cmpI,Gst.lt,ch,ap,ak]
 repeat' split
 all_goals omega
theorem cmpS_ge (a b:Gst):decide (0<=cmpS a b)= !a.lt b:=by
 rw[<-cmpS_lt,bw];simp
theorem jy {B:Nat} {a w:World} (h:Below B a w) (n:Nat):Below B a (w.drewN n):=⟨h.os,h.tape,h.output,h.size,h.block⟩
theorem dk {a b:Bool} (h:a=b):Ending.returned (Value.bool a)= .returned (.bool b):=by rw[h]
def stV (s:Gst):Value:= .agg #[.int .i64 s.t,.int .i64 s.r]
def idV (x:Gid):Value:= .agg #[.int .i64 x.s.t,.int .i64 x.s.r,.int .i64 x.i]
theorem jV (t r:Int) (w:World):
  Calls Tryz.prog 92 #[.agg #[t,r]] w λe w'=>e= .returned (.bool (Gst.right ⟨t,r⟩))∧Below w.heap.size w w':=by
 obtain⟨v,a⟩:∃v,v=Gst.right ⟨t,r⟩:=⟨_,rfl⟩;have b:=hid a;rw[<-a];clear a;go_enter Tryz.func92,Tryz.ntmps92;go_wp2
 all_goals
  go_ret;refine⟨dk ?_,(ag _ _).alloc (aa _) _⟩;rw[b.out];simp[Gst.right]
  try omega
theorem compare_any (x y:Int) (w:World):
  Calls Tryz.prog 148 #[x,y] w λe w'=>e= .returned (.int .i64 (cmpI x y))∧w'=w:=by
 obtain⟨v,a⟩:∃v,v=cmpI x y:=⟨_,rfl⟩;have b:=hid a;rw[<-a];clear a;go_enter Tryz.func148,Tryz.ntmps148;go_wp2
 all_goals
  go_ret;refine⟨ret_int ?_,rfl⟩;rw[b.out];unfold cmpI
  first|rw[aJ (by omega)]|rw[aC (by omega),aJ (by omega)]|rw[aC (by omega),aC (by omega)]
theorem or_any (b:Nat) (x y:Int) (w:World) (h0:w.cell? ⟨b,0,none⟩=some (.int .i64 x)) (h1:w.cell? ⟨b,1,none⟩=some (.int .i64 y)):
  Calls Tryz.prog 147 #[.slice (some ⟨b,0,none⟩) 2 2] w λe w'=>e= .returned (.int .i64 (orI x y))∧w'=w:=by
 go_enter Tryz.func147,Tryz.ntmps147;by_cases c:x=0
 ·subst c;have a:orI 0 y=y:=by unfold orI;rw[aJ rfl]
  rw[a];clear a;by_cases d:y=0
  ·subst d;go_wp2;go_loop [8] (λi=>∃k:Nat,k<=2∧i= .int .i64 k) (λi=>2-(RowKit.intOf i).toNat)
   case atStart=>exact⟨0,by omega,rfl⟩
   case round=>
    obtain⟨k,f,rfl⟩:=hrel;obtain rfl|rfl|rfl:k=0∨k=1∨k=2:=by omega
    ·go_wp2;go_round
     case rel=>exact⟨1,by omega,rfl⟩
     case measure=>simp[RowKit.intOf]
    ·go_wp2;go_round
     case rel=>exact⟨2,by omega,rfl⟩
     case measure=>simp[RowKit.intOf]
    ·go_wp2;go_ret;exact⟨rfl,rfl⟩
  ·have g:(y != 0)=true:=by rw[eM];exact d
   go_wp2;go_loop [8] (λi=>∃k:Nat,k<=1∧i= .int .i64 k) (λi=>2-(RowKit.intOf i).toNat)
   case atStart=>exact⟨0,by omega,rfl⟩
   case round=>
    obtain⟨k,f,rfl⟩:=hrel;obtain rfl|rfl:k=0∨k=1:=by omega
    ·go_wp2;go_round
     case rel=>exact⟨1,by omega,rfl⟩
     case measure=>simp[RowKit.intOf]
    ·go_wp2;go_ret;exact⟨rfl,rfl⟩
 ·have g:(x != 0)=true:=by rw[eM];exact c
  have a:orI x y=x:=by unfold orI;rw[aC c]
  rw[a];clear a;go_wp2;go_loop [8] (λi=>i= .int .i64 0) (λi=>2-(RowKit.intOf i).toNat)
  case atStart=>rfl
  case round=>
   obtain rfl:=hrel;go_wp2;go_ret;exact⟨rfl,rfl⟩
theorem or_new (x y:Int) (w:World) (n:Nat) (T:TypeId) (hn:w.heap.size=n):
  Calls Tryz.prog 147 #[.slice (some ⟨n,0,none⟩) 2 2] (w.alloc (.cells #[x,y] T)).drew λe w'=>e= .returned (.int .i64 (orI x y))∧w'=(w.alloc (.cells #[x,y] T)).drew:=by
 subst hn;have a:(w.alloc (.cells #[x,y] T)).drew.heap[w.heap.size]? =some (.cells #[x,y] T (0,0)):=am w _;exact or_any _ _ _ _ (by rw[crw a];rfl) (by rw[crw a];rfl)
theorem cmp_any (t r t' r':Int) (w:World):
  Calls Tryz.prog 93 #[.agg #[t,r],.agg #[t',r']] w λe w'=>e= .returned (.int .i64 (cmpS ⟨t,r⟩ ⟨t',r'⟩))∧Below w.heap.size w w':=by
 go_enter Tryz.func93,Tryz.ntmps93;go_wp2
 go_region_held3 (λw'=>w'.cell? ⟨w.heap.size,0,none⟩=some (.int .i64 t)∧w'.cell? ⟨w.heap.size,1,none⟩=some (.int .i64 r)∧w'.cell? ⟨w.heap.size+1,0,none⟩=some (.int .i64 t')∧w'.cell? ⟨w.heap.size+1,1,none⟩=some (.int .i64 r')) (go_keep) (first
  |(go_at_call_of 148 (t);refine(compare_any _ _ _).mono ?_;rintro e a ⟨rfl,rfl⟩)
  |(go_at_call_of 148 (r);refine(compare_any _ _ _).mono ?_;rintro e a ⟨rfl,rfl⟩)
  |(go_at_call 147;refine(or_new _ _ _ _ _ (by simp)).mono ?_;rintro e a ⟨rfl,rfl⟩))
 all_goals
  go_wp2;go_ret;exact⟨rfl,((((ag _ _).alloc (aa _) _).alloc (by simp) _).alloc (by simp;omega) _).drew⟩
theorem rightid_any (t r i:Int) (w:World):
  Calls Tryz.prog 187 #[.agg #[t,r,i]] w λe w'=>e= .returned (.bool (Gid.right ⟨⟨t,r⟩,i⟩))∧Below w.heap.size w w':=by
 obtain⟨v,d⟩:∃v,v=Gid.right ⟨⟨t,r⟩,i⟩:=⟨_,rfl⟩;have f:=hid d;rw[<-d];clear d;cases b:Gst.right ⟨t,r⟩ with
 |false=>
  have a:=hid b;clear b;go_enter Tryz.func187,Tryz.ntmps187;go_wp2_with fail;refine(jV _ _ _).mono ?_;rw[a.out];rintro e g ⟨rfl,c⟩;go_wp2;go_ret;refine⟨dk ?_,((ag _ _).alloc (aa _) _).trans (c.mono (by simp))⟩;rw[f.out];simp[Gid.right,a.out]
 | true=>
  have a:=hid b;clear b;go_enter Tryz.func187,Tryz.ntmps187;go_wp2_with fail;refine(jV _ _ _).mono ?_;rw[a.out];rintro e g ⟨rfl,c⟩;have h:g.cell? ⟨w.heap.size,2,none⟩=some (.int .i64 i):=by
   rw[c.cell (by simp)];go_simp
  go_wp2
  all_goals
   go_ret;refine⟨dk ?_,((ag _ _).alloc (aa _) _).trans (c.mono (by simp))⟩;rw[f.out];simp[Gid.right,a.out]
   try omega
theorem eq_st (a b c d:Int) (v:Bool) (h:Gst.eqb ⟨a,b⟩ ⟨c,d⟩=v) (w:World):(binOp .eql 42 (.agg #[a,b]) (.agg #[c,d])).run Tryz.prog w= .ok (.bool v) w:=by
 subst h;go_simp;simp only[Gst.eqb];by_cases e:a=c<;>by_cases f:b=d<;>simp[e,f]
theorem eJ (a b i c d j:Int) (v:Bool) (h:Gid.eqb ⟨⟨a,b⟩,i⟩ ⟨⟨c,d⟩,j⟩=v) (w:World):(binOp .eql 108 (.agg #[a,b,i]) (.agg #[c,d,j])).run Tryz.prog w= .ok (.bool v) w:=by
 subst h;go_simp;simp only[Gid.eqb,Gst.eqb];by_cases e:a=c<;>by_cases f:b=d<;>by_cases g:i=j<;>simp[e,f,g]
theorem ne_st (a b c d:Int) (v:Bool) (h:Gst.eqb ⟨a,b⟩ ⟨c,d⟩=v) (w:World):(binOp .neq 42 (.agg #[a,b]) (.agg #[c,d])).run Tryz.prog w= .ok (.bool !v) w:=by
 subst h;go_simp;simp only[Gst.eqb];by_cases e:a=c<;>by_cases f:b=d<;>simp[e,f]
theorem ne_id (a b i c d j:Int) (v:Bool) (h:Gid.eqb ⟨⟨a,b⟩,i⟩ ⟨⟨c,d⟩,j⟩=v) (w:World):(binOp .neq 108 (.agg #[a,b,i]) (.agg #[c,d,j])).run Tryz.prog w= .ok (.bool !v) w:=by
 subst h;go_simp;simp only[Gid.eqb,Gst.eqb];by_cases e:a=c<;>by_cases f:b=d<;>by_cases g:i=j<;>simp[e,f,g]
theorem it (b:Nat) (g:Gst) (k:Nat) (x:Gid) (w:World) (h0:w.cell? ⟨b,0,none⟩=some (.int .i64 g.t)) (h1:w.cell? ⟨b,1,none⟩=some (.int .i64 g.r)) (h7:w.cell? ⟨b,7,none⟩=some (.int .i64 k)):
  Calls Tryz.prog 153 #[.pointer (some ⟨b,0,none⟩),idV x] w λe w'=>e= .returned (.bool (cL g x k))∧Below w.heap.size w w':=by
 obtain⟨⟨t,r⟩,i⟩:=x;obtain⟨h,j⟩:=g;show Calls _ _ #[_,.agg #[t,r,i]] _ _;simp only at h0 h1;have B:=aj (w:=w.alloc (.cells #[t,r,i] 108)) (a:=⟨b,0,none⟩) (v:= .int .i64 h) (by rw[ej _ _ _ (eK h0)];exact h0);have C:=aj (w:=w.alloc (.cells #[t,r,i] 108)) (a:=⟨b,1,none⟩) (v:= .int .i64 j) (by rw[ej _ _ _ (eK h1)];exact h1);have D:=aj (w:=w.alloc (.cells #[t,r,i] 108)) (a:=⟨b,7,none⟩) (v:= .int .i64 k) (by rw[ej _ _ _ (eK h7)];exact h7);have E:=aj (w:=w.alloc (.cells #[t,r,i] 108)) (a:=⟨w.heap.size,0,none⟩) (v:= .int .i64 t) (by go_simp);have F:=aj (w:=w.alloc (.cells #[t,r,i] 108)) (a:=⟨w.heap.size,1,none⟩) (v:= .int .i64 r) (by go_simp);have G:=aj (w:=w.alloc (.cells #[t,r,i] 108)) (a:=⟨w.heap.size,2,none⟩) (v:= .int .i64 i) (by go_simp);clear h0 h1 h7;have f:=λd s=>ay (rightid_any t r i (grow (redrawn (w.alloc (.cells #[t,r,i] 108)) d) s));have l:=λd s=>ay (cmp_any t r h j (grow (redrawn (w.alloc (.cells #[t,r,i] 108)) d) s));have u:=cmpS_lt ⟨t,r⟩ ⟨h,j⟩;cases m:Gid.right ⟨⟨t,r⟩,i⟩ with
 |false=>
  rw[m] at f;have p:=hid m;clear m l u;go_enter Tryz.func153,Tryz.ntmps153;go_wp2;refine rqb ?_
  repeat(any_goals(first|go_big_quiet_step (first|exact f _ _)|quiet_step (first|exact f _ _)))
  refine qz λy c=> ?_;go_wp2;go_ret;refine⟨dk ?_,?_⟩
  ·simp[cL,p.out]
  ·exact((ag _ _).alloc (aa _) _).trans (c.mono (by simp))
 | true=>
  rw[m] at f;have p:=hid m;clear m;cases n:Gst.lt ⟨t,r⟩ ⟨h,j⟩ with
  |true=>
   rw[n] at u;have q:=hid n;clear n;go_enter Tryz.func153,Tryz.ntmps153;go_wp2;refine rqb ?_
   repeat(any_goals(first|go_big_quiet_step (first|exact f _ _|exact l _ _)|quiet_step (first|exact f _ _|exact l _ _)))
   refine qz λy c=> ?_;go_wp2;go_ret;refine⟨dk ?_,?_⟩
   ·simp[cL,p.out,q.out]
   ·exact((ag _ _).alloc (aa _) _).trans (c.mono (by simp))
  | false=>
   rw[n] at u;have q:=hid n;clear n;cases o:Gst.eqb ⟨t,r⟩ ⟨h,j⟩ with
   |false=>
    have A:=eq_st t r h j false o;have z:=hid o;clear o;go_enter Tryz.func153,Tryz.ntmps153;go_wp2;refine rqb ?_
    repeat(any_goals(first|go_big_quiet_step (first|exact f _ _|exact l _ _)|quiet_step (first|exact f _ _|exact l _ _)))
    refine qz λy c=> ?_;go_wp2;go_ret;refine⟨dk ?_,?_⟩
    ·simp[cL,p.out,q.out,z.out]
    ·exact((ag _ _).alloc (aa _) _).trans (c.mono (by simp))
   |true=>
    have A:=eq_st t r h j true o;have z:=hid o;clear o;go_enter Tryz.func153,Tryz.ntmps153;go_wp2;refine rqb ?_
    repeat(any_goals(first|go_big_quiet_step (first|exact f _ _|exact l _ _)|quiet_step (first|exact f _ _|exact l _ _)))
    refine qz λy c=> ?_;go_wp2;go_ret;refine⟨dk ?_,?_⟩
    ·simp[cL,p.out,q.out,z.out]
    ·exact((ag _ _).alloc (aa _) _).trans (c.mono (by simp))
end
section
open Go.RowKit Go.Lib Go.Sort
def VecR (w:World) (A:Option Addr) (v:List Int):Prop:=Row1 w w.heap.size A v.length (λi=> .int .i64 (v.getD i 0))
theorem VecR.below {w w':World} {A:Option Addr} {v:List Int} (h:VecR w A v) (hb:Below w.heap.size w w'):VecR w' A v:=(Row1.below h hb).more hb.size
theorem atV_low {v:List Int} {r:Int} (h:r<1):atV v r=0:=by unfold atV;rw[aJ h]
theorem kG {v:List Int} {k:Nat}:atV v ((k:Int)+1)=v.getD k 0:=by
 unfold atV;rw[aC (by omega)];congr 1;omega
theorem atV_out {v:List Int} {k:Nat} (h:v.length<=k):v.getD k 0=0:=by
 rw[ae,ck h];rfl
theorem vat_any (A:Option Addr) (c:Nat) (v:List Int) (r:Int) (w:World) (hl:v.length<=9223372036854775807) (h:VecR w A v):
  Calls Tryz.prog 119 #[.slice A v.length c,r] w λe w'=>e= .returned (.int .i64 (atV v r))∧w'=w:=by
 unfold VecR at h;by_cases b:r<1
 ·rw[atV_low b];clear h;go_enter Tryz.func119,Tryz.ntmps119;go_wp2;go_ret;exact⟨rfl,rfl⟩
 obtain⟨k,rfl⟩:∃k:Nat,r=(k:Int)+1:=⟨(r-1).toNat,by omega⟩;rw[kG];by_cases d:k<v.length
 ·obtain⟨f,rfl,-,a⟩:=h k d;replace a:w.cell? (f.add k)=some (.int .i64 (v.getD k 0)):=a;generalize v.getD k 0=x at *;generalize v.length=n at *;have g:¬(n:Int)<(k:Int)+1:=by omega
  clear h;go_enter Tryz.func119,Tryz.ntmps119;go_wp2;go_ret;exact⟨rfl,rfl⟩
 ·rw[atV_out (by omega)];generalize v.length=n at *;have g:(n:Int)<(k:Int)+1:=by omega
  clear h;go_enter Tryz.func119,Tryz.ntmps119;go_wp2;go_ret;exact⟨rfl,rfl⟩
theorem at_any (A:Option Addr) (c:Nat) (v:List Int) (r:Int) (w:World) (hl:v.length<=9223372036854775807) (h:VecR w A v):
  Calls Tryz.prog 63 #[.slice A v.length c,r] w λe w'=>e= .returned (.int .i64 (atV v r))∧w'=w:=by
 go_enter Tryz.func63,Tryz.ntmps63;go_wp2_with fail;refine(vat_any A c v r _ hl h).mono ?_;rintro e a ⟨rfl,rfl⟩;go_wp2;go_ret;exact⟨rfl,rfl⟩
theorem fh (A:Option Addr) (c:Nat) (v:List Int) (r:Int) (w:World) (hl:v.length<=9223372036854775807) (h:VecR w A v):
  Calls Tryz.prog 55 #[.slice A v.length c,r] w λe w'=>e= .returned (.int .i64 (atV v r))∧w'=w:=by
 unfold VecR at h;by_cases b:r<1
 ·rw[atV_low b];clear h;go_enter Tryz.func55,Tryz.ntmps55;go_wp2;go_ret;exact⟨rfl,rfl⟩
 obtain⟨k,rfl⟩:∃k:Nat,r=(k:Int)+1:=⟨(r-1).toNat,by omega⟩;rw[kG];by_cases d:k<v.length
 ·obtain⟨f,rfl,-,a⟩:=h k d;replace a:w.cell? (f.add k)=some (.int .i64 (v.getD k 0)):=a;generalize v.getD k 0=x at *;generalize v.length=n at *;have g:¬(n:Int)<(k:Int)+1:=by omega
  clear h;go_enter Tryz.func55,Tryz.ntmps55;go_wp2;go_ret;exact⟨rfl,rfl⟩
 ·rw[atV_out (by omega)];generalize v.length=n at *;have g:(n:Int)<(k:Int)+1:=by omega
  clear h;go_enter Tryz.func55,Tryz.ntmps55;go_wp2;go_ret;exact⟨rfl,rfl⟩
theorem plainV_snoc0 (v:List Int):bW (v++[0])=bW v:=by
 unfold bW;simp
theorem plainV_snoc (v:List Int) (x:Int) (h:x≠0):bW (v++[x])=v++[x]:=by
 unfold bW;simp[h]
theorem take_succ_getD (v:List Int) (k:Nat) (h:k<v.length):v.take (k+1)=v.take k++[v.getD k 0]:=by
 rw[cv h,ae,an h];rfl
theorem plainV_len (v:List Int):(bW v).length<=v.length:=by
 unfold bW;rw[iT];have:=(List.dropWhile_sublist (l:=v.reverse) (λx=>decide (x=0))).length_le;rw[iT] at this;exact this
theorem plainV_take (v:List Int):bW v=v.take (bW v).length:=by
 unfold bW;obtain⟨p,a⟩:=List.dropWhile_suffix (l:=v.reverse) (λx=>decide (x=0));obtain⟨q,c⟩:∃q,q=List.dropWhile (λx=>decide (x=0)) v.reverse:=⟨_,rfl⟩;rw[<-c] at a ⊢;have b:=congrArg List.reverse a;rw[List.reverse_append,List.reverse_reverse] at b;rw[<-b,List.take_left]
theorem vplain_any (A:Option Addr) (c:Nat) (v:List Int) (w:World) (hc0:v.length<=c) (hl:v.length<=9223372036854775807) (h:VecR w A v):
  Calls Tryz.prog 157 #[.slice A v.length c] w λe w'=>e= .returned (.slice A (bW v).length c)∧w'=w:=by
 unfold VecR at h;have u:=hid h;obtain⟨n,d⟩:∃n,n=v.length:=⟨_,rfl⟩;obtain⟨p,f⟩:∃p,p=(bW v).length:=⟨_,rfl⟩;rw[<-d] at hc0 hl ⊢;rw[<-f];have b:=hid d;have l:=hid f;clear h d f;go_enter Tryz.func157,Tryz.ntmps157;go_wp2;go_loop [0] (λs=>∃k:Nat,k<=n∧s= .slice A k c∧Hid (bW v=bW (v.take k))) (λs=>match s with| .slice _ k _=>k|_=>0)
 case atStart=>exact⟨n,aa _,rfl,by show _=_;rw[b.out,aK]⟩
 case round=>
  obtain⟨k,B,rfl,g⟩:=hrel;cases k with
  |zero=>
   have m:p=0:=by rw[l.out,g.out];rfl
   subst m;go_wp2;go_ret;exact⟨rfl,rfl⟩
  | succ k=>
   obtain⟨y,z,-,i⟩:=u.out k (by have:=b.out;omega);subst z;replace i:w.cell? (y.add k)=some (.int .i64 (v.getD k 0)):=i;have o:=hid (take_succ_getD v k (by have:=b.out;omega));obtain⟨x,j⟩:∃x,x=v.getD k 0:=⟨_,rfl⟩;rw[<-j] at i;have q:=hid j;clear j;have C:(0:Int)<=(k:Int):=by omega
   have D:(k:Int)+1-1=(k:Int):=by omega
   have E:(k:Int)<=(c:Int):=by omega
   by_cases a:x=0
   ·subst a;have r:Hid (bW v=bW (v.take k)):=by show _=_;rw[g.out,o.out,<-q.out,plainV_snoc0]
    go_wp2;go_round
    case rel=>exact⟨k,by omega,rfl,r⟩
    case measure=>simp
   ·have F:(x == 0)=false:=by rw[aV];exact a
    have t:p=k+1:=by
     rw[l.out,g.out,o.out,<-q.out,plainV_snoc _ _ a,al,aP];have:=b.out;simp;omega
    subst t;go_wp2;go_ret;exact⟨rfl,rfl⟩
theorem plain_any (A:Option Addr) (c:Nat) (v:List Int) (w:World) (hc0:v.length<=c) (hl:v.length<=9223372036854775807) (h:VecR w A v):
  Calls Tryz.prog 121 #[.slice A v.length c] w λe w'=>e= .returned (.slice A (bW v).length c)∧w'=w:=by
 go_enter Tryz.func121,Tryz.ntmps121;go_wp2_with fail;refine(vplain_any A c v _ hc0 hl h).mono ?_;rintro e a ⟨rfl,rfl⟩;go_wp2;go_ret;exact⟨rfl,rfl⟩
theorem kz (A:Option Addr) (c:Nat) (v:List Int) (w:World) (hc0:v.length<=c) (hl:v.length<=9223372036854775807) (h:VecR w A v):
  Calls Tryz.prog 105 #[.slice A v.length c] w λe w'=>e= .returned (.slice A (bW v).length c)∧w'=w:=by
 unfold VecR at h;have u:=hid h;obtain⟨n,d⟩:∃n,n=v.length:=⟨_,rfl⟩;obtain⟨p,f⟩:∃p,p=(bW v).length:=⟨_,rfl⟩;rw[<-d] at hc0 hl ⊢;rw[<-f];have b:=hid d;have l:=hid f;clear h d f;go_enter Tryz.func105,Tryz.ntmps105;go_wp2;go_loop [3] (λs=>∃k:Nat,k<=n∧s= .int .i64 k∧Hid (bW v=bW (v.take k))) (λs=>(RowKit.intOf s).toNat)
 case atStart=>exact⟨n,aa _,rfl,by show _=_;rw[b.out,aK]⟩
 case round=>
  obtain⟨k,B,rfl,g⟩:=hrel;cases k with
  |zero=>
   have m:p=0:=by rw[l.out,g.out];rfl
   subst m;go_wp2;go_ret;exact⟨rfl,rfl⟩
  | succ k=>
   obtain⟨y,z,-,i⟩:=u.out k (by have:=b.out;omega);subst z;replace i:w.cell? (y.add k)=some (.int .i64 (v.getD k 0)):=i;have o:=hid (take_succ_getD v k (by have:=b.out;omega));obtain⟨x,j⟩:∃x,x=v.getD k 0:=⟨_,rfl⟩;rw[<-j] at i;have q:=hid j;clear j;have C:(0:Int)<=(k:Int):=by omega
   have D:(k:Int)+1-1=(k:Int):=by omega
   have E:(k:Int)+1<=(c:Int):=by omega
   by_cases a:x=0
   ·subst a;have r:Hid (bW v=bW (v.take k)):=by show _=_;rw[g.out,o.out,<-q.out,plainV_snoc0]
    go_wp2;go_round
    case rel=>exact⟨k,by omega,by go_num,r⟩
    case measure=>simp[RowKit.intOf]
   ·have F:(x == 0)=false:=by rw[aV];exact a
    have t:p=k+1:=by
     rw[l.out,g.out,o.out,<-q.out,plainV_snoc _ _ a,al,aP];have:=b.out;simp;omega
    subst t;go_wp2;go_ret;exact⟨rfl,rfl⟩
theorem same_any (A B:Option Addr) (c d:Nat) (v u:List Int) (w:World) (hl:v.length<=9223372036854775807) (hA:VecR w A v) (hB:VecR w B u):
  Calls Tryz.prog 29 #[.slice A v.length c,.slice B u.length d] w λe w'=>e= .returned (.bool (decide (v=u)))∧Below w.heap.size w w':=by
 unfold VecR at hA hB;have H:=hid hA;have I:=hid hB;clear hA hB;obtain⟨n,p⟩:∃n,n=v.length:=⟨_,rfl⟩;obtain⟨m,q⟩:∃m,m=u.length:=⟨_,rfl⟩;rw[<-p] at hl ⊢;rw[<-q];obtain⟨r,a⟩:∃r,r=decide (v=u):=⟨_,rfl⟩;rw[<-a];have l:=hid p;have s:=hid q;have t:=hid a;clear p q a;by_cases o:n=m
 ·subst o;go_enter Tryz.func29,Tryz.ntmps29;go_wp2;go_loopw [5] (λi wr=>∃k j:Nat,k<=n∧i= .int .i64 k∧wr=w.drewN j∧Hid (∀i,i<k->v.getD i 0=u.getD i 0)) (λi _=>n-(RowKit.intOf i).toNat)
  case atStart=>exact⟨0,0,by omega,rfl,rfl,λi D=>absurd D (by omega)⟩
  case round=>
   obtain⟨k,j,O,rfl,rfl,E⟩:=hrel;by_cases N:k<n
   ·obtain⟨J,hA,-,z⟩:=H.out k (by have:=l.out;omega);obtain⟨K,hB,-,C⟩:=I.out k (by have:=s.out;omega);subst hA hB;replace z:w.cell? (J.add k)=some (.int .i64 (v.getD k 0)):=z;replace C:w.cell? (K.add k)=some (.int .i64 (u.getD k 0)):=C;obtain⟨x,f⟩:∃x,x=v.getD k 0:=⟨_,rfl⟩;obtain⟨y,g⟩:∃y,y=u.getD k 0:=⟨_,rfl⟩;rw[<-f] at z;rw[<-g] at C;by_cases b:x=y
    ·have F:Hid (∀i,i<k+1->v.getD i 0=u.getD i 0):=λi D=>by
      rcases cj i k with h|h
      ·exact E.out i h
      ·obtain rfl:i=k:=by omega
       rw[<-f,<-g,b]
     clear f g;subst b;go_wp2;go_quiet (fail);go_wp2;go_roundw
     case rel=>exact⟨k+1,_,by omega,by go_num,rfl,F⟩
     case measure=>simp[RowKit.intOf];omega
    ·have L:(x != y)=true:=by rw[eM];exact b
     have a:r=false:=by
      rw[t.out,aU];rintro rfl;exact b (f.trans g.symm)
     subst a;clear f g;go_wp2;go_quiet (fail);go_wp2;go_ret;exact⟨rfl,jy (jy (ag _ _) _) _⟩
   ·obtain rfl:k=n:=by omega
    have a:r=true:=by
     rw[t.out,ak];refine List.ext_getElem (by rw[<-l.out,<-s.out]) λi G M=> ?_;have:=E.out i (by rw[l.out];exact G);rw[ae,ae,an G,an M] at this;exact this
    subst a;go_wp2;go_ret;exact⟨rfl,jy (ag _ _) _⟩
 ·have L:((n:Int) != (m:Int))=true:=by rw[eM];omega
  have a:r=false:=by
   rw[t.out,aU];rintro rfl;exact o (l.out.trans s.out.symm)
  subst a;go_enter Tryz.func29,Tryz.ntmps29;go_wp2;go_ret;exact⟨rfl,ag _ _⟩
theorem vecB_neg {v:List Int} {k:Nat} (hk:k<v.length) (h:v.getD k 0<0):vecB v=false:=by
 rw[<-Bool.not_eq_true];intro a;simp only[vecB,ap,dJ,ak] at a
 have:=a.1.1 (v.getD k 0) (by
  rw[ae,an hk];exact bU hk)
 omega
theorem vecB_pos {v:List Int} (h:∀k,k<v.length->0<=v.getD k 0):vecB v=(decide (v.length<=16) && decide ((bW v).length=v.length)):=by
 have:v.all (λx=>decide (0<=x))=true:=by
  rw[dJ];intro x a;obtain⟨i,b,rfl⟩:=jM (z:=(0:Int)) a;exact aN (h i b)
 simp only[vecB,this,aY]
theorem vector_any (A:Option Addr) (c:Nat) (v:List Int) (w:World) (hc0:v.length<=c) (hl:v.length<=9223372036854775807) (h:VecR w A v):
  Calls Tryz.prog 71 #[.slice A v.length c] w λe w'=>e= .returned (.bool (vecB v))∧w'=w:=by
 have g:=hid (plain_any A c v w hc0 hl h);unfold VecR at h;have D:=hid h;obtain⟨r,a⟩:∃r,r=vecB v:=⟨_,rfl⟩;rw[<-a];obtain⟨n,j⟩:∃n,n=v.length:=⟨_,rfl⟩;rw[<-j] at hc0 hl g ⊢;obtain⟨p,l⟩:∃p,p=(bW v).length:=⟨_,rfl⟩;rw[<-l] at g;have m:=hid j;have t:=hid a;have u:=hid l;have J:p<=n:=by rw[l,j];exact plainV_len v
 clear h j a l;go_enter Tryz.func71,Tryz.ntmps71;go_wp2;go_loop [7] (λi=>∃k:Nat,k<=n∧i= .int .i64 k∧Hid (∀i,i<k->0<=v.getD i 0)) (λi=>n-(RowKit.intOf i).toNat)
 case atStart=>exact⟨0,by omega,rfl,λi o=>absurd o (by omega)⟩
 case round=>
  obtain⟨k,L,rfl,y⟩:=hrel;by_cases z:k<n
  ·obtain⟨E,F,-,q⟩:=D.out k (by have:=m.out;omega);subst F;replace q:w.cell? (E.add k)=some (.int .i64 (v.getD k 0)):=q;obtain⟨x,d⟩:∃x,x=v.getD k 0:=⟨_,rfl⟩;rw[<-d] at q;by_cases s:x<0
   ·have a:r=false:=by rw[t.out,vecB_neg (by have G:=m.out;rw[<-G];exact z) (by rw[<-d];exact s)]
    subst a;clear d;go_wp2;go_ret;exact⟨rfl,rfl⟩
   ·have B:Hid (∀i,i<k+1->0<=v.getD i 0):=λi o=>by
     rcases cj i k with h|h
     ·exact y.out i h
     ·obtain rfl:i=k:=by omega
      rw[<-d];exact Int.not_lt.1 s
    clear d;have K:0<=x:=by omega
    clear s;go_wp2;go_round
    case rel=>exact⟨k+1,by omega,by go_num,B⟩
    case measure=>simp[RowKit.intOf];omega
  ·obtain rfl:k=n:=by omega
   have a:r=(decide (k<=16) && decide (p=k)):=by
    rw[t.out,vecB_pos (λi o=>y.out i (by have:=m.out;omega)),<-m.out,<-u.out]
   by_cases C:k<=16
   ·have H:(k:Int)<=16:=by omega
    by_cases f:p=k
    ·have b:r=true:=by rw[a];simp[C,f]
     clear a;subst b f;go_wp2_with (go_at_call 121;refine g.out.mono ?_;rintro e I ⟨rfl,rfl⟩);go_ret;exact⟨rfl,rfl⟩
    ·have b:r=false:=by rw[a];simp[f]
     have M:((p:Int) == (k:Int))=false:=by rw[aV];omega
     clear a;subst b;go_wp2_with (go_at_call 121;refine g.out.mono ?_;rintro e I ⟨rfl,rfl⟩);go_ret;exact⟨rfl,rfl⟩
   ·have b:r=false:=by rw[a];simp;omega
    have H:¬(k:Int)<=16:=by omega
    clear a;subst b;go_wp2;go_ret;exact⟨rfl,rfl⟩
theorem refvector_any (A:Option Addr) (c:Nat) (v:List Int) (w:World) (hc0:v.length<=c) (hl:v.length<=9223372036854775807) (h:VecR w A v):
  Calls Tryz.prog 102 #[.slice A v.length c] w λe w'=>e= .returned (.bool (vecB v))∧Below w.heap.size w w':=by
 have m:=hid (kz A c v w hc0 hl h);have o:=plainV_take v;have P:=plainV_len v
 have f:=hid (same_any A A c c v (bW v) w hl h (by
  intro k y;obtain⟨q,e,H,b⟩:=h k (by omega);refine⟨q,e,H,?_⟩;rw[b];show some (Value.int .i64 (v.getD k 0))=some (.int .i64 ((bW v).getD k 0));have I:(bW v).getD k 0=v.getD k 0:=by
   rw[o,ae,ae,List.getElem?_take_of_lt y]
  rw[I]))
 have z:decide (v=bW v)=decide ((bW v).length=v.length):=by
  rw[bw,ak,ak];exact⟨λe=>by rw[<-e],λe=>by rw[o,e,aK]⟩
 rw[z] at f;clear z o;unfold VecR at h;have J:=hid h;obtain⟨r,a⟩:∃r,r=vecB v:=⟨_,rfl⟩;rw[<-a];obtain⟨n,g⟩:∃n,n=v.length:=⟨_,rfl⟩;rw[<-g] at hc0 hl m f ⊢;obtain⟨p,j⟩:∃p,p=(bW v).length:=⟨_,rfl⟩;rw[<-j] at m f;have l:=hid g;have B:=hid a;have C:=hid j;have Q:p<=n:=by rw[j,g];exact plainV_len v
 clear h g a j;go_enter Tryz.func102,Tryz.ntmps102;go_wp2;go_loop [3] (λi=>∃k:Nat,k<=n∧i= .int .i64 k∧Hid (∀i,i<k->0<=v.getD i 0)) (λi=>n-(RowKit.intOf i).toNat)
 case atStart=>exact⟨0,by omega,rfl,λi s=>absurd s (by omega)⟩
 case round=>
  obtain⟨k,y,rfl,D⟩:=hrel;by_cases E:k<n
  ·obtain⟨q,K,-,t⟩:=J.out k (by have:=l.out;omega);subst K;replace t:w.cell? (q.add k)=some (.int .i64 (v.getD k 0)):=t;obtain⟨x,b⟩:∃x,x=v.getD k 0:=⟨_,rfl⟩;rw[<-b] at t;by_cases u:x<0
   ·have a:r=false:=by rw[B.out,vecB_neg (by have L:=l.out;rw[<-L];exact E) (by rw[<-b];exact u)]
    subst a;clear b;go_wp2;go_ret;exact⟨rfl,ag _ _⟩
   ·have F:Hid (∀i,i<k+1->0<=v.getD i 0):=λi s=>by
     rcases cj i k with h|h
     ·exact D.out i h
     ·obtain rfl:i=k:=by omega
      rw[<-b];exact Int.not_lt.1 u
    clear b;have R:0<=x:=by omega
    clear u;go_wp2;go_round
    case rel=>exact⟨k+1,by omega,by go_num,F⟩
    case measure=>simp[RowKit.intOf];omega
  ·obtain rfl:k=n:=by omega
   have a:r=(decide (k<=16) && decide (p=k)):=by
    rw[B.out,vecB_pos (λi s=>D.out i (by have:=l.out;omega)),<-l.out,<-C.out]
   by_cases G:k<=16
   ·have M:(k:Int)<=16:=by omega
    have d:r=decide (p=k):=by rw[a];simp[G]
    clear a;subst d;go_wp2_with fail;refine m.out.mono ?_;rintro e N ⟨rfl,rfl⟩;go_wp2_with fail;refine f.out.mono ?_;rintro e N ⟨rfl,O⟩;go_wp2;go_ret;exact⟨rfl,O⟩
   ·have d:r=false:=by rw[a];simp;omega
    have M:¬(k:Int)<=16:=by omega
    clear a;subst d;go_wp2;go_ret;exact⟨rfl,ag _ _⟩
end
section
open Go.RowKit Go.Lib Go.Sort
def RowG (w:World) (S:Nat->Prop) (A:Option Addr) (n s:Nat) (f:Nat->Nat->Value):Prop:=
 ∀k,k<n->∃b o,A=some ⟨b,o,none⟩∧S b∧b<w.heap.size∧∀j,j<s->w.cell? ⟨b,o+k*s+j,none⟩=some (f k j)
def Agr (S:Nat->Prop) (w w':World):Prop:=w.heap.size<=w'.heap.size∧∀b,S b->b<w.heap.size->w'.heap[b]? =w.heap[b]?
theorem Agr.refl {S:Nat->Prop} {w:World}:Agr S w w:=⟨aa _,λ_ _ _=>rfl⟩
theorem Agr.trans {S:Nat->Prop} {w w1 w2:World} (h:Agr S w w1) (k:Agr S w1 w2):Agr S w w2:=⟨aL h.1 k.1,λb hb hl=>(k.2 b hb (bC hl h.1)).trans (h.2 b hb hl)⟩
theorem Agr.below {S:Nat->Prop} {w w':World} (h:Below w.heap.size w w'):Agr S w w':=⟨h.size,λb _ hl=>h.block b hl⟩
theorem Agr.grown {S:Nat->Prop} {w w':World} {row:Option Nat} (h:w.grownBy w' row) (hr:∀g,row=some g->¬S g):Agr S w w':=⟨h.size,λb hb hl=>h.block b hl (λe=>hr b e.symm hb)⟩
theorem Agr.sub {S T:Nat->Prop} {w w':World} (h:Agr S w w') (hs:∀b,T b->S b):Agr T w w':=⟨h.1,λb hb hl=>h.2 b (hs b hb) hl⟩
section
variable {w w' : World} {S T : Nat → Prop} {A : Option Addr} {n s : Nat} {f g : Nat → Nat → Value}
theorem RowG.agr (h:RowG w S A n s f) (ha:Agr S w w'):RowG w' S A n s f:=λk hk=>by
 obtain⟨b,o,e,hS,hb,hc⟩:=h k hk
 exact⟨b,o,e,hS,bC hb ha.1,λj hj=>(aS (w:=w) (a:=⟨b,o+k*s+j,none⟩) (ha.2 b hS hb)).trans (hc j hj)⟩
theorem RowG.sub (h:RowG w S A n s f) (hs:∀b,b<w.heap.size->S b->T b):RowG w T A n s f:=λk hk=>by
 obtain⟨b,o,e,hS,hb,hc⟩:=h k hk
 exact⟨b,o,e,hs b hb hS,hb,hc⟩
theorem RowG.congr (h:RowG w S A n s f) (e:∀k j,k<n->j<s->f k j=g k j):RowG w S A n s g:=λk hk=>by
 obtain⟨b,o,e1,hS,hb,hc⟩:=h k hk
 exact⟨b,o,e1,hS,hb,λj hj=>by rw[hc j hj,e k j hk hj]⟩
theorem RowG.zero:RowG w S A 0 s f:=λk hk=>absurd hk (by omega)
end
def VecS (w:World) (S:Nat->Prop) (A:Option Addr) (v:List Int):Prop:=RowG w S A v.length 1 (λk _=> .int .i64 (v.getD k 0))
def StsS (w:World) (S:Nat->Prop) (A:Option Addr) (l:List Gst):Prop:=RowG w S A l.length 2 (λk j=>if j=0 then .int .i64 (l.getD k .zero).t else .int .i64 (l.getD k .zero).r)
def IdsS (w:World) (S:Nat->Prop) (A:Option Addr) (l:List Gid):Prop:=RowG w S A l.length 3 (λk j=>if j=0 then .int .i64 (l.getD k .zero).s.t else if j=1 then .int .i64 (l.getD k .zero).s.r else .int .i64 (l.getD k .zero).i)
theorem VecS.vec {w:World} {S:Nat->Prop} {A:Option Addr} {v:List Int} (h:VecS w S A v):VecR w A v:=λk hk=>by
 obtain⟨b,o,e,_,hb,hc⟩:=h k hk
 have:=hc 0 (by omega)
 refine⟨⟨b,o,none⟩,e,hb,?_⟩
 rw[Addr.add_mid]
 simpa using this
theorem StsS.at_ {w:World} {S:Nat->Prop} {A:Option Addr} {l:List Gst} (h:StsS w S A l) {k:Nat} (hk:k<l.length):
  ∃b o,A=some ⟨b,o,none⟩∧S b∧b<w.heap.size∧w.cell? ⟨b,o+k*2,none⟩=some (.int .i64 (l.getD k .zero).t)∧w.cell? ⟨b,o+k*2+1,none⟩=some (.int .i64 (l.getD k .zero).r):=by
 obtain⟨b,o,e,c,d,a⟩:=h k hk;exact⟨b,o,e,c,d,a 0 (by omega),a 1 (by omega)⟩
theorem IdsS.at_ {w:World} {S:Nat->Prop} {A:Option Addr} {l:List Gid} (h:IdsS w S A l) {k:Nat} (hk:k<l.length):
  ∃b o,A=some ⟨b,o,none⟩∧S b∧b<w.heap.size∧w.cell? ⟨b,o+k*3,none⟩=some (.int .i64 (l.getD k .zero).s.t)∧w.cell? ⟨b,o+k*3+1,none⟩=some (.int .i64 (l.getD k .zero).s.r)∧w.cell? ⟨b,o+k*3+2,none⟩=some (.int .i64 (l.getD k .zero).i):=by
 obtain⟨b,o,e,c,d,a⟩:=h k hk;exact⟨b,o,e,c,d,a 0 (by omega),a 1 (by omega),a 2 (by omega)⟩
structure OpX where
 dA:Option Addr
 dc:Nat
 eA:Option Addr
 ec:Nat
def opA (o:Gop) (x:OpX):Array Value:=
 #[.int .i64 o.kind,.int .i64 o.node.s.t,.int .i64 o.node.s.r,.int .i64 o.node.i,.int .i64 o.parent.s.t,.int .i64 o.parent.s.r,.int .i64 o.parent.i,.string o.name,.bool o.dir,.slice x.dA o.dots.length x.dc,
  .int .i64 o.after.s.t,.int .i64 o.after.s.r,.int .i64 o.after.i,.int .i64 o.elem.s.t,.int .i64 o.elem.s.r,.int .i64 o.elem.i,.string o.text,.slice x.eA o.elems.length x.ec]
def i63 (x:Int):Prop:= -9223372036854775808<=x∧x<9223372036854775808
structure OpIn (w:World) (S:Nat->Prop) (o:Gop) (x:OpX):Prop where
 dots:StsS w S x.dA o.dots
 elems:IdsS w S x.eA o.elems
 dle:o.dots.length<=x.dc
 ele:o.elems.length<=x.ec
 dmax:x.dc<=maxLen
 emax:x.ec<=maxLen
 name:o.name.size<=maxLen
 text:o.text.size<=maxLen
def OpsS (w:World) (S:Nat->Prop) (A:Option Addr) (l:List Gop):Prop:=
 ∃X:Nat->OpX,RowG w S A l.length 18 (λk j=>(opA (l.getD k (opO 0 .zero)) (X k)).getD j undef)∧∀k,k<l.length->OpIn w S (l.getD k (opO 0 .zero)) (X k)
theorem OpIn.agr {w w':World} {S:Nat->Prop} {o:Gop} {x:OpX} (h:OpIn w S o x) (ha:Agr S w w'):OpIn w' S o x:=
 ⟨RowG.agr h.dots ha,RowG.agr h.elems ha,h.dle,h.ele,h.dmax,h.emax,h.name,h.text⟩
theorem OpIn.sub {w:World} {S T:Nat->Prop} {o:Gop} {x:OpX} (h:OpIn w S o x) (hs:∀b,b<w.heap.size->S b->T b):OpIn w T o x:=
 ⟨RowG.sub h.dots hs,RowG.sub h.elems hs,h.dle,h.ele,h.dmax,h.emax,h.name,h.text⟩
theorem OpsS.agr {w w':World} {S:Nat->Prop} {A:Option Addr} {l:List Gop} (h:OpsS w S A l) (ha:Agr S w w'):OpsS w' S A l:=by
 obtain⟨X,a,b⟩:=h;exact⟨X,RowG.agr a ha,λk c=>(b k c).agr ha⟩
theorem OpsS.sub {w:World} {S T:Nat->Prop} {A:Option Addr} {l:List Gop} (h:OpsS w S A l) (hs:∀b,b<w.heap.size->S b->T b):OpsS w T A l:=by
 obtain⟨X,a,c⟩:=h;exact⟨X,RowG.sub a hs,λk d=>(c k d).sub hs⟩
def grA (g:Grp) (dA:Option Addr) (dc:Nat) (oA:Option Addr) (oc:Nat):Array Value:=
 #[.int .i64 g.s.t,.int .i64 g.s.r,.int .i64 g.n,.slice dA g.deps.length dc,.int .i64 g.u.t,.int .i64 g.u.r,.slice oA g.ops.length oc]
structure GrIn (w:World) (S:Nat->Prop) (g:Grp) (dA:Option Addr) (dc:Nat) (oA:Option Addr) (oc:Nat):Prop where
 deps:VecS w S dA g.deps
 ops:OpsS w S oA g.ops
 dle:g.deps.length<=dc
 ole:g.ops.length<=oc
 dmax:dc<=maxLen
 omax:oc<=maxLen
 nin:i63 g.n
 din:∀x∈g.deps,i63 x
theorem GrIn.agr {w w':World} {S:Nat->Prop} {g:Grp} {dA oA:Option Addr} {dc oc:Nat} (h:GrIn w S g dA dc oA oc) (ha:Agr S w w'):GrIn w' S g dA dc oA oc:=
 ⟨RowG.agr h.deps ha,h.ops.agr ha,h.dle,h.ole,h.dmax,h.omax,h.nin,h.din⟩
theorem GrIn.sub {w:World} {S T:Nat->Prop} {g:Grp} {dA oA:Option Addr} {dc oc:Nat} (h:GrIn w S g dA dc oA oc) (hs:∀b,b<w.heap.size->S b->T b):GrIn w T g dA dc oA oc:=
 ⟨RowG.sub h.deps hs,h.ops.sub hs,h.dle,h.ole,h.dmax,h.omax,h.nin,h.din⟩
end
section
open Go.RowKit Go.Lib Go.Sort
section
variable {P : Program} {ops : Array Oper} {rest : List Oper} {o : Oper} {a : Act} {Q : Exit → Act → World → Prop}
theorem jF {K:Act->World->Prop} {w:World} (ty:TypeId) (x y:Operand) (ho:o.op= .store ty x y) (g:Nat) (T:TypeId) (c c':Array Value)
  (hx:a.eval x= .pointer (some ⟨g,0,none⟩)) (hy:a.eval y= .agg c') (hg:w.heap[g]? =some (.cells c T (0,0))) (hi:(P.info? ty).map (·.size)=some c'.size) (hs:c.size=c'.size) (h1:c'.toList.all (·.oneCell')=true)
  (h:K (a.put o.dst undef) (w.setRow g c')):o.wp P a w K Q:=by
 unfold Oper.wp execOp;simp only[ho,hx,hy,Instr.storeAt,Instr.sureAddr,Sem.run_bind,Sem.run_pure,Result.andThen_ok,run_storeVar_row w g T ty c c' hg hi hs (by rw[<-cg];exact h1)];exact h
theorem bM {w:World} (hgd:o.guard=none) (ty:TypeId) (x y:Operand) (ho:o.op= .store ty x y) (g:Nat) (T:TypeId) (c c':Array Value)
  (hx:a.eval x= .pointer (some ⟨g,0,none⟩)) (hn:w.heap.size=g) (hy:a.eval y= .agg c') (hi:(P.info? ty).map (·.size)=some c'.size) (hs:c.size=c'.size) (h1:c'.toList.all (·.oneCell')=true)
  (h:wpList P ops Q rest (a.put o.dst undef) (w.alloc (.cells c' T))):wpList P ops Q (o::rest) a (w.alloc (.cells c T)):=by
 subst hn;exact wpList_plain hgd λ_ b=>jF ty x y ho _ T c c' hx hy (am w _) hi hs h1 (by rw[World.setRow_alloc_new];exact b _ _ h)
theorem World.setRow_alloc_old (w:World) (g:Nat) (c:Array Value) (ob:Obj) (hg:g<w.heap.size):(w.alloc ob).setRow g c=(w.setRow g c).alloc ob:=by
 simp only[World.setRow,World.alloc];congr 1;apply Array.ext_getElem?;intro i;rw[cx,Array.getElem?_push,Array.getElem?_push,cx];by_cases h:g=i
 ·subst h;have:¬g=w.heap.size:=by omega
  simp[this]
 ·simp[h]
theorem gU {w:World} {ob:Obj} (hgd:o.guard=none) (ty:TypeId) (x y:Operand) (ho:o.op= .store ty x y) (g:Nat) (T:TypeId) (c c':Array Value)
  (hx:a.eval x= .pointer (some ⟨g,0,none⟩)) (hn:w.heap.size=g) (hy:a.eval y= .agg c') (hi:(P.info? ty).map (·.size)=some c'.size) (hs:c.size=c'.size) (h1:c'.toList.all (·.oneCell')=true)
  (h:wpList P ops Q rest (a.put o.dst undef) ((w.alloc (.cells c' T)).alloc ob)):wpList P ops Q (o::rest) a ((w.alloc (.cells c T)).alloc ob):=by
 subst hn;refine wpList_plain hgd λ_ b=>jF ty x y ho _ T c c' hx hy ?_ hi hs h1 ?_
 ·exact(ax _ ob _ (by simp)).trans (am w _)
 ·rw[World.setRow_alloc_old _ _ _ _ (by simp),World.setRow_alloc_new];exact b _ _ h
def putL:Array Value->Nat->List Value->Array Value
 |c,_,[]=>c
 |c,o,v::vs=>putL (c.setIfInBounds o v) (o+1) vs
theorem fk (g:Nat) (T:TypeId):∀(vs:List Value) (o:Nat) (c:Array Value) (w:World),w.heap[g]? =some (.cells c T (0,0))->w.setCells g o vs=w.setRow g (putL c o vs)
 | [],o,c,w,hg=>by
  show w=w.setRow g c
  obtain⟨hlt,hv⟩:=Array.getElem?_eq_some_iff.1 hg
  simp only[World.setRow]
  have:w.heap.modify g (λx=>match x with| .cells _ t fr=> .cells c t fr|o=>o)=w.heap:=by
   apply Array.ext_getElem?;intro i;rw[cx];by_cases h:g=i
   ·subst h;simp[hg]
   ·simp[h]
  cases w;simp only at this ⊢;congr 1;exact this.symm
 |v::vs,o,c,w,hg=>by
  show(w.setCell ⟨g,o,none⟩ v).setCells g (o+1) vs=_;rw[fk g T vs (o+1) (c.setIfInBounds o v) _ (cn w g o c T v hg)];show _=w.setRow g (putL (c.setIfInBounds o v) (o+1) vs);simp only[World.setRow,World.setCell];congr 1;apply Array.ext_getElem?;intro i;rw[cx,cx,cx];by_cases h:g=i
  ·subst h;simp[hg]
  ·simp[h]
theorem run_store_any (w:World) (b o:Nat) (ty:TypeId) (v:Value) (ht:w.there b o v.cells.size) (hi:(P.info? ty).map (·.size)=some v.cells.size) (h1:v.cells.toList.all (·.oneCell')=true):
  (storeVar ty ⟨b,o,none⟩ v).run P w= .ok () (w.setCells b o v.cells.toList):=by
 have:=run_storeCells_cells (P:=P) b o v.cells.toList 0 w (λj a=>by simpa using(ht j (by simpa using a)).1) (λj a=>by simpa using(ht j (by simpa using a)).2)
  (λx d=>(dJ.1 h1) x d)
 cases c:P.info? ty with
 |none=>simp[c] at hi
 |some i=>
  have e:v.cells.size=i.size:=by simp[c] at hi;omega
  simp only[Nat.add_zero] at this;simp[storeVar,sizeOf,typeInfo,c,e,this]
theorem im {w:World} (hgd:o.guard=none) (ty:TypeId) (x y:Operand) (ho:o.op= .store ty x y) (g off:Nat) (T:TypeId) (c c':Array Value) (v:Value)
  (hx:a.eval x= .pointer (some ⟨g,off,none⟩)) (hn:w.heap.size=g) (hy:a.eval y=v) (hi:(P.info? ty).map (·.size)=some v.cells.size) (hs:off+v.cells.size<=c.size) (h1:v.cells.toList.all (·.oneCell')=true) (hc:putL c off v.cells.toList=c')
  (h:wpList P ops Q rest (a.put o.dst undef) (w.alloc (.cells c' T))):wpList P ops Q (o::rest) a (w.alloc (.cells c T)):=by
 subst hn hc;refine wpList_plain hgd λ_ d=> ?_;have b:=am w (.cells c T);have e:(w.alloc (.cells c T)).there w.heap.size off v.cells.size:=λj f=>by
  rw[crw b];exact⟨by rw[dh (by omega)];rfl,aW _ _ _ _ _ b⟩
 unfold Oper.wp execOp;simp only[ho,hx,hy,Instr.storeAt,Instr.sureAddr,Sem.run_bind,Sem.run_pure,Result.andThen_ok,run_store_any (P:=P) _ _ off ty v e hi h1];rw[fk _ _ _ _ _ _ b,World.setRow_alloc_new];exact d _ _ h
theorem df {w:World} (hgd:o.guard=none) (ty:TypeId) (x:Operand) (ho:o.op= .load ty x) (g:Nat) (T:TypeId) (c:Array Value) (d:TypeDesc)
  (hx:a.eval x= .pointer (some ⟨g,0,none⟩)) (hn:w.heap.size=g) (hu:P.underlying ty=some d) (hd:d.isRow=true) (hi:(P.info? ty).map (·.size)=some c.size)
  (h:wpList P ops Q rest (a.put o.dst (.agg c)) (w.alloc (.cells c T))):wpList P ops Q (o::rest) a (w.alloc (.cells c T)):=by
 subst hn;refine wpList_plain hgd λ_ b=> ?_;unfold Oper.wp execOp;simp only[ho,hx,Instr.loadAt,Instr.sureAddr,Sem.run_bind,Sem.run_pure,Result.andThen_ok,run_loadVar_row (w.alloc (.cells c T)) w.heap.size T ty c (0,0) d (am w _) hu (by cases d<;>simp_all) hi];exact b _ _ h
theorem da {w:World} (hgd:o.guard=none) (ty:TypeId) (x y:Operand) (ho:o.op= .store ty x y) (g:Nat) (T:TypeId) (c c':Array Value)
  (hx:a.eval x= .pointer (some ⟨g,0,none⟩)) (hy:a.eval y= .agg c') (hg:w.heap[g]? =some (.cells c T (0,0))) (hi:(P.info? ty).map (·.size)=some c'.size) (hs:c.size=c'.size) (h1:c'.toList.all (·.oneCell')=true)
  (h:wpList P ops Q rest (a.put o.dst undef) (w.setRow g c')):wpList P ops Q (o::rest) a w:=
 wpList_plain hgd λ_ hK=>jF ty x y ho g T c c' hx hy hg hi hs h1 (hK _ _ h)
theorem cu {w:World} (hgd:o.guard=none) (ty:TypeId) (x:Operand) (ho:o.op= .load ty x) (g:Nat) (T:TypeId) (c:Array Value) (d:TypeDesc)
  (hx:a.eval x= .pointer (some ⟨g,0,none⟩)) (hg:w.heap[g]? =some (.cells c T (0,0))) (hu:P.underlying ty=some d) (hd:d.isRow=true) (hi:(P.info? ty).map (·.size)=some c.size)
  (h:wpList P ops Q rest (a.put o.dst (.agg c)) w):wpList P ops Q (o::rest) a w:=
 wpList_load_row hgd ty x ho g hx T c (0,0) d hg hu (by cases d<;>simp_all) hi h
theorem aM {w:World} {g:Nat} {T:TypeId} {c:Array Value} (c':Array Value) (hg:w.heap[g]? =some (.cells c T (0,0))):(w.setRow g c').heap[g]? =some (.cells c' T (0,0)):=by
 simp[World.setRow,cx,hg]
theorem Below.setRow' {B:Nat} {a w:World} (h:Below B a w) {g:Nat} (hg:B<=g) (c:Array Value):Below B a (w.setRow g c):=
 h.trans ⟨rfl,rfl,rfl,by simp[World.setRow],λk hk=>by
  simp only[World.setRow,cx]
  rw[aC (by omega)]⟩
end
end
section
open Go.RowKit Go.Lib Go.Sort
attribute [local go_sem ↓] Go.wp_at_zero Go.wp_at_succ
structure Chkr (w:World) (b:Nat) (g:Gst) (k:Nat):Prop where
 t:w.cell? ⟨b,0,none⟩=some (.int .i64 g.t)
 r:w.cell? ⟨b,1,none⟩=some (.int .i64 g.r)
 k:w.cell? ⟨b,7,none⟩=some (.int .i64 k)
theorem Chkr.lt {w:World} {b:Nat} {g:Gst} {k:Nat} (h:Chkr w b g k):b<w.heap.size:=eK h.t
theorem Chkr.below {w w':World} {b:Nat} {g:Gst} {k:Nat} (h:Chkr w b g k) (hb:Below w.heap.size w w'):Chkr w' b g k:=
 ⟨(hb.cell (p:=⟨b,0,none⟩) h.lt).trans h.t,(hb.cell (p:=⟨b,1,none⟩) h.lt).trans h.r,(hb.cell (p:=⟨b,7,none⟩) h.lt).trans h.k⟩
theorem Chkr.alloc {w:World} {b:Nat} {g:Gst} {k:Nat} (h:Chkr w b g k) (o:Obj):Chkr (w.alloc o) b g k:=h.below ((ag _ _).alloc (aa _) _)
theorem kC (b:Nat) (g:Gst) (k:Nat) (x:Gid) (w:World) (hC:Chkr w b g k):
  Calls Tryz.prog 151 #[.pointer (some ⟨b,0,none⟩),idV x] w λe w'=>e= .returned (.bool (du g x k))∧Below w.heap.size w w':=by
 obtain⟨⟨t,r⟩,i⟩:=x;have c:=hid hC;clear hC;show Calls _ _ #[_,.agg #[t,r,i]] _ _;cases a:Gid.eqb ⟨⟨t,r⟩,i⟩ ⟨⟨0,0⟩,0⟩ with
 |true=>
  have f:=eJ t r i 0 0 0 true a;have d:=hid a;clear a;go_enter Tryz.func151,Tryz.ntmps151;go_wp2;go_ret;refine⟨dk ?_,(ag _ _).alloc (aa _) _⟩;have:Gid.none ⟨⟨t,r⟩,i⟩=true:=d.out;simp[du,this]
 |false=>
  have f:=eJ t r i 0 0 0 false a;have d:=hid a;clear a;go_enter Tryz.func151,Tryz.ntmps151;go_wp2_with fail;refine(it b g k ⟨⟨t,r⟩,i⟩ _ (c.out.alloc _).t (c.out.alloc _).r (c.out.alloc _).k).mono ?_;rintro e j ⟨rfl,h⟩;go_wp2;go_ret;refine⟨dk ?_,((ag _ _).alloc (aa _) _).trans (h.mono (by simp))⟩;have:Gid.none ⟨⟨t,r⟩,i⟩=false:=d.out;simp[du,this]
theorem own_any (b:Nat) (g:Gst) (k:Nat) (w:World) (hC:Chkr w b g k):
  Calls Tryz.prog 150 #[.pointer (some ⟨b,0,none⟩)] w λe w'=>e= .returned (idV ⟨g,k⟩)∧Below w.heap.size w w':=by
 obtain⟨t,r⟩:=g;obtain⟨a,c,d⟩:=hC;simp only at a c;show Calls _ _ _ _ λe w'=>e= .returned (.agg #[t,r,.int .i64 k])∧_;have f:=eK a;go_enter Tryz.func150,Tryz.ntmps150;have h:w.frozen? ⟨b,0,none⟩=w.frozen? ⟨b,0,none⟩:=rfl;go_wp2;go_region_held3 (λw'=>w'.cell? ⟨b,0,none⟩=some (.int .i64 t)∧w'.cell? ⟨b,1,none⟩=some (.int .i64 r)∧w'.cell? ⟨b,7,none⟩=some (.int .i64 k)) (go_keep) (fail)
 all_goals
  go_wp2;refine bB (v:= .agg #[t,r,.int .i64 k]) (by simp[results,Tryz.results150,go_sem]) rfl ⟨rfl,?_⟩;exact((ag _ _).alloc (aa _) _).drew
theorem cdots_any (b:Nat) (g:Gst) (k:Nat) (A:Option Addr) (c:Nat) (l:List Gst) (S:Nat->Prop) (w:World) (hC:Chkr w b g k) (hl:l.length<=9223372036854775807) (hA:StsS w S A l):
  Calls Tryz.prog 154 #[.pointer (some ⟨b,0,none⟩),.slice A l.length c] w λe w'=>e= .returned (.bool (il g l))∧Below w.heap.size w w':=by
 have HC:=hid hC;have HA:=hid hA;obtain⟨n,X⟩:∃n,n=l.length:=⟨_,rfl⟩;obtain⟨t,z⟩:∃r,r=il g l:=⟨_,rfl⟩;rw[<-X] at hl ⊢;rw[<-z];have H:=hid X;have HV:=hid z;clear hC hA X z;go_enter Tryz.func154,Tryz.ntmps154;go_wp2;go_loopw [9] (λi wr=>∃k:Nat,k<=n∧i= .int .i64 k∧Hid (∀i,i<k->dotB g l i=true)∧Below w.heap.size w wr) (λi _=>n-(RowKit.intOf i).toNat)
 case atStart=>exact⟨0,by omega,rfl,λi N=>absurd N (by omega),ag _ _⟩
 case round=>
  obtain⟨j,hj,rfl,HK,f⟩:=hrel;by_cases aa:j<n
  ·obtain⟨ab,ao,rfl,-,V,c0,c1⟩:=StsS.at_ (RowG.agr HA.out (Agr.below f)) (k:=j) (by have:=H.out;omega);obtain⟨x,Y⟩:∃x,x=l.getD j .zero:=⟨_,rfl⟩;rw[<-Y] at c0 c1;have I:=hid Y;clear Y;obtain⟨o,p⟩:=x;obtain⟨C,D⟩:=g;simp only at c0 c1;have J:=HC.out.below f;have kt:=aj (((J).alloc (.cells #[o,p] 42))).t;have kr:=aj (((J).alloc (.cells #[o,p] 42))).r;clear J;simp only at kt kr;have x0:=aj (w:=wr.alloc (.cells #[o,p] 42)) (a:=⟨wr.heap.size,0,none⟩) (v:= .int .i64 o) (by go_simp);have x1:=aj (w:=wr.alloc (.cells #[o,p] 42)) (a:=⟨wr.heap.size,1,none⟩) (v:= .int .i64 p) (by go_simp);have s:=λd K=>ay (jV o p (grow (redrawn (wr.alloc (.cells #[o,p] 42)) d) K));have u:=λd K=>ay (cmp_any o p C D (grow (redrawn (wr.alloc (.cells #[o,p] 42)) d) K));have Z:=cmpS_gt ⟨o,p⟩ ⟨C,D⟩;have W:dotB ⟨C,D⟩ l j=false->t=false:=λh=>by
    rw[HV.out];unfold il;rw[fl (by rw[<-H.out];exact aa) h];rfl
   have B:=hid W;clear W;cases E:Gst.right ⟨o,p⟩ with
   |false=>
    rw[E] at s;obtain rfl:t=false:=B.out (by unfold dotB;rw[<-I.out,E];rfl);clear E u Z;go_wp2;refine rqb ?_
    repeat(any_goals(first|go_big_quiet_step (with_reducible exact s _ _)|quiet_step (with_reducible exact s _ _)))
    refine qz λO q=> ?_;go_wp2;go_ret;exact⟨rfl,(f.alloc f.size _).trans (q.mono (by have:=f.size;simp;omega))⟩
   | true=>
    rw[E] at s;have P:=hid E;clear E;cases F:Gst.lt ⟨C,D⟩ ⟨o,p⟩ with
    |true=>
     rw[F] at Z;obtain rfl:t=false:=B.out (by unfold dotB;rw[<-I.out,F,P.out];rfl);clear F;go_wp2;refine rqb ?_
     repeat(any_goals(first|go_big_quiet_step (with_reducible first|exact s _ _|exact u _ _)|quiet_step (with_reducible first|exact s _ _|exact u _ _)))
     refine qz λO q=> ?_;go_wp2;go_ret;exact⟨rfl,(f.alloc f.size _).trans (q.mono (by have:=f.size;simp;omega))⟩
    | false=>
     rw[F] at Z;have HG:=hid F;clear F;by_cases L:j=0
     ·have b1:decide (0<j)=false:=by rw[aU];omega
      have M:Hid (∀i,i<j+1->dotB ⟨C,D⟩ l i=true):=λi N=>by
       obtain rfl:i=j:=by omega
       unfold dotB;rw[<-I.out,HG.out,P.out];simp[L]
      clear L;go_wp2;refine rqb ?_
      repeat(any_goals(first|go_big_quiet_step (with_reducible first|exact s _ _|exact u _ _)|quiet_step (with_reducible first|exact s _ _|exact u _ _)))
      refine qz λO q=> ?_;go_wp2;go_roundw
      case rel=>exact⟨j+1,by omega,by go_num,M,(f.alloc f.size _).trans (q.mono (by have:=f.size;simp;omega))⟩
      case measure=>simp[RowKit.intOf];omega
     ·obtain⟨m,hm⟩:∃m,m+1=j:=⟨j-1,by omega⟩;obtain⟨ac,ad,e2,-,-,d0,d1⟩:=StsS.at_ (RowG.agr HA.out (Agr.below f)) (k:=m) (by have:=H.out;omega);injection e2 with e2;injection e2 with e3 e4;subst e3 e4;obtain⟨y,hy⟩:∃y,y=l.getD m .zero:=⟨_,rfl⟩;rw[<-hy] at d0 d1;have HY:=hid hy;clear hy;obtain⟨Q,R⟩:=y;simp only at d0 d1;have y0:=aj (w:=(wr.alloc (.cells #[o,p] 42))) (a:=⟨ab,ao+m*2,none⟩) (v:= .int .i64 Q) (by rw[ej _ _ _ V];exact d0);have y1:=aj (w:=(wr.alloc (.cells #[o,p] 42))) (a:=⟨ab,ao+m*2+1,none⟩) (v:= .int .i64 R) (by rw[ej _ _ _ V];exact d1);have T:=λd K=>ay (cmp_any Q R o p (grow (redrawn (wr.alloc (.cells #[o,p] 42)) d) K));have hd:=cmpS_ge ⟨Q,R⟩ ⟨o,p⟩;have b1:decide (0<j)=true:=by rw[ak];omega
      have b2:(j:Int)-1=(m:Int):=by omega
      have b3:(0:Int)<=(m:Int):=by omega
      have b4:(m:Int)<(n:Int):=by omega
      have b5:IntKind.i64.wrap ((j:Int)-1)=(m:Int):=by rw[b2];exact ds _ (by omega)
      have b6:m=j-1:=by omega
      have HM:=hid b6;clear b6 hm L;cases G:Gst.lt ⟨Q,R⟩ ⟨o,p⟩ with
      | false=>
       rw[G] at hd
       obtain rfl:t=false:=B.out (by
        unfold dotB;rw[<-I.out,HG.out,P.out,<-HM.out,<-HY.out,G]
        simp;have:=HM.out;omega)
       clear G;go_wp2;refine rqb ?_
       repeat(any_goals(first|go_big_quiet_step (with_reducible first|exact s _ _|exact u _ _|exact T _ _)|quiet_step (with_reducible first|exact s _ _|exact u _ _|exact T _ _)))
       refine qz λO q=> ?_;go_wp2;go_ret;exact⟨rfl,(f.alloc f.size _).trans (q.mono (by have:=f.size;simp;omega))⟩
      | true=>
       rw[G] at hd;have M:Hid (∀i,i<j+1->dotB ⟨C,D⟩ l i=true):=λi N=>by
        rcases cj i j with h|h
        ·exact HK.out i h
        ·obtain rfl:i=j:=by omega
         unfold dotB;rw[<-I.out,HG.out,P.out,<-HM.out,<-HY.out,G];simp
       clear G;go_wp2;refine rqb ?_
       repeat(any_goals(first|go_big_quiet_step (with_reducible first|exact s _ _|exact u _ _|exact T _ _)|quiet_step (with_reducible first|exact s _ _|exact u _ _|exact T _ _)))
       refine qz λO q=> ?_;clear b5;go_wp2;go_roundw
       case rel=>exact⟨j+1,by omega,by go_num,M,(f.alloc f.size _).trans (q.mono (by have:=f.size;simp;omega))⟩
       case measure=>simp[RowKit.intOf];omega
  ·obtain rfl:j=n:=by omega
   have U:t=decide (j<=200):=by
    rw[HV.out];unfold il;rw[ed (λi N=>HK.out i (by have:=H.out;omega)),<-H.out];rfl
   by_cases h2:j<=200
   ·obtain rfl:t=true:=by rw[U];exact aN h2
    have t1:(j:Int)<=200:=by omega
    clear U;go_wp2;go_ret;exact⟨rfl,f⟩
   ·obtain rfl:t=false:=by rw[U];exact aE h2
    have t1:¬(j:Int)<=200:=by omega
    clear U;go_wp2;go_ret;exact⟨rfl,f⟩
end
section
open Go.RowKit Go.Lib Go.Sort
attribute [local go_sem ↓] Go.wp_at_zero Go.wp_at_succ
def cmpD (a b:Gid):Int:=orI (cmpS a.s b.s) (cmpI a.i b.i)
theorem cmpS_zero (a b:Gst):cmpS a b=0↔a.eqb b=true:=by
 simp only[cmpS,orI,cmpI,Gst.eqb,ap,ak]
 repeat' split
 all_goals omega
theorem cmpI_lt (a b:Int):cmpI a b<0↔a<b:=by
 unfold cmpI
 repeat' split
 all_goals omega
theorem cmpD_lt (a b:Gid):decide (cmpD a b<0)=a.lt b:=by
 rw[bw,ak];have e:=cmpI_lt a.i b.i;have c:cmpS a.s b.s<0↔a.s.lt b.s=true:=by rw[<-cmpS_lt];simp
 have d:=cmpS_zero a.s b.s;unfold cmpD orI;simp only[Gid.lt,ch,ap,ak,<-c,<-d];split<;>omega
theorem cmpD_ge (a b:Gid):decide (0<=cmpD a b)= !a.lt b:=by
 rw[<-cmpD_lt,bw];simp
theorem or_blk (b:Nat) (x y:Int) (T:TypeId) (W:World) (hb:W.heap[b]? =some (.cells #[x,y] T (0,0))):
  Calls Tryz.prog 147 #[.slice (some ⟨b,0,none⟩) 2 2] W λe w'=>e= .returned (.int .i64 (orI x y))∧w'=W:=
 or_any _ _ _ _ (by rw[crw hb];rfl) (by rw[crw hb];rfl)
theorem cmpid_any (t r i t' r' i':Int) (w:World):
  Calls Tryz.prog 190 #[.agg #[t,r,i],.agg #[t',r',i']] w λe w'=>e= .returned (.int .i64 (cmpD ⟨⟨t,r⟩,i⟩ ⟨⟨t',r'⟩,i'⟩))∧Below w.heap.size w w':=by
 go_enter Tryz.func190,Tryz.ntmps190;go_wp2;generalize hW:(w.alloc (.cells #[t,r,i] 108)).alloc (.cells #[t',r',i'] 108)=W;have c:w.heap.size+2=W.heap.size:=by subst hW;simp
 have f:W.cell? ⟨w.heap.size,0,none⟩=some (.int .i64 t):=by subst hW;go_simp
 have h:W.cell? ⟨w.heap.size,1,none⟩=some (.int .i64 r):=by subst hW;go_simp
 have j:W.cell? ⟨w.heap.size,2,none⟩=some (.int .i64 i):=by subst hW;go_simp
 have g:W.cell? ⟨w.heap.size+1,0,none⟩=some (.int .i64 t'):=by subst hW;go_simp
 have k:W.cell? ⟨w.heap.size+1,1,none⟩=some (.int .i64 r'):=by subst hW;go_simp
 have l:W.cell? ⟨w.heap.size+1,2,none⟩=some (.int .i64 i'):=by subst hW;go_simp
 have d:Below w.heap.size w W:=by subst hW;exact((ag _ _).alloc (aa _) _).alloc (by simp) _
 have m:=hid c;have n:=eK f;have o:=eK g;clear hW c
 go_region_held3 (λw'=>w'.cell? ⟨w.heap.size,0,none⟩=some (.int .i64 t)∧w'.cell? ⟨w.heap.size,1,none⟩=some (.int .i64 r)∧w'.cell? ⟨w.heap.size,2,none⟩=some (.int .i64 i)∧w'.cell? ⟨w.heap.size+1,0,none⟩=some (.int .i64 t')∧w'.cell? ⟨w.heap.size+1,1,none⟩=some (.int .i64 r')∧w'.cell? ⟨w.heap.size+1,2,none⟩=some (.int .i64 i')) (first|go_keep|(refine⟨?_,?_,?_,?_,?_,?_⟩<;>(rw[a.cell (by simpa using(by assumption))];assumption))) (first
  |(go_at_call 93;refine(cmp_any _ _ _ _ _).mono ?_;rintro e b ⟨rfl,a⟩)
  |(go_at_call 148;refine(compare_any _ _ _).mono ?_;rintro e b ⟨rfl,rfl⟩)
  |(go_at_call 147;refine(or_blk _ _ _ _ _ (by exact am _ _)).mono ?_;rintro e b ⟨rfl,rfl⟩))
 all_goals
  go_wp2;go_ret;have p:W.heap.size<=b.heap.size:=a.size;exact⟨rfl,(d.drew.trans (a.mono (show w.heap.size<=W.heap.size by omega))).alloc (by omega) _⟩
theorem celems_any (b:Nat) (g:Gst) (k:Nat) (A:Option Addr) (c:Nat) (l:List Gid) (S:Nat->Prop) (w:World) (hC:Chkr w b g k) (hl:l.length<=9223372036854775807) (hA:IdsS w S A l):
  Calls Tryz.prog 156 #[.pointer (some ⟨b,0,none⟩),.slice A l.length c] w λe w'=>e= .returned (.bool (fQ g l k))∧Below w.heap.size w w':=by
 have HC:=hid hC;have HA:=hid hA;obtain⟨n,U⟩:∃n,n=l.length:=⟨_,rfl⟩;obtain⟨t,B⟩:∃r,r=fQ g l k:=⟨_,rfl⟩;rw[<-U] at hl ⊢;rw[<-B];have H:=hid U;have HV:=hid B;clear hC hA U B;go_enter Tryz.func156,Tryz.ntmps156;go_wp2;go_loopw [9] (λi wr=>∃j:Nat,j<=n∧i= .int .i64 j∧Hid (∀i,i<j->ib g l k i=true)∧Below w.heap.size w wr) (λi _=>n-(RowKit.intOf i).toNat)
 case atStart=>exact⟨0,by omega,rfl,λi M=>absurd M (by omega),ag _ _⟩
 case round=>
  obtain⟨j,hj,rfl,HK,f⟩:=hrel;by_cases aa:j<n
  ·obtain⟨V,W,rfl,-,I,c0,c1,c2⟩:=IdsS.at_ (RowG.agr HA.out (Agr.below f)) (k:=j) (by have:=H.out;omega);obtain⟨x,X⟩:∃x,x=l.getD j .zero:=⟨_,rfl⟩;rw[<-X] at c0 c1 c2;have N:=hid X;clear X;obtain⟨⟨o,q⟩,s⟩:=x;simp only at c0 c1 c2;have x0:=aj (w:=(wr.alloc (.cells #[o,q,s] 108))) (a:=⟨wr.heap.size,0,none⟩) (v:= .int .i64 o) (by go_simp);have x1:=aj (w:=(wr.alloc (.cells #[o,q,s] 108))) (a:=⟨wr.heap.size,1,none⟩) (v:= .int .i64 q) (by go_simp);have x2:=aj (w:=(wr.alloc (.cells #[o,q,s] 108))) (a:=⟨wr.heap.size,2,none⟩) (v:= .int .i64 s) (by go_simp);have D:=HC.out.below f;have z:∀d C,Calls Tryz.prog 153 #[.pointer (some ⟨b,0,none⟩),.agg #[o,q,s]] (grow (redrawn (wr.alloc (.cells #[o,q,s] 108)) d) C) λe ac=>e= .returned (.bool (cL g ⟨⟨o,q⟩,s⟩ k))∧∃p:Regrown,ac=grow (redrawn (wr.alloc (.cells #[o,q,s] 108)) p.d) p.os:=λd C=>
    ay (it b g k ⟨⟨o,q⟩,s⟩ _ (aj (D.alloc _).t d C) (aj (D.alloc _).r d C) (aj (D.alloc _).k d C))
   clear D;have T:ib g l k j=false->t=false:=λh=>by
    rw[HV.out];unfold fQ;rw[fl (by rw[<-H.out];exact aa) h];rfl
   have J:=hid T;clear T;cases E:cL g ⟨⟨o,q⟩,s⟩ k with
   |false=>
    rw[E] at z;obtain rfl:t=false:=J.out (by unfold ib;rw[<-N.out,E];rfl);clear E;go_wp2;refine rqb ?_
    repeat(any_goals(first|go_big_quiet_step (with_reducible exact z _ _)|quiet_step (with_reducible exact z _ _)))
    refine qz λY u=> ?_;go_wp2;go_ret;exact⟨rfl,(f.alloc f.size _).trans (u.mono (by have:=f.size;simp;omega))⟩
   | true=>
    rw[E] at z;have Z:=hid E;clear E;by_cases K:j=0
    ·have b1:decide (0<j)=false:=by rw[aU];omega
     have L:Hid (∀i,i<j+1->ib g l k i=true):=λi M=>by
      obtain rfl:i=j:=by omega
      unfold ib;rw[<-N.out,Z.out];simp[K]
     clear K;go_wp2;refine rqb ?_
     repeat(any_goals(first|go_big_quiet_step (with_reducible exact z _ _)|quiet_step (with_reducible exact z _ _)))
     refine qz λY u=> ?_;go_wp2;go_roundw
     case rel=>exact⟨j+1,by omega,by go_num,L,(f.alloc f.size _).trans (u.mono (by have:=f.size;simp;omega))⟩
     case measure=>simp[RowKit.intOf];omega
    ·obtain⟨m,hm⟩:∃m,m+1=j:=⟨j-1,by omega⟩;obtain⟨ad,ae,e2,-,-,d0,d1,d2⟩:=IdsS.at_ (RowG.agr HA.out (Agr.below f)) (k:=m) (by have:=H.out;omega);injection e2 with e2;injection e2 with e3 e4;subst e3 e4;obtain⟨y,hy⟩:∃y,y=l.getD m .zero:=⟨_,rfl⟩;rw[<-hy] at d0 d1 d2;have HY:=hid hy;clear hy;obtain⟨⟨O,P⟩,Q⟩:=y;simp only at d0 d1 d2;have y0:=aj (w:=(wr.alloc (.cells #[o,q,s] 108))) (a:=⟨V,W+m*3,none⟩) (v:= .int .i64 O) (by rw[ej _ _ _ I];exact d0);have y1:=aj (w:=(wr.alloc (.cells #[o,q,s] 108))) (a:=⟨V,W+m*3+1,none⟩) (v:= .int .i64 P) (by rw[ej _ _ _ I];exact d1);have y2:=aj (w:=(wr.alloc (.cells #[o,q,s] 108))) (a:=⟨V,W+m*3+2,none⟩) (v:= .int .i64 Q) (by rw[ej _ _ _ I];exact d2);have R:=λd C=>ay (cmpid_any O P Q o q s (grow (redrawn (wr.alloc (.cells #[o,q,s] 108)) d) C));have hd:=cmpD_ge ⟨⟨O,P⟩,Q⟩ ⟨⟨o,q⟩,s⟩;have b1:decide (0<j)=true:=by rw[ak];omega
     have b2:(j:Int)-1=(m:Int):=by omega
     have b3:(0:Int)<=(m:Int):=by omega
     have b4:(m:Int)<(n:Int):=by omega
     have b5:IntKind.i64.wrap ((j:Int)-1)=(m:Int):=by rw[b2];exact ds _ (by omega)
     have b6:m=j-1:=by omega
     have HM:=hid b6;clear b6 hm K;cases F:Gid.lt ⟨⟨O,P⟩,Q⟩ ⟨⟨o,q⟩,s⟩ with
     | false=>
      rw[F] at hd
      obtain rfl:t=false:=J.out (by
       unfold ib;rw[<-N.out,Z.out,<-HM.out,<-HY.out,F];have:¬j=0:=λe=>by rw[e] at b1;simp at b1
       simp[this])
      clear F;go_wp2;refine rqb ?_
      repeat(any_goals(first|go_big_quiet_step (with_reducible first|exact z _ _|exact R _ _)|quiet_step (with_reducible first|exact z _ _|exact R _ _)))
      refine qz λY u=> ?_;go_wp2;go_ret;exact⟨rfl,(f.alloc f.size _).trans (u.mono (by have:=f.size;simp;omega))⟩
     | true=>
      rw[F] at hd;have L:Hid (∀i,i<j+1->ib g l k i=true):=λi M=>by
       rcases cj i j with h|h
       ·exact HK.out i h
       ·obtain rfl:i=j:=by omega
        unfold ib;rw[<-N.out,Z.out,<-HM.out,<-HY.out,F];simp
      clear F;go_wp2;refine rqb ?_
      repeat(any_goals(first|go_big_quiet_step (with_reducible first|exact z _ _|exact R _ _)|quiet_step (with_reducible first|exact z _ _|exact R _ _)))
      refine qz λY u=> ?_;clear b5;go_wp2;go_roundw
      case rel=>exact⟨j+1,by omega,by go_num,L,(f.alloc f.size _).trans (u.mono (by have:=f.size;simp;omega))⟩
      case measure=>simp[RowKit.intOf];omega
  ·obtain rfl:j=n:=by omega
   have G:t=(decide (1<=j) && decide (j<=2000)):=by
    rw[HV.out];unfold fQ;rw[ed (λi M=>HK.out i (by have:=H.out;omega)),<-H.out];rfl
   by_cases h1:1<=j
   ·have t0:(1:Int)<=(j:Int):=by omega
    by_cases h2:j<=2000
    ·obtain rfl:t=true:=by rw[G];simp[h1,h2]
     have t1:(j:Int)<=2000:=by omega
     clear G;go_wp2;go_ret;exact⟨rfl,f⟩
    ·obtain rfl:t=false:=by rw[G];simp;omega
     have t1:¬(j:Int)<=2000:=by omega
     clear G;go_wp2;go_ret;exact⟨rfl,f⟩
   ·obtain rfl:t=false:=by rw[G];simp;omega
    have t1:¬(1:Int)<=(j:Int):=by omega
    clear G;go_wp2;go_ret;exact⟨rfl,f⟩
end
section
open Go.RowKit Go.Lib Go.Sort
theorem Calls.regrown_same {P:Program} {f:FuncId} {args:Array Value} {w:World} {d:Nat} {os:Array Obj} {v:Value}
  (h:Calls P f args (grow (redrawn w d) os) λe w'=>e= .returned v∧w'=grow (redrawn w d) os):Calls P f args (grow (redrawn w d) os) λe w''=>e= .returned v∧∃p:Regrown,w''=grow (redrawn w p.d) p.os:=
 h.mono λ_ _ ⟨he,hb⟩=>⟨he,⟨d,os⟩,hb⟩
theorem VecR.regrown {w:World} {A:Option Addr} {v:List Int} (h:VecR w A v) (d:Nat) (os:Array Obj):VecR (grow (redrawn w d) os) A v:=h.below (bE w d os)
theorem head_any (g:Grp) (dA:Option Addr) (dc:Nat) (oA:Option Addr) (oc:Nat) (w:World) (hl:g.deps.length<=dc) (hc:dc<=9223372036854775807) (hn:i63 g.n) (hD:VecR w dA g.deps):
  Calls Tryz.prog 91 #[.agg (grA g dA dc oA oc)] w λe w'=>e= .returned (.bool (gC g))∧Below w.heap.size w w':=by
 obtain⟨⟨t,r⟩,n,v,⟨A,B⟩,s⟩:=g;obtain⟨h,D⟩:∃a,a=gC ⟨⟨t,r⟩,n,v,⟨A,B⟩,s⟩:=⟨_,rfl⟩;rw[<-D];have u:=hid D;clear D;unfold i63 at hn;simp only at hl hn hD;show Calls _ _ #[.agg #[t,r,n,.slice dA v.length dc,A,B,.slice oA s.length oc]] _ _;generalize s.length=on;obtain⟨W,j⟩:∃W,W=w.alloc (.cells #[t,r,n,.slice dA v.length dc,A,B,.slice oA on oc] 45):=⟨_,rfl⟩;have b:Below w.heap.size w W:=by subst j;exact(ag _ _).alloc (aa _) _
 have x:=hD.below b;have y:W.heap[w.heap.size]? =some (.cells #[t,r,n,.slice dA v.length dc,A,B,.slice oA on oc] 45 (0,0)):=by subst j;exact am _ _
 have L:=rg0 y;have M:=rg1 y;have N:=rg2 y;have O:=rg3 y;have f:=λd l=>ay (jV t r (grow (redrawn W d) l));have i:=λd l=>Calls.regrown_same (vector_any dA dc v (grow (redrawn W d) l) hl (by omega) (x.regrown d l));have k:=λd l=>Calls.regrown_same (at_any dA dc v r (grow (redrawn W d) l) (by omega) (x.regrown d l));have K:v.length<=9223372036854775807:=by omega
 have m:=hid j;clear y hD x;cases o:Gst.right ⟨t,r⟩ with
 |false=>
  rw[o] at f;obtain rfl:h=false:=by rw[u.out];simp[gC,o]
  clear o i k j;go_enter Tryz.func91,Tryz.ntmps91;go_wp2;rw[<-m.out];refine rqb ?_
  repeat(any_goals(first|go_big_quiet_step (with_reducible exact f _ _)|quiet_step (with_reducible exact f _ _)))
  refine qz λz c=> ?_;go_wp2;go_ret;exact⟨rfl,b.trans (c.mono b.size)⟩
 |true=>
 rw[o] at f;have I:=hid o;clear o;by_cases E:1<=n
 ·by_cases F:n<=1099511627776
  ·have G:IntKind.i64.wrap (n-1)=n-1:=ds _ (by omega);cases p:vecB v with
   |false=>
    rw[p] at i;obtain rfl:h=false:=by rw[u.out];simp[gC,p]
    clear p k j G;go_enter Tryz.func91,Tryz.ntmps91;go_wp2;rw[<-m.out];refine rqb ?_
    repeat(any_goals(first|go_big_quiet_step (with_reducible first|exact f _ _|exact i _ _)|quiet_step (with_reducible first|exact f _ _|exact i _ _)))
    refine qz λz c=> ?_;go_wp2;go_ret;exact⟨rfl,b.trans (c.mono b.size)⟩
   | true=>
    rw[p] at i;have H:=hid p;have C:h=decide (atV v r=n-1):=by rw[u.out];simp[gC,I.out,H.out,E,F]
    generalize atV v r=a at *;clear p j;by_cases q:a=n-1
    ·obtain rfl:h=true:=by rw[C];exact aN q
     have J:(a == n-1)=true:=by rw[ce];exact q
     clear C q;go_enter Tryz.func91,Tryz.ntmps91;go_wp2;rw[<-m.out];refine rqb ?_
     repeat(any_goals(first|go_big_quiet_step (with_reducible first|exact f _ _|exact i _ _|exact k _ _)|quiet_step (with_reducible first|exact f _ _|exact i _ _|exact k _ _)))
     refine qz λz c=> ?_;clear G;go_wp2;go_ret;exact⟨rfl,b.trans (c.mono b.size)⟩
    ·obtain rfl:h=false:=by rw[C];exact aE q
     have J:(a == n-1)=false:=by rw[aV];exact q
     clear C q;go_enter Tryz.func91,Tryz.ntmps91;go_wp2;rw[<-m.out];refine rqb ?_
     repeat(any_goals(first|go_big_quiet_step (with_reducible first|exact f _ _|exact i _ _|exact k _ _)|quiet_step (with_reducible first|exact f _ _|exact i _ _|exact k _ _)))
     refine qz λz c=> ?_;clear G;go_wp2;go_ret;exact⟨rfl,b.trans (c.mono b.size)⟩
  ·obtain rfl:h=false:=by rw[u.out];simp[gC,F]
   have P:decide (n<=1099511627776)=false:=aE F;clear i k j;go_enter Tryz.func91,Tryz.ntmps91;go_wp2;rw[<-m.out];refine rqb ?_
   repeat(any_goals(first|go_big_quiet_step (with_reducible exact f _ _)|quiet_step (with_reducible exact f _ _)))
   refine qz λz c=> ?_;go_wp2;go_ret;exact⟨rfl,b.trans (c.mono b.size)⟩
 ·obtain rfl:h=false:=by rw[u.out];simp[gC,E]
  have Q:decide (1<=n)=false:=aE E;clear i k j;go_enter Tryz.func91,Tryz.ntmps91;go_wp2;rw[<-m.out];refine rqb ?_
  repeat(any_goals(first|go_big_quiet_step (with_reducible exact f _ _)|quiet_step (with_reducible exact f _ _)))
  refine qz λz c=> ?_;go_wp2;go_ret;exact⟨rfl,b.trans (c.mono b.size)⟩
end
end
end Go.Proofs.YtkhmicndehlneaaGreatDoor
