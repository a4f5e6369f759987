/- Part 3 of the walks and plain laws that this claim uses, joined. Conditions: as each theorem states. -/
import Derived.BigQuiet
import Derived.Deep.DeepCutAuto
import Derived.Deep.DrawnRows
import Derived.Deep.MidRow
import Derived.Deep.QuietTactic
import Derived.Deep.RegionHeld3
import Derived.Deep.WholeRow
import Derived.KernelRfl
import Derived.Lib.QuietBelow
import Derived.Test.YtkhmicndehlneaaGreatDoorYra
namespace Go.Proofs.YtkhmicndehlneaaGreatDoor
set_option maxRecDepth 100000
set_option maxHeartbeats 16000000
set_option linter.unusedVariables false
section
open Go.RowKit Go.Lib Go.Sort
section
variable {w : World} {g i : Nat} {T : TypeId} {fr : Nat × Nat} {c : Array Value} {v : Value}
theorem rgx (h:w.heap[g]? =some (.cells c T fr)) (e:c[i]? =some v) (d:Nat) (os:Array Obj):(grow (redrawn w d) os).cell? ⟨g,i,none⟩=some v:=aj (by rw[crw h];exact e) d os
theorem qz {P:Program} {ops:Array Oper} {Q:Act->World->Prop} {a:Act} (h:∀wq,Below w.heap.size w wq->Q a wq):wpQuiet P ops (λw'=>∃p:Regrown,w'=grow (redrawn w p.d) p.os) (λa'=>∀w',(∃p:Regrown,w'=grow (redrawn w p.d) p.os)->Q a' w') [] a:=by
 refine wpQuiet_nil ?_;rintro w' ⟨p,rfl⟩;exact h _ (bL w p.d p.os)
theorem rqb {P:Program} {id:Nat} {Q:Exit->Act->World->Prop} {a:Act} {l:List Oper}
  (h:wpQuiet P l.toArray (λw'=>∃p:Regrown,w'=grow (redrawn w p.d) p.os) (λa'=>∀w',(∃p:Regrown,w'=grow (redrawn w p.d) p.os)->Q .normal a' w') l a)
  (hm:P.follows .mixedOrders=true:=by kernel_rfl) (hB:Region.lexB .any l.toArray=true:=by kernel_rfl):(Code.region id l.toArray true).wp P Q a w:=wp_region_quiet_below hm hB h
variable {a0 a1 a2 a3 a4 a5 a6 a7 a8 a9 a10 a11 a12 a13 a14 a15 a16 a17:Value} {l:List Value}
theorem rg0 (h:w.heap[g]? =some (.cells (List.toArray (a0::l)) T fr)):∀(d:Nat) (os:Array Obj),(grow (redrawn w d) os).cell? ⟨g,0,none⟩=some a0:=rgx h rfl
theorem rg1 (h:w.heap[g]? =some (.cells (List.toArray (a0::a1::l)) T fr)):∀(d:Nat) (os:Array Obj),(grow (redrawn w d) os).cell? ⟨g,1,none⟩=some a1:=rgx h rfl
theorem rg2 (h:w.heap[g]? =some (.cells (List.toArray (a0::a1::a2::l)) T fr)):∀(d:Nat) (os:Array Obj),(grow (redrawn w d) os).cell? ⟨g,2,none⟩=some a2:=rgx h rfl
theorem rg3 (h:w.heap[g]? =some (.cells (List.toArray (a0::a1::a2::a3::l)) T fr)):∀(d:Nat) (os:Array Obj),(grow (redrawn w d) os).cell? ⟨g,3,none⟩=some a3:=rgx h rfl
theorem rg4 (h:w.heap[g]? =some (.cells (List.toArray (a0::a1::a2::a3::a4::l)) T fr)):∀(d:Nat) (os:Array Obj),(grow (redrawn w d) os).cell? ⟨g,4,none⟩=some a4:=rgx h rfl
theorem rg5 (h:w.heap[g]? =some (.cells (List.toArray (a0::a1::a2::a3::a4::a5::l)) T fr)):∀(d:Nat) (os:Array Obj),(grow (redrawn w d) os).cell? ⟨g,5,none⟩=some a5:=rgx h rfl
theorem rg6 (h:w.heap[g]? =some (.cells (List.toArray (a0::a1::a2::a3::a4::a5::a6::l)) T fr)):∀(d:Nat) (os:Array Obj),(grow (redrawn w d) os).cell? ⟨g,6,none⟩=some a6:=rgx h rfl
theorem rg7 (h:w.heap[g]? =some (.cells (List.toArray (a0::a1::a2::a3::a4::a5::a6::a7::l)) T fr)):∀(d:Nat) (os:Array Obj),(grow (redrawn w d) os).cell? ⟨g,7,none⟩=some a7:=rgx h rfl
theorem rg8 (h:w.heap[g]? =some (.cells (List.toArray (a0::a1::a2::a3::a4::a5::a6::a7::a8::l)) T fr)):∀(d:Nat) (os:Array Obj),(grow (redrawn w d) os).cell? ⟨g,8,none⟩=some a8:=rgx h rfl
theorem rg9 (h:w.heap[g]? =some (.cells (List.toArray (a0::a1::a2::a3::a4::a5::a6::a7::a8::a9::l)) T fr)):∀(d:Nat) (os:Array Obj),(grow (redrawn w d) os).cell? ⟨g,9,none⟩=some a9:=rgx h rfl
theorem rg10 (h:w.heap[g]? =some (.cells (List.toArray (a0::a1::a2::a3::a4::a5::a6::a7::a8::a9::a10::l)) T fr)):∀(d:Nat) (os:Array Obj),(grow (redrawn w d) os).cell? ⟨g,10,none⟩=some a10:=rgx h rfl
theorem rg11 (h:w.heap[g]? =some (.cells (List.toArray (a0::a1::a2::a3::a4::a5::a6::a7::a8::a9::a10::a11::l)) T fr)):∀(d:Nat) (os:Array Obj),(grow (redrawn w d) os).cell? ⟨g,11,none⟩=some a11:=rgx h rfl
theorem rg12 (h:w.heap[g]? =some (.cells (List.toArray (a0::a1::a2::a3::a4::a5::a6::a7::a8::a9::a10::a11::a12::l)) T fr)):∀(d:Nat) (os:Array Obj),(grow (redrawn w d) os).cell? ⟨g,12,none⟩=some a12:=rgx h rfl
theorem rg13 (h:w.heap[g]? =some (.cells (List.toArray (a0::a1::a2::a3::a4::a5::a6::a7::a8::a9::a10::a11::a12::a13::l)) T fr)):∀(d:Nat) (os:Array Obj),(grow (redrawn w d) os).cell? ⟨g,13,none⟩=some a13:=rgx h rfl
theorem rg14 (h:w.heap[g]? =some (.cells (List.toArray (a0::a1::a2::a3::a4::a5::a6::a7::a8::a9::a10::a11::a12::a13::a14::l)) T fr)):∀(d:Nat) (os:Array Obj),(grow (redrawn w d) os).cell? ⟨g,14,none⟩=some a14:=rgx h rfl
theorem rg15 (h:w.heap[g]? =some (.cells (List.toArray (a0::a1::a2::a3::a4::a5::a6::a7::a8::a9::a10::a11::a12::a13::a14::a15::l)) T fr)):∀(d:Nat) (os:Array Obj),(grow (redrawn w d) os).cell? ⟨g,15,none⟩=some a15:=rgx h rfl
theorem rg16 (h:w.heap[g]? =some (.cells (List.toArray (a0::a1::a2::a3::a4::a5::a6::a7::a8::a9::a10::a11::a12::a13::a14::a15::a16::l)) T fr)):∀(d:Nat) (os:Array Obj),(grow (redrawn w d) os).cell? ⟨g,16,none⟩=some a16:=rgx h rfl
theorem rg17 (h:w.heap[g]? =some (.cells (List.toArray (a0::a1::a2::a3::a4::a5::a6::a7::a8::a9::a10::a11::a12::a13::a14::a15::a16::a17::l)) T fr)):∀(d:Nat) (os:Array Obj),(grow (redrawn w d) os).cell? ⟨g,17,none⟩=some a17:=rgx h rfl
end
end
section
section
open Go.RowKit Go.Lib Go.Sort
attribute [local go_sem ↓] Go.wp_at_zero Go.wp_at_succ
def orI (x y:Int):Int:=if x=0 then y else x
def cmpI (x y:Int):Int:=if x<y then -1 else if y<x then 1 else 0
def cmpS (a b:Gst):Int:=orI (cmpI a.t b.t) (cmpI a.r b.r)
theorem cmpS_lt (a b:Gst):decide (cmpS a b<0)=a.lt b:=by
 rw[bE,au];simp only[cmpS,orI,cmpI,Gst.lt,dk,ay,au]
 repeat' split
 all_goals omega
theorem cmpS_gt (a b:Gst):decide (0<cmpS a b)=b.lt a:=by
 rw[bE,au];simp only[cmpS,orI,cmpI,Gst.lt,dk,ay,au]
 repeat' split
 all_goals omega
theorem cmpS_ge (a b:Gst):decide (0<=cmpS a b)= !a.lt b:=by
 rw[<-cmpS_lt,bE];simp
theorem jE {B:Nat} {a w:World} (h:Below B a w) (n:Nat):Below B a (w.drewN n):=⟨h.os,h.tape,h.output,h.size,h.block⟩
theorem dI {a b:Bool} (h:a=b):Ending.returned (Value.bool a)= .returned (.bool b):=by rw[h]
def stV (s:Gst):Value:= .agg #[.int .i64 s.t,.int .i64 s.r]
def idV (x:Gid):Value:= .agg #[.int .i64 x.s.t,.int .i64 x.s.r,.int .i64 x.i]
theorem jZ (t r:Int) (w:World):
  Calls Tryz.prog 92 #[.agg #[t,r]] w λe w'=>e= .returned (.bool (Gst.right ⟨t,r⟩))∧Below w.heap.size w w':=by
 obtain⟨v,a⟩:∃v,v=Gst.right ⟨t,r⟩:=⟨_,rfl⟩;have b:=hid a;rw[<-a];clear a;go_enter Tryz.func92,Tryz.ntmps92;go_wp2
 all_goals
  go_ret;refine⟨dI ?_,(ag _ _).alloc (aa _) _⟩;rw[b.o];simp[Gst.right]
  try omega
theorem compare_any (x y:Int) (w:World):
  Calls Tryz.prog 148 #[x,y] w λe w'=>e= .returned (.int .i64 (cmpI x y))∧w'=w:=by
 obtain⟨v,a⟩:∃v,v=cmpI x y:=⟨_,rfl⟩;have b:=hid a;rw[<-a];clear a;go_enter Tryz.func148,Tryz.ntmps148;go_wp2
 all_goals
  go_ret;refine⟨ret_int ?_,rfl⟩;rw[b.o];unfold cmpI
  first|rw[aN (by omega)]|rw[aE (by omega),aN (by omega)]|rw[aE (by omega),aE (by omega)]
theorem or_any (b:Nat) (x y:Int) (w:World) (h:w.cell? ⟨b,0,none⟩=some (.int .i64 x)) (j:w.cell? ⟨b,1,none⟩=some (.int .i64 y)):
  Calls Tryz.prog 147 #[.slice (some ⟨b,0,none⟩) 2 2] w λe w'=>e= .returned (.int .i64 (orI x y))∧w'=w:=by
 go_enter Tryz.func147,Tryz.ntmps147;by_cases c:x=0
 ·subst c;have a:orI 0 y=y:=by unfold orI;rw[aN rfl]
  rw[a];clear a;by_cases d:y=0
  ·subst d;go_wp2;go_loop [8] (λi=>∃k:Nat,k<=2∧i= .int .i64 k) (λi=>2-(RowKit.intOf i).toNat)
   case atStart=>exact⟨0,by omega,rfl⟩
   case round=>
    obtain⟨k,f,rfl⟩:=hrel;obtain rfl|rfl|rfl:k=0∨k=1∨k=2:=by omega
    ·go_wp2;go_round
     case rel=>exact⟨1,by omega,rfl⟩
     case measure=>simp[RowKit.intOf]
    ·go_wp2;go_round
     case rel=>exact⟨2,by omega,rfl⟩
     case measure=>simp[RowKit.intOf]
    ·go_wp2;go_ret;exact⟨rfl,rfl⟩
  ·have g:(y != 0)=true:=by rw[cM];exact d
   go_wp2;go_loop [8] (λi=>∃k:Nat,k<=1∧i= .int .i64 k) (λi=>2-(RowKit.intOf i).toNat)
   case atStart=>exact⟨0,by omega,rfl⟩
   case round=>
    obtain⟨k,f,rfl⟩:=hrel;obtain rfl|rfl:k=0∨k=1:=by omega
    ·go_wp2;go_round
     case rel=>exact⟨1,by omega,rfl⟩
     case measure=>simp[RowKit.intOf]
    ·go_wp2;go_ret;exact⟨rfl,rfl⟩
 ·have g:(x != 0)=true:=by rw[cM];exact c
  have a:orI x y=x:=by unfold orI;rw[aE c]
  rw[a];clear a;go_wp2;go_loop [8] (λi=>i= .int .i64 0) (λi=>2-(RowKit.intOf i).toNat)
  case atStart=>rfl
  case round=>
   obtain rfl:=hrel;go_wp2;go_ret;exact⟨rfl,rfl⟩
theorem or_new (x y:Int) (w:World) (n:Nat) (T:TypeId) (b:w.heap.size=n):
  Calls Tryz.prog 147 #[.slice (some ⟨n,0,none⟩) 2 2] (w.alloc (.cells #[x,y] T)).drew λe w'=>e= .returned (.int .i64 (orI x y))∧w'=(w.alloc (.cells #[x,y] T)).drew:=by
 subst b;have a:(w.alloc (.cells #[x,y] T)).drew.heap[w.heap.size]? =some (.cells #[x,y] T (0,0)):=an w _;exact or_any _ _ _ _ (by rw[crw a];rfl) (by rw[crw a];rfl)
theorem cmp_any (t r a r':Int) (w:World):
  Calls Tryz.prog 93 #[.agg #[t,r],.agg #[a,r']] w λe w'=>e= .returned (.int .i64 (cmpS ⟨t,r⟩ ⟨a,r'⟩))∧Below w.heap.size w w':=by
 go_enter Tryz.func93,Tryz.ntmps93;go_wp2
 go_region_held3 (λw'=>w'.cell? ⟨w.heap.size,0,none⟩=some (.int .i64 t)∧w'.cell? ⟨w.heap.size,1,none⟩=some (.int .i64 r)∧w'.cell? ⟨w.heap.size+1,0,none⟩=some (.int .i64 a)∧w'.cell? ⟨w.heap.size+1,1,none⟩=some (.int .i64 r')) (go_keep) (first
  |(go_at_call_of 148 (t);refine(compare_any _ _ _).mono ?_;rintro e b ⟨rfl,rfl⟩)
  |(go_at_call_of 148 (r);refine(compare_any _ _ _).mono ?_;rintro e b ⟨rfl,rfl⟩)
  |(go_at_call 147;refine(or_new _ _ _ _ _ (by simp)).mono ?_;rintro e b ⟨rfl,rfl⟩))
 all_goals
  go_wp2;go_ret;exact⟨rfl,((((ag _ _).alloc (aa _) _).alloc (by simp) _).alloc (by simp;omega) _).drew⟩
theorem rightid_any (t r i:Int) (w:World):
  Calls Tryz.prog 187 #[.agg #[t,r,i]] w λe w'=>e= .returned (.bool (Gid.right ⟨⟨t,r⟩,i⟩))∧Below w.heap.size w w':=by
 obtain⟨v,d⟩:∃v,v=Gid.right ⟨⟨t,r⟩,i⟩:=⟨_,rfl⟩;have f:=hid d;rw[<-d];clear d;cases b:Gst.right ⟨t,r⟩ with
 |false=>
  have a:=hid b;clear b;go_enter Tryz.func187,Tryz.ntmps187;go_wp2_with fail;refine(jZ _ _ _).mono ?_;rw[a.o];rintro e g ⟨rfl,c⟩;go_wp2;go_ret;refine⟨dI ?_,((ag _ _).alloc (aa _) _).trans (c.mono (by simp))⟩;rw[f.o];simp[Gid.right,a.o]
 | true=>
  have a:=hid b;clear b;go_enter Tryz.func187,Tryz.ntmps187;go_wp2_with fail;refine(jZ _ _ _).mono ?_;rw[a.o];rintro e g ⟨rfl,c⟩;have h:g.cell? ⟨w.heap.size,2,none⟩=some (.int .i64 i):=by
   rw[c.cell (by simp)];go_simp
  go_wp2
  all_goals
   go_ret;refine⟨dI ?_,((ag _ _).alloc (aa _) _).trans (c.mono (by simp))⟩;rw[f.o];simp[Gid.right,a.o]
   try omega
theorem eq_st (a b c d:Int) (v:Bool) (h:Gst.eqb ⟨a,b⟩ ⟨c,d⟩=v) (w:World):(binOp .eql 42 (.agg #[a,b]) (.agg #[c,d])).run Tryz.prog w= .ok (.bool v) w:=by
 subst h;go_simp;simp only[Gst.eqb];by_cases e:a=c<;>by_cases f:b=d<;>simp[e,f]
theorem eN (a b i c d j:Int) (v:Bool) (h:Gid.eqb ⟨⟨a,b⟩,i⟩ ⟨⟨c,d⟩,j⟩=v) (w:World):(binOp .eql 108 (.agg #[a,b,i]) (.agg #[c,d,j])).run Tryz.prog w= .ok (.bool v) w:=by
 subst h;go_simp;simp only[Gid.eqb,Gst.eqb];by_cases e:a=c<;>by_cases f:b=d<;>by_cases g:i=j<;>simp[e,f,g]
theorem ne_st (a b c d:Int) (v:Bool) (h:Gst.eqb ⟨a,b⟩ ⟨c,d⟩=v) (w:World):(binOp .neq 42 (.agg #[a,b]) (.agg #[c,d])).run Tryz.prog w= .ok (.bool !v) w:=by
 subst h;go_simp;simp only[Gst.eqb];by_cases e:a=c<;>by_cases f:b=d<;>simp[e,f]
theorem ne_id (a b i c d j:Int) (v:Bool) (h:Gid.eqb ⟨⟨a,b⟩,i⟩ ⟨⟨c,d⟩,j⟩=v) (w:World):(binOp .neq 108 (.agg #[a,b,i]) (.agg #[c,d,j])).run Tryz.prog w= .ok (.bool !v) w:=by
 subst h;go_simp;simp only[Gid.eqb,Gst.eqb];by_cases e:a=c<;>by_cases f:b=d<;>by_cases g:i=j<;>simp[e,f,g]
theorem iy (b:Nat) (g:Gst) (k:Nat) (x:Gid) (w:World) (p:w.cell? ⟨b,0,none⟩=some (.int .i64 g.t)) (q:w.cell? ⟨b,1,none⟩=some (.int .i64 g.r)) (y:w.cell? ⟨b,7,none⟩=some (.int .i64 k)):
  Calls Tryz.prog 153 #[.pointer (some ⟨b,0,none⟩),idV x] w λe w'=>e= .returned (.bool (de g x k))∧Below w.heap.size w w':=by
 obtain⟨⟨t,r⟩,i⟩:=x;obtain⟨f,h⟩:=g;show Calls _ _ #[_,.agg #[t,r,i]] _ _;simp only at p q;have E:=aj (w:=w.alloc (.cells #[t,r,i] 108)) (a:=⟨b,0,none⟩) (v:= .int .i64 f) (by rw[ey _ _ _ (eL p)];exact p);have F:=aj (w:=w.alloc (.cells #[t,r,i] 108)) (a:=⟨b,1,none⟩) (v:= .int .i64 h) (by rw[ey _ _ _ (eL q)];exact q);have G:=aj (w:=w.alloc (.cells #[t,r,i] 108)) (a:=⟨b,7,none⟩) (v:= .int .i64 k) (by rw[ey _ _ _ (eL y)];exact y);have H:=aj (w:=w.alloc (.cells #[t,r,i] 108)) (a:=⟨w.heap.size,0,none⟩) (v:= .int .i64 t) (by go_simp);have I:=aj (w:=w.alloc (.cells #[t,r,i] 108)) (a:=⟨w.heap.size,1,none⟩) (v:= .int .i64 r) (by go_simp);have J:=aj (w:=w.alloc (.cells #[t,r,i] 108)) (a:=⟨w.heap.size,2,none⟩) (v:= .int .i64 i) (by go_simp);clear p q y;have j:=λd z=>ak (rightid_any t r i (grow (redrawn (w.alloc (.cells #[t,r,i] 108)) d) z));have s:=λd z=>ak (cmp_any t r f h (grow (redrawn (w.alloc (.cells #[t,r,i] 108)) d) z));have A:=cmpS_lt ⟨t,r⟩ ⟨f,h⟩;cases l:Gid.right ⟨⟨t,r⟩,i⟩ with
 |false=>
  rw[l] at j;have o:=hid l;clear l s A;go_enter Tryz.func153,Tryz.ntmps153;go_wp2;refine rqb ?_
  repeat(any_goals(go_big_quiet_step (first|exact j _ _)))
  refine qz λB c=> ?_;go_wp2;go_ret;refine⟨dI ?_,?_⟩
  ·simp[de,o.o]
  ·exact((ag _ _).alloc (aa _) _).trans (c.mono (by simp))
 | true=>
  rw[l] at j;have o:=hid l;clear l;cases m:Gst.lt ⟨t,r⟩ ⟨f,h⟩ with
  |true=>
   rw[m] at A;have u:=hid m;clear m;go_enter Tryz.func153,Tryz.ntmps153;go_wp2;refine rqb ?_
   repeat(any_goals(go_big_quiet_step (first|exact j _ _|exact s _ _)))
   refine qz λB c=> ?_;go_wp2;go_ret;refine⟨dI ?_,?_⟩
   ·simp[de,o.o,u.o]
   ·exact((ag _ _).alloc (aa _) _).trans (c.mono (by simp))
  | false=>
   rw[m] at A;have u:=hid m;clear m;cases n:Gst.eqb ⟨t,r⟩ ⟨f,h⟩ with
   |false=>
    have D:=eq_st t r f h false n;have C:=hid n;clear n;go_enter Tryz.func153,Tryz.ntmps153;go_wp2;refine rqb ?_
    repeat(any_goals(go_big_quiet_step (first|exact j _ _|exact s _ _)))
    refine qz λB c=> ?_;go_wp2;go_ret;refine⟨dI ?_,?_⟩
    ·simp[de,o.o,u.o,C.o]
    ·exact((ag _ _).alloc (aa _) _).trans (c.mono (by simp))
   |true=>
    have D:=eq_st t r f h true n;have C:=hid n;clear n;go_enter Tryz.func153,Tryz.ntmps153;go_wp2;refine rqb ?_
    repeat(any_goals(go_big_quiet_step (first|exact j _ _|exact s _ _)))
    refine qz λB c=> ?_;go_wp2;go_ret;refine⟨dI ?_,?_⟩
    ·simp[de,o.o,u.o,C.o]
    ·exact((ag _ _).alloc (aa _) _).trans (c.mono (by simp))
end
section
open Go.RowKit Go.Lib Go.Sort
def VecR (w:World) (A:Option Addr) (v:List Int):Prop:=Row1 w w.heap.size A v.length (λi=> .int .i64 (v.getD i 0))
theorem VecR.below {w w':World} {A:Option Addr} {v:List Int} (h:VecR w A v) (hb:Below w.heap.size w w'):VecR w' A v:=(Row1.below h hb).more hb.size
theorem atV_low {v:List Int} {r:Int} (h:r<1):atV v r=0:=by unfold atV;rw[aN h]
theorem kP {v:List Int} {k:Nat}:atV v ((k:Int)+1)=v.getD k 0:=by
 unfold atV;rw[aE (by omega)];congr 1;omega
theorem atV_out {v:List Int} {k:Nat} (h:v.length<=k):v.getD k 0=0:=by
 rw[ae,cz h];rfl
theorem vat_any (A:Option Addr) (c:Nat) (v:List Int) (r:Int) (w:World) (i:v.length<=9223372036854775807) (h:VecR w A v):
  Calls Tryz.prog 119 #[.slice A v.length c,r] w λe w'=>e= .returned (.int .i64 (atV v r))∧w'=w:=by
 unfold VecR at h;by_cases b:r<1
 ·rw[atV_low b];clear h;go_enter Tryz.func119,Tryz.ntmps119;go_wp2;go_ret;exact⟨rfl,rfl⟩
 obtain⟨k,rfl⟩:∃k:Nat,r=(k:Int)+1:=⟨(r-1).toNat,by omega⟩;rw[kP];by_cases d:k<v.length
 ·obtain⟨f,rfl,-,a⟩:=h k d;replace a:w.cell? (f.add k)=some (.int .i64 (v.getD k 0)):=a;generalize v.getD k 0=x at *;generalize v.length=n at *;have g:¬(n:Int)<(k:Int)+1:=by omega
  clear h;go_enter Tryz.func119,Tryz.ntmps119;go_wp2;go_ret;exact⟨rfl,rfl⟩
 ·rw[atV_out (by omega)];generalize v.length=n at *;have g:(n:Int)<(k:Int)+1:=by omega
  clear h;go_enter Tryz.func119,Tryz.ntmps119;go_wp2;go_ret;exact⟨rfl,rfl⟩
theorem at_any (A:Option Addr) (c:Nat) (v:List Int) (r:Int) (w:World) (a:v.length<=9223372036854775807) (h:VecR w A v):
  Calls Tryz.prog 63 #[.slice A v.length c,r] w λe w'=>e= .returned (.int .i64 (atV v r))∧w'=w:=by
 go_enter Tryz.func63,Tryz.ntmps63;go_wp2_with fail;refine(vat_any A c v r _ a h).mono ?_;rintro e b ⟨rfl,rfl⟩;go_wp2;go_ret;exact⟨rfl,rfl⟩
theorem eT (A:Option Addr) (c:Nat) (v:List Int) (r:Int) (w:World) (i:v.length<=9223372036854775807) (h:VecR w A v):
  Calls Tryz.prog 55 #[.slice A v.length c,r] w λe w'=>e= .returned (.int .i64 (atV v r))∧w'=w:=by
 unfold VecR at h;by_cases b:r<1
 ·rw[atV_low b];clear h;go_enter Tryz.func55,Tryz.ntmps55;go_wp2;go_ret;exact⟨rfl,rfl⟩
 obtain⟨k,rfl⟩:∃k:Nat,r=(k:Int)+1:=⟨(r-1).toNat,by omega⟩;rw[kP];by_cases d:k<v.length
 ·obtain⟨f,rfl,-,a⟩:=h k d;replace a:w.cell? (f.add k)=some (.int .i64 (v.getD k 0)):=a;generalize v.getD k 0=x at *;generalize v.length=n at *;have g:¬(n:Int)<(k:Int)+1:=by omega
  clear h;go_enter Tryz.func55,Tryz.ntmps55;go_wp2;go_ret;exact⟨rfl,rfl⟩
 ·rw[atV_out (by omega)];generalize v.length=n at *;have g:(n:Int)<(k:Int)+1:=by omega
  clear h;go_enter Tryz.func55,Tryz.ntmps55;go_wp2;go_ret;exact⟨rfl,rfl⟩
theorem plainV_snoc0 (v:List Int):ck (v++[0])=ck v:=by
 unfold ck;simp
theorem plainV_snoc (v:List Int) (x:Int) (h:x≠0):ck (v++[x])=v++[x]:=by
 unfold ck;simp[h]
theorem take_succ_getD (v:List Int) (k:Nat) (h:k<v.length):v.take (k+1)=v.take k++[v.getD k 0]:=by
 rw[cW h,ae,aw h];rfl
theorem plainV_len (v:List Int):(ck v).length<=v.length:=by
 unfold ck;rw[i8];have:=(List.dropWhile_sublist (l:=v.reverse) (λx=>decide (x=0))).length_le;rw[i8] at this;exact this
theorem plainV_take (v:List Int):ck v=v.take (ck v).length:=by
 unfold ck;obtain⟨p,a⟩:=List.dropWhile_suffix (l:=v.reverse) (λx=>decide (x=0));obtain⟨q,c⟩:∃q,q=List.dropWhile (λx=>decide (x=0)) v.reverse:=⟨_,rfl⟩;rw[<-c] at a ⊢;have b:=congrArg List.reverse a;rw[List.reverse_append,List.reverse_reverse] at b;rw[<-b,List.take_left]
theorem vplain_any (A:Option Addr) (c:Nat) (v:List Int) (w:World) (l:v.length<=c) (y:v.length<=9223372036854775807) (h:VecR w A v):
  Calls Tryz.prog 157 #[.slice A v.length c] w λe w'=>e= .returned (.slice A (ck v).length c)∧w'=w:=by
 unfold VecR at h;have z:=hid h;obtain⟨n,d⟩:∃n,n=v.length:=⟨_,rfl⟩;obtain⟨p,f⟩:∃p,p=(ck v).length:=⟨_,rfl⟩;rw[<-d] at l y ⊢;rw[<-f];have b:=hid d;have m:=hid f;clear h d f;go_enter Tryz.func157,Tryz.ntmps157;go_wp2;go_loop [0] (λs=>∃k:Nat,k<=n∧s= .slice A k c∧Hid (ck v=ck (v.take k))) (λs=>match s with| .slice _ k _=>k|_=>0)
 case atStart=>exact⟨n,aa _,rfl,by show _=_;rw[b.o,aO]⟩
 case round=>
  obtain⟨k,D,rfl,g⟩:=hrel;cases k with
  |zero=>
   have o:p=0:=by rw[m.o,g.o];rfl
   subst o;go_wp2;go_ret;exact⟨rfl,rfl⟩
  | succ k=>
   obtain⟨B,C,-,i⟩:=z.o k (by have:=b.o;omega);subst C;replace i:w.cell? (B.add k)=some (.int .i64 (v.getD k 0)):=i;have q:=hid (take_succ_getD v k (by have:=b.o;omega));obtain⟨x,j⟩:∃x,x=v.getD k 0:=⟨_,rfl⟩;rw[<-j] at i;have r:=hid j;clear j;have E:(0:Int)<=(k:Int):=by omega
   have F:(k:Int)+1-1=(k:Int):=by omega
   have G:(k:Int)<=(c:Int):=by omega
   by_cases a:x=0
   ·subst a;have t:Hid (ck v=ck (v.take k)):=by show _=_;rw[g.o,q.o,<-r.o,plainV_snoc0]
    go_wp2;go_round
    case rel=>exact⟨k,by omega,rfl,t⟩
    case measure=>simp
   ·have H:(x == 0)=false:=by rw[aL];exact a
    have u:p=k+1:=by
     rw[m.o,g.o,q.o,<-r.o,plainV_snoc _ _ a,al,bf];have:=b.o;simp;omega
    subst u;go_wp2;go_ret;exact⟨rfl,rfl⟩
theorem plain_any (A:Option Addr) (c:Nat) (v:List Int) (w:World) (a:v.length<=c) (b:v.length<=9223372036854775807) (h:VecR w A v):
  Calls Tryz.prog 121 #[.slice A v.length c] w λe w'=>e= .returned (.slice A (ck v).length c)∧w'=w:=by
 go_enter Tryz.func121,Tryz.ntmps121;go_wp2_with fail;refine(vplain_any A c v _ a b h).mono ?_;rintro e d ⟨rfl,rfl⟩;go_wp2;go_ret;exact⟨rfl,rfl⟩
theorem kI (A:Option Addr) (c:Nat) (v:List Int) (w:World) (l:v.length<=c) (y:v.length<=9223372036854775807) (h:VecR w A v):
  Calls Tryz.prog 105 #[.slice A v.length c] w λe w'=>e= .returned (.slice A (ck v).length c)∧w'=w:=by
 unfold VecR at h;have z:=hid h;obtain⟨n,d⟩:∃n,n=v.length:=⟨_,rfl⟩;obtain⟨p,f⟩:∃p,p=(ck v).length:=⟨_,rfl⟩;rw[<-d] at l y ⊢;rw[<-f];have b:=hid d;have m:=hid f;clear h d f;go_enter Tryz.func105,Tryz.ntmps105;go_wp2;go_loop [3] (λs=>∃k:Nat,k<=n∧s= .int .i64 k∧Hid (ck v=ck (v.take k))) (λs=>(RowKit.intOf s).toNat)
 case atStart=>exact⟨n,aa _,rfl,by show _=_;rw[b.o,aO]⟩
 case round=>
  obtain⟨k,D,rfl,g⟩:=hrel;cases k with
  |zero=>
   have o:p=0:=by rw[m.o,g.o];rfl
   subst o;go_wp2;go_ret;exact⟨rfl,rfl⟩
  | succ k=>
   obtain⟨B,C,-,i⟩:=z.o k (by have:=b.o;omega);subst C;replace i:w.cell? (B.add k)=some (.int .i64 (v.getD k 0)):=i;have q:=hid (take_succ_getD v k (by have:=b.o;omega));obtain⟨x,j⟩:∃x,x=v.getD k 0:=⟨_,rfl⟩;rw[<-j] at i;have r:=hid j;clear j;have E:(0:Int)<=(k:Int):=by omega
   have F:(k:Int)+1-1=(k:Int):=by omega
   have G:(k:Int)+1<=(c:Int):=by omega
   by_cases a:x=0
   ·subst a;have t:Hid (ck v=ck (v.take k)):=by show _=_;rw[g.o,q.o,<-r.o,plainV_snoc0]
    go_wp2;go_round
    case rel=>exact⟨k,by omega,by go_num,t⟩
    case measure=>simp[RowKit.intOf]
   ·have H:(x == 0)=false:=by rw[aL];exact a
    have u:p=k+1:=by
     rw[m.o,g.o,q.o,<-r.o,plainV_snoc _ _ a,al,bf];have:=b.o;simp;omega
    subst u;go_wp2;go_ret;exact⟨rfl,rfl⟩
theorem same_any (A B:Option Addr) (c d:Nat) (v u:List Int) (w:World) (J:v.length<=9223372036854775807) (f:VecR w A v) (g:VecR w B u):
  Calls Tryz.prog 29 #[.slice A v.length c,.slice B u.length d] w λe w'=>e= .returned (.bool (decide (v=u)))∧Below w.heap.size w w':=by
 unfold VecR at f g;have K:=hid f;have L:=hid g;clear f g;obtain⟨n,s⟩:∃n,n=v.length:=⟨_,rfl⟩;obtain⟨m,t⟩:∃m,m=u.length:=⟨_,rfl⟩;rw[<-s] at J ⊢;rw[<-t];obtain⟨r,a⟩:∃r,r=decide (v=u):=⟨_,rfl⟩;rw[<-a];have p:=hid s;have z:=hid t;have C:=hid a;clear s t a;by_cases q:n=m
 ·subst q;go_enter Tryz.func29,Tryz.ntmps29;go_wp2;go_loopw [5] (λi wr=>∃k j:Nat,k<=n∧i= .int .i64 k∧wr=w.drewN j∧Hid (∀i,i<k->v.getD i 0=u.getD i 0)) (λi _=>n-(RowKit.intOf i).toNat)
  case atStart=>exact⟨0,0,by omega,rfl,rfl,λi F=>absurd F (by omega)⟩
  case round=>
   obtain⟨k,j,R,rfl,rfl,G⟩:=hrel;by_cases Q:k<n
   ·obtain⟨M,f,-,D⟩:=K.o k (by have:=p.o;omega);obtain⟨N,g,-,E⟩:=L.o k (by have:=z.o;omega);subst f g;replace D:w.cell? (M.add k)=some (.int .i64 (v.getD k 0)):=D;replace E:w.cell? (N.add k)=some (.int .i64 (u.getD k 0)):=E;obtain⟨x,l⟩:∃x,x=v.getD k 0:=⟨_,rfl⟩;obtain⟨y,o⟩:∃y,y=u.getD k 0:=⟨_,rfl⟩;rw[<-l] at D;rw[<-o] at E;by_cases b:x=y
    ·have H:Hid (∀i,i<k+1->v.getD i 0=u.getD i 0):=λi F=>by
      rcases cJ i k with h|h
      ·exact G.o i h
      ·obtain rfl:i=k:=by omega
       rw[<-l,<-o,b]
     clear l o;subst b;go_wp2;go_quiet (fail);go_wp2;go_roundw
     case rel=>exact⟨k+1,_,by omega,by go_num,rfl,H⟩
     case measure=>simp[RowKit.intOf];omega
    ·have O:(x != y)=true:=by rw[cM];exact b
     have a:r=false:=by
      rw[C.o,aW];rintro rfl;exact b (l.trans o.symm)
     subst a;clear l o;go_wp2;go_quiet (fail);go_wp2;go_ret;exact⟨rfl,jE (jE (ag _ _) _) _⟩
   ·obtain rfl:k=n:=by omega
    have a:r=true:=by
     rw[C.o,au];refine List.ext_getElem (by rw[<-p.o,<-z.o]) λi I P=> ?_;have:=G.o i (by rw[p.o];exact I);rw[ae,ae,aw I,aw P] at this;exact this
    subst a;go_wp2;go_ret;exact⟨rfl,jE (ag _ _) _⟩
 ·have O:((n:Int) != (m:Int))=true:=by rw[cM];omega
  have a:r=false:=by
   rw[C.o,aW];rintro rfl;exact q (p.o.trans z.o.symm)
  subst a;go_enter Tryz.func29,Tryz.ntmps29;go_wp2;go_ret;exact⟨rfl,ag _ _⟩
theorem vecB_neg {v:List Int} {k:Nat} (a:k<v.length) (h:v.getD k 0<0):vecB v=false:=by
 rw[<-Bool.not_eq_true];intro b;simp only[vecB,ay,dT,au] at b
 have:=b.1.1 (v.getD k 0) (by
  rw[ae,aw a];exact ch a)
 omega
theorem vecB_pos {v:List Int} (h:∀k,k<v.length->0<=v.getD k 0):vecB v=(decide (v.length<=16) && decide ((ck v).length=v.length)):=by
 have:v.all (λx=>decide (0<=x))=true:=by
  rw[dT];intro x a;obtain⟨i,b,rfl⟩:=jS (z:=(0:Int)) a;exact aI (h i b)
 simp only[vecB,this,aZ]
theorem vector_any (A:Option Addr) (c:Nat) (v:List Int) (w:World) (o:v.length<=c) (u:v.length<=9223372036854775807) (h:VecR w A v):
  Calls Tryz.prog 71 #[.slice A v.length c] w λe w'=>e= .returned (.bool (vecB v))∧w'=w:=by
 have g:=hid (plain_any A c v w o u h);unfold VecR at h;have F:=hid h;obtain⟨r,a⟩:∃r,r=vecB v:=⟨_,rfl⟩;rw[<-a];obtain⟨n,j⟩:∃n,n=v.length:=⟨_,rfl⟩;rw[<-j] at o u g ⊢;obtain⟨p,l⟩:∃p,p=(ck v).length:=⟨_,rfl⟩;rw[<-l] at g;have m:=hid j;have y:=hid a;have z:=hid l;have L:p<=n:=by rw[l,j];exact plainV_len v
 clear h j a l;go_enter Tryz.func71,Tryz.ntmps71;go_wp2;go_loop [7] (λi=>∃k:Nat,k<=n∧i= .int .i64 k∧Hid (∀i,i<k->0<=v.getD i 0)) (λi=>n-(RowKit.intOf i).toNat)
 case atStart=>exact⟨0,by omega,rfl,λi q=>absurd q (by omega)⟩
 case round=>
  obtain⟨k,N,rfl,B⟩:=hrel;by_cases C:k<n
  ·obtain⟨G,H,-,s⟩:=F.o k (by have:=m.o;omega);subst H;replace s:w.cell? (G.add k)=some (.int .i64 (v.getD k 0)):=s;obtain⟨x,d⟩:∃x,x=v.getD k 0:=⟨_,rfl⟩;rw[<-d] at s;by_cases t:x<0
   ·have a:r=false:=by rw[y.o,vecB_neg (by have I:=m.o;rw[<-I];exact C) (by rw[<-d];exact t)]
    subst a;clear d;go_wp2;go_ret;exact⟨rfl,rfl⟩
   ·have D:Hid (∀i,i<k+1->0<=v.getD i 0):=λi q=>by
     rcases cJ i k with h|h
     ·exact B.o i h
     ·obtain rfl:i=k:=by omega
      rw[<-d];exact Int.not_lt.1 t
    clear d;have M:0<=x:=by omega
    clear t;go_wp2;go_round
    case rel=>exact⟨k+1,by omega,by go_num,D⟩
    case measure=>simp[RowKit.intOf];omega
  ·obtain rfl:k=n:=by omega
   have a:r=(decide (k<=16) && decide (p=k)):=by
    rw[y.o,vecB_pos (λi q=>B.o i (by have:=m.o;omega)),<-m.o,<-z.o]
   by_cases E:k<=16
   ·have J:(k:Int)<=16:=by omega
    by_cases f:p=k
    ·have b:r=true:=by rw[a];simp[E,f]
     clear a;subst b f;go_wp2_with (go_at_call 121;refine g.o.mono ?_;rintro e K ⟨rfl,rfl⟩);go_ret;exact⟨rfl,rfl⟩
    ·have b:r=false:=by rw[a];simp[f]
     have O:((p:Int) == (k:Int))=false:=by rw[aL];omega
     clear a;subst b;go_wp2_with (go_at_call 121;refine g.o.mono ?_;rintro e K ⟨rfl,rfl⟩);go_ret;exact⟨rfl,rfl⟩
   ·have b:r=false:=by rw[a];simp;omega
    have J:¬(k:Int)<=16:=by omega
    clear a;subst b;go_wp2;go_ret;exact⟨rfl,rfl⟩
theorem iH (A:Option Addr) (c:Nat) (v:List Int) (w:World) (m:v.length<=c) (o:v.length<=9223372036854775807) (h:VecR w A v):
  Calls Tryz.prog 102 #[.slice A v.length c] w λe w'=>e= .returned (.bool (vecB v))∧Below w.heap.size w w':=by
 have q:=hid (kI A c v w m o h);have s:=plainV_take v;have R:=plainV_len v
 have f:=hid (same_any A A c c v (ck v) w o h (by
  intro k B;obtain⟨t,e,J,b⟩:=h k (by omega);refine⟨t,e,J,?_⟩;rw[b];show some (Value.int .i64 (v.getD k 0))=some (.int .i64 ((ck v).getD k 0));have K:(ck v).getD k 0=v.getD k 0:=by
   rw[s,ae,ae,List.getElem?_take_of_lt B]
  rw[K]))
 have C:decide (v=ck v)=decide ((ck v).length=v.length):=by
  rw[bE,au,au];exact⟨λe=>by rw[<-e],λe=>by rw[s,e,aO]⟩
 rw[C] at f;clear C s;unfold VecR at h;have L:=hid h;obtain⟨r,a⟩:∃r,r=vecB v:=⟨_,rfl⟩;rw[<-a];obtain⟨n,g⟩:∃n,n=v.length:=⟨_,rfl⟩;rw[<-g] at m o q f ⊢;obtain⟨p,j⟩:∃p,p=(ck v).length:=⟨_,rfl⟩;rw[<-j] at q f;have l:=hid g;have D:=hid a;have E:=hid j;have S:p<=n:=by rw[j,g];exact plainV_len v
 clear h g a j;go_enter Tryz.func102,Tryz.ntmps102;go_wp2;go_loop [3] (λi=>∃k:Nat,k<=n∧i= .int .i64 k∧Hid (∀i,i<k->0<=v.getD i 0)) (λi=>n-(RowKit.intOf i).toNat)
 case atStart=>exact⟨0,by omega,rfl,λi u=>absurd u (by omega)⟩
 case round=>
  obtain⟨k,B,rfl,F⟩:=hrel;by_cases G:k<n
  ·obtain⟨t,M,-,y⟩:=L.o k (by have:=l.o;omega);subst M;replace y:w.cell? (t.add k)=some (.int .i64 (v.getD k 0)):=y;obtain⟨x,b⟩:∃x,x=v.getD k 0:=⟨_,rfl⟩;rw[<-b] at y;by_cases z:x<0
   ·have a:r=false:=by rw[D.o,vecB_neg (by have N:=l.o;rw[<-N];exact G) (by rw[<-b];exact z)]
    subst a;clear b;go_wp2;go_ret;exact⟨rfl,ag _ _⟩
   ·have H:Hid (∀i,i<k+1->0<=v.getD i 0):=λi u=>by
     rcases cJ i k with h|h
     ·exact F.o i h
     ·obtain rfl:i=k:=by omega
      rw[<-b];exact Int.not_lt.1 z
    clear b;have T:0<=x:=by omega
    clear z;go_wp2;go_round
    case rel=>exact⟨k+1,by omega,by go_num,H⟩
    case measure=>simp[RowKit.intOf];omega
  ·obtain rfl:k=n:=by omega
   have a:r=(decide (k<=16) && decide (p=k)):=by
    rw[D.o,vecB_pos (λi u=>F.o i (by have:=l.o;omega)),<-l.o,<-E.o]
   by_cases I:k<=16
   ·have O:(k:Int)<=16:=by omega
    have d:r=decide (p=k):=by rw[a];simp[I]
    clear a;subst d;go_wp2_with fail;refine q.o.mono ?_;rintro e P ⟨rfl,rfl⟩;go_wp2_with fail;refine f.o.mono ?_;rintro e P ⟨rfl,Q⟩;go_wp2;go_ret;exact⟨rfl,Q⟩
   ·have d:r=false:=by rw[a];simp;omega
    have O:¬(k:Int)<=16:=by omega
    clear a;subst d;go_wp2;go_ret;exact⟨rfl,ag _ _⟩
end
section
open Go.RowKit Go.Lib Go.Sort
def RowG (w:World) (S:Nat->Prop) (A:Option Addr) (n s:Nat) (f:Nat->Nat->Value):Prop:=
 ∀k,k<n->∃b o,A=some ⟨b,o,none⟩∧S b∧b<w.heap.size∧∀j,j<s->w.cell? ⟨b,o+k*s+j,none⟩=some (f k j)
def Agr (S:Nat->Prop) (w w':World):Prop:=w.heap.size<=w'.heap.size∧∀b,S b->b<w.heap.size->w'.heap[b]? =w.heap[b]?
theorem Agr.refl {S:Nat->Prop} {w:World}:Agr S w w:=⟨aa _,λ_ _ _=>rfl⟩
theorem Agr.trans {S:Nat->Prop} {w w1 w2:World} (h:Agr S w w1) (k:Agr S w1 w2):Agr S w w2:=⟨aP h.1 k.1,λb hb hl=>(k.2 b hb (bS hl h.1)).trans (h.2 b hb hl)⟩
theorem Agr.below {S:Nat->Prop} {w w':World} (h:Below w.heap.size w w'):Agr S w w':=⟨h.size,λb _ hl=>h.block b hl⟩
theorem Agr.grown {S:Nat->Prop} {w w':World} {row:Option Nat} (h:w.grownBy w' row) (hr:∀g,row=some g->¬S g):Agr S w w':=⟨h.size,λb hb hl=>h.block b hl (λe=>hr b e.symm hb)⟩
section
variable {w w' : World} {S T : Nat → Prop} {A : Option Addr} {n s : Nat} {f g : Nat → Nat → Value}
theorem RowG.agr (h:RowG w S A n s f) (ha:Agr S w w'):RowG w' S A n s f:=λk hk=>by
 obtain⟨b,o,e,hS,hb,hc⟩:=h k hk
 exact⟨b,o,e,hS,bS hb ha.1,λj hj=>(be (w:=w) (a:=⟨b,o+k*s+j,none⟩) (ha.2 b hS hb)).trans (hc j hj)⟩
theorem RowG.sub (h:RowG w S A n s f) (hs:∀b,b<w.heap.size->S b->T b):RowG w T A n s f:=λk hk=>by
 obtain⟨b,o,e,hS,hb,hc⟩:=h k hk
 exact⟨b,o,e,hs b hb hS,hb,hc⟩
theorem RowG.congr (h:RowG w S A n s f) (e:∀k j,k<n->j<s->f k j=g k j):RowG w S A n s g:=λk hk=>by
 obtain⟨b,o,e1,hS,hb,hc⟩:=h k hk
 exact⟨b,o,e1,hS,hb,λj hj=>by rw[hc j hj,e k j hk hj]⟩
theorem RowG.zero:RowG w S A 0 s f:=λk hk=>absurd hk (by omega)
end
def VecS (w:World) (S:Nat->Prop) (A:Option Addr) (v:List Int):Prop:=RowG w S A v.length 1 (λk _=> .int .i64 (v.getD k 0))
def StsS (w:World) (S:Nat->Prop) (A:Option Addr) (l:List Gst):Prop:=RowG w S A l.length 2 (λk j=>if j=0 then .int .i64 (l.getD k .zero).t else .int .i64 (l.getD k .zero).r)
def IdsS (w:World) (S:Nat->Prop) (A:Option Addr) (l:List Gid):Prop:=RowG w S A l.length 3 (λk j=>if j=0 then .int .i64 (l.getD k .zero).s.t else if j=1 then .int .i64 (l.getD k .zero).s.r else .int .i64 (l.getD k .zero).i)
theorem VecS.vec {w:World} {S:Nat->Prop} {A:Option Addr} {v:List Int} (h:VecS w S A v):VecR w A v:=λk hk=>by
 obtain⟨b,o,e,_,hb,hc⟩:=h k hk
 have:=hc 0 (by omega)
 refine⟨⟨b,o,none⟩,e,hb,?_⟩
 rw[Addr.add_mid]
 simpa using this
theorem StsS.at_ {w:World} {S:Nat->Prop} {A:Option Addr} {l:List Gst} (h:StsS w S A l) {k:Nat} (c:k<l.length):
  ∃b o,A=some ⟨b,o,none⟩∧S b∧b<w.heap.size∧w.cell? ⟨b,o+k*2,none⟩=some (.int .i64 (l.getD k .zero).t)∧w.cell? ⟨b,o+k*2+1,none⟩=some (.int .i64 (l.getD k .zero).r):=by
 obtain⟨b,o,e,d,f,a⟩:=h k c;exact⟨b,o,e,d,f,a 0 (by omega),a 1 (by omega)⟩
theorem IdsS.at_ {w:World} {S:Nat->Prop} {A:Option Addr} {l:List Gid} (h:IdsS w S A l) {k:Nat} (c:k<l.length):
  ∃b o,A=some ⟨b,o,none⟩∧S b∧b<w.heap.size∧w.cell? ⟨b,o+k*3,none⟩=some (.int .i64 (l.getD k .zero).s.t)∧w.cell? ⟨b,o+k*3+1,none⟩=some (.int .i64 (l.getD k .zero).s.r)∧w.cell? ⟨b,o+k*3+2,none⟩=some (.int .i64 (l.getD k .zero).i):=by
 obtain⟨b,o,e,d,f,a⟩:=h k c;exact⟨b,o,e,d,f,a 0 (by omega),a 1 (by omega),a 2 (by omega)⟩
structure OpX where
 dA:Option Addr
 dc:Nat
 eA:Option Addr
 ec:Nat
def opA (o:Gop) (x:OpX):Array Value:=
 #[.int .i64 o.kind,.int .i64 o.node.s.t,.int .i64 o.node.s.r,.int .i64 o.node.i,.int .i64 o.parent.s.t,.int .i64 o.parent.s.r,.int .i64 o.parent.i,.string o.name,.bool o.dir,.slice x.dA o.dots.length x.dc,
  .int .i64 o.after.s.t,.int .i64 o.after.s.r,.int .i64 o.after.i,.int .i64 o.elem.s.t,.int .i64 o.elem.s.r,.int .i64 o.elem.i,.string o.text,.slice x.eA o.elems.length x.ec]
def i63 (x:Int):Prop:= -9223372036854775808<=x∧x<9223372036854775808
structure OpIn (w:World) (S:Nat->Prop) (o:Gop) (x:OpX):Prop where
 dots:StsS w S x.dA o.dots
 elems:IdsS w S x.eA o.elems
 dle:o.dots.length<=x.dc
 ele:o.elems.length<=x.ec
 dmax:x.dc<=maxLen
 emax:x.ec<=maxLen
 name:o.name.size<=maxLen
 text:o.text.size<=maxLen
def OpsS (w:World) (S:Nat->Prop) (A:Option Addr) (l:List Gop):Prop:=
 ∃X:Nat->OpX,RowG w S A l.length 18 (λk j=>(opA (l.getD k (opO 0 .zero)) (X k)).getD j undef)∧∀k,k<l.length->OpIn w S (l.getD k (opO 0 .zero)) (X k)
theorem OpIn.agr {w w':World} {S:Nat->Prop} {o:Gop} {x:OpX} (h:OpIn w S o x) (ha:Agr S w w'):OpIn w' S o x:=
 ⟨RowG.agr h.dots ha,RowG.agr h.elems ha,h.dle,h.ele,h.dmax,h.emax,h.name,h.text⟩
theorem OpIn.sub {w:World} {S T:Nat->Prop} {o:Gop} {x:OpX} (h:OpIn w S o x) (hs:∀b,b<w.heap.size->S b->T b):OpIn w T o x:=
 ⟨RowG.sub h.dots hs,RowG.sub h.elems hs,h.dle,h.ele,h.dmax,h.emax,h.name,h.text⟩
theorem OpsS.agr {w w':World} {S:Nat->Prop} {A:Option Addr} {l:List Gop} (h:OpsS w S A l) (a:Agr S w w'):OpsS w' S A l:=by
 obtain⟨X,b,c⟩:=h;exact⟨X,RowG.agr b a,λk d=>(c k d).agr a⟩
theorem OpsS.sub {w:World} {S T:Nat->Prop} {A:Option Addr} {l:List Gop} (h:OpsS w S A l) (a:∀b,b<w.heap.size->S b->T b):OpsS w T A l:=by
 obtain⟨X,c,d⟩:=h;exact⟨X,RowG.sub c a,λk e=>(d k e).sub a⟩
def grA (g:Grp) (dA:Option Addr) (dc:Nat) (oA:Option Addr) (oc:Nat):Array Value:=
 #[.int .i64 g.s.t,.int .i64 g.s.r,.int .i64 g.n,.slice dA g.deps.length dc,.int .i64 g.u.t,.int .i64 g.u.r,.slice oA g.ops.length oc]
structure GrIn (w:World) (S:Nat->Prop) (g:Grp) (dA:Option Addr) (dc:Nat) (oA:Option Addr) (oc:Nat):Prop where
 deps:VecS w S dA g.deps
 ops:OpsS w S oA g.ops
 dle:g.deps.length<=dc
 ole:g.ops.length<=oc
 dmax:dc<=maxLen
 omax:oc<=maxLen
 nin:i63 g.n
 din:∀x∈g.deps,i63 x
theorem GrIn.agr {w w':World} {S:Nat->Prop} {g:Grp} {dA oA:Option Addr} {dc oc:Nat} (h:GrIn w S g dA dc oA oc) (ha:Agr S w w'):GrIn w' S g dA dc oA oc:=
 ⟨RowG.agr h.deps ha,h.ops.agr ha,h.dle,h.ole,h.dmax,h.omax,h.nin,h.din⟩
theorem GrIn.sub {w:World} {S T:Nat->Prop} {g:Grp} {dA oA:Option Addr} {dc oc:Nat} (h:GrIn w S g dA dc oA oc) (hs:∀b,b<w.heap.size->S b->T b):GrIn w T g dA dc oA oc:=
 ⟨RowG.sub h.deps hs,h.ops.sub hs,h.dle,h.ole,h.dmax,h.omax,h.nin,h.din⟩
end
section
open Go.RowKit Go.Lib Go.Sort
section
variable {P : Program} {ops : Array Oper} {rest : List Oper} {o : Oper} {a : Act} {Q : Exit → Act → World → Prop}
theorem jL {K:Act->World->Prop} {w:World} (d:TypeId) (x y:Operand) (e:o.op= .store d x y) (g:Nat) (T:TypeId) (c b:Array Value)
  (f:a.eval x= .pointer (some ⟨g,0,none⟩)) (i:a.eval y= .agg b) (j:w.heap[g]? =some (.cells c T (0,0))) (k:(P.info? d).map (·.size)=some b.size) (l:c.size=b.size) (m:b.toList.all (·.oneCell')=true)
  (h:K (a.put o.dst undef) (w.setRow g b)):o.wp P a w K Q:=by
 unfold Oper.wp execOp;simp only[e,f,i,Instr.storeAt,Instr.sureAddr,Sem.run_bind,Sem.run_pure,Result.andThen_ok,run_storeVar_row w g T d c b j k l (by rw[<-cv];exact m)];exact h
theorem bR {w:World} (e:o.guard=none) (d:TypeId) (x y:Operand) (f:o.op= .store d x y) (g:Nat) (T:TypeId) (c b:Array Value)
  (i:a.eval x= .pointer (some ⟨g,0,none⟩)) (j:w.heap.size=g) (k:a.eval y= .agg b) (l:(P.info? d).map (·.size)=some b.size) (m:c.size=b.size) (n:b.toList.all (·.oneCell')=true)
  (h:wpList P ops Q rest (a.put o.dst undef) (w.alloc (.cells b T))):wpList P ops Q (o::rest) a (w.alloc (.cells c T)):=by
 subst j;exact wpList_plain e λ_ p=>jL d x y f _ T c b i k (an w _) l m n (by rw[World.setRow_alloc_new];exact p _ _ h)
theorem World.setRow_alloc_old (w:World) (g:Nat) (c:Array Value) (a:Obj) (b:g<w.heap.size):(w.alloc a).setRow g c=(w.setRow g c).alloc a:=by
 simp only[World.setRow,World.alloc];congr 1;apply Array.ext_getElem?;intro i;rw[bY,Array.getElem?_push,Array.getElem?_push,bY];by_cases h:g=i
 ·subst h;have:¬g=w.heap.size:=by omega
  simp[this]
 ·simp[h]
theorem gR {w:World} {d:Obj} (f:o.guard=none) (e:TypeId) (x y:Operand) (i:o.op= .store e x y) (g:Nat) (T:TypeId) (c b:Array Value)
  (j:a.eval x= .pointer (some ⟨g,0,none⟩)) (k:w.heap.size=g) (l:a.eval y= .agg b) (m:(P.info? e).map (·.size)=some b.size) (n:c.size=b.size) (p:b.toList.all (·.oneCell')=true)
  (h:wpList P ops Q rest (a.put o.dst undef) ((w.alloc (.cells b T)).alloc d)):wpList P ops Q (o::rest) a ((w.alloc (.cells c T)).alloc d):=by
 subst k;refine wpList_plain f λ_ q=>jL e x y i _ T c b j l ?_ m n p ?_
 ·exact(ax _ d _ (by simp)).trans (an w _)
 ·rw[World.setRow_alloc_old _ _ _ _ (by simp),World.setRow_alloc_new];exact q _ _ h
def putL:Array Value->Nat->List Value->Array Value
 |c,_,[]=>c
 |c,o,v::vs=>putL (c.setIfInBounds o v) (o+1) vs
theorem fu (g:Nat) (T:TypeId):∀(vs:List Value) (o:Nat) (c:Array Value) (w:World),w.heap[g]? =some (.cells c T (0,0))->w.setCells g o vs=w.setRow g (putL c o vs)
 | [],o,c,w,hg=>by
  show w=w.setRow g c
  obtain⟨hlt,hv⟩:=Array.getElem?_eq_some_iff.1 hg
  simp only[World.setRow]
  have:w.heap.modify g (λx=>match x with| .cells _ t fr=> .cells c t fr|o=>o)=w.heap:=by
   apply Array.ext_getElem?;intro i;rw[bY];by_cases h:g=i
   ·subst h;simp[hg]
   ·simp[h]
  cases w;simp only at this ⊢;congr 1;exact this.symm
 |v::vs,o,c,w,hg=>by
  show(w.setCell ⟨g,o,none⟩ v).setCells g (o+1) vs=_;rw[fu g T vs (o+1) (c.setIfInBounds o v) _ (cI w g o c T v hg)];show _=w.setRow g (putL (c.setIfInBounds o v) (o+1) vs);simp only[World.setRow,World.setCell];congr 1;apply Array.ext_getElem?;intro i;rw[bY,bY,bY];by_cases h:g=i
  ·subst h;simp[hg]
  ·simp[h]
theorem run_store_any (w:World) (b o:Nat) (a:TypeId) (v:Value) (e:w.there b o v.cells.size) (f:(P.info? a).map (·.size)=some v.cells.size) (g:v.cells.toList.all (·.oneCell')=true):
  (storeVar a ⟨b,o,none⟩ v).run P w= .ok () (w.setCells b o v.cells.toList):=by
 have:=run_storeCells_cells (P:=P) b o v.cells.toList 0 w (λj c=>by simpa using(e j (by simpa using c)).1) (λj c=>by simpa using(e j (by simpa using c)).2)
  (λx h=>(dT.1 g) x h)
 cases d:P.info? a with
 |none=>simp[d] at f
 |some i=>
  have k:v.cells.size=i.size:=by simp[d] at f;omega
  simp only[Nat.add_zero] at this;simp[storeVar,sizeOf,typeInfo,d,k,this]
theorem ir {w:World} (e:o.guard=none) (b:TypeId) (x y:Operand) (i:o.op= .store b x y) (g off:Nat) (T:TypeId) (c f:Array Value) (v:Value)
  (k:a.eval x= .pointer (some ⟨g,off,none⟩)) (l:w.heap.size=g) (m:a.eval y=v) (n:(P.info? b).map (·.size)=some v.cells.size) (t:off+v.cells.size<=c.size) (p:v.cells.toList.all (·.oneCell')=true) (q:putL c off v.cells.toList=f)
  (h:wpList P ops Q rest (a.put o.dst undef) (w.alloc (.cells f T))):wpList P ops Q (o::rest) a (w.alloc (.cells c T)):=by
 subst l q;refine wpList_plain e λ_ r=> ?_;have d:=an w (.cells c T);have s:(w.alloc (.cells c T)).there w.heap.size off v.cells.size:=λj u=>by
  rw[crw d];exact⟨by rw[dG (by omega)];rfl,aS _ _ _ _ _ d⟩
 unfold Oper.wp execOp;simp only[i,k,m,Instr.storeAt,Instr.sureAddr,Sem.run_bind,Sem.run_pure,Result.andThen_ok,run_store_any (P:=P) _ _ off b v s n p];rw[fu _ _ _ _ _ _ d,World.setRow_alloc_new];exact r _ _ h
theorem dF {w:World} (e:o.guard=none) (b:TypeId) (x:Operand) (f:o.op= .load b x) (g:Nat) (T:TypeId) (c:Array Value) (d:TypeDesc)
  (i:a.eval x= .pointer (some ⟨g,0,none⟩)) (j:w.heap.size=g) (k:P.underlying b=some d) (n:d.isRow=true) (l:(P.info? b).map (·.size)=some c.size)
  (h:wpList P ops Q rest (a.put o.dst (.agg c)) (w.alloc (.cells c T))):wpList P ops Q (o::rest) a (w.alloc (.cells c T)):=by
 subst j;refine wpList_plain e λ_ m=> ?_;unfold Oper.wp execOp;simp only[f,i,Instr.loadAt,Instr.sureAddr,Sem.run_bind,Sem.run_pure,Result.andThen_ok,run_loadVar_row (w.alloc (.cells c T)) w.heap.size T b c (0,0) d (an w _) k (by cases d<;>simp_all) l];exact m _ _ h
theorem bW {w:World} (hgd:o.guard=none) (ty:TypeId) (x y:Operand) (ho:o.op= .store ty x y) (g:Nat) (T:TypeId) (c c':Array Value)
  (hx:a.eval x= .pointer (some ⟨g,0,none⟩)) (hy:a.eval y= .agg c') (hg:w.heap[g]? =some (.cells c T (0,0))) (hi:(P.info? ty).map (·.size)=some c'.size) (hs:c.size=c'.size) (h1:c'.toList.all (·.oneCell')=true)
  (h:wpList P ops Q rest (a.put o.dst undef) (w.setRow g c')):wpList P ops Q (o::rest) a w:=
 wpList_plain hgd λ_ hK=>jL ty x y ho g T c c' hx hy hg hi hs h1 (hK _ _ h)
theorem cd {w:World} (hgd:o.guard=none) (ty:TypeId) (x:Operand) (ho:o.op= .load ty x) (g:Nat) (T:TypeId) (c:Array Value) (d:TypeDesc)
  (hx:a.eval x= .pointer (some ⟨g,0,none⟩)) (hg:w.heap[g]? =some (.cells c T (0,0))) (hu:P.underlying ty=some d) (hd:d.isRow=true) (hi:(P.info? ty).map (·.size)=some c.size)
  (h:wpList P ops Q rest (a.put o.dst (.agg c)) w):wpList P ops Q (o::rest) a w:=
 wpList_load_row hgd ty x ho g hx T c (0,0) d hg hu (by cases d<;>simp_all) hi h
theorem aF {w:World} {g:Nat} {T:TypeId} {c:Array Value} (a:Array Value) (b:w.heap[g]? =some (.cells c T (0,0))):(w.setRow g a).heap[g]? =some (.cells a T (0,0)):=by
 simp[World.setRow,bY,b]
theorem Below.setRow' {B:Nat} {a w:World} (h:Below B a w) {g:Nat} (hg:B<=g) (c:Array Value):Below B a (w.setRow g c):=
 h.trans ⟨rfl,rfl,rfl,by simp[World.setRow],λk hk=>by
  simp only[World.setRow,bY]
  rw[aE (by omega)]⟩
end
end
end
end Go.Proofs.YtkhmicndehlneaaGreatDoor
