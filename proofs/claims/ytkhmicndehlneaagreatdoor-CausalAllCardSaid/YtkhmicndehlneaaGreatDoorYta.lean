/- Part 1 of the walks and plain laws that this claim uses, joined. Conditions: as each theorem states. -/
import Derived.BigQuiet
import Derived.Deep.OwnRows
import Derived.IntWalk
import Derived.KernelRfl
import Derived.Laws.BitsAllLaws
import Derived.Laws.IdiomStrings
import Derived.Laws.OwnMore
import Derived.Laws.Rows
import Derived.Lib.Hide
import Derived.Lib.QuietBelow
import Derived.Lib.RuneCount
import Derived.Lib.ValidU
import Derived.Lib.Varint
import Derived.Test.YtkhmicndehlneaaGreatDoorProg
import Derived.WalkKit
namespace Go.Proofs.YtkhmicndehlneaaGreatDoor
set_option maxRecDepth 100000
set_option maxHeartbeats 16000000
section
open Go.RowKit Go.Lib
section
variable {w : World} {g i : Nat} {T : TypeId} {fr : Nat × Nat} {c : Array Value} {v : Value}
theorem hid {p:Prop} (h:p):RowKit.Hid p:=h
theorem crw (h:w.heap[g]? =some (.cells c T fr)):w.cell? ⟨g,i,none⟩=c[i]? :=cell_of_row _ _ _ _ _ _ h
theorem cw0 {a0:Value} {l:List Value} (h:w.heap[g]? =some (.cells (List.toArray (a0::l)) T fr)):w.cell? ⟨g,0,none⟩=some a0:=crw h
theorem cw1 {a0 a1:Value} {l:List Value} (h:w.heap[g]? =some (.cells (List.toArray (a0::a1::l)) T fr)):w.cell? ⟨g,1,none⟩=some a1:=crw h
theorem cw2 {a0 a1 a2:Value} {l:List Value} (h:w.heap[g]? =some (.cells (List.toArray (a0::a1::a2::l)) T fr)):w.cell? ⟨g,2,none⟩=some a2:=crw h
theorem cw3 {a0 a1 a2 a3:Value} {l:List Value} (h:w.heap[g]? =some (.cells (List.toArray (a0::a1::a2::a3::l)) T fr)):w.cell? ⟨g,3,none⟩=some a3:=crw h
theorem cw4 {a0 a1 a2 a3 a4:Value} {l:List Value} (h:w.heap[g]? =some (.cells (List.toArray (a0::a1::a2::a3::a4::l)) T fr)):w.cell? ⟨g,4,none⟩=some a4:=crw h
theorem cw5 {a0 a1 a2 a3 a4 a5:Value} {l:List Value} (h:w.heap[g]? =some (.cells (List.toArray (a0::a1::a2::a3::a4::a5::l)) T fr)):w.cell? ⟨g,5,none⟩=some a5:=crw h
theorem cw6 {a0 a1 a2 a3 a4 a5 a6:Value} {l:List Value} (h:w.heap[g]? =some (.cells (List.toArray (a0::a1::a2::a3::a4::a5::a6::l)) T fr)):w.cell? ⟨g,6,none⟩=some a6:=crw h
theorem cw7 {a0 a1 a2 a3 a4 a5 a6 a7:Value} {l:List Value} (h:w.heap[g]? =some (.cells (List.toArray (a0::a1::a2::a3::a4::a5::a6::a7::l)) T fr)):w.cell? ⟨g,7,none⟩=some a7:=crw h
theorem cw8 {a0 a1 a2 a3 a4 a5 a6 a7 a8:Value} {l:List Value} (h:w.heap[g]? =some (.cells (List.toArray (a0::a1::a2::a3::a4::a5::a6::a7::a8::l)) T fr)):w.cell? ⟨g,8,none⟩=some a8:=crw h
theorem cw9 {a0 a1 a2 a3 a4 a5 a6 a7 a8 a9:Value} {l:List Value} (h:w.heap[g]? =some (.cells (List.toArray (a0::a1::a2::a3::a4::a5::a6::a7::a8::a9::l)) T fr)):w.cell? ⟨g,9,none⟩=some a9:=crw h
theorem cw10 {a0 a1 a2 a3 a4 a5 a6 a7 a8 a9 a10:Value} {l:List Value} (h:w.heap[g]? =some (.cells (List.toArray (a0::a1::a2::a3::a4::a5::a6::a7::a8::a9::a10::l)) T fr)):w.cell? ⟨g,10,none⟩=some a10:=crw h
theorem cw11 {a0 a1 a2 a3 a4 a5 a6 a7 a8 a9 a10 a11:Value} {l:List Value} (h:w.heap[g]? =some (.cells (List.toArray (a0::a1::a2::a3::a4::a5::a6::a7::a8::a9::a10::a11::l)) T fr)):w.cell? ⟨g,11,none⟩=some a11:=crw h
theorem cw12 {a0 a1 a2 a3 a4 a5 a6 a7 a8 a9 a10 a11 a12:Value} {l:List Value} (h:w.heap[g]? =some (.cells (List.toArray (a0::a1::a2::a3::a4::a5::a6::a7::a8::a9::a10::a11::a12::l)) T fr)):w.cell? ⟨g,12,none⟩=some a12:=crw h
theorem cw13 {a0 a1 a2 a3 a4 a5 a6 a7 a8 a9 a10 a11 a12 a13:Value} {l:List Value} (h:w.heap[g]? =some (.cells (List.toArray (a0::a1::a2::a3::a4::a5::a6::a7::a8::a9::a10::a11::a12::a13::l)) T fr)):w.cell? ⟨g,13,none⟩=some a13:=crw h
theorem cw14 {a0 a1 a2 a3 a4 a5 a6 a7 a8 a9 a10 a11 a12 a13 a14:Value} {l:List Value} (h:w.heap[g]? =some (.cells (List.toArray (a0::a1::a2::a3::a4::a5::a6::a7::a8::a9::a10::a11::a12::a13::a14::l)) T fr)):w.cell? ⟨g,14,none⟩=some a14:=crw h
theorem cw15 {a0 a1 a2 a3 a4 a5 a6 a7 a8 a9 a10 a11 a12 a13 a14 a15:Value} {l:List Value} (h:w.heap[g]? =some (.cells (List.toArray (a0::a1::a2::a3::a4::a5::a6::a7::a8::a9::a10::a11::a12::a13::a14::a15::l)) T fr)):w.cell? ⟨g,15,none⟩=some a15:=crw h
theorem cw16 {a0 a1 a2 a3 a4 a5 a6 a7 a8 a9 a10 a11 a12 a13 a14 a15 a16:Value} {l:List Value} (h:w.heap[g]? =some (.cells (List.toArray (a0::a1::a2::a3::a4::a5::a6::a7::a8::a9::a10::a11::a12::a13::a14::a15::a16::l)) T fr)):w.cell? ⟨g,16,none⟩=some a16:=crw h
theorem cw17 {a0 a1 a2 a3 a4 a5 a6 a7 a8 a9 a10 a11 a12 a13 a14 a15 a16 a17:Value} {l:List Value} (h:w.heap[g]? =some (.cells (List.toArray (a0::a1::a2::a3::a4::a5::a6::a7::a8::a9::a10::a11::a12::a13::a14::a15::a16::a17::l)) T fr)):w.cell? ⟨g,17,none⟩=some a17:=crw h
end
end
section
open Go.RowKit Go.Lib Go.Sort
section
variable {w : World} {g i : Nat} {T : TypeId} {fr : Nat × Nat} {c : Array Value} {v : Value}
theorem rgx (h:w.heap[g]? =some (.cells c T fr)) (e:c[i]? =some v) (d:Nat) (os:Array Obj):(grow (redrawn w d) os).cell? ⟨g,i,none⟩=some v:=cell_regrown (by rw[crw h];exact e) d os
theorem qz {P:Program} {ops:Array Oper} {Q:Act→World→Prop} {a:Act} (h:∀wq,Below w.heap.size w wq→Q a wq):wpQuiet P ops (fun w'=>∃p:Regrown,w'=grow (redrawn w p.d) p.os) (fun a'=>∀w',(∃p:Regrown,w'=grow (redrawn w p.d) p.os)→Q a' w') [] a:=by
 refine wpQuiet_nil ?_
 rintro w' ⟨p,rfl⟩
 exact h _ (below_regrown w p.d p.os)
theorem rqb {P:Program} {id:Nat} {Q:Exit→Act→World→Prop} {a:Act} {l:List Oper}
  (h:wpQuiet P l.toArray (fun w'=>∃p:Regrown,w'=grow (redrawn w p.d) p.os) (fun a'=>∀w',(∃p:Regrown,w'=grow (redrawn w p.d) p.os)→Q .normal a' w') l a)
  (hm:P.follows .mixedOrders=true:=by kernel_rfl) (hB:Region.lexB .any l.toArray=true:=by kernel_rfl):(Code.region id l.toArray true).wp P Q a w:=wp_region_quiet_below hm hB h
theorem rg0 {a0:Value} {l:List Value} (h:w.heap[g]? =some (.cells (List.toArray (a0::l)) T fr)):∀(d:Nat) (os:Array Obj),(grow (redrawn w d) os).cell? ⟨g,0,none⟩=some a0:=rgx h rfl
theorem rg1 {a0 a1:Value} {l:List Value} (h:w.heap[g]? =some (.cells (List.toArray (a0::a1::l)) T fr)):∀(d:Nat) (os:Array Obj),(grow (redrawn w d) os).cell? ⟨g,1,none⟩=some a1:=rgx h rfl
theorem rg2 {a0 a1 a2:Value} {l:List Value} (h:w.heap[g]? =some (.cells (List.toArray (a0::a1::a2::l)) T fr)):∀(d:Nat) (os:Array Obj),(grow (redrawn w d) os).cell? ⟨g,2,none⟩=some a2:=rgx h rfl
theorem rg3 {a0 a1 a2 a3:Value} {l:List Value} (h:w.heap[g]? =some (.cells (List.toArray (a0::a1::a2::a3::l)) T fr)):∀(d:Nat) (os:Array Obj),(grow (redrawn w d) os).cell? ⟨g,3,none⟩=some a3:=rgx h rfl
theorem rg4 {a0 a1 a2 a3 a4:Value} {l:List Value} (h:w.heap[g]? =some (.cells (List.toArray (a0::a1::a2::a3::a4::l)) T fr)):∀(d:Nat) (os:Array Obj),(grow (redrawn w d) os).cell? ⟨g,4,none⟩=some a4:=rgx h rfl
theorem rg5 {a0 a1 a2 a3 a4 a5:Value} {l:List Value} (h:w.heap[g]? =some (.cells (List.toArray (a0::a1::a2::a3::a4::a5::l)) T fr)):∀(d:Nat) (os:Array Obj),(grow (redrawn w d) os).cell? ⟨g,5,none⟩=some a5:=rgx h rfl
theorem rg6 {a0 a1 a2 a3 a4 a5 a6:Value} {l:List Value} (h:w.heap[g]? =some (.cells (List.toArray (a0::a1::a2::a3::a4::a5::a6::l)) T fr)):∀(d:Nat) (os:Array Obj),(grow (redrawn w d) os).cell? ⟨g,6,none⟩=some a6:=rgx h rfl
theorem rg7 {a0 a1 a2 a3 a4 a5 a6 a7:Value} {l:List Value} (h:w.heap[g]? =some (.cells (List.toArray (a0::a1::a2::a3::a4::a5::a6::a7::l)) T fr)):∀(d:Nat) (os:Array Obj),(grow (redrawn w d) os).cell? ⟨g,7,none⟩=some a7:=rgx h rfl
theorem rg8 {a0 a1 a2 a3 a4 a5 a6 a7 a8:Value} {l:List Value} (h:w.heap[g]? =some (.cells (List.toArray (a0::a1::a2::a3::a4::a5::a6::a7::a8::l)) T fr)):∀(d:Nat) (os:Array Obj),(grow (redrawn w d) os).cell? ⟨g,8,none⟩=some a8:=rgx h rfl
theorem rg9 {a0 a1 a2 a3 a4 a5 a6 a7 a8 a9:Value} {l:List Value} (h:w.heap[g]? =some (.cells (List.toArray (a0::a1::a2::a3::a4::a5::a6::a7::a8::a9::l)) T fr)):∀(d:Nat) (os:Array Obj),(grow (redrawn w d) os).cell? ⟨g,9,none⟩=some a9:=rgx h rfl
theorem rg10 {a0 a1 a2 a3 a4 a5 a6 a7 a8 a9 a10:Value} {l:List Value} (h:w.heap[g]? =some (.cells (List.toArray (a0::a1::a2::a3::a4::a5::a6::a7::a8::a9::a10::l)) T fr)):∀(d:Nat) (os:Array Obj),(grow (redrawn w d) os).cell? ⟨g,10,none⟩=some a10:=rgx h rfl
theorem rg11 {a0 a1 a2 a3 a4 a5 a6 a7 a8 a9 a10 a11:Value} {l:List Value} (h:w.heap[g]? =some (.cells (List.toArray (a0::a1::a2::a3::a4::a5::a6::a7::a8::a9::a10::a11::l)) T fr)):∀(d:Nat) (os:Array Obj),(grow (redrawn w d) os).cell? ⟨g,11,none⟩=some a11:=rgx h rfl
theorem rg12 {a0 a1 a2 a3 a4 a5 a6 a7 a8 a9 a10 a11 a12:Value} {l:List Value} (h:w.heap[g]? =some (.cells (List.toArray (a0::a1::a2::a3::a4::a5::a6::a7::a8::a9::a10::a11::a12::l)) T fr)):∀(d:Nat) (os:Array Obj),(grow (redrawn w d) os).cell? ⟨g,12,none⟩=some a12:=rgx h rfl
theorem rg13 {a0 a1 a2 a3 a4 a5 a6 a7 a8 a9 a10 a11 a12 a13:Value} {l:List Value} (h:w.heap[g]? =some (.cells (List.toArray (a0::a1::a2::a3::a4::a5::a6::a7::a8::a9::a10::a11::a12::a13::l)) T fr)):∀(d:Nat) (os:Array Obj),(grow (redrawn w d) os).cell? ⟨g,13,none⟩=some a13:=rgx h rfl
theorem rg14 {a0 a1 a2 a3 a4 a5 a6 a7 a8 a9 a10 a11 a12 a13 a14:Value} {l:List Value} (h:w.heap[g]? =some (.cells (List.toArray (a0::a1::a2::a3::a4::a5::a6::a7::a8::a9::a10::a11::a12::a13::a14::l)) T fr)):∀(d:Nat) (os:Array Obj),(grow (redrawn w d) os).cell? ⟨g,14,none⟩=some a14:=rgx h rfl
theorem rg15 {a0 a1 a2 a3 a4 a5 a6 a7 a8 a9 a10 a11 a12 a13 a14 a15:Value} {l:List Value} (h:w.heap[g]? =some (.cells (List.toArray (a0::a1::a2::a3::a4::a5::a6::a7::a8::a9::a10::a11::a12::a13::a14::a15::l)) T fr)):∀(d:Nat) (os:Array Obj),(grow (redrawn w d) os).cell? ⟨g,15,none⟩=some a15:=rgx h rfl
theorem rg16 {a0 a1 a2 a3 a4 a5 a6 a7 a8 a9 a10 a11 a12 a13 a14 a15 a16:Value} {l:List Value} (h:w.heap[g]? =some (.cells (List.toArray (a0::a1::a2::a3::a4::a5::a6::a7::a8::a9::a10::a11::a12::a13::a14::a15::a16::l)) T fr)):∀(d:Nat) (os:Array Obj),(grow (redrawn w d) os).cell? ⟨g,16,none⟩=some a16:=rgx h rfl
theorem rg17 {a0 a1 a2 a3 a4 a5 a6 a7 a8 a9 a10 a11 a12 a13 a14 a15 a16 a17:Value} {l:List Value} (h:w.heap[g]? =some (.cells (List.toArray (a0::a1::a2::a3::a4::a5::a6::a7::a8::a9::a10::a11::a12::a13::a14::a15::a16::a17::l)) T fr)):∀(d:Nat) (os:Array Obj),(grow (redrawn w d) os).cell? ⟨g,17,none⟩=some a17:=rgx h rfl
end
end
section
section
open Go.RowKit
theorem ret_int {k:IntKind} {a b:Int} (h:a=b):Ending.returned (Value.int k a)= .returned (.int k b):=by rw[h]
def Row1 (w:World) (B:Nat) (A:Option Addr) (n:Nat) (f:Nat→Value):Prop:=
 ∀k,k<n→∃ad:Addr,A=some ad∧ad.block<B∧w.cell? (ad.add k)=some (f k)
theorem add_block (a:Addr) (k:Nat):(a.add k).block=a.block:=by unfold Addr.add;split<;>rfl
theorem add_zero' (b k:Nat):(⟨b,0,none⟩:Addr).add k=⟨b,k,none⟩:=by
 unfold Addr.add
 by_cases h:k=0
 ·subst h;rfl
 ·rw[if_neg h];simp
section
variable {w w' : World} {B B' n : Nat} {A : Option Addr} {f g : Nat → Value}
theorem Row1.keep (h:Row1 w B A n f) (hk:∀p:Addr,p.block<B→w'.cell? p=w.cell? p):Row1 w' B A n f:=fun k hkn=>by
 obtain⟨ad,e,hb,hc⟩:=h k hkn
 exact⟨ad,e,hb,(hk _ (by rw[add_block];exact hb)).trans hc⟩
theorem Row1.more (h:Row1 w B A n f) (hB:B≤B'):Row1 w B' A n f:=fun k hkn=>by
 obtain⟨ad,e,hb,hc⟩:=h k hkn
 exact⟨ad,e,by omega,hc⟩
theorem Row1.below (h:Row1 w B A n f) (hb:Below B w w'):Row1 w' B A n f:=h.keep fun _ hp=>hb.cell hp
end
theorem bt {w w1 w2:World} (h:Below w.heap.size w w1) (h2:Below w1.heap.size w1 w2):Below w.heap.size w w2:=h.trans (h2.mono h.size)
theorem lt_of_cell {w:World} {a:Addr} {v:Value} (h:w.cell? a=some v):a.block<w.heap.size:=by
 rcases Nat.lt_or_ge a.block w.heap.size with hlt|hge
 ·exact hlt
 ·simp[World.cell?,Array.getElem?_eq_none hge] at h
def b8 (x:UInt8):Value:= .int .u8 (x.toNat:Int)
theorem conv_own {P:Program} (w:World) (src dst e:TypeId) (base:Nat) (v:Value) (n:Nat) (l:List UInt8) (hs:P.underlying src=some (.slice e)) (he:P.underlying e=some (.int .u8)) (hd:P.underlying dst=some .string)
  (h:w.ownsRow base e 1 v n (l.map b8)):(convert src dst v).run P w= .ok (.string ⟨l.toArray⟩) w:=by
 obtain rfl:n=l.length:=by have:=h.1;simpa using this.symm
 rcases h.2 with⟨rfl,hl⟩|⟨g,cap,cur,rfl,_⟩
 ·have:l=[]:=by simpa using hl
  subst this
  rw[run_convert_bytes_string w src dst e none 0 0 hs he hd]
  simp[Conv.bytesToString,Sem.run_pure]
  try rfl
 ·refine run_convert_bytes_back w src dst e _ cap l hs he hd fun j hj=> ?_
  exact h.cells (g:=g) rfl j _ (by simp[b8,hj])
end
section
open Go.Lib
set_option linter.unusedVariables false
structure Gst where
 t:Int
 r:Int
structure Gid where
 s:Gst
 i:Int
structure Gop where
 kind:Int
 node:Gid
 parent:Gid
 name:ByteArray
 dir:Bool
 dots:List Gst
 after:Gid
 elem:Gid
 text:ByteArray
 elems:List Gid
structure Grp where
 s:Gst
 n:Int
 deps:List Int
 u:Gst
 ops:List Gop
def Gst.zero:Gst:=⟨0,0⟩
def Gid.zero:Gid:=⟨⟨0,0⟩,0⟩
def Gst.right (s:Gst):Bool:=decide (1≤s.t) && decide (s.t≤1099511627776) && decide (1≤s.r) && decide (s.r≤16)
def Gst.lt (a b:Gst):Bool:=decide (a.t<b.t) || (decide (a.t=b.t) && decide (a.r<b.r))
def Gst.eqb (a b:Gst):Bool:=decide (a.t=b.t) && decide (a.r=b.r)
def Gid.right (x:Gid):Bool:=x.s.right && decide (0≤x.i) && decide (x.i≤400000)
def Gid.eqb (a b:Gid):Bool:=a.s.eqb b.s && decide (a.i=b.i)
def Gid.none (x:Gid):Bool:=x.eqb .zero
def Gid.lt (a b:Gid):Bool:=a.s.lt b.s || (a.s.eqb b.s && decide (a.i<b.i))
theorem Gst.eqb_iff {a b:Gst}:a.eqb b=true↔a=b:=by
 cases a;cases b;simp[Gst.eqb]
theorem Gid.eqb_iff {a b:Gid}:a.eqb b=true↔a=b:=by
 cases a;cases b;simp[Gid.eqb,Gst.eqb_iff]
def atV (v:List Int) (r:Int):Int:=if r<1 then 0 else v.getD (r-1).toNat 0
def plainV (v:List Int):List Int:=(v.reverse.dropWhile (fun x=>decide (x=0))).reverse
def vecB (v:List Int):Bool:=v.all (fun x=>decide (0≤x)) && decide (v.length≤16) && decide ((plainV v).length=v.length)
def aheadB (g:Gst) (x:Gid) (k:Nat):Bool:=x.right && (x.s.lt g || (x.s.eqb g && decide (x.i<k)))
def parentB (g:Gst) (x:Gid) (k:Nat):Bool:=x.none || aheadB g x k
def allIx (n:Nat) (p:Nat→Bool):Bool:=(List.range n).all p
theorem allIx_true {n:Nat} {p:Nat→Bool} (h:∀i,i<n→p i=true):allIx n p=true:=by
 unfold allIx;rw[List.all_eq_true];intro i hi;exact h i (List.mem_range.1 hi)
theorem allIx_of {n:Nat} {p:Nat→Bool} (h:allIx n p=true):∀i,i<n→p i=true:=by
 unfold allIx at h;rw[List.all_eq_true] at h;intro i hi;exact h i (List.mem_range.2 hi)
theorem allIx_false {n:Nat} {p:Nat→Bool} {i:Nat} (hi:i<n) (h:p i=false):allIx n p=false:=by
 cases e:allIx n p with
 |false=>rfl
 |true=>rw[allIx_of e i hi] at h;cases h
def dotB (g:Gst) (l:List Gst) (i:Nat):Bool:=(l.getD i .zero).right && !(g.lt (l.getD i .zero)) && (decide (i=0) || (l.getD (i-1) .zero).lt (l.getD i .zero))
def dotsB (g:Gst) (l:List Gst):Bool:=allIx l.length (dotB g l) && decide (l.length≤200)
def elemB (g:Gst) (l:List Gid) (k:Nat) (i:Nat):Bool:=aheadB g (l.getD i .zero) k && (decide (i=0) || (l.getD (i-1) .zero).lt (l.getD i .zero))
def elemsB (g:Gst) (l:List Gid) (k:Nat):Bool:=allIx l.length (fun i=>elemB g l k i) && decide (1≤l.length) && decide (l.length≤2000)
def signB (b:UInt8):Bool:=(decide (48≤b.toNat) && decide (b.toNat≤57)) || (decide (65≤b.toNat) && decide (b.toNat≤90)) || (decide (97≤b.toNat) && decide (b.toNat≤122)) || decide (b.toNat=46) || decide (b.toNat=45) || decide (b.toNat=95)
def nameB (s:ByteArray):Bool:=decide (s.data.toList≠[]) && decide (s.size≤32) && decide (s.data.toList≠[46]) && decide (s.data.toList≠[46,46]) && s.data.toList.all signB
def textB (s:ByteArray):Bool:=validD s.data.toList && decide (1≤runeCount s) && decide (runeCount s≤2000)
def bareB (o:Gop):Bool:=
 (decide (o.kind=0) || decide (o.kind=1) || (o.parent.none && decide (o.name.data.toList=[]))) && (decide (o.kind=0) || !o.dir) && (decide (o.kind=2) || decide (o.dots.length=0)) &&
 (decide (o.kind=3) || (o.after.none && o.elem.none && decide (o.text.data.toList=[]))) && (decide (o.kind=4) || decide (o.elems.length=0))
def kindB (g:Gst) (o:Gop) (k:Nat):Bool:=
 if o.kind=0 then o.node.eqb ⟨g,k⟩ && parentB g o.parent k && nameB o.name
 else if o.kind=1 then aheadB g o.node k && parentB g o.parent k && nameB o.name
 else if o.kind=2 then aheadB g o.node k && dotsB g o.dots
 else if o.kind=3 then aheadB g o.node k && parentB g o.after k && o.elem.eqb ⟨g,k⟩ && textB o.text
 else if o.kind=4 then aheadB g o.node k && elemsB g o.elems k
 else false
def opB (g:Gst) (o:Gop) (k:Nat):Bool:=bareB o && kindB g o k
def moreOf (o:Gop):Nat:=if o.kind=0 then 1 else if o.kind=3 then runeCount o.text else 0
def opsB (g:Gst):List Gop→Nat→Bool
 | [],_=>true
 |o::l,k=>opB g o k && opsB g l (k+moreOf o)
def headB (g:Grp):Bool:=g.s.right && decide (1≤g.n) && decide (g.n≤1099511627776) && vecB g.deps && decide (atV g.deps g.s.r=g.n-1)
def chkB (g:Grp):Bool:=
 headB g && (if g.u.eqb .zero=true then decide (1≤g.ops.length) && decide (g.ops.length≤200) && opsB g.s g.ops 0 else g.u.right && g.u.lt g.s && decide (g.ops.length=0))
abbrev Rd (α:Type):=List UInt8→Option (α×List UInt8)
def rbind {α β:Type} (p:Rd α) (f:α→Rd β):Rd β:=fun l=>match p l with
 |some (a,r)=>f a r
 |none=>none
def rpure {α:Type} (a:α):Rd α:=fun l=>some (a,l)
def timesR {α:Type} (one:Rd α):Nat→Rd (List α)
 |0=>rpure []
 |n+1=>rbind one fun x=>rbind (timesR one n) fun xs=>rpure (x::xs)
def opO (k:Int) (node:Gid):Gop:=⟨k,node,.zero,⟨#[]⟩,false,[],.zero,.zero,⟨#[]⟩,[]⟩
theorem bs_nil {s:ByteArray}:s.data.toList=[]↔s=⟨#[]⟩:=⟨fun h=>ByteArray.ext (Array.toList_inj.1 h),fun h=>by rw[h]⟩
theorem getD_of_mem {α:Type} {l:List α} {x z:α} (h:x∈l):∃i,i<l.length∧l.getD i z=x:=by
 obtain⟨i,hi,e⟩:=List.mem_iff_getElem.1 h
 exact⟨i,hi,by rw[List.getD_eq_getElem?_getD,List.getElem?_eq_getElem hi];exact e⟩
theorem more_le {g:Gst} {o:Gop} {k:Nat} (h:opB g o k=true):moreOf o≤2000:=by
 simp only[opB,Bool.and_eq_true] at h
 have h:=h.2
 unfold kindB at h
 unfold moreOf
 by_cases k0:o.kind=0
 ·rw[if_pos k0];omega
 rw[if_neg k0] at h ⊢
 by_cases k3:o.kind=3
 ·rw[if_neg (by omega),if_neg (by omega),if_pos k3] at h
  rw[if_pos k3]
  simp only[textB,Bool.and_eq_true,decide_eq_true_eq] at h
  exact h.2.2
 ·rw[if_neg k3];omega
end
section
open Go.Lib
set_option linter.unusedVariables false
set_option linter.unusedSectionVars false
structure Later (a b:Gst):Prop where
 ra:a.right=true
 rb:b.right=true
 lt:a.t<b.t
end
section
open Go.Lib
set_option linter.unusedVariables false
def gz:Grp:=⟨.zero,0,[],.zero,[]⟩
def covB (v w:List Int):Bool:=allIx (max v.length w.length) fun r=>decide (w.getD r 0≤v.getD r 0)
def setV (v:List Int) (r n:Int):List Int:=(List.range (max v.length r.toNat)).map fun (k:Nat)=>if (k:Int)+1=r then n else v.getD k 0
def withV (v:List Int) (r n:Int):List Int:=plainV (setV v r n)
theorem pv_snoc0 (v:List Int):plainV (v++[0])=plainV v:=by unfold plainV;simp
theorem pv_snoc (v:List Int) (x:Int) (h:x≠0):plainV (v++[x])=v++[x]:=by unfold plainV;simp[h]
theorem getD_snoc (v:List Int) (x:Int) (k:Nat):(v++[x]).getD k 0=if k=v.length then x else v.getD k 0:=by
 simp only[List.getD_eq_getElem?_getD,List.getElem?_append,List.getElem?_singleton]
 by_cases h1:k<v.length
 ·rw[if_pos h1,if_neg (by omega)]
 ·rw[if_neg h1]
  by_cases h2:k=v.length
  ·rw[if_pos h2,if_pos (by omega)];rfl
  ·rw[if_neg h2,if_neg (by omega),List.getElem?_eq_none (by omega)]
theorem snoc_ind {P:List Int→Prop} (h0:P []) (h1:∀v x,P v→P (v++[x])) (v:List Int):P v:=by
 have:∀u:List Int,P u.reverse:=fun u=>by
  induction u with
  |nil=>exact h0
  |cons a u ih=>rw[List.reverse_cons];exact h1 _ _ ih
 have h:=this v.reverse
 rwa[List.reverse_reverse] at h
theorem pv_getD (v:List Int) (k:Nat):(plainV v).getD k 0=v.getD k 0:=by
 refine snoc_ind (P:=fun v=>(plainV v).getD k 0=v.getD k 0) rfl (fun v x ih=> ?_) v
 by_cases hx:x=0
 ·subst hx
  rw[pv_snoc0,ih,getD_snoc]
  split
  ·rename_i h;subst h;simp[List.getD_eq_getElem?_getD]
  ·rfl
 ·rw[pv_snoc _ _ hx]
theorem pv_len (v:List Int):(plainV v).length≤v.length:=by
 refine snoc_ind (P:=fun v=>(plainV v).length≤v.length) (Nat.le_refl _) (fun v x ih=> ?_) v
 by_cases hx:x=0
 ·subst hx;rw[pv_snoc0,List.length_append];omega
 ·rw[pv_snoc _ _ hx];exact Nat.le_refl _
theorem pv_pv (v:List Int):plainV (plainV v)=plainV v:=by
 refine snoc_ind (P:=fun v=>plainV (plainV v)=plainV v) rfl (fun v x ih=> ?_) v
 by_cases hx:x=0
 ·subst hx;rw[pv_snoc0];exact ih
 ·rw[pv_snoc _ _ hx,pv_snoc _ _ hx]
theorem atV_nat {v:List Int} {r:Int} (h:1≤r):atV v r=v.getD (r-1).toNat 0:=by unfold atV;rw[if_neg (by omega)]
theorem setV_getD (v:List Int) (r n:Int) (k:Nat) (hr:1≤r):(setV v r n).getD k 0=if (k:Int)+1=r then n else v.getD k 0:=by
 unfold setV
 rw[List.getD_eq_getElem?_getD,List.getElem?_map]
 by_cases h:k<max v.length r.toNat
 ·rw[List.getElem?_range h];rfl
 ·rw[List.getElem?_eq_none (by simpa using h),Option.map_none,Option.getD_none,if_neg (by omega)]
  simp[List.getD_eq_getElem?_getD,List.getElem?_eq_none (show v.length≤k by omega)]
theorem withV_getD (v:List Int) (r n:Int) (k:Nat) (hr:1≤r):(withV v r n).getD k 0=if (k:Int)+1=r then n else v.getD k 0:=by
 unfold withV;rw[pv_getD,setV_getD v r n k hr]
theorem atV_with (v:List Int) (r n q:Int) (hr:1≤r):atV (withV v r n) q=if q=r then n else atV v q:=by
 unfold atV
 by_cases hq:q<1
 ·rw[if_pos hq,if_neg (by omega),if_pos hq]
 ·rw[if_neg hq,if_neg hq,withV_getD _ _ _ _ hr]
  by_cases h:q=r
  ·rw[if_pos h,if_pos (by omega)]
  ·rw[if_neg h,if_neg (by omega)]
theorem withV_plain (v:List Int) (r n:Int):plainV (withV v r n)=withV v r n:=pv_pv _
theorem covB_iff {v w:List Int}:covB v w=true↔∀k,w.getD k 0≤v.getD k 0:=by
 refine⟨fun h k=> ?_,fun h=>allIx_true fun k _=>decide_eq_true (h k)⟩
 by_cases hk:k<max v.length w.length
 ·have:=allIx_of h k hk;simpa using this
 ·simp[List.getD_eq_getElem?_getD,List.getElem?_eq_none (show v.length≤k by omega),List.getElem?_eq_none (show w.length≤k by omega)]
theorem covB_at {v w:List Int} (h:covB v w=true) (r:Int):atV w r≤atV v r:=by
 unfold atV;split
 ·exact Int.le_refl _
 ·exact covB_iff.1 h _
structure Bx where
 done:List Grp
 wait:List Grp
 v:List Int
def Bx.new:Bx:=⟨[],[],[]⟩
def readyB (v:List Int) (g:Grp):Bool:=covB v g.deps
def oldB (v:List Int) (g:Grp):Bool:=decide (g.n≤atV v g.s.r)
def clashB (a g:Grp):Bool:=(decide (a.s.r=g.s.r) && decide (a.n=g.n)) || a.s.eqb g.s
def knownB (b:Bx) (g:Grp):Bool:=b.done.any (fun d=>d.s.eqb g.s) || oldB b.v g || b.wait.any (fun a=>clashB a g)
def Bx.put (b:Bx) (g:Grp):Bx:=⟨b.done++[g],b.wait,withV b.v g.s.r g.n⟩
def behB (l:List Grp) (g:Grp):Option Nat→Bool
 |none=>true
 |some k=>g.s.lt (l.getD k gz).s
def bestN (v:List Int) (l:List Grp):Nat→Option Nat
 |0=>none
 |i+1=>if readyB v (l.getD i gz) && behB l (l.getD i gz) (bestN v l i) then some i else bestN v l i
theorem bestN_lt {v:List Int} {l:List Grp}:∀{n k:Nat},bestN v l n=some k→k<n∧readyB v (l.getD k gz)=true
 |0,k,h=>by cases h
 | n+1,k,h=>by
  unfold bestN at h
  split at h
  ·rename_i c
   simp only[Bool.and_eq_true] at c
   cases h
   exact⟨by omega,c.1⟩
  ·have:=bestN_lt h
   exact⟨by omega,this.2⟩
theorem bestN_none {v:List Int} {l:List Grp}:∀{n:Nat},bestN v l n=none→∀k,k<n→readyB v (l.getD k gz)=false
 |0,h=>fun k hk=>by omega
 | n+1,h=>fun k hk=>by
  unfold bestN at h
  split at h
  ·cases h
  ·rename_i c
   rw[h] at c
   simp only[behB,Bool.and_true,Bool.not_eq_true] at c
   rcases Nat.lt_or_ge k n with h1|h1
   ·exact bestN_none h k h1
   ·obtain rfl:k=n:=by omega
    exact c
def drainF:Nat→Bx→Bx×Nat
 |0,b=>(b,0)
 | f+1,b=>match bestN b.v b.wait b.wait.length with
  |none=>(b,0)
  |some k=>
   if oldB b.v (b.wait.getD k gz)=true then drainF f ⟨b.done,b.wait.eraseIdx k,b.v⟩
   else ((drainF f (Bx.put ⟨b.done,b.wait.eraseIdx k,b.v⟩ (b.wait.getD k gz))).1,(drainF f (Bx.put ⟨b.done,b.wait.eraseIdx k,b.v⟩ (b.wait.getD k gz))).2+1)
theorem drainF_none {f:Nat} {b:Bx} (h:bestN b.v b.wait b.wait.length=none):drainF f b=(b,0):=by
 cases f with
 |zero=>rfl
 |succ f=>unfold drainF;rw[h]
theorem drainF_old {f k:Nat} {b:Bx} (h:bestN b.v b.wait b.wait.length=some k) (ho:oldB b.v (b.wait.getD k gz)=true):drainF (f+1) b=drainF f ⟨b.done,b.wait.eraseIdx k,b.v⟩:=by
 rw[drainF,h];simp only;rw[if_pos ho]
theorem drainF_put {f k:Nat} {b:Bx} (h:bestN b.v b.wait b.wait.length=some k) (ho:oldB b.v (b.wait.getD k gz)=false):
  drainF (f+1) b=((drainF f (Bx.put ⟨b.done,b.wait.eraseIdx k,b.v⟩ (b.wait.getD k gz))).1,(drainF f (Bx.put ⟨b.done,b.wait.eraseIdx k,b.v⟩ (b.wait.getD k gz))).2+1):=by
 rw[drainF,h];simp only;rw[ho,if_neg (by decide)]
def hearB (b:Bx) (g:Grp):Bx×Nat×Int:=
 if chkB g=false then (b,0,80)
 else if knownB b g=true then (b,0,210)
 else if readyB b.v g=true then ((drainF b.wait.length (b.put g)).1,(drainF b.wait.length (b.put g)).2+1,0)
 else if 100≤b.wait.length then (b,0,211)
 else (⟨b.done,b.wait++[g],b.v⟩,0,0)
def aheadV:List Int→List Grp→Option (List Int)
 |v,[]=>some v
 |v,g::l=>if chkB g && covB v g.deps && decide (atV v g.s.r=g.n-1) then aheadV (withV v g.s.r g.n) l else none
theorem aheadV_append:∀(l m:List Grp) (v:List Int),aheadV v (l++m)=(aheadV v l).bind fun u=>aheadV u m
 | [],m,v=>rfl
 |g::l,m,v=>by
  simp only[List.cons_append,aheadV]
  split
  ·exact aheadV_append l m _
  ·rfl
theorem aheadV_snoc {l:List Grp} {v u:List Int} {g:Grp} (h:aheadV v l=some u) (hc:chkB g=true) (hr:covB u g.deps=true) (hn:atV u g.s.r=g.n-1):aheadV v (l++[g])=some (withV u g.s.r g.n):=by
 rw[aheadV_append,h]
 simp[aheadV,hc,hr,hn]
structure BxOk (b:Bx):Prop where
 apart:((b.done++b.wait).map (·.s)).Nodup
 chk:∀g∈b.done++b.wait,chkB g=true
 ahead:aheadV [] b.done=some b.v
theorem chk_right {g:Grp} (h:chkB g=true):g.s.right=true∧1≤g.n∧g.n≤1099511627776∧atV g.deps g.s.r=g.n-1:=by
 simp only[chkB,headB,Bool.and_eq_true,decide_eq_true_eq] at h
 exact⟨h.1.1.1.1.1,h.1.1.1.1.2,h.1.1.1.2,h.1.2⟩
theorem right_r {s:Gst} (h:s.right=true):1≤s.r∧s.r≤16:=by
 simp only[Gst.right,Bool.and_eq_true,decide_eq_true_eq] at h
 exact⟨h.1.2,h.2⟩
theorem next_n {v:List Int} {g:Grp} (hc:chkB g=true) (hr:readyB v g=true) (ho:oldB v g=false):atV v g.s.r=g.n-1:=by
 have h1:=(chk_right hc).2.2.2
 have h2:=covB_at hr g.s.r
 simp only[oldB,decide_eq_false_iff_not] at ho
 omega
theorem BxOk.new:BxOk Bx.new:=⟨List.nodup_nil,fun g h=>(by cases h),rfl⟩
theorem BxOk.put {b:Bx} (h:BxOk b) {g:Grp} (hc:chkB g=true) (hr:readyB b.v g=true) (ho:oldB b.v g=false) (hs:∀x∈b.done++b.wait,x.s≠g.s):BxOk (b.put g):=by
 refine⟨?_,fun x hx=> ?_,aheadV_snoc h.ahead hc hr (next_n hc hr ho)⟩
 ·have e:((b.put g).done++(b.put g).wait).map (·.s)=b.done.map (·.s)++(g.s::b.wait.map (·.s)):=by simp[Bx.put]
  rw[e,List.perm_middle.nodup_iff,List.nodup_cons]
  refine⟨fun hm=> ?_,by simpa using h.apart⟩
  rw[←List.map_append,List.mem_map] at hm
  obtain⟨x,hx,he⟩:=hm
  exact hs x hx he
 ·simp only[Bx.put,List.mem_append,List.mem_singleton] at hx
  rcases hx with(hx|rfl)|hx
  ·exact h.chk x (by simp[hx])
  ·exact hc
  ·exact h.chk x (by simp[hx])
theorem BxOk.drop {b:Bx} (h:BxOk b) (k:Nat):BxOk ⟨b.done,b.wait.eraseIdx k,b.v⟩:=by
 have hsub:(b.done++b.wait.eraseIdx k).Sublist (b.done++b.wait):=(List.Sublist.refl _).append (List.eraseIdx_sublist _ _)
 exact⟨(hsub.map _).nodup h.apart,fun g hg=>h.chk g (hsub.subset hg),h.ahead⟩
theorem getD_mem {l:List Grp} {k:Nat} (hk:k<l.length):l.getD k gz∈l:=by
 rw[List.getD_eq_getElem?_getD,List.getElem?_eq_getElem hk];exact List.getElem_mem hk
theorem erase_ne {l:List Grp} {k:Nat} (hk:k<l.length) (h:(l.map (·.s)).Nodup):∀x∈l.eraseIdx k,x.s≠(l.getD k gz).s:=by
 intro x hx e
 have e2:l.getD k gz=l[k]:=by simp[List.getD_eq_getElem?_getD,hk]
 rw[e2] at e
 rw[List.mem_eraseIdx_iff_getElem] at hx
 obtain⟨i,hi,hne,hx⟩:=hx
 have:=(List.pairwise_iff_getElem.1 h)
 have hik:(l.map (·.s))[i]'(by simpa using hi)=(l.map (·.s))[k]'(by simpa using hk):=by simp[hx,e]
 exact hne ((List.getElem_inj h).1 hik)
theorem drainF_ok:∀(f:Nat) (b:Bx),BxOk b→BxOk (drainF f b).1
 |0,b,h=>h
 | f+1,b,h=>by
  cases hb:bestN b.v b.wait b.wait.length with
  |none=>rw[drainF_none hb];exact h
  | some k=>
   obtain⟨hk,hr⟩:=bestN_lt hb
   cases ho:oldB b.v (b.wait.getD k gz) with
   |true=>rw[drainF_old hb ho];exact drainF_ok f _ (h.drop k)
   |false=>
    rw[drainF_put hb ho]
    refine drainF_ok f _ ((h.drop k).put (h.chk _ (List.mem_append.2 (.inr (getD_mem hk)))) hr ho fun x hx=> ?_)
    have hn:=h.apart
    rw[List.map_append,List.nodup_append] at hn
    rcases List.mem_append.1 hx with hx|hx
    ·exact fun e=>hn.2.2 _ (List.mem_map.2 ⟨x,hx,rfl⟩) _ (List.mem_map.2 ⟨_,getD_mem hk,rfl⟩) e
    ·exact erase_ne hk hn.2.1 x hx
theorem not_known {b:Bx} {g:Grp} (h:knownB b g=false):oldB b.v g=false∧∀x∈b.done++b.wait,x.s≠g.s:=by
 simp only[knownB,Bool.or_eq_false_iff,List.any_eq_false] at h
 refine⟨h.1.2,fun x hx e=> ?_⟩
 rcases List.mem_append.1 hx with hx|hx
 ·exact h.1.1 x hx (by rw[Gst.eqb_iff];exact e)
 ·refine h.2 x hx ?_
  unfold clashB
  rw[Bool.or_eq_true,Gst.eqb_iff]
  exact .inr e
theorem hearB_ok {b:Bx} (h:BxOk b) (g:Grp):BxOk (hearB b g).1:=by
 unfold hearB
 split
 ·exact h
 ·rename_i hc
  simp only[Bool.not_eq_false] at hc
  split
  ·exact h
  ·rename_i hk
   simp only[Bool.not_eq_true] at hk
   obtain⟨h1,h2⟩:=not_known hk
   split
   ·rename_i hr
    exact drainF_ok _ _ (h.put hc hr h1 h2)
   ·split
    ·exact h
    ·refine⟨?_,fun x hx=> ?_,h.ahead⟩
     ·show((b.done++(b.wait++[g])).map (·.s)).Nodup
      rw[←List.append_assoc,List.map_append,List.nodup_append]
      refine⟨h.apart,by simp,fun a ha c hc'=> ?_⟩
      simp only[List.map_cons,List.map_nil,List.mem_singleton] at hc'
      obtain⟨x,hx,rfl⟩:=List.mem_map.1 ha
      rw[hc'];exact h2 x hx
     ·simp only[List.mem_append,List.mem_singleton] at hx
      rcases hx with hx|hx|rfl
      ·exact h.chk x (by simp[hx])
      ·exact h.chk x (by simp[hx])
      ·exact hc
end
section
open Go.Lib
set_option linter.unusedVariables false
theorem vecB_nn {v:List Int} (h:vecB v=true):(∀x∈v,0≤x)∧v.length≤16:=by
 simp only[vecB,Bool.and_eq_true,List.all_eq_true,decide_eq_true_eq] at h
 exact⟨h.1.1,h.1.2⟩
end
end
end Go.Proofs.YtkhmicndehlneaaGreatDoor
