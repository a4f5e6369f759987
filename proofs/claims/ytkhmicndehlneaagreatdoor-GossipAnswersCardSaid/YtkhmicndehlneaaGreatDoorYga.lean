/- Part 1 of the walks and plain laws that this claim uses, joined. Conditions: as each theorem states. -/
import Derived.BigQuiet
import Derived.Deep.OwnRows
import Derived.IntWalk
import Derived.KernelRfl
import Derived.Laws.BitsAllLaws
import Derived.Laws.IdiomStrings
import Derived.Laws.OwnMore
import Derived.Laws.Rows
import Derived.Lib.Hide
import Derived.Lib.QuietBelow
import Derived.Lib.RuneCount
import Derived.Lib.ValidU
import Derived.Lib.Varint
import Derived.Test.YtkhmicndehlneaaGreatDoorProg
import Derived.WalkKit
import Derived.Test.YtkhmicndehlneaaGreatDoorYg0
namespace Go.Proofs.YtkhmicndehlneaaGreatDoor
set_option maxRecDepth 100000
set_option maxHeartbeats 16000000
set_option linter.unusedVariables false
section
open Go.RowKit Go.Lib
section
variable {w : World} {g i : Nat} {T : TypeId} {fr : Nat × Nat} {c : Array Value} {v : Value}
theorem hid {p:Prop} (h:p):RowKit.Hid p:=h
theorem crw (h:w.heap[g]? =some (.cells c T fr)):w.cell? ⟨g,i,none⟩=c[i]? :=cell_of_row _ _ _ _ _ _ h
theorem cw0 {a0:Value} {l:List Value} (h:w.heap[g]? =some (.cells (List.toArray (a0::l)) T fr)):w.cell? ⟨g,0,none⟩=some a0:=crw h
theorem cw1 {a0 a1:Value} {l:List Value} (h:w.heap[g]? =some (.cells (List.toArray (a0::a1::l)) T fr)):w.cell? ⟨g,1,none⟩=some a1:=crw h
theorem cw2 {a0 a1 a2:Value} {l:List Value} (h:w.heap[g]? =some (.cells (List.toArray (a0::a1::a2::l)) T fr)):w.cell? ⟨g,2,none⟩=some a2:=crw h
theorem cw3 {a0 a1 a2 a3:Value} {l:List Value} (h:w.heap[g]? =some (.cells (List.toArray (a0::a1::a2::a3::l)) T fr)):w.cell? ⟨g,3,none⟩=some a3:=crw h
theorem cw4 {a0 a1 a2 a3 a4:Value} {l:List Value} (h:w.heap[g]? =some (.cells (List.toArray (a0::a1::a2::a3::a4::l)) T fr)):w.cell? ⟨g,4,none⟩=some a4:=crw h
theorem cw5 {a0 a1 a2 a3 a4 a5:Value} {l:List Value} (h:w.heap[g]? =some (.cells (List.toArray (a0::a1::a2::a3::a4::a5::l)) T fr)):w.cell? ⟨g,5,none⟩=some a5:=crw h
theorem cw6 {a0 a1 a2 a3 a4 a5 a6:Value} {l:List Value} (h:w.heap[g]? =some (.cells (List.toArray (a0::a1::a2::a3::a4::a5::a6::l)) T fr)):w.cell? ⟨g,6,none⟩=some a6:=crw h
theorem cw7 {a0 a1 a2 a3 a4 a5 a6 a7:Value} {l:List Value} (h:w.heap[g]? =some (.cells (List.toArray (a0::a1::a2::a3::a4::a5::a6::a7::l)) T fr)):w.cell? ⟨g,7,none⟩=some a7:=crw h
theorem cw8 {a0 a1 a2 a3 a4 a5 a6 a7 a8:Value} {l:List Value} (h:w.heap[g]? =some (.cells (List.toArray (a0::a1::a2::a3::a4::a5::a6::a7::a8::l)) T fr)):w.cell? ⟨g,8,none⟩=some a8:=crw h
theorem cw9 {a0 a1 a2 a3 a4 a5 a6 a7 a8 a9:Value} {l:List Value} (h:w.heap[g]? =some (.cells (List.toArray (a0::a1::a2::a3::a4::a5::a6::a7::a8::a9::l)) T fr)):w.cell? ⟨g,9,none⟩=some a9:=crw h
theorem cw10 {a0 a1 a2 a3 a4 a5 a6 a7 a8 a9 a10:Value} {l:List Value} (h:w.heap[g]? =some (.cells (List.toArray (a0::a1::a2::a3::a4::a5::a6::a7::a8::a9::a10::l)) T fr)):w.cell? ⟨g,10,none⟩=some a10:=crw h
theorem cw11 {a0 a1 a2 a3 a4 a5 a6 a7 a8 a9 a10 a11:Value} {l:List Value} (h:w.heap[g]? =some (.cells (List.toArray (a0::a1::a2::a3::a4::a5::a6::a7::a8::a9::a10::a11::l)) T fr)):w.cell? ⟨g,11,none⟩=some a11:=crw h
theorem cw12 {a0 a1 a2 a3 a4 a5 a6 a7 a8 a9 a10 a11 a12:Value} {l:List Value} (h:w.heap[g]? =some (.cells (List.toArray (a0::a1::a2::a3::a4::a5::a6::a7::a8::a9::a10::a11::a12::l)) T fr)):w.cell? ⟨g,12,none⟩=some a12:=crw h
theorem cw13 {a0 a1 a2 a3 a4 a5 a6 a7 a8 a9 a10 a11 a12 a13:Value} {l:List Value} (h:w.heap[g]? =some (.cells (List.toArray (a0::a1::a2::a3::a4::a5::a6::a7::a8::a9::a10::a11::a12::a13::l)) T fr)):w.cell? ⟨g,13,none⟩=some a13:=crw h
theorem cw14 {a0 a1 a2 a3 a4 a5 a6 a7 a8 a9 a10 a11 a12 a13 a14:Value} {l:List Value} (h:w.heap[g]? =some (.cells (List.toArray (a0::a1::a2::a3::a4::a5::a6::a7::a8::a9::a10::a11::a12::a13::a14::l)) T fr)):w.cell? ⟨g,14,none⟩=some a14:=crw h
theorem cw15 {a0 a1 a2 a3 a4 a5 a6 a7 a8 a9 a10 a11 a12 a13 a14 a15:Value} {l:List Value} (h:w.heap[g]? =some (.cells (List.toArray (a0::a1::a2::a3::a4::a5::a6::a7::a8::a9::a10::a11::a12::a13::a14::a15::l)) T fr)):w.cell? ⟨g,15,none⟩=some a15:=crw h
theorem cw16 {a0 a1 a2 a3 a4 a5 a6 a7 a8 a9 a10 a11 a12 a13 a14 a15 a16:Value} {l:List Value} (h:w.heap[g]? =some (.cells (List.toArray (a0::a1::a2::a3::a4::a5::a6::a7::a8::a9::a10::a11::a12::a13::a14::a15::a16::l)) T fr)):w.cell? ⟨g,16,none⟩=some a16:=crw h
theorem cw17 {a0 a1 a2 a3 a4 a5 a6 a7 a8 a9 a10 a11 a12 a13 a14 a15 a16 a17:Value} {l:List Value} (h:w.heap[g]? =some (.cells (List.toArray (a0::a1::a2::a3::a4::a5::a6::a7::a8::a9::a10::a11::a12::a13::a14::a15::a16::a17::l)) T fr)):w.cell? ⟨g,17,none⟩=some a17:=crw h
end
end
section
open Go.RowKit Go.Lib Go.Sort
section
variable {w : World} {g i : Nat} {T : TypeId} {fr : Nat × Nat} {c : Array Value} {v : Value}
theorem rgx (h:w.heap[g]? =some (.cells c T fr)) (e:c[i]? =some v) (d:Nat) (os:Array Obj):(grow (redrawn w d) os).cell? ⟨g,i,none⟩=some v:=cell_regrown (by rw[crw h];exact e) d os
theorem qz {P:Program} {ops:Array Oper} {Q:Act->World->Prop} {a:Act} (h:∀wq,Below w.heap.size w wq->Q a wq):wpQuiet P ops (λw'=>∃p:Regrown,w'=grow (redrawn w p.d) p.os) (λa'=>∀w',(∃p:Regrown,w'=grow (redrawn w p.d) p.os)->Q a' w') [] a:=by
 refine wpQuiet_nil ?_;rintro w' ⟨p,rfl⟩;exact h _ (below_regrown w p.d p.os)
theorem rqb {P:Program} {id:Nat} {Q:Exit→Act→World→Prop} {a:Act} {l:List Oper}
  (h:wpQuiet P l.toArray (fun w'=>∃p:Regrown,w'=grow (redrawn w p.d) p.os) (fun a'=>∀w',(∃p:Regrown,w'=grow (redrawn w p.d) p.os)→Q .normal a' w') l a)
  (hm:P.follows .mixedOrders=true:=by kernel_rfl) (hB:Region.lexB .any l.toArray=true:=by kernel_rfl):(Code.region id l.toArray true).wp P Q a w:=wp_region_quiet_below hm hB h
theorem rg0 {a0:Value} {l:List Value} (h:w.heap[g]? =some (.cells (List.toArray (a0::l)) T fr)):∀(d:Nat) (os:Array Obj),(grow (redrawn w d) os).cell? ⟨g,0,none⟩=some a0:=rgx h rfl
theorem rg1 {a0 a1:Value} {l:List Value} (h:w.heap[g]? =some (.cells (List.toArray (a0::a1::l)) T fr)):∀(d:Nat) (os:Array Obj),(grow (redrawn w d) os).cell? ⟨g,1,none⟩=some a1:=rgx h rfl
theorem rg2 {a0 a1 a2:Value} {l:List Value} (h:w.heap[g]? =some (.cells (List.toArray (a0::a1::a2::l)) T fr)):∀(d:Nat) (os:Array Obj),(grow (redrawn w d) os).cell? ⟨g,2,none⟩=some a2:=rgx h rfl
theorem rg3 {a0 a1 a2 a3:Value} {l:List Value} (h:w.heap[g]? =some (.cells (List.toArray (a0::a1::a2::a3::l)) T fr)):∀(d:Nat) (os:Array Obj),(grow (redrawn w d) os).cell? ⟨g,3,none⟩=some a3:=rgx h rfl
theorem rg4 {a0 a1 a2 a3 a4:Value} {l:List Value} (h:w.heap[g]? =some (.cells (List.toArray (a0::a1::a2::a3::a4::l)) T fr)):∀(d:Nat) (os:Array Obj),(grow (redrawn w d) os).cell? ⟨g,4,none⟩=some a4:=rgx h rfl
theorem rg5 {a0 a1 a2 a3 a4 a5:Value} {l:List Value} (h:w.heap[g]? =some (.cells (List.toArray (a0::a1::a2::a3::a4::a5::l)) T fr)):∀(d:Nat) (os:Array Obj),(grow (redrawn w d) os).cell? ⟨g,5,none⟩=some a5:=rgx h rfl
theorem rg6 {a0 a1 a2 a3 a4 a5 a6:Value} {l:List Value} (h:w.heap[g]? =some (.cells (List.toArray (a0::a1::a2::a3::a4::a5::a6::l)) T fr)):∀(d:Nat) (os:Array Obj),(grow (redrawn w d) os).cell? ⟨g,6,none⟩=some a6:=rgx h rfl
theorem rg7 {a0 a1 a2 a3 a4 a5 a6 a7:Value} {l:List Value} (h:w.heap[g]? =some (.cells (List.toArray (a0::a1::a2::a3::a4::a5::a6::a7::l)) T fr)):∀(d:Nat) (os:Array Obj),(grow (redrawn w d) os).cell? ⟨g,7,none⟩=some a7:=rgx h rfl
theorem rg8 {a0 a1 a2 a3 a4 a5 a6 a7 a8:Value} {l:List Value} (h:w.heap[g]? =some (.cells (List.toArray (a0::a1::a2::a3::a4::a5::a6::a7::a8::l)) T fr)):∀(d:Nat) (os:Array Obj),(grow (redrawn w d) os).cell? ⟨g,8,none⟩=some a8:=rgx h rfl
theorem rg9 {a0 a1 a2 a3 a4 a5 a6 a7 a8 a9:Value} {l:List Value} (h:w.heap[g]? =some (.cells (List.toArray (a0::a1::a2::a3::a4::a5::a6::a7::a8::a9::l)) T fr)):∀(d:Nat) (os:Array Obj),(grow (redrawn w d) os).cell? ⟨g,9,none⟩=some a9:=rgx h rfl
theorem rg10 {a0 a1 a2 a3 a4 a5 a6 a7 a8 a9 a10:Value} {l:List Value} (h:w.heap[g]? =some (.cells (List.toArray (a0::a1::a2::a3::a4::a5::a6::a7::a8::a9::a10::l)) T fr)):∀(d:Nat) (os:Array Obj),(grow (redrawn w d) os).cell? ⟨g,10,none⟩=some a10:=rgx h rfl
theorem rg11 {a0 a1 a2 a3 a4 a5 a6 a7 a8 a9 a10 a11:Value} {l:List Value} (h:w.heap[g]? =some (.cells (List.toArray (a0::a1::a2::a3::a4::a5::a6::a7::a8::a9::a10::a11::l)) T fr)):∀(d:Nat) (os:Array Obj),(grow (redrawn w d) os).cell? ⟨g,11,none⟩=some a11:=rgx h rfl
theorem rg12 {a0 a1 a2 a3 a4 a5 a6 a7 a8 a9 a10 a11 a12:Value} {l:List Value} (h:w.heap[g]? =some (.cells (List.toArray (a0::a1::a2::a3::a4::a5::a6::a7::a8::a9::a10::a11::a12::l)) T fr)):∀(d:Nat) (os:Array Obj),(grow (redrawn w d) os).cell? ⟨g,12,none⟩=some a12:=rgx h rfl
theorem rg13 {a0 a1 a2 a3 a4 a5 a6 a7 a8 a9 a10 a11 a12 a13:Value} {l:List Value} (h:w.heap[g]? =some (.cells (List.toArray (a0::a1::a2::a3::a4::a5::a6::a7::a8::a9::a10::a11::a12::a13::l)) T fr)):∀(d:Nat) (os:Array Obj),(grow (redrawn w d) os).cell? ⟨g,13,none⟩=some a13:=rgx h rfl
theorem rg14 {a0 a1 a2 a3 a4 a5 a6 a7 a8 a9 a10 a11 a12 a13 a14:Value} {l:List Value} (h:w.heap[g]? =some (.cells (List.toArray (a0::a1::a2::a3::a4::a5::a6::a7::a8::a9::a10::a11::a12::a13::a14::l)) T fr)):∀(d:Nat) (os:Array Obj),(grow (redrawn w d) os).cell? ⟨g,14,none⟩=some a14:=rgx h rfl
theorem rg15 {a0 a1 a2 a3 a4 a5 a6 a7 a8 a9 a10 a11 a12 a13 a14 a15:Value} {l:List Value} (h:w.heap[g]? =some (.cells (List.toArray (a0::a1::a2::a3::a4::a5::a6::a7::a8::a9::a10::a11::a12::a13::a14::a15::l)) T fr)):∀(d:Nat) (os:Array Obj),(grow (redrawn w d) os).cell? ⟨g,15,none⟩=some a15:=rgx h rfl
theorem rg16 {a0 a1 a2 a3 a4 a5 a6 a7 a8 a9 a10 a11 a12 a13 a14 a15 a16:Value} {l:List Value} (h:w.heap[g]? =some (.cells (List.toArray (a0::a1::a2::a3::a4::a5::a6::a7::a8::a9::a10::a11::a12::a13::a14::a15::a16::l)) T fr)):∀(d:Nat) (os:Array Obj),(grow (redrawn w d) os).cell? ⟨g,16,none⟩=some a16:=rgx h rfl
theorem rg17 {a0 a1 a2 a3 a4 a5 a6 a7 a8 a9 a10 a11 a12 a13 a14 a15 a16 a17:Value} {l:List Value} (h:w.heap[g]? =some (.cells (List.toArray (a0::a1::a2::a3::a4::a5::a6::a7::a8::a9::a10::a11::a12::a13::a14::a15::a16::a17::l)) T fr)):∀(d:Nat) (os:Array Obj),(grow (redrawn w d) os).cell? ⟨g,17,none⟩=some a17:=rgx h rfl
end
end
section
section
open Go.RowKit
theorem ret_int {k:IntKind} {a b:Int} (h:a=b):Ending.returned (Value.int k a)= .returned (.int k b):=by rw[h]
def Row1 (w:World) (B:Nat) (A:Option Addr) (n:Nat) (f:Nat->Value):Prop:=
 ∀k,k<n->∃ad:Addr,A=some ad∧ad.block<B∧w.cell? (ad.add k)=some (f k)
theorem add_block (a:Addr) (k:Nat):(a.add k).block=a.block:=by unfold Addr.add;split<;>rfl
theorem add_zero' (b k:Nat):(⟨b,0,none⟩:Addr).add k=⟨b,k,none⟩:=by
 unfold Addr.add;by_cases h:k=0
 ·subst h;rfl
 ·rw[if_neg h];simp
section
variable {w w' : World} {B B' n : Nat} {A : Option Addr} {f g : Nat → Value}
theorem Row1.keep (h:Row1 w B A n f) (hk:∀p:Addr,p.block<B->w'.cell? p=w.cell? p):Row1 w' B A n f:=λk hkn=>by
 obtain⟨ad,e,hb,hc⟩:=h k hkn;exact⟨ad,e,hb,(hk _ (by rw[add_block];exact hb)).trans hc⟩
theorem Row1.more (h:Row1 w B A n f) (hB:B<=B'):Row1 w B' A n f:=λk hkn=>by
 obtain⟨ad,e,hb,hc⟩:=h k hkn;exact⟨ad,e,by omega,hc⟩
theorem Row1.below (h:Row1 w B A n f) (hb:Below B w w'):Row1 w' B A n f:=h.keep λ_ hp=>hb.cell hp
theorem Row1.of_row {b t:Nat} (h:w.rowIs b t n f):Row1 w w.heap.size (some ⟨b,0,none⟩) n f:=λk hk=>
 ⟨_,rfl,h.lt,by rw[add_zero'];exact h.cell hk⟩
end
theorem bt {w w1 w2:World} (h:Below w.heap.size w w1) (h2:Below w1.heap.size w1 w2):Below w.heap.size w w2:=h.trans (h2.mono h.size)
theorem lt_of_cell {w:World} {a:Addr} {v:Value} (h:w.cell? a=some v):a.block<w.heap.size:=by
 rcases Nat.lt_or_ge a.block w.heap.size with hlt|hge
 ·exact hlt
 ·simp[World.cell?,Array.getElem?_eq_none hge] at h
def b8 (x:UInt8):Value:= .int .u8 (x.toNat:Int)
theorem conv_own {P:Program} (w:World) (src dst e:TypeId) (base:Nat) (v:Value) (n:Nat) (l:List UInt8) (hs:P.underlying src=some (.slice e)) (he:P.underlying e=some (.int .u8)) (hd:P.underlying dst=some .string)
  (h:w.ownsRow base e 1 v n (l.map b8)):(convert src dst v).run P w= .ok (.string ⟨l.toArray⟩) w:=by
 obtain rfl:n=l.length:=by have:=h.1;simpa using this.symm
 rcases h.2 with⟨rfl,hl⟩|⟨g,cap,cur,rfl,_⟩
 ·have:l=[]:=by simpa using hl
  subst this;rw[run_convert_bytes_string w src dst e none 0 0 hs he hd];simp[Conv.bytesToString,Sem.run_pure]
  try rfl
 ·refine run_convert_bytes_back w src dst e _ cap l hs he hd λj hj=> ?_;exact h.cells (g:=g) rfl j _ (by simp[b8,hj])
end
section
namespace Vr
open Go.Lib
inductive TR where
 |ok (n:Nat) (rest:List UInt8)
 |err (e:Nat)
def takeF:List UInt8->Nat->Nat->TR
 | [],_,_=> .err 10
 |b::l,i,acc=>
  if 128<=b.toNat then (if i=8 then .err 11 else takeF l (i+1) (acc+(b.toNat % 128)*128 ^ i))
  else if b.toNat=0∧0<i then .err 11 else .ok (acc+b.toNat*128 ^ i) l
def take (l:List UInt8):TR:=takeF l 0 0
theorem pow_split (i:Nat) (h:i<8):128 ^ (9-i)=128*128 ^ (9-(i+1)):=by
 rw[show 9-i=(9-(i+1))+1 by omega,Nat.pow_succ,Nat.mul_comm]
theorem sum_split (acc m i:Nat):acc+(m % 128)*128 ^ i+(m / 128)*128 ^ (i+1)=acc+m*128 ^ i:=by
 rw[Nat.pow_succ,<-Nat.mul_assoc,Nat.mul_comm (m / 128*128 ^ i) 128,<-Nat.mul_assoc,Nat.add_assoc,<-Nat.add_mul];rw[show m % 128+128*(m / 128)=m from by omega]
theorem toNat_big (m:Nat):(m % 128+128).toUInt8.toNat=m % 128+128:=by
 rw[Nat.toUInt8_eq,UInt8.toNat_ofNat',Nat.mod_eq_of_lt (by omega)]
theorem toNat_small (m:Nat) (h:m<128):m.toUInt8.toNat=m:=by
 rw[Nat.toUInt8_eq,UInt8.toNat_ofNat',Nat.mod_eq_of_lt (by omega)]
theorem takeF_put (r:List UInt8) (m:Nat):∀(i acc:Nat),i<=8->m<128 ^ (9-i)->(m=0->i=0)->takeF (uvarint m++r) i acc= .ok (acc+m*128 ^ i) r:=by
 induction m using Nat.strongRecOn with
 | _ m ih=>
  intro i acc hi hm h0;by_cases hs:m<128
  ·rw[uvarint_small hs];simp only[List.cons_append,List.nil_append,takeF];rw[toNat_small m hs,if_neg (by omega),if_neg (by omega)]
  ·rw[uvarint_big (by omega)];simp only[List.cons_append,takeF];have h8:i<8:=by
    rcases Nat.lt_or_ge i 8 with h|h
    ·exact h
    ·exfalso;obtain rfl:i=8:=by omega
     simp at hm;omega
   rw[toNat_big,if_pos (by omega),if_neg (by omega)];rw[pow_split i h8] at hm;rw[show(m % 128+128) % 128=m % 128 by omega];rw[ih (m / 128) (by omega) (i+1) _ (by omega) (Nat.div_lt_of_lt_mul hm) (by omega),sum_split]
theorem takeF_ok (l:List UInt8):∀(i acc n:Nat) (r:List UInt8),i<=8->takeF l i acc= .ok n r->∃m,l=uvarint m++r∧n=acc+m*128 ^ i∧m<128 ^ (9-i)∧(m=0->i=0):=by
 induction l with
 |nil=>intro i acc n r _ h;simp[takeF] at h
 | cons b l ih=>
  intro i acc n r hi h;have hb:=UInt8.toNat_lt b;simp only[takeF] at h;by_cases h1:128<=b.toNat
  ·rw[if_pos h1] at h;by_cases h2:i=8
   ·rw[if_pos h2] at h;cases h
   ·rw[if_neg h2] at h;obtain⟨m,rfl,rfl,hm,h0⟩:=ih (i+1) _ n r (by omega) h;have hm0:m≠0:=λe=>by have:=h0 e;omega
    refine⟨m*128+(b.toNat-128),?_,?_,?_,λe=>by omega⟩
    ·rw[uvarint_big (x:=m*128+(b.toNat-128)) (by omega)];rw[show(m*128+(b.toNat-128)) / 128=m by omega,show(m*128+(b.toNat-128)) % 128+128=b.toNat by omega];simp
    ·rw[<-sum_split acc (m*128+(b.toNat-128)) i];rw[show(m*128+(b.toNat-128)) / 128=m by omega,show(m*128+(b.toNat-128)) % 128=b.toNat % 128 by omega]
    ·rw[pow_split i (by omega)];omega
  ·rw[if_neg h1] at h;by_cases h2:b.toNat=0∧0<i
   ·rw[if_pos h2] at h;cases h
   ·rw[if_neg h2] at h;injection h with h3 h4;subst h4;refine⟨b.toNat,?_,h3.symm,?_,λe=>by omega⟩
    ·rw[uvarint_small (by omega)];simp
    ·have:128 ^ 1<=128 ^ (9-i):=Nat.pow_le_pow_right (by decide) (by omega);omega
theorem take_put (m:Nat) (h:m<9223372036854775808) (r:List UInt8):take (uvarint m++r)= .ok m r:=by
 have:=takeF_put r m 0 0 (by omega) (by simpa using h) (λ_=>rfl);simpa[take] using this
theorem take_ok {l:List UInt8} {n:Nat} {r:List UInt8} (h:take l= .ok n r):l=uvarint n++r∧n<9223372036854775808:=by
 obtain⟨m,h1,h2,h3,_⟩:=takeF_ok l 0 0 n r (by omega) h;have e:n=m:=by simpa using h2
 subst e;exact⟨h1,by simpa using h3⟩
theorem takeF_err (l:List UInt8):∀(i acc e:Nat),takeF l i acc= .err e->e=10∨e=11:=by
 induction l with
 |nil=>intro i acc e h;simp[takeF] at h;omega
 | cons b l ih=>
  intro i acc e h;simp only[takeF] at h;split at h
  ·split at h
   ·injection h;omega
   ·exact ih _ _ _ h
  ·split at h
   ·injection h;omega
   ·cases h
end Vr
end
section
namespace Vr
open Go.Lib
inductive LR where
 |ok (ns:List Nat) (rest:List UInt8)
 |err (e:Nat)
def takeN:Nat->List UInt8->LR
 |0,l=> .ok [] l
 | k+1,l=>match take l with
  | .ok n r=>match takeN k r with
   | .ok ns r'=> .ok (n::ns) r'
   | .err e=> .err e
  | .err e=> .err e
def LR.pre (ns:List Nat):LR->LR
 | .ok ms r=> .ok (ns++ms) r
 | .err e=> .err e
theorem LR.pre_nil (x:LR):LR.pre [] x=x:=by cases x<;>rfl
theorem LR.pre_pre (a b:List Nat) (x:LR):LR.pre a (LR.pre b x)=LR.pre (a++b) x:=by cases x<;>simp[LR.pre]
theorem takeN_ok {k n:Nat} {l r:List UInt8} (h:take l= .ok n r):takeN (k+1) l=LR.pre [n] (takeN k r):=by
 simp only[takeN,h];cases takeN k r<;>rfl
theorem takeN_err {k e:Nat} {l:List UInt8} (h:take l= .err e):takeN (k+1) l= .err e:=by
 simp only[takeN,h]
def takeNats (l:List UInt8):LR:=match take l with
 | .err e=> .err e
 | .ok n r=>if r.length<n then .err 10 else takeN n r
end Vr
end
section
open Go.Lib
structure Gst where
 t:Int
 r:Int
structure Gid where
 s:Gst
 i:Int
structure Gop where
 kind:Int
 node:Gid
 parent:Gid
 name:ByteArray
 dir:Bool
 dots:List Gst
 after:Gid
 elem:Gid
 text:ByteArray
 elems:List Gid
structure Grp where
 s:Gst
 n:Int
 deps:List Int
 u:Gst
 ops:List Gop
def Gst.zero:Gst:=⟨0,0⟩
def Gid.zero:Gid:=⟨⟨0,0⟩,0⟩
def Gst.right (s:Gst):Bool:=decide (1<=s.t) && decide (s.t<=1099511627776) && decide (1<=s.r) && decide (s.r<=16)
def Gst.lt (a b:Gst):Bool:=decide (a.t<b.t) || (decide (a.t=b.t) && decide (a.r<b.r))
def Gst.eqb (a b:Gst):Bool:=decide (a.t=b.t) && decide (a.r=b.r)
def Gid.right (x:Gid):Bool:=x.s.right && decide (0<=x.i) && decide (x.i<=400000)
def Gid.eqb (a b:Gid):Bool:=a.s.eqb b.s && decide (a.i=b.i)
def Gid.none (x:Gid):Bool:=x.eqb .zero
def Gid.lt (a b:Gid):Bool:=a.s.lt b.s || (a.s.eqb b.s && decide (a.i<b.i))
theorem Gst.eqb_iff {a b:Gst}:a.eqb b=true↔a=b:=by
 cases a;cases b;simp[Gst.eqb]
theorem Gid.eqb_iff {a b:Gid}:a.eqb b=true↔a=b:=by
 cases a;cases b;simp[Gid.eqb,Gst.eqb_iff]
def atV (v:List Int) (r:Int):Int:=if r<1 then 0 else v.getD (r-1).toNat 0
def plainV (v:List Int):List Int:=(v.reverse.dropWhile (λx=>decide (x=0))).reverse
def vecB (v:List Int):Bool:=v.all (λx=>decide (0<=x)) && decide (v.length<=16) && decide ((plainV v).length=v.length)
def aheadB (g:Gst) (x:Gid) (k:Nat):Bool:=x.right && (x.s.lt g || (x.s.eqb g && decide (x.i<k)))
def parentB (g:Gst) (x:Gid) (k:Nat):Bool:=x.none || aheadB g x k
def allIx (n:Nat) (p:Nat->Bool):Bool:=(List.range n).all p
theorem allIx_true {n:Nat} {p:Nat->Bool} (h:∀i,i<n->p i=true):allIx n p=true:=by
 unfold allIx;rw[List.all_eq_true];intro i hi;exact h i (List.mem_range.1 hi)
theorem allIx_of {n:Nat} {p:Nat->Bool} (h:allIx n p=true):∀i,i<n->p i=true:=by
 unfold allIx at h;rw[List.all_eq_true] at h;intro i hi;exact h i (List.mem_range.2 hi)
theorem allIx_false {n:Nat} {p:Nat->Bool} {i:Nat} (hi:i<n) (h:p i=false):allIx n p=false:=by
 cases e:allIx n p with
 |false=>rfl
 |true=>rw[allIx_of e i hi] at h;cases h
def dotB (g:Gst) (l:List Gst) (i:Nat):Bool:=(l.getD i .zero).right && !(g.lt (l.getD i .zero)) && (decide (i=0) || (l.getD (i-1) .zero).lt (l.getD i .zero))
def dotsB (g:Gst) (l:List Gst):Bool:=allIx l.length (dotB g l) && decide (l.length<=200)
def elemB (g:Gst) (l:List Gid) (k:Nat) (i:Nat):Bool:=aheadB g (l.getD i .zero) k && (decide (i=0) || (l.getD (i-1) .zero).lt (l.getD i .zero))
def elemsB (g:Gst) (l:List Gid) (k:Nat):Bool:=allIx l.length (λi=>elemB g l k i) && decide (1<=l.length) && decide (l.length<=2000)
def signB (b:UInt8):Bool:=(decide (48<=b.toNat) && decide (b.toNat<=57)) || (decide (65<=b.toNat) && decide (b.toNat<=90)) || (decide (97<=b.toNat) && decide (b.toNat<=122)) || decide (b.toNat=46) || decide (b.toNat=45) || decide (b.toNat=95)
def nameB (s:ByteArray):Bool:=decide (s.data.toList≠[]) && decide (s.size<=32) && decide (s.data.toList≠[46]) && decide (s.data.toList≠[46,46]) && s.data.toList.all signB
def textB (s:ByteArray):Bool:=validD s.data.toList && decide (1<=runeCount s) && decide (runeCount s<=2000)
def bareB (o:Gop):Bool:=
 (decide (o.kind=0) || decide (o.kind=1) || (o.parent.none && decide (o.name.data.toList=[]))) && (decide (o.kind=0) || !o.dir) && (decide (o.kind=2) || decide (o.dots.length=0)) &&
 (decide (o.kind=3) || (o.after.none && o.elem.none && decide (o.text.data.toList=[]))) && (decide (o.kind=4) || decide (o.elems.length=0))
def kindB (g:Gst) (o:Gop) (k:Nat):Bool:=
 if o.kind=0 then o.node.eqb ⟨g,k⟩ && parentB g o.parent k && nameB o.name
 else if o.kind=1 then aheadB g o.node k && parentB g o.parent k && nameB o.name
 else if o.kind=2 then aheadB g o.node k && dotsB g o.dots
 else if o.kind=3 then aheadB g o.node k && parentB g o.after k && o.elem.eqb ⟨g,k⟩ && textB o.text
 else if o.kind=4 then aheadB g o.node k && elemsB g o.elems k
 else false
def opB (g:Gst) (o:Gop) (k:Nat):Bool:=bareB o && kindB g o k
def moreOf (o:Gop):Nat:=if o.kind=0 then 1 else if o.kind=3 then runeCount o.text else 0
def opsB (g:Gst):List Gop->Nat->Bool
 | [],_=>true
 |o::l,k=>opB g o k && opsB g l (k+moreOf o)
def headB (g:Grp):Bool:=g.s.right && decide (1<=g.n) && decide (g.n<=1099511627776) && vecB g.deps && decide (atV g.deps g.s.r=g.n-1)
def chkB (g:Grp):Bool:=
 headB g && (if g.u.eqb .zero=true then decide (1<=g.ops.length) && decide (g.ops.length<=200) && opsB g.s g.ops 0 else g.u.right && g.u.lt g.s && decide (g.ops.length=0))
def natZ (n:Int):List UInt8:=if n<0 then [] else uvarint n.toNat
def idZ (x:Gid):List UInt8:=natZ x.s.t++natZ x.s.r++natZ x.i
def stZ (x:Gst):List UInt8:=natZ x.t++natZ x.r
def bytesZ (s:ByteArray):List UInt8:=uvarint s.size++s.data.toList
def opZ (o:Gop):List UInt8:=
  natZ o.kind++idZ o.node++
  (if o.kind=0 then idZ o.parent++bytesZ o.name++natZ (if o.dir then 1 else 0)
   else if o.kind=1 then idZ o.parent++bytesZ o.name
   else if o.kind=2 then natZ o.dots.length++o.dots.flatMap stZ
   else if o.kind=3 then idZ o.after++idZ o.elem++bytesZ o.text
   else natZ o.elems.length++o.elems.flatMap idZ)
def numsZ (v:List Int):List UInt8:=natZ v.length++v.flatMap natZ
def grpZ (g:Grp):List UInt8:=natZ g.s.t++natZ g.s.r++natZ g.n++numsZ g.deps++natZ g.u.t++natZ g.u.r++natZ g.ops.length++g.ops.flatMap opZ
abbrev Rd (α:Type):=List UInt8->Option (α×List UInt8)
def rbind {α β:Type} (p:Rd α) (f:α->Rd β):Rd β:=λl=>match p l with
 |some (a,r)=>f a r
 |none=>none
def rpure {α:Type} (a:α):Rd α:=λl=>some (a,l)
def rfail {α:Type}:Rd α:=λ_=>none
theorem rbind_some {α β:Type} {p:Rd α} {f:α->Rd β} {l r:List UInt8} {a:α} (h:p l=some (a,r)):rbind p f l=f a r:=by unfold rbind;rw[h]
theorem rbind_none {α β:Type} {p:Rd α} {f:α->Rd β} {l:List UInt8} (h:p l=none):rbind p f l=none:=by unfold rbind;rw[h]
theorem rbind_inv {α β:Type} {p:Rd α} {f:α->Rd β} {l r:List UInt8} {b:β} (h:rbind p f l=some (b,r)):∃a q,p l=some (a,q)∧f a q=some (b,r):=by
 unfold rbind at h;cases e:p l with
 |none=>rw[e] at h;cases h
 |some x=>obtain⟨a,q⟩:=x;rw[e] at h;exact⟨a,q,rfl,h⟩
def intR:Rd Int:=λl=>match Vr.take l with
 | .ok n r=>some ((n:Int),r)
 | .err _=>none
def bytesR:Rd ByteArray:=rbind intR λn l=>if l.length<n.toNat then none else some (⟨(l.take n.toNat).toArray⟩,l.drop n.toNat)
def stR:Rd Gst:=rbind intR λt=>rbind intR λr=>rpure ⟨t,r⟩
def idR:Rd Gid:=rbind stR λs=>rbind intR λi=>rpure ⟨s,i⟩
def timesR {α:Type} (one:Rd α):Nat->Rd (List α)
 |0=>rpure []
 |n+1=>rbind one λx=>rbind (timesR one n) λxs=>rpure (x::xs)
def manyR {α:Type} (one:Rd α):Rd (List α):=rbind intR λn=>timesR one n.toNat
def dirR:Rd Bool:=rbind intR λd=>if 1<d then rfail else rpure (decide (d=1))
def opO (k:Int) (node:Gid):Gop:=⟨k,node,.zero,⟨#[]⟩,false,[],.zero,.zero,⟨#[]⟩,[]⟩
def opR:Rd Gop:=rbind intR λk=>rbind idR λnode=>
 if k=0 then rbind idR λp=>rbind bytesR λnm=>rbind dirR λd=>rpure { opO k node with parent:=p,name:=nm,dir:=d }
 else if k=1 then rbind idR λp=>rbind bytesR λnm=>rpure { opO k node with parent:=p,name:=nm }
 else if k=2 then rbind (manyR stR) λl=>rpure { opO k node with dots:=l }
 else if k=3 then rbind idR λa=>rbind idR λe=>rbind bytesR λx=>rpure { opO k node with after:=a,elem:=e,text:=x }
 else if k=4 then rbind (manyR idR) λl=>rpure { opO k node with elems:=l }
 else rfail
def grpR:Rd Grp:=rbind stR λs=>rbind intR λn=>rbind (manyR intR) λv=>rbind stR λu=>rbind (manyR opR) λl=>rpure ⟨s,n,v,u,l⟩
def decZ (l:List UInt8):Option Grp:=match grpR l with
 |some (g,[])=>if chkB g=true then some g else none
 |_=>none
structure Codec {α:Type} (p:Rd α) (z:α->List UInt8) (ok:α->Prop):Prop where
 put:∀x r,ok x->p (z x++r)=some (x,r)
 back:∀l x r,p l=some (x,r)->l=z x++r∧ok x
def okI (n:Int):Prop:=0<=n∧n<9223372036854775808
def okS (s:Gst):Prop:=okI s.t∧okI s.r
def okD (x:Gid):Prop:=okS x.s∧okI x.i
def okB (s:ByteArray):Prop:=s.size<9223372036854775808
def okL {α:Type} (ok:α->Prop) (l:List α):Prop:=l.length<9223372036854775808∧∀x∈l,ok x
theorem natZ_of {n:Int} (h:0<=n):natZ n=uvarint n.toNat:=by unfold natZ;rw[if_neg (by omega)]
theorem intC:Codec intR natZ okI:=by
 refine⟨λn r h=> ?_,λl n r h=> ?_⟩
 ·unfold intR;rw[natZ_of h.1,Vr.take_put n.toNat (by have:=h.2;omega)];have:=h.1;simp only[Option.some.injEq,Prod.mk.injEq,and_true];omega
 ·unfold intR at h;cases e:Vr.take l with
  |err c=>rw[e] at h;cases h
  |ok m q=>
   rw[e] at h;simp only[Option.some.injEq,Prod.mk.injEq] at h;obtain⟨rfl,rfl⟩:=h;obtain⟨h1,h2⟩:=Vr.take_ok e;exact⟨by rw[natZ_of (by omega),Int.toNat_natCast];exact h1,by omega,by omega⟩
theorem stC:Codec stR stZ okS:=by
 refine⟨λx r h=> ?_,λl x r h=> ?_⟩
 ·unfold stR stZ;rw[List.append_assoc,rbind_some (intC.put _ _ h.1),rbind_some (intC.put _ _ h.2)];rfl
 ·replace h:=rbind_inv h;obtain⟨t,q1,h1,h⟩:=h;replace h:=rbind_inv h;obtain⟨n,q2,h2,h⟩:=h;cases h;obtain⟨rfl,o1⟩:=intC.back _ _ _ h1;obtain⟨rfl,o2⟩:=intC.back _ _ _ h2;exact⟨by simp[stZ],o1,o2⟩
theorem idC:Codec idR idZ okD:=by
 refine⟨λx r h=> ?_,λl x r h=> ?_⟩
 ·unfold idR idZ;rw[List.append_assoc,show natZ x.s.t++natZ x.s.r=stZ x.s from rfl,rbind_some (stC.put _ _ h.1),rbind_some (intC.put _ _ h.2)];rfl
 ·replace h:=rbind_inv h;obtain⟨t,q1,h1,h⟩:=h;replace h:=rbind_inv h;obtain⟨n,q2,h2,h⟩:=h;cases h;obtain⟨rfl,o1⟩:=stC.back _ _ _ h1;obtain⟨rfl,o2⟩:=intC.back _ _ _ h2;exact⟨by simp[idZ,stZ],o1,o2⟩
theorem bytesC:Codec bytesR bytesZ okB:=by
 refine⟨λx r h=> ?_,λl x r h=> ?_⟩
 ·unfold bytesR bytesZ;have e:uvarint x.size=natZ x.size:=by rw[natZ_of (by omega)];rfl
  have hl:x.data.toList.length=x.size:=by simp
  unfold okB at h;rw[e,List.append_assoc,rbind_some (intC.put _ _ ⟨by omega,by omega⟩),Int.toNat_natCast,if_neg (by rw[List.length_append];omega),<-hl,List.take_left,List.drop_left]
 ·replace h:=rbind_inv h;obtain⟨n,q1,h1,h⟩:=h;obtain⟨rfl,o1⟩:=intC.back _ _ _ h1;split at h
  ·cases h
  ·rename_i hn;simp only[Option.some.injEq,Prod.mk.injEq] at h;obtain⟨rfl,rfl⟩:=h;have hs:(⟨(q1.take n.toNat).toArray⟩:ByteArray).size=n.toNat:=by
    simp only[ByteArray.size,List.size_toArray,List.length_take];omega
   refine⟨?_,by unfold okB;rw[hs];have:=o1.2;omega⟩;unfold bytesZ;rw[hs,natZ_of o1.1,List.append_assoc];show _=_++(q1.take n.toNat++_);rw[List.take_append_drop]
theorem timesC {α:Type} {p:Rd α} {z:α->List UInt8} {ok:α->Prop} (h:Codec p z ok):∀n,Codec (timesR p n) (λl=>l.flatMap z) (λl=>l.length=n∧∀x∈l,ok x)
 | 0=>by
  refine⟨λx r hx=> ?_,λl x r hx=> ?_⟩
  ·obtain rfl:=List.eq_nil_of_length_eq_zero hx.1;rfl
  ·unfold timesR rpure at hx;cases hx;exact⟨rfl,rfl,λ_ h=>by cases h⟩
 | n+1=>by
  have ih:=timesC h n;refine⟨λx r hx=> ?_,λl x r hx=> ?_⟩
  ·cases x with
   |nil=>have:=hx.1;simp at this
   |cons y ys=>
    unfold timesR;rw[List.flatMap_cons,List.append_assoc,rbind_some (h.put _ _ (hx.2 y (by simp))),rbind_some (ih.put ys r ⟨by have:=hx.1;simpa using this,λx hx'=>hx.2 x (by simp[hx'])⟩)];rfl
  ·unfold timesR at hx;replace hx:=rbind_inv hx;obtain⟨y,q1,h1,hx⟩:=hx;replace hx:=rbind_inv hx;obtain⟨ys,q2,h2,hx⟩:=hx;cases hx;obtain⟨rfl,o1⟩:=h.back _ _ _ h1;obtain⟨rfl,o2,o3⟩:=ih.back _ _ _ h2;refine⟨by simp,by simp[o2],λx hx=> ?_⟩;rcases List.mem_cons.1 hx with rfl|hx
   ·exact o1
   ·exact o3 x hx
theorem manyC {α:Type} {p:Rd α} {z:α->List UInt8} {ok:α->Prop} (h:Codec p z ok):Codec (manyR p) (λl=>natZ l.length++l.flatMap z) (okL ok):=by
 refine⟨λx r hx=> ?_,λl x r hx=> ?_⟩
 ·unfold manyR;rw[List.append_assoc,rbind_some (intC.put _ _ ⟨by omega,by have:=hx.1;omega⟩),Int.toNat_natCast];exact(timesC h _).put x r ⟨rfl,hx.2⟩
 ·replace hx:=rbind_inv hx;obtain⟨n,q1,h1,hx⟩:=hx;obtain⟨rfl,o1⟩:=intC.back _ _ _ h1;obtain⟨rfl,o2,o3⟩:=(timesC h _).back _ _ _ hx;have e:((x.length:Nat):Int)=n:=by have:=o1.1;omega
  refine⟨by rw[e,List.append_assoc],by have:=o1.2;omega,o3⟩
theorem dirC:Codec dirR (λd=>natZ (if d then 1 else 0)) (λ_=>True):=by
 refine⟨λx r _=> ?_,λl x r h=> ?_⟩
 ·unfold dirR;cases x
  ·rw[if_neg (by decide),rbind_some (intC.put 0 _ ⟨by decide,by decide⟩)];rfl
  ·rw[if_pos rfl,rbind_some (intC.put 1 _ ⟨by decide,by decide⟩)];rfl
 ·replace h:=rbind_inv h;obtain⟨d,q1,h1,h⟩:=h;obtain⟨rfl,o1⟩:=intC.back _ _ _ h1;split at h
  ·cases h
  ·cases h;refine⟨?_,trivial⟩;have h0:=o1.1;by_cases hd:d=1
   ·subst hd;rfl
   ·obtain rfl:d=0:=by omega
    rfl
def okO (o:Gop):Prop:=0<=o.kind∧o.kind<=4∧bareB o=true∧okD o.node∧okD o.parent∧okB o.name∧okL okS o.dots∧okD o.after∧okD o.elem∧okB o.text∧okL okD o.elems
theorem okZ:okD .zero:=⟨⟨⟨by decide,by decide⟩,⟨by decide,by decide⟩⟩,⟨by decide,by decide⟩⟩
theorem okN {α:Type} {ok:α->Prop}:okL ok []:=⟨by simp,λ_ h=>by cases h⟩
theorem okE:okB ⟨#[]⟩:=by unfold okB;decide
theorem Gid.none_iff {x:Gid}:x.none=true↔x= .zero:=Gid.eqb_iff
theorem bs_nil {s:ByteArray}:s.data.toList=[]↔s=⟨#[]⟩:=⟨λh=>ByteArray.ext (Array.toList_inj.1 h),λh=>by rw[h]⟩
theorem zeroN:Gid.zero.none=true:=by decide
theorem opC:Codec opR opZ okO:=by
 refine⟨λo r h=> ?_,λl o r h=> ?_⟩
 ·obtain⟨k,node,parent,name,dir,dots,after,elem,text,elems⟩:=o;obtain⟨h0,h4,hb,h1,h2,h3,h5,h6,h7,h8,h9⟩:=h;simp only at h0 h4 h1 h2 h3 h5 h6 h7 h8 h9;unfold opR opZ;simp only[List.append_assoc];rw[rbind_some (intC.put k _ ⟨h0,by omega⟩),rbind_some (idC.put node _ h1)];unfold bareB at hb;simp only[Bool.and_eq_true,Bool.or_eq_true,decide_eq_true_eq,Bool.not_eq_true',Gid.none_iff,bs_nil,List.length_eq_zero_iff] at hb;by_cases k0:k=0
  ·subst k0;obtain⟨⟨⟨⟨-,-⟩,b3⟩,b4⟩,b5⟩:=hb;obtain rfl:dots=[]:=b3.resolve_left (by decide);obtain⟨⟨rfl,rfl⟩,rfl⟩:=b4.resolve_left (by decide);obtain rfl:elems=[]:=b5.resolve_left (by decide);simp only[if_true,List.append_assoc];rw[rbind_some (idC.put _ _ h2),rbind_some (bytesC.put _ _ h3),rbind_some (dirC.put _ _ trivial)];rfl
  by_cases k1:k=1
  ·subst k1;obtain⟨⟨⟨⟨-,b2⟩,b3⟩,b4⟩,b5⟩:=hb;obtain rfl:dir=false:=b2.resolve_left (by decide);obtain rfl:dots=[]:=b3.resolve_left (by decide);obtain⟨⟨rfl,rfl⟩,rfl⟩:=b4.resolve_left (by decide);obtain rfl:elems=[]:=b5.resolve_left (by decide);simp only[if_neg k0,if_true,List.append_assoc];rw[rbind_some (idC.put _ _ h2),rbind_some (bytesC.put _ _ h3)];rfl
  by_cases k2:k=2
  ·subst k2;obtain⟨⟨⟨⟨b1,b2⟩,-⟩,b4⟩,b5⟩:=hb;obtain⟨rfl,rfl⟩:=b1.resolve_left (by decide);obtain rfl:dir=false:=b2.resolve_left (by decide);obtain⟨⟨rfl,rfl⟩,rfl⟩:=b4.resolve_left (by decide);obtain rfl:elems=[]:=b5.resolve_left (by decide);simp only[if_neg k0,if_neg k1,if_true];rw[rbind_some ((manyC stC).put _ _ h5)];rfl
  by_cases k3:k=3
  ·subst k3;obtain⟨⟨⟨⟨b1,b2⟩,b3⟩,-⟩,b5⟩:=hb;obtain⟨rfl,rfl⟩:=b1.resolve_left (by decide);obtain rfl:dir=false:=b2.resolve_left (by decide);obtain rfl:dots=[]:=b3.resolve_left (by decide);obtain rfl:elems=[]:=b5.resolve_left (by decide);simp only[if_neg k0,if_neg k1,if_neg k2,if_true,List.append_assoc];rw[rbind_some (idC.put _ _ h6),rbind_some (idC.put _ _ h7),rbind_some (bytesC.put _ _ h8)];rfl
  ·obtain rfl:k=4:=by omega
   obtain⟨⟨⟨⟨b1,b2⟩,b3⟩,b4⟩,-⟩:=hb;obtain⟨rfl,rfl⟩:=b1.resolve_left (by decide);obtain rfl:dir=false:=b2.resolve_left (by decide);obtain rfl:dots=[]:=b3.resolve_left (by decide);obtain⟨⟨rfl,rfl⟩,rfl⟩:=b4.resolve_left (by decide);simp only[if_neg k0,if_neg k1,if_neg k2,if_neg k3,if_true];rw[rbind_some ((manyC idC).put _ _ h9)];rfl
 ·replace h:=rbind_inv h;obtain⟨k,q1,h1,h⟩:=h;replace h:=rbind_inv h;obtain⟨node,q2,h2,h⟩:=h;obtain⟨rfl,o1⟩:=intC.back _ _ _ h1;obtain⟨rfl,o2⟩:=idC.back _ _ _ h2;by_cases k0:k=0
  ·subst k0;rw[if_pos rfl] at h;replace h:=rbind_inv h;obtain⟨p,q3,h3,h⟩:=h;replace h:=rbind_inv h;obtain⟨nm,q4,h4,h⟩:=h;replace h:=rbind_inv h;obtain⟨d,q5,h5,h⟩:=h;cases h;obtain⟨rfl,o3⟩:=idC.back _ _ _ h3;obtain⟨rfl,o4⟩:=bytesC.back _ _ _ h4;obtain⟨rfl,o5⟩:=dirC.back _ _ _ h5;exact⟨by simp[opZ,opO],by simp[opO],by simp[opO],by simp[bareB,opO,zeroN],o2,o3,o4,okN,okZ,okZ,okE,okN⟩
  rw[if_neg k0] at h;by_cases k1:k=1
  ·subst k1;rw[if_pos rfl] at h;replace h:=rbind_inv h;obtain⟨p,q3,h3,h⟩:=h;replace h:=rbind_inv h;obtain⟨nm,q4,h4,h⟩:=h;cases h;obtain⟨rfl,o3⟩:=idC.back _ _ _ h3;obtain⟨rfl,o4⟩:=bytesC.back _ _ _ h4;exact⟨by simp[opZ,opO],by simp[opO],by simp[opO],by simp[bareB,opO,zeroN],o2,o3,o4,okN,okZ,okZ,okE,okN⟩
  rw[if_neg k1] at h;by_cases k2:k=2
  ·subst k2;rw[if_pos rfl] at h;replace h:=rbind_inv h;obtain⟨x,q3,h3,h⟩:=h;cases h;obtain⟨rfl,o3⟩:=(manyC stC).back _ _ _ h3;exact⟨by simp[opZ,opO],by simp[opO],by simp[opO],by simp[bareB,opO,zeroN],o2,okZ,okE,o3,okZ,okZ,okE,okN⟩
  rw[if_neg k2] at h;by_cases k3:k=3
  ·subst k3;rw[if_pos rfl] at h;replace h:=rbind_inv h;obtain⟨a,q3,h3,h⟩:=h;replace h:=rbind_inv h;obtain⟨e,q4,h4,h⟩:=h;replace h:=rbind_inv h;obtain⟨x,q5,h5,h⟩:=h;cases h;obtain⟨rfl,o3⟩:=idC.back _ _ _ h3;obtain⟨rfl,o4⟩:=idC.back _ _ _ h4;obtain⟨rfl,o5⟩:=bytesC.back _ _ _ h5;exact⟨by simp[opZ,opO],by simp[opO],by simp[opO],by simp[bareB,opO,zeroN],o2,okZ,okE,okN,o3,o4,o5,okN⟩
  rw[if_neg k3] at h;by_cases k4:k=4
  ·subst k4;rw[if_pos rfl] at h;replace h:=rbind_inv h;obtain⟨x,q3,h3,h⟩:=h;cases h;obtain⟨rfl,o3⟩:=(manyC idC).back _ _ _ h3;exact⟨by simp[opZ,opO],by simp[opO],by simp[opO],by simp[bareB,opO,zeroN],o2,okZ,okE,okN,okZ,okZ,okE,o3⟩
  rw[if_neg k4] at h;cases h
def okG (g:Grp):Prop:=okS g.s∧okI g.n∧okL okI g.deps∧okS g.u∧okL okO g.ops
theorem grpC:Codec grpR grpZ okG:=by
 refine⟨λg r h=> ?_,λl g r h=> ?_⟩
 ·obtain⟨h1,h2,h3,h4,h5⟩:=h;have e:grpZ g++r=stZ g.s++(natZ g.n++((natZ g.deps.length++g.deps.flatMap natZ)++(stZ g.u++((natZ g.ops.length++g.ops.flatMap opZ)++r)))):=by
   unfold grpZ stZ numsZ;simp only[List.append_assoc]
  unfold grpR;rw[e,rbind_some (stC.put _ _ h1),rbind_some (intC.put _ _ h2),rbind_some ((manyC intC).put _ _ h3),rbind_some (stC.put _ _ h4),rbind_some ((manyC opC).put _ _ h5)];rfl
 ·replace h:=rbind_inv h;obtain⟨s,q1,h1,h⟩:=h;replace h:=rbind_inv h;obtain⟨n,q2,h2,h⟩:=h;replace h:=rbind_inv h;obtain⟨v,q3,h3,h⟩:=h;replace h:=rbind_inv h;obtain⟨u,q4,h4,h⟩:=h;replace h:=rbind_inv h;obtain⟨x,q5,h5,h⟩:=h;cases h;obtain⟨rfl,o1⟩:=stC.back _ _ _ h1;obtain⟨rfl,o2⟩:=intC.back _ _ _ h2;obtain⟨rfl,o3⟩:=(manyC intC).back _ _ _ h3;obtain⟨rfl,o4⟩:=stC.back _ _ _ h4;obtain⟨rfl,o5⟩:=(manyC opC).back _ _ _ h5;exact⟨by simp[grpZ,stZ,numsZ],o1,o2,o3,o4,o5⟩
theorem right_ok {s:Gst} (h:s.right=true):okS s:=by
 simp only[Gst.right,Bool.and_eq_true,decide_eq_true_eq] at h;exact⟨⟨by omega,by omega⟩,⟨by omega,by omega⟩⟩
theorem rightid_ok {x:Gid} (h:x.right=true):okD x:=by
 simp only[Gid.right,Bool.and_eq_true,decide_eq_true_eq] at h;exact⟨right_ok h.1.1,⟨by omega,by omega⟩⟩
theorem ahead_ok {g:Gst} {x:Gid} {k:Nat} (h:aheadB g x k=true):okD x:=by
 simp only[aheadB,Bool.and_eq_true] at h;exact rightid_ok h.1
theorem parent_ok {g:Gst} {x:Gid} {k:Nat} (h:parentB g x k=true):okD x:=by
 simp only[parentB,Bool.or_eq_true] at h;rcases h with h|h
 ·rw[Gid.none_iff] at h;subst h;exact okZ
 ·exact ahead_ok h
def fitO (o:Gop):Prop:=okB o.name∧okB o.text∧o.dots.length<9223372036854775808∧o.elems.length<9223372036854775808
theorem getD_of_mem {α:Type} {l:List α} {x z:α} (h:x∈l):∃i,i<l.length∧l.getD i z=x:=by
 obtain⟨i,hi,e⟩:=List.mem_iff_getElem.1 h;exact⟨i,hi,by rw[List.getD_eq_getElem?_getD,List.getElem?_eq_getElem hi];exact e⟩
theorem dots_ok {g:Gst} {l:List Gst} (h:dotsB g l=true):∀x∈l,okS x:=λx hx=>by
 simp only[dotsB,Bool.and_eq_true] at h;obtain⟨i,hi,e⟩:=getD_of_mem (z:=Gst.zero) hx;have:=allIx_of h.1 i hi;simp only[dotB,Bool.and_eq_true,e] at this;exact right_ok this.1.1
theorem elems_ok {g:Gst} {l:List Gid} {k:Nat} (h:elemsB g l k=true):∀x∈l,okD x:=λx hx=>by
 simp only[elemsB,Bool.and_eq_true] at h;obtain⟨i,hi,e⟩:=getD_of_mem (z:=Gid.zero) hx;have:=allIx_of h.1.1 i hi;simp only[elemB,Bool.and_eq_true,e] at this;exact ahead_ok this.1
theorem op_ok {g:Gst} {o:Gop} {k:Nat} (hg:okS g) (hk:k<9223372036854775808) (hf:fitO o) (h:opB g o k=true):okO o:=by
 obtain⟨kind,node,parent,name,dir,dots,after,elem,text,elems⟩:=o;obtain⟨f1,f2,f3,f4⟩:=hf;simp only[opB,Bool.and_eq_true] at h;obtain⟨hb,h⟩:=h;have hb':=hb;unfold bareB at hb;simp only[Bool.and_eq_true,Bool.or_eq_true,decide_eq_true_eq,Bool.not_eq_true',Gid.none_iff,bs_nil,List.length_eq_zero_iff] at hb;unfold kindB at h;simp only at h;have own:okD ⟨g,k⟩:=⟨hg,by simp only;omega,by simp only;omega⟩;by_cases k0:kind=0
 ·subst k0;simp only[if_true,Bool.and_eq_true,Gid.eqb_iff] at h;obtain⟨⟨rfl,h2⟩,h3⟩:=h;obtain⟨⟨⟨⟨-,-⟩,b3⟩,b4⟩,b5⟩:=hb;obtain rfl:dots=[]:=b3.resolve_left (by decide);obtain⟨⟨rfl,rfl⟩,rfl⟩:=b4.resolve_left (by decide);obtain rfl:elems=[]:=b5.resolve_left (by decide);exact⟨by simp,by simp,hb',own,parent_ok h2,f1,okN,okZ,okZ,okE,okN⟩
 rw[if_neg k0] at h;by_cases k1:kind=1
 ·subst k1;simp only[if_true,Bool.and_eq_true] at h;obtain⟨⟨h1,h2⟩,h3⟩:=h;obtain⟨⟨⟨⟨-,b2⟩,b3⟩,b4⟩,b5⟩:=hb;obtain rfl:dots=[]:=b3.resolve_left (by decide);obtain⟨⟨rfl,rfl⟩,rfl⟩:=b4.resolve_left (by decide);obtain rfl:elems=[]:=b5.resolve_left (by decide);exact⟨by simp,by simp,hb',ahead_ok h1,parent_ok h2,f1,okN,okZ,okZ,okE,okN⟩
 rw[if_neg k1] at h;by_cases k2:kind=2
 ·subst k2;simp only[if_true,Bool.and_eq_true] at h;obtain⟨h1,h2⟩:=h;obtain⟨⟨⟨⟨b1,b2⟩,-⟩,b4⟩,b5⟩:=hb;obtain⟨rfl,rfl⟩:=b1.resolve_left (by decide);obtain⟨⟨rfl,rfl⟩,rfl⟩:=b4.resolve_left (by decide);obtain rfl:elems=[]:=b5.resolve_left (by decide);exact⟨by simp,by simp,hb',ahead_ok h1,okZ,okE,⟨f3,dots_ok h2⟩,okZ,okZ,okE,okN⟩
 rw[if_neg k2] at h;by_cases k3:kind=3
 ·subst k3;simp only[if_true,Bool.and_eq_true,Gid.eqb_iff] at h;obtain⟨⟨⟨h1,h2⟩,rfl⟩,h4⟩:=h;obtain⟨⟨⟨⟨b1,b2⟩,b3⟩,-⟩,b5⟩:=hb;obtain⟨rfl,rfl⟩:=b1.resolve_left (by decide);obtain rfl:dots=[]:=b3.resolve_left (by decide);obtain rfl:elems=[]:=b5.resolve_left (by decide);exact⟨by simp,by simp,hb',ahead_ok h1,okZ,okE,okN,parent_ok h2,own,f2,okN⟩
 rw[if_neg k3] at h;by_cases k4:kind=4
 ·subst k4;simp only[if_true,Bool.and_eq_true] at h;obtain⟨h1,h2⟩:=h;obtain⟨⟨⟨⟨b1,b2⟩,b3⟩,b4⟩,-⟩:=hb;obtain⟨rfl,rfl⟩:=b1.resolve_left (by decide);obtain rfl:dots=[]:=b3.resolve_left (by decide);obtain⟨⟨rfl,rfl⟩,rfl⟩:=b4.resolve_left (by decide);exact⟨by simp,by simp,hb',ahead_ok h1,okZ,okE,okN,okZ,okZ,okE,⟨f4,elems_ok h2⟩⟩
 rw[if_neg k4] at h;cases h
def fitG (g:Grp):Prop:=g.deps.length<9223372036854775808∧(∀x∈g.deps,x<9223372036854775808)∧∀o∈g.ops,fitO o
theorem more_le {g:Gst} {o:Gop} {k:Nat} (h:opB g o k=true):moreOf o<=2000:=by
 simp only[opB,Bool.and_eq_true] at h;have h:=h.2;unfold kindB at h;unfold moreOf;by_cases k0:o.kind=0
 ·rw[if_pos k0];omega
 rw[if_neg k0] at h ⊢;by_cases k3:o.kind=3
 ·rw[if_neg (by omega),if_neg (by omega),if_pos k3] at h;rw[if_pos k3];simp only[textB,Bool.and_eq_true,decide_eq_true_eq] at h;exact h.2.2
 ·rw[if_neg k3];omega
theorem ops_ok {g:Gst} (hg:okS g):∀(l:List Gop) (k:Nat),k+2000*l.length<9223372036854775808->(∀o∈l,fitO o)->opsB g l k=true->∀o∈l,okO o
 | [],_,_,_,_=>λ_ h=>by cases h
 |o::l,k,hk,hf,h=>by
  simp only[opsB,Bool.and_eq_true] at h;simp only[List.length_cons] at hk;have h1:=op_ok hg (by omega) (hf o (by simp)) h.1;have hm:=more_le h.1;have h2:=ops_ok hg l (k+moreOf o) (by omega) (λx hx=>hf x (by simp[hx])) h.2;intro x hx;rcases List.mem_cons.1 hx with rfl|hx
  ·exact h1
  ·exact h2 x hx
theorem chk_ok {g:Grp} (hf:fitG g) (h:chkB g=true):okG g:=by
 obtain⟨f1,f2,f3⟩:=hf;simp only[chkB,headB,vecB,Bool.and_eq_true,decide_eq_true_eq,List.all_eq_true] at h;obtain⟨⟨⟨⟨⟨h1,h2⟩,h3⟩,⟨⟨h4,h5⟩,h6⟩⟩,h7⟩,h⟩:=h;have hs:=right_ok h1;refine⟨hs,⟨by omega,by omega⟩,⟨f1,λx hx=>⟨h4 x hx,f2 x hx⟩⟩,?_⟩;split at h
 ·rename_i hu;rw[Gst.eqb_iff] at hu;simp only[Bool.and_eq_true,decide_eq_true_eq] at h;obtain⟨⟨h8,h9⟩,h10⟩:=h;exact⟨by rw[hu];exact okZ.1,by omega,ops_ok hs _ 0 (by omega) f3 h10⟩
 ·simp only[Bool.and_eq_true,decide_eq_true_eq,List.length_eq_zero_iff] at h;obtain⟨⟨h8,h9⟩,h10⟩:=h;exact⟨right_ok h8,by rw[h10];exact okN⟩
theorem dec_enc {g:Grp} (hf:fitG g) (h:chkB g=true):decZ (grpZ g)=some g:=by
 have:=grpC.put g [] (chk_ok hf h);rw[List.append_nil] at this;unfold decZ;rw[this];simp only[h,if_true]
end
section
open Go.Lib
theorem natZ_le {n:Int} (h:n<9223372036854775808):(natZ n).length<=10:=by
 unfold natZ;split
 ·simp
 ·exact uvarint_length64 (by omega)
theorem stZ_le {s:Gst} (h:okS s):(stZ s).length<=20:=by
 unfold stZ;have h1:=natZ_le h.1.2;have h2:=natZ_le h.2.2;rw[List.length_append];omega
theorem idZ_le {x:Gid} (h:okD x):(idZ x).length<=30:=by
 unfold idZ;have h1:=natZ_le h.1.1.2;have h2:=natZ_le h.1.2.2;have h3:=natZ_le h.2.2;rw[List.length_append,List.length_append];omega
theorem bytesZ_le {s:ByteArray} (h:s.size<9223372036854775808):(bytesZ s).length<=10+s.size:=by
 unfold bytesZ;have h1:(uvarint s.size).length<=10:=uvarint_length64 (by omega);have h2:s.data.toList.length=s.size:=by simp
 rw[List.length_append];omega
theorem flat_le {α:Type} {z:α->List UInt8} {c:Nat}:∀{l:List α},(∀x∈l,(z x).length<=c)->(l.flatMap z).length<=c*l.length
 | [],_=>by simp
 |x::l,h=>by
  have h1:=h x (by simp);have h2:=flat_le (l:=l) λy hy=>h y (by simp[hy]);rw[List.flatMap_cons,List.length_append,List.length_cons,Nat.mul_add,Nat.mul_one];omega
structure Sho (o:Gop):Prop where
 name:o.name.size<=32
 dots:o.dots.length<=200
 elems:o.elems.length<=2000
theorem op_sho {g:Gst} {o:Gop} {k:Nat} (h:opB g o k=true):Sho o:=by
 obtain⟨kind,node,parent,name,dir,dots,after,elem,text,elems⟩:=o;simp only[opB,Bool.and_eq_true] at h;obtain⟨hb,h⟩:=h;unfold bareB at hb;simp only[Bool.and_eq_true,Bool.or_eq_true,decide_eq_true_eq,Bool.not_eq_true',Gid.none_iff,bs_nil,List.length_eq_zero_iff] at hb;obtain⟨⟨⟨⟨b1,b2⟩,b3⟩,b4⟩,b5⟩:=hb;unfold kindB at h;simp only at h;have z0:(⟨#[]⟩:ByteArray).size<=32:=by decide
 by_cases k0:kind=0
 ·subst k0;simp only[if_true,Bool.and_eq_true,nameB,decide_eq_true_eq] at h;obtain rfl:dots=[]:=b3.resolve_left (by decide);obtain rfl:elems=[]:=b5.resolve_left (by decide);exact⟨h.2.1.1.1.2,by simp,by simp⟩
 rw[if_neg k0] at h;by_cases k1:kind=1
 ·subst k1;simp only[if_true,Bool.and_eq_true,nameB,decide_eq_true_eq] at h;obtain rfl:dots=[]:=b3.resolve_left (by decide);obtain rfl:elems=[]:=b5.resolve_left (by decide);exact⟨h.2.1.1.1.2,by simp,by simp⟩
 rw[if_neg k1] at h;obtain⟨-,rfl⟩:=b1.resolve_left (by rintro(h|h);exact k0 h;exact k1 h);by_cases k2:kind=2
 ·subst k2;simp only[if_true,Bool.and_eq_true,dotsB,decide_eq_true_eq] at h;obtain rfl:elems=[]:=b5.resolve_left (by decide);exact⟨z0,h.2.2,by simp⟩
 rw[if_neg k2] at h;obtain rfl:dots=[]:=b3.resolve_left k2;by_cases k3:kind=3
 ·subst k3;obtain rfl:elems=[]:=b5.resolve_left (by decide);exact⟨z0,by simp,by simp⟩
 rw[if_neg k3] at h;by_cases k4:kind=4
 ·subst k4;simp only[if_true,Bool.and_eq_true,elemsB,decide_eq_true_eq] at h;exact⟨z0,by simp,h.2.2⟩
 rw[if_neg k4] at h;cases h
theorem opZ_le {o:Gop} {M:Nat} (h:okO o) (hs:Sho o) (ht:o.text.size<=M):(opZ o).length<=61000+M:=by
 obtain⟨kind,node,parent,name,dir,dots,after,elem,text,elems⟩:=o;obtain⟨h0,h4,hb,h1,h2,h3,h5,h6,h7,h8,h9⟩:=h;obtain⟨s1,s2,s3⟩:=hs;simp only at h0 h4 h1 h2 h3 h5 h6 h7 h8 h9 s1 s2 s3 ht;have e1:(natZ kind).length<=10:=natZ_le (by omega);have e2:=idZ_le h1;have e3:=idZ_le h2;have e4:=bytesZ_le h3;have e5:=idZ_le h6;have e6:=idZ_le h7;have e7:=bytesZ_le h8;have e8:=flat_le (z:=stZ) (l:=dots) λx hx=>stZ_le (h5.2 x hx);have e9:=flat_le (z:=idZ) (l:=elems) λx hx=>idZ_le (h9.2 x hx);have e10:(natZ dots.length).length<=10:=natZ_le (by omega);have e11:(natZ elems.length).length<=10:=natZ_le (by omega);have e12:(natZ (if dir then 1 else 0)).length<=10:=natZ_le (by split<;>omega);unfold opZ;simp only;split
 ·simp only[List.length_append];omega
 ·split
  ·simp only[List.length_append];omega
  ·split
   ·simp only[List.length_append];omega
   ·split
    ·simp only[List.length_append];omega
    ·simp only[List.length_append];omega
theorem opsB_mem {g:Gst}:∀{l:List Gop} {k:Nat},opsB g l k=true->∀o∈l,∃j,opB g o j=true
 | [],_,_=>λ_ h=>by cases h
 |o::l,k,h=>by
  simp only[opsB,Bool.and_eq_true] at h;intro x hx;rcases List.mem_cons.1 hx with rfl|hx
  ·exact⟨_,h.1⟩
  ·exact opsB_mem h.2 x hx
theorem chk_sho {g:Grp} (h:chkB g=true):g.ops.length<=200∧g.deps.length<=16∧∀o∈g.ops,Sho o:=by
 simp only[chkB,headB,vecB,Bool.and_eq_true,decide_eq_true_eq,List.all_eq_true] at h;obtain⟨⟨⟨⟨⟨h1,h2⟩,h3⟩,⟨⟨h4,h5⟩,h6⟩⟩,h7⟩,h⟩:=h;refine⟨?_,h5,?_⟩
 ·split at h
  ·simp only[Bool.and_eq_true,decide_eq_true_eq] at h;exact h.1.2
  ·simp only[Bool.and_eq_true,decide_eq_true_eq] at h;have:=h.2;omega
 ·split at h
  ·simp only[Bool.and_eq_true,decide_eq_true_eq] at h;intro o ho;obtain⟨j,hj⟩:=opsB_mem h.2 o ho;exact op_sho hj
  ·simp only[Bool.and_eq_true,decide_eq_true_eq,List.length_eq_zero_iff] at h;rw[h.2];intro o ho;cases ho
theorem grpZ_le {g:Grp} {M:Nat} (hf:fitG g) (h:chkB g=true) (ht:∀o∈g.ops,o.text.size<=M):(grpZ g).length<=300+(61000+M)*200:=by
 obtain⟨h1,h2,h3,h4,h5⟩:=chk_ok hf h;obtain⟨s1,s2,s3⟩:=chk_sho h;have e1:=natZ_le h1.1.2;have e2:=natZ_le h1.2.2;have e3:=natZ_le h2.2;have e4:=natZ_le h4.1.2;have e5:=natZ_le h4.2.2;have e6:(natZ g.ops.length).length<=10:=natZ_le (by omega);have e7:(natZ g.deps.length).length<=10:=natZ_le (by omega);have e8:=flat_le (z:=natZ) (l:=g.deps) λx hx=>natZ_le (h3.2 x hx).2;have e9:=flat_le (z:=opZ) (l:=g.ops) λo ho=>opZ_le (h5.2 o ho) (s3 o ho) (ht o ho);have e10:(61000+M)*g.ops.length<=(61000+M)*200:=Nat.mul_le_mul_left _ s1;unfold grpZ numsZ;simp only[List.length_append];omega
end
section
open Go.Lib
structure RdIs {α:Type} (p:Rd α) (l:List UInt8) (b:Bool) (x:α) (l':List UInt8) (b':Bool):Prop where
 stay:b=true->b'=true
 step:b=false->(b'=false∧p l=some (x,l'))∨(b'=true∧p l=none)
 le:l'.length<=l.length
theorem RdIs.pure {α:Type} {l:List UInt8} {b:Bool} {x:α}:RdIs (rpure x) l b x l b:=⟨id,λh=> .inl ⟨h,rfl⟩,Nat.le_refl _⟩
theorem RdIs.fail {α:Type} {l:List UInt8} {b:Bool} {x:α}:RdIs (rfail (α:=α)) l b x l true:=⟨λ_=>rfl,λ_=> .inr ⟨rfl,rfl⟩,Nat.le_refl _⟩
theorem RdIs.bind {α β:Type} {p:Rd α} {f:α->Rd β} {l l1 l2:List UInt8} {b b1 b2:Bool} {x:α} {y:β} (h:RdIs p l b x l1 b1) (k:RdIs (f x) l1 b1 y l2 b2):RdIs (rbind p f) l b y l2 b2:=by
 refine⟨λe=>k.stay (h.stay e),λe=> ?_,Nat.le_trans k.le h.le⟩;rcases h.step e with⟨h1,h2⟩|⟨h1,h2⟩
 ·rw[rbind_some h2];exact k.step h1
 ·exact .inr ⟨k.stay h1,rbind_none h2⟩
theorem RdIs.dir {l l1:List UInt8} {b b1:Bool} {d:Int} (h:RdIs intR l b d l1 b1):RdIs dirR l b (decide (d=1)) l1 (b1 || decide (1<d)):=by
 refine RdIs.bind h (f:=λd=>if 1<d then rfail else rpure (decide (d=1))) ?_;by_cases c:1<d
 ·rw[if_pos c];have:(b1 || decide (1<d))=true:=by simp[c]
  rw[this];exact RdIs.fail
 ·rw[if_neg c];have:(b1 || decide (1<d))=b1:=by simp[c]
  rw[this];exact RdIs.pure
theorem RdIs.st {l l1 l2:List UInt8} {b b1 b2:Bool} {t r:Int} (h:RdIs intR l b t l1 b1) (k:RdIs intR l1 b1 r l2 b2):RdIs stR l b (⟨t,r⟩:Gst) l2 b2:=
 RdIs.bind (f:=λt=>rbind intR λr=>rpure (⟨t,r⟩:Gst)) h (RdIs.bind (f:=λr=>rpure (⟨t,r⟩:Gst)) k RdIs.pure)
theorem RdIs.id {l l1 l2:List UInt8} {b b1 b2:Bool} {s:Gst} {i:Int} (h:RdIs stR l b s l1 b1) (k:RdIs intR l1 b1 i l2 b2):RdIs idR l b (⟨s,i⟩:Gid) l2 b2:=
 RdIs.bind (f:=λs=>rbind intR λi=>rpure (⟨s,i⟩:Gid)) h (RdIs.bind (f:=λi=>rpure (⟨s,i⟩:Gid)) k RdIs.pure)
section
variable {l l1 l2 l3 l4 l5 : List UInt8} {b b1 b2 b3 b4 b5 : Bool} {node : Gid}
theorem RdIs.op {k:Int} {o:Gop} {f:Int->Gid->Rd Gop} (h:RdIs intR l b k l1 b1) (hn:RdIs idR l1 b1 node l2 b2) (hf:RdIs (f k node) l2 b2 o l3 b3):RdIs (rbind intR λk=>rbind idR λnode=>f k node) l b o l3 b3:=
 RdIs.bind (f:=λk=>rbind idR λnode=>f k node) h (RdIs.bind (f:=λnode=>f k node) hn hf)
def opF (k:Int) (node:Gid):Rd Gop:=
 if k=0 then rbind idR λp=>rbind bytesR λnm=>rbind dirR λd=>rpure { opO k node with parent:=p,name:=nm,dir:=d }
 else if k=1 then rbind idR λp=>rbind bytesR λnm=>rpure { opO k node with parent:=p,name:=nm }
 else if k=2 then rbind (manyR stR) λl=>rpure { opO k node with dots:=l }
 else if k=3 then rbind idR λa=>rbind idR λe=>rbind bytesR λx=>rpure { opO k node with after:=a,elem:=e,text:=x }
 else if k=4 then rbind (manyR idR) λl=>rpure { opO k node with elems:=l }
 else rfail
theorem opR_F:opR=rbind intR λk=>rbind idR λnode=>opF k node:=rfl
theorem RdIs.op0 {p:Gid} {nm:ByteArray} {d:Bool} (h:RdIs intR l b 0 l1 b1) (hn:RdIs idR l1 b1 node l2 b2) (h1:RdIs idR l2 b2 p l3 b3) (h2:RdIs bytesR l3 b3 nm l4 b4) (h3:RdIs dirR l4 b4 d l5 b5):
  RdIs opR l b { opO 0 node with parent:=p,name:=nm,dir:=d } l5 b5:=by
 rw[opR_F];refine RdIs.op h hn ?_;unfold opF;rw[if_pos rfl]
 exact RdIs.bind (f:=λp=>rbind bytesR λnm=>rbind dirR λd=>rpure { opO 0 node with parent:=p,name:=nm,dir:=d }) h1
  (RdIs.bind (f:=λnm=>rbind dirR λd=>rpure { opO 0 node with parent:=p,name:=nm,dir:=d }) h2 (RdIs.bind (f:=λd=>rpure { opO 0 node with parent:=p,name:=nm,dir:=d }) h3 RdIs.pure))
theorem RdIs.op1 {p:Gid} {nm:ByteArray} (h:RdIs intR l b 1 l1 b1) (hn:RdIs idR l1 b1 node l2 b2) (h1:RdIs idR l2 b2 p l3 b3) (h2:RdIs bytesR l3 b3 nm l4 b4):
  RdIs opR l b { opO 1 node with parent:=p,name:=nm } l4 b4:=by
 rw[opR_F];refine RdIs.op h hn ?_;unfold opF;rw[if_neg (by decide),if_pos rfl];exact RdIs.bind (f:=λp=>rbind bytesR λnm=>rpure { opO 1 node with parent:=p,name:=nm }) h1 (RdIs.bind (f:=λnm=>rpure { opO 1 node with parent:=p,name:=nm }) h2 RdIs.pure)
theorem RdIs.op2 {x:List Gst} (h:RdIs intR l b 2 l1 b1) (hn:RdIs idR l1 b1 node l2 b2) (h1:RdIs (manyR stR) l2 b2 x l3 b3):
  RdIs opR l b { opO 2 node with dots:=x } l3 b3:=by
 rw[opR_F];refine RdIs.op h hn ?_;unfold opF;rw[if_neg (by decide),if_neg (by decide),if_pos rfl];exact RdIs.bind (f:=λx=>rpure { opO 2 node with dots:=x }) h1 RdIs.pure
theorem RdIs.op3 {a e:Gid} {x:ByteArray} (h:RdIs intR l b 3 l1 b1) (hn:RdIs idR l1 b1 node l2 b2) (h1:RdIs idR l2 b2 a l3 b3) (h2:RdIs idR l3 b3 e l4 b4) (h3:RdIs bytesR l4 b4 x l5 b5):
  RdIs opR l b { opO 3 node with after:=a,elem:=e,text:=x } l5 b5:=by
 rw[opR_F];refine RdIs.op h hn ?_;unfold opF;rw[if_neg (by decide),if_neg (by decide),if_neg (by decide),if_pos rfl]
 exact RdIs.bind (f:=λa=>rbind idR λe=>rbind bytesR λx=>rpure { opO 3 node with after:=a,elem:=e,text:=x }) h1
  (RdIs.bind (f:=λe=>rbind bytesR λx=>rpure { opO 3 node with after:=a,elem:=e,text:=x }) h2 (RdIs.bind (f:=λx=>rpure { opO 3 node with after:=a,elem:=e,text:=x }) h3 RdIs.pure))
theorem RdIs.op4 {x:List Gid} (h:RdIs intR l b 4 l1 b1) (hn:RdIs idR l1 b1 node l2 b2) (h1:RdIs (manyR idR) l2 b2 x l3 b3):
  RdIs opR l b { opO 4 node with elems:=x } l3 b3:=by
 rw[opR_F];refine RdIs.op h hn ?_;unfold opF;rw[if_neg (by decide),if_neg (by decide),if_neg (by decide),if_neg (by decide),if_pos rfl];exact RdIs.bind (f:=λx=>rpure { opO 4 node with elems:=x }) h1 RdIs.pure
theorem RdIs.opx {k:Int} {o:Gop} (k0:¬k=0) (k1:¬k=1) (k2:¬k=2) (k3:¬k=3) (k4:¬k=4) (h:RdIs intR l b k l1 b1) (hn:RdIs idR l1 b1 node l2 b2):RdIs opR l b o l2 true:=by
 rw[opR_F];refine RdIs.op h hn ?_;unfold opF;rw[if_neg k0,if_neg k1,if_neg k2,if_neg k3,if_neg k4];exact RdIs.fail
end
theorem rbind_pure {α:Type} (p:Rd α) (l:List UInt8):rbind p rpure l=p l:=by
 unfold rbind rpure;cases p l with
 |none=>rfl
 |some a=>rfl
def Takes {α:Type} (p:Rd α):Prop:=∀l x r,p l=some (x,r)->r.length<l.length
theorem intT:Takes intR:=λl x r h=>by
 obtain⟨rfl,h1⟩:=intC.back _ _ _ h;have:=uvarint_pos x.toNat;rw[natZ_of h1.1,List.length_append];omega
theorem stT:Takes stR:=λl x r h=>by
 obtain⟨rfl,h1⟩:=stC.back _ _ _ h;have:=uvarint_pos x.t.toNat;unfold stZ;rw[natZ_of h1.1.1,List.length_append,List.length_append];omega
theorem idT:Takes idR:=λl x r h=>by
 obtain⟨rfl,h1⟩:=idC.back _ _ _ h;have:=uvarint_pos x.s.t.toNat;unfold idZ;rw[natZ_of h1.1.1.1,List.length_append,List.length_append,List.length_append];omega
theorem opT:Takes opR:=λl x r h=>by
 obtain⟨rfl,h1⟩:=opC.back _ _ _ h;have:=uvarint_pos x.kind.toNat;unfold opZ;rw[natZ_of h1.1,List.length_append,List.length_append,List.length_append];omega
structure ManyAt {α:Type} (p:Rd α) (n0:Nat) (l0:List UInt8) (b0:Bool) (n:Nat) (xs:List α) (l:List UInt8) (b:Bool):Prop where
 stay:b0=true->b=true
 step:b0=false->(b=false∧timesR p n0 l0=rbind (timesR p n) (λys=>rpure (xs++ys)) l)∨(b=true∧timesR p n0 l0=none)
 le:l.length<=l0.length
 few:xs.length+l.length<=l0.length+(if b=true then 1 else 0)
theorem ManyAt.start {α:Type} {p:Rd α} {n0:Nat} {l0:List UInt8} {b0:Bool}:ManyAt p n0 l0 b0 n0 [] l0 b0:=
 ⟨id,λh=> .inl ⟨h,(rbind_pure (timesR p n0) l0).symm⟩,Nat.le_refl _,by simp⟩
theorem ManyAt.next {α:Type} {p:Rd α} (hp:Takes p) {n0:Nat} {l0:List UInt8} {b0:Bool} {n:Nat} {xs:List α} {l l1:List UInt8} {b1:Bool} {x:α} (h:ManyAt p n0 l0 b0 (n+1) xs l false) (k:RdIs p l false x l1 b1):ManyAt p n0 l0 b0 n (xs++[x]) l1 b1:=by
 refine⟨λe=>(by have:=h.stay e;cases this),λe=> ?_,Nat.le_trans k.le h.le,?_⟩
 ·rcases h.step e with⟨_,h2⟩|⟨h1,_⟩
  ·rw[h2];rcases k.step rfl with⟨k1,k2⟩|⟨k1,k2⟩
   ·refine .inl ⟨k1,?_⟩;have e1:timesR p (n+1) l=rbind (timesR p n) (λys=>rpure (x::ys)) l1:=rbind_some (f:=λx=>rbind (timesR p n) λxs=>rpure (x::xs)) k2;cases e2:timesR p n l1 with
    |none=>
     rw[rbind_none e2] at e1;rw[rbind_none e1,rbind_none e2]
    |some y=>
     obtain⟨ys,r⟩:=y;rw[rbind_some e2] at e1;rw[rbind_some e1,rbind_some e2];simp[rpure]
   ·refine .inr ⟨k1,?_⟩;have e1:timesR p (n+1) l=none:=rbind_none (f:=λx=>rbind (timesR p n) λxs=>rpure (x::xs)) k2;rw[rbind_none e1]
  ·cases h1
 ·have h1:=h.few;simp only[Bool.false_eq_true,if_false] at h1;rw[List.length_append,List.length_singleton];rcases k.step rfl with⟨k1,k2⟩|⟨k1,k2⟩
  ·have:=hp _ _ _ k2;subst k1;simp only[Bool.false_eq_true,if_false];omega
  ·have:=k.le;subst k1;simp only[if_true];omega
theorem ManyAt.done {α:Type} {p:Rd α} {n0:Nat} {l0:List UInt8} {b0:Bool} {n:Nat} {xs:List α} {l:List UInt8} {b:Bool} (h:ManyAt p n0 l0 b0 n xs l b) (hn:b=true∨n=0):RdIs (timesR p n0) l0 b0 xs l b:=by
 refine⟨h.stay,λe=> ?_,h.le⟩;rcases h.step e with⟨h1,h2⟩|h3
 ·rcases hn with hn|rfl
  ·rw[h1] at hn;cases hn
  ·refine .inl ⟨h1,?_⟩;rw[h2];exact rbind_some (p:=timesR p 0) (a:=[]) (r:=l) rfl |>.trans (by simp[rpure])
 ·exact .inr h3
theorem RdIs.many {α:Type} {p:Rd α} {l l1 l2:List UInt8} {b b1 b2:Bool} {n:Int} {xs:List α} (h:RdIs intR l b n l1 b1) (k:RdIs (timesR p n.toNat) l1 b1 xs l2 b2):RdIs (manyR p) l b xs l2 b2:=RdIs.bind h k
theorem RdIs.grp {l l1 l2 l3 l4 l5:List UInt8} {b b1 b2 b3 b4 b5:Bool} {st u:Gst} {n:Int} {v:List Int} {o:List Gop} (h1:RdIs stR l b st l1 b1) (h2:RdIs intR l1 b1 n l2 b2) (h3:RdIs (manyR intR) l2 b2 v l3 b3) (h4:RdIs stR l3 b3 u l4 b4) (h5:RdIs (manyR opR) l4 b4 o l5 b5):
  RdIs grpR l b (⟨st,n,v,u,o⟩:Grp) l5 b5:=
 RdIs.bind (f:=λs=>rbind intR λn=>rbind (manyR intR) λv=>rbind stR λu=>rbind (manyR opR) λl=>rpure (⟨s,n,v,u,l⟩:Grp)) h1
  (RdIs.bind (f:=λn=>rbind (manyR intR) λv=>rbind stR λu=>rbind (manyR opR) λl=>rpure (⟨st,n,v,u,l⟩:Grp)) h2
   (RdIs.bind (f:=λv=>rbind stR λu=>rbind (manyR opR) λl=>rpure (⟨st,n,v,u,l⟩:Grp)) h3
    (RdIs.bind (f:=λu=>rbind (manyR opR) λl=>rpure (⟨st,n,v,u,l⟩:Grp)) h4 (RdIs.bind (f:=λl=>rpure (⟨st,n,v,u,l⟩:Grp)) h5 RdIs.pure))))
theorem decZ_of {l l':List UInt8} {b':Bool} {g:Grp} (h:RdIs grpR l false g l' b'):decZ l=if b'=false∧l'=[]∧chkB g=true then some g else none:=by
 unfold decZ;rcases h.step rfl with⟨h1,h2⟩|⟨h1,h2⟩
 ·rw[h2,h1];cases l' with
  |nil=>simp
  |cons a t=>simp
 ·rw[h2,h1];simp
end
section
open Go.Lib
def gz:Grp:=⟨.zero,0,[],.zero,[]⟩
def covB (v w:List Int):Bool:=allIx (max v.length w.length) λr=>decide (w.getD r 0<=v.getD r 0)
def setV (v:List Int) (r n:Int):List Int:=(List.range (max v.length r.toNat)).map λ(k:Nat)=>if (k:Int)+1=r then n else v.getD k 0
def withV (v:List Int) (r n:Int):List Int:=plainV (setV v r n)
theorem pv_snoc0 (v:List Int):plainV (v++[0])=plainV v:=by unfold plainV;simp
theorem pv_snoc (v:List Int) (x:Int) (h:x≠0):plainV (v++[x])=v++[x]:=by unfold plainV;simp[h]
theorem getD_snoc (v:List Int) (x:Int) (k:Nat):(v++[x]).getD k 0=if k=v.length then x else v.getD k 0:=by
 simp only[List.getD_eq_getElem?_getD,List.getElem?_append,List.getElem?_singleton];by_cases h1:k<v.length
 ·rw[if_pos h1,if_neg (by omega)]
 ·rw[if_neg h1];by_cases h2:k=v.length
  ·rw[if_pos h2,if_pos (by omega)];rfl
  ·rw[if_neg h2,if_neg (by omega),List.getElem?_eq_none (by omega)]
theorem snoc_ind {P:List Int->Prop} (h0:P []) (h1:∀v x,P v->P (v++[x])) (v:List Int):P v:=by
 have:∀u:List Int,P u.reverse:=λu=>by
  induction u with
  |nil=>exact h0
  |cons a u ih=>rw[List.reverse_cons];exact h1 _ _ ih
 have h:=this v.reverse;rwa[List.reverse_reverse] at h
theorem pv_getD (v:List Int) (k:Nat):(plainV v).getD k 0=v.getD k 0:=by
 refine snoc_ind (P:=λv=>(plainV v).getD k 0=v.getD k 0) rfl (λv x ih=> ?_) v;by_cases hx:x=0
 ·subst hx;rw[pv_snoc0,ih,getD_snoc];split
  ·rename_i h;subst h;simp[List.getD_eq_getElem?_getD]
  ·rfl
 ·rw[pv_snoc _ _ hx]
theorem pv_len (v:List Int):(plainV v).length<=v.length:=by
 refine snoc_ind (P:=λv=>(plainV v).length<=v.length) (Nat.le_refl _) (λv x ih=> ?_) v;by_cases hx:x=0
 ·subst hx;rw[pv_snoc0,List.length_append];omega
 ·rw[pv_snoc _ _ hx];exact Nat.le_refl _
theorem pv_pv (v:List Int):plainV (plainV v)=plainV v:=by
 refine snoc_ind (P:=λv=>plainV (plainV v)=plainV v) rfl (λv x ih=> ?_) v;by_cases hx:x=0
 ·subst hx;rw[pv_snoc0];exact ih
 ·rw[pv_snoc _ _ hx,pv_snoc _ _ hx]
theorem atV_nat {v:List Int} {r:Int} (h:1<=r):atV v r=v.getD (r-1).toNat 0:=by unfold atV;rw[if_neg (by omega)]
theorem setV_getD (v:List Int) (r n:Int) (k:Nat) (hr:1<=r):(setV v r n).getD k 0=if (k:Int)+1=r then n else v.getD k 0:=by
 unfold setV;rw[List.getD_eq_getElem?_getD,List.getElem?_map];by_cases h:k<max v.length r.toNat
 ·rw[List.getElem?_range h];rfl
 ·rw[List.getElem?_eq_none (by simpa using h),Option.map_none,Option.getD_none,if_neg (by omega)];simp[List.getD_eq_getElem?_getD,List.getElem?_eq_none (show v.length<=k by omega)]
theorem withV_getD (v:List Int) (r n:Int) (k:Nat) (hr:1<=r):(withV v r n).getD k 0=if (k:Int)+1=r then n else v.getD k 0:=by
 unfold withV;rw[pv_getD,setV_getD v r n k hr]
theorem atV_with (v:List Int) (r n q:Int) (hr:1<=r):atV (withV v r n) q=if q=r then n else atV v q:=by
 unfold atV;by_cases hq:q<1
 ·rw[if_pos hq,if_neg (by omega),if_pos hq]
 ·rw[if_neg hq,if_neg hq,withV_getD _ _ _ _ hr];by_cases h:q=r
  ·rw[if_pos h,if_pos (by omega)]
  ·rw[if_neg h,if_neg (by omega)]
theorem withV_plain (v:List Int) (r n:Int):plainV (withV v r n)=withV v r n:=pv_pv _
theorem covB_iff {v w:List Int}:covB v w=true↔∀k,w.getD k 0<=v.getD k 0:=by
 refine⟨λh k=> ?_,λh=>allIx_true λk _=>decide_eq_true (h k)⟩;by_cases hk:k<max v.length w.length
 ·have:=allIx_of h k hk;simpa using this
 ·simp[List.getD_eq_getElem?_getD,List.getElem?_eq_none (show v.length<=k by omega),List.getElem?_eq_none (show w.length<=k by omega)]
def oldB (v:List Int) (g:Grp):Bool:=decide (g.n<=atV v g.s.r)
def aheadV:List Int->List Grp->Option (List Int)
 |v,[]=>some v
 |v,g::l=>if chkB g && covB v g.deps && decide (atV v g.s.r=g.n-1) then aheadV (withV v g.s.r g.n) l else none
theorem aheadV_append:∀(l m:List Grp) (v:List Int),aheadV v (l++m)=(aheadV v l).bind λu=>aheadV u m
 | [],m,v=>rfl
 |g::l,m,v=>by
  simp only[List.cons_append,aheadV];split
  ·exact aheadV_append l m _
  ·rfl
theorem aheadV_snoc {l:List Grp} {v u:List Int} {g:Grp} (h:aheadV v l=some u) (hc:chkB g=true) (hr:covB u g.deps=true) (hn:atV u g.s.r=g.n-1):aheadV v (l++[g])=some (withV u g.s.r g.n):=by
 rw[aheadV_append,h];simp[aheadV,hc,hr,hn]
theorem chk_right {g:Grp} (h:chkB g=true):g.s.right=true∧1<=g.n∧g.n<=1099511627776∧atV g.deps g.s.r=g.n-1:=by
 simp only[chkB,headB,Bool.and_eq_true,decide_eq_true_eq] at h;exact⟨h.1.1.1.1.1,h.1.1.1.1.2,h.1.1.1.2,h.1.2⟩
theorem right_r {s:Gst} (h:s.right=true):1<=s.r∧s.r<=16:=by
 simp only[Gst.right,Bool.and_eq_true,decide_eq_true_eq] at h;exact⟨h.1.2,h.2⟩
end
section
open Go.Lib
def vecZ (l:List UInt8):Option (List Int):=match Vr.takeNats l with
 | .ok ns []=>if vecB (ns.map λ(n:Nat)=>(n:Int))=true then some (ns.map λ(n:Nat)=>(n:Int)) else none
 |_=>none
inductive RG where
 |ask (v:List Int)
 |tell (g:Grp)
 |err (c:Int)
def readZ:List UInt8->RG
 | []=> .err 11
 | b::l=>if b.toNat=33 then (match decZ l with
   |some g=> .tell g
   |none=> .err 80)
  else if b.toNat=63 then (match vecZ l with
   |some v=> .ask v
   |none=> .err 11)
  else .err 11
theorem vecB_nn {v:List Int} (h:vecB v=true):(∀x∈v,0<=x)∧v.length<=16:=by
 simp only[vecB,Bool.and_eq_true,List.all_eq_true,decide_eq_true_eq] at h;exact⟨h.1.1,h.1.2⟩
end
end
end Go.Proofs.YtkhmicndehlneaaGreatDoor
