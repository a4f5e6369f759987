/- Part 1 of the walks and plain laws that this claim uses, joined. Conditions: as each theorem states. -/
import Derived.BigQuiet
import Derived.KernelRfl
import Derived.Laws.Rows
import Derived.Lib.Hide
import Derived.Lib.QuietBelow
import Derived.Test.YtkhmicndehlneaaGreatDoorProg
import Derived.Test.YtkhmicndehlneaaGreatDoorYh0
namespace Go.Proofs.YtkhmicndehlneaaGreatDoor
set_option maxRecDepth 100000
set_option maxHeartbeats 16000000
set_option linter.unusedVariables false
section
open Go.RowKit Go.Lib
section
variable {w : World} {g i : Nat} {T : TypeId} {fr : Nat × Nat} {c : Array Value} {v : Value}
theorem hid {p:Prop} (h:p):RowKit.Hid p:=h
theorem crw (h:w.heap[g]? =some (.cells c T fr)):w.cell? ⟨g,i,none⟩=c[i]? :=aD _ _ _ _ _ _ h
theorem cw0 {a0:Value} {l:List Value} (h:w.heap[g]? =some (.cells (List.toArray (a0::l)) T fr)):w.cell? ⟨g,0,none⟩=some a0:=crw h
theorem cw1 {a0 a1:Value} {l:List Value} (h:w.heap[g]? =some (.cells (List.toArray (a0::a1::l)) T fr)):w.cell? ⟨g,1,none⟩=some a1:=crw h
theorem cw2 {a0 a1 a2:Value} {l:List Value} (h:w.heap[g]? =some (.cells (List.toArray (a0::a1::a2::l)) T fr)):w.cell? ⟨g,2,none⟩=some a2:=crw h
theorem cw3 {a0 a1 a2 a3:Value} {l:List Value} (h:w.heap[g]? =some (.cells (List.toArray (a0::a1::a2::a3::l)) T fr)):w.cell? ⟨g,3,none⟩=some a3:=crw h
theorem cw4 {a0 a1 a2 a3 a4:Value} {l:List Value} (h:w.heap[g]? =some (.cells (List.toArray (a0::a1::a2::a3::a4::l)) T fr)):w.cell? ⟨g,4,none⟩=some a4:=crw h
theorem cw5 {a0 a1 a2 a3 a4 a5:Value} {l:List Value} (h:w.heap[g]? =some (.cells (List.toArray (a0::a1::a2::a3::a4::a5::l)) T fr)):w.cell? ⟨g,5,none⟩=some a5:=crw h
theorem cw6 {a0 a1 a2 a3 a4 a5 a6:Value} {l:List Value} (h:w.heap[g]? =some (.cells (List.toArray (a0::a1::a2::a3::a4::a5::a6::l)) T fr)):w.cell? ⟨g,6,none⟩=some a6:=crw h
theorem cw7 {a0 a1 a2 a3 a4 a5 a6 a7:Value} {l:List Value} (h:w.heap[g]? =some (.cells (List.toArray (a0::a1::a2::a3::a4::a5::a6::a7::l)) T fr)):w.cell? ⟨g,7,none⟩=some a7:=crw h
theorem cw8 {a0 a1 a2 a3 a4 a5 a6 a7 a8:Value} {l:List Value} (h:w.heap[g]? =some (.cells (List.toArray (a0::a1::a2::a3::a4::a5::a6::a7::a8::l)) T fr)):w.cell? ⟨g,8,none⟩=some a8:=crw h
theorem cw9 {a0 a1 a2 a3 a4 a5 a6 a7 a8 a9:Value} {l:List Value} (h:w.heap[g]? =some (.cells (List.toArray (a0::a1::a2::a3::a4::a5::a6::a7::a8::a9::l)) T fr)):w.cell? ⟨g,9,none⟩=some a9:=crw h
theorem cw10 {a0 a1 a2 a3 a4 a5 a6 a7 a8 a9 a10:Value} {l:List Value} (h:w.heap[g]? =some (.cells (List.toArray (a0::a1::a2::a3::a4::a5::a6::a7::a8::a9::a10::l)) T fr)):w.cell? ⟨g,10,none⟩=some a10:=crw h
theorem cw11 {a0 a1 a2 a3 a4 a5 a6 a7 a8 a9 a10 a11:Value} {l:List Value} (h:w.heap[g]? =some (.cells (List.toArray (a0::a1::a2::a3::a4::a5::a6::a7::a8::a9::a10::a11::l)) T fr)):w.cell? ⟨g,11,none⟩=some a11:=crw h
theorem cw12 {a0 a1 a2 a3 a4 a5 a6 a7 a8 a9 a10 a11 a12:Value} {l:List Value} (h:w.heap[g]? =some (.cells (List.toArray (a0::a1::a2::a3::a4::a5::a6::a7::a8::a9::a10::a11::a12::l)) T fr)):w.cell? ⟨g,12,none⟩=some a12:=crw h
theorem cw13 {a0 a1 a2 a3 a4 a5 a6 a7 a8 a9 a10 a11 a12 a13:Value} {l:List Value} (h:w.heap[g]? =some (.cells (List.toArray (a0::a1::a2::a3::a4::a5::a6::a7::a8::a9::a10::a11::a12::a13::l)) T fr)):w.cell? ⟨g,13,none⟩=some a13:=crw h
theorem cw14 {a0 a1 a2 a3 a4 a5 a6 a7 a8 a9 a10 a11 a12 a13 a14:Value} {l:List Value} (h:w.heap[g]? =some (.cells (List.toArray (a0::a1::a2::a3::a4::a5::a6::a7::a8::a9::a10::a11::a12::a13::a14::l)) T fr)):w.cell? ⟨g,14,none⟩=some a14:=crw h
theorem cw15 {a0 a1 a2 a3 a4 a5 a6 a7 a8 a9 a10 a11 a12 a13 a14 a15:Value} {l:List Value} (h:w.heap[g]? =some (.cells (List.toArray (a0::a1::a2::a3::a4::a5::a6::a7::a8::a9::a10::a11::a12::a13::a14::a15::l)) T fr)):w.cell? ⟨g,15,none⟩=some a15:=crw h
theorem cw16 {a0 a1 a2 a3 a4 a5 a6 a7 a8 a9 a10 a11 a12 a13 a14 a15 a16:Value} {l:List Value} (h:w.heap[g]? =some (.cells (List.toArray (a0::a1::a2::a3::a4::a5::a6::a7::a8::a9::a10::a11::a12::a13::a14::a15::a16::l)) T fr)):w.cell? ⟨g,16,none⟩=some a16:=crw h
theorem cw17 {a0 a1 a2 a3 a4 a5 a6 a7 a8 a9 a10 a11 a12 a13 a14 a15 a16 a17:Value} {l:List Value} (h:w.heap[g]? =some (.cells (List.toArray (a0::a1::a2::a3::a4::a5::a6::a7::a8::a9::a10::a11::a12::a13::a14::a15::a16::a17::l)) T fr)):w.cell? ⟨g,17,none⟩=some a17:=crw h
end
end
section
open Go.RowKit Go.Lib Go.Sort
section
variable {w : World} {g i : Nat} {T : TypeId} {fr : Nat × Nat} {c : Array Value} {v : Value}
theorem rgx (h:w.heap[g]? =some (.cells c T fr)) (e:c[i]? =some v) (d:Nat) (os:Array Obj):(grow (redrawn w d) os).cell? ⟨g,i,none⟩=some v:=aj (by rw[crw h];exact e) d os
theorem qz {P:Program} {ops:Array Oper} {Q:Act->World->Prop} {a:Act} (h:∀wq,Below w.heap.size w wq->Q a wq):wpQuiet P ops (λw'=>∃p:Regrown,w'=grow (redrawn w p.d) p.os) (λa'=>∀w',(∃p:Regrown,w'=grow (redrawn w p.d) p.os)->Q a' w') [] a:=by
 refine wpQuiet_nil ?_;rintro w' ⟨p,rfl⟩;exact h _ (bE w p.d p.os)
theorem rqb {P:Program} {id:Nat} {Q:Exit->Act->World->Prop} {a:Act} {l:List Oper}
  (h:wpQuiet P l.toArray (λw'=>∃p:Regrown,w'=grow (redrawn w p.d) p.os) (λa'=>∀w',(∃p:Regrown,w'=grow (redrawn w p.d) p.os)->Q .normal a' w') l a)
  (hm:P.follows .mixedOrders=true:=by kernel_rfl) (hB:Region.lexB .any l.toArray=true:=by kernel_rfl):(Code.region id l.toArray true).wp P Q a w:=wp_region_quiet_below hm hB h
theorem rg0 {a0:Value} {l:List Value} (h:w.heap[g]? =some (.cells (List.toArray (a0::l)) T fr)):∀(d:Nat) (os:Array Obj),(grow (redrawn w d) os).cell? ⟨g,0,none⟩=some a0:=rgx h rfl
theorem rg1 {a0 a1:Value} {l:List Value} (h:w.heap[g]? =some (.cells (List.toArray (a0::a1::l)) T fr)):∀(d:Nat) (os:Array Obj),(grow (redrawn w d) os).cell? ⟨g,1,none⟩=some a1:=rgx h rfl
theorem rg2 {a0 a1 a2:Value} {l:List Value} (h:w.heap[g]? =some (.cells (List.toArray (a0::a1::a2::l)) T fr)):∀(d:Nat) (os:Array Obj),(grow (redrawn w d) os).cell? ⟨g,2,none⟩=some a2:=rgx h rfl
theorem rg3 {a0 a1 a2 a3:Value} {l:List Value} (h:w.heap[g]? =some (.cells (List.toArray (a0::a1::a2::a3::l)) T fr)):∀(d:Nat) (os:Array Obj),(grow (redrawn w d) os).cell? ⟨g,3,none⟩=some a3:=rgx h rfl
theorem rg4 {a0 a1 a2 a3 a4:Value} {l:List Value} (h:w.heap[g]? =some (.cells (List.toArray (a0::a1::a2::a3::a4::l)) T fr)):∀(d:Nat) (os:Array Obj),(grow (redrawn w d) os).cell? ⟨g,4,none⟩=some a4:=rgx h rfl
theorem rg5 {a0 a1 a2 a3 a4 a5:Value} {l:List Value} (h:w.heap[g]? =some (.cells (List.toArray (a0::a1::a2::a3::a4::a5::l)) T fr)):∀(d:Nat) (os:Array Obj),(grow (redrawn w d) os).cell? ⟨g,5,none⟩=some a5:=rgx h rfl
theorem rg6 {a0 a1 a2 a3 a4 a5 a6:Value} {l:List Value} (h:w.heap[g]? =some (.cells (List.toArray (a0::a1::a2::a3::a4::a5::a6::l)) T fr)):∀(d:Nat) (os:Array Obj),(grow (redrawn w d) os).cell? ⟨g,6,none⟩=some a6:=rgx h rfl
theorem rg7 {a0 a1 a2 a3 a4 a5 a6 a7:Value} {l:List Value} (h:w.heap[g]? =some (.cells (List.toArray (a0::a1::a2::a3::a4::a5::a6::a7::l)) T fr)):∀(d:Nat) (os:Array Obj),(grow (redrawn w d) os).cell? ⟨g,7,none⟩=some a7:=rgx h rfl
theorem rg8 {a0 a1 a2 a3 a4 a5 a6 a7 a8:Value} {l:List Value} (h:w.heap[g]? =some (.cells (List.toArray (a0::a1::a2::a3::a4::a5::a6::a7::a8::l)) T fr)):∀(d:Nat) (os:Array Obj),(grow (redrawn w d) os).cell? ⟨g,8,none⟩=some a8:=rgx h rfl
theorem rg9 {a0 a1 a2 a3 a4 a5 a6 a7 a8 a9:Value} {l:List Value} (h:w.heap[g]? =some (.cells (List.toArray (a0::a1::a2::a3::a4::a5::a6::a7::a8::a9::l)) T fr)):∀(d:Nat) (os:Array Obj),(grow (redrawn w d) os).cell? ⟨g,9,none⟩=some a9:=rgx h rfl
theorem rg10 {a0 a1 a2 a3 a4 a5 a6 a7 a8 a9 a10:Value} {l:List Value} (h:w.heap[g]? =some (.cells (List.toArray (a0::a1::a2::a3::a4::a5::a6::a7::a8::a9::a10::l)) T fr)):∀(d:Nat) (os:Array Obj),(grow (redrawn w d) os).cell? ⟨g,10,none⟩=some a10:=rgx h rfl
theorem rg11 {a0 a1 a2 a3 a4 a5 a6 a7 a8 a9 a10 a11:Value} {l:List Value} (h:w.heap[g]? =some (.cells (List.toArray (a0::a1::a2::a3::a4::a5::a6::a7::a8::a9::a10::a11::l)) T fr)):∀(d:Nat) (os:Array Obj),(grow (redrawn w d) os).cell? ⟨g,11,none⟩=some a11:=rgx h rfl
theorem rg12 {a0 a1 a2 a3 a4 a5 a6 a7 a8 a9 a10 a11 a12:Value} {l:List Value} (h:w.heap[g]? =some (.cells (List.toArray (a0::a1::a2::a3::a4::a5::a6::a7::a8::a9::a10::a11::a12::l)) T fr)):∀(d:Nat) (os:Array Obj),(grow (redrawn w d) os).cell? ⟨g,12,none⟩=some a12:=rgx h rfl
theorem rg13 {a0 a1 a2 a3 a4 a5 a6 a7 a8 a9 a10 a11 a12 a13:Value} {l:List Value} (h:w.heap[g]? =some (.cells (List.toArray (a0::a1::a2::a3::a4::a5::a6::a7::a8::a9::a10::a11::a12::a13::l)) T fr)):∀(d:Nat) (os:Array Obj),(grow (redrawn w d) os).cell? ⟨g,13,none⟩=some a13:=rgx h rfl
theorem rg14 {a0 a1 a2 a3 a4 a5 a6 a7 a8 a9 a10 a11 a12 a13 a14:Value} {l:List Value} (h:w.heap[g]? =some (.cells (List.toArray (a0::a1::a2::a3::a4::a5::a6::a7::a8::a9::a10::a11::a12::a13::a14::l)) T fr)):∀(d:Nat) (os:Array Obj),(grow (redrawn w d) os).cell? ⟨g,14,none⟩=some a14:=rgx h rfl
theorem rg15 {a0 a1 a2 a3 a4 a5 a6 a7 a8 a9 a10 a11 a12 a13 a14 a15:Value} {l:List Value} (h:w.heap[g]? =some (.cells (List.toArray (a0::a1::a2::a3::a4::a5::a6::a7::a8::a9::a10::a11::a12::a13::a14::a15::l)) T fr)):∀(d:Nat) (os:Array Obj),(grow (redrawn w d) os).cell? ⟨g,15,none⟩=some a15:=rgx h rfl
theorem rg16 {a0 a1 a2 a3 a4 a5 a6 a7 a8 a9 a10 a11 a12 a13 a14 a15 a16:Value} {l:List Value} (h:w.heap[g]? =some (.cells (List.toArray (a0::a1::a2::a3::a4::a5::a6::a7::a8::a9::a10::a11::a12::a13::a14::a15::a16::l)) T fr)):∀(d:Nat) (os:Array Obj),(grow (redrawn w d) os).cell? ⟨g,16,none⟩=some a16:=rgx h rfl
theorem rg17 {a0 a1 a2 a3 a4 a5 a6 a7 a8 a9 a10 a11 a12 a13 a14 a15 a16 a17:Value} {l:List Value} (h:w.heap[g]? =some (.cells (List.toArray (a0::a1::a2::a3::a4::a5::a6::a7::a8::a9::a10::a11::a12::a13::a14::a15::a16::a17::l)) T fr)):∀(d:Nat) (os:Array Obj),(grow (redrawn w d) os).cell? ⟨g,17,none⟩=some a17:=rgx h rfl
end
end
end Go.Proofs.YtkhmicndehlneaaGreatDoor
