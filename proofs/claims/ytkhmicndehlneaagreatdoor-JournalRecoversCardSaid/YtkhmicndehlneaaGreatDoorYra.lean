/- Part 1 of the walks and plain laws that this claim uses, joined. Conditions: as each theorem states. -/
import Derived.Deep.OwnRows
import Derived.IntWalk
import Derived.Laws.BitsAllLaws
import Derived.Laws.IdiomStrings
import Derived.Laws.OwnMore
import Derived.Laws.Rows
import Derived.Lib.Hide
import Derived.Lib.RuneCount
import Derived.Lib.ValidU
import Derived.Lib.Varint
import Derived.Test.YtkhmicndehlneaaGreatDoorProg
import Derived.WalkKit
import Derived.Test.YtkhmicndehlneaaGreatDoorYr0
namespace Go.Proofs.YtkhmicndehlneaaGreatDoor
set_option maxRecDepth 100000
set_option maxHeartbeats 16000000
set_option linter.unusedVariables false
section
open Go.RowKit Go.Lib
section
variable {w : World} {g i : Nat} {T : TypeId} {fr : Nat × Nat} {c : Array Value} {v : Value}
theorem hid {p:Prop} (h:p):Hid p:=h
theorem crw (h:w.heap[g]? =some (.cells c T fr)):w.cell? ⟨g,i,none⟩=c[i]? :=aG _ _ _ _ _ _ h
variable {a0 a1 a2 a3 a4 a5 a6 a7 a8 a9 a10 a11 a12 a13 a14 a15 a16 a17:Value} {l:List Value}
theorem cw0 (h:w.heap[g]? =some (.cells (List.toArray (a0::l)) T fr)):w.cell? ⟨g,0,none⟩=some a0:=crw h
theorem cw1 (h:w.heap[g]? =some (.cells (List.toArray (a0::a1::l)) T fr)):w.cell? ⟨g,1,none⟩=some a1:=crw h
theorem cw2 (h:w.heap[g]? =some (.cells (List.toArray (a0::a1::a2::l)) T fr)):w.cell? ⟨g,2,none⟩=some a2:=crw h
theorem cw3 (h:w.heap[g]? =some (.cells (List.toArray (a0::a1::a2::a3::l)) T fr)):w.cell? ⟨g,3,none⟩=some a3:=crw h
theorem cw4 (h:w.heap[g]? =some (.cells (List.toArray (a0::a1::a2::a3::a4::l)) T fr)):w.cell? ⟨g,4,none⟩=some a4:=crw h
theorem cw5 (h:w.heap[g]? =some (.cells (List.toArray (a0::a1::a2::a3::a4::a5::l)) T fr)):w.cell? ⟨g,5,none⟩=some a5:=crw h
theorem cw6 (h:w.heap[g]? =some (.cells (List.toArray (a0::a1::a2::a3::a4::a5::a6::l)) T fr)):w.cell? ⟨g,6,none⟩=some a6:=crw h
theorem cw7 (h:w.heap[g]? =some (.cells (List.toArray (a0::a1::a2::a3::a4::a5::a6::a7::l)) T fr)):w.cell? ⟨g,7,none⟩=some a7:=crw h
theorem cw8 (h:w.heap[g]? =some (.cells (List.toArray (a0::a1::a2::a3::a4::a5::a6::a7::a8::l)) T fr)):w.cell? ⟨g,8,none⟩=some a8:=crw h
theorem cw9 (h:w.heap[g]? =some (.cells (List.toArray (a0::a1::a2::a3::a4::a5::a6::a7::a8::a9::l)) T fr)):w.cell? ⟨g,9,none⟩=some a9:=crw h
theorem cw10 (h:w.heap[g]? =some (.cells (List.toArray (a0::a1::a2::a3::a4::a5::a6::a7::a8::a9::a10::l)) T fr)):w.cell? ⟨g,10,none⟩=some a10:=crw h
theorem cw11 (h:w.heap[g]? =some (.cells (List.toArray (a0::a1::a2::a3::a4::a5::a6::a7::a8::a9::a10::a11::l)) T fr)):w.cell? ⟨g,11,none⟩=some a11:=crw h
theorem cw12 (h:w.heap[g]? =some (.cells (List.toArray (a0::a1::a2::a3::a4::a5::a6::a7::a8::a9::a10::a11::a12::l)) T fr)):w.cell? ⟨g,12,none⟩=some a12:=crw h
theorem cw13 (h:w.heap[g]? =some (.cells (List.toArray (a0::a1::a2::a3::a4::a5::a6::a7::a8::a9::a10::a11::a12::a13::l)) T fr)):w.cell? ⟨g,13,none⟩=some a13:=crw h
theorem cw14 (h:w.heap[g]? =some (.cells (List.toArray (a0::a1::a2::a3::a4::a5::a6::a7::a8::a9::a10::a11::a12::a13::a14::l)) T fr)):w.cell? ⟨g,14,none⟩=some a14:=crw h
theorem cw15 (h:w.heap[g]? =some (.cells (List.toArray (a0::a1::a2::a3::a4::a5::a6::a7::a8::a9::a10::a11::a12::a13::a14::a15::l)) T fr)):w.cell? ⟨g,15,none⟩=some a15:=crw h
theorem cw16 (h:w.heap[g]? =some (.cells (List.toArray (a0::a1::a2::a3::a4::a5::a6::a7::a8::a9::a10::a11::a12::a13::a14::a15::a16::l)) T fr)):w.cell? ⟨g,16,none⟩=some a16:=crw h
theorem cw17 (h:w.heap[g]? =some (.cells (List.toArray (a0::a1::a2::a3::a4::a5::a6::a7::a8::a9::a10::a11::a12::a13::a14::a15::a16::a17::l)) T fr)):w.cell? ⟨g,17,none⟩=some a17:=crw h
end
end
section
section
open Go.RowKit
theorem ret_int {k:IntKind} {a b:Int} (h:a=b):Ending.returned (Value.int k a)= .returned (.int k b):=by rw[h]
theorem int_val {k:IntKind} {a b:Int} (h:a=b):Value.int k a= .int k b:=by rw[h]
def Row1 (w:World) (B:Nat) (A:Option Addr) (n:Nat) (f:Nat->Value):Prop:=
 ∀k,k<n->∃ad:Addr,A=some ad∧ad.block<B∧w.cell? (ad.add k)=some (f k)
theorem add_block (a:Addr) (k:Nat):(a.add k).block=a.block:=by unfold Addr.add;split<;>rfl
theorem ju (b k:Nat):(⟨b,0,none⟩:Addr).add k=⟨b,k,none⟩:=by
 unfold Addr.add;by_cases h:k=0
 ·subst h;rfl
 ·rw[aE h];simp
section
variable {w w' : World} {B B' n : Nat} {A : Option Addr} {f g : Nat → Value}
theorem Row1.keep (h:Row1 w B A n f) (hk:∀p:Addr,p.block<B->w'.cell? p=w.cell? p):Row1 w' B A n f:=λk hkn=>by
 obtain⟨ad,e,hb,hc⟩:=h k hkn
 exact⟨ad,e,hb,(hk _ (by rw[add_block];exact hb)).trans hc⟩
theorem Row1.more (h:Row1 w B A n f) (hB:B<=B'):Row1 w B' A n f:=λk hkn=>by
 obtain⟨ad,e,hb,hc⟩:=h k hkn
 exact⟨ad,e,by omega,hc⟩
theorem Row1.below (h:Row1 w B A n f) (hb:Below B w w'):Row1 w' B A n f:=h.keep λ_ hp=>hb.cell hp
theorem Row1.nil:Row1 w B A 0 f:=λk hk=>absurd hk (by omega)
theorem Row1.of_own {base:Nat} {e:TypeId} {v:Option Addr} {c:Nat} {xs:List Value} (h:w.ownsRow base e 1 (.slice v n c) n xs) (hf:∀i,i<n->xs[i]? =some (f i)):Row1 w w.heap.size v n f:=λk hk=>by
 rcases h.2 with⟨_,h0⟩|⟨g,cap,cur,hv,_⟩
 ·exact absurd hk (by omega)
 ·obtain rfl:v=some ⟨g,0,none⟩:=by injection hv
  have hlt:=(h.lt g rfl).2
  exact⟨_,rfl,hlt,h.cells (g:=g) rfl k _ (hf k hk)⟩
end
theorem bt {w w1 w2:World} (h:Below w.heap.size w w1) (h2:Below w1.heap.size w1 w2):Below w.heap.size w w2:=h.trans (h2.mono h.size)
theorem eL {w:World} {a:Addr} {v:Value} (h:w.cell? a=some v):a.block<w.heap.size:=by
 rcases cJ a.block w.heap.size with b|c
 ·exact b
 ·simp[World.cell?,Array.getElem?_eq_none c] at h
def b8 (x:UInt8):Value:= .int .u8 (x.toNat:Int)
theorem kx {P:Program} (w:World) (a b e:TypeId) (c:Nat) (v:Value) (n:Nat) (l:List UInt8) (d:P.underlying a=some (.slice e)) (f:P.underlying e=some (.int .u8)) (i:P.underlying b=some .string)
  (h:w.ownsRow c e 1 v n (l.map b8)):(convert a b v).run P w= .ok (.string ⟨l.toArray⟩) w:=by
 obtain rfl:n=l.length:=by have:=h.1;simpa using this.symm
 rcases h.2 with⟨rfl,hl⟩|⟨g,cap,cur,rfl,_⟩
 ·have:l=[]:=by simpa using hl
  subst this;rw[run_convert_bytes_string w a b e none 0 0 d f i];simp[Conv.bytesToString,Sem.run_pure]
  try rfl
 ·refine run_convert_bytes_back w a b e _ cap l d f i λj k=> ?_;exact h.cells (g:=g) rfl j _ (by simp[b8,k])
end
section
namespace Vr
open Go.Lib
inductive TR where
 |ok (n:Nat) (rest:List UInt8)
 |err (e:Nat)
def takeF:List UInt8->Nat->Nat->TR
 | [],_,_=> .err 10
 |b::l,i,acc=>
  if 128<=b.toNat then (if i=8 then .err 11 else takeF l (i+1) (acc+(b.toNat % 128)*128 ^ i))
  else if b.toNat=0∧0<i then .err 11 else .ok (acc+b.toNat*128 ^ i) l
def take (l:List UInt8):TR:=takeF l 0 0
theorem pow_split (i:Nat) (h:i<8):128 ^ (9-i)=128*128 ^ (9-(i+1)):=by
 rw[show 9-i=(9-(i+1))+1 by omega,Nat.pow_succ,Nat.mul_comm]
theorem sum_split (a m i:Nat):a+(m % 128)*128 ^ i+(m / 128)*128 ^ (i+1)=a+m*128 ^ i:=by
 rw[Nat.pow_succ,<-Nat.mul_assoc,Nat.mul_comm (m / 128*128 ^ i) 128,<-Nat.mul_assoc,Nat.add_assoc,<-Nat.add_mul];rw[show m % 128+128*(m / 128)=m from by omega]
theorem toNat_big (m:Nat):(m % 128+128).toUInt8.toNat=m % 128+128:=by
 rw[Nat.toUInt8_eq,UInt8.toNat_ofNat',gx (by omega)]
theorem toNat_small (m:Nat) (h:m<128):m.toUInt8.toNat=m:=by
 rw[Nat.toUInt8_eq,UInt8.toNat_ofNat',gx (by omega)]
theorem takeF_put (r:List UInt8) (m:Nat):∀(i acc:Nat),i<=8->m<128 ^ (9-i)->(m=0->i=0)->takeF (uvarint m++r) i acc= .ok (acc+m*128 ^ i) r:=by
 induction m using Nat.strongRecOn with
 | _ m ih=>
  intro i acc d a e;by_cases b:m<128
  ·rw[uvarint_small b];simp only[List.cons_append,List.nil_append,takeF];rw[toNat_small m b,aE (by omega),aE (by omega)]
  ·rw[uvarint_big (by omega)];simp only[List.cons_append,takeF];have c:i<8:=by
    rcases cJ i 8 with h|h
    ·exact h
    ·exfalso;obtain rfl:i=8:=by omega
     simp at a;omega
   rw[toNat_big,aN (by omega),aE (by omega)];rw[pow_split i c] at a;rw[show(m % 128+128) % 128=m % 128 by omega];rw[ih (m / 128) (by omega) (i+1) _ (by omega) (Nat.div_lt_of_lt_mul a) (by omega),sum_split]
theorem takeF_ok (l:List UInt8):∀(i acc n:Nat) (r:List UInt8),i<=8->takeF l i acc= .ok n r->∃m,l=uvarint m++r∧n=acc+m*128 ^ i∧m<128 ^ (9-i)∧(m=0->i=0):=by
 induction l with
 |nil=>intro i acc n r _ h;simp[takeF] at h
 | cons b l ih=>
  intro i acc n r k h;have o:=fm b;simp only[takeF] at h;by_cases c:128<=b.toNat
  ·rw[aN c] at h;by_cases a:i=8
   ·rw[aN a] at h;cases h
   ·rw[aE a] at h;obtain⟨m,rfl,rfl,p,d⟩:=ih (i+1) _ n r (by omega) h;have j:m≠0:=λe=>by have:=d e;omega
    refine⟨m*128+(b.toNat-128),?_,?_,?_,λe=>by omega⟩
    ·rw[uvarint_big (x:=m*128+(b.toNat-128)) (by omega)];rw[show(m*128+(b.toNat-128)) / 128=m by omega,show(m*128+(b.toNat-128)) % 128+128=b.toNat by omega];simp
    ·rw[<-sum_split acc (m*128+(b.toNat-128)) i];rw[show(m*128+(b.toNat-128)) / 128=m by omega,show(m*128+(b.toNat-128)) % 128=b.toNat % 128 by omega]
    ·rw[pow_split i (by omega)];omega
  ·rw[aE c] at h;by_cases a:b.toNat=0∧0<i
   ·rw[aN a] at h;cases h
   ·rw[aE a] at h;injection h with f g;subst g;refine⟨b.toNat,?_,f.symm,?_,λe=>by omega⟩
    ·rw[uvarint_small (by omega)];simp
    ·have:128 ^ 1<=128 ^ (9-i):=Nat.pow_le_pow_right (by decide) (by omega);omega
theorem takeF_cut (m:Nat):∀(i acc k:Nat),i<=8->m<128 ^ (9-i)->k<(uvarint m).length->takeF ((uvarint m).take k) i acc= .err 10:=by
 induction m using Nat.strongRecOn with
 | _ m ih=>
  intro i acc k e b a;cases k with
  |zero=>rfl
  |succ k=>
  by_cases c:m<128
  ·rw[uvarint_small c] at a;simp at a
  ·rw[uvarint_big (by omega)] at a ⊢;simp only[List.take_succ_cons,takeF];have d:i<8:=by
    rcases cJ i 8 with h|h
    ·exact h
    ·exfalso;obtain rfl:i=8:=by omega
     simp at b;omega
   rw[toNat_big,aN (by omega),aE (by omega)];rw[pow_split i d] at b;exact ih (m / 128) (by omega) (i+1) _ k (by omega) (Nat.div_lt_of_lt_mul b) (by simpa using a)
theorem take_put (m:Nat) (h:m<9223372036854775808) (r:List UInt8):take (uvarint m++r)= .ok m r:=by
 have:=takeF_put r m 0 0 (by omega) (by simpa using h) (λ_=>rfl);simpa[take] using this
theorem take_ok {l:List UInt8} {n:Nat} {r:List UInt8} (h:take l= .ok n r):l=uvarint n++r∧n<9223372036854775808:=by
 obtain⟨m,a,b,c,_⟩:=takeF_ok l 0 0 n r (by omega) h;have e:n=m:=by simpa using b
 subst e;exact⟨a,by simpa using c⟩
theorem take_cut (m:Nat) (h:m<9223372036854775808) (k:Nat) (hk:k<(uvarint m).length):take ((uvarint m).take k)= .err 10:=
 takeF_cut m 0 0 k (by omega) (by simpa using h) hk
theorem takeF_err (l:List UInt8):∀(i acc e:Nat),takeF l i acc= .err e->e=10∨e=11:=by
 induction l with
 |nil=>intro i acc e h;simp[takeF] at h;omega
 | cons b l ih=>
  intro i acc e h;simp only[takeF] at h;split at h
  ·split at h
   ·injection h;omega
   ·exact ih _ _ _ h
  ·split at h
   ·injection h;omega
   ·cases h
end Vr
end
section
namespace Vr
open Go.Lib
inductive LR where
 |ok (ns:List Nat) (rest:List UInt8)
 |err (e:Nat)
def takeN:Nat->List UInt8->LR
 |0,l=> .ok [] l
 | k+1,l=>match take l with
  | .ok n r=>match takeN k r with
   | .ok ns r'=> .ok (n::ns) r'
   | .err e=> .err e
  | .err e=> .err e
def LR.pre (ns:List Nat):LR->LR
 | .ok ms r=> .ok (ns++ms) r
 | .err e=> .err e
theorem LR.pre_nil (x:LR):LR.pre [] x=x:=by cases x<;>rfl
theorem LR.pre_pre (a b:List Nat) (x:LR):LR.pre a (LR.pre b x)=LR.pre (a++b) x:=by cases x<;>simp[LR.pre]
theorem takeN_ok {k n:Nat} {l r:List UInt8} (h:take l= .ok n r):takeN (k+1) l=LR.pre [n] (takeN k r):=by
 simp only[takeN,h];cases takeN k r<;>rfl
theorem takeN_err {k e:Nat} {l:List UInt8} (h:take l= .err e):takeN (k+1) l= .err e:=by
 simp only[takeN,h]
def takeNats (l:List UInt8):LR:=match take l with
 | .err e=> .err e
 | .ok n r=>if r.length<n then .err 10 else takeN n r
def listB (ns:List Nat):List UInt8:=ns.flatMap uvarint
theorem takeN_back:∀(k:Nat) (l:List UInt8) (ns:List Nat) (r:List UInt8),takeN k l= .ok ns r->l=listB ns++r∧ns.length=k∧∀m∈ns,m<9223372036854775808
 |0,l,ns,r,h=>by
  simp only[takeN] at h
  cases h
  exact⟨rfl,rfl,by simp⟩
 | k+1,l,ns,r,h=>by
  cases ht:take l with
  |err e=>rw[takeN_err ht] at h;cases h
  | ok n r1=>
   rw[takeN_ok ht] at h
   cases h2:takeN k r1 with
   |err e=>rw[h2] at h;cases h
   |ok ms r2=>
    rw[h2] at h
    injection h with e1 e2
    subst e1 e2
    obtain⟨h3,h4,h5⟩:=takeN_back k r1 ms r2 h2
    obtain⟨h6,h7⟩:=take_ok ht
    refine⟨by rw[h6,h3];simp[listB],by simp[h4],?_⟩
    intro m hm
    rcases dh.1 hm with rfl|hm
    ·exact h7
    ·exact h5 m hm
theorem uv_pos (m:Nat):1<=(uvarint m).length:=uvarint_pos m
theorem listB_len (a:List Nat):a.length<=(listB a).length:=by
 induction a with
 |nil=>simp
 |cons m a ih=>have:=uv_pos m;simp only[listB,cG,al,bQ] at *;omega
theorem takeNats_back {l:List UInt8} {a:List Nat} {r:List UInt8} (h:takeNats l= .ok a r):l=uvarint a.length++listB a++r∧a.length<=l.length∧∀m∈a,m<9223372036854775808:=by
 unfold takeNats at h;cases b:take l with
 |err e=>rw[b] at h;cases h
 | ok n c=>
  rw[b] at h;simp only at h;split at h
  ·cases h
  ·obtain⟨d,f,g⟩:=takeN_back n c a r h;obtain⟨i,_⟩:=take_ok b;have:l=uvarint a.length++listB a++r:=by rw[i,f,d,aM]
   refine⟨this,?_,g⟩;rw[this,al,al];have:=listB_len a;omega
end Vr
end
section
open Go.Lib
structure Gst where
 t:Int
 r:Int
structure Gid where
 s:Gst
 i:Int
structure Gop where
 kind:Int
 node:Gid
 parent:Gid
 name:ByteArray
 dir:Bool
 dots:List Gst
 after:Gid
 elem:Gid
 text:ByteArray
 elems:List Gid
structure Grp where
 s:Gst
 n:Int
 deps:List Int
 u:Gst
 ops:List Gop
def Gst.zero:Gst:=⟨0,0⟩
def Gid.zero:Gid:=⟨⟨0,0⟩,0⟩
def Gst.right (s:Gst):Bool:=decide (1<=s.t) && decide (s.t<=1099511627776) && decide (1<=s.r) && decide (s.r<=16)
def Gst.lt (a b:Gst):Bool:=decide (a.t<b.t) || (decide (a.t=b.t) && decide (a.r<b.r))
def Gst.eqb (a b:Gst):Bool:=decide (a.t=b.t) && decide (a.r=b.r)
def Gid.right (x:Gid):Bool:=x.s.right && decide (0<=x.i) && decide (x.i<=400000)
def Gid.eqb (a b:Gid):Bool:=a.s.eqb b.s && decide (a.i=b.i)
def Gid.none (x:Gid):Bool:=x.eqb .zero
def Gid.lt (a b:Gid):Bool:=a.s.lt b.s || (a.s.eqb b.s && decide (a.i<b.i))
theorem Gst.eqb_iff {a b:Gst}:a.eqb b=true↔a=b:=by
 cases a;cases b;simp[Gst.eqb]
theorem Gid.eqb_iff {a b:Gid}:a.eqb b=true↔a=b:=by
 cases a;cases b;simp[Gid.eqb,Gst.eqb_iff]
def atV (v:List Int) (r:Int):Int:=if r<1 then 0 else v.getD (r-1).toNat 0
def ck (v:List Int):List Int:=(v.reverse.dropWhile (λx=>decide (x=0))).reverse
def vecB (v:List Int):Bool:=v.all (λx=>decide (0<=x)) && decide (v.length<=16) && decide ((ck v).length=v.length)
def de (g:Gst) (x:Gid) (k:Nat):Bool:=x.right && (x.s.lt g || (x.s.eqb g && decide (x.i<k)))
def dK (g:Gst) (x:Gid) (k:Nat):Bool:=x.none || de g x k
def jd (n:Nat) (p:Nat->Bool):Bool:=(List.range n).all p
theorem es {n:Nat} {p:Nat->Bool} (h:∀i,i<n->p i=true):jd n p=true:=by
 unfold jd;rw[dT];intro i a;exact h i (gy.1 a)
theorem jF {n:Nat} {p:Nat->Bool} (h:jd n p=true):∀i,i<n->p i=true:=by
 unfold jd at h;rw[dT] at h;intro i a;exact h i (gy.2 a)
theorem fB {n:Nat} {p:Nat->Bool} {i:Nat} (a:i<n) (h:p i=false):jd n p=false:=by
 cases e:jd n p with
 |false=>rfl
 |true=>rw[jF e i a] at h;cases h
def dotB (g:Gst) (l:List Gst) (i:Nat):Bool:=(l.getD i .zero).right && !(g.lt (l.getD i .zero)) && (decide (i=0) || (l.getD (i-1) .zero).lt (l.getD i .zero))
def iq (g:Gst) (l:List Gst):Bool:=jd l.length (dotB g l) && decide (l.length<=200)
def ie (g:Gst) (l:List Gid) (k:Nat) (i:Nat):Bool:=de g (l.getD i .zero) k && (decide (i=0) || (l.getD (i-1) .zero).lt (l.getD i .zero))
def fT (g:Gst) (l:List Gid) (k:Nat):Bool:=jd l.length (λi=>ie g l k i) && decide (1<=l.length) && decide (l.length<=2000)
def signB (b:UInt8):Bool:=(decide (48<=b.toNat) && decide (b.toNat<=57)) || (decide (65<=b.toNat) && decide (b.toNat<=90)) || (decide (97<=b.toNat) && decide (b.toNat<=122)) || decide (b.toNat=46) || decide (b.toNat=45) || decide (b.toNat=95)
def eC (s:ByteArray):Bool:=decide (s.data.toList≠[]) && decide (s.size<=32) && decide (s.data.toList≠[46]) && decide (s.data.toList≠[46,46]) && s.data.toList.all signB
def textB (s:ByteArray):Bool:=validD s.data.toList && decide (1<=runeCount s) && decide (runeCount s<=2000)
def dZ (o:Gop):Bool:=
 (decide (o.kind=0) || decide (o.kind=1) || (o.parent.none && decide (o.name.data.toList=[]))) && (decide (o.kind=0) || !o.dir) && (decide (o.kind=2) || decide (o.dots.length=0)) &&
 (decide (o.kind=3) || (o.after.none && o.elem.none && decide (o.text.data.toList=[]))) && (decide (o.kind=4) || decide (o.elems.length=0))
def dL (g:Gst) (o:Gop) (k:Nat):Bool:=
 if o.kind=0 then o.node.eqb ⟨g,k⟩ && dK g o.parent k && eC o.name
 else if o.kind=1 then de g o.node k && dK g o.parent k && eC o.name
 else if o.kind=2 then de g o.node k && iq g o.dots
 else if o.kind=3 then de g o.node k && dK g o.after k && o.elem.eqb ⟨g,k⟩ && textB o.text
 else if o.kind=4 then de g o.node k && fT g o.elems k
 else false
def opB (g:Gst) (o:Gop) (k:Nat):Bool:=dZ o && dL g o k
def eY (o:Gop):Nat:=if o.kind=0 then 1 else if o.kind=3 then runeCount o.text else 0
def opsB (g:Gst):List Gop->Nat->Bool
 | [],_=>true
 |o::l,k=>opB g o k && opsB g l (k+eY o)
def fJ (g:Grp):Bool:=g.s.right && decide (1<=g.n) && decide (g.n<=1099511627776) && vecB g.deps && decide (atV g.deps g.s.r=g.n-1)
def chkB (g:Grp):Bool:=
 fJ g && (if g.u.eqb .zero=true then decide (1<=g.ops.length) && decide (g.ops.length<=200) && opsB g.s g.ops 0 else g.u.right && g.u.lt g.s && decide (g.ops.length=0))
def natZ (n:Int):List UInt8:=if n<0 then [] else uvarint n.toNat
def idZ (x:Gid):List UInt8:=natZ x.s.t++natZ x.s.r++natZ x.i
def stZ (x:Gst):List UInt8:=natZ x.t++natZ x.r
def gj (s:ByteArray):List UInt8:=uvarint s.size++s.data.toList
def opZ (o:Gop):List UInt8:=
  natZ o.kind++idZ o.node++
  (if o.kind=0 then idZ o.parent++gj o.name++natZ (if o.dir then 1 else 0)
   else if o.kind=1 then idZ o.parent++gj o.name
   else if o.kind=2 then natZ o.dots.length++o.dots.flatMap stZ
   else if o.kind=3 then idZ o.after++idZ o.elem++gj o.text
   else natZ o.elems.length++o.elems.flatMap idZ)
def kj (v:List Int):List UInt8:=natZ v.length++v.flatMap natZ
def grpZ (g:Grp):List UInt8:=natZ g.s.t++natZ g.s.r++natZ g.n++kj g.deps++natZ g.u.t++natZ g.u.r++natZ g.ops.length++g.ops.flatMap opZ
abbrev Rd (α:Type):=List UInt8->Option (α×List UInt8)
def ca {α β:Type} (p:Rd α) (f:α->Rd β):Rd β:=λl=>match p l with
 |some (a,r)=>f a r
 |none=>none
def dD {α:Type} (a:α):Rd α:=λl=>some (a,l)
def rfail {α:Type}:Rd α:=λ_=>none
theorem bP {α β:Type} {p:Rd α} {f:α->Rd β} {l r:List UInt8} {a:α} (h:p l=some (a,r)):ca p f l=f a r:=by unfold ca;rw[h]
theorem ff {α β:Type} {p:Rd α} {f:α->Rd β} {l:List UInt8} (h:p l=none):ca p f l=none:=by unfold ca;rw[h]
theorem cK {α β:Type} {p:Rd α} {f:α->Rd β} {l r:List UInt8} {b:β} (h:ca p f l=some (b,r)):∃a q,p l=some (a,q)∧f a q=some (b,r):=by
 unfold ca at h;cases e:p l with
 |none=>rw[e] at h;cases h
 |some x=>obtain⟨a,q⟩:=x;rw[e] at h;exact⟨a,q,rfl,h⟩
def intR:Rd Int:=λl=>match Vr.take l with
 | .ok n r=>some ((n:Int),r)
 | .err _=>none
def eZ:Rd ByteArray:=ca intR λn l=>if l.length<n.toNat then none else some (⟨(l.take n.toNat).toArray⟩,l.drop n.toNat)
def stR:Rd Gst:=ca intR λt=>ca intR λr=>dD ⟨t,r⟩
def idR:Rd Gid:=ca stR λs=>ca intR λi=>dD ⟨s,i⟩
def ez {α:Type} (one:Rd α):Nat->Rd (List α)
 |0=>dD []
 |n+1=>ca one λx=>ca (ez one n) λxs=>dD (x::xs)
def eG {α:Type} (one:Rd α):Rd (List α):=ca intR λn=>ez one n.toNat
def dirR:Rd Bool:=ca intR λd=>if 1<d then rfail else dD (decide (d=1))
def opO (k:Int) (node:Gid):Gop:=⟨k,node,.zero,⟨#[]⟩,false,[],.zero,.zero,⟨#[]⟩,[]⟩
def opR:Rd Gop:=ca intR λk=>ca idR λnode=>
 if k=0 then ca idR λp=>ca eZ λnm=>ca dirR λd=>dD { opO k node with parent:=p,name:=nm,dir:=d }
 else if k=1 then ca idR λp=>ca eZ λnm=>dD { opO k node with parent:=p,name:=nm }
 else if k=2 then ca (eG stR) λl=>dD { opO k node with dots:=l }
 else if k=3 then ca idR λa=>ca idR λe=>ca eZ λx=>dD { opO k node with after:=a,elem:=e,text:=x }
 else if k=4 then ca (eG idR) λl=>dD { opO k node with elems:=l }
 else rfail
def grpR:Rd Grp:=ca stR λs=>ca intR λn=>ca (eG intR) λv=>ca stR λu=>ca (eG opR) λl=>dD ⟨s,n,v,u,l⟩
def decZ (l:List UInt8):Option Grp:=match grpR l with
 |some (g,[])=>if chkB g=true then some g else none
 |_=>none
structure Codec {α:Type} (p:Rd α) (z:α->List UInt8) (ok:α->Prop):Prop where
 put:∀x r,ok x->p (z x++r)=some (x,r)
 back:∀l x r,p l=some (x,r)->l=z x++r∧ok x
def okI (n:Int):Prop:=0<=n∧n<9223372036854775808
def okS (s:Gst):Prop:=okI s.t∧okI s.r
def okD (x:Gid):Prop:=okS x.s∧okI x.i
def okB (s:ByteArray):Prop:=s.size<9223372036854775808
def okL {α:Type} (ok:α->Prop) (l:List α):Prop:=l.length<9223372036854775808∧∀x∈l,ok x
theorem gH {n:Int} (h:0<=n):natZ n=uvarint n.toNat:=by unfold natZ;rw[aE (by omega)]
theorem intC:Codec intR natZ okI:=by
 refine⟨λn r h=> ?_,λl n r h=> ?_⟩
 ·unfold intR;rw[gH h.1,Vr.take_put n.toNat (by have:=h.2;omega)];have:=h.1;simp only[Option.some.injEq,Prod.mk.injEq,and_true];omega
 ·unfold intR at h;cases e:Vr.take l with
  |err c=>rw[e] at h;cases h
  |ok m q=>
   rw[e] at h;simp only[Option.some.injEq,Prod.mk.injEq] at h;obtain⟨rfl,rfl⟩:=h;obtain⟨a,b⟩:=Vr.take_ok e;exact⟨by rw[gH (by omega),bX];exact a,by omega,by omega⟩
theorem stC:Codec stR stZ okS:=by
 refine⟨λx r h=> ?_,λl x r h=> ?_⟩
 ·unfold stR stZ;rw[aM,bP (intC.put _ _ h.1),bP (intC.put _ _ h.2)];rfl
 ·replace h:=cK h;obtain⟨t,e,a,h⟩:=h;replace h:=cK h;obtain⟨n,f,b,h⟩:=h;cases h;obtain⟨rfl,c⟩:=intC.back _ _ _ a;obtain⟨rfl,d⟩:=intC.back _ _ _ b;exact⟨by simp[stZ],c,d⟩
theorem idC:Codec idR idZ okD:=by
 refine⟨λx r h=> ?_,λl x r h=> ?_⟩
 ·unfold idR idZ;rw[aM,show natZ x.s.t++natZ x.s.r=stZ x.s from rfl,bP (stC.put _ _ h.1),bP (intC.put _ _ h.2)];rfl
 ·replace h:=cK h;obtain⟨t,e,a,h⟩:=h;replace h:=cK h;obtain⟨n,f,b,h⟩:=h;cases h;obtain⟨rfl,c⟩:=stC.back _ _ _ a;obtain⟨rfl,d⟩:=intC.back _ _ _ b;exact⟨by simp[idZ,stZ],c,d⟩
theorem bytesC:Codec eZ gj okB:=by
 refine⟨λx r h=> ?_,λl x r h=> ?_⟩
 ·unfold eZ gj;have e:uvarint x.size=natZ x.size:=by rw[gH (by omega)];rfl
  have d:x.data.toList.length=x.size:=by simp
  unfold okB at h;rw[e,aM,bP (intC.put _ _ ⟨by omega,by omega⟩),bX,aE (by rw[al];omega),<-d,List.take_left,List.drop_left]
 ·replace h:=cK h;obtain⟨n,a,f,h⟩:=h;obtain⟨rfl,b⟩:=intC.back _ _ _ f;split at h
  ·cases h
  ·rename_i hn;simp only[Option.some.injEq,Prod.mk.injEq] at h;obtain⟨rfl,rfl⟩:=h;have c:(⟨(a.take n.toNat).toArray⟩:ByteArray).size=n.toNat:=by
    simp only[ByteArray.size,List.size_toArray,bf];omega
   refine⟨?_,by unfold okB;rw[c];have:=b.2;omega⟩;unfold gj;rw[c,gH b.1,aM];show _=_++(a.take n.toNat++_);rw[fe]
theorem timesC {α:Type} {p:Rd α} {z:α->List UInt8} {ok:α->Prop} (h:Codec p z ok):∀n,Codec (ez p n) (λl=>l.flatMap z) (λl=>l.length=n∧∀x∈l,ok x)
 | 0=>by
  refine⟨λx r hx=> ?_,λl x r hx=> ?_⟩
  ·obtain rfl:=cu hx.1;rfl
  ·unfold ez dD at hx
   cases hx
   exact⟨rfl,rfl,λ_ h=>by cases h⟩
 | n+1=>by
  have ih:=timesC h n
  refine⟨λx r hx=> ?_,λl x r hx=> ?_⟩
  ·cases x with
   |nil=>have:=hx.1;simp at this
   |cons y ys=>
    unfold ez
    rw[cG,aM,bP (h.put _ _ (hx.2 y (by simp))),bP (ih.put ys r ⟨by have:=hx.1;simpa using this,λx hx'=>hx.2 x (by simp[hx'])⟩)]
    rfl
  ·unfold ez at hx
   replace hx:=cK hx;obtain⟨y,q1,h1,hx⟩:=hx
   replace hx:=cK hx;obtain⟨ys,q2,h2,hx⟩:=hx
   cases hx
   obtain⟨rfl,o1⟩:=h.back _ _ _ h1
   obtain⟨rfl,o2,o3⟩:=ih.back _ _ _ h2
   refine⟨by simp,by simp[o2],λx hx=> ?_⟩
   rcases dh.1 hx with rfl|hx
   ·exact o1
   ·exact o3 x hx
theorem manyC {α:Type} {p:Rd α} {z:α->List UInt8} {b:α->Prop} (h:Codec p z b):Codec (eG p) (λl=>natZ l.length++l.flatMap z) (okL b):=by
 refine⟨λx r a=> ?_,λl x r a=> ?_⟩
 ·unfold eG;rw[aM,bP (intC.put _ _ ⟨by omega,by have:=a.1;omega⟩),bX];exact(timesC h _).put x r ⟨rfl,a.2⟩
 ·replace a:=cK a;obtain⟨n,g,d,a⟩:=a;obtain⟨rfl,c⟩:=intC.back _ _ _ d;obtain⟨rfl,i,f⟩:=(timesC h _).back _ _ _ a;have e:((x.length:Nat):Int)=n:=by have:=c.1;omega
  refine⟨by rw[e,aM],by have:=c.2;omega,f⟩
theorem dirC:Codec dirR (λd=>natZ (if d then 1 else 0)) (λ_=>True):=by
 refine⟨λx r _=> ?_,λl x r h=> ?_⟩
 ·unfold dirR;cases x
  ·rw[aE (by decide),bP (intC.put 0 _ ⟨by decide,by decide⟩)];rfl
  ·rw[aN rfl,bP (intC.put 1 _ ⟨by decide,by decide⟩)];rfl
 ·replace h:=cK h;obtain⟨d,e,a,h⟩:=h;obtain⟨rfl,b⟩:=intC.back _ _ _ a;split at h
  ·cases h
  ·cases h;refine⟨?_,trivial⟩;have f:=b.1;by_cases c:d=1
   ·subst c;rfl
   ·obtain rfl:d=0:=by omega
    rfl
def okO (o:Gop):Prop:=0<=o.kind∧o.kind<=4∧dZ o=true∧okD o.node∧okD o.parent∧okB o.name∧okL okS o.dots∧okD o.after∧okD o.elem∧okB o.text∧okL okD o.elems
theorem okZ:okD .zero:=⟨⟨⟨by decide,by decide⟩,⟨by decide,by decide⟩⟩,⟨by decide,by decide⟩⟩
theorem okN {α:Type} {ok:α->Prop}:okL ok []:=⟨by simp,λ_ h=>by cases h⟩
theorem okE:okB ⟨#[]⟩:=by unfold okB;decide
theorem Gid.none_iff {x:Gid}:x.none=true↔x= .zero:=Gid.eqb_iff
theorem eb {s:ByteArray}:s.data.toList=[]↔s=⟨#[]⟩:=⟨λh=>fH (eR.1 h),λh=>by rw[h]⟩
theorem zeroN:Gid.zero.none=true:=by decide
theorem opC:Codec opR opZ okO:=by
 refine⟨λo r h=> ?_,λl o r h=> ?_⟩
 ·obtain⟨k,z,H,R,v,f,Q,S,T,c⟩:=o;obtain⟨I,j,m,F,A,b,w,J,K,L,M⟩:=h;simp only at I j F A b w J K L M;unfold opR opZ;simp only[aM];rw[bP (intC.put k _ ⟨I,by omega⟩),bP (idC.put z _ F)];unfold dZ at m;simp only[ay,dk,au,il,Gid.none_iff,eb,cx] at m;by_cases i:k=0
  ·subst i;obtain⟨⟨⟨⟨-,-⟩,n⟩,q⟩,s⟩:=m;obtain rfl:f=[]:=n.resolve_left (by decide);obtain⟨⟨rfl,rfl⟩,rfl⟩:=q.resolve_left (by decide);obtain rfl:c=[]:=s.resolve_left (by decide);simp only[fl,aM];rw[bP (idC.put _ _ A),bP (bytesC.put _ _ b),bP (dirC.put _ _ trivial)];rfl
  by_cases t:k=1
  ·subst t;obtain⟨⟨⟨⟨-,u⟩,n⟩,q⟩,s⟩:=m;obtain rfl:v=false:=u.resolve_left (by decide);obtain rfl:f=[]:=n.resolve_left (by decide);obtain⟨⟨rfl,rfl⟩,rfl⟩:=q.resolve_left (by decide);obtain rfl:c=[]:=s.resolve_left (by decide);simp only[aE i,fl,aM];rw[bP (idC.put _ _ A),bP (bytesC.put _ _ b)];rfl
  by_cases y:k=2
  ·subst y;obtain⟨⟨⟨⟨B,u⟩,-⟩,q⟩,s⟩:=m;obtain⟨rfl,rfl⟩:=B.resolve_left (by decide);obtain rfl:v=false:=u.resolve_left (by decide);obtain⟨⟨rfl,rfl⟩,rfl⟩:=q.resolve_left (by decide);obtain rfl:c=[]:=s.resolve_left (by decide);simp only[aE i,aE t,fl];rw[bP ((manyC stC).put _ _ w)];rfl
  by_cases C:k=3
  ·subst C;obtain⟨⟨⟨⟨B,u⟩,n⟩,-⟩,s⟩:=m;obtain⟨rfl,rfl⟩:=B.resolve_left (by decide);obtain rfl:v=false:=u.resolve_left (by decide);obtain rfl:f=[]:=n.resolve_left (by decide);obtain rfl:c=[]:=s.resolve_left (by decide);simp only[aE i,aE t,aE y,fl,aM];rw[bP (idC.put _ _ J),bP (idC.put _ _ K),bP (bytesC.put _ _ L)];rfl
  ·obtain rfl:k=4:=by omega
   obtain⟨⟨⟨⟨B,u⟩,n⟩,q⟩,-⟩:=m;obtain⟨rfl,rfl⟩:=B.resolve_left (by decide);obtain rfl:v=false:=u.resolve_left (by decide);obtain rfl:f=[]:=n.resolve_left (by decide);obtain⟨⟨rfl,rfl⟩,rfl⟩:=q.resolve_left (by decide);simp only[aE i,aE t,aE y,aE C,fl];rw[bP ((manyC idC).put _ _ M)];rfl
 ·replace h:=cK h;obtain⟨k,W,F,h⟩:=h;replace h:=cK h;obtain⟨z,X,A,h⟩:=h;obtain⟨rfl,Y⟩:=intC.back _ _ _ F;obtain⟨rfl,D⟩:=idC.back _ _ _ A;by_cases i:k=0
  ·subst i;rw[aN rfl] at h;replace h:=cK h;obtain⟨p,G,b,h⟩:=h;replace h:=cK h;obtain⟨U,N,j,h⟩:=h;replace h:=cK h;obtain⟨d,V,w,h⟩:=h;cases h;obtain⟨rfl,g⟩:=idC.back _ _ _ b;obtain⟨rfl,E⟩:=bytesC.back _ _ _ j;obtain⟨rfl,O⟩:=dirC.back _ _ _ w;exact⟨by simp[opZ,opO],by simp[opO],by simp[opO],by simp[dZ,opO,zeroN],D,g,E,okN,okZ,okZ,okE,okN⟩
  rw[aE i] at h;by_cases t:k=1
  ·subst t;rw[aN rfl] at h;replace h:=cK h;obtain⟨p,G,b,h⟩:=h;replace h:=cK h;obtain⟨U,N,j,h⟩:=h;cases h;obtain⟨rfl,g⟩:=idC.back _ _ _ b;obtain⟨rfl,E⟩:=bytesC.back _ _ _ j;exact⟨by simp[opZ,opO],by simp[opO],by simp[opO],by simp[dZ,opO,zeroN],D,g,E,okN,okZ,okZ,okE,okN⟩
  rw[aE t] at h;by_cases y:k=2
  ·subst y;rw[aN rfl] at h;replace h:=cK h;obtain⟨x,G,b,h⟩:=h;cases h;obtain⟨rfl,g⟩:=(manyC stC).back _ _ _ b;exact⟨by simp[opZ,opO],by simp[opO],by simp[opO],by simp[dZ,opO,zeroN],D,okZ,okE,g,okZ,okZ,okE,okN⟩
  rw[aE y] at h;by_cases C:k=3
  ·subst C;rw[aN rfl] at h;replace h:=cK h;obtain⟨a,G,b,h⟩:=h;replace h:=cK h;obtain⟨e,N,j,h⟩:=h;replace h:=cK h;obtain⟨x,V,w,h⟩:=h;cases h;obtain⟨rfl,g⟩:=idC.back _ _ _ b;obtain⟨rfl,E⟩:=idC.back _ _ _ j;obtain⟨rfl,O⟩:=bytesC.back _ _ _ w;exact⟨by simp[opZ,opO],by simp[opO],by simp[opO],by simp[dZ,opO,zeroN],D,okZ,okE,okN,g,E,O,okN⟩
  rw[aE C] at h;by_cases P:k=4
  ·subst P;rw[aN rfl] at h;replace h:=cK h;obtain⟨x,G,b,h⟩:=h;cases h;obtain⟨rfl,g⟩:=(manyC idC).back _ _ _ b;exact⟨by simp[opZ,opO],by simp[opO],by simp[opO],by simp[dZ,opO,zeroN],D,okZ,okE,okN,okZ,okZ,okE,g⟩
  rw[aE P] at h;cases h
def okG (g:Grp):Prop:=okS g.s∧okI g.n∧okL okI g.deps∧okS g.u∧okL okO g.ops
theorem grpC:Codec grpR grpZ okG:=by
 refine⟨λg r h=> ?_,λl g r h=> ?_⟩
 ·obtain⟨a,b,c,d,f⟩:=h;have e:grpZ g++r=stZ g.s++(natZ g.n++((natZ g.deps.length++g.deps.flatMap natZ)++(stZ g.u++((natZ g.ops.length++g.ops.flatMap opZ)++r)))):=by
   unfold grpZ stZ kj;simp only[aM]
  unfold grpR;rw[e,bP (stC.put _ _ a),bP (intC.put _ _ b),bP ((manyC intC).put _ _ c),bP (stC.put _ _ d),bP ((manyC opC).put _ _ f)];rfl
 ·replace h:=cK h;obtain⟨s,p,a,h⟩:=h;replace h:=cK h;obtain⟨n,q,b,h⟩:=h;replace h:=cK h;obtain⟨v,t,c,h⟩:=h;replace h:=cK h;obtain⟨u,w,d,h⟩:=h;replace h:=cK h;obtain⟨x,y,f,h⟩:=h;cases h;obtain⟨rfl,i⟩:=stC.back _ _ _ a;obtain⟨rfl,j⟩:=intC.back _ _ _ b;obtain⟨rfl,k⟩:=(manyC intC).back _ _ _ c;obtain⟨rfl,m⟩:=stC.back _ _ _ d;obtain⟨rfl,o⟩:=(manyC opC).back _ _ _ f;exact⟨by simp[grpZ,stZ,kj],i,j,k,m,o⟩
theorem right_ok {s:Gst} (h:s.right=true):okS s:=by
 simp only[Gst.right,ay,au] at h;exact⟨⟨by omega,by omega⟩,⟨by omega,by omega⟩⟩
theorem rightid_ok {x:Gid} (h:x.right=true):okD x:=by
 simp only[Gid.right,ay,au] at h;exact⟨right_ok h.1.1,⟨by omega,by omega⟩⟩
theorem kB {g:Gst} {x:Gid} {k:Nat} (h:de g x k=true):okD x:=by
 simp only[de,ay] at h;exact rightid_ok h.1
theorem parent_ok {g:Gst} {x:Gid} {k:Nat} (h:dK g x k=true):okD x:=by
 simp only[dK,dk] at h;rcases h with h|h
 ·rw[Gid.none_iff] at h;subst h;exact okZ
 ·exact kB h
def fitO (o:Gop):Prop:=okB o.name∧okB o.text∧o.dots.length<9223372036854775808∧o.elems.length<9223372036854775808
theorem jS {α:Type} {l:List α} {x z:α} (h:x∈l):∃i,i<l.length∧l.getD i z=x:=by
 obtain⟨i,a,e⟩:=dX.1 h;exact⟨i,a,by rw[ae,aw a];exact e⟩
theorem dots_ok {g:Gst} {l:List Gst} (h:iq g l=true):∀x∈l,okS x:=λx hx=>by
 simp only[iq,ay] at h
 obtain⟨i,hi,e⟩:=jS (z:=Gst.zero) hx
 have:=jF h.1 i hi
 simp only[dotB,ay,e] at this
 exact right_ok this.1.1
theorem elems_ok {g:Gst} {l:List Gid} {k:Nat} (h:fT g l k=true):∀x∈l,okD x:=λx hx=>by
 simp only[fT,ay] at h
 obtain⟨i,hi,e⟩:=jS (z:=Gid.zero) hx
 have:=jF h.1.1 i hi
 simp only[ie,ay,e] at this
 exact kB this.1
theorem op_ok {g:Gst} {o:Gop} {k:Nat} (z:okS g) (K:k<9223372036854775808) (A:fitO o) (h:opB g o k=true):okO o:=by
 obtain⟨b,B,r,C,J,c,y,D,E,a⟩:=o;obtain⟨s,F,G,H⟩:=A;simp only[opB,ay] at h;obtain⟨e,h⟩:=h;have f:=e;unfold dZ at e;simp only[ay,dk,au,il,Gid.none_iff,eb,cx] at e;unfold dL at h;simp only at h;have p:okD ⟨g,k⟩:=⟨z,by simp only;omega,by simp only;omega⟩;by_cases t:b=0
 ·subst t;simp only[fl,ay,Gid.eqb_iff] at h;obtain⟨⟨rfl,d⟩,I⟩:=h;obtain⟨⟨⟨⟨-,-⟩,i⟩,j⟩,l⟩:=e;obtain rfl:c=[]:=i.resolve_left (by decide);obtain⟨⟨rfl,rfl⟩,rfl⟩:=j.resolve_left (by decide);obtain rfl:a=[]:=l.resolve_left (by decide);exact⟨by simp,by simp,f,p,parent_ok d,s,okN,okZ,okZ,okE,okN⟩
 rw[aE t] at h;by_cases u:b=1
 ·subst u;simp only[fl,ay] at h;obtain⟨⟨m,d⟩,I⟩:=h;obtain⟨⟨⟨⟨-,q⟩,i⟩,j⟩,l⟩:=e;obtain rfl:c=[]:=i.resolve_left (by decide);obtain⟨⟨rfl,rfl⟩,rfl⟩:=j.resolve_left (by decide);obtain rfl:a=[]:=l.resolve_left (by decide);exact⟨by simp,by simp,f,kB m,parent_ok d,s,okN,okZ,okZ,okE,okN⟩
 rw[aE u] at h;by_cases v:b=2
 ·subst v;simp only[fl,ay] at h;obtain⟨m,d⟩:=h;obtain⟨⟨⟨⟨n,q⟩,-⟩,j⟩,l⟩:=e;obtain⟨rfl,rfl⟩:=n.resolve_left (by decide);obtain⟨⟨rfl,rfl⟩,rfl⟩:=j.resolve_left (by decide);obtain rfl:a=[]:=l.resolve_left (by decide);exact⟨by simp,by simp,f,kB m,okZ,okE,⟨G,dots_ok d⟩,okZ,okZ,okE,okN⟩
 rw[aE v] at h;by_cases w:b=3
 ·subst w;simp only[fl,ay,Gid.eqb_iff] at h;obtain⟨⟨⟨m,d⟩,rfl⟩,L⟩:=h;obtain⟨⟨⟨⟨n,q⟩,i⟩,-⟩,l⟩:=e;obtain⟨rfl,rfl⟩:=n.resolve_left (by decide);obtain rfl:c=[]:=i.resolve_left (by decide);obtain rfl:a=[]:=l.resolve_left (by decide);exact⟨by simp,by simp,f,kB m,okZ,okE,okN,parent_ok d,p,F,okN⟩
 rw[aE w] at h;by_cases x:b=4
 ·subst x;simp only[fl,ay] at h;obtain⟨m,d⟩:=h;obtain⟨⟨⟨⟨n,q⟩,i⟩,j⟩,-⟩:=e;obtain⟨rfl,rfl⟩:=n.resolve_left (by decide);obtain rfl:c=[]:=i.resolve_left (by decide);obtain⟨⟨rfl,rfl⟩,rfl⟩:=j.resolve_left (by decide);exact⟨by simp,by simp,f,kB m,okZ,okE,okN,okZ,okZ,okE,⟨H,elems_ok d⟩⟩
 rw[aE x] at h;cases h
def fitG (g:Grp):Prop:=g.deps.length<9223372036854775808∧(∀x∈g.deps,x<9223372036854775808)∧∀o∈g.ops,fitO o
theorem more_le {g:Gst} {o:Gop} {k:Nat} (h:opB g o k=true):eY o<=2000:=by
 simp only[opB,ay] at h;have h:=h.2;unfold dL at h;unfold eY;by_cases b:o.kind=0
 ·rw[aN b];omega
 rw[aE b] at h ⊢;by_cases a:o.kind=3
 ·rw[aE (by omega),aE (by omega),aN a] at h;rw[aN a];simp only[textB,ay,au] at h;exact h.2.2
 ·rw[aE a];omega
theorem ops_ok {g:Gst} (hg:okS g):∀(l:List Gop) (k:Nat),k+2000*l.length<9223372036854775808->(∀o∈l,fitO o)->opsB g l k=true->∀o∈l,okO o
 | [],_,_,_,_=>λ_ h=>by cases h
 |o::l,k,hk,hf,h=>by
  simp only[opsB,ay] at h
  simp only[bQ] at hk
  have h1:=op_ok hg (by omega) (hf o (by simp)) h.1
  have hm:=more_le h.1
  have h2:=ops_ok hg l (k+eY o) (by omega) (λx hx=>hf x (by simp[hx])) h.2
  intro x hx
  rcases dh.1 hx with rfl|hx
  ·exact h1
  ·exact h2 x hx
theorem chk_ok {g:Grp} (e:fitG g) (h:chkB g=true):okG g:=by
 obtain⟨f,i,j⟩:=e;simp only[chkB,fJ,vecB,ay,au,dT] at h;obtain⟨⟨⟨⟨⟨k,n⟩,o⟩,⟨⟨l,p⟩,q⟩⟩,r⟩,h⟩:=h;have b:=right_ok k;refine⟨b,⟨by omega,by omega⟩,⟨f,λx c=>⟨l x c,i x c⟩⟩,?_⟩;split at h
 ·rename_i hu;rw[Gst.eqb_iff] at hu;simp only[ay,au] at h;obtain⟨⟨d,m⟩,a⟩:=h;exact⟨by rw[hu];exact okZ.1,by omega,ops_ok b _ 0 (by omega) j a⟩
 ·simp only[ay,au,cx] at h;obtain⟨⟨d,m⟩,a⟩:=h;exact⟨right_ok d,by rw[a];exact okN⟩
theorem dec_enc {g:Grp} (a:fitG g) (h:chkB g=true):decZ (grpZ g)=some g:=by
 have:=grpC.put g [] (chk_ok a h);rw[g8] at this;unfold decZ;rw[this];simp only[h,fl]
theorem enc_dec {l:List UInt8} {g:Grp} (h:decZ l=some g):l=grpZ g∧chkB g=true∧okG g:=by
 unfold decZ at h;split at h
 ·rename_i g' hg;split at h
  ·rename_i hc;cases h;obtain⟨a,b⟩:=grpC.back _ _ _ hg;exact⟨by rw[a,g8],hc,b⟩
  ·cases h
 ·cases h
end
section
open Go.Lib
set_option linter.unusedSectionVars false
structure Later (a b:Gst):Prop where
 ra:a.right=true
 rb:b.right=true
 lt:a.t<b.t
end
section
open Go.Lib
theorem dz {n:Int} (h:n<9223372036854775808):(natZ n).length<=10:=by
 unfold natZ;split
 ·simp
 ·exact uvarint_length64 (by omega)
theorem stZ_le {s:Gst} (h:okS s):(stZ s).length<=20:=by
 unfold stZ;have a:=dz h.1.2;have b:=dz h.2.2;rw[al];omega
theorem ep {x:Gid} (h:okD x):(idZ x).length<=30:=by
 unfold idZ;have a:=dz h.1.1.2;have b:=dz h.1.2.2;have c:=dz h.2.2;rw[al,al];omega
theorem eM {s:ByteArray} (h:s.size<9223372036854775808):(gj s).length<=10+s.size:=by
 unfold gj;have a:(uvarint s.size).length<=10:=uvarint_length64 (by omega);have b:s.data.toList.length=s.size:=by simp
 rw[al];omega
theorem gJ {α:Type} {z:α->List UInt8} {c:Nat}:∀{l:List α},(∀x∈l,(z x).length<=c)->(l.flatMap z).length<=c*l.length
 | [],_=>by simp
 |x::l,h=>by
  have h1:=h x (by simp)
  have h2:=gJ (l:=l) λy hy=>h y (by simp[hy])
  rw[cG,al,bQ,Nat.mul_add,jJ];omega
structure Sho (o:Gop):Prop where
 name:o.name.size<=32
 dots:o.dots.length<=200
 elems:o.elems.length<=2000
theorem op_sho {g:Gst} {o:Gop} {k:Nat} (h:opB g o k=true):Sho o:=by
 obtain⟨b,s,n,t,x,c,r,u,v,a⟩:=o;simp only[opB,ay] at h;obtain⟨e,h⟩:=h;unfold dZ at e;simp only[ay,dk,au,il,Gid.none_iff,eb,cx] at e;obtain⟨⟨⟨⟨w,y⟩,f⟩,z⟩,d⟩:=e;unfold dL at h;simp only at h;have i:(⟨#[]⟩:ByteArray).size<=32:=by decide
 by_cases j:b=0
 ·subst j;simp only[fl,ay,eC,au] at h;obtain rfl:c=[]:=f.resolve_left (by decide);obtain rfl:a=[]:=d.resolve_left (by decide);exact⟨h.2.1.1.1.2,by simp,by simp⟩
 rw[aE j] at h;by_cases l:b=1
 ·subst l;simp only[fl,ay,eC,au] at h;obtain rfl:c=[]:=f.resolve_left (by decide);obtain rfl:a=[]:=d.resolve_left (by decide);exact⟨h.2.1.1.1.2,by simp,by simp⟩
 rw[aE l] at h;obtain⟨-,rfl⟩:=w.resolve_left (by rintro(h|h);exact j h;exact l h);by_cases m:b=2
 ·subst m;simp only[fl,ay,iq,au] at h;obtain rfl:a=[]:=d.resolve_left (by decide);exact⟨i,h.2.2,by simp⟩
 rw[aE m] at h;obtain rfl:c=[]:=f.resolve_left m;by_cases p:b=3
 ·subst p;obtain rfl:a=[]:=d.resolve_left (by decide);exact⟨i,by simp,by simp⟩
 rw[aE p] at h;by_cases q:b=4
 ·subst q;simp only[fl,ay,fT,au] at h;exact⟨i,by simp,h.2.2⟩
 rw[aE q] at h;cases h
theorem opZ_le {o:Gop} {M:Nat} (h:okO o) (s:Sho o) (t:o.text.size<=M):(opZ o).length<=61000+M:=by
 obtain⟨c,u,e,v,f,b,r,w,text,a⟩:=o;obtain⟨y,A,H,g,i,j,k,m,n,p,q⟩:=h;obtain⟨B,C,D⟩:=s;simp only at y A g i j k m n p q B C D t;have I:(natZ c).length<=10:=dz (by omega);have J:=ep g;have K:=ep i;have L:=eM j;have N:=ep m;have O:=ep n;have P:=eM p;have Q:=gJ (z:=stZ) (l:=b) λx d=>stZ_le (k.2 x d);have R:=gJ (z:=idZ) (l:=a) λx d=>ep (q.2 x d);have E:(natZ b.length).length<=10:=dz (by omega);have F:(natZ a.length).length<=10:=dz (by omega);have G:(natZ (if f then 1 else 0)).length<=10:=dz (by split<;>omega);unfold opZ;simp only;split
 ·simp only[al];omega
 ·split
  ·simp only[al];omega
  ·split
   ·simp only[al];omega
   ·split
    ·simp only[al];omega
    ·simp only[al];omega
theorem opsB_mem {g:Gst}:∀{l:List Gop} {k:Nat},opsB g l k=true->∀o∈l,∃j,opB g o j=true
 | [],_,_=>λ_ h=>by cases h
 |o::l,k,h=>by
  simp only[opsB,ay] at h
  intro x hx
  rcases dh.1 hx with rfl|hx
  ·exact⟨_,h.1⟩
  ·exact opsB_mem h.2 x hx
theorem chk_sho {g:Grp} (h:chkB g=true):g.ops.length<=200∧g.deps.length<=16∧∀o∈g.ops,Sho o:=by
 simp only[chkB,fJ,vecB,ay,au,dT] at h;obtain⟨⟨⟨⟨⟨d,e⟩,f⟩,⟨⟨i,b⟩,k⟩⟩,l⟩,h⟩:=h;refine⟨?_,b,?_⟩
 ·split at h
  ·simp only[ay,au] at h;exact h.1.2
  ·simp only[ay,au] at h;have:=h.2;omega
 ·split at h
  ·simp only[ay,au] at h;intro o a;obtain⟨j,c⟩:=opsB_mem h.2 o a;exact op_sho c
  ·simp only[ay,au,cx] at h;rw[h.2];intro o a;cases a
end
section
open Go.Lib
structure RdIs {α:Type} (p:Rd α) (l:List UInt8) (b:Bool) (x:α) (l':List UInt8) (b':Bool):Prop where
 stay:b=true->b'=true
 step:b=false->(b'=false∧p l=some (x,l'))∨(b'=true∧p l=none)
 le:l'.length<=l.length
theorem RdIs.pure {α:Type} {l:List UInt8} {b:Bool} {x:α}:RdIs (dD x) l b x l b:=⟨id,λh=> .inl ⟨h,rfl⟩,aa _⟩
theorem RdIs.fail {α:Type} {l:List UInt8} {b:Bool} {x:α}:RdIs (rfail (α:=α)) l b x l true:=⟨λ_=>rfl,λ_=> .inr ⟨rfl,rfl⟩,aa _⟩
theorem RdIs.bind {α β:Type} {p:Rd α} {f:α->Rd β} {l a c:List UInt8} {b d g:Bool} {x:α} {y:β} (h:RdIs p l b x a d) (k:RdIs (f x) a d y c g):RdIs (ca p f) l b y c g:=by
 refine⟨λe=>k.stay (h.stay e),λe=> ?_,aP k.le h.le⟩;rcases h.step e with⟨h1,h2⟩|⟨h1,h2⟩
 ·rw[bP h2];exact k.step h1
 ·exact .inr ⟨k.stay h1,ff h2⟩
theorem RdIs.dir {l e:List UInt8} {b a:Bool} {d:Int} (h:RdIs intR l b d e a):RdIs dirR l b (decide (d=1)) e (a || decide (1<d)):=by
 refine RdIs.bind h (f:=λd=>if 1<d then rfail else dD (decide (d=1))) ?_;by_cases c:1<d
 ·rw[aN c];have:(a || decide (1<d))=true:=by simp[c]
  rw[this];exact RdIs.fail
 ·rw[aE c];have:(a || decide (1<d))=a:=by simp[c]
  rw[this];exact RdIs.pure
theorem RdIs.st {l l1 l2:List UInt8} {b b1 b2:Bool} {t r:Int} (h:RdIs intR l b t l1 b1) (k:RdIs intR l1 b1 r l2 b2):RdIs stR l b (⟨t,r⟩:Gst) l2 b2:=
 RdIs.bind (f:=λt=>ca intR λr=>dD (⟨t,r⟩:Gst)) h (RdIs.bind (f:=λr=>dD (⟨t,r⟩:Gst)) k RdIs.pure)
theorem RdIs.id {l l1 l2:List UInt8} {b b1 b2:Bool} {s:Gst} {i:Int} (h:RdIs stR l b s l1 b1) (k:RdIs intR l1 b1 i l2 b2):RdIs idR l b (⟨s,i⟩:Gid) l2 b2:=
 RdIs.bind (f:=λs=>ca intR λi=>dD (⟨s,i⟩:Gid)) h (RdIs.bind (f:=λi=>dD (⟨s,i⟩:Gid)) k RdIs.pure)
section
variable {l l1 l2 l3 l4 l5 : List UInt8} {b b1 b2 b3 b4 b5 : Bool} {node : Gid}
theorem RdIs.op {k:Int} {o:Gop} {f:Int->Gid->Rd Gop} (h:RdIs intR l b k l1 b1) (hn:RdIs idR l1 b1 node l2 b2) (hf:RdIs (f k node) l2 b2 o l3 b3):RdIs (ca intR λk=>ca idR λnode=>f k node) l b o l3 b3:=
 RdIs.bind (f:=λk=>ca idR λnode=>f k node) h (RdIs.bind (f:=λnode=>f k node) hn hf)
def opF (k:Int) (node:Gid):Rd Gop:=
 if k=0 then ca idR λp=>ca eZ λnm=>ca dirR λd=>dD { opO k node with parent:=p,name:=nm,dir:=d }
 else if k=1 then ca idR λp=>ca eZ λnm=>dD { opO k node with parent:=p,name:=nm }
 else if k=2 then ca (eG stR) λl=>dD { opO k node with dots:=l }
 else if k=3 then ca idR λa=>ca idR λe=>ca eZ λx=>dD { opO k node with after:=a,elem:=e,text:=x }
 else if k=4 then ca (eG idR) λl=>dD { opO k node with elems:=l }
 else rfail
theorem opR_F:opR=ca intR λk=>ca idR λnode=>opF k node:=rfl
theorem RdIs.op0 {p:Gid} {a:ByteArray} {d:Bool} (h:RdIs intR l b 0 l1 b1) (c:RdIs idR l1 b1 node l2 b2) (e:RdIs idR l2 b2 p l3 b3) (g:RdIs eZ l3 b3 a l4 b4) (i:RdIs dirR l4 b4 d l5 b5):
  RdIs opR l b { opO 0 node with parent:=p,name:=a,dir:=d } l5 b5:=by
 rw[opR_F];refine RdIs.op h c ?_;unfold opF;rw[aN rfl]
 exact RdIs.bind (f:=λp=>ca eZ λa=>ca dirR λd=>dD { opO 0 node with parent:=p,name:=a,dir:=d }) e
  (RdIs.bind (f:=λa=>ca dirR λd=>dD { opO 0 node with parent:=p,name:=a,dir:=d }) g (RdIs.bind (f:=λd=>dD { opO 0 node with parent:=p,name:=a,dir:=d }) i RdIs.pure))
theorem RdIs.op1 {p:Gid} {a:ByteArray} (h:RdIs intR l b 1 l1 b1) (c:RdIs idR l1 b1 node l2 b2) (d:RdIs idR l2 b2 p l3 b3) (e:RdIs eZ l3 b3 a l4 b4):
  RdIs opR l b { opO 1 node with parent:=p,name:=a } l4 b4:=by
 rw[opR_F];refine RdIs.op h c ?_;unfold opF;rw[aE (by decide),aN rfl];exact RdIs.bind (f:=λp=>ca eZ λa=>dD { opO 1 node with parent:=p,name:=a }) d (RdIs.bind (f:=λa=>dD { opO 1 node with parent:=p,name:=a }) e RdIs.pure)
theorem RdIs.op2 {x:List Gst} (h:RdIs intR l b 2 l1 b1) (a:RdIs idR l1 b1 node l2 b2) (c:RdIs (eG stR) l2 b2 x l3 b3):
  RdIs opR l b { opO 2 node with dots:=x } l3 b3:=by
 rw[opR_F];refine RdIs.op h a ?_;unfold opF;rw[aE (by decide),aE (by decide),aN rfl];exact RdIs.bind (f:=λx=>dD { opO 2 node with dots:=x }) c RdIs.pure
theorem RdIs.op3 {a e:Gid} {x:ByteArray} (h:RdIs intR l b 3 l1 b1) (c:RdIs idR l1 b1 node l2 b2) (d:RdIs idR l2 b2 a l3 b3) (g:RdIs idR l3 b3 e l4 b4) (i:RdIs eZ l4 b4 x l5 b5):
  RdIs opR l b { opO 3 node with after:=a,elem:=e,text:=x } l5 b5:=by
 rw[opR_F];refine RdIs.op h c ?_;unfold opF;rw[aE (by decide),aE (by decide),aE (by decide),aN rfl]
 exact RdIs.bind (f:=λa=>ca idR λe=>ca eZ λx=>dD { opO 3 node with after:=a,elem:=e,text:=x }) d
  (RdIs.bind (f:=λe=>ca eZ λx=>dD { opO 3 node with after:=a,elem:=e,text:=x }) g (RdIs.bind (f:=λx=>dD { opO 3 node with after:=a,elem:=e,text:=x }) i RdIs.pure))
theorem RdIs.op4 {x:List Gid} (h:RdIs intR l b 4 l1 b1) (a:RdIs idR l1 b1 node l2 b2) (c:RdIs (eG idR) l2 b2 x l3 b3):
  RdIs opR l b { opO 4 node with elems:=x } l3 b3:=by
 rw[opR_F];refine RdIs.op h a ?_;unfold opF;rw[aE (by decide),aE (by decide),aE (by decide),aE (by decide),aN rfl];exact RdIs.bind (f:=λx=>dD { opO 4 node with elems:=x }) c RdIs.pure
theorem RdIs.opx {k:Int} {o:Gop} (a:¬k=0) (c:¬k=1) (d:¬k=2) (e:¬k=3) (f:¬k=4) (h:RdIs intR l b k l1 b1) (g:RdIs idR l1 b1 node l2 b2):RdIs opR l b o l2 true:=by
 rw[opR_F];refine RdIs.op h g ?_;unfold opF;rw[aE a,aE c,aE d,aE e,aE f];exact RdIs.fail
end
theorem rbind_pure {α:Type} (p:Rd α) (l:List UInt8):ca p dD l=p l:=by
 unfold ca dD;cases p l with
 |none=>rfl
 |some a=>rfl
def Takes {α:Type} (p:Rd α):Prop:=∀l x r,p l=some (x,r)->r.length<l.length
theorem intT:Takes intR:=λl x r h=>by
 obtain⟨rfl,h1⟩:=intC.back _ _ _ h
 have:=uvarint_pos x.toNat
 rw[gH h1.1,al];omega
theorem stT:Takes stR:=λl x r h=>by
 obtain⟨rfl,h1⟩:=stC.back _ _ _ h
 have:=uvarint_pos x.t.toNat
 unfold stZ
 rw[gH h1.1.1,al,al];omega
theorem idT:Takes idR:=λl x r h=>by
 obtain⟨rfl,h1⟩:=idC.back _ _ _ h
 have:=uvarint_pos x.s.t.toNat
 unfold idZ
 rw[gH h1.1.1.1,al,al,al];omega
theorem opT:Takes opR:=λl x r h=>by
 obtain⟨rfl,h1⟩:=opC.back _ _ _ h
 have:=uvarint_pos x.kind.toNat
 unfold opZ
 rw[gH h1.1,al,al,al];omega
structure ManyAt {α:Type} (p:Rd α) (n0:Nat) (l0:List UInt8) (b0:Bool) (n:Nat) (xs:List α) (l:List UInt8) (b:Bool):Prop where
 stay:b0=true->b=true
 step:b0=false->(b=false∧ez p n0 l0=ca (ez p n) (λys=>dD (xs++ys)) l)∨(b=true∧ez p n0 l0=none)
 le:l.length<=l0.length
 few:xs.length+l.length<=l0.length+(if b=true then 1 else 0)
theorem ManyAt.start {α:Type} {p:Rd α} {n0:Nat} {l0:List UInt8} {b0:Bool}:ManyAt p n0 l0 b0 n0 [] l0 b0:=
 ⟨id,λh=> .inl ⟨h,(rbind_pure (ez p n0) l0).symm⟩,aa _,by simp⟩
theorem ManyAt.next {α:Type} {p:Rd α} (s:Takes p) {i:Nat} {j:List UInt8} {m:Bool} {n:Nat} {a:List α} {l c:List UInt8} {o:Bool} {x:α} (h:ManyAt p i j m (n+1) a l false) (k:RdIs p l false x c o):ManyAt p i j m n (a++[x]) c o:=by
 refine⟨λe=>(by have:=h.stay e;cases this),λe=> ?_,aP k.le h.le,?_⟩
 ·rcases h.step e with⟨_,h2⟩|⟨g,_⟩
  ·rw[h2];rcases k.step rfl with⟨k1,k2⟩|⟨k1,k2⟩
   ·refine .inl ⟨k1,?_⟩;have b:ez p (n+1) l=ca (ez p n) (λq=>dD (x::q)) c:=bP (f:=λx=>ca (ez p n) λa=>dD (x::a)) k2;cases d:ez p n c with
    |none=>
     rw[ff d] at b;rw[ff b,ff d]
    |some y=>
     obtain⟨q,r⟩:=y;rw[bP d] at b;rw[bP b,bP d];simp[dD]
   ·refine .inr ⟨k1,?_⟩;have b:ez p (n+1) l=none:=ff (f:=λx=>ca (ez p n) λa=>dD (x::a)) k2;rw[ff b]
  ·cases g
 ·have g:=h.few;simp only[jI,if_false] at g;rw[al,dC];rcases k.step rfl with⟨k1,k2⟩|⟨k1,k2⟩
  ·have:=s _ _ _ k2;subst k1;simp only[jI,if_false];omega
  ·have:=k.le;subst k1;simp only[fl];omega
theorem ManyAt.done {α:Type} {p:Rd α} {d:Nat} {f:List UInt8} {g:Bool} {n:Nat} {i:List α} {l:List UInt8} {b:Bool} (h:ManyAt p d f g n i l b) (c:b=true∨n=0):RdIs (ez p d) f g i l b:=by
 refine⟨h.stay,λe=> ?_,h.le⟩;rcases h.step e with⟨h1,h2⟩|h3
 ·rcases c with c|rfl
  ·rw[h1] at c;cases c
  ·refine .inl ⟨h1,?_⟩;rw[h2];exact bP (p:=ez p 0) (a:=[]) (r:=l) rfl |>.trans (by simp[dD])
 ·exact .inr h3
theorem RdIs.many {α:Type} {p:Rd α} {l l1 l2:List UInt8} {b b1 b2:Bool} {n:Int} {xs:List α} (h:RdIs intR l b n l1 b1) (k:RdIs (ez p n.toNat) l1 b1 xs l2 b2):RdIs (eG p) l b xs l2 b2:=RdIs.bind h k
theorem RdIs.grp {l l1 l2 l3 l4 l5:List UInt8} {b b1 b2 b3 b4 b5:Bool} {st u:Gst} {n:Int} {v:List Int} {o:List Gop} (h1:RdIs stR l b st l1 b1) (h2:RdIs intR l1 b1 n l2 b2) (h3:RdIs (eG intR) l2 b2 v l3 b3) (h4:RdIs stR l3 b3 u l4 b4) (h5:RdIs (eG opR) l4 b4 o l5 b5):
  RdIs grpR l b (⟨st,n,v,u,o⟩:Grp) l5 b5:=
 RdIs.bind (f:=λs=>ca intR λn=>ca (eG intR) λv=>ca stR λu=>ca (eG opR) λl=>dD (⟨s,n,v,u,l⟩:Grp)) h1
  (RdIs.bind (f:=λn=>ca (eG intR) λv=>ca stR λu=>ca (eG opR) λl=>dD (⟨st,n,v,u,l⟩:Grp)) h2
   (RdIs.bind (f:=λv=>ca stR λu=>ca (eG opR) λl=>dD (⟨st,n,v,u,l⟩:Grp)) h3
    (RdIs.bind (f:=λu=>ca (eG opR) λl=>dD (⟨st,n,v,u,l⟩:Grp)) h4 (RdIs.bind (f:=λl=>dD (⟨st,n,v,u,l⟩:Grp)) h5 RdIs.pure))))
theorem decZ_of {l l':List UInt8} {b:Bool} {g:Grp} (h:RdIs grpR l false g l' b):decZ l=if b=false∧l'=[]∧chkB g=true then some g else none:=by
 unfold decZ;rcases h.step rfl with⟨h1,h2⟩|⟨h1,h2⟩
 ·rw[h2,h1];cases l' with
  |nil=>simp
  |cons a t=>simp
 ·rw[h2,h1];simp
end
section
open Go.Lib
def gz:Grp:=⟨.zero,0,[],.zero,[]⟩
def covB (v w:List Int):Bool:=jd (max v.length w.length) λr=>decide (w.getD r 0<=v.getD r 0)
def setV (v:List Int) (r n:Int):List Int:=(List.range (max v.length r.toNat)).map λ(k:Nat)=>if (k:Int)+1=r then n else v.getD k 0
def eS (v:List Int) (r n:Int):List Int:=ck (setV v r n)
theorem pv_snoc0 (v:List Int):ck (v++[0])=ck v:=by unfold ck;simp
theorem pv_snoc (v:List Int) (x:Int) (h:x≠0):ck (v++[x])=v++[x]:=by unfold ck;simp[h]
theorem getD_snoc (v:List Int) (x:Int) (k:Nat):(v++[x]).getD k 0=if k=v.length then x else v.getD k 0:=by
 simp only[ae,List.getElem?_append,List.getElem?_singleton];by_cases a:k<v.length
 ·rw[aN a,aE (by omega)]
 ·rw[aE a];by_cases b:k=v.length
  ·rw[aN b,aN (by omega)];rfl
  ·rw[aE b,aE (by omega),cz (by omega)]
theorem snoc_ind {P:List Int->Prop} (b:P []) (c:∀v x,P v->P (v++[x])) (v:List Int):P v:=by
 have:∀u:List Int,P u.reverse:=λu=>by
  induction u with
  |nil=>exact b
  |cons a u ih=>rw[List.reverse_cons];exact c _ _ ih
 have h:=this v.reverse;rwa[List.reverse_reverse] at h
theorem pv_getD (v:List Int) (k:Nat):(ck v).getD k 0=v.getD k 0:=by
 refine snoc_ind (P:=λv=>(ck v).getD k 0=v.getD k 0) rfl (λv x ih=> ?_) v;by_cases a:x=0
 ·subst a;rw[pv_snoc0,ih,getD_snoc];split
  ·rename_i h;subst h;simp
  ·rfl
 ·rw[pv_snoc _ _ a]
theorem pv_len (v:List Int):(ck v).length<=v.length:=by
 refine snoc_ind (P:=λv=>(ck v).length<=v.length) (aa _) (λv x ih=> ?_) v;by_cases a:x=0
 ·subst a;rw[pv_snoc0,al];omega
 ·rw[pv_snoc _ _ a];exact aa _
theorem pv_pv (v:List Int):ck (ck v)=ck v:=by
 refine snoc_ind (P:=λv=>ck (ck v)=ck v) rfl (λv x ih=> ?_) v;by_cases a:x=0
 ·subst a;rw[pv_snoc0];exact ih
 ·rw[pv_snoc _ _ a,pv_snoc _ _ a]
theorem atV_nat {v:List Int} {r:Int} (h:1<=r):atV v r=v.getD (r-1).toNat 0:=by unfold atV;rw[aE (by omega)]
theorem setV_getD (v:List Int) (r n:Int) (k:Nat) (a:1<=r):(setV v r n).getD k 0=if (k:Int)+1=r then n else v.getD k 0:=by
 unfold setV;rw[ae,dW];by_cases h:k<max v.length r.toNat
 ·rw[List.getElem?_range h];rfl
 ·rw[cz (by simpa using h),Option.map_none,Option.getD_none,aE (by omega)];simp[cz (show v.length<=k by omega)]
theorem withV_getD (v:List Int) (r n:Int) (k:Nat) (a:1<=r):(eS v r n).getD k 0=if (k:Int)+1=r then n else v.getD k 0:=by
 unfold eS;rw[pv_getD,setV_getD v r n k a]
theorem gE (v:List Int) (r n q:Int) (b:1<=r):atV (eS v r n) q=if q=r then n else atV v q:=by
 unfold atV;by_cases a:q<1
 ·rw[aN a,aE (by omega),aN a]
 ·rw[aE a,aE a,withV_getD _ _ _ _ b];by_cases h:q=r
  ·rw[aN h,aN (by omega)]
  ·rw[aE h,aE (by omega)]
theorem withV_plain (v:List Int) (r n:Int):ck (eS v r n)=eS v r n:=pv_pv _
theorem covB_iff {v w:List Int}:covB v w=true↔∀k,w.getD k 0<=v.getD k 0:=by
 refine⟨λh k=> ?_,λh=>es λk _=>aI (h k)⟩;by_cases a:k<max v.length w.length
 ·have:=jF h k a;simpa using this
 ·simp[cz (show v.length<=k by omega),cz (show w.length<=k by omega)]
theorem covB_at {v w:List Int} (h:covB v w=true) (r:Int):atV w r<=atV v r:=by
 unfold atV;split
 ·exact iC _
 ·exact covB_iff.1 h _
structure Bx where
 done:List Grp
 wait:List Grp
 v:List Int
def Bx.new:Bx:=⟨[],[],[]⟩
def gM (v:List Int) (g:Grp):Bool:=covB v g.deps
def oldB (v:List Int) (g:Grp):Bool:=decide (g.n<=atV v g.s.r)
def fU (a g:Grp):Bool:=(decide (a.s.r=g.s.r) && decide (a.n=g.n)) || a.s.eqb g.s
def knownB (b:Bx) (g:Grp):Bool:=b.done.any (λd=>d.s.eqb g.s) || oldB b.v g || b.wait.any (λa=>fU a g)
def Bx.put (b:Bx) (g:Grp):Bx:=⟨b.done++[g],b.wait,eS b.v g.s.r g.n⟩
def behB (l:List Grp) (g:Grp):Option Nat->Bool
 |none=>true
 |some k=>g.s.lt (l.getD k gz).s
def fy (v:List Int) (l:List Grp):Nat->Option Nat
 |0=>none
 |i+1=>if gM v (l.getD i gz) && behB l (l.getD i gz) (fy v l i) then some i else fy v l i
theorem ii {v:List Int} {l:List Grp}:∀{n k:Nat},fy v l n=some k->k<n∧gM v (l.getD k gz)=true
 |0,k,h=>by cases h
 | n+1,k,h=>by
  unfold fy at h
  split at h
  ·rename_i c
   simp only[ay] at c
   cases h
   exact⟨by omega,c.1⟩
  ·have:=ii h
   exact⟨by omega,this.2⟩
def cy:Nat->Bx->Bx×Nat
 |0,b=>(b,0)
 | f+1,b=>match fy b.v b.wait b.wait.length with
  |none=>(b,0)
  |some k=>
   if oldB b.v (b.wait.getD k gz)=true then cy f ⟨b.done,b.wait.eraseIdx k,b.v⟩
   else ((cy f (Bx.put ⟨b.done,b.wait.eraseIdx k,b.v⟩ (b.wait.getD k gz))).1,(cy f (Bx.put ⟨b.done,b.wait.eraseIdx k,b.v⟩ (b.wait.getD k gz))).2+1)
theorem gX {f:Nat} {b:Bx} (h:fy b.v b.wait b.wait.length=none):cy f b=(b,0):=by
 cases f with
 |zero=>rfl
 |succ f=>unfold cy;rw[h]
theorem gO {f k:Nat} {b:Bx} (h:fy b.v b.wait b.wait.length=some k) (a:oldB b.v (b.wait.getD k gz)=true):cy (f+1) b=cy f ⟨b.done,b.wait.eraseIdx k,b.v⟩:=by
 rw[cy,h];simp only;rw[aN a]
theorem gN {f k:Nat} {b:Bx} (h:fy b.v b.wait b.wait.length=some k) (a:oldB b.v (b.wait.getD k gz)=false):
  cy (f+1) b=((cy f (Bx.put ⟨b.done,b.wait.eraseIdx k,b.v⟩ (b.wait.getD k gz))).1,(cy f (Bx.put ⟨b.done,b.wait.eraseIdx k,b.v⟩ (b.wait.getD k gz))).2+1):=by
 rw[cy,h];simp only;rw[a,aE (by decide)]
def du (b:Bx) (g:Grp):Bx×Nat×Int:=
 if chkB g=false then (b,0,80)
 else if knownB b g=true then (b,0,210)
 else if gM b.v g=true then ((cy b.wait.length (b.put g)).1,(cy b.wait.length (b.put g)).2+1,0)
 else if 100<=b.wait.length then (b,0,211)
 else (⟨b.done,b.wait++[g],b.v⟩,0,0)
def eu:List Int->List Grp->Option (List Int)
 |v,[]=>some v
 |v,g::l=>if chkB g && covB v g.deps && decide (atV v g.s.r=g.n-1) then eu (eS v g.s.r g.n) l else none
theorem aheadV_append:∀(l m:List Grp) (v:List Int),eu v (l++m)=(eu v l).bind λu=>eu u m
 | [],m,v=>rfl
 |g::l,m,v=>by
  simp only[List.cons_append,eu]
  split
  ·exact aheadV_append l m _
  ·rfl
theorem aheadV_snoc {l:List Grp} {v u:List Int} {g:Grp} (h:eu v l=some u) (a:chkB g=true) (b:covB u g.deps=true) (c:atV u g.s.r=g.n-1):eu v (l++[g])=some (eS u g.s.r g.n):=by
 rw[aheadV_append,h];simp[eu,a,b,c]
structure BxOk (b:Bx):Prop where
 apart:((b.done++b.wait).map (·.s)).Nodup
 chk:∀g∈b.done++b.wait,chkB g=true
 ahead:eu [] b.done=some b.v
theorem fp {g:Grp} (h:chkB g=true):g.s.right=true∧1<=g.n∧g.n<=1099511627776∧atV g.deps g.s.r=g.n-1:=by
 simp only[chkB,fJ,ay,au] at h;exact⟨h.1.1.1.1.1,h.1.1.1.1.2,h.1.1.1.2,h.1.2⟩
theorem right_r {s:Gst} (h:s.right=true):1<=s.r∧s.r<=16:=by
 simp only[Gst.right,ay,au] at h;exact⟨h.1.2,h.2⟩
theorem next_n {v:List Int} {g:Grp} (a:chkB g=true) (b:gM v g=true) (c:oldB v g=false):atV v g.s.r=g.n-1:=by
 have d:=(fp a).2.2.2;have e:=covB_at b g.s.r;simp only[oldB,aW] at c;omega
theorem BxOk.new:BxOk Bx.new:=⟨List.nodup_nil,λg h=>(by cases h),rfl⟩
theorem BxOk.put {b:Bx} (h:BxOk b) {g:Grp} (c:chkB g=true) (d:gM b.v g=true) (i:oldB b.v g=false) (j:∀x∈b.done++b.wait,x.s≠g.s):BxOk (b.put g):=by
 refine⟨?_,λx a=> ?_,aheadV_snoc h.ahead c d (next_n c d i)⟩
 ·have e:((b.put g).done++(b.put g).wait).map (·.s)=b.done.map (·.s)++(g.s::b.wait.map (·.s)):=by simp[Bx.put]
  rw[e,List.perm_middle.nodup_iff,List.nodup_cons];refine⟨λf=> ?_,by simpa using h.apart⟩;rw[<-bD,bN] at f;obtain⟨x,a,k⟩:=f;exact j x a k
 ·simp only[Bx.put,aD,ba] at a;rcases a with(a|rfl)|a
  ·exact h.chk x (by simp[a])
  ·exact c
  ·exact h.chk x (by simp[a])
theorem BxOk.drop {b:Bx} (h:BxOk b) (k:Nat):BxOk ⟨b.done,b.wait.eraseIdx k,b.v⟩:=by
 have a:(b.done++b.wait.eraseIdx k).Sublist (b.done++b.wait):=(List.Sublist.refl _).append (List.eraseIdx_sublist _ _);exact⟨(a.map _).nodup h.apart,λg c=>h.chk g (a.subset c),h.ahead⟩
theorem gC {l:List Grp} {k:Nat} (a:k<l.length):l.getD k gz∈l:=by
 rw[ae,aw a];exact ch a
theorem erase_ne {l:List Grp} {k:Nat} (b:k<l.length) (h:(l.map (·.s)).Nodup):∀x∈l.eraseIdx k,x.s≠(l.getD k gz).s:=by
 intro x a e;have f:l.getD k gz=l[k]:=by simp[b]
 rw[f] at e;rw[List.mem_eraseIdx_iff_getElem] at a;obtain⟨i,g,c,a⟩:=a;have:=(iR.1 h);have d:(l.map (·.s))[i]'(by simpa using g)=(l.map (·.s))[k]'(by simpa using b):=by simp[a,e]
 exact c ((List.getElem_inj h).1 d)
theorem drainF_ok:∀(f:Nat) (b:Bx),BxOk b->BxOk (cy f b).1
 |0,b,h=>h
 | f+1,b,h=>by
  cases hb:fy b.v b.wait b.wait.length with
  |none=>rw[gX hb];exact h
  | some k=>
   obtain⟨hk,hr⟩:=ii hb
   cases ho:oldB b.v (b.wait.getD k gz) with
   |true=>rw[gO hb ho];exact drainF_ok f _ (h.drop k)
   |false=>
    rw[gN hb ho]
    refine drainF_ok f _ ((h.drop k).put (h.chk _ (aD.2 (.inr (gC hk)))) hr ho λx hx=> ?_)
    have hn:=h.apart
    rw[bD,fZ] at hn
    rcases aD.1 hx with hx|hx
    ·exact λe=>hn.2.2 _ (bN.2 ⟨x,hx,rfl⟩) _ (bN.2 ⟨_,gC hk,rfl⟩) e
    ·exact erase_ne hk hn.2.1 x hx
theorem not_known {b:Bx} {g:Grp} (h:knownB b g=false):oldB b.v g=false∧∀x∈b.done++b.wait,x.s≠g.s:=by
 simp only[knownB,Bool.or_eq_false_iff,List.any_eq_false] at h;refine⟨h.1.2,λx a e=> ?_⟩;rcases aD.1 a with a|a
 ·exact h.1.1 x a (by rw[Gst.eqb_iff];exact e)
 ·refine h.2 x a ?_;unfold fU;rw[dk,Gst.eqb_iff];exact .inr e
theorem hearB_ok {b:Bx} (h:BxOk b) (g:Grp):BxOk (du b g).1:=by
 unfold du;split
 ·exact h
 ·rename_i hc;simp only[Bool.not_eq_false] at hc;split
  ·exact h
  ·rename_i hk;simp only[Bool.not_eq_true] at hk;obtain⟨i,f⟩:=not_known hk;split
   ·rename_i hr;exact drainF_ok _ _ (h.put hc hr i f)
   ·split
    ·exact h
    ·refine⟨?_,λx d=> ?_,h.ahead⟩
     ·show((b.done++(b.wait++[g])).map (·.s)).Nodup;rw[<-aM,bD,fZ];refine⟨h.apart,by simp,λa j c e=> ?_⟩;simp only[List.map_cons,List.map_nil,ba] at e;obtain⟨x,d,rfl⟩:=bN.1 j;rw[e];exact f x d
     ·simp only[aD,ba] at d;rcases d with d|d|rfl
      ·exact h.chk x (by simp[d])
      ·exact h.chk x (by simp[d])
      ·exact hc
end
section
open Go.Lib
theorem vecB_nn {v:List Int} (h:vecB v=true):(∀x∈v,0<=x)∧v.length<=16:=by
 simp only[vecB,ay,dT,au] at h;exact⟨h.1.1,h.1.2⟩
end
end
end Go.Proofs.YtkhmicndehlneaaGreatDoor
