/- Part 32 of the walks and plain laws that this claim uses, joined. Conditions: as each theorem states. -/
import Derived.Test.YtkhmicndehlneaaGreatDoorYsE
namespace Go.Proofs.YtkhmicndehlneaaGreatDoor
set_option maxRecDepth 100000
set_option maxHeartbeats 16000000
section
open Go.RowKit Go.Lib Go.Sort
set_option linter.unusedVariables false
attribute [local go_sem ↓] Go.wp_at_zero Go.wp_at_succ
structure Doo where
 q0:Nat
 q1:Nat
 q2:Nat
 q3:Nat
 q4:Nat
 see:Bool
def do0:Doo:=⟨0,0,0,0,0,false⟩
def doC (x:Doo):List Value:=[.int .u8 (x.q0:Int),.int .u8 (x.q1:Int),.int .u8 (x.q2:Int),.int .u8 (x.q3:Int),.int .u8 (x.q4:Int),.bool x.see]
def doOk (x:Doo):Prop:=x.q0≤255∧x.q1≤255∧x.q2≤255∧x.q3≤255∧x.q4≤255
def HisQ (w00:World) (e:Ending) (w':World):Prop:=∃(L:List (Grp×GrX)) (kn:List (List Int)) (V:List Int) (gA:Option Addr) (gc:Nat),e= .returned (.slice gA L.length gc)∧HOk 16 L kn V∧w'.ownsRow 0 45 7 (.slice gA L.length gc) L.length (L.flatMap grC_)∧(∀p∈L,GrG w' (fun _=>True) p)∧Below w00.heap.size w00 w'
theorem HOk.up {gs:List (Grp×GrX)} {kn:List (List Int)} {V:List Int}:∀{n m:Nat},n≤m→HOk n gs kn V→HOk m gs kn V
  | n, 0, hm, h => by obtain rfl:n=0:=by omega
                      exact h
  | n,m+1,hm,h=>by
    by_cases e:n=m+1
    · subst e;exact h
    · exact(HOk.up (m:=m) (by omega) h).mono
theorem WIn.put {b n:Nat} {L:List (Grp×GrX)} {K:List KnX} {V:List Int} {gA kA:Option Addr} {gc kc:Nat} {w w':World} (h:WIn (fun k=>k≠b) n L K V gA gc kA kc w) (hg:w.grownBy w' (some b)):WIn (fun k=>k≠b) n L K V gA gc kA kc w':=by
 have ha:Agr (fun k=>k≠b) w w':=Agr.grown hg fun g e1 e2=>by cases e1;exact e2 rfl
 have hn:∀{v:Value},(∀g,v.ownBlock=some g→g≠b)→v.ownBlock=none∨v.ownBlock≠some b:=fun hv=> .inr fun e=>hv _ e rfl
 exact⟨h.ok,h.gr.kept hg (hn h.gs),h.gs,fun p hp=>(h.gd p hp).agr ha,h.kr.kept hg (hn h.ks),h.ks,fun p hp=>⟨RowG.agr (h.kd p hp).1 ha,(h.kd p hp).2⟩⟩
theorem history_any (D:List Doo) (dA:Option Addr) (dc:Nat) (S0:Nat→Prop) (w00:World) (hD:∀x∈D,doOk x) (hl:D.length≤9223372036854775807) (hR:RowF w00 S0 dA 6 doC do0 D):
  Calls Tryz.prog 17 #[.slice dA D.length dc] w00 fun e w'=>HisQ w00 e w':=by
 have HR:=hid hR
 have HD:=hid hD
 clear hR hD
 go_enter Tryz.func17,Tryz.ntmps17
 go_upto_region 2 with fail
 have sz:=fun (W:World) (o:Obj)=>show(W.alloc o).heap.size=W.heap.size+1 by simp
 have hB2:Below w00.heap.size w00 ((w00.alloc (.cells #[.slice none 0 0,.slice none 0 0,.slice none 0 0] 27)).alloc (.cells #[.slice none 0 0,.slice (some ⟨w00.heap.size,0,none⟩) 3 3] 83)):=((Below.refl _ _).alloc (Nat.le_refl _) _).alloc (by rw[sz];omega) _
 have HK0:=hid (show((w00.alloc (.cells #[.slice none 0 0,.slice none 0 0,.slice none 0 0] 27)).alloc (.cells #[.slice none 0 0,.slice (some ⟨w00.heap.size,0,none⟩) 3 3] 83)).heap[w00.heap.size]? =some (.cells #[.slice none 0 0,.slice none 0 0,.slice none 0 0] 27 (0,0)) from(Below.heap_alloc _ _ _ (by rw[sz];omega)).trans (heap_alloc_new _ _))
 have HWB0:=hid (show((w00.alloc (.cells #[.slice none 0 0,.slice none 0 0,.slice none 0 0] 27)).alloc (.cells #[.slice none 0 0,.slice (some ⟨w00.heap.size,0,none⟩) 3 3] 83)).heap[(w00.heap.size+1)]? =some (.cells #[.slice none 0 0,.slice (some ⟨w00.heap.size,0,none⟩) 3 3] 83 (0,0)) from heap_alloc_newC _ _ (by rw[sz]))
 have HB0:=hid hB2
 generalize hw:((w00.alloc (.cells #[.slice none 0 0,.slice none 0 0,.slice none 0 0] 27)).alloc (.cells #[.slice none 0 0,.slice (some ⟨w00.heap.size,0,none⟩) 3 3] 83))=w at *
 clear hw hB2 sz
 have HW0:=hid (show WIn (fun b=>b≠w00.heap.size+1) 0 [] [kn0,kn0,kn0] [] none 0 (some ⟨w00.heap.size,0,none⟩) 3 w from by
  refine⟨HOk.new,World.ownsRow_nil _ _ _ _,(fun g e=>by cases e),(fun p hp=>by cases hp),⟨rfl,.inr ⟨w00.heap.size,3,#[.slice none 0 0,.slice none 0 0,.slice none 0 0],rfl,Nat.zero_le _,HK0.out,Nat.le_refl _,by decide,rfl,rfl⟩⟩,(fun g e=>by have e:some w00.heap.size=some g:=e;injection e with e;omega),fun p hp=> ?_⟩
  have e:p=kn0:=by simpa using hp
  subst e
  exact⟨RowG.zero,Nat.le_refl _,Nat.zero_le _⟩)
 have HRW:=hid (fun W (hB:Below w00.heap.size w00 W)=>HR.out.below hB)
 clear HK0
 go_upto_region 3 with fail
 go_loopg [4] 16 (fun g0 ix wr=>∃(k:Nat) (L:List (Grp×GrX)) (KL:List KnX) (V:List Int) (gA:Option Addr) (gc:Nat) (kA:Option Addr) (kc:Nat),k+g0=16∧k≤D.length∧ix= .int .i64 k∧Hid (wr.heap[(w00.heap.size+1)]? =some (.cells #[.slice gA L.length gc,.slice kA 3 kc] 83 (0,0)))∧Hid (WIn (fun b=>b≠w00.heap.size+1) k L KL V gA gc kA kc wr)∧Hid (Below w00.heap.size w00 wr))
 case atStart=>exact⟨0,[],[kn0,kn0,kn0],[],none,0,some ⟨w00.heap.size,0,none⟩,3,rfl,Nat.zero_le _,rfl,HWB0,HW0,HB0⟩
 case round=>
  obtain⟨k,L,KL,V,gA,gc,kA,kc,hk,hkD,rfl,HWB,HWI,HB⟩:=hrel
  have hn2:=lt_of_block HWB.out
  by_cases hkl:k<D.length
  ·have i1:(0:Int)≤(k:Int):=by omega
   have i2:(k:Int)<(D.length:Int):=by omega
   by_cases hk16:k<16
   ·have i3:(k:Int)<16:=by omega
    obtain⟨rb,ro,e9,-,hrb,hrr⟩:=HR.out.range (fun _=>rfl) hkl
    have hq:=HD.out _ (getD_memF hkl do0)
    generalize D.getD k do0=x at *
    obtain⟨q0,q1,q2,q3,q4,see⟩:=x
    have hq:q0≤255∧q1≤255∧q2≤255∧q3≤255∧q4≤255:=hq
    cases e9
    have HRW:=hid (fun W (hB:Below w00.heap.size w00 W)=>show W.rangeAt rb (ro+k*6) [.int .u8 (q0:Int),.int .u8 (q1:Int),.int .u8 (q2:Int),.int .u8 (q3:Int),.int .u8 (q4:Int),.bool see] from rangeB hrr hrb hB)
    clear hrr hrb
    go_upto_region 5 with fail
    refine wp_region_held (S:=fun W'=>W'.rangeAt rb (ro+k*6) [.int .u8 (q0:Int),.int .u8 (q1:Int),.int .u8 (q2:Int),.int .u8 (q3:Int),.int .u8 (q4:Int),.bool see]) (by kernel_rfl) ?_
    try(change wpAnyH _ _ _ _ _ _ _ _ (World.drew _))
    refine tk 1 (.slice (some ⟨rb,ro,none⟩) D.length dc) ((show wr.drew.rangeAt _ _ _ from HRW.out wr HB.out)) ?_
    go_simp
    refine tk 2 (.int .i64 (k:Int)) ((show wr.drew.rangeAt _ _ _ from HRW.out wr HB.out)) ?_
    go_simp
    refine tk 3 (.pointer (some ⟨rb,ro+k*6,none⟩)) ((show wr.drew.rangeAt _ _ _ from HRW.out wr HB.out)) ?_
    go_simp
    refine wpAnyH_take (i:=4) (v:= .agg #[.int .u8 (q0:Int),.int .u8 (q1:Int),.int .u8 (q2:Int),.int .u8 (q3:Int),.int .u8 (q4:Int),.bool see]) rfl (by kernel_rfl) (by kernel_rfl) (by kernel_rfl) (fun _ _ _ h=>h) (yieldsIf_load_mid (by rfl) _ _ rfl rb (ro+k*6) rfl [.int .u8 (q0:Int),.int .u8 (q1:Int),.int .u8 (q2:Int),.int .u8 (q3:Int),.int .u8 (q4:Int),.bool see] _ (fun W' hW'=>range_mid (pre:=[]) (mid:=[.int .u8 (q0:Int),.int .u8 (q1:Int),.int .u8 (q2:Int),.int .u8 (q3:Int),.int .u8 (q4:Int),.bool see]) (post:=[]) (hW')) Tryz.underlying86 rfl (by kernel_rfl)) ((show wr.drew.rangeAt _ _ _ from HRW.out wr HB.out)) ?_
    go_simp
    refine wpAnyH_ready (rs:=[0]) (by kernel_rfl) (by simp) ?_
    refine AllReadyH.cons rfl (fun K hK=> ?_) AllReadyH.nil
    refine step_load_mid rfl _ _ rfl (w00.heap.size+1) 0 rfl [.slice gA L.length gc,.slice kA 3 kc] _ (show wr.drew.rangeAt _ _ _ from range_of_block (l:=[.slice gA L.length gc,.slice kA 3 kc]) HWB.out) Tryz.underlying83 rfl (by kernel_rfl) ?_
    refine hK.out _ _ ((show wr.drew.rangeAt _ _ _ from HRW.out wr HB.out)) (fun _=> ?_)
    clear hK K
    refine wpAnyH_ready (rs:=[5]) (by kernel_rfl) (by simp) ?_
    refine AllReadyH.cons rfl (fun K hK=> ?_) AllReadyH.nil
    go_simp
    go_at_call 47
    refine(done_any k L KL V gA gc kA kc q0 q1 q2 q3 q4 see (fun b=>b≠w00.heap.size+1) wr.drew (fun b (hb:wr.heap.size≤b)=>by have:=lt_of_block HWB.out;omega) hk16 hq.1 hq.2.1 hq.2.2.1 hq.2.2.2.1 hq.2.2.2.2 (HWI.out.below ((Below.refl _ _).drew))).mono ?_
    rintro e w2 ⟨L2,K2,V2,gA2,gc2,kA2,kc2,rfl,hW2,hB2⟩
    have hB2:=show Below wr.heap.size wr w2 from((Below.refl wr.heap.size wr).drew).trans hB2
    have HW2:=hid hW2
    have HB2:=hid (HB.out.trans (hB2.mono HB.out.size))
    have HWB2:=hid ((hB2.block _ (lt_of_block HWB.out)).trans HWB.out)
    clear hW2 hB2
    refine hK.out _ _ (HRW.out w2 HB2.out) (fun _=> ?_)
    clear hK K
    obtain⟨X9,hX9⟩:∃X,X=w2.setRow (w00.heap.size+1) #[.slice gA2 L2.length gc2,.slice kA2 3 kc2]:=⟨_,rfl⟩
    have HX9:=hid hX9
    have hg9:w2.grownBy X9 (some (w00.heap.size+1)):=by rw[hX9];exact gby_setRow _ _ _
    have HWB9:=hid (show X9.heap[(w00.heap.size+1)]? =some (.cells #[.slice gA2 L2.length gc2,.slice kA2 3 kc2] 83 (0,0)) by rw[hX9];exact heap_setRow_same _ HWB2.out)
    have HB9:=hid (HB2.out.grown hg9 HB2.out.size (fun b e=>by cases e;omega))
    have HW9:=hid (HW2.out.put hg9)
    have HAL:=hid (show(#[.slice gA2 L2.length gc2,.slice kA2 3 kc2]:Array Value).toList.all (·.oneCell')=true by rfl)
    clear hX9 hg9
    refine wpAnyH_ready (rs:=[6]) (by kernel_rfl) (by simp) ?_
    refine AllReadyH.cons rfl (fun K hK=> ?_) AllReadyH.nil
    refine step_store_at rfl _ _ _ rfl (w00.heap.size+1) 83 #[.slice gA L.length gc,.slice kA 3 kc] #[.slice gA2 L2.length gc2,.slice kA2 3 kc2] rfl rfl HWB2.out (by kernel_rfl) rfl HAL.out ?_
    rw[←HX9.out]
    refine hK.out _ _ (HRW.out X9 HB9.out) (fun _=> ?_)
    clear hK K
    refine wpAnyH_done (by kernel_rfl) ?_ _
    go_simp
    go_wp2
    go_roundg (16-(k+1))
    case measure=>omega
    case rel=>exact⟨k+1,L2,K2,V2,gA2,gc2,kA2,kc2,by omega,by omega,by go_num,HWB9,HW9,HB9⟩
   ·have i3:¬(k:Int)<16:=by omega
    have z1:wr.cell? ⟨w00.heap.size+1,0,none⟩=some (.slice gA L.length gc):=cell_of_row _ _ _ _ _ _ HWB.out
    go_wp2
    go_ret
    exact⟨L,_,V,gA,gc,rfl,HWI.out.ok.up (by omega),HWI.out.gr,fun p hp=>(HWI.out.gd p hp).sub (fun _ _ _=>trivial),HB.out⟩
  ·have i2:¬(k:Int)<(D.length:Int):=by omega
   have z1:wr.cell? ⟨w00.heap.size+1,0,none⟩=some (.slice gA L.length gc):=cell_of_row _ _ _ _ _ _ HWB.out
   go_wp2
   go_ret
   exact⟨L,_,V,gA,gc,rfl,HWI.out.ok.up (by omega),HWI.out.gr,fun p hp=>(HWI.out.gd p hp).sub (fun _ _ _=>trivial),HB.out⟩
end
section
open Go.ChangeShapes Go.WideShapes Go.RowKit Go.Lib Go.Deep
set_option linter.unusedVariables false
section
variable {H : Type} {enc : TypeId × Value → H} {w : World} {spare : Nat → Bool} {held : Bool} {fuel : Nat} {cs : List Value} {x : DataW H × List MemPlace}
theorem cells_u8:Tryz.prog.cellsOf 5=1:=by kernel_rfl
theorem cells_do:Tryz.prog.cellsOf 86=6:=by kernel_rfl
theorem wf_u8 {n:Int} (h:(Lit.int .u8 n).wf=true):0≤n∧n≤255:=by
 simpa[Lit.wf,IntKind.min,IntKind.max,IntKind.bits,IntKind.signed] using h
instance:Inhabited Doo:=⟨do0⟩
theorem opn_do (h:DataW.trod enc Tryz.prog w 0 spare held fuel 86 cs=some x):∃d:Doo,cs=doC d∧doOk d:=by
 obtain⟨ys,n,_,_,hlen,hyl,hf⟩:=DataW.trod_struct Tryz.underlying86 h
 rw[cells_do] at hlen
 match cs,hlen,ys,hyl with
 | [c0,c1,c2,c3,c4,c5],_,[y0,y1,y2,y3,y4,y5],_=>
  obtain⟨a0,e0,_,w0⟩:=DataW.trod_int Tryz.underlying5 (fld (hf 0 _ rfl) cells_u8 rfl rfl)
  obtain⟨a1,e1,_,w1⟩:=DataW.trod_int Tryz.underlying5 (fld (hf 1 _ rfl) cells_u8 rfl rfl)
  obtain⟨a2,e2,_,w2⟩:=DataW.trod_int Tryz.underlying5 (fld (hf 2 _ rfl) cells_u8 rfl rfl)
  obtain⟨a3,e3,_,w3⟩:=DataW.trod_int Tryz.underlying5 (fld (hf 3 _ rfl) cells_u8 rfl rfl)
  obtain⟨a4,e4,_,w4⟩:=DataW.trod_int Tryz.underlying5 (fld (hf 4 _ rfl) cells_u8 rfl rfl)
  obtain⟨a5,e5,_⟩:=DataW.trod_bool Tryz.underlying4 (fld (hf 5 _ rfl) cells_bool rfl rfl)
  have k0:=wf_u8 w0
  have k1:=wf_u8 w1
  have k2:=wf_u8 w2
  have k3:=wf_u8 w3
  have k4:=wf_u8 w4
  cases e0;cases e1;cases e2;cases e3;cases e4;cases e5
  refine⟨⟨a0.toNat,a1.toNat,a2.toNat,a3.toNat,a4.toNat,a5⟩,?_,?_⟩
  ·show _=[Value.int .u8 (a0.toNat:Int),.int .u8 (a1.toNat:Int),.int .u8 (a2.toNat:Int),.int .u8 (a3.toNat:Int),.int .u8 (a4.toNat:Int),.bool a5]
   rw[Int.toNat_of_nonneg k0.1,Int.toNat_of_nonneg k1.1,Int.toNat_of_nonneg k2.1,Int.toNat_of_nonneg k3.1,Int.toNat_of_nonneg k4.1]
  ·refine⟨?_,?_,?_,?_,?_⟩<;>(simp only[];omega)
theorem opn_dos (h:DataW.trod enc Tryz.prog w 0 spare held fuel 22 cs=some x):∃(A:Option Addr) (D:List Doo) (c:Nat),cs=[.slice A D.length c]∧D.length≤c∧c≤maxLen∧RowF w (Here w) A 6 doC do0 D∧∀d∈D,doOk d:=by
 obtain⟨A,len,c,f,hcs,h1,h2,h3,h4⟩:=opn_rows (α:=Doo) (s:=6) (by decide) Tryz.underlying22 cells_do (fun p j=>(doC p).getD j undef) (fun p _=>doOk p) (fun n cs' d p h=>by
  obtain⟨v,rfl,h1⟩:=opn_do h
  refine⟨v,fun j hj=> ?_,h1⟩
  have:j<(doC v).length:=hj
  rw[List.getElem?_eq_getElem this,List.getD_eq_getElem?_getD,List.getElem?_eq_getElem this]
  rfl) h
 refine⟨A,(List.range len).map f,c,by rw[range_len];exact hcs,by rw[range_len];exact h1,h2,?_,fun y hy=> ?_⟩
 ·unfold RowF
  rw[range_len]
  exact RowG.congr h3 fun k j hk hj=>by rw[range_getD f do0 hk]
 ·obtain⟨k,hk,rfl⟩:=List.mem_map.1 hy
  obtain⟨d,hd,_⟩:=h4 k (List.mem_range.1 hk)
  exact hd
theorem opn_u8s (h:DataW.trod enc Tryz.prog w 0 spare held fuel 23 cs=some x):∃(A:Option Addr) (P:List Int) (c:Nat),cs=[.slice A P.length c]∧P.length≤c∧c≤maxLen∧RowF w (Here w) A 1 u8L 0 P∧∀q∈P,0≤q∧q≤255:=by
 obtain⟨A,len,c,f,hcs,h1,h2,h3,h4⟩:=opn_rows (α:=Int) (s:=1) (by decide) Tryz.underlying23 cells_u8 (fun v j=>(u8L v).getD j undef) (fun v _=>0≤v∧v≤255) (fun n cs' d p h=>by
  obtain⟨v,rfl,_,hw⟩:=DataW.trod_int Tryz.underlying5 h
  exact⟨v,fun j hj=>by obtain rfl:j=0:=(by omega);rfl,wf_u8 hw⟩) h
 refine⟨A,(List.range len).map f,c,by rw[range_len];exact hcs,by rw[range_len];exact h1,h2,?_,fun y hy=> ?_⟩
 ·unfold RowF
  rw[range_len]
  exact RowG.congr h3 fun k j hk hj=>by rw[range_getD f 0 hk]
 ·obtain⟨k,hk,rfl⟩:=List.mem_map.1 hy
  obtain⟨d,hd,_⟩:=h4 k (List.mem_range.1 hk)
  exact hd
end
end
section
open Go.RowKit Go.Lib Go.Sort
set_option linter.unusedVariables false
attribute [local go_sem ↓] Go.wp_at_zero Go.wp_at_succ
theorem causalsmall_card (D:List Doo) (dA:Option Addr) (dc:Nat) (P:List Int) (pA:Option Addr) (pc:Nat) (v:List Int) (vA:Option Addr) (vc:Nat) (W:World) (hc0:D.length≤dc) (hm0:dc≤maxLen) (hR:RowF W (Here W) dA 6 doC do0 D) (hD:∀x∈D,doOk x) (hc1:P.length≤pc) (hm1:pc≤maxLen) (hP:RowF W (Here W) pA 1 u8L 0 P) (hb:∀q∈P,0≤q∧q≤255) (hc2:v.length≤vc) (hm2:vc≤maxLen) (hV:VecS W (Here W) vA v) (hY:∀x∈v,i63 x) (htab:Tabs W):
  Calls Tryz.prog 5 #[.slice dA D.length dc,.slice pA P.length pc,.slice vA v.length vc] W fun e w'=>e= .returned (.bool true)∧Below W.heap.size W w':=by
 have hvl9:v.length≤9223372036854775807:=by unfold maxLen at hm2;omega
 have hpl9:P.length≤9223372036854775807:=by unfold maxLen at hm1;omega
 have HTB:=hid htab
 have HV:=hid hV
 have HAW:=hid (fun W' (h:Below W.heap.size W W')=>awake21_any W' (htab.below h))
 have HHI:=hid (fun W' (h:Below W.heap.size W W')=>history_any D dA dc (Here W) W' hD (by unfold maxLen at hm0;omega) (hR.below h))
 have HMX:=hid (fun W' (h:Below W.heap.size W W') (L:List (Grp×GrX)) gA gc (hl:L.length≤100000) (hr:RowGr W' gA L)=>mixed_any L gA gc P pA pc (Here W) W' hl hpl9 hr (hP.below h) hb)
 clear hc0 hm0 hR hD hc1 hm1 hP hb hc2 hm2 hV hY htab
 by_cases hv30:30<v.length
 ·have i1:(30:Int)<(v.length:Int):=by omega
  go_enter Tryz.func5,Tryz.ntmps5
  go_wp2_with (go_at_call 16;refine(HAW.out W (Below.refl _ _)).mono ?_;rintro e w2 ⟨rfl,hB2⟩;have HB2:=hid hB2;clear hB2)
  go_ret
  exact⟨rfl,HB2.out⟩
 ·have i1:¬(30:Int)<(v.length:Int):=by omega
  go_enter Tryz.func5,Tryz.ntmps5
  go_wp2_with (first
   |(go_at_call 26;refine(HPL.out).mono ?_;rintro e w4 ⟨rfl,hB4⟩;have HB4:=hid (HB3.out.trans (hB4.mono HB3.out.size));clear hB4)
   |(go_at_call 19;refine(HMX.out w2 HB2.out L gA gc (by have:=HOK.out.len;omega) (RowGr.own HOW.out)).mono ?_;rintro e w3 ⟨mA,mc,rfl,hown,hB3⟩;have HPL:=hid (played_any (mixed L P) mA mc v vA vc w3 (by have:=mixed_len L P;omega) (RowGr.own hown) (fun p hp=>((HGD.out p (mixed_mem hp)).agr (Agr.below hB3)).sub fun k hk _=>hk) (fun p hp o ho=>by have:=(HOK.out.sml p (mixed_mem hp) o ho).2.2.1;omega) (fun p hp=>HOK.out.chk p (mixed_mem hp)) (by omega) (RowG.sub (RowG.agr HV.out (Agr.below (HB2.out.trans (hB3.mono HB2.out.size)))) fun k hk _=>hk) (HTB.out.below (HB2.out.trans (hB3.mono HB2.out.size))));have HB3:=hid (HB2.out.trans (hB3.mono HB2.out.size));clear hown hB3)
   |(go_at_call 17;refine(HHI.out w1 HB1.out).mono ?_;rintro e w2 ⟨L,kn,V,gA,gc,rfl,hok,hown,hgd,hB2⟩;have HOK:=hid hok;have HOW:=hid hown;have HGD:=hid hgd;have HB2:=hid (HB1.out.trans (hB2.mono HB1.out.size));clear hok hown hgd hB2)
   |(go_at_call 16;refine(HAW.out W (Below.refl _ _)).mono ?_;rintro e w1 ⟨rfl,hB1⟩;have HB1:=hid hB1;clear hB1))
  go_ret
  exact⟨rfl,HB4.out⟩
end
end Go.Proofs.YtkhmicndehlneaaGreatDoor
