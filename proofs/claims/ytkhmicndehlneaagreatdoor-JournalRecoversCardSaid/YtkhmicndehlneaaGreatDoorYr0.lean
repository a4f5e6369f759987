/- Short words for the walks. Conditions: as each theorem states. -/
import Derived.Deep.MidRow
import Derived.Deep.WholeRow
import Derived.Maps.AppendAt
import Derived.Below
import Derived.Laws.AppendOwn
import Derived.Laws.Rows
import Derived.Lib.Hide
import Derived.OrdersHeld
import Derived.Deep.RegionHeld3
import Derived.KernelRfl
import Derived.Tactics
import Derived.BigQuiet
import Derived.ChangeSame
import Derived.Deep.AppendLies
import Derived.Deep.CutBlock
import Derived.Deep.CutRange
import Derived.Deep.DeepCutAuto
import Derived.Deep.DrawnRows
import Derived.Deep.Light
import Derived.Deep.LoopGhost
import Derived.Deep.OwnRows
import Derived.Deep.QuietTactic
import Derived.Deep.RegionLaw
import Derived.Deep.RegionWith
import Derived.Deep.Slices
import Derived.DeepKeys4
import Derived.IntWalk
import Derived.Laws.BitsAllLaws
import Derived.Laws.CopyOwn
import Derived.Laws.Externs
import Derived.Laws.IdiomStrings
import Derived.Laws.OwnMore
import Derived.Lib.AppendStr
import Derived.Lib.DecodeNEq
import Derived.Lib.MapLaws
import Derived.Lib.OthersKept
import Derived.Lib.OwnKind
import Derived.Lib.QuietBelow
import Derived.Lib.RuneCount
import Derived.Lib.SliceRun
import Derived.Lib.UnsafeStr
import Derived.Lib.ValidLaws
import Derived.Lib.ValidU
import Derived.Lib.Varint
import Derived.Lib.VarintBits
import Derived.Lib.Zigzag
import Derived.Maps.OwnSet
import Derived.Outline
import Derived.OwnWalk
import Derived.SizedLaws
import Derived.WalkKit
import Derived.WalkMore
import Init.Data.Nat.Bitwise
import Init.Data.UInt.Lemmas
import Derived.Test.YtkhmicndehlneaaGreatDoorProg
namespace Go.Proofs.YtkhmicndehlneaaGreatDoor
open Go.RowKit Go.Lib
def Hid (p:Prop):Prop:=p
theorem Hid.o {p:Prop} (h:Hid p):p:=h
theorem Hid.out {p:Prop} (h:Hid p):p:=h
theorem rd1 {P:Program} {md:Region.Mode} {ops:Array Oper} {Q:Exit→Act→World→Prop} {S:World→Prop} {fuel:Nat} {listed:Array Bool} {a:Act} {w:World} (i:Nat) {o:Oper}
    (h:∀K:Act→World→Prop,Shut (∀a w,S w→(S w→wpAnyH P md ops Q S fuel (listed.setIfInBounds i true) a w)→K a w)→if Region.wanted o (yielded ops a.tmps)=true then Oper.wp P o a w K Q else K (a.put o.dst undef) w)
    (ho:ops[i]? =some o:=by rfl) (hr:Region.ready md ops listed=[i]:=by kernel_rfl):wpAnyH P md ops Q S (fuel+1) listed a w:=wpAnyH_ready hr (by simp) (AllReadyH.cons ho h AllReadyH.nil)
theorem tk2 {P:Program} {md:Region.Mode} {ops:Array Oper} {Q:Exit→Act→World→Prop} {S:World→Prop} (i:Nat) (v:Value) {oi:Oper} {fuel:Nat} {listed:Array Bool} {a:Act} {w:World} (hi:ops[i]? =some oi) (hy:YieldsIf P ops S oi v a) (hS:S w)
    (h:wpAnyH P md ops Q S fuel (listed.setIfInBounds i true) (a.put oi.dst v) w)
    (hs:Region.noSelect ops=true:=by kernel_rfl) (hf:Region.free md ops listed i=true:=by kernel_rfl) (hr:(Region.ready md ops listed).contains i=true:=by kernel_rfl)
    (hQ:∀c a w,Q (.panic c) (a.put oi.dst v) w→Q (.panic c) a w:=by exact fun _ _ _ h=>h):wpAnyH P md ops Q S (fuel+1) listed a w:=wpAnyH_take hi hs hf hr hQ hy hS h
theorem bT {a w w':World} (h:Hid (RowKit.Below a.heap.size a w)) (k:RowKit.Below w.heap.size w w'):Hid (RowKit.Below a.heap.size a w'):=h.o.trans (k.mono h.o.size)
theorem bK {w w':World} {g:Nat} {o:Obj} (k:RowKit.Below w.heap.size w w') (h:Hid (w.heap[g]? =some o)):Hid (w'.heap[g]? =some o):=(k.block g (Array.getElem?_eq_some_iff.1 h.o).1).trans h.o
theorem kO {w w':World} {B s n:Nat} {E:TypeId} {v:Value} {xs:List Value} (h:Hid (w.ownsRow B E s v n xs)) (k:RowKit.Below w.heap.size w w'):Hid (w'.ownsRow B E s v n xs):=h.o.kept (row:=none) ⟨k.os,k.tape,k.output,k.size,fun i hi _=>k.block i hi⟩ (Classical.em _)
theorem lM {P:Program} {ops:Array Oper} {rest:List Oper} {o:Oper} {a:Act} {w:World} {Q:Exit→Act→World→Prop} {b f:Nat} {cs:List Value} {ty:TypeId} {x:Operand} {d:TypeDesc} (hc:Hid (w.rangeAt b f cs)) (hu:P.underlying ty=some d) (h:wpList P ops Q rest (a.put o.dst (.agg cs.toArray)) w)
    (hgd:o.guard=none:=by rfl) (ho:o.op= .load ty x:=by rfl) (hx:a.eval x= .pointer (some ⟨b,f,none⟩):=by rfl) (hd:d.isRow=true:=by rfl) (hi:(P.info? ty).map (·.size)=some cs.length:=by kernel_rfl):wpList P ops Q (o::rest) a w:=
  wpList_load_mid hgd ty x ho b f hx cs d hc.o hu hd hi h
theorem lA {P:Program} {ops:Array Oper} {rest:List Oper} {o:Oper} {a:Act} {w:World} {Q:Exit→Act→World→Prop} {g:Nat} {T:TypeId} {c:Array Value} {ty:TypeId} {x:Operand} {d:TypeDesc} (hg:Hid (w.heap[g]? =some (.cells c T (0,0)))) (hu:P.underlying ty=some d) (h:wpList P ops Q rest (a.put o.dst (.agg c)) w)
    (hgd:o.guard=none:=by rfl) (ho:o.op= .load ty x:=by rfl) (hx:a.eval x= .pointer (some ⟨g,0,none⟩):=by rfl) (hd:d.isRow=true:=by rfl) (hi:(P.info? ty).map (·.size)=some c.size:=by kernel_rfl):wpList P ops Q (o::rest) a w:=
  wpList_load_row hgd ty x ho g hx T c (0,0) d hg.o hu (by cases d<;>simp_all) hi h
instance:Coe Int Value:=⟨Value.int .i64⟩
instance:Coe Bool Value:=⟨Value.bool⟩
instance:Coe ByteArray Value:=⟨Value.string⟩
abbrev bg:=@Go.AllReadyH.cons
abbrev dp:=@Go.AllReadyH.nil
abbrev cv:=@Array.all_toList
abbrev dG:=@Array.getElem?_eq_getElem
abbrev bY:=@Array.getElem?_modify
abbrev ee:=@Array.getElem?_toList
abbrev iE:=@Array.toList_extract
abbrev eR:=@Array.toList_inj
abbrev ax:=@Go.RowKit.Below.heap_alloc
abbrev bB:=@Go.RowKit.Below.heap_setCell
abbrev ag:=@Go.RowKit.Below.refl
abbrev ay:=@Bool.and_eq_true
abbrev bj:=@Bool.and_false
abbrev bw:=@Bool.and_true
abbrev bE:=@Bool.eq_iff_iff
abbrev bi:=@Bool.false_and
abbrev jI:=@Bool.false_eq_true
abbrev il:=@Bool.not_eq_true'
abbrev dk:=@Bool.or_eq_true
abbrev aZ:=@Bool.true_and
abbrev gQ:=@ByteArray.data_extract
abbrev fH:=@ByteArray.ext
abbrev aX:=@ByteArray.size_append
abbrev dg:=@ByteArray.size_extract
abbrev cw:=@Go.ByteArray.toList_eq
abbrev ak:=@Go.Calls.regrown_of
abbrev cX:=@Classical.em
abbrev dV:=@Go.Exit.noGoto_ret
abbrev dU:=@Int.eq_ofNat_of_zero_le
abbrev iC:=@Int.le_refl
abbrev ex:=@Int.tmod_eq_emod_of_nonneg
abbrev bX:=@Int.toNat_natCast
abbrev i9:=@Int.toNat_of_nonneg
abbrev bH:=@Go.IntKind.wrap_i64
abbrev cH:=@Go.IntWalk.i64_in
abbrev dT:=@List.all_eq_true
abbrev jx:=@List.any_append
abbrev eQ:=@List.any_eq_true
abbrev aM:=@List.append_assoc
abbrev g8:=@List.append_nil
abbrev iS:=@List.drop_eq_getElem_cons
abbrev cu:=@List.eq_nil_of_length_eq_zero
abbrev fV:=@List.extract_eq_take_drop
abbrev jH:=@List.filter_append
abbrev aK:=@List.flatMap_append
abbrev cG:=@List.flatMap_cons
abbrev bJ:=@List.flatMap_singleton
abbrev ed:=@List.foldl_cons
abbrev ae:=@List.getD_eq_getElem?_getD
abbrev eE:=@List.getElem?_append_left
abbrev dy:=@List.getElem?_append_right
abbrev jG:=@List.getElem?_drop
abbrev aw:=@List.getElem?_eq_getElem
abbrev cz:=@List.getElem?_eq_none
abbrev eD:=@List.getElem?_eq_some_iff
abbrev dW:=@List.getElem?_map
abbrev iB:=@List.getElem?_set_ne
abbrev gP:=@List.getElem?_set_self
abbrev dx:=@List.getElem?_take
abbrev ch:=@List.getElem_mem
abbrev al:=@List.length_append
abbrev bQ:=@List.length_cons
abbrev cb:=@List.length_drop
abbrev cx:=@List.length_eq_zero_iff
abbrev ij:=@List.length_filter_le
abbrev aV:=@List.length_map
abbrev fY:=@List.length_nil
abbrev i8:=@List.length_reverse
abbrev dj:=@List.length_set
abbrev dC:=@List.length_singleton
abbrev bf:=@List.length_take
abbrev bD:=@List.map_append
abbrev aD:=@List.mem_append
abbrev dh:=@List.mem_cons
abbrev g7:=@List.mem_filter
abbrev dS:=@List.mem_flatMap
abbrev dX:=@List.mem_iff_getElem
abbrev bN:=@List.mem_map
abbrev gm:=@List.mem_of_mem_eraseIdx
abbrev ew:=@List.mem_of_mem_take
abbrev gy:=@List.mem_range
abbrev ba:=@List.mem_singleton
abbrev fZ:=@List.nodup_append
abbrev fj:=@List.not_mem_nil
abbrev iR:=@List.pairwise_iff_getElem
abbrev fe:=@List.take_append_drop
abbrev gL:=@List.take_append_of_le_length
abbrev aO:=@List.take_length
abbrev eB:=@List.take_of_length_le
abbrev cW:=@List.take_succ_eq_append_getElem
abbrev iz:=@List.take_zero
abbrev aR:=@Nat.le_of_ble_eq_true
abbrev aa:=@Nat.le_refl
abbrev aP:=@Nat.le_trans
abbrev bS:=@Nat.lt_of_lt_of_le
abbrev cJ:=@Nat.lt_or_ge
abbrev gx:=@Nat.mod_eq_of_lt
abbrev fO:=@Nat.mod_lt
abbrev iZ:=@Nat.mul_le_mul_left
abbrev eP:=@Nat.mul_le_mul_right
abbrev jJ:=@Nat.mul_one
abbrev da:=@Nat.not_lt_zero
abbrev iQ:=@Nat.sub_self
abbrev cj:=@Nat.zero_add
abbrev aq:=@Nat.zero_le
abbrev bM:=@Go.Proofs.Tryz.func160
abbrev iO:=@Go.Proofs.Tryz.func212
abbrev kQ:=@Go.Proofs.Tryz.ntmps104
abbrev bA:=@Go.Proofs.Tryz.ntmps160
abbrev gZ:=@Go.Proofs.Tryz.ntmps212
abbrev jX:=@Go.Proofs.Tryz.ntmps54
abbrev jW:=@Go.Proofs.Tryz.ntmps94
abbrev jK:=@Go.Proofs.Tryz.results75
abbrev az:=@Go.Proofs.Tryz.underlying108
abbrev eK:=@Go.Proofs.Tryz.underlying123
abbrev am:=@Go.Proofs.Tryz.underlying125
abbrev co:=@Go.Proofs.Tryz.underlying161
abbrev iN:=@Go.Proofs.Tryz.underlying224
abbrev df:=@Go.Proofs.Tryz.underlying23
abbrev ci:=@Go.Proofs.Tryz.underlying25
abbrev jw:=@Go.Proofs.Tryz.underlying27
abbrev cr:=@Go.Proofs.Tryz.underlying42
abbrev aJ:=@Go.Proofs.Tryz.underlying45
abbrev dM:=@Go.Proofs.Tryz.underlying5
abbrev jv:=@Go.Proofs.Tryz.underlying83
abbrev fF:=@Go.Proofs.Tryz.underlying9
abbrev fm:=@UInt8.toNat_lt
abbrev ey:=@Go.World.cell?_alloc_lt
abbrev be:=@Go.World.cell?_of_block
abbrev fh:=@Go.World.cell?_setCell_other
abbrev aQ:=@Go.World.grownBy_alloc
abbrev je:=@Go.World.ownsRow.lt
abbrev aH:=@Go.World.ownsRow_nil
abbrev bL:=@Go.below_regrown
abbrev aL:=@beq_eq_false_iff_ne
abbrev cf:=@beq_iff_eq
abbrev gw:=@beq_self_eq_true
abbrev iY:=@bne_eq_false_iff_eq
abbrev cM:=@bne_iff_ne
abbrev aU:=@Go.bodyPost_ret
abbrev aG:=@Go.cell_of_row
abbrev aj:=@Go.cell_regrown
abbrev aC:=@decide_eq_false
abbrev aW:=@decide_eq_false_iff_not
abbrev aI:=@decide_eq_true
abbrev au:=@decide_eq_true_eq
abbrev aS:=@Go.frozen_of_row
abbrev an:=@Go.heap_alloc_new
abbrev bF:=@Go.heap_setCell_other
abbrev cI:=@Go.heap_setCell_same
abbrev aE:=@if_neg
abbrev aN:=@if_pos
abbrev fl:=@if_true
abbrev bx:=@Go.info_parts
abbrev bG:=@Go.results_cell_row
abbrev ds:=@Go.step_append_lies
abbrev bp:=@Go.wpAnyH_done
abbrev dJ:=@Go.wpAnyH_ready
abbrev cm:=@Go.wpList_append_lies
abbrev bv:=@Go.wpList_append_own
abbrev ik:=@Go.wpList_load_mid
abbrev aY:=@Go.wp_region_held
abbrev bc:=@Go.yieldsIf_load_mid
end Go.Proofs.YtkhmicndehlneaaGreatDoor
