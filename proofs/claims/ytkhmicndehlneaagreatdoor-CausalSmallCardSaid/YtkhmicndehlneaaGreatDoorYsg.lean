/- Part 7 of the walks and plain laws that this claim uses, joined. Conditions: as each theorem states. -/
import Derived.Test.YtkhmicndehlneaaGreatDoorYsc
import Derived.Test.YtkhmicndehlneaaGreatDoorYsf
namespace Go.Proofs.YtkhmicndehlneaaGreatDoor
set_option maxRecDepth 100000
set_option maxHeartbeats 16000000
section
section
open Go.RowKit Go.Lib Go.Sort
set_option linter.unusedVariables false
def sameSt (u v:List Gst):Bool:=decide (u.length=v.length) && allIx u.length (fun i=>(u.getD i .zero).eqb (v.getD i .zero))
theorem sameSt_iff {u v:List Gst}:sameSt u v=true↔u=v:=by
 unfold sameSt
 rw[Bool.and_eq_true,decide_eq_true_eq]
 refine⟨fun ⟨h1,h2⟩=>List.ext_getElem h1 fun i hi hj=> ?_,fun h=>⟨by rw[h],allIx_true fun i _=>by rw[h,Gst.eqb_iff]⟩⟩
 have:=allIx_of h2 i hi
 rw[Gst.eqb_iff,List.getD_eq_getElem?_getD,List.getD_eq_getElem?_getD,List.getElem?_eq_getElem hi,List.getElem?_eq_getElem hj] at this
 exact this
theorem sames_any (A B:Option Addr) (c d:Nat) (u v:List Gst) (S T:Nat→Prop) (w:World) (hl:u.length≤9223372036854775807) (hA:StsS w S A u) (hB:StsS w T B v):
  Calls Tryz.prog 140 #[.slice A u.length c,.slice B v.length d] w fun e w'=>e= .returned (.bool (sameSt u v))∧Below w.heap.size w w':=by
 have HA:=hid hA
 have HB:=hid hB
 obtain⟨n,hn⟩:∃n,n=u.length:=⟨_,rfl⟩
 obtain⟨m,hm⟩:∃m,m=v.length:=⟨_,rfl⟩
 obtain⟨r,hr⟩:∃r,r=sameSt u v:=⟨_,rfl⟩
 rw[←hr]
 rw[←hn] at hl ⊢
 rw[←hm]
 have HN:=hid hn
 have HM:=hid hm
 have HV:=hid hr
 clear hn hm hr hA hB
 by_cases hnm:n=m
 ·subst hnm
  go_enter Tryz.func140,Tryz.ntmps140
  go_wp2
  go_loopw [5] (fun i wr=>∃k:Nat,k≤n∧i= .int .i64 k∧Below w.heap.size w wr∧Hid (∀i,i<k→(u.getD i .zero).eqb (v.getD i .zero)=true)) (fun i _=>n-(RowKit.intOf i).toNat)
  case atStart=>exact⟨0,by omega,rfl,Below.refl _ _,fun i hi=>absurd hi (by omega)⟩
  case round=>
   obtain⟨k,hk,rfl,hBr,HK⟩:=hrel
   by_cases hlt:k<n
   ·obtain⟨ab,ao,rfl,-,hab,c0,c1⟩:=StsS.at_ (RowG.agr HA.out (Agr.below hBr)) (k:=k) (by have:=HN.out;omega)
    obtain⟨bb,bo,rfl,-,hbb,d0,d1⟩:=StsS.at_ (RowG.agr HB.out (Agr.below hBr)) (k:=k) (by have:=HM.out;omega)
    have hx:∃x,x=u.getD k .zero:=⟨_,rfl⟩
    obtain⟨x,hx⟩:=hx
    obtain⟨y,hy⟩:∃y,y=v.getD k .zero:=⟨_,rfl⟩
    rw[←hx] at c0 c1
    rw[←hy] at d0 d1
    cases hxy:x.eqb y with
    | true=>
     have HK2:Hid (∀i,i<k+1→(u.getD i .zero).eqb (v.getD i .zero)=true):=fun i hi=>by
      rcases Nat.lt_or_ge i k with h|h
      ·exact HK.out i h
      ·obtain rfl:i=k:=by omega
       rw[←hx,←hy,hxy]
     clear hx hy
     obtain⟨xt,xr⟩:=x
     obtain⟨yt,yr⟩:=y
     simp only at c0 c1 d0 d1
     have hne:=ne_st xt xr yt yr true hxy
     clear hxy
     go_wp2
     go_quiet (fail)
     go_wp2
     go_roundw
     case rel=>exact⟨k+1,by omega,by go_num,below_dn hBr _,HK2⟩
     case measure=>simp[RowKit.intOf];omega
    | false=>
     have hr:r=false:=by
      rw[HV.out]
      unfold sameSt
      rw[allIx_false (by rw[←HN.out];exact hlt) (by rw[←hx,←hy];exact hxy),Bool.and_false]
     subst hr
     clear hx hy
     obtain⟨xt,xr⟩:=x
     obtain⟨yt,yr⟩:=y
     simp only at c0 c1 d0 d1
     have hne:=ne_st xt xr yt yr false hxy
     clear hxy
     go_wp2
     go_quiet (fail)
     go_wp2
     go_ret
     exact⟨rfl,below_dn hBr _⟩
   ·obtain rfl:k=n:=by omega
    have hr:r=true:=by
     rw[HV.out]
     unfold sameSt
     rw[allIx_true (by rw[←HN.out];exact HK.out),decide_eq_true (by rw[←HN.out,←HM.out]),Bool.and_self]
    subst hr
    go_wp2
    go_ret
    exact⟨rfl,hBr⟩
 ·have t1:((n:Int) != (m:Int))=true:=by rw[bne_iff_ne];omega
  have hr:r=false:=by
   rw[HV.out]
   unfold sameSt
   rw[decide_eq_false (by rw[←HN.out,←HM.out];exact hnm),Bool.false_and]
  subst hr
  go_enter Tryz.func140,Tryz.ntmps140
  go_wp2
  go_ret
  exact⟨rfl,Below.refl _ _⟩
def sameId (u v:List Gid):Bool:=decide (u.length=v.length) && allIx u.length (fun i=>(u.getD i .zero).eqb (v.getD i .zero))
theorem sameId_iff {u v:List Gid}:sameId u v=true↔u=v:=by
 unfold sameId
 rw[Bool.and_eq_true,decide_eq_true_eq]
 refine⟨fun ⟨h1,h2⟩=>List.ext_getElem h1 fun i hi hj=> ?_,fun h=>⟨by rw[h],allIx_true fun i _=>by rw[h,Gid.eqb_iff]⟩⟩
 have:=allIx_of h2 i hi
 rw[Gid.eqb_iff,List.getD_eq_getElem?_getD,List.getD_eq_getElem?_getD,List.getElem?_eq_getElem hi,List.getElem?_eq_getElem hj] at this
 exact this
theorem sameids_any (A B:Option Addr) (c d:Nat) (u v:List Gid) (S T:Nat→Prop) (w:World) (hl:u.length≤9223372036854775807) (hA:IdsS w S A u) (hB:IdsS w T B v):
  Calls Tryz.prog 141 #[.slice A u.length c,.slice B v.length d] w fun e w'=>e= .returned (.bool (sameId u v))∧Below w.heap.size w w':=by
 have HA:=hid hA
 have HB:=hid hB
 obtain⟨n,hn⟩:∃n,n=u.length:=⟨_,rfl⟩
 obtain⟨m,hm⟩:∃m,m=v.length:=⟨_,rfl⟩
 obtain⟨r,hr⟩:∃r,r=sameId u v:=⟨_,rfl⟩
 rw[←hr]
 rw[←hn] at hl ⊢
 rw[←hm]
 have HN:=hid hn
 have HM:=hid hm
 have HV:=hid hr
 clear hn hm hr hA hB
 by_cases hnm:n=m
 ·subst hnm
  go_enter Tryz.func141,Tryz.ntmps141
  go_wp2
  go_loopw [5] (fun i wr=>∃k:Nat,k≤n∧i= .int .i64 k∧Below w.heap.size w wr∧Hid (∀i,i<k→(u.getD i .zero).eqb (v.getD i .zero)=true)) (fun i _=>n-(RowKit.intOf i).toNat)
  case atStart=>exact⟨0,by omega,rfl,Below.refl _ _,fun i hi=>absurd hi (by omega)⟩
  case round=>
   obtain⟨k,hk,rfl,hBr,HK⟩:=hrel
   by_cases hlt:k<n
   ·obtain⟨ab,ao,rfl,-,hab,c0,c1,c2⟩:=IdsS.at_ (RowG.agr HA.out (Agr.below hBr)) (k:=k) (by have:=HN.out;omega)
    obtain⟨bb,bo,rfl,-,hbb,d0,d1,d2⟩:=IdsS.at_ (RowG.agr HB.out (Agr.below hBr)) (k:=k) (by have:=HM.out;omega)
    have hx:∃x,x=u.getD k .zero:=⟨_,rfl⟩
    obtain⟨x,hx⟩:=hx
    obtain⟨y,hy⟩:∃y,y=v.getD k .zero:=⟨_,rfl⟩
    rw[←hx] at c0 c1 c2
    rw[←hy] at d0 d1 d2
    cases hxy:x.eqb y with
    | true=>
     have HK2:Hid (∀i,i<k+1→(u.getD i .zero).eqb (v.getD i .zero)=true):=fun i hi=>by
      rcases Nat.lt_or_ge i k with h|h
      ·exact HK.out i h
      ·obtain rfl:i=k:=by omega
       rw[←hx,←hy,hxy]
     clear hx hy
     obtain⟨⟨xt,xr⟩,xi⟩:=x
     obtain⟨⟨yt,yr⟩,yi⟩:=y
     simp only at c0 c1 c2 d0 d1 d2
     have hne:=ne_id xt xr xi yt yr yi true hxy
     clear hxy
     go_wp2
     go_quiet (fail)
     go_wp2
     go_roundw
     case rel=>exact⟨k+1,by omega,by go_num,below_dn hBr _,HK2⟩
     case measure=>simp[RowKit.intOf];omega
    | false=>
     have hr:r=false:=by
      rw[HV.out]
      unfold sameId
      rw[allIx_false (by rw[←HN.out];exact hlt) (by rw[←hx,←hy];exact hxy),Bool.and_false]
     subst hr
     clear hx hy
     obtain⟨⟨xt,xr⟩,xi⟩:=x
     obtain⟨⟨yt,yr⟩,yi⟩:=y
     simp only at c0 c1 c2 d0 d1 d2
     have hne:=ne_id xt xr xi yt yr yi false hxy
     clear hxy
     go_wp2
     go_quiet (fail)
     go_wp2
     go_ret
     exact⟨rfl,below_dn hBr _⟩
   ·obtain rfl:k=n:=by omega
    have hr:r=true:=by
     rw[HV.out]
     unfold sameId
     rw[allIx_true (by rw[←HN.out];exact HK.out),decide_eq_true (by rw[←HN.out,←HM.out]),Bool.and_self]
    subst hr
    go_wp2
    go_ret
    exact⟨rfl,hBr⟩
 ·have t1:((n:Int) != (m:Int))=true:=by rw[bne_iff_ne];omega
  have hr:r=false:=by
   rw[HV.out]
   unfold sameId
   rw[decide_eq_false (by rw[←HN.out,←HM.out];exact hnm),Bool.false_and]
  subst hr
  go_enter Tryz.func141,Tryz.ntmps141
  go_wp2
  go_ret
  exact⟨rfl,Below.refl _ _⟩
end
section
open Go.RowKit Go.Lib Go.Sort
set_option linter.unusedVariables false
section
variable {P : Program} {ops : Array Oper} {rest : List Oper} {o : Oper} {a : Act} {C : World → Prop}
theorem quiet_load_mid {Q:Act→Prop} (hw:Region.wanted o (yielded ops a.tmps)=true) (ty:TypeId) (x:Operand) (ho:o.op= .load ty x) (b q:Nat) (hx:a.eval x= .pointer (some ⟨b,q,none⟩)) (cs:List Value) (d:TypeDesc) (hC:∀w,C w→w.rangeAt b q cs)
  (hu:P.underlying ty=some d) (hd:d.isRow=true) (hi:(P.info? ty).map (·.size)=some cs.length) (h:wpQuiet P ops C Q rest (a.put o.dst (.agg cs.toArray))):wpQuiet P ops C Q (o::rest) a:=by
 unfold wpQuiet
 rw[if_pos hw]
 refine⟨.agg cs.toArray,fun w hw'=> ?_,h⟩
 unfold Oper.quietAt execOp
 simp only[ho,hx,Instr.loadAt,Instr.sureAddr,Sem.run_bind,Sem.run_pure,Result.andThen_ok,run_loadVar_mid w b q ty cs d (hC w hw') hu hd hi]
 exact⟨rfl,rfl⟩
end
def opL (o:Gop) (x:OpX):List Value:=
 [.int .i64 o.kind,.int .i64 o.node.s.t,.int .i64 o.node.s.r,.int .i64 o.node.i,.int .i64 o.parent.s.t,.int .i64 o.parent.s.r,.int .i64 o.parent.i,.string o.name,.bool o.dir,.slice x.dA o.dots.length x.dc,
  .int .i64 o.after.s.t,.int .i64 o.after.s.r,.int .i64 o.after.i,.int .i64 o.elem.s.t,.int .i64 o.elem.s.r,.int .i64 o.elem.i,.string o.text,.slice x.eA o.elems.length x.ec]
theorem op_range {w:World} {b q:Nat} {o:Gop} {x:OpX} (hc:∀j,j<18→w.cell? ⟨b,q+j,none⟩=some ((opA o x).getD j undef)):w.rangeAt b q (opL o x):=fun j v hv=>by
 have hj:j<18:=by
  have:=(List.getElem?_eq_some_iff.1 hv).1
  exact this
 rw[hc j hj]
 congr 1
 have e:(opA o x).getD j undef=(opL o x).getD j undef:=by
  rw[Array.getD_eq_getD_getElem?,List.getD_eq_getElem?_getD]
  show((opL o x).toArray)[j]?.getD undef=_
  rw[List.getElem?_toArray]
 rw[e,List.getD_eq_getElem?_getD,hv]
 rfl
theorem range_regrown {W:World} {b q:Nat} {cs:List Value} (h:W.rangeAt b q cs):∀w,(∃p:Regrown,w=grow (redrawn W p.d) p.os)→w.rangeAt b q cs:=by
 rintro w ⟨p,rfl⟩ j v hv
 exact cell_regrown (h j v hv) _ _
end
section
open Go.RowKit Go.Lib Go.Sort
set_option linter.unusedVariables false
attribute [local go_sem ↓] Go.wp_at_zero Go.wp_at_succ
def sameOp (a b:Gop):Bool:=decide (a.kind=b.kind) && a.node.eqb b.node && a.parent.eqb b.parent && decide (a.name=b.name) && decide (a.dir=b.dir) && a.after.eqb b.after && a.elem.eqb b.elem && decide (a.text=b.text) && sameSt a.dots b.dots && sameId a.elems b.elems
theorem sameOp_iff {a b:Gop}:sameOp a b=true↔a=b:=by
 obtain⟨a1,a2,a3,a4,a5,a6,a7,a8,a9,a10⟩:=a
 obtain⟨b1,b2,b3,b4,b5,b6,b7,b8,b9,b10⟩:=b
 simp only[sameOp,Bool.and_eq_true,decide_eq_true_eq,Gid.eqb_iff,sameSt_iff,sameId_iff,Gop.mk.injEq]
 constructor
 ·rintro⟨⟨⟨⟨⟨⟨⟨⟨⟨h1,h2⟩,h3⟩,h4⟩,h5⟩,h7⟩,h8⟩,h9⟩,h6⟩,h10⟩
  exact⟨h1,h2,h3,h4,h5,h6,h7,h8,h9,h10⟩
 ·rintro⟨h1,h2,h3,h4,h5,h6,h7,h8,h9,h10⟩
  exact⟨⟨⟨⟨⟨⟨⟨⟨⟨h1,h2⟩,h3⟩,h4⟩,h5⟩,h7⟩,h8⟩,h9⟩,h6⟩,h10⟩
theorem beq_of {α:Type} [DecidableEq α] {a b:α} {v:Bool} (h:decide (a=b)=v):(a == b)=v:=h
theorem beq_str {a b:ByteArray} {v:Bool} (h:decide (a=b)=v):(a.toList == b.toList)=v:=by
 rw[←h,Bool.eq_iff_iff,beq_iff_eq,decide_eq_true_eq,ByteArray.toList_eq,ByteArray.toList_eq]
 exact⟨fun e=>ByteArray.ext (Array.toList_inj.1 e),fun e=>by rw[e]⟩
theorem sameop_any (o1 o2:Gop) (x1 x2:OpX) (S1 S2:Nat→Prop) (w:World) (hI1:OpIn w S1 o1 x1) (hI2:OpIn w S2 o2 x2):
  Calls Tryz.prog 86 #[.agg (opA o1 x1),.agg (opA o2 x2)] w fun e w'=>e= .returned (.bool (sameOp o1 o2))∧Below w.heap.size w w':=by
 obtain⟨kind1,⟨⟨nt1,nr1⟩,ni1⟩,⟨⟨pt1,pr1⟩,pi1⟩,name1,dir1,dots1,⟨⟨at1,ar1⟩,ai1⟩,⟨⟨et1,er1⟩,ei1⟩,text1,elems1⟩:=o1
 obtain⟨kind2,⟨⟨nt2,nr2⟩,ni2⟩,⟨⟨pt2,pr2⟩,pi2⟩,name2,dir2,dots2,⟨⟨at2,ar2⟩,ai2⟩,⟨⟨et2,er2⟩,ei2⟩,text2,elems2⟩:=o2
 obtain⟨xd1,xdc1,xe1,xec1⟩:=x1
 obtain⟨xd2,xdc2,xe2,xec2⟩:=x2
 have hd1:dots1.length≤9223372036854775807:=by have:=hI1.dle;have:=hI1.dmax;unfold maxLen at this;simp only at *;omega
 have he1:elems1.length≤9223372036854775807:=by have:=hI1.ele;have:=hI1.emax;unfold maxLen at this;simp only at *;omega
 obtain⟨b0,h0⟩:∃b,decide (kind1=kind2)=b:=⟨_,rfl⟩
 have q0:=beq_of h0
 obtain⟨b1,h1⟩:∃b,Gid.eqb ⟨⟨nt1,nr1⟩,ni1⟩ ⟨⟨nt2,nr2⟩,ni2⟩=b:=⟨_,rfl⟩
 have q1:=eq_id nt1 nr1 ni1 nt2 nr2 ni2 b1 h1
 obtain⟨b2,h2⟩:∃b,Gid.eqb ⟨⟨pt1,pr1⟩,pi1⟩ ⟨⟨pt2,pr2⟩,pi2⟩=b:=⟨_,rfl⟩
 have q2:=eq_id pt1 pr1 pi1 pt2 pr2 pi2 b2 h2
 obtain⟨b3,h3⟩:∃b,decide (name1=name2)=b:=⟨_,rfl⟩
 have q3:=beq_str h3
 obtain⟨b4,h4⟩:∃b,decide (dir1=dir2)=b:=⟨_,rfl⟩
 have q4:=beq_of h4
 obtain⟨b5,h5⟩:∃b,Gid.eqb ⟨⟨at1,ar1⟩,ai1⟩ ⟨⟨at2,ar2⟩,ai2⟩=b:=⟨_,rfl⟩
 have q5:=eq_id at1 ar1 ai1 at2 ar2 ai2 b5 h5
 obtain⟨b6,h6⟩:∃b,Gid.eqb ⟨⟨et1,er1⟩,ei1⟩ ⟨⟨et2,er2⟩,ei2⟩=b:=⟨_,rfl⟩
 have q6:=eq_id et1 er1 ei1 et2 er2 ei2 b6 h6
 obtain⟨b7,h7⟩:∃b,decide (text1=text2)=b:=⟨_,rfl⟩
 have q7:=beq_str h7
 obtain⟨b8,h8⟩:∃b,b=sameSt dots1 dots2:=⟨_,rfl⟩
 obtain⟨b9,h9⟩:∃b,b=sameId elems1 elems2:=⟨_,rfl⟩
 obtain⟨ans,hans⟩:∃a,a=sameOp ⟨kind1,⟨⟨nt1,nr1⟩,ni1⟩,⟨⟨pt1,pr1⟩,pi1⟩,name1,dir1,dots1,⟨⟨at1,ar1⟩,ai1⟩,⟨⟨et1,er1⟩,ei1⟩,text1,elems1⟩ ⟨kind2,⟨⟨nt2,nr2⟩,ni2⟩,⟨⟨pt2,pr2⟩,pi2⟩,name2,dir2,dots2,⟨⟨at2,ar2⟩,ai2⟩,⟨⟨et2,er2⟩,ei2⟩,text2,elems2⟩:=⟨_,rfl⟩
 rw[←hans]
 have HANS:=hid (show ans=(b0 && b1 && b2 && b3 && b4 && b5 && b6 && b7 && b8 && b9) by rw[hans,←h0,←h1,←h2,←h3,←h4,←h5,←h6,←h7,h8,h9];rfl)
 have hD:∀W,Below w.heap.size w W→Calls Tryz.prog 140 #[.slice xd1 dots1.length xdc1,.slice xd2 dots2.length xdc2] W fun e w'=>e= .returned (.bool b8)∧Below W.heap.size W w':=fun W hB=>by
  rw[h8];exact sames_any xd1 xd2 xdc1 xdc2 dots1 dots2 S1 S2 W hd1 (RowG.agr hI1.dots (Agr.below hB)) (RowG.agr hI2.dots (Agr.below hB))
 have hE:∀W,Below w.heap.size w W→Calls Tryz.prog 141 #[.slice xe1 elems1.length xec1,.slice xe2 elems2.length xec2] W fun e w'=>e= .returned (.bool b9)∧Below W.heap.size W w':=fun W hB=>by
  rw[h9];exact sameids_any xe1 xe2 xec1 xec2 elems1 elems2 S1 S2 W he1 (RowG.agr hI1.elems (Agr.below hB)) (RowG.agr hI2.elems (Agr.below hB))
 have HD:=hid hD
 have HE:=hid hE
 clear hD hE hans h0 h1 h2 h3 h4 h5 h6 h7 h8 h9 hI1 hI2
 have HB2:=hid (show Below w.heap.size w ((w.alloc (.cells #[.int .i64 kind1,.int .i64 nt1,.int .i64 nr1,.int .i64 ni1,.int .i64 pt1,.int .i64 pr1,.int .i64 pi1,.string name1,.bool dir1,.slice xd1 dots1.length xdc1,.int .i64 at1,.int .i64 ar1,.int .i64 ai1,.int .i64 et1,.int .i64 er1,.int .i64 ei1,.string text1,.slice xe1 elems1.length xec1] 125)).alloc (.cells #[.int .i64 kind2,.int .i64 nt2,.int .i64 nr2,.int .i64 ni2,.int .i64 pt2,.int .i64 pr2,.int .i64 pi2,.string name2,.bool dir2,.slice xd2 dots2.length xdc2,.int .i64 at2,.int .i64 ar2,.int .i64 ai2,.int .i64 et2,.int .i64 er2,.int .i64 ei2,.string text2,.slice xe2 elems2.length xec2] 125)) from((Below.refl _ _).alloc (Nat.le_refl _) _).alloc (by simp) _)
 show Calls _ _ #[.agg #[.int .i64 kind1,.int .i64 nt1,.int .i64 nr1,.int .i64 ni1,.int .i64 pt1,.int .i64 pr1,.int .i64 pi1,.string name1,.bool dir1,.slice xd1 dots1.length xdc1,.int .i64 at1,.int .i64 ar1,.int .i64 ai1,.int .i64 et1,.int .i64 er1,.int .i64 ei1,.string text1,.slice xe1 elems1.length xec1],.agg #[.int .i64 kind2,.int .i64 nt2,.int .i64 nr2,.int .i64 ni2,.int .i64 pt2,.int .i64 pr2,.int .i64 pi2,.string name2,.bool dir2,.slice xd2 dots2.length xdc2,.int .i64 at2,.int .i64 ar2,.int .i64 ai2,.int .i64 et2,.int .i64 er2,.int .i64 ei2,.string text2,.slice xe2 elems2.length xec2]] _ _
 go_enter Tryz.func86,Tryz.ntmps86
 go_wp2_with (first
  |(go_at_call 140;refine(HD.out _ HB2.out).mono ?_;rintro e w3 ⟨rfl,hB3⟩;have HB3:=hid (HB2.out.trans (hB3.mono HB2.out.size));have a17:w3.cell? ⟨w.heap.size,17,none⟩=some (.slice xe1 elems1.length xec1):=(hB3.cell (by simp;omega)).trans (by go_simp);have b17:w3.cell? ⟨w.heap.size+1,17,none⟩=some (.slice xe2 elems2.length xec2):=(hB3.cell (by simp)).trans (by go_simp);clear hB3)
  |(go_at_call 141;refine(HE.out _ HB3.out).mono ?_;rintro e w4 ⟨rfl,hB4⟩;have HB4:=hid (HB3.out.trans (hB4.mono HB3.out.size));clear hB4))
 all_goals
  go_ret
  refine⟨ret_bool (by rw[HANS.out];simp[*]),?_⟩
  first|exact HB4.out|exact HB3.out|exact HB2.out
end
section
open Go.RowKit Go.Lib Go.Sort
set_option linter.unusedVariables false
attribute [local go_sem ↓] Go.wp_at_zero Go.wp_at_succ
def sameOps (a b:List Gop):Bool:=decide (a.length=b.length) && allIx a.length (fun i=>sameOp (a.getD i (opO 0 .zero)) (b.getD i (opO 0 .zero)))
theorem sameOps_iff {u v:List Gop}:sameOps u v=true↔u=v:=by
 unfold sameOps
 rw[Bool.and_eq_true,decide_eq_true_eq]
 refine⟨fun ⟨h1,h2⟩=>List.ext_getElem h1 fun i hi hj=> ?_,fun h=>⟨by rw[h],allIx_true fun i _=>by rw[h,sameOp_iff]⟩⟩
 have:=allIx_of h2 i hi
 rw[sameOp_iff,List.getD_eq_getElem?_getD,List.getD_eq_getElem?_getD,List.getElem?_eq_getElem hi,List.getElem?_eq_getElem hj] at this
 exact this
def sameG (a b:Grp):Bool:=a.s.eqb b.s && decide (a.n=b.n) && decide (a.deps=b.deps) && a.u.eqb b.u && sameOps a.ops b.ops
theorem sameG_iff {a b:Grp}:sameG a b=true↔a=b:=by
 obtain⟨a1,a2,a3,a4,a5⟩:=a
 obtain⟨b1,b2,b3,b4,b5⟩:=b
 simp only[sameG,Bool.and_eq_true,decide_eq_true_eq,Gst.eqb_iff,sameOps_iff,Grp.mk.injEq]
 constructor
 ·rintro⟨⟨⟨⟨h1,h2⟩,h3⟩,h4⟩,h5⟩;exact⟨h1,h2,h3,h4,h5⟩
 ·rintro⟨h1,h2,h3,h4,h5⟩;exact⟨⟨⟨⟨h1,h2⟩,h3⟩,h4⟩,h5⟩
theorem sameg_loop (t1 r1 n1:Int) (v1:List Int) (ut1 ur1:Int) (ops1:List Gop) (t2 r2 n2:Int) (v2:List Int) (ut2 ur2:Int) (ops2:List Gop) (dA1 dA2 oA1 oA2:Option Addr) (dc1 dc2 oc1 oc2:Nat) (S1 S2:Nat→Prop) (w:World) (ans:Bool)
  (q0:∀w,(binOp .neq 42 (.agg #[.int .i64 t1,.int .i64 r1]) (.agg #[.int .i64 t2,.int .i64 r2])).run Tryz.prog w= .ok (.bool !true) w) (e1:(n1 != n2)=false)
  (q3:∀w,(binOp .neq 42 (.agg #[.int .i64 ut1,.int .i64 ur1]) (.agg #[.int .i64 ut2,.int .i64 ur2])).run Tryz.prog w= .ok (.bool !true) w) (hv1:v1.length≤9223372036854775807) (ho1:ops1.length≤9223372036854775807) (hl0:ops1.length=ops2.length)
  (hans:ans=allIx ops1.length (fun i=>sameOp (ops1.getD i (opO 0 .zero)) (ops2.getD i (opO 0 .zero))))
  (hD:∀W,Below w.heap.size w W→Calls Tryz.prog 29 #[.slice dA1 v1.length dc1,.slice dA2 v2.length dc2] W fun e w'=>e= .returned (.bool true)∧Below W.heap.size W w') (hI1:OpsS w S1 oA1 ops1) (hI2:OpsS w S2 oA2 ops2):
  Calls Tryz.prog 46 #[.agg #[.int .i64 t1,.int .i64 r1,.int .i64 n1,.slice dA1 v1.length dc1,.int .i64 ut1,.int .i64 ur1,.slice oA1 ops1.length oc1],.agg #[.int .i64 t2,.int .i64 r2,.int .i64 n2,.slice dA2 v2.length dc2,.int .i64 ut2,.int .i64 ur2,.slice oA2 ops2.length oc2]] w fun e w'=>e= .returned (.bool ans)∧Below w.heap.size w w':=by
 have HB2:=hid (show Below w.heap.size w ((w.alloc (.cells #[.int .i64 t1,.int .i64 r1,.int .i64 n1,.slice dA1 v1.length dc1,.int .i64 ut1,.int .i64 ur1,.slice oA1 ops1.length oc1] 45)).alloc (.cells #[.int .i64 t2,.int .i64 r2,.int .i64 n2,.slice dA2 v2.length dc2,.int .i64 ut2,.int .i64 ur2,.slice oA2 ops2.length oc2] 45)) from((Below.refl _ _).alloc (Nat.le_refl _) _).alloc (by simp) _)
 have HC1:=hid ((Below.heap_alloc (w.alloc (.cells #[.int .i64 t1,.int .i64 r1,.int .i64 n1,.slice dA1 v1.length dc1,.int .i64 ut1,.int .i64 ur1,.slice oA1 ops1.length oc1] 45)) (.cells #[.int .i64 t2,.int .i64 r2,.int .i64 n2,.slice dA2 v2.length dc2,.int .i64 ut2,.int .i64 ur2,.slice oA2 ops2.length oc2] 45) w.heap.size (by simp)).trans (heap_alloc_new w _))
 have HC2:=hid (heap_alloc_newC (n:=w.heap.size+1) (w.alloc (.cells #[.int .i64 t1,.int .i64 r1,.int .i64 n1,.slice dA1 v1.length dc1,.int .i64 ut1,.int .i64 ur1,.slice oA1 ops1.length oc1] 45)) (.cells #[.int .i64 t2,.int .i64 r2,.int .i64 n2,.slice dA2 v2.length dc2,.int .i64 ut2,.int .i64 ur2,.slice oA2 ops2.length oc2] 45) (by simp))
 have hl:ops1.length=ops2.length:=hl0
 have e4:((ops1.length:Int) != (ops2.length:Int))=false:=by rw[bne_eq_false_iff_eq,hl]
 have HL:=hid hl
 have HANS:=hid hans
 have HD:=hid hD
 have HI1:=hid hI1
 have HI2:=hid hI2
 clear hl hans hD hI1 hI2 hl0
 go_enter Tryz.func46,Tryz.ntmps46
 go_upto_region 3 with(go_at_call 29;refine(HD.out _ HB2.out).mono ?_;rintro e w3 ⟨rfl,hB3⟩;have HE1:=hid ((hB3.block w.heap.size (by simp;omega)).trans HC1.out);have HE2:=hid ((hB3.block (w.heap.size+1) (by simp)).trans HC2.out);have HB3:=hid (HB2.out.trans (hB3.mono HB2.out.size));clear hB3;have f14:w3.cell? ⟨w.heap.size,4,none⟩=some (.int .i64 ut1):=by { rw[crw HE1.out];rfl };have f15:w3.cell? ⟨w.heap.size,5,none⟩=some (.int .i64 ur1):=by { rw[crw HE1.out];rfl };have f16:w3.cell? ⟨w.heap.size,6,none⟩=some (.slice oA1 ops1.length oc1):=by { rw[crw HE1.out];rfl };have f24:w3.cell? ⟨w.heap.size+1,4,none⟩=some (.int .i64 ut2):=by { rw[crw HE2.out];rfl };have f25:w3.cell? ⟨w.heap.size+1,5,none⟩=some (.int .i64 ur2):=by { rw[crw HE2.out];rfl };have f26:w3.cell? ⟨w.heap.size+1,6,none⟩=some (.slice oA2 ops2.length oc2):=by { rw[crw HE2.out];rfl })
 have hlt3:w.heap.size+1<w3.heap.size:=lt_of_block HE2.out
 obtain⟨X1,hX1,hX1i⟩:=HI1.out
 obtain⟨X2,hX2,hX2i⟩:=HI2.out
 have HX1:=hid hX1
 have HX1i:=hid hX1i
 have HX2:=hid hX2
 have HX2i:=hid hX2i
 clear hX1 hX1i hX2 hX2i q0 q3 e1 e4 f14 f15 f24 f25 f16 f26
 obtain⟨m,hm⟩:∃m,m=ops1.length:=⟨_,rfl⟩
 have HM:=hid hm
 go_upto_region 4 with(fail)
 go_loopw [5] (fun i wr=>∃j:Nat,j≤m∧i= .int .i64 j∧Below w3.heap.size w3 wr∧Hid (∀i,i<j→sameOp (ops1.getD i (opO 0 .zero)) (ops2.getD i (opO 0 .zero))=true)) (fun i _=>m-(RowKit.intOf i).toNat)
 case atStart=>exact⟨0,by omega,rfl,Below.refl _ _,hid (fun i hi=>absurd hi (by omega))⟩
 case round=>
  obtain⟨j,hj,rfl,hBr,HK⟩:=hrel
  have f16:wr.cell? ⟨w.heap.size,6,none⟩=some (.slice oA1 ops1.length oc1):=by rw[crw ((hBr.block w.heap.size (by omega)).trans HE1.out)];rfl
  have f26:wr.cell? ⟨w.heap.size+1,6,none⟩=some (.slice oA2 ops2.length oc2):=by rw[crw ((hBr.block (w.heap.size+1) hlt3).trans HE2.out)];rfl
  have HBw:=hid (HB3.out.trans (hBr.mono HB3.out.size))
  by_cases hlt:j<m
  ·have hj1:j<ops1.length:=by omega
   have hj2:j<ops2.length:=by have:=HL.out;omega
   obtain⟨ab,ao,rfl,-,hab,hc⟩:=(RowG.agr HX1.out (Agr.below HBw.out)) j hj1
   obtain⟨bb,bo,rfl,-,hbb,hd⟩:=(RowG.agr HX2.out (Agr.below HBw.out)) j hj2
   have hi1:=(HX1i.out j hj1).agr (Agr.below HBw.out)
   have hi2:=(HX2i.out j hj2).agr (Agr.below HBw.out)
   obtain⟨o1,ho1⟩:∃o,o=ops1.getD j (opO 0 .zero):=⟨_,rfl⟩
   obtain⟨o2,ho2⟩:∃o,o=ops2.getD j (opO 0 .zero):=⟨_,rfl⟩
   obtain⟨x1,hx1⟩:∃x,x=X1 j:=⟨_,rfl⟩
   obtain⟨x2,hx2⟩:∃x,x=X2 j:=⟨_,rfl⟩
   simp only[←ho1,←hx1] at hc hi1
   simp only[←ho2,←hx2] at hd hi2
   obtain⟨bs,hbs⟩:∃b,b=sameOp o1 o2:=⟨_,rfl⟩
   have HS:=hid (show sameOp (ops1.getD j (opO 0 .zero)) (ops2.getD j (opO 0 .zero))=bs by rw[←ho1,←ho2,hbs])
   have hr1:=range_regrown (op_range hc)
   have hr2:=range_regrown (op_range hd)
   have hl1:(opL o1 x1).length=18:=rfl
   have hl2:(opL o2 x2).length=18:=rfl
   have hsm:∀d os,Calls Tryz.prog 86 #[.agg (opL o1 x1).toArray,.agg (opL o2 x2).toArray] (grow (redrawn wr d) os) fun e w''=>e= .returned (.bool bs)∧Below (grow (redrawn wr d) os).heap.size (grow (redrawn wr d) os) w'':=fun d os=>by
    rw[hbs];exact sameop_any o1 o2 x1 x2 S1 S2 (grow (redrawn wr d) os) (hi1.agr (Agr.below (below_regrown wr d os))) (hi2.agr (Agr.below (below_regrown wr d os)))
   have cS:=fun d os=>Calls.regrown_of (hsm d os)
   clear hsm
   generalize opL o1 x1=k1 at *
   generalize opL o2 x2=k2 at *
   have hn1:(Tryz.prog.info? 125).map (·.size)=some k1.length:=by rw[hl1];kernel_rfl
   have hn2:(Tryz.prog.info? 125).map (·.size)=some k2.length:=by rw[hl2];kernel_rfl
   have HR1:=hid hr1
   have HR2:=hid hr2
   have HN1:=hid hn1
   have HN2:=hid hn2
   clear hr1 hr2 hn1 hn2 hl1 hl2
   have g16:=cell_regrown f16
   have g26:=cell_regrown f26
   clear hc hd hi1 hi2 ho1 ho2 hx1 hx2 hbs
   have i1:(0:Int)≤(j:Int):=by omega
   have i2:(j:Int)<(ops1.length:Int):=by omega
   have i3:(j:Int)<(ops2.length:Int):=by omega
   have i4:j<ops1.length:=hj1
   have i5:j<ops2.length:=hj2
   go_wp2
   refine rqb ?_
   repeat(any_goals(first|(refine quiet_load_mid rfl _ _ rfl ab (ao+j*18) rfl k1 _ HR1.out Tryz.underlying125 rfl HN1.out ?_)|(refine quiet_load_mid rfl _ _ rfl bb (bo+j*18) rfl k2 _ HR2.out Tryz.underlying125 rfl HN2.out ?_)|go_big_quiet_step (with_reducible exact cS _ _)|quiet_step (with_reducible exact cS _ _)))
   refine qz fun wq hBq=> ?_
   cases bs with
   |false=>
    obtain rfl:ans=false:=by rw[HANS.out,allIx_false hj1 HS.out]
    go_wp2
    go_ret
    exact⟨rfl,HBw.out.trans (hBq.mono HBw.out.size)⟩
   |true=>
    have HK2:=hid (show ∀i,i<j+1→sameOp (ops1.getD i (opO 0 .zero)) (ops2.getD i (opO 0 .zero))=true from fun i hi=>if h:i<j then HK.out i h else (by(obtain rfl:i=j:=(by omega));exact HS.out))
    go_wp2
    go_roundw
    case rel=>exact⟨j+1,by omega,by go_num,hBr.trans (hBq.mono hBr.size),HK2⟩
    case measure=>simp[RowKit.intOf];omega
  ·obtain rfl:j=m:=by omega
   obtain rfl:ans=true:=by rw[HANS.out,←HM.out,allIx_true HK.out]
   have i6:¬j<ops1.length:=by omega
   have i7:decide (j<ops1.length)=false:=decide_eq_false i6
   go_wp2
   go_ret
   exact⟨rfl,HBw.out⟩
theorem sameg_any (a b:Grp) (dA1 dA2 oA1 oA2:Option Addr) (dc1 dc2 oc1 oc2:Nat) (S1 S2:Nat→Prop) (w:World) (hI1:GrIn w S1 a dA1 dc1 oA1 oc1) (hI2:GrIn w S2 b dA2 dc2 oA2 oc2):
  Calls Tryz.prog 46 #[.agg (grA a dA1 dc1 oA1 oc1),.agg (grA b dA2 dc2 oA2 oc2)] w fun e w'=>e= .returned (.bool (sameG a b))∧Below w.heap.size w w':=by
 obtain⟨ans,hans⟩:∃r,r=sameG a b:=⟨_,rfl⟩
 rw[←hans]
 obtain⟨⟨t1,r1⟩,n1,v1,⟨ut1,ur1⟩,ops1⟩:=a
 obtain⟨⟨t2,r2⟩,n2,v2,⟨ut2,ur2⟩,ops2⟩:=b
 obtain⟨b0,h0⟩:∃b,Gst.eqb ⟨t1,r1⟩ ⟨t2,r2⟩=b:=⟨_,rfl⟩
 obtain⟨b1,h1⟩:∃b,decide (n1=n2)=b:=⟨_,rfl⟩
 obtain⟨b2,h2⟩:∃b,decide (v1=v2)=b:=⟨_,rfl⟩
 obtain⟨b3,h3⟩:∃b,Gst.eqb ⟨ut1,ur1⟩ ⟨ut2,ur2⟩=b:=⟨_,rfl⟩
 obtain⟨b4,h4⟩:∃b,decide (ops1.length=ops2.length)=b:=⟨_,rfl⟩
 have HANS:=hid (show ans=(b0 && b1 && b2 && b3 && (b4 && allIx ops1.length (fun i=>sameOp (ops1.getD i (opO 0 .zero)) (ops2.getD i (opO 0 .zero))))) by rw[hans,←h0,←h1,←h2,←h3,←h4];rfl)
 have q0:=ne_st t1 r1 t2 r2 b0 h0
 have q3:=ne_st ut1 ur1 ut2 ur2 b3 h3
 have hv1:v1.length≤9223372036854775807:=by have:=hI1.dle;have:=hI1.dmax;unfold maxLen at this;simp only at *;omega
 have ho1:ops1.length≤9223372036854775807:=by have:=hI1.ole;have:=hI1.omax;unfold maxLen at this;simp only at *;omega
 have HD:=hid (show ∀W,Below w.heap.size w W→Calls Tryz.prog 29 #[.slice dA1 v1.length dc1,.slice dA2 v2.length dc2] W fun e w'=>e= .returned (.bool b2)∧Below W.heap.size W w' from fun W hB=>by
  rw[←h2];exact same_any dA1 dA2 dc1 dc2 v1 v2 W hv1 (hI1.deps.vec.below hB) (hI2.deps.vec.below hB))
 have HI1:=hid hI1.ops
 have HI2:=hid hI2.ops
 have H4:=hid h4
 clear h0 h2 h3 hI1 hI2 hans
 show Calls _ _ #[.agg #[.int .i64 t1,.int .i64 r1,.int .i64 n1,.slice dA1 v1.length dc1,.int .i64 ut1,.int .i64 ur1,.slice oA1 ops1.length oc1],.agg #[.int .i64 t2,.int .i64 r2,.int .i64 n2,.slice dA2 v2.length dc2,.int .i64 ut2,.int .i64 ur2,.slice oA2 ops2.length oc2]] _ _
 have HB2:=hid (show Below w.heap.size w ((w.alloc (.cells #[.int .i64 t1,.int .i64 r1,.int .i64 n1,.slice dA1 v1.length dc1,.int .i64 ut1,.int .i64 ur1,.slice oA1 ops1.length oc1] 45)).alloc (.cells #[.int .i64 t2,.int .i64 r2,.int .i64 n2,.slice dA2 v2.length dc2,.int .i64 ut2,.int .i64 ur2,.slice oA2 ops2.length oc2] 45)) from((Below.refl _ _).alloc (Nat.le_refl _) _).alloc (by simp) _)
 have HC1:=hid ((Below.heap_alloc (w.alloc (.cells #[.int .i64 t1,.int .i64 r1,.int .i64 n1,.slice dA1 v1.length dc1,.int .i64 ut1,.int .i64 ur1,.slice oA1 ops1.length oc1] 45)) (.cells #[.int .i64 t2,.int .i64 r2,.int .i64 n2,.slice dA2 v2.length dc2,.int .i64 ut2,.int .i64 ur2,.slice oA2 ops2.length oc2] 45) w.heap.size (by simp)).trans (heap_alloc_new w _))
 have HC2:=hid (heap_alloc_newC (n:=w.heap.size+1) (w.alloc (.cells #[.int .i64 t1,.int .i64 r1,.int .i64 n1,.slice dA1 v1.length dc1,.int .i64 ut1,.int .i64 ur1,.slice oA1 ops1.length oc1] 45)) (.cells #[.int .i64 t2,.int .i64 r2,.int .i64 n2,.slice dA2 v2.length dc2,.int .i64 ut2,.int .i64 ur2,.slice oA2 ops2.length oc2] 45) (by simp))
 cases b0 with
 |false=>
  obtain rfl:ans=false:=by rw[HANS.out];simp
  go_enter Tryz.func46,Tryz.ntmps46
  go_wp2_with (go_at_call 29;refine(HD.out _ HB2.out).mono ?_;rintro e w3 ⟨rfl,hB3⟩;have HE1:=hid ((hB3.block w.heap.size (by simp;omega)).trans HC1.out);have HE2:=hid ((hB3.block (w.heap.size+1) (by simp)).trans HC2.out);have HB3:=hid (HB2.out.trans (hB3.mono HB2.out.size));clear hB3;have f14:w3.cell? ⟨w.heap.size,4,none⟩=some (.int .i64 ut1):=by { rw[crw HE1.out];rfl };have f15:w3.cell? ⟨w.heap.size,5,none⟩=some (.int .i64 ur1):=by { rw[crw HE1.out];rfl };have f16:w3.cell? ⟨w.heap.size,6,none⟩=some (.slice oA1 ops1.length oc1):=by { rw[crw HE1.out];rfl };have f24:w3.cell? ⟨w.heap.size+1,4,none⟩=some (.int .i64 ut2):=by { rw[crw HE2.out];rfl };have f25:w3.cell? ⟨w.heap.size+1,5,none⟩=some (.int .i64 ur2):=by { rw[crw HE2.out];rfl };have f26:w3.cell? ⟨w.heap.size+1,6,none⟩=some (.slice oA2 ops2.length oc2):=by { rw[crw HE2.out];rfl })
  go_ret
  exact⟨rfl,HB2.out⟩
 |true=>
 cases b1 with
 |false=>
  have e1:(n1 != n2)=true:=by rw[bne_iff_ne];exact of_decide_eq_false h1
  clear h1
  obtain rfl:ans=false:=by rw[HANS.out];simp
  go_enter Tryz.func46,Tryz.ntmps46
  go_wp2_with (go_at_call 29;refine(HD.out _ HB2.out).mono ?_;rintro e w3 ⟨rfl,hB3⟩;have HE1:=hid ((hB3.block w.heap.size (by simp;omega)).trans HC1.out);have HE2:=hid ((hB3.block (w.heap.size+1) (by simp)).trans HC2.out);have HB3:=hid (HB2.out.trans (hB3.mono HB2.out.size));clear hB3;have f14:w3.cell? ⟨w.heap.size,4,none⟩=some (.int .i64 ut1):=by { rw[crw HE1.out];rfl };have f15:w3.cell? ⟨w.heap.size,5,none⟩=some (.int .i64 ur1):=by { rw[crw HE1.out];rfl };have f16:w3.cell? ⟨w.heap.size,6,none⟩=some (.slice oA1 ops1.length oc1):=by { rw[crw HE1.out];rfl };have f24:w3.cell? ⟨w.heap.size+1,4,none⟩=some (.int .i64 ut2):=by { rw[crw HE2.out];rfl };have f25:w3.cell? ⟨w.heap.size+1,5,none⟩=some (.int .i64 ur2):=by { rw[crw HE2.out];rfl };have f26:w3.cell? ⟨w.heap.size+1,6,none⟩=some (.slice oA2 ops2.length oc2):=by { rw[crw HE2.out];rfl })
  go_ret
  exact⟨rfl,HB2.out⟩
 |true=>
 have e1:(n1 != n2)=false:=by rw[bne_eq_false_iff_eq];exact of_decide_eq_true h1
 clear h1
 cases b2 with
 |false=>
  obtain rfl:ans=false:=by rw[HANS.out];simp
  go_enter Tryz.func46,Tryz.ntmps46
  go_wp2_with (go_at_call 29;refine(HD.out _ HB2.out).mono ?_;rintro e w3 ⟨rfl,hB3⟩;have HE1:=hid ((hB3.block w.heap.size (by simp;omega)).trans HC1.out);have HE2:=hid ((hB3.block (w.heap.size+1) (by simp)).trans HC2.out);have HB3:=hid (HB2.out.trans (hB3.mono HB2.out.size));clear hB3;have f14:w3.cell? ⟨w.heap.size,4,none⟩=some (.int .i64 ut1):=by { rw[crw HE1.out];rfl };have f15:w3.cell? ⟨w.heap.size,5,none⟩=some (.int .i64 ur1):=by { rw[crw HE1.out];rfl };have f16:w3.cell? ⟨w.heap.size,6,none⟩=some (.slice oA1 ops1.length oc1):=by { rw[crw HE1.out];rfl };have f24:w3.cell? ⟨w.heap.size+1,4,none⟩=some (.int .i64 ut2):=by { rw[crw HE2.out];rfl };have f25:w3.cell? ⟨w.heap.size+1,5,none⟩=some (.int .i64 ur2):=by { rw[crw HE2.out];rfl };have f26:w3.cell? ⟨w.heap.size+1,6,none⟩=some (.slice oA2 ops2.length oc2):=by { rw[crw HE2.out];rfl })
  go_ret
  exact⟨rfl,HB3.out⟩
 |true=>
 cases b3 with
 |false=>
  obtain rfl:ans=false:=by rw[HANS.out];simp
  go_enter Tryz.func46,Tryz.ntmps46
  go_wp2_with (go_at_call 29;refine(HD.out _ HB2.out).mono ?_;rintro e w3 ⟨rfl,hB3⟩;have HE1:=hid ((hB3.block w.heap.size (by simp;omega)).trans HC1.out);have HE2:=hid ((hB3.block (w.heap.size+1) (by simp)).trans HC2.out);have HB3:=hid (HB2.out.trans (hB3.mono HB2.out.size));clear hB3;have f14:w3.cell? ⟨w.heap.size,4,none⟩=some (.int .i64 ut1):=by { rw[crw HE1.out];rfl };have f15:w3.cell? ⟨w.heap.size,5,none⟩=some (.int .i64 ur1):=by { rw[crw HE1.out];rfl };have f16:w3.cell? ⟨w.heap.size,6,none⟩=some (.slice oA1 ops1.length oc1):=by { rw[crw HE1.out];rfl };have f24:w3.cell? ⟨w.heap.size+1,4,none⟩=some (.int .i64 ut2):=by { rw[crw HE2.out];rfl };have f25:w3.cell? ⟨w.heap.size+1,5,none⟩=some (.int .i64 ur2):=by { rw[crw HE2.out];rfl };have f26:w3.cell? ⟨w.heap.size+1,6,none⟩=some (.slice oA2 ops2.length oc2):=by { rw[crw HE2.out];rfl })
  go_ret
  exact⟨rfl,HB3.out⟩
 |true=>
 cases b4 with
 |false=>
  have e4:((ops1.length:Int) != (ops2.length:Int))=true:=by rw[bne_iff_ne];have:=of_decide_eq_false h4;omega
  clear h4
  obtain rfl:ans=false:=by rw[HANS.out];simp
  go_enter Tryz.func46,Tryz.ntmps46
  go_wp2_with (go_at_call 29;refine(HD.out _ HB2.out).mono ?_;rintro e w3 ⟨rfl,hB3⟩;have HE1:=hid ((hB3.block w.heap.size (by simp;omega)).trans HC1.out);have HE2:=hid ((hB3.block (w.heap.size+1) (by simp)).trans HC2.out);have HB3:=hid (HB2.out.trans (hB3.mono HB2.out.size));clear hB3;have f14:w3.cell? ⟨w.heap.size,4,none⟩=some (.int .i64 ut1):=by { rw[crw HE1.out];rfl };have f15:w3.cell? ⟨w.heap.size,5,none⟩=some (.int .i64 ur1):=by { rw[crw HE1.out];rfl };have f16:w3.cell? ⟨w.heap.size,6,none⟩=some (.slice oA1 ops1.length oc1):=by { rw[crw HE1.out];rfl };have f24:w3.cell? ⟨w.heap.size+1,4,none⟩=some (.int .i64 ut2):=by { rw[crw HE2.out];rfl };have f25:w3.cell? ⟨w.heap.size+1,5,none⟩=some (.int .i64 ur2):=by { rw[crw HE2.out];rfl };have f26:w3.cell? ⟨w.heap.size+1,6,none⟩=some (.slice oA2 ops2.length oc2):=by { rw[crw HE2.out];rfl })
  go_ret
  exact⟨rfl,HB3.out⟩
 |true=>
  exact sameg_loop t1 r1 n1 v1 ut1 ur1 ops1 t2 r2 n2 v2 ut2 ur2 ops2 dA1 dA2 oA1 oA2 dc1 dc2 oc1 oc2 S1 S2 w ans q0 e1 q3 hv1 ho1 (of_decide_eq_true h4) (by rw[HANS.out];rfl) HD.out HI1.out HI2.out
end
end
end Go.Proofs.YtkhmicndehlneaaGreatDoor
