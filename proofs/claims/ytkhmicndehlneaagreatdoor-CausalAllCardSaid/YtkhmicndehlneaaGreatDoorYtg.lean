/- Part 7 of the walks and plain laws that this claim uses, joined. Conditions: as each theorem states. -/
import Derived.Test.YtkhmicndehlneaaGreatDoorShelf
import Derived.Test.YtkhmicndehlneaaGreatDoorYtd
import Derived.Test.YtkhmicndehlneaaGreatDoorYte
import Derived.Test.YtkhmicndehlneaaGreatDoorYtf
namespace Go.Proofs.YtkhmicndehlneaaGreatDoor
set_option maxRecDepth 100000
set_option maxHeartbeats 16000000
section
section
open Go.RowKit Go.Lib Go.Sort
set_option linter.unusedVariables false
section
variable {P : Program} {ops : Array Oper} {rest : List Oper} {o : Oper} {a : Act} {C : World → Prop}
theorem quiet_load_mid {Q:Act→Prop} (hw:Region.wanted o (yielded ops a.tmps)=true) (ty:TypeId) (x:Operand) (ho:o.op= .load ty x) (b q:Nat) (hx:a.eval x= .pointer (some ⟨b,q,none⟩)) (cs:List Value) (d:TypeDesc) (hC:∀w,C w→w.rangeAt b q cs)
  (hu:P.underlying ty=some d) (hd:d.isRow=true) (hi:(P.info? ty).map (·.size)=some cs.length) (h:wpQuiet P ops C Q rest (a.put o.dst (.agg cs.toArray))):wpQuiet P ops C Q (o::rest) a:=by
 unfold wpQuiet
 rw[if_pos hw]
 refine⟨.agg cs.toArray,fun w hw'=> ?_,h⟩
 unfold Oper.quietAt execOp
 simp only[ho,hx,Instr.loadAt,Instr.sureAddr,Sem.run_bind,Sem.run_pure,Result.andThen_ok,run_loadVar_mid w b q ty cs d (hC w hw') hu hd hi]
 exact⟨rfl,rfl⟩
end
def opL (o:Gop) (x:OpX):List Value:=
 [.int .i64 o.kind,.int .i64 o.node.s.t,.int .i64 o.node.s.r,.int .i64 o.node.i,.int .i64 o.parent.s.t,.int .i64 o.parent.s.r,.int .i64 o.parent.i,.string o.name,.bool o.dir,.slice x.dA o.dots.length x.dc,
  .int .i64 o.after.s.t,.int .i64 o.after.s.r,.int .i64 o.after.i,.int .i64 o.elem.s.t,.int .i64 o.elem.s.r,.int .i64 o.elem.i,.string o.text,.slice x.eA o.elems.length x.ec]
theorem op_range {w:World} {b q:Nat} {o:Gop} {x:OpX} (hc:∀j,j<18→w.cell? ⟨b,q+j,none⟩=some ((opA o x).getD j undef)):w.rangeAt b q (opL o x):=fun j v hv=>by
 have hj:j<18:=by
  have:=(List.getElem?_eq_some_iff.1 hv).1
  exact this
 rw[hc j hj]
 congr 1
 have e:(opA o x).getD j undef=(opL o x).getD j undef:=by
  rw[Array.getD_eq_getD_getElem?,List.getD_eq_getElem?_getD]
  show((opL o x).toArray)[j]?.getD undef=_
  rw[List.getElem?_toArray]
 rw[e,List.getD_eq_getElem?_getD,hv]
 rfl
theorem range_regrown {W:World} {b q:Nat} {cs:List Value} (h:W.rangeAt b q cs):∀w,(∃p:Regrown,w=grow (redrawn W p.d) p.os)→w.rangeAt b q cs:=by
 rintro w ⟨p,rfl⟩ j v hv
 exact cell_regrown (h j v hv) _ _
end
section
open Go.RowKit Go.Lib Go.Sort
set_option linter.unusedVariables false
attribute [local go_sem ↓] Go.wp_at_zero Go.wp_at_succ
theorem beq_str {a b:ByteArray} {v:Bool} (h:decide (a=b)=v):(a.toList == b.toList)=v:=by
 rw[←h,Bool.eq_iff_iff,beq_iff_eq,decide_eq_true_eq,ByteArray.toList_eq,ByteArray.toList_eq]
 exact⟨fun e=>ByteArray.ext (Array.toList_inj.1 e),fun e=>by rw[e]⟩
end
end
section
open Go.RowKit Go.Lib Go.Sort
set_option linter.unusedVariables false
attribute [local go_sem ↓] Go.wp_at_zero Go.wp_at_succ
def v9refV (g:Gst) (o:Gop) (k:Nat):Int:=if (kindB g o k && bareB o)=true then (moreOf o:Int) else -1
theorem v9refV_no {g:Gst} {o:Gop} {k:Nat} (h:(kindB g o k && bareB o)=false):v9refV g o k= -1:=by unfold v9refV;rw[h];rfl
theorem v9refV_yes {g:Gst} {o:Gop} {k:Nat} (h:(kindB g o k && bareB o)=true):v9refV g o k=(moreOf o:Int):=by unfold v9refV;rw[h];rfl
theorem v9row_range {W:World} {b:Nat} {T:TypeId} {cs:List Value} (h:W.heap[b]? =some (.cells cs.toArray T (0,0))):W.rangeAt b 0 cs:=fun j v hv=>by
 rw[Nat.zero_add,cell_of_row _ _ _ _ _ _ h]
 simpa using hv
theorem vop_0 (gt gr:Int) (n':Int) (dA':Option Addr) (dn' dc':Nat) (ut ur:Int) (oA:Option Addr) (on oc:Nat) (k:Nat) (nt nr ni pt pr pi:Int) (name:ByteArray) (dir:Bool) (dots:List Gst) (at_ ar ai et er ei:Int) (text:ByteArray) (elems:List Gid) (dA:Option Addr) (dc:Nat) (eA:Option Addr) (ec:Nat) (S:Nat→Prop) (w:World) (hn:name.size≤9223372036854775807) (hdl:dots.length≤9223372036854775807) (hel:elems.length≤9223372036854775807) (hD:StsS w S dA dots) (hE:IdsS w S eA elems) (hvt:(kindB ⟨gt,gr⟩ (⟨0,⟨⟨nt,nr⟩,ni⟩,⟨⟨pt,pr⟩,pi⟩,name,dir,dots,⟨⟨at_,ar⟩,ai⟩,⟨⟨et,er⟩,ei⟩,text,elems⟩:Gop) k && bareB (⟨0,⟨⟨nt,nr⟩,ni⟩,⟨⟨pt,pr⟩,pi⟩,name,dir,dots,⟨⟨at_,ar⟩,ai⟩,⟨⟨et,er⟩,ei⟩,text,elems⟩:Gop))=true):
  Calls Tryz.prog 104 #[.agg #[.int .i64 gt,.int .i64 gr,.int .i64 n',.slice dA' dn' dc',.int .i64 ut,.int .i64 ur,.slice oA on oc],.agg #[.int .i64 0,.int .i64 nt,.int .i64 nr,.int .i64 ni,.int .i64 pt,.int .i64 pr,.int .i64 pi,.string name,.bool dir,.slice dA dots.length dc,.int .i64 at_,.int .i64 ar,.int .i64 ai,.int .i64 et,.int .i64 er,.int .i64 ei,.string text,.slice eA elems.length ec],.int .i64 k] w fun e w'=>e= .returned (.int .i64 (v9refV ⟨gt,gr⟩ (⟨0,⟨⟨nt,nr⟩,ni⟩,⟨⟨pt,pr⟩,pi⟩,name,dir,dots,⟨⟨at_,ar⟩,ai⟩,⟨⟨et,er⟩,ei⟩,text,elems⟩:Gop) k))∧Below w.heap.size w w':=by
 obtain⟨ans,hans⟩:∃v,v=v9refV ⟨gt,gr⟩ (⟨0,⟨⟨nt,nr⟩,ni⟩,⟨⟨pt,pr⟩,pi⟩,name,dir,dots,⟨⟨at_,ar⟩,ai⟩,⟨⟨et,er⟩,ei⟩,text,elems⟩:Gop) k:=⟨_,rfl⟩
 rw[←hans]
 have HVT:=hid (show ans≠ -1 from by rw[hans,v9refV_yes hvt];omega)
 have hbt:bareB (⟨0,⟨⟨nt,nr⟩,ni⟩,⟨⟨pt,pr⟩,pi⟩,name,dir,dots,⟨⟨at_,ar⟩,ai⟩,⟨⟨et,er⟩,ei⟩,text,elems⟩:Gop)=true:=(Bool.and_eq_true_iff.1 hvt).2
 obtain⟨bb,hbb⟩:∃b,b=bareB (⟨0,⟨⟨nt,nr⟩,ni⟩,⟨⟨pt,pr⟩,pi⟩,name,dir,dots,⟨⟨at_,ar⟩,ai⟩,⟨⟨et,er⟩,ei⟩,text,elems⟩:Gop):=⟨_,rfl⟩
 have HBB:=hid hbb
 have HBA:=hid (show ∀W,Calls Tryz.prog 160 #[.agg #[.int .i64 0,.int .i64 nt,.int .i64 nr,.int .i64 ni,.int .i64 pt,.int .i64 pr,.int .i64 pi,.string name,.bool dir,.slice dA dots.length dc,.int .i64 at_,.int .i64 ar,.int .i64 ai,.int .i64 et,.int .i64 er,.int .i64 ei,.string text,.slice eA elems.length ec],.bool true,.bool true,.bool false,.bool false,.bool false] W fun e w'=>e= .returned (.bool bb)∧Below W.heap.size W w' from fun W=>by
  refine(vbare_0 0 nt nr ni pt pr pi name dir dA dots.length dc at_ ar ai et er ei text eA elems.length ec W (Eq.trans (b:=bareB (⟨0,⟨⟨nt,nr⟩,ni⟩,⟨⟨pt,pr⟩,pi⟩,name,dir,dots,⟨⟨at_,ar⟩,ai⟩,⟨⟨et,er⟩,ei⟩,text,elems⟩:Gop)) (by simp[bareB,Bool.and_assoc]) hbt)).mono ?_
  rintro e w' ⟨rfl,hB⟩
  refine⟨?_,hB⟩
  congr 2
  rw[hbb]
  simp[bareB,Bool.and_assoc])
 have HK:Hid (kindB ⟨gt,gr⟩ (⟨0,⟨⟨nt,nr⟩,ni⟩,⟨⟨pt,pr⟩,pi⟩,name,dir,dots,⟨⟨at_,ar⟩,ai⟩,⟨⟨et,er⟩,ei⟩,text,elems⟩:Gop) k=(Gid.eqb ⟨⟨nt,nr⟩,ni⟩ ⟨⟨gt,gr⟩,(k:Int)⟩ && parentB ⟨gt,gr⟩ ⟨⟨pt,pr⟩,pi⟩ k && nameB name)):=hid (by simp[kindB])
 have HMO:Hid ((moreOf (⟨0,⟨⟨nt,nr⟩,ni⟩,⟨⟨pt,pr⟩,pi⟩,name,dir,dots,⟨⟨at_,ar⟩,ai⟩,⟨⟨et,er⟩,ei⟩,text,elems⟩:Gop):Int)=1):=hid (by simp[moreOf])
 have HANS:=hid hans
 clear hvt hbt hans hbb
 go_enter Tryz.func104,Tryz.ntmps104
 go_upto_region 2 with fail
 generalize hW:(((w.alloc (.cells #[.int .i64 gt,.int .i64 gr,.int .i64 n',.slice dA' dn' dc',.int .i64 ut,.int .i64 ur,.slice oA on oc] 45)).alloc (.cells #[.int .i64 0,.int .i64 nt,.int .i64 nr,.int .i64 ni,.int .i64 pt,.int .i64 pr,.int .i64 pi,.string name,.bool dir,.slice dA dots.length dc,.int .i64 at_,.int .i64 ar,.int .i64 ai,.int .i64 et,.int .i64 er,.int .i64 ei,.string text,.slice eA elems.length ec] 125)).alloc (.cells #[.int .i64 gt,.int .i64 gr,.int .i64 k] 108))=W
 have HG:=hid (show W.heap[w.heap.size]? =some (.cells #[.int .i64 gt,.int .i64 gr,.int .i64 n',.slice dA' dn' dc',.int .i64 ut,.int .i64 ur,.slice oA on oc] 45 (0,0)) by rw[←hW];exact(Below.heap_alloc _ _ _ (by simp;omega)).trans ((Below.heap_alloc _ _ _ (by simp)).trans (heap_alloc_new _ _)))
 have HO:=hid (show W.heap[w.heap.size+1]? =some (.cells #[.int .i64 0,.int .i64 nt,.int .i64 nr,.int .i64 ni,.int .i64 pt,.int .i64 pr,.int .i64 pi,.string name,.bool dir,.slice dA dots.length dc,.int .i64 at_,.int .i64 ar,.int .i64 ai,.int .i64 et,.int .i64 er,.int .i64 ei,.string text,.slice eA elems.length ec] 125 (0,0)) by rw[←hW];exact(Below.heap_alloc _ _ _ (by simp)).trans (heap_alloc_new' _ _ (by simp)))
 have HJ:=hid (show W.heap[w.heap.size+2]? =some (.cells #[.int .i64 gt,.int .i64 gr,.int .i64 k] 108 (0,0)) by rw[←hW];exact heap_alloc_new' _ _ (by simp))
 have HBW:=hid (show Below w.heap.size w W by rw[←hW];exact(((Below.refl _ _).alloc (Nat.le_refl _) _).alloc (by simp) _).alloc (by simp;omega) _)
 clear hW
 have r0:=cw0 HO.out
 go_upto_region 4 with fail
 clear r0
 have hBW0:=HBW.out
 have x1:=rg1 HO.out
 have x2:=rg2 HO.out
 have x3:=rg3 HO.out
 have x4:=rg4 HO.out
 have x5:=rg5 HO.out
 have x6:=rg6 HO.out
 have x7:=rg7 HO.out
 have y0:=rg0 HG.out
 have y1:=rg1 HG.out
 have y2:=rg2 HG.out
 have y3:=rg3 HG.out
 have y4:=rg4 HG.out
 have y5:=rg5 HG.out
 have y6:=rg6 HG.out
 have z0:=rg0 HJ.out
 have z1:=rg1 HJ.out
 have z2:=rg2 HJ.out
 obtain⟨opl,hol⟩:∃l:List Value,l=[.int .i64 0,.int .i64 nt,.int .i64 nr,.int .i64 ni,.int .i64 pt,.int .i64 pr,.int .i64 pi,.string name,.bool dir,.slice dA dots.length dc,.int .i64 at_,.int .i64 ar,.int .i64 ai,.int .i64 et,.int .i64 er,.int .i64 ei,.string text,.slice eA elems.length ec]:=⟨_,rfl⟩
 have HOL:=hid hol
 have HRR:=hid (range_regrown (show W.rangeAt (w.heap.size+1) 0 opl by rw[hol];exact v9row_range HO.out))
 have HNL:=hid (show(Tryz.prog.info? 125).map (·.size)=some opl.length by rw[hol];kernel_rfl)
 clear hol
 have cP:=fun d os=>Calls.regrown_of (refparent_any ⟨gt,gr⟩ ⟨n',dA',dn',dc',ut,ur,oA,on,oc⟩ ⟨⟨pt,pr⟩,pi⟩ k (grow (redrawn W d) os))
 have cN:=fun d os=>Calls.regrown_same (refname_any name (grow (redrawn W d) os) hn)
 have cB:=fun d os=>Calls.regrown_of (HBA.out (grow (redrawn W d) os))
 simp only[gxV,idV] at cP
 clear hBW0 hD hE HBA hn hdl hel HG HO HJ
 cases h0:Gid.eqb ⟨⟨nt,nr⟩,ni⟩ ⟨⟨gt,gr⟩,(k:Int)⟩ with
 |false=>
  have he:=eq_id nt nr ni gt gr k false h0
  obtain rfl:ans= -1:=by rw[HANS.out];exact v9refV_no (by rw[HK.out,h0];simp)
  exact absurd rfl HVT.out
 | true=>
  have he:=eq_id nt nr ni gt gr k true h0
  have H0:=hid h0
  clear h0
  cases h1:parentB ⟨gt,gr⟩ ⟨⟨pt,pr⟩,pi⟩ k with
  |false=>
   rw[h1] at cP
   obtain rfl:ans= -1:=by rw[HANS.out];exact v9refV_no (by rw[HK.out,H0.out,h1];simp)
   exact absurd rfl HVT.out
  | true=>
   rw[h1] at cP
   have H1:=hid h1
   clear h1
   cases h2:nameB name with
   |false=>
    rw[h2] at cN
    obtain rfl:ans= -1:=by rw[HANS.out];exact v9refV_no (by rw[HK.out,H0.out,H1.out,h2];simp)
    exact absurd rfl HVT.out
   | true=>
    rw[h2] at cN
    have H2:=hid h2
    clear h2
    cases bb with
    |false=>
     obtain rfl:ans= -1:=by rw[HANS.out];exact v9refV_no (by rw[←HBB.out];simp)
     exact absurd rfl HVT.out
    |true=>
     obtain rfl:ans=1:=by rw[HANS.out,v9refV_yes (by rw[←HBB.out,HK.out,H0.out,H1.out,H2.out];simp),HMO.out]
     refine wp_plain_quiet_below ?_
     repeat(any_goals(first|(refine quiet_load_mid rfl _ _ rfl (w.heap.size+1) 0 rfl opl _ HRR.out Tryz.underlying125 rfl HNL.out ?_;rw[HOL.out])|go_big_quiet_step (first|with_reducible exact cP _ _|with_reducible exact cN _ _|with_reducible exact cB _ _)|quiet_step (first|with_reducible exact cP _ _|with_reducible exact cN _ _|with_reducible exact cB _ _)))
     refine qz fun wq hBq=> ?_
     go_wp2
     go_ret
     exact⟨rfl,HBW.out.trans (hBq.mono HBW.out.size)⟩
theorem vop_1 (gt gr:Int) (n':Int) (dA':Option Addr) (dn' dc':Nat) (ut ur:Int) (oA:Option Addr) (on oc:Nat) (k:Nat) (nt nr ni pt pr pi:Int) (name:ByteArray) (dir:Bool) (dots:List Gst) (at_ ar ai et er ei:Int) (text:ByteArray) (elems:List Gid) (dA:Option Addr) (dc:Nat) (eA:Option Addr) (ec:Nat) (S:Nat→Prop) (w:World) (hn:name.size≤9223372036854775807) (hdl:dots.length≤9223372036854775807) (hel:elems.length≤9223372036854775807) (hD:StsS w S dA dots) (hE:IdsS w S eA elems) (hvt:(kindB ⟨gt,gr⟩ (⟨1,⟨⟨nt,nr⟩,ni⟩,⟨⟨pt,pr⟩,pi⟩,name,dir,dots,⟨⟨at_,ar⟩,ai⟩,⟨⟨et,er⟩,ei⟩,text,elems⟩:Gop) k && bareB (⟨1,⟨⟨nt,nr⟩,ni⟩,⟨⟨pt,pr⟩,pi⟩,name,dir,dots,⟨⟨at_,ar⟩,ai⟩,⟨⟨et,er⟩,ei⟩,text,elems⟩:Gop))=true):
  Calls Tryz.prog 104 #[.agg #[.int .i64 gt,.int .i64 gr,.int .i64 n',.slice dA' dn' dc',.int .i64 ut,.int .i64 ur,.slice oA on oc],.agg #[.int .i64 1,.int .i64 nt,.int .i64 nr,.int .i64 ni,.int .i64 pt,.int .i64 pr,.int .i64 pi,.string name,.bool dir,.slice dA dots.length dc,.int .i64 at_,.int .i64 ar,.int .i64 ai,.int .i64 et,.int .i64 er,.int .i64 ei,.string text,.slice eA elems.length ec],.int .i64 k] w fun e w'=>e= .returned (.int .i64 (v9refV ⟨gt,gr⟩ (⟨1,⟨⟨nt,nr⟩,ni⟩,⟨⟨pt,pr⟩,pi⟩,name,dir,dots,⟨⟨at_,ar⟩,ai⟩,⟨⟨et,er⟩,ei⟩,text,elems⟩:Gop) k))∧Below w.heap.size w w':=by
 obtain⟨ans,hans⟩:∃v,v=v9refV ⟨gt,gr⟩ (⟨1,⟨⟨nt,nr⟩,ni⟩,⟨⟨pt,pr⟩,pi⟩,name,dir,dots,⟨⟨at_,ar⟩,ai⟩,⟨⟨et,er⟩,ei⟩,text,elems⟩:Gop) k:=⟨_,rfl⟩
 rw[←hans]
 have HVT:=hid (show ans≠ -1 from by rw[hans,v9refV_yes hvt];omega)
 have hbt:bareB (⟨1,⟨⟨nt,nr⟩,ni⟩,⟨⟨pt,pr⟩,pi⟩,name,dir,dots,⟨⟨at_,ar⟩,ai⟩,⟨⟨et,er⟩,ei⟩,text,elems⟩:Gop)=true:=(Bool.and_eq_true_iff.1 hvt).2
 obtain⟨bb,hbb⟩:∃b,b=bareB (⟨1,⟨⟨nt,nr⟩,ni⟩,⟨⟨pt,pr⟩,pi⟩,name,dir,dots,⟨⟨at_,ar⟩,ai⟩,⟨⟨et,er⟩,ei⟩,text,elems⟩:Gop):=⟨_,rfl⟩
 have HBB:=hid hbb
 have HBA:=hid (show ∀W,Calls Tryz.prog 160 #[.agg #[.int .i64 1,.int .i64 nt,.int .i64 nr,.int .i64 ni,.int .i64 pt,.int .i64 pr,.int .i64 pi,.string name,.bool dir,.slice dA dots.length dc,.int .i64 at_,.int .i64 ar,.int .i64 ai,.int .i64 et,.int .i64 er,.int .i64 ei,.string text,.slice eA elems.length ec],.bool true,.bool false,.bool false,.bool false,.bool false] W fun e w'=>e= .returned (.bool bb)∧Below W.heap.size W w' from fun W=>by
  refine(vbare_1 1 nt nr ni pt pr pi name dir dA dots.length dc at_ ar ai et er ei text eA elems.length ec W (Eq.trans (b:=bareB (⟨1,⟨⟨nt,nr⟩,ni⟩,⟨⟨pt,pr⟩,pi⟩,name,dir,dots,⟨⟨at_,ar⟩,ai⟩,⟨⟨et,er⟩,ei⟩,text,elems⟩:Gop)) (by simp[bareB,Bool.and_assoc]) hbt)).mono ?_
  rintro e w' ⟨rfl,hB⟩
  refine⟨?_,hB⟩
  congr 2
  rw[hbb]
  simp[bareB,Bool.and_assoc])
 have HK:Hid (kindB ⟨gt,gr⟩ (⟨1,⟨⟨nt,nr⟩,ni⟩,⟨⟨pt,pr⟩,pi⟩,name,dir,dots,⟨⟨at_,ar⟩,ai⟩,⟨⟨et,er⟩,ei⟩,text,elems⟩:Gop) k=(aheadB ⟨gt,gr⟩ ⟨⟨nt,nr⟩,ni⟩ k && parentB ⟨gt,gr⟩ ⟨⟨pt,pr⟩,pi⟩ k && nameB name)):=hid (by simp[kindB])
 have HMO:Hid ((moreOf (⟨1,⟨⟨nt,nr⟩,ni⟩,⟨⟨pt,pr⟩,pi⟩,name,dir,dots,⟨⟨at_,ar⟩,ai⟩,⟨⟨et,er⟩,ei⟩,text,elems⟩:Gop):Int)=0):=hid (by simp[moreOf])
 have HANS:=hid hans
 clear hvt hbt hans hbb
 go_enter Tryz.func104,Tryz.ntmps104
 go_upto_region 2 with fail
 generalize hW:(((w.alloc (.cells #[.int .i64 gt,.int .i64 gr,.int .i64 n',.slice dA' dn' dc',.int .i64 ut,.int .i64 ur,.slice oA on oc] 45)).alloc (.cells #[.int .i64 1,.int .i64 nt,.int .i64 nr,.int .i64 ni,.int .i64 pt,.int .i64 pr,.int .i64 pi,.string name,.bool dir,.slice dA dots.length dc,.int .i64 at_,.int .i64 ar,.int .i64 ai,.int .i64 et,.int .i64 er,.int .i64 ei,.string text,.slice eA elems.length ec] 125)).alloc (.cells #[.int .i64 gt,.int .i64 gr,.int .i64 k] 108))=W
 have HG:=hid (show W.heap[w.heap.size]? =some (.cells #[.int .i64 gt,.int .i64 gr,.int .i64 n',.slice dA' dn' dc',.int .i64 ut,.int .i64 ur,.slice oA on oc] 45 (0,0)) by rw[←hW];exact(Below.heap_alloc _ _ _ (by simp;omega)).trans ((Below.heap_alloc _ _ _ (by simp)).trans (heap_alloc_new _ _)))
 have HO:=hid (show W.heap[w.heap.size+1]? =some (.cells #[.int .i64 1,.int .i64 nt,.int .i64 nr,.int .i64 ni,.int .i64 pt,.int .i64 pr,.int .i64 pi,.string name,.bool dir,.slice dA dots.length dc,.int .i64 at_,.int .i64 ar,.int .i64 ai,.int .i64 et,.int .i64 er,.int .i64 ei,.string text,.slice eA elems.length ec] 125 (0,0)) by rw[←hW];exact(Below.heap_alloc _ _ _ (by simp)).trans (heap_alloc_new' _ _ (by simp)))
 have HJ:=hid (show W.heap[w.heap.size+2]? =some (.cells #[.int .i64 gt,.int .i64 gr,.int .i64 k] 108 (0,0)) by rw[←hW];exact heap_alloc_new' _ _ (by simp))
 have HBW:=hid (show Below w.heap.size w W by rw[←hW];exact(((Below.refl _ _).alloc (Nat.le_refl _) _).alloc (by simp) _).alloc (by simp;omega) _)
 clear hW
 have r0:=cw0 HO.out
 go_upto_region 7 with fail
 clear r0
 have hBW0:=HBW.out
 have x1:=rg1 HO.out
 have x2:=rg2 HO.out
 have x3:=rg3 HO.out
 have x4:=rg4 HO.out
 have x5:=rg5 HO.out
 have x6:=rg6 HO.out
 have x7:=rg7 HO.out
 have y0:=rg0 HG.out
 have y1:=rg1 HG.out
 have y2:=rg2 HG.out
 have y3:=rg3 HG.out
 have y4:=rg4 HG.out
 have y5:=rg5 HG.out
 have y6:=rg6 HG.out
 obtain⟨opl,hol⟩:∃l:List Value,l=[.int .i64 1,.int .i64 nt,.int .i64 nr,.int .i64 ni,.int .i64 pt,.int .i64 pr,.int .i64 pi,.string name,.bool dir,.slice dA dots.length dc,.int .i64 at_,.int .i64 ar,.int .i64 ai,.int .i64 et,.int .i64 er,.int .i64 ei,.string text,.slice eA elems.length ec]:=⟨_,rfl⟩
 have HOL:=hid hol
 have HRR:=hid (range_regrown (show W.rangeAt (w.heap.size+1) 0 opl by rw[hol];exact v9row_range HO.out))
 have HNL:=hid (show(Tryz.prog.info? 125).map (·.size)=some opl.length by rw[hol];kernel_rfl)
 clear hol
 have cA:=fun d os=>Calls.regrown_of (refahead_any ⟨gt,gr⟩ ⟨n',dA',dn',dc',ut,ur,oA,on,oc⟩ ⟨⟨nt,nr⟩,ni⟩ k (grow (redrawn W d) os))
 have cP:=fun d os=>Calls.regrown_of (refparent_any ⟨gt,gr⟩ ⟨n',dA',dn',dc',ut,ur,oA,on,oc⟩ ⟨⟨pt,pr⟩,pi⟩ k (grow (redrawn W d) os))
 have cN:=fun d os=>Calls.regrown_same (refname_any name (grow (redrawn W d) os) hn)
 have cB:=fun d os=>Calls.regrown_of (HBA.out (grow (redrawn W d) os))
 simp only[gxV,idV] at cA cP
 clear hBW0 hD hE HBA hn hdl hel HG HO HJ
 cases h0:aheadB ⟨gt,gr⟩ ⟨⟨nt,nr⟩,ni⟩ k with
 |false=>
  rw[h0] at cA
  obtain rfl:ans= -1:=by rw[HANS.out];exact v9refV_no (by rw[HK.out,h0];simp)
  exact absurd rfl HVT.out
 | true=>
  rw[h0] at cA
  have H0:=hid h0
  clear h0
  cases h1:parentB ⟨gt,gr⟩ ⟨⟨pt,pr⟩,pi⟩ k with
  |false=>
   rw[h1] at cP
   obtain rfl:ans= -1:=by rw[HANS.out];exact v9refV_no (by rw[HK.out,H0.out,h1];simp)
   exact absurd rfl HVT.out
  | true=>
   rw[h1] at cP
   have H1:=hid h1
   clear h1
   cases h2:nameB name with
   |false=>
    rw[h2] at cN
    obtain rfl:ans= -1:=by rw[HANS.out];exact v9refV_no (by rw[HK.out,H0.out,H1.out,h2];simp)
    exact absurd rfl HVT.out
   | true=>
    rw[h2] at cN
    have H2:=hid h2
    clear h2
    cases bb with
    |false=>
     obtain rfl:ans= -1:=by rw[HANS.out];exact v9refV_no (by rw[←HBB.out];simp)
     exact absurd rfl HVT.out
    |true=>
     obtain rfl:ans=0:=by rw[HANS.out,v9refV_yes (by rw[←HBB.out,HK.out,H0.out,H1.out,H2.out];simp),HMO.out]
     refine wp_plain_quiet_below ?_
     repeat(any_goals(first|(refine quiet_load_mid rfl _ _ rfl (w.heap.size+1) 0 rfl opl _ HRR.out Tryz.underlying125 rfl HNL.out ?_;rw[HOL.out])|go_big_quiet_step (first|with_reducible exact cA _ _|with_reducible exact cP _ _|with_reducible exact cN _ _|with_reducible exact cB _ _)|quiet_step (first|with_reducible exact cA _ _|with_reducible exact cP _ _|with_reducible exact cN _ _|with_reducible exact cB _ _)))
     refine qz fun wq hBq=> ?_
     go_wp2
     go_ret
     exact⟨rfl,HBW.out.trans (hBq.mono HBW.out.size)⟩
theorem vop_2 (gt gr:Int) (n':Int) (dA':Option Addr) (dn' dc':Nat) (ut ur:Int) (oA:Option Addr) (on oc:Nat) (k:Nat) (nt nr ni pt pr pi:Int) (name:ByteArray) (dir:Bool) (dots:List Gst) (at_ ar ai et er ei:Int) (text:ByteArray) (elems:List Gid) (dA:Option Addr) (dc:Nat) (eA:Option Addr) (ec:Nat) (S:Nat→Prop) (w:World) (hn:name.size≤9223372036854775807) (hdl:dots.length≤9223372036854775807) (hel:elems.length≤9223372036854775807) (hD:StsS w S dA dots) (hE:IdsS w S eA elems) (hvt:(kindB ⟨gt,gr⟩ (⟨2,⟨⟨nt,nr⟩,ni⟩,⟨⟨pt,pr⟩,pi⟩,name,dir,dots,⟨⟨at_,ar⟩,ai⟩,⟨⟨et,er⟩,ei⟩,text,elems⟩:Gop) k && bareB (⟨2,⟨⟨nt,nr⟩,ni⟩,⟨⟨pt,pr⟩,pi⟩,name,dir,dots,⟨⟨at_,ar⟩,ai⟩,⟨⟨et,er⟩,ei⟩,text,elems⟩:Gop))=true):
  Calls Tryz.prog 104 #[.agg #[.int .i64 gt,.int .i64 gr,.int .i64 n',.slice dA' dn' dc',.int .i64 ut,.int .i64 ur,.slice oA on oc],.agg #[.int .i64 2,.int .i64 nt,.int .i64 nr,.int .i64 ni,.int .i64 pt,.int .i64 pr,.int .i64 pi,.string name,.bool dir,.slice dA dots.length dc,.int .i64 at_,.int .i64 ar,.int .i64 ai,.int .i64 et,.int .i64 er,.int .i64 ei,.string text,.slice eA elems.length ec],.int .i64 k] w fun e w'=>e= .returned (.int .i64 (v9refV ⟨gt,gr⟩ (⟨2,⟨⟨nt,nr⟩,ni⟩,⟨⟨pt,pr⟩,pi⟩,name,dir,dots,⟨⟨at_,ar⟩,ai⟩,⟨⟨et,er⟩,ei⟩,text,elems⟩:Gop) k))∧Below w.heap.size w w':=by
 obtain⟨ans,hans⟩:∃v,v=v9refV ⟨gt,gr⟩ (⟨2,⟨⟨nt,nr⟩,ni⟩,⟨⟨pt,pr⟩,pi⟩,name,dir,dots,⟨⟨at_,ar⟩,ai⟩,⟨⟨et,er⟩,ei⟩,text,elems⟩:Gop) k:=⟨_,rfl⟩
 rw[←hans]
 have HVT:=hid (show ans≠ -1 from by rw[hans,v9refV_yes hvt];omega)
 have hbt:bareB (⟨2,⟨⟨nt,nr⟩,ni⟩,⟨⟨pt,pr⟩,pi⟩,name,dir,dots,⟨⟨at_,ar⟩,ai⟩,⟨⟨et,er⟩,ei⟩,text,elems⟩:Gop)=true:=(Bool.and_eq_true_iff.1 hvt).2
 obtain⟨bb,hbb⟩:∃b,b=bareB (⟨2,⟨⟨nt,nr⟩,ni⟩,⟨⟨pt,pr⟩,pi⟩,name,dir,dots,⟨⟨at_,ar⟩,ai⟩,⟨⟨et,er⟩,ei⟩,text,elems⟩:Gop):=⟨_,rfl⟩
 have HBB:=hid hbb
 have HBA:=hid (show ∀W,Calls Tryz.prog 160 #[.agg #[.int .i64 2,.int .i64 nt,.int .i64 nr,.int .i64 ni,.int .i64 pt,.int .i64 pr,.int .i64 pi,.string name,.bool dir,.slice dA dots.length dc,.int .i64 at_,.int .i64 ar,.int .i64 ai,.int .i64 et,.int .i64 er,.int .i64 ei,.string text,.slice eA elems.length ec],.bool false,.bool false,.bool true,.bool false,.bool false] W fun e w'=>e= .returned (.bool bb)∧Below W.heap.size W w' from fun W=>by
  refine(vbare_2 2 nt nr ni pt pr pi name dir dA dots.length dc at_ ar ai et er ei text eA elems.length ec W (Eq.trans (b:=bareB (⟨2,⟨⟨nt,nr⟩,ni⟩,⟨⟨pt,pr⟩,pi⟩,name,dir,dots,⟨⟨at_,ar⟩,ai⟩,⟨⟨et,er⟩,ei⟩,text,elems⟩:Gop)) (by simp[bareB,Bool.and_assoc]) hbt)).mono ?_
  rintro e w' ⟨rfl,hB⟩
  refine⟨?_,hB⟩
  congr 2
  rw[hbb]
  simp[bareB,Bool.and_assoc])
 have HK:Hid (kindB ⟨gt,gr⟩ (⟨2,⟨⟨nt,nr⟩,ni⟩,⟨⟨pt,pr⟩,pi⟩,name,dir,dots,⟨⟨at_,ar⟩,ai⟩,⟨⟨et,er⟩,ei⟩,text,elems⟩:Gop) k=(aheadB ⟨gt,gr⟩ ⟨⟨nt,nr⟩,ni⟩ k && dotsB ⟨gt,gr⟩ dots)):=hid (by simp[kindB])
 have HMO:Hid ((moreOf (⟨2,⟨⟨nt,nr⟩,ni⟩,⟨⟨pt,pr⟩,pi⟩,name,dir,dots,⟨⟨at_,ar⟩,ai⟩,⟨⟨et,er⟩,ei⟩,text,elems⟩:Gop):Int)=0):=hid (by simp[moreOf])
 have HANS:=hid hans
 clear hvt hbt hans hbb
 go_enter Tryz.func104,Tryz.ntmps104
 go_upto_region 2 with fail
 generalize hW:(((w.alloc (.cells #[.int .i64 gt,.int .i64 gr,.int .i64 n',.slice dA' dn' dc',.int .i64 ut,.int .i64 ur,.slice oA on oc] 45)).alloc (.cells #[.int .i64 2,.int .i64 nt,.int .i64 nr,.int .i64 ni,.int .i64 pt,.int .i64 pr,.int .i64 pi,.string name,.bool dir,.slice dA dots.length dc,.int .i64 at_,.int .i64 ar,.int .i64 ai,.int .i64 et,.int .i64 er,.int .i64 ei,.string text,.slice eA elems.length ec] 125)).alloc (.cells #[.int .i64 gt,.int .i64 gr,.int .i64 k] 108))=W
 have HG:=hid (show W.heap[w.heap.size]? =some (.cells #[.int .i64 gt,.int .i64 gr,.int .i64 n',.slice dA' dn' dc',.int .i64 ut,.int .i64 ur,.slice oA on oc] 45 (0,0)) by rw[←hW];exact(Below.heap_alloc _ _ _ (by simp;omega)).trans ((Below.heap_alloc _ _ _ (by simp)).trans (heap_alloc_new _ _)))
 have HO:=hid (show W.heap[w.heap.size+1]? =some (.cells #[.int .i64 2,.int .i64 nt,.int .i64 nr,.int .i64 ni,.int .i64 pt,.int .i64 pr,.int .i64 pi,.string name,.bool dir,.slice dA dots.length dc,.int .i64 at_,.int .i64 ar,.int .i64 ai,.int .i64 et,.int .i64 er,.int .i64 ei,.string text,.slice eA elems.length ec] 125 (0,0)) by rw[←hW];exact(Below.heap_alloc _ _ _ (by simp)).trans (heap_alloc_new' _ _ (by simp)))
 have HJ:=hid (show W.heap[w.heap.size+2]? =some (.cells #[.int .i64 gt,.int .i64 gr,.int .i64 k] 108 (0,0)) by rw[←hW];exact heap_alloc_new' _ _ (by simp))
 have HBW:=hid (show Below w.heap.size w W by rw[←hW];exact(((Below.refl _ _).alloc (Nat.le_refl _) _).alloc (by simp) _).alloc (by simp;omega) _)
 clear hW
 have r0:=cw0 HO.out
 go_upto_region 10 with fail
 clear r0
 have hBW0:=HBW.out
 have x1:=rg1 HO.out
 have x2:=rg2 HO.out
 have x3:=rg3 HO.out
 have x9:=rg9 HO.out
 have y0:=rg0 HG.out
 have y1:=rg1 HG.out
 have y2:=rg2 HG.out
 have y3:=rg3 HG.out
 have y4:=rg4 HG.out
 have y5:=rg5 HG.out
 have y6:=rg6 HG.out
 obtain⟨opl,hol⟩:∃l:List Value,l=[.int .i64 2,.int .i64 nt,.int .i64 nr,.int .i64 ni,.int .i64 pt,.int .i64 pr,.int .i64 pi,.string name,.bool dir,.slice dA dots.length dc,.int .i64 at_,.int .i64 ar,.int .i64 ai,.int .i64 et,.int .i64 er,.int .i64 ei,.string text,.slice eA elems.length ec]:=⟨_,rfl⟩
 have HOL:=hid hol
 have HRR:=hid (range_regrown (show W.rangeAt (w.heap.size+1) 0 opl by rw[hol];exact v9row_range HO.out))
 have HNL:=hid (show(Tryz.prog.info? 125).map (·.size)=some opl.length by rw[hol];kernel_rfl)
 clear hol
 have cA:=fun d os=>Calls.regrown_of (refahead_any ⟨gt,gr⟩ ⟨n',dA',dn',dc',ut,ur,oA,on,oc⟩ ⟨⟨nt,nr⟩,ni⟩ k (grow (redrawn W d) os))
 have cD:=fun d os=>Calls.regrown_of (refdots_any ⟨gt,gr⟩ ⟨n',dA',dn',dc',ut,ur,oA,on,oc⟩ dA dc dots S (grow (redrawn W d) os) hdl (hD.agr (Agr.below (hBW0.trans ((below_regrown W d os).mono hBW0.size)))))
 have cB:=fun d os=>Calls.regrown_of (HBA.out (grow (redrawn W d) os))
 simp only[gxV,idV] at cA cD
 clear hBW0 hD hE HBA hn hdl hel HG HO HJ
 cases h0:aheadB ⟨gt,gr⟩ ⟨⟨nt,nr⟩,ni⟩ k with
 |false=>
  rw[h0] at cA
  obtain rfl:ans= -1:=by rw[HANS.out];exact v9refV_no (by rw[HK.out,h0];simp)
  exact absurd rfl HVT.out
 | true=>
  rw[h0] at cA
  have H0:=hid h0
  clear h0
  cases h1:dotsB ⟨gt,gr⟩ dots with
  |false=>
   rw[h1] at cD
   obtain rfl:ans= -1:=by rw[HANS.out];exact v9refV_no (by rw[HK.out,H0.out,h1];simp)
   exact absurd rfl HVT.out
  | true=>
   rw[h1] at cD
   have H1:=hid h1
   clear h1
   cases bb with
   |false=>
    obtain rfl:ans= -1:=by rw[HANS.out];exact v9refV_no (by rw[←HBB.out];simp)
    exact absurd rfl HVT.out
   |true=>
    obtain rfl:ans=0:=by rw[HANS.out,v9refV_yes (by rw[←HBB.out,HK.out,H0.out,H1.out];simp),HMO.out]
    refine wp_plain_quiet_below ?_
    repeat(any_goals(first|(refine quiet_load_mid rfl _ _ rfl (w.heap.size+1) 0 rfl opl _ HRR.out Tryz.underlying125 rfl HNL.out ?_;rw[HOL.out])|go_big_quiet_step (first|with_reducible exact cA _ _|with_reducible exact cD _ _|with_reducible exact cB _ _)|quiet_step (first|with_reducible exact cA _ _|with_reducible exact cD _ _|with_reducible exact cB _ _)))
    refine qz fun wq hBq=> ?_
    go_wp2
    go_ret
    exact⟨rfl,HBW.out.trans (hBq.mono HBW.out.size)⟩
theorem vop_4 (gt gr:Int) (n':Int) (dA':Option Addr) (dn' dc':Nat) (ut ur:Int) (oA:Option Addr) (on oc:Nat) (k:Nat) (nt nr ni pt pr pi:Int) (name:ByteArray) (dir:Bool) (dots:List Gst) (at_ ar ai et er ei:Int) (text:ByteArray) (elems:List Gid) (dA:Option Addr) (dc:Nat) (eA:Option Addr) (ec:Nat) (S:Nat→Prop) (w:World) (hn:name.size≤9223372036854775807) (hdl:dots.length≤9223372036854775807) (hel:elems.length≤9223372036854775807) (hD:StsS w S dA dots) (hE:IdsS w S eA elems) (hvt:(kindB ⟨gt,gr⟩ (⟨4,⟨⟨nt,nr⟩,ni⟩,⟨⟨pt,pr⟩,pi⟩,name,dir,dots,⟨⟨at_,ar⟩,ai⟩,⟨⟨et,er⟩,ei⟩,text,elems⟩:Gop) k && bareB (⟨4,⟨⟨nt,nr⟩,ni⟩,⟨⟨pt,pr⟩,pi⟩,name,dir,dots,⟨⟨at_,ar⟩,ai⟩,⟨⟨et,er⟩,ei⟩,text,elems⟩:Gop))=true):
  Calls Tryz.prog 104 #[.agg #[.int .i64 gt,.int .i64 gr,.int .i64 n',.slice dA' dn' dc',.int .i64 ut,.int .i64 ur,.slice oA on oc],.agg #[.int .i64 4,.int .i64 nt,.int .i64 nr,.int .i64 ni,.int .i64 pt,.int .i64 pr,.int .i64 pi,.string name,.bool dir,.slice dA dots.length dc,.int .i64 at_,.int .i64 ar,.int .i64 ai,.int .i64 et,.int .i64 er,.int .i64 ei,.string text,.slice eA elems.length ec],.int .i64 k] w fun e w'=>e= .returned (.int .i64 (v9refV ⟨gt,gr⟩ (⟨4,⟨⟨nt,nr⟩,ni⟩,⟨⟨pt,pr⟩,pi⟩,name,dir,dots,⟨⟨at_,ar⟩,ai⟩,⟨⟨et,er⟩,ei⟩,text,elems⟩:Gop) k))∧Below w.heap.size w w':=by
 obtain⟨ans,hans⟩:∃v,v=v9refV ⟨gt,gr⟩ (⟨4,⟨⟨nt,nr⟩,ni⟩,⟨⟨pt,pr⟩,pi⟩,name,dir,dots,⟨⟨at_,ar⟩,ai⟩,⟨⟨et,er⟩,ei⟩,text,elems⟩:Gop) k:=⟨_,rfl⟩
 rw[←hans]
 have HVT:=hid (show ans≠ -1 from by rw[hans,v9refV_yes hvt];omega)
 have hbt:bareB (⟨4,⟨⟨nt,nr⟩,ni⟩,⟨⟨pt,pr⟩,pi⟩,name,dir,dots,⟨⟨at_,ar⟩,ai⟩,⟨⟨et,er⟩,ei⟩,text,elems⟩:Gop)=true:=(Bool.and_eq_true_iff.1 hvt).2
 obtain⟨bb,hbb⟩:∃b,b=bareB (⟨4,⟨⟨nt,nr⟩,ni⟩,⟨⟨pt,pr⟩,pi⟩,name,dir,dots,⟨⟨at_,ar⟩,ai⟩,⟨⟨et,er⟩,ei⟩,text,elems⟩:Gop):=⟨_,rfl⟩
 have HBB:=hid hbb
 have HBA:=hid (show ∀W,Calls Tryz.prog 160 #[.agg #[.int .i64 4,.int .i64 nt,.int .i64 nr,.int .i64 ni,.int .i64 pt,.int .i64 pr,.int .i64 pi,.string name,.bool dir,.slice dA dots.length dc,.int .i64 at_,.int .i64 ar,.int .i64 ai,.int .i64 et,.int .i64 er,.int .i64 ei,.string text,.slice eA elems.length ec],.bool false,.bool false,.bool false,.bool false,.bool true] W fun e w'=>e= .returned (.bool bb)∧Below W.heap.size W w' from fun W=>by
  refine(vbare_4 4 nt nr ni pt pr pi name dir dA dots.length dc at_ ar ai et er ei text eA elems.length ec W (Eq.trans (b:=bareB (⟨4,⟨⟨nt,nr⟩,ni⟩,⟨⟨pt,pr⟩,pi⟩,name,dir,dots,⟨⟨at_,ar⟩,ai⟩,⟨⟨et,er⟩,ei⟩,text,elems⟩:Gop)) (by simp[bareB,Bool.and_assoc]) hbt)).mono ?_
  rintro e w' ⟨rfl,hB⟩
  refine⟨?_,hB⟩
  congr 2
  rw[hbb]
  simp[bareB,Bool.and_assoc])
 have HK:Hid (kindB ⟨gt,gr⟩ (⟨4,⟨⟨nt,nr⟩,ni⟩,⟨⟨pt,pr⟩,pi⟩,name,dir,dots,⟨⟨at_,ar⟩,ai⟩,⟨⟨et,er⟩,ei⟩,text,elems⟩:Gop) k=(aheadB ⟨gt,gr⟩ ⟨⟨nt,nr⟩,ni⟩ k && elemsB ⟨gt,gr⟩ elems k)):=hid (by simp[kindB])
 have HMO:Hid ((moreOf (⟨4,⟨⟨nt,nr⟩,ni⟩,⟨⟨pt,pr⟩,pi⟩,name,dir,dots,⟨⟨at_,ar⟩,ai⟩,⟨⟨et,er⟩,ei⟩,text,elems⟩:Gop):Int)=0):=hid (by simp[moreOf])
 have HANS:=hid hans
 clear hvt hbt hans hbb
 go_enter Tryz.func104,Tryz.ntmps104
 go_upto_region 2 with fail
 generalize hW:(((w.alloc (.cells #[.int .i64 gt,.int .i64 gr,.int .i64 n',.slice dA' dn' dc',.int .i64 ut,.int .i64 ur,.slice oA on oc] 45)).alloc (.cells #[.int .i64 4,.int .i64 nt,.int .i64 nr,.int .i64 ni,.int .i64 pt,.int .i64 pr,.int .i64 pi,.string name,.bool dir,.slice dA dots.length dc,.int .i64 at_,.int .i64 ar,.int .i64 ai,.int .i64 et,.int .i64 er,.int .i64 ei,.string text,.slice eA elems.length ec] 125)).alloc (.cells #[.int .i64 gt,.int .i64 gr,.int .i64 k] 108))=W
 have HG:=hid (show W.heap[w.heap.size]? =some (.cells #[.int .i64 gt,.int .i64 gr,.int .i64 n',.slice dA' dn' dc',.int .i64 ut,.int .i64 ur,.slice oA on oc] 45 (0,0)) by rw[←hW];exact(Below.heap_alloc _ _ _ (by simp;omega)).trans ((Below.heap_alloc _ _ _ (by simp)).trans (heap_alloc_new _ _)))
 have HO:=hid (show W.heap[w.heap.size+1]? =some (.cells #[.int .i64 4,.int .i64 nt,.int .i64 nr,.int .i64 ni,.int .i64 pt,.int .i64 pr,.int .i64 pi,.string name,.bool dir,.slice dA dots.length dc,.int .i64 at_,.int .i64 ar,.int .i64 ai,.int .i64 et,.int .i64 er,.int .i64 ei,.string text,.slice eA elems.length ec] 125 (0,0)) by rw[←hW];exact(Below.heap_alloc _ _ _ (by simp)).trans (heap_alloc_new' _ _ (by simp)))
 have HJ:=hid (show W.heap[w.heap.size+2]? =some (.cells #[.int .i64 gt,.int .i64 gr,.int .i64 k] 108 (0,0)) by rw[←hW];exact heap_alloc_new' _ _ (by simp))
 have HBW:=hid (show Below w.heap.size w W by rw[←hW];exact(((Below.refl _ _).alloc (Nat.le_refl _) _).alloc (by simp) _).alloc (by simp;omega) _)
 clear hW
 have r0:=cw0 HO.out
 go_upto_region 17 with fail
 clear r0
 have hBW0:=HBW.out
 have x1:=rg1 HO.out
 have x2:=rg2 HO.out
 have x3:=rg3 HO.out
 have x17:=rg17 HO.out
 have y0:=rg0 HG.out
 have y1:=rg1 HG.out
 have y2:=rg2 HG.out
 have y3:=rg3 HG.out
 have y4:=rg4 HG.out
 have y5:=rg5 HG.out
 have y6:=rg6 HG.out
 obtain⟨opl,hol⟩:∃l:List Value,l=[.int .i64 4,.int .i64 nt,.int .i64 nr,.int .i64 ni,.int .i64 pt,.int .i64 pr,.int .i64 pi,.string name,.bool dir,.slice dA dots.length dc,.int .i64 at_,.int .i64 ar,.int .i64 ai,.int .i64 et,.int .i64 er,.int .i64 ei,.string text,.slice eA elems.length ec]:=⟨_,rfl⟩
 have HOL:=hid hol
 have HRR:=hid (range_regrown (show W.rangeAt (w.heap.size+1) 0 opl by rw[hol];exact v9row_range HO.out))
 have HNL:=hid (show(Tryz.prog.info? 125).map (·.size)=some opl.length by rw[hol];kernel_rfl)
 clear hol
 have cA:=fun d os=>Calls.regrown_of (refahead_any ⟨gt,gr⟩ ⟨n',dA',dn',dc',ut,ur,oA,on,oc⟩ ⟨⟨nt,nr⟩,ni⟩ k (grow (redrawn W d) os))
 have cE:=fun d os=>Calls.regrown_of (refelems_any ⟨gt,gr⟩ ⟨n',dA',dn',dc',ut,ur,oA,on,oc⟩ k eA ec elems S (grow (redrawn W d) os) hel (hE.agr (Agr.below (hBW0.trans ((below_regrown W d os).mono hBW0.size)))))
 have cB:=fun d os=>Calls.regrown_of (HBA.out (grow (redrawn W d) os))
 simp only[gxV,idV] at cA cE
 clear hBW0 hD hE HBA hn hdl hel HG HO HJ
 cases h0:aheadB ⟨gt,gr⟩ ⟨⟨nt,nr⟩,ni⟩ k with
 |false=>
  rw[h0] at cA
  obtain rfl:ans= -1:=by rw[HANS.out];exact v9refV_no (by rw[HK.out,h0];simp)
  exact absurd rfl HVT.out
 | true=>
  rw[h0] at cA
  have H0:=hid h0
  clear h0
  cases h1:elemsB ⟨gt,gr⟩ elems k with
  |false=>
   rw[h1] at cE
   obtain rfl:ans= -1:=by rw[HANS.out];exact v9refV_no (by rw[HK.out,H0.out,h1];simp)
   exact absurd rfl HVT.out
  | true=>
   rw[h1] at cE
   have H1:=hid h1
   clear h1
   cases bb with
   |false=>
    obtain rfl:ans= -1:=by rw[HANS.out];exact v9refV_no (by rw[←HBB.out];simp)
    exact absurd rfl HVT.out
   |true=>
    obtain rfl:ans=0:=by rw[HANS.out,v9refV_yes (by rw[←HBB.out,HK.out,H0.out,H1.out];simp),HMO.out]
    refine wp_plain_quiet_below ?_
    repeat(any_goals(first|(refine quiet_load_mid rfl _ _ rfl (w.heap.size+1) 0 rfl opl _ HRR.out Tryz.underlying125 rfl HNL.out ?_;rw[HOL.out])|go_big_quiet_step (first|with_reducible exact cA _ _|with_reducible exact cE _ _|with_reducible exact cB _ _)|quiet_step (first|with_reducible exact cA _ _|with_reducible exact cE _ _|with_reducible exact cB _ _)))
    refine qz fun wq hBq=> ?_
    go_wp2
    go_ret
    exact⟨rfl,HBW.out.trans (hBq.mono HBW.out.size)⟩
theorem vop_3s (gt gr:Int) (n':Int) (dA':Option Addr) (dn' dc':Nat) (ut ur:Int) (oA:Option Addr) (on oc:Nat) (k:Nat) (nt nr ni pt pr pi:Int) (name:ByteArray) (dir:Bool) (dots:List Gst) (at_ ar ai et er ei:Int) (text:ByteArray) (elems:List Gid) (dA:Option Addr) (dc:Nat) (eA:Option Addr) (ec:Nat) (S:Nat→Prop) (w:World) (hn:name.size≤9223372036854775807) (hdl:dots.length≤9223372036854775807) (hel:elems.length≤9223372036854775807) (hD:StsS w S dA dots) (hE:IdsS w S eA elems) (htx:text.size≤1000000) (m:Nat) (hcnt:cnt text.data.toList=some m) (hvt:(kindB ⟨gt,gr⟩ (⟨3,⟨⟨nt,nr⟩,ni⟩,⟨⟨pt,pr⟩,pi⟩,name,dir,dots,⟨⟨at_,ar⟩,ai⟩,⟨⟨et,er⟩,ei⟩,text,elems⟩:Gop) k && bareB (⟨3,⟨⟨nt,nr⟩,ni⟩,⟨⟨pt,pr⟩,pi⟩,name,dir,dots,⟨⟨at_,ar⟩,ai⟩,⟨⟨et,er⟩,ei⟩,text,elems⟩:Gop))=true):
  Calls Tryz.prog 104 #[.agg #[.int .i64 gt,.int .i64 gr,.int .i64 n',.slice dA' dn' dc',.int .i64 ut,.int .i64 ur,.slice oA on oc],.agg #[.int .i64 3,.int .i64 nt,.int .i64 nr,.int .i64 ni,.int .i64 pt,.int .i64 pr,.int .i64 pi,.string name,.bool dir,.slice dA dots.length dc,.int .i64 at_,.int .i64 ar,.int .i64 ai,.int .i64 et,.int .i64 er,.int .i64 ei,.string text,.slice eA elems.length ec],.int .i64 k] w fun e w'=>e= .returned (.int .i64 (v9refV ⟨gt,gr⟩ (⟨3,⟨⟨nt,nr⟩,ni⟩,⟨⟨pt,pr⟩,pi⟩,name,dir,dots,⟨⟨at_,ar⟩,ai⟩,⟨⟨et,er⟩,ei⟩,text,elems⟩:Gop) k))∧Below w.heap.size w w':=by
 obtain⟨ans,hans⟩:∃v,v=v9refV ⟨gt,gr⟩ (⟨3,⟨⟨nt,nr⟩,ni⟩,⟨⟨pt,pr⟩,pi⟩,name,dir,dots,⟨⟨at_,ar⟩,ai⟩,⟨⟨et,er⟩,ei⟩,text,elems⟩:Gop) k:=⟨_,rfl⟩
 rw[←hans]
 have HVT:=hid (show ans≠ -1 from by rw[hans,v9refV_yes hvt];omega)
 have hbt:bareB (⟨3,⟨⟨nt,nr⟩,ni⟩,⟨⟨pt,pr⟩,pi⟩,name,dir,dots,⟨⟨at_,ar⟩,ai⟩,⟨⟨et,er⟩,ei⟩,text,elems⟩:Gop)=true:=(Bool.and_eq_true_iff.1 hvt).2
 obtain⟨bb,hbb⟩:∃b,b=bareB (⟨3,⟨⟨nt,nr⟩,ni⟩,⟨⟨pt,pr⟩,pi⟩,name,dir,dots,⟨⟨at_,ar⟩,ai⟩,⟨⟨et,er⟩,ei⟩,text,elems⟩:Gop):=⟨_,rfl⟩
 have HBB:=hid hbb
 have HBA:=hid (show ∀W,Calls Tryz.prog 160 #[.agg #[.int .i64 3,.int .i64 nt,.int .i64 nr,.int .i64 ni,.int .i64 pt,.int .i64 pr,.int .i64 pi,.string name,.bool dir,.slice dA dots.length dc,.int .i64 at_,.int .i64 ar,.int .i64 ai,.int .i64 et,.int .i64 er,.int .i64 ei,.string text,.slice eA elems.length ec],.bool false,.bool false,.bool false,.bool true,.bool false] W fun e w'=>e= .returned (.bool bb)∧Below W.heap.size W w' from fun W=>by
  refine(vbare_3 3 nt nr ni pt pr pi name dir dA dots.length dc at_ ar ai et er ei text eA elems.length ec W (Eq.trans (b:=bareB (⟨3,⟨⟨nt,nr⟩,ni⟩,⟨⟨pt,pr⟩,pi⟩,name,dir,dots,⟨⟨at_,ar⟩,ai⟩,⟨⟨et,er⟩,ei⟩,text,elems⟩:Gop)) (by simp[bareB,Bool.and_assoc]) hbt)).mono ?_
  rintro e w' ⟨rfl,hB⟩
  refine⟨?_,hB⟩
  congr 2
  rw[hbb]
  simp[bareB,Bool.and_assoc])
 have HK:Hid (kindB ⟨gt,gr⟩ (⟨3,⟨⟨nt,nr⟩,ni⟩,⟨⟨pt,pr⟩,pi⟩,name,dir,dots,⟨⟨at_,ar⟩,ai⟩,⟨⟨et,er⟩,ei⟩,text,elems⟩:Gop) k=(aheadB ⟨gt,gr⟩ ⟨⟨nt,nr⟩,ni⟩ k && parentB ⟨gt,gr⟩ ⟨⟨at_,ar⟩,ai⟩ k && Gid.eqb ⟨⟨et,er⟩,ei⟩ ⟨⟨gt,gr⟩,(k:Int)⟩ && (decide (1≤m) && decide (m≤2000)))):=hid (by simp[kindB,textB,cnt_valid,hcnt,cnt_count hcnt])
 have HMO:Hid ((moreOf (⟨3,⟨⟨nt,nr⟩,ni⟩,⟨⟨pt,pr⟩,pi⟩,name,dir,dots,⟨⟨at_,ar⟩,ai⟩,⟨⟨et,er⟩,ei⟩,text,elems⟩:Gop):Int)=m):=hid (by simp[moreOf,cnt_count hcnt])
 have HLe:Hid (∀w,Calls Tryz.prog 163 #[.string text] w fun e w'=>e= .returned (.tuple #[.int .i64 m,.int .i64 0])∧Below w.heap.size w w'):=hid (fun w=>reflen_ok text m w htx hcnt)
 have HANS:=hid hans
 clear hvt hbt hans hbb hcnt htx
 go_enter Tryz.func104,Tryz.ntmps104
 go_upto_region 2 with fail
 generalize hW:(((w.alloc (.cells #[.int .i64 gt,.int .i64 gr,.int .i64 n',.slice dA' dn' dc',.int .i64 ut,.int .i64 ur,.slice oA on oc] 45)).alloc (.cells #[.int .i64 3,.int .i64 nt,.int .i64 nr,.int .i64 ni,.int .i64 pt,.int .i64 pr,.int .i64 pi,.string name,.bool dir,.slice dA dots.length dc,.int .i64 at_,.int .i64 ar,.int .i64 ai,.int .i64 et,.int .i64 er,.int .i64 ei,.string text,.slice eA elems.length ec] 125)).alloc (.cells #[.int .i64 gt,.int .i64 gr,.int .i64 k] 108))=V
 have HGV:=hid (show V.heap[w.heap.size]? =some (.cells #[.int .i64 gt,.int .i64 gr,.int .i64 n',.slice dA' dn' dc',.int .i64 ut,.int .i64 ur,.slice oA on oc] 45 (0,0)) by rw[←hW];exact(Below.heap_alloc _ _ _ (by simp;omega)).trans ((Below.heap_alloc _ _ _ (by simp)).trans (heap_alloc_new _ _)))
 have HOV:=hid (show V.heap[w.heap.size+1]? =some (.cells #[.int .i64 3,.int .i64 nt,.int .i64 nr,.int .i64 ni,.int .i64 pt,.int .i64 pr,.int .i64 pi,.string name,.bool dir,.slice dA dots.length dc,.int .i64 at_,.int .i64 ar,.int .i64 ai,.int .i64 et,.int .i64 er,.int .i64 ei,.string text,.slice eA elems.length ec] 125 (0,0)) by rw[←hW];exact(Below.heap_alloc _ _ _ (by simp)).trans (heap_alloc_new' _ _ (by simp)))
 have HJV:=hid (show V.heap[w.heap.size+2]? =some (.cells #[.int .i64 gt,.int .i64 gr,.int .i64 k] 108 (0,0)) by rw[←hW];exact heap_alloc_new' _ _ (by simp))
 have HBV:=hid (show Below w.heap.size w V by rw[←hW];exact(((Below.refl _ _).alloc (Nat.le_refl _) _).alloc (by simp) _).alloc (by simp;omega) _)
 clear hW
 have r0:=cw0 HOV.out
 have r16:=cw16 HOV.out
 go_upto_region 14 with(go_at_call 163;refine(HLe.out _).mono ?_;rintro e W ⟨rfl,hB2⟩)
 have HG:=hid ((hB2.block _ (lt_of_block HGV.out)).trans HGV.out)
 have HO:=hid ((hB2.block _ (lt_of_block HOV.out)).trans HOV.out)
 have HJ:=hid ((hB2.block _ (lt_of_block HJV.out)).trans HJV.out)
 have HBW:=hid (HBV.out.trans (hB2.mono HBV.out.size))
 clear r0 r16 hB2 HGV HOV HJV HBV
 have hBW0:=HBW.out
 have x1:=rg1 HO.out
 have x2:=rg2 HO.out
 have x3:=rg3 HO.out
 have x10:=rg10 HO.out
 have x11:=rg11 HO.out
 have x12:=rg12 HO.out
 have x13:=rg13 HO.out
 have x14:=rg14 HO.out
 have x15:=rg15 HO.out
 have y0:=rg0 HG.out
 have y1:=rg1 HG.out
 have y2:=rg2 HG.out
 have y3:=rg3 HG.out
 have y4:=rg4 HG.out
 have y5:=rg5 HG.out
 have y6:=rg6 HG.out
 have z0:=rg0 HJ.out
 have z1:=rg1 HJ.out
 have z2:=rg2 HJ.out
 obtain⟨opl,hol⟩:∃l:List Value,l=[.int .i64 3,.int .i64 nt,.int .i64 nr,.int .i64 ni,.int .i64 pt,.int .i64 pr,.int .i64 pi,.string name,.bool dir,.slice dA dots.length dc,.int .i64 at_,.int .i64 ar,.int .i64 ai,.int .i64 et,.int .i64 er,.int .i64 ei,.string text,.slice eA elems.length ec]:=⟨_,rfl⟩
 have HOL:=hid hol
 have HRR:=hid (range_regrown (show W.rangeAt (w.heap.size+1) 0 opl by rw[hol];exact v9row_range HO.out))
 have HNL:=hid (show(Tryz.prog.info? 125).map (·.size)=some opl.length by rw[hol];kernel_rfl)
 clear hol
 have cA:=fun d os=>Calls.regrown_of (refahead_any ⟨gt,gr⟩ ⟨n',dA',dn',dc',ut,ur,oA,on,oc⟩ ⟨⟨nt,nr⟩,ni⟩ k (grow (redrawn W d) os))
 have cQ:=fun d os=>Calls.regrown_of (refparent_any ⟨gt,gr⟩ ⟨n',dA',dn',dc',ut,ur,oA,on,oc⟩ ⟨⟨at_,ar⟩,ai⟩ k (grow (redrawn W d) os))
 have cB:=fun d os=>Calls.regrown_of (HBA.out (grow (redrawn W d) os))
 simp only[gxV,idV] at cA cQ
 clear hBW0 hD hE HBA hn hdl hel HG HO HJ
 cases h0:aheadB ⟨gt,gr⟩ ⟨⟨nt,nr⟩,ni⟩ k with
 |false=>
  rw[h0] at cA
  obtain rfl:ans= -1:=by rw[HANS.out];exact v9refV_no (by rw[HK.out,h0];simp)
  exact absurd rfl HVT.out
 | true=>
  rw[h0] at cA
  have H0:=hid h0
  clear h0
  cases h1:parentB ⟨gt,gr⟩ ⟨⟨at_,ar⟩,ai⟩ k with
  |false=>
   rw[h1] at cQ
   obtain rfl:ans= -1:=by rw[HANS.out];exact v9refV_no (by rw[HK.out,H0.out,h1];simp)
   exact absurd rfl HVT.out
  | true=>
   rw[h1] at cQ
   have H1:=hid h1
   clear h1
   cases h2:Gid.eqb ⟨⟨et,er⟩,ei⟩ ⟨⟨gt,gr⟩,(k:Int)⟩ with
   |false=>
    have he:=eq_id et er ei gt gr k false h2
    obtain rfl:ans= -1:=by rw[HANS.out];exact v9refV_no (by rw[HK.out,H0.out,H1.out,h2];simp)
    exact absurd rfl HVT.out
   | true=>
    have he:=eq_id et er ei gt gr k true h2
    have H2:=hid h2
    clear h2
    by_cases m1:1≤m
    rotate_left
    ·obtain rfl:m=0:=by omega
     obtain rfl:ans= -1:=by rw[HANS.out];exact v9refV_no (by rw[HK.out,H0.out,H1.out,H2.out];simp)
     exact absurd rfl HVT.out
    have b1:decide ((m:Int)≥1)=true:=by rw[decide_eq_true_eq];omega
    have b2:(m:Int)≥1:=by omega
    have b4:(1:Int)≤(m:Int):=by omega
    by_cases m2:m≤2000
    rotate_left
    ·have b3:¬(m:Int)≤2000:=by omega
     obtain rfl:ans= -1:=by rw[HANS.out];exact v9refV_no (by rw[HK.out,H0.out,H1.out,H2.out];simp[m2])
     exact absurd rfl HVT.out
    have b3:(m:Int)≤2000:=by omega
    have HM1:=hid m1
    have HM2:=hid m2
    clear m1 m2
    cases bb with
    |false=>
     obtain rfl:ans= -1:=by rw[HANS.out];exact v9refV_no (by rw[←HBB.out];simp)
     exact absurd rfl HVT.out
    |true=>
     obtain rfl:ans=m:=by rw[HANS.out,v9refV_yes (by rw[←HBB.out,HK.out,H0.out,H1.out,H2.out];simp[HM1.out,HM2.out]),HMO.out]
     refine wp_plain_quiet_below ?_
     repeat(any_goals(first|(refine quiet_load_mid rfl _ _ rfl (w.heap.size+1) 0 rfl opl _ HRR.out Tryz.underlying125 rfl HNL.out ?_;rw[HOL.out])|go_big_quiet_step (first|with_reducible exact cA _ _|with_reducible exact cQ _ _|with_reducible exact cB _ _)|quiet_step (first|with_reducible exact cA _ _|with_reducible exact cQ _ _|with_reducible exact cB _ _)))
     refine qz fun wq hBq=> ?_
     go_wp2
     go_ret
     exact⟨rfl,HBW.out.trans (hBq.mono HBW.out.size)⟩
end
section
open Go.RowKit Go.Lib Go.Sort Go.Shelf
set_option linter.unusedVariables false
def signsL:List UInt8:=[48,49,50,51,52,53,54,55,56,57,65,66,67,68,69,70,71,72,73,74,75,76,77,78,79,80,81,82,83,84,85,86,87,88,89,90,97,98,99,100,101,102,103,104,105,106,107,108,109,110,111,112,113,114,115,116,117,118,119,120,121,122,46,45,95]
theorem signs_all:∀n:Fin 256,signsL.contains (UInt8.ofNat n.val)=signB (UInt8.ofNat n.val):=by decide +kernel
theorem signs_sign (b:UInt8):signsL.contains b=signB b:=by
 have h:=signs_all ⟨b.toNat,b.toNat_lt⟩
 have e:UInt8.ofNat b.toNat=b:=by simp
 simp only[e] at h
 exact h
theorem dropWhile_nil {α:Type} (p:α→Bool):∀l:List α,l.dropWhile p=[]↔∀b∈l,p b=true
 | []=>by simp
 | a::l=>by
  rw[List.dropWhile_cons]
  by_cases h:p a=true
  ·rw[if_pos h,dropWhile_nil p l]
   simp[h]
  ·rw[if_neg h]
   simp[h]
theorem trimS_nil (l:List UInt8):trimS l signsL=[]↔l.all signB=true:=by
 unfold trimS trimLeftS trimRightS
 rw[dropWhile_nil,List.all_eq_true]
 constructor
 ·intro h b hb
  by_cases hd:l.reverse.dropWhile (signsL.contains ·)=[]
  ·have:=(dropWhile_nil _ _).1 hd b (List.mem_reverse.2 hb)
   rw[signs_sign] at this
   exact this
  ·exfalso
   have h1:=List.head_dropWhile_not (signsL.contains ·) (l:=l.reverse) hd
   have h2:=h ((l.reverse.dropWhile (signsL.contains ·)).head hd) (List.mem_reverse.2 (List.head_mem hd))
   rw[h2] at h1
   cases h1
 ·intro h b hb
  rw[signs_sign]
  refine h b ?_
  have:=List.mem_reverse.1 hb
  exact List.mem_reverse.1 ((List.dropWhile_sublist _).subset this)
theorem trim_any (s c:ByteArray) (w:World) (hs:s.size≤9223372036854775807) (hc:c.data.toList=signsL):
  Calls Tryz.prog 186 #[.string s,.string c] w fun e w'=>e= .returned (.string ⟨(trimS s.data.toList signsL).toArray⟩)∧Below w.heap.size w w':=by
 rw[←hc]
 refine Any.strings_Trim_laid Tryz.lays160 (by kernel_rfl) s c w hs ?_ ?_
 ·have h1:c.data.toList.length=c.size:=by simp
  rw[←h1,hc];decide
 ·rw[hc];exact ascii_of_all (by decide)
theorem str_nil {s:ByteArray}:s.toList=s.data.toList:=ByteArray.toList_eq s
theorem name_any (s:ByteArray) (w:World) (hs:s.size≤9223372036854775807):
  Calls Tryz.prog 152 #[.string s] w fun e w'=>e= .returned (.bool (nameB s))∧Below w.heap.size w w':=by
 obtain⟨ans,ha⟩:∃v,v=nameB s:=⟨_,rfl⟩
 have hv:ans=nameB s:=ha
 rw[←ha]
 have HV:=hid ha
 clear ha hv
 by_cases h0:s.data.toList=[]
 ·obtain rfl:ans=false:=by rw[HV.out];simp[nameB,h0]
  obtain rfl:=bs_nil.1 h0
  go_enter Tryz.func152,Tryz.ntmps152
  go_wp2
  go_ret
  exact⟨rfl,Below.refl _ _⟩
 have t0:s.toList.isEmpty=false:=by
  rw[str_nil]
  cases e:s.data.toList with
  |nil=>exact absurd e h0
  |cons a l=>rfl
 by_cases h1:s.size≤32
 ·have t1:(s.size:Int)≤32:=by omega
  by_cases h2:s.data.toList=[46]
  ·obtain rfl:ans=false:=by rw[HV.out];simp[nameB,h2]
   obtain rfl:s=⟨#[46]⟩:=ByteArray.ext (Array.toList_inj.1 h2)
   go_enter Tryz.func152,Tryz.ntmps152
   go_wp2
   go_ret
   exact⟨rfl,Below.refl _ _⟩
  have t2:(s.toList == [46])=false:=by rw[str_nil];simp[h2]
  by_cases h3:s.data.toList=[46,46]
  ·obtain rfl:ans=false:=by rw[HV.out];simp[nameB,h3]
   obtain rfl:s=⟨#[46,46]⟩:=ByteArray.ext (Array.toList_inj.1 h3)
   go_enter Tryz.func152,Tryz.ntmps152
   go_wp2
   go_ret
   exact⟨rfl,Below.refl _ _⟩
  have t3:(s.toList == [46,46])=false:=by rw[str_nil];simp[h3]
  by_cases h4:s.data.toList.all signB=true
  ·obtain rfl:ans=true:=by rw[HV.out];simp only[nameB,h4];simp[h0,h1,h2,h3]
   have hT:=fun c w hc=>trim_any s c w hs hc
   rw[(trimS_nil _).2 h4] at hT
   have HT:=hid hT
   clear h0 h1 h2 h3 h4 hT
   go_enter Tryz.func152,Tryz.ntmps152
   go_wp2_with fail
   refine(HT.out _ _ (by rfl)).mono ?_
   rintro e w1 ⟨rfl,hB⟩
   go_wp2
   go_ret
   exact⟨rfl,hB⟩
  ·obtain rfl:ans=false:=by rw[HV.out];simp only[nameB,h4];simp
   have hT:=fun c w hc=>trim_any s c w hs hc
   obtain⟨T,hTe⟩:∃T:ByteArray,T=⟨(trimS s.data.toList signsL).toArray⟩:=⟨_,rfl⟩
   have t4:T.toList.isEmpty=false:=by
    rw[str_nil,hTe]
    have:=mt (trimS_nil s.data.toList).1 h4
    simp[this]
   have t5:(T.toList == [])=false:=by
    rw[str_nil,hTe]
    have:=mt (trimS_nil s.data.toList).1 h4
    simp[this]
   rw[←hTe] at hT
   have HT:=hid hT
   clear h0 h1 h2 h3 h4 hT hTe
   go_enter Tryz.func152,Tryz.ntmps152
   go_wp2_with fail
   refine(HT.out _ _ (by rfl)).mono ?_
   rintro e w1 ⟨rfl,hB⟩
   go_wp2
   go_ret
   exact⟨rfl,hB⟩
 ·have t1:¬(s.size:Int)≤32:=by omega
  obtain rfl:ans=false:=by rw[HV.out];simp[nameB,h1]
  go_enter Tryz.func152,Tryz.ntmps152
  go_wp2
  go_ret
  exact⟨rfl,Below.refl _ _⟩
def Tabs (w:World):Prop:=Lib.Utf8Tabs (Tryz.lays196_ren.g 3) (Tryz.lays196_ren.g 4) w
theorem Tabs.below {w w':World} (h:Tabs w) (hb:Below w.heap.size w w'):Tabs w':=Utf8Tabs_below h hb
theorem valid_any (s:ByteArray) (w:World) (hs:s.size≤9223372036854775807) (hT:Tabs w):
  Calls Tryz.prog 188 #[.string s] w fun e w'=>e= .returned (.bool (validD s.data.toList))∧Below w.heap.size w w':=
 Any.utf8_ValidString Tryz.lays196 s w hs hT
theorem count_any (s:ByteArray) (w:World) (hs:s.size<9223372036854775807):
  Calls Tryz.prog 189 #[.string s] w fun e w'=>e= .returned (.int .i64 (runeCount s))∧Below w.heap.size w w':=
 (Any.utf8_RuneCountInString Tryz.lays195 s w hs).mono fun e w' ⟨he,pos,hw⟩=>⟨he,by rw[hw];exact(Below.refl _ _).alloc (Nat.le_refl _) _⟩
theorem len_bad (s:ByteArray) (w:World) (hs:s.size<9223372036854775807) (hT:Tabs w) (h:cnt s.data.toList=none):
  Calls Tryz.prog 155 #[.string s] w fun e w'=>e= .returned (.tuple #[.int .i64 0,.int .i64 60])∧Below w.heap.size w w':=by
 have hv:=valid_any s w (by omega) hT
 rw[cnt_valid,h] at hv
 have HV:=hid hv
 clear hv h hT
 go_enter Tryz.func155,Tryz.ntmps155
 go_wp2_with fail
 refine HV.out.mono ?_
 rintro e w1 ⟨rfl,hB⟩
 go_wp2
 go_ret2
 exact⟨rfl,hB⟩
theorem len_ok (s:ByteArray) (m:Nat) (w:World) (hs:s.size<9223372036854775807) (hT:Tabs w) (h:cnt s.data.toList=some m):
  Calls Tryz.prog 155 #[.string s] w fun e w'=>e= .returned (.tuple #[.int .i64 m,.int .i64 0])∧Below w.heap.size w w':=by
 have hv:=valid_any s w (by omega) hT
 rw[cnt_valid,h] at hv
 have hc:=fun w=>count_any s w hs
 rw[cnt_count h] at hc
 have HV:=hid hv
 have HC:=hid hc
 clear hv hc h hT
 go_enter Tryz.func155,Tryz.ntmps155
 go_wp2_with fail
 refine HV.out.mono ?_
 rintro e w1 ⟨rfl,hB⟩
 go_wp2_with fail
 refine(HC.out _).mono ?_
 rintro e w2 ⟨rfl,hB2⟩
 go_wp2
 go_ret2
 exact⟨rfl,bt hB hB2⟩
end
end Go.Proofs.YtkhmicndehlneaaGreatDoor
